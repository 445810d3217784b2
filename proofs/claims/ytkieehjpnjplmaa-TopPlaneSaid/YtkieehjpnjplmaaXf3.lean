-- Written by a program of this work (wip/xprint.py, over the kit's printer) out of the translation.
import Derived.Test.YtkieehjpnjplmaaX0
import Derived.Test.YtkieehjpnjplmaaXG1a
import Derived.Test.YtkieehjpnjplmaaXG2a
import Derived.Test.YtkieehjpnjplmaaXG4a
import Derived.Test.YtkieehjpnjplmaaXf4
import Derived.Test.YtkieehjpnjplmaaXf5
import Derived.Test.YtkieehjpnjplmaaXf6
import Derived.Test.YtkieehjpnjplmaaXf8
import Derived.Test.YtkieehjpnjplmaaE11
import Derived.Test.YtkieehjpnjplmaaE13
import Derived.Test.YtkieehjpnjplmaaE16
import Derived.Test.YtkieehjpnjplmaaE17
import Derived.Test.YtkieehjpnjplmaaE19
namespace Go.Proofs.Ytkieehjpnjplmaa.X
open Go.RowKit Go.Proofs.YtkieehjpnjplmaaW.PrintWords Go.Proofs.YtkieehjpnjplmaaW.PrintLast Go.Proofs.YtkieehjpnjplmaaW.PrintMore
attribute [local go_sem] max2_int min2_int max_two min_two max_three min_three max_four min_four   -- for this text's walks alone
set_option linter.unusedVariables false
set_option linter.unusedSimpArgs false

/-! ### congoutop_TopPlane: function 3 -/
mutual
def congoutop_TopPlane.j0 : Nat → List Int → Int → List (List Int) → Option (Bool)
 | 0, _, _, _ => none
 | k + 1, x2, x194000, x194001 => (congouref09_Valid.f k x194000 x194001).bind fun t208 => (if t208 = true then (if x194000 = 3 then (if (x194001.length : Int) = 9 then (if 0 < (x194001.length : Int) then (if ((rd_L1 x194001 0).length : Int) = 4 then ((congouref09_Names.f k 9 x2).bind fun t210 => (congoutop_TopPlane.j1 k x2 (!t210) x194000 x194001)) else (congoutop_TopPlane.j1 k x2 true x194000 x194001)) else (none)) else (congoutop_TopPlane.j1 k x2 true x194000 x194001)) else (congoutop_TopPlane.j1 k x2 true x194000 x194001)) else (congoutop_TopPlane.j1 k x2 true x194000 x194001))
def congoutop_TopPlane.j1 : Nat → List Int → Bool → Int → List (List Int) → Option (Bool)
 | 0, _, _, _, _ => none
 | k + 1, x2, x87, x194000, x194001 => if x87 = true then (if (x194001.length : Int) = 9 then ((congoutop_apart.f k).bind fun t211 => (some t211)) else (some false)) else (congoutop_TopPlane.l0 k x2 ([] : List (S39)) 0 x194000 x194001)
def congoutop_TopPlane.l0 : Nat → List Int → List (S39) → Int → Int → List (List Int) → Option (Bool)
 | 0, _, _, _, _, _ => none
 | k + 1, x2, x11, x95, x194000, x194001 => if x95 < 4 then (congoutop_TopPlane.l1 k x2 x11 x95 x95 0 x194000 x194001) else ((slices_Clone_3_int_3_int.f x11).bind fun t225 => ((xSort3.f x11).bind fun t228 => ((slices_Clone_3_int_3_int.f t228).bind fun t229 => ((xIsThrees.f 9 t229).bind fun bt232 => ((slices_Clone_3_int_3_int.f t228).bind fun t234 => ((xSpreads.f 9 t234).bind fun bt237 => (if bt232.1 = true then (if bt232.2 = 0 then (if bt237.2 = 0 then (congoutop_TopPlane.j5 k t228 t225 bt237.1 ((bt237.1.length : Int) != 4)) else (congoutop_TopPlane.j5 k t228 t225 bt237.1 true)) else (congoutop_TopPlane.j5 k t228 t225 bt237.1 true)) else (congoutop_TopPlane.j5 k t228 t225 bt237.1 true))))))))
def congoutop_TopPlane.l1 : Nat → List Int → List (S39) → Int → Int → Int → Int → List (List Int) → Option (Bool)
 | 0, _, _, _, _, _, _, _ => none
 | k + 1, x2, x11, x12, x95, x98, x194000, x194001 => if x98 < 3 then (congoutop_TopPlane.l2 k x2 x11 x12 x98 ([] : List Int) x95 x98 x194001 (x194001.length : Int) 0 x194000 x194001) else (congoutop_TopPlane.l0 k x2 x11 (wrap64 (x95 + 1)) x194000 x194001)
def congoutop_TopPlane.l2 : Nat → List Int → List (S39) → Int → Int → List Int → Int → Int → List (List Int) → Int → Int → Int → List (List Int) → Option (Bool)
 | 0, _, _, _, _, _, _, _, _, _, _, _, _ => none
 | k + 1, x2, x11, x12, x13, x14, x95, x98, x102, x103, x104, x194000, x194001 => if x104 < x103 then (if 0 ≤ x104 then (if x104 < (x102.length : Int) then (if 0 ≤ x12 then (if x12 < ((rd_L1 x102 x104).length : Int) then (if (rd (rd_L1 x102 x104) x12) = x13 then (if x104 < (x2.length : Int) then (if x14.length < 17592186044416 then (congoutop_TopPlane.l2 k x2 x11 x12 x13 (x14 ++ [rd x2 x104]) x95 x98 x102 x103 (wrap64 (x104 + 1)) x194000 x194001) else (none)) else (none)) else (congoutop_TopPlane.l2 k x2 x11 x12 x13 x14 x95 x98 x102 x103 (wrap64 (x104 + 1)) x194000 x194001)) else (none)) else (none)) else (none)) else (none)) else (if (x14.length : Int) = 3 then ((xSort.f x14).bind fun t218 => (if 0 < (x14.length : Int) then (if 1 < (x14.length : Int) then (if 2 < (x14.length : Int) then (if x11.length < 5864062014805 then (congoutop_TopPlane.l1 k x2 (x11 ++ [(⟨rd t218 0, rd t218 1, rd t218 2⟩ : S39)]) x12 x95 (wrap64 (x98 + 1)) x194000 x194001) else (none)) else (none)) else (none)) else (none))) else (some false))
def congoutop_TopPlane.j5 : Nat → List (S39) → List (S39) → List (List Int) → Bool → Option (Bool)
 | 0, _, _, _, _ => none
 | k + 1, x11, x17, x20, x173 => if x173 = true then (some false) else (congoutop_TopPlane.l3 k x11 x17 x20 0)
def congoutop_TopPlane.l3 : Nat → List (S39) → List (S39) → List (List Int) → Int → Option (Bool)
 | 0, _, _, _, _ => none
 | k + 1, x11, x17, x20, x174 => if x174 < 4 then (if 0 ≤ (wrap64 (3 * x174)) then (if (wrap64 (3 * x174)) ≤ (wrap64 ((wrap64 (3 * x174)) + 3)) then (if (wrap64 ((wrap64 (3 * x174)) + 3)) ≤ (x17.length : Int) then ((some ((x17.take ((wrap64 ((wrap64 (3 * x174)) + 3)) : Int).toNat).drop ((wrap64 (3 * x174)) : Int).toNat : List (S39))).bind fun y242 => (congoutop_TopPlane.l4 k x11 x17 x20 ([] : List Int) x174 y242 (y242.length : Int) 0)) else (none)) else (none)) else (none)) else ((congoutop_apart.f k).bind fun t241 => (some t241))
def congoutop_TopPlane.l4 : Nat → List (S39) → List (S39) → List (List Int) → List Int → Int → List (S39) → Int → Int → Option (Bool)
 | 0, _, _, _, _, _, _, _, _ => none
 | k + 1, x11, x17, x20, x23, x174, x183, x184, x185 => if x185 < x184 then (if 0 ≤ x185 then (if x185 < (x183.length : Int) then ((slices_Index_3_int_3_int.f k x11 ((rd_T39 x183 x185).f0) ((rd_T39 x183 x185).f1) ((rd_T39 x183 x185).f2)).bind fun t248 => (if x23.length < 17592186044416 then (congoutop_TopPlane.l4 k x11 x17 x20 (x23 ++ [t248]) x174 x183 x184 (wrap64 (x185 + 1))) else (none))) else (none)) else (none)) else ((xSort.f x23).bind fun t252 => ((xHas.f x20 t252).bind fun t253 => (if t253 = true then (congoutop_TopPlane.l3 k x11 x17 x20 (wrap64 (x174 + 1))) else (some false))))
end
def congoutop_TopPlane.f (k : Nat) (a0 : Int) (l1 : List Int) (l2 : List Int) : Option (Bool) := (arrays_Lines.f k 3).bind fun bt188 => (if bt188.2.2 = 0 then ((congoutop_array.f k bt188.1 bt188.2.1).bind fun bt194 => (if 0 ≤ (mn (l1.length : Int) 6) then (if (mn (l1.length : Int) 6) ≤ (l1.length : Int) then ((slices_Clone_int_int.f (l1.take ((mn (l1.length : Int) 6) : Int).toNat)).bind fun t199 => ((arrays_Rename.f k bt194.1 bt194.2 (wrap64 (Int.tmod (IntKind.u64.wrap (a0)) 4)) t199).bind fun bt202 => (if bt202.2.2 = 0 then (congoutop_TopPlane.j0 k l2 bt202.1 bt202.2.1) else (if bt202.2.2 = 2 then (congoutop_TopPlane.j0 k l2 bt188.1 bt188.2.1) else (some false))))) else (none)) else (none))) else (some false))
theorem congoutop_TopPlane.mono_l : ∀ k, (∀ y0 y1 y2, LeO (congoutop_TopPlane.j0 k y0 y1 y2) (congoutop_TopPlane.j0 (k + 1) y0 y1 y2)) ∧ (∀ y0 y1 y2 y3, LeO (congoutop_TopPlane.j1 k y0 y1 y2 y3) (congoutop_TopPlane.j1 (k + 1) y0 y1 y2 y3)) ∧ (∀ y0 y1 y2 y3 y4, LeO (congoutop_TopPlane.l0 k y0 y1 y2 y3 y4) (congoutop_TopPlane.l0 (k + 1) y0 y1 y2 y3 y4)) ∧ (∀ y0 y1 y2 y3 y4 y5 y6, LeO (congoutop_TopPlane.l1 k y0 y1 y2 y3 y4 y5 y6) (congoutop_TopPlane.l1 (k + 1) y0 y1 y2 y3 y4 y5 y6)) ∧ (∀ y0 y1 y2 y3 y4 y5 y6 y7 y8 y9 y10 y11, LeO (congoutop_TopPlane.l2 k y0 y1 y2 y3 y4 y5 y6 y7 y8 y9 y10 y11) (congoutop_TopPlane.l2 (k + 1) y0 y1 y2 y3 y4 y5 y6 y7 y8 y9 y10 y11)) ∧ (∀ y0 y1 y2 y3, LeO (congoutop_TopPlane.j5 k y0 y1 y2 y3) (congoutop_TopPlane.j5 (k + 1) y0 y1 y2 y3)) ∧ (∀ y0 y1 y2 y3, LeO (congoutop_TopPlane.l3 k y0 y1 y2 y3) (congoutop_TopPlane.l3 (k + 1) y0 y1 y2 y3)) ∧ (∀ y0 y1 y2 y3 y4 y5 y6 y7, LeO (congoutop_TopPlane.l4 k y0 y1 y2 y3 y4 y5 y6 y7) (congoutop_TopPlane.l4 (k + 1) y0 y1 y2 y3 y4 y5 y6 y7))
 | 0 => ⟨fun _ _ _ r h => by simp [congoutop_TopPlane.j0] at h, fun _ _ _ _ r h => by simp [congoutop_TopPlane.j1] at h, fun _ _ _ _ _ r h => by simp [congoutop_TopPlane.l0] at h, fun _ _ _ _ _ _ _ r h => by simp [congoutop_TopPlane.l1] at h, fun _ _ _ _ _ _ _ _ _ _ _ _ r h => by simp [congoutop_TopPlane.l2] at h, fun _ _ _ _ r h => by simp [congoutop_TopPlane.j5] at h, fun _ _ _ _ r h => by simp [congoutop_TopPlane.l3] at h, fun _ _ _ _ _ _ _ _ r h => by simp [congoutop_TopPlane.l4] at h⟩
 | k + 1 => by
  obtain ⟨ih0, ih1, ih2, ih3, ih4, ih5, ih6, ih7⟩ := congoutop_TopPlane.mono_l k
  refine ⟨?_, ?_, ?_, ?_, ?_, ?_, ?_, ?_⟩
  ·intro y0 y1 y2
   unfold congoutop_TopPlane.j0
   repeat' first
   | (with_reducible exact ih0 _ _ _)
   | (with_reducible exact ih1 _ _ _ _)
   | (with_reducible exact ih2 _ _ _ _ _)
   | (with_reducible exact ih3 _ _ _ _ _ _ _)
   | (with_reducible exact ih4 _ _ _ _ _ _ _ _ _ _ _ _)
   | (with_reducible exact ih5 _ _ _ _)
   | (with_reducible exact ih6 _ _ _ _)
   | (with_reducible exact ih7 _ _ _ _ _ _ _ _)
   | (with_reducible exact arrays_Lines.mono _ _)
   | (with_reducible exact arrays_Rename.mono _ _ _ _ _)
   | (with_reducible exact congouref09_Names.mono _ _ _)
   | (with_reducible exact congouref09_Valid.mono _ _ _)
   | (with_reducible exact congoutop_apart.mono _)
   | (with_reducible exact congoutop_array.mono _ _ _)
   | (with_reducible exact slices_Index_3_int_3_int.mono _ _ _ _ _)
   | (with_reducible exact LeO.refl _)
   | (with_reducible exact LeO.none _)
   | (with_reducible refine LeO.ite ?_ ?_)
   | (with_reducible refine LeO.bind ?_ (fun _ => ?_))
   | exact ih0 _ _ _
   | exact ih1 _ _ _ _
   | exact ih2 _ _ _ _ _
   | exact ih3 _ _ _ _ _ _ _
   | exact ih4 _ _ _ _ _ _ _ _ _ _ _ _
   | exact ih5 _ _ _ _
   | exact ih6 _ _ _ _
   | exact ih7 _ _ _ _ _ _ _ _
   | exact arrays_Lines.mono _ _
   | exact arrays_Rename.mono _ _ _ _ _
   | exact congouref09_Names.mono _ _ _
   | exact congouref09_Valid.mono _ _ _
   | exact congoutop_apart.mono _
   | exact congoutop_array.mono _ _ _
   | exact slices_Index_3_int_3_int.mono _ _ _ _ _
   | exact LeO.none _
   | refine LeO.ite ?_ ?_
   | refine LeO.bind ?_ (fun _ => ?_)
  ·intro y0 y1 y2 y3
   unfold congoutop_TopPlane.j1
   repeat' first
   | (with_reducible exact ih0 _ _ _)
   | (with_reducible exact ih1 _ _ _ _)
   | (with_reducible exact ih2 _ _ _ _ _)
   | (with_reducible exact ih3 _ _ _ _ _ _ _)
   | (with_reducible exact ih4 _ _ _ _ _ _ _ _ _ _ _ _)
   | (with_reducible exact ih5 _ _ _ _)
   | (with_reducible exact ih6 _ _ _ _)
   | (with_reducible exact ih7 _ _ _ _ _ _ _ _)
   | (with_reducible exact arrays_Lines.mono _ _)
   | (with_reducible exact arrays_Rename.mono _ _ _ _ _)
   | (with_reducible exact congouref09_Names.mono _ _ _)
   | (with_reducible exact congouref09_Valid.mono _ _ _)
   | (with_reducible exact congoutop_apart.mono _)
   | (with_reducible exact congoutop_array.mono _ _ _)
   | (with_reducible exact slices_Index_3_int_3_int.mono _ _ _ _ _)
   | (with_reducible exact LeO.refl _)
   | (with_reducible exact LeO.none _)
   | (with_reducible refine LeO.ite ?_ ?_)
   | (with_reducible refine LeO.bind ?_ (fun _ => ?_))
   | exact ih0 _ _ _
   | exact ih1 _ _ _ _
   | exact ih2 _ _ _ _ _
   | exact ih3 _ _ _ _ _ _ _
   | exact ih4 _ _ _ _ _ _ _ _ _ _ _ _
   | exact ih5 _ _ _ _
   | exact ih6 _ _ _ _
   | exact ih7 _ _ _ _ _ _ _ _
   | exact arrays_Lines.mono _ _
   | exact arrays_Rename.mono _ _ _ _ _
   | exact congouref09_Names.mono _ _ _
   | exact congouref09_Valid.mono _ _ _
   | exact congoutop_apart.mono _
   | exact congoutop_array.mono _ _ _
   | exact slices_Index_3_int_3_int.mono _ _ _ _ _
   | exact LeO.none _
   | refine LeO.ite ?_ ?_
   | refine LeO.bind ?_ (fun _ => ?_)
  ·intro y0 y1 y2 y3 y4
   unfold congoutop_TopPlane.l0
   repeat' first
   | (with_reducible exact ih0 _ _ _)
   | (with_reducible exact ih1 _ _ _ _)
   | (with_reducible exact ih2 _ _ _ _ _)
   | (with_reducible exact ih3 _ _ _ _ _ _ _)
   | (with_reducible exact ih4 _ _ _ _ _ _ _ _ _ _ _ _)
   | (with_reducible exact ih5 _ _ _ _)
   | (with_reducible exact ih6 _ _ _ _)
   | (with_reducible exact ih7 _ _ _ _ _ _ _ _)
   | (with_reducible exact arrays_Lines.mono _ _)
   | (with_reducible exact arrays_Rename.mono _ _ _ _ _)
   | (with_reducible exact congouref09_Names.mono _ _ _)
   | (with_reducible exact congouref09_Valid.mono _ _ _)
   | (with_reducible exact congoutop_apart.mono _)
   | (with_reducible exact congoutop_array.mono _ _ _)
   | (with_reducible exact slices_Index_3_int_3_int.mono _ _ _ _ _)
   | (with_reducible exact LeO.refl _)
   | (with_reducible exact LeO.none _)
   | (with_reducible refine LeO.ite ?_ ?_)
   | (with_reducible refine LeO.bind ?_ (fun _ => ?_))
   | exact ih0 _ _ _
   | exact ih1 _ _ _ _
   | exact ih2 _ _ _ _ _
   | exact ih3 _ _ _ _ _ _ _
   | exact ih4 _ _ _ _ _ _ _ _ _ _ _ _
   | exact ih5 _ _ _ _
   | exact ih6 _ _ _ _
   | exact ih7 _ _ _ _ _ _ _ _
   | exact arrays_Lines.mono _ _
   | exact arrays_Rename.mono _ _ _ _ _
   | exact congouref09_Names.mono _ _ _
   | exact congouref09_Valid.mono _ _ _
   | exact congoutop_apart.mono _
   | exact congoutop_array.mono _ _ _
   | exact slices_Index_3_int_3_int.mono _ _ _ _ _
   | exact LeO.none _
   | refine LeO.ite ?_ ?_
   | refine LeO.bind ?_ (fun _ => ?_)
  ·intro y0 y1 y2 y3 y4 y5 y6
   unfold congoutop_TopPlane.l1
   repeat' first
   | (with_reducible exact ih0 _ _ _)
   | (with_reducible exact ih1 _ _ _ _)
   | (with_reducible exact ih2 _ _ _ _ _)
   | (with_reducible exact ih3 _ _ _ _ _ _ _)
   | (with_reducible exact ih4 _ _ _ _ _ _ _ _ _ _ _ _)
   | (with_reducible exact ih5 _ _ _ _)
   | (with_reducible exact ih6 _ _ _ _)
   | (with_reducible exact ih7 _ _ _ _ _ _ _ _)
   | (with_reducible exact arrays_Lines.mono _ _)
   | (with_reducible exact arrays_Rename.mono _ _ _ _ _)
   | (with_reducible exact congouref09_Names.mono _ _ _)
   | (with_reducible exact congouref09_Valid.mono _ _ _)
   | (with_reducible exact congoutop_apart.mono _)
   | (with_reducible exact congoutop_array.mono _ _ _)
   | (with_reducible exact slices_Index_3_int_3_int.mono _ _ _ _ _)
   | (with_reducible exact LeO.refl _)
   | (with_reducible exact LeO.none _)
   | (with_reducible refine LeO.ite ?_ ?_)
   | (with_reducible refine LeO.bind ?_ (fun _ => ?_))
   | exact ih0 _ _ _
   | exact ih1 _ _ _ _
   | exact ih2 _ _ _ _ _
   | exact ih3 _ _ _ _ _ _ _
   | exact ih4 _ _ _ _ _ _ _ _ _ _ _ _
   | exact ih5 _ _ _ _
   | exact ih6 _ _ _ _
   | exact ih7 _ _ _ _ _ _ _ _
   | exact arrays_Lines.mono _ _
   | exact arrays_Rename.mono _ _ _ _ _
   | exact congouref09_Names.mono _ _ _
   | exact congouref09_Valid.mono _ _ _
   | exact congoutop_apart.mono _
   | exact congoutop_array.mono _ _ _
   | exact slices_Index_3_int_3_int.mono _ _ _ _ _
   | exact LeO.none _
   | refine LeO.ite ?_ ?_
   | refine LeO.bind ?_ (fun _ => ?_)
  ·intro y0 y1 y2 y3 y4 y5 y6 y7 y8 y9 y10 y11
   unfold congoutop_TopPlane.l2
   repeat' first
   | (with_reducible exact ih0 _ _ _)
   | (with_reducible exact ih1 _ _ _ _)
   | (with_reducible exact ih2 _ _ _ _ _)
   | (with_reducible exact ih3 _ _ _ _ _ _ _)
   | (with_reducible exact ih4 _ _ _ _ _ _ _ _ _ _ _ _)
   | (with_reducible exact ih5 _ _ _ _)
   | (with_reducible exact ih6 _ _ _ _)
   | (with_reducible exact ih7 _ _ _ _ _ _ _ _)
   | (with_reducible exact arrays_Lines.mono _ _)
   | (with_reducible exact arrays_Rename.mono _ _ _ _ _)
   | (with_reducible exact congouref09_Names.mono _ _ _)
   | (with_reducible exact congouref09_Valid.mono _ _ _)
   | (with_reducible exact congoutop_apart.mono _)
   | (with_reducible exact congoutop_array.mono _ _ _)
   | (with_reducible exact slices_Index_3_int_3_int.mono _ _ _ _ _)
   | (with_reducible exact LeO.refl _)
   | (with_reducible exact LeO.none _)
   | (with_reducible refine LeO.ite ?_ ?_)
   | (with_reducible refine LeO.bind ?_ (fun _ => ?_))
   | exact ih0 _ _ _
   | exact ih1 _ _ _ _
   | exact ih2 _ _ _ _ _
   | exact ih3 _ _ _ _ _ _ _
   | exact ih4 _ _ _ _ _ _ _ _ _ _ _ _
   | exact ih5 _ _ _ _
   | exact ih6 _ _ _ _
   | exact ih7 _ _ _ _ _ _ _ _
   | exact arrays_Lines.mono _ _
   | exact arrays_Rename.mono _ _ _ _ _
   | exact congouref09_Names.mono _ _ _
   | exact congouref09_Valid.mono _ _ _
   | exact congoutop_apart.mono _
   | exact congoutop_array.mono _ _ _
   | exact slices_Index_3_int_3_int.mono _ _ _ _ _
   | exact LeO.none _
   | refine LeO.ite ?_ ?_
   | refine LeO.bind ?_ (fun _ => ?_)
  ·intro y0 y1 y2 y3
   unfold congoutop_TopPlane.j5
   repeat' first
   | (with_reducible exact ih0 _ _ _)
   | (with_reducible exact ih1 _ _ _ _)
   | (with_reducible exact ih2 _ _ _ _ _)
   | (with_reducible exact ih3 _ _ _ _ _ _ _)
   | (with_reducible exact ih4 _ _ _ _ _ _ _ _ _ _ _ _)
   | (with_reducible exact ih5 _ _ _ _)
   | (with_reducible exact ih6 _ _ _ _)
   | (with_reducible exact ih7 _ _ _ _ _ _ _ _)
   | (with_reducible exact arrays_Lines.mono _ _)
   | (with_reducible exact arrays_Rename.mono _ _ _ _ _)
   | (with_reducible exact congouref09_Names.mono _ _ _)
   | (with_reducible exact congouref09_Valid.mono _ _ _)
   | (with_reducible exact congoutop_apart.mono _)
   | (with_reducible exact congoutop_array.mono _ _ _)
   | (with_reducible exact slices_Index_3_int_3_int.mono _ _ _ _ _)
   | (with_reducible exact LeO.refl _)
   | (with_reducible exact LeO.none _)
   | (with_reducible refine LeO.ite ?_ ?_)
   | (with_reducible refine LeO.bind ?_ (fun _ => ?_))
   | exact ih0 _ _ _
   | exact ih1 _ _ _ _
   | exact ih2 _ _ _ _ _
   | exact ih3 _ _ _ _ _ _ _
   | exact ih4 _ _ _ _ _ _ _ _ _ _ _ _
   | exact ih5 _ _ _ _
   | exact ih6 _ _ _ _
   | exact ih7 _ _ _ _ _ _ _ _
   | exact arrays_Lines.mono _ _
   | exact arrays_Rename.mono _ _ _ _ _
   | exact congouref09_Names.mono _ _ _
   | exact congouref09_Valid.mono _ _ _
   | exact congoutop_apart.mono _
   | exact congoutop_array.mono _ _ _
   | exact slices_Index_3_int_3_int.mono _ _ _ _ _
   | exact LeO.none _
   | refine LeO.ite ?_ ?_
   | refine LeO.bind ?_ (fun _ => ?_)
  ·intro y0 y1 y2 y3
   unfold congoutop_TopPlane.l3
   repeat' first
   | (with_reducible exact ih0 _ _ _)
   | (with_reducible exact ih1 _ _ _ _)
   | (with_reducible exact ih2 _ _ _ _ _)
   | (with_reducible exact ih3 _ _ _ _ _ _ _)
   | (with_reducible exact ih4 _ _ _ _ _ _ _ _ _ _ _ _)
   | (with_reducible exact ih5 _ _ _ _)
   | (with_reducible exact ih6 _ _ _ _)
   | (with_reducible exact ih7 _ _ _ _ _ _ _ _)
   | (with_reducible exact arrays_Lines.mono _ _)
   | (with_reducible exact arrays_Rename.mono _ _ _ _ _)
   | (with_reducible exact congouref09_Names.mono _ _ _)
   | (with_reducible exact congouref09_Valid.mono _ _ _)
   | (with_reducible exact congoutop_apart.mono _)
   | (with_reducible exact congoutop_array.mono _ _ _)
   | (with_reducible exact slices_Index_3_int_3_int.mono _ _ _ _ _)
   | (with_reducible exact LeO.refl _)
   | (with_reducible exact LeO.none _)
   | (with_reducible refine LeO.ite ?_ ?_)
   | (with_reducible refine LeO.bind ?_ (fun _ => ?_))
   | exact ih0 _ _ _
   | exact ih1 _ _ _ _
   | exact ih2 _ _ _ _ _
   | exact ih3 _ _ _ _ _ _ _
   | exact ih4 _ _ _ _ _ _ _ _ _ _ _ _
   | exact ih5 _ _ _ _
   | exact ih6 _ _ _ _
   | exact ih7 _ _ _ _ _ _ _ _
   | exact arrays_Lines.mono _ _
   | exact arrays_Rename.mono _ _ _ _ _
   | exact congouref09_Names.mono _ _ _
   | exact congouref09_Valid.mono _ _ _
   | exact congoutop_apart.mono _
   | exact congoutop_array.mono _ _ _
   | exact slices_Index_3_int_3_int.mono _ _ _ _ _
   | exact LeO.none _
   | refine LeO.ite ?_ ?_
   | refine LeO.bind ?_ (fun _ => ?_)
  ·intro y0 y1 y2 y3 y4 y5 y6 y7
   unfold congoutop_TopPlane.l4
   repeat' first
   | (with_reducible exact ih0 _ _ _)
   | (with_reducible exact ih1 _ _ _ _)
   | (with_reducible exact ih2 _ _ _ _ _)
   | (with_reducible exact ih3 _ _ _ _ _ _ _)
   | (with_reducible exact ih4 _ _ _ _ _ _ _ _ _ _ _ _)
   | (with_reducible exact ih5 _ _ _ _)
   | (with_reducible exact ih6 _ _ _ _)
   | (with_reducible exact ih7 _ _ _ _ _ _ _ _)
   | (with_reducible exact arrays_Lines.mono _ _)
   | (with_reducible exact arrays_Rename.mono _ _ _ _ _)
   | (with_reducible exact congouref09_Names.mono _ _ _)
   | (with_reducible exact congouref09_Valid.mono _ _ _)
   | (with_reducible exact congoutop_apart.mono _)
   | (with_reducible exact congoutop_array.mono _ _ _)
   | (with_reducible exact slices_Index_3_int_3_int.mono _ _ _ _ _)
   | (with_reducible exact LeO.refl _)
   | (with_reducible exact LeO.none _)
   | (with_reducible refine LeO.ite ?_ ?_)
   | (with_reducible refine LeO.bind ?_ (fun _ => ?_))
   | exact ih0 _ _ _
   | exact ih1 _ _ _ _
   | exact ih2 _ _ _ _ _
   | exact ih3 _ _ _ _ _ _ _
   | exact ih4 _ _ _ _ _ _ _ _ _ _ _ _
   | exact ih5 _ _ _ _
   | exact ih6 _ _ _ _
   | exact ih7 _ _ _ _ _ _ _ _
   | exact arrays_Lines.mono _ _
   | exact arrays_Rename.mono _ _ _ _ _
   | exact congouref09_Names.mono _ _ _
   | exact congouref09_Valid.mono _ _ _
   | exact congoutop_apart.mono _
   | exact congoutop_array.mono _ _ _
   | exact slices_Index_3_int_3_int.mono _ _ _ _ _
   | exact LeO.none _
   | refine LeO.ite ?_ ?_
   | refine LeO.bind ?_ (fun _ => ?_)
theorem congoutop_TopPlane.mono : ∀ a0 a1 a2 k, LeO (congoutop_TopPlane.f k a0 a1 a2) (congoutop_TopPlane.f (k + 1) a0 a1 a2) := by
 intro a0 a1 a2 k
 obtain ⟨ih0, ih1, ih2, ih3, ih4, ih5, ih6, ih7⟩ := congoutop_TopPlane.mono_l k
 unfold congoutop_TopPlane.f
 repeat' first
   | (with_reducible exact ih0 _ _ _)
   | (with_reducible exact ih1 _ _ _ _)
   | (with_reducible exact ih2 _ _ _ _ _)
   | (with_reducible exact ih3 _ _ _ _ _ _ _)
   | (with_reducible exact ih4 _ _ _ _ _ _ _ _ _ _ _ _)
   | (with_reducible exact ih5 _ _ _ _)
   | (with_reducible exact ih6 _ _ _ _)
   | (with_reducible exact ih7 _ _ _ _ _ _ _ _)
   | (with_reducible exact arrays_Lines.mono _ _)
   | (with_reducible exact arrays_Rename.mono _ _ _ _ _)
   | (with_reducible exact congouref09_Names.mono _ _ _)
   | (with_reducible exact congouref09_Valid.mono _ _ _)
   | (with_reducible exact congoutop_apart.mono _)
   | (with_reducible exact congoutop_array.mono _ _ _)
   | (with_reducible exact slices_Index_3_int_3_int.mono _ _ _ _ _)
   | (with_reducible exact LeO.refl _)
   | (with_reducible exact LeO.none _)
   | (with_reducible refine LeO.ite ?_ ?_)
   | (with_reducible refine LeO.bind ?_ (fun _ => ?_))
   | exact ih0 _ _ _
   | exact ih1 _ _ _ _
   | exact ih2 _ _ _ _ _
   | exact ih3 _ _ _ _ _ _ _
   | exact ih4 _ _ _ _ _ _ _ _ _ _ _ _
   | exact ih5 _ _ _ _
   | exact ih6 _ _ _ _
   | exact ih7 _ _ _ _ _ _ _ _
   | exact arrays_Lines.mono _ _
   | exact arrays_Rename.mono _ _ _ _ _
   | exact congouref09_Names.mono _ _ _
   | exact congouref09_Valid.mono _ _ _
   | exact congoutop_apart.mono _
   | exact congoutop_array.mono _ _ _
   | exact slices_Index_3_int_3_int.mono _ _ _ _ _
   | exact LeO.none _
   | refine LeO.ite ?_ ?_
   | refine LeO.bind ?_ (fun _ => ?_)
def congoutop_TopPlane.T4 : Bool × List (List Nat × List Nat) := (true, [([], []), ([0], [0]), ([], []), ([2], [2]), ([1, 3], [1, 3]), ([4], [4]), ([], []), ([6], [6]), ([7], [7]), ([8], [8]), ([], []), ([], []), ([11], [11]), ([12], [12]), ([10, 13], [10, 13]), ([14, 5], [14]), ([5, 9, 15, 15], [5, 9, 15]), ([16], [16]), ([17], [17]), ([17], [17]), ([], []), ([20, 18, 16, 0, 1, 2, 3, 4, 5, 6, 7, 8, 9, 10, 11, 12, 13, 14, 15, 16, 17, 18, 20], [18, 20]), ([19, 21, 0, 1, 2, 3, 4, 5, 6, 7, 8, 9, 10, 11, 12, 13, 14, 15, 16, 17, 18, 19, 20, 21], [19])])
def congoutop_TopPlane.B4 : List Nat := [0, 1, 0, 4, 15, 31, 0, 64, 192, 448, 0, 0, 2048, 6144, 15360, 31807, 65535, 131071, 262143, 262143, 0, 1572863, 4194303]
theorem congoutop_TopPlane.tab4 : rtab .any (opsOf Try.f3 4) = congoutop_TopPlane.T4 := by kernel_rfl
theorem congoutop_TopPlane.bits4 : waitsOk congoutop_TopPlane.T4.2 congoutop_TopPlane.B4 = true := by kernel_rfl
def congoutop_TopPlane.T28 : Bool × List (List Nat × List Nat) := (true, [([], []), ([], []), ([1], [1]), ([2], [2]), ([], []), ([4], [4]), ([5], [5]), ([], []), ([7], [7]), ([8], [8]), ([3, 6, 9], [3, 6, 9]), ([10], [10]), ([0, 11], [0, 11]), ([12, 12, 0, 1, 2, 3, 4, 5, 6, 7, 8, 9, 10, 11, 12], [0, 12])])
def congoutop_TopPlane.B28 : List Nat := [0, 0, 2, 6, 0, 16, 48, 0, 128, 384, 1022, 2046, 4095, 8191]
theorem congoutop_TopPlane.tab28 : rtab .any (opsOf Try.f3 28) = congoutop_TopPlane.T28 := by kernel_rfl
theorem congoutop_TopPlane.bits28 : waitsOk congoutop_TopPlane.T28.2 congoutop_TopPlane.B28 = true := by kernel_rfl
theorem cell_len {w : World} {B : Addr} {A : Option Addr} {n m c : Nat} (h : w.cell? B = some (.slice A n c)) (e : n = m) : w.cell? B = some (.slice A m c) := by rw [← e]; exact h
theorem C_len {α : Type} {d : Kd α} {w : World} {A : Option Addr} {n : Nat} {xs : List α} (h : d.C w A n xs) (e : n = xs.length) : d.C w A xs.length xs := by subst e; exact h
theorem R_len {w : World} {base : Nat} {ok : Nat → Prop} {A : Option Addr} {n c : Nat} {xs : List Int} (h : Kd.R (Kd.int .i64) 3 w base ok (.slice A n c) xs) : n = xs.length := (Kd.R_reads' h).1
def Y3.T44 : Bool × List (List Nat × List Nat) := (true,  [([], []), ([], []), ([], []), ([1, 2], [1, 2]), ([3], [3]), ([0, 4, 3], [0, 4]), ([5, 5, 0, 1, 2, 3, 4, 5], [5])])
def Y3.B44 : List Nat := [0, 0, 0, 6, 14, 31, 63]
theorem Y3.tab44 : rtab .any (opsOf Try.f3 44) = Y3.T44 := by kernel_rfl
theorem Y3.bits44 : waitsOk Y3.T44.2 Y3.B44 = true := by kernel_rfl
set_option maxHeartbeats 8000000 in
set_option maxRecDepth 100000 in
theorem congoutop_TopPlane.calls (k : Nat) (a0 : Int) (A1 : Option Addr) (c1 : Nat) (l1 : List Int) (A2 : Option Addr) (c2 : Nat) (l2 : List Int) (r : Bool) (w : World) (hr1 : Kd.C (Kd.int .i64) w A1 l1.length l1) (hc1 : l1.length ≤ c1) (hr2 : Kd.C (Kd.int .i64) w A2 l2.length l2) (hc2 : l2.length ≤ c2) (hrt : r = true) (h : congoutop_TopPlane.f k a0 l1 l2 = some r) :
  Calls Try.prog 3 #[.int .i64 a0, .slice A1 l1.length c1, .slice A2 l2.length c2] w fun e w' => e = .returned (.bool r) ∧ Below w.heap.size w w' := by
 have hu25 := Try.underlying25
 have hu31 := Try.underlying31
 have hu39 := Try.underlying39
 have HR1 := Aside0.mk hr1
 have HC1 := Aside0.mk hc1
 clear hr1 hc1
 have HR2 := Aside0.mk hr2
 have HC2 := Aside0.mk hc2
 clear hr2 hc2
 have HB := ak (Below.refl w.heap.size w)
 have H : ((arrays_Lines.f k 3).bind fun bt188 => (if bt188.2.2 = 0 then ((congoutop_array.f k bt188.1 bt188.2.1).bind fun bt194 => (if 0 ≤ (mn (l1.length : Int) 6) then (if (mn (l1.length : Int) 6) ≤ (l1.length : Int) then ((slices_Clone_int_int.f (l1.take ((mn (l1.length : Int) 6) : Int).toNat)).bind fun t199 => ((arrays_Rename.f k bt194.1 bt194.2 (wrap64 (Int.tmod (IntKind.u64.wrap (a0)) 4)) t199).bind fun bt202 => (if bt202.2.2 = 0 then (congoutop_TopPlane.j0 k l2 bt202.1 bt202.2.1) else (if bt202.2.2 = 2 then (congoutop_TopPlane.j0 k l2 bt188.1 bt188.2.1) else (some false))))) else (none)) else (none))) else (some false))) = some r := h
 clear h
 have HRT := Aside0.mk hrt
 clear hrt
 replace H := Option.bind_eq_some_iff.mp H
 obtain ⟨⟨t188, t189, t192⟩, A40, H⟩ := H
 replace H : (if t192 = 0 then ((congoutop_array.f k t188 t189).bind fun bt194 => (if 0 ≤ (mn (l1.length : Int) 6) then (if (mn (l1.length : Int) 6) ≤ (l1.length : Int) then ((slices_Clone_int_int.f (l1.take ((mn (l1.length : Int) 6) : Int).toNat)).bind fun t199 => ((arrays_Rename.f k bt194.1 bt194.2 (wrap64 (Int.tmod (IntKind.u64.wrap (a0)) 4)) t199).bind fun bt202 => (if bt202.2.2 = 0 then (congoutop_TopPlane.j0 k l2 bt202.1 bt202.2.1) else (if bt202.2.2 = 2 then (congoutop_TopPlane.j0 k l2 t188 t189) else (some false))))) else (none)) else (none))) else (some false)) = some r := H
 have A4 := Aside0.mk A40
 clear A40
 by_cases c5 : t192 = 0
 rotate_left
 ·rw [if_neg c5] at H
  have c5b0 : (t192 == 0) = false := beq_eq_false_iff_ne.mpr c5
  have c5b1 : (t192 != 0) = true := bne_iff_ne.mpr c5
  exact absurd (H.trans (congrArg some HRT.out)) (by simp)
 rw [if_pos c5] at H
 have c5b0 : (t192 == 0) = true := beq_iff_eq.mpr c5
 have c5b1 : (t192 != 0) = false := bne_eq_false_iff_eq.mpr c5
 clear c5
 replace H := Option.bind_eq_some_iff.mp H
 obtain ⟨⟨t194, t195⟩, A60, H⟩ := H
 replace H : (if 0 ≤ (mn (l1.length : Int) 6) then (if (mn (l1.length : Int) 6) ≤ (l1.length : Int) then ((slices_Clone_int_int.f (l1.take ((mn (l1.length : Int) 6) : Int).toNat)).bind fun t199 => ((arrays_Rename.f k t194 t195 (wrap64 (Int.tmod (IntKind.u64.wrap (a0)) 4)) t199).bind fun bt202 => (if bt202.2.2 = 0 then (congoutop_TopPlane.j0 k l2 bt202.1 bt202.2.1) else (if bt202.2.2 = 2 then (congoutop_TopPlane.j0 k l2 t188 t189) else (some false))))) else (none)) else (none)) = some r := H
 have A6 := Aside0.mk A60
 clear A60
 obtain ⟨ji7, hji7⟩ : ∃ j_ : Int, (mn (l1.length : Int) 6) = j_ := ⟨_, rfl⟩
 replace H : (if 0 ≤ (ji7) then (if (ji7) ≤ (l1.length : Int) then ((slices_Clone_int_int.f (l1.take ((ji7) : Int).toNat)).bind fun t199 => ((arrays_Rename.f k t194 t195 (wrap64 (Int.tmod (IntKind.u64.wrap (a0)) 4)) t199).bind fun bt202 => (if bt202.2.2 = 0 then (congoutop_TopPlane.j0 k l2 bt202.1 bt202.2.1) else (if bt202.2.2 = 2 then (congoutop_TopPlane.j0 k l2 t188 t189) else (some false))))) else (none)) else (none)) = some r := by first | (rw [hji7] at H; exact H) | (simp only [hji7] at H ⊢; exact H)
 (try rw [hji7] at A4)
 (try rw [hji7] at A6)
 (try (have hji7h : ji7 ≤ 6 := by (rw [← hji7]; unfold mn; (repeat' split) <;> omega)))
 (try (have hji7g : ji7 ≤ 64 := by omega))
 (try (have hji7l : 0 ≤ ji7 := by (rw [← hji7]; unfold mn; (repeat' split) <;> omega)))
 (try (have hji7m : 0 ≤ ji7 := by omega))
 have hji7_ : (if 6 < (l1.length : Int) then 6 else (l1.length : Int)) = ji7 := hji7
 by_cases c8 : 0 ≤ (ji7)
 rotate_left
 ·rw [if_neg c8] at H
  exact absurd H (by simp)
 rw [if_pos c8] at H
 have c8b0 := eq_true c8
 have c8b1 : decide (0 ≤ (ji7)) = true := decide_eq_true c8
 clear c8
 by_cases c9 : (ji7) ≤ (l1.length : Int)
 rotate_left
 ·rw [if_neg c9] at H
  exact absurd H (by simp)
 rw [if_pos c9] at H
 have c9b0 := eq_true c9
 have c9b1 : decide ((ji7) ≤ (l1.length : Int)) = true := decide_eq_true c9
 clear c9
 replace H := Option.bind_eq_some_iff.mp H
 obtain ⟨t199, A100, H⟩ := H
 replace H : ((arrays_Rename.f k t194 t195 (wrap64 (Int.tmod (IntKind.u64.wrap (a0)) 4)) t199).bind fun bt202 => (if bt202.2.2 = 0 then (congoutop_TopPlane.j0 k l2 bt202.1 bt202.2.1) else (if bt202.2.2 = 2 then (congoutop_TopPlane.j0 k l2 t188 t189) else (some false)))) = some r := H
 have A10 := Aside0.mk A100
 clear A100
 replace H := Option.bind_eq_some_iff.mp H
 obtain ⟨⟨t202, t203, t206⟩, A110, H⟩ := H
 replace H : (if t206 = 0 then (congoutop_TopPlane.j0 k l2 t202 t203) else (if t206 = 2 then (congoutop_TopPlane.j0 k l2 t188 t189) else (some false))) = some r := H
 have A11 := Aside0.mk A110
 clear A110
 have HC12 := Aside0.mk H
 clear H
 go_enter Try.func3, Try.ntmps3
 try go_wp2_with (first | ((with_reducible refine gate_callee (f := 4) rfl ?_); refine gL 27 Try.func4 #[.int .i64 3] ?_; (with_reducible refine (arrays_Lines.calls k 3 t188 t189 t192 _ A4.out).mono ?_); rintro e w13 ⟨v190, rfl, ho0, hb⟩; refine ⟨_, rfl, ?_⟩; have HO191 := ak (Kd.S_lower ho0 (below_size (hbC _))); replace HB := kH _ hb; (try clear hb); (try clear hb2); (try clear hk); (try clear hi); (try clear ho0)) | ((with_reducible refine gate_dst (N := 7) rfl ?_); (try (refine gate_guard (by rfl) ?_; dsimp only)); refine bE 7 #[.int .i64 0, .slice none 0 0] 25 ?_; intro gb193 hg w14 hbox hb; replace HO191 := ak (Kd.S_below (by (with_reducible repeat (first | apply Kd.S_alloc | apply Kd.S_drewN | apply Kd.S_drew)); exact HO191.out) hb); have BK193 := ak (hbox); have GW193 := kG w hg; have GE193 := kG w hg; replace HB := kH _ hb; clear hb hbox hg; have hcz15_0 : w14.cell? ⟨gb193, 0, none⟩ = some (.int .i64 0) := bc BK193 0; have hcz15_1 : w14.cell? ⟨gb193, 1, none⟩ = some (.slice none 0 0) := bc BK193 1; have hfz15_0 := fz BK193 0; have hfz15_1 := fz BK193 1; obtain ⟨Ao16, co16, eo16⟩ := Kd.S_slice HO191.out; subst eo16))
 have n0_ : Aside0 (Kd.S (Kd.slice 3 (Kd.int .i64)) 22 ((w14.setCell ⟨gb193, 0, none⟩ (.int .i64 t188)).setCell ⟨gb193, 1, none⟩ (.slice Ao16 t189.length co16)) w.heap.size (fun _ => True) (.slice Ao16 t189.length co16) t189) := ⟨by (with_reducible repeat (first | apply Kd.S_alloc | apply Kd.S_drewN | apply Kd.S_drew)); exact Kd.S_mono (Kd.S_far (p := ⟨gb193, 1, none⟩) (Kd.S_far (p := ⟨gb193, 0, none⟩) (Kd.S_types HO191.out BK193.out (by decide)) (fun _ hk => hk.2) (.int .i64 t188)) (fun _ hk => hk.2) (.slice Ao16 t189.length co16)) (fun _ hk => trivial)⟩
 have n1_ : Aside0 (((w14.setCell ⟨gb193, 0, none⟩ (.int .i64 t188)).setCell ⟨gb193, 1, none⟩ (.slice Ao16 t189.length co16)).heap[gb193]? = some (.cells #[.int .i64 t188, .slice Ao16 t189.length co16] 25 (0, 0))) := ⟨by (with_reducible repeat (first | refine blk_drewN ?_ _ | refine blk_drew ?_ | refine blk_alloc ?_ _)); refine blk_put (cs := #[.int .i64 t188, .slice none 0 0]) ?_ 1 _ rfl; (with_reducible repeat (first | refine blk_drewN ?_ _ | refine blk_drew ?_ | refine blk_alloc ?_ _)); refine blk_put (cs := #[.int .i64 0, .slice none 0 0]) ?_ 0 _ rfl; (with_reducible repeat (first | refine blk_drewN ?_ _ | refine blk_drew ?_ | refine blk_alloc ?_ _)); exact BK193.out⟩
 have n2_ : Aside0 (Below w.heap.size w ((w14.setCell ⟨gb193, 0, none⟩ (.int .i64 t188)).setCell ⟨gb193, 1, none⟩ (.slice Ao16 t189.length co16))) := ⟨hbC _⟩
 (try clear HO191)
 (try clear BK193)
 (try clear HB)
 generalize ((w14.setCell ⟨gb193, 0, none⟩ (.int .i64 t188)).setCell ⟨gb193, 1, none⟩ (.slice Ao16 t189.length co16)) = w17 at n0_ n1_ n2_ ⊢
 have HO191 := n0_
 have BK193 := n1_
 have HB := n2_
 clear n0_ n1_ n2_
 replace HO191 := ak (Kd.S_drew HO191.out)
 replace BK193 := kd BK193
 replace HB := ak (below_drew1 HB.out)
 obtain ⟨i019, hi019, _, hsz19, _⟩ := info_parts info3
 obtain ⟨hcut19, hA19, hC19⟩ := print_take_of (P := Try.prog) (Value.int .i64) 0 22 3 .i64 Try.underlying22 hi019 hsz19 A1 c1 l1 (ji7) (dA) (dA) HC1.out
 have HR198 := ak (Kd.C_of_reads (h1 := fun _ => rfl) (hA19 _ (Kd.reads_of_C HR1.out)))
 have HC198 := Aside0.mk hC19
 clear hA19 hC19 hi019 hsz19
 refine sS (n := 23) (S := fun w' => w'.cell? ⟨gb193, 0, none⟩ = some (.int .i64 t188) ∧ w'.cell? ⟨gb193, 1, none⟩ = some (.slice Ao16 t189.length co16)) (ds := []) ⟨bc BK193 0, bc BK193 1⟩ (fun hHeld => ?_); refine with_tabW congoutop_TopPlane.tab4 congoutop_TopPlane.bits4 (fun HT_ HW_ => ?_)
 generalize w17.drew = w18 at HO191 BK193 HB HR198 hHeld ⊢
 refine pS 0 33 23 1 ?_
 refine pS 2 35 23 5 ?_
 refine pS 6 39 23 69 ?_
 refine pS 7 40 23 197 ?_
 refine pS 8 41 23 453 ?_
 refine pS 9 42 23 965 ?_
 refine pS 10 43 23 1989 ?_
 refine pS 11 44 23 4037 ?_
 refine pS 12 45 23 8133 ?_
 refine pS 13 46 23 16325 ?_
 refine pS 14 47 23 32709 ?_
 refine tS 1 34 23 32711 ?_
 refine tS 3 36 23 32719 ?_
 refine pS 4 37 23 32735 ?_
 refine join_ (σ := Value × Value × Value × Nat) 2 (ba 23 2097151) (fun s_ => [(38, .agg #[.int .i64 t194, s_.1]), (48, s_.2.1), (49, .tuple #[.agg #[.int .i64 t202, s_.2.2.1], .int .i64 t206]), (9, .pointer (some ⟨s_.2.2.2, 0, none⟩)), (32, .tuple #[.agg #[.int .i64 t202, s_.2.2.1], .int .i64 t206]), (50, .agg #[.int .i64 t202, s_.2.2.1]), (51, .int .i64 t206)]) (fun s_ w' => (w'.cell? ⟨gb193, 0, none⟩ = some (.int .i64 t188) ∧ w'.cell? ⟨gb193, 1, none⟩ = some (.slice Ao16 t189.length co16)) ∧ (Kd.S (Kd.slice 3 (Kd.int .i64)) 22 w' w.heap.size (fun k_ => some k_ ≠ (s_.1 : Value).ownBlock ∧ some k_ ≠ (s_.2.1 : Value).ownBlock ∧ some k_ ≠ (s_.2.2.1 : Value).ownBlock) (.slice Ao16 t189.length co16) t189) ∧ (Kd.S (Kd.slice 3 (Kd.int .i64)) 22 w' w.heap.size (fun k_ => nb k_ (.slice Ao16 t189.length co16) ∧ some k_ ≠ (s_.2.1 : Value).ownBlock ∧ some k_ ≠ (s_.2.2.1 : Value).ownBlock) s_.1 t195) ∧ (Kd.R (Kd.int .i64) 3 w' w.heap.size (fun _ => True) s_.2.1 t199) ∧ (Kd.S (Kd.slice 3 (Kd.int .i64)) 22 w' w.heap.size (fun k_ => nb k_ (.slice Ao16 t189.length co16) ∧ some k_ ≠ (s_.1 : Value).ownBlock ∧ some k_ ≠ (s_.2.1 : Value).ownBlock) s_.2.2.1 t203) ∧ (w'.heap[gb193]? = some (.cells #[.int .i64 t188, .slice Ao16 t189.length co16] 25 (0, 0))) ∧ (w'.heap[s_.2.2.2]? = some (.cells #[.int .i64 0, .slice none 0 0] 25 (0, 0))) ∧ (w.heap.size ≤ s_.2.2.2) ∧ (w.heap.size ≤ s_.2.2.2) ∧ (gb193 ≠ s_.2.2.2) ∧ (s_.2.2.2 ≠ gb193) ∧ (Below w.heap.size w w')) ?_ ?_
 rotate_left
 ·intro hCont
  refine two_ (i := 5) (j := 20) (Ni := some 38) (Nj := some 9) (ba 23 32767) (ba 23 1081311) rfl rfl rfl rfl (two_of HT_.out (by kernel_rfl)) (by decide) (by decide) (fun K hK => ?_) (fun K hK => ?_)
  ·skip
   refine gC Try.func6 #[.agg #[.int .i64 t188, .slice Ao16 t189.length co16]] ?_
   with_reducible refine (congoutop_array.calls k t188 _ _ t189 t194 t195 _ ?side1 ?side2 A6.out).mono ?_
   (case side1 => repeat (first | exact (Kd.S_reads' HO191.out).2.2 | (with_reducible refine Kd.C_alloc ?_ _) | (with_reducible refine Kd.C_drewN ?_ _) | (with_reducible refine Kd.C_drew ?_)))
   (case side2 => exact (Kd.S_reads' HO191.out).2.1)
   rintro e w20 ⟨v196, rfl, ho0, hb⟩
   refine ⟨_, rfl, ?_⟩
   have HO197 := ak (Kd.S_lower (Kd.S_new' ho0 (Kd.S_lt (by (with_reducible repeat (first | apply Kd.S_alloc | apply Kd.S_drewN | apply Kd.S_drew)); exact HO191.out))) (below_size (hbC _)))
   replace HO191 := ak (Kd.S_elder' (by (with_reducible repeat (first | apply Kd.S_alloc | apply Kd.S_drewN | apply Kd.S_drew)); exact HO191.out) (Kd.S_base ho0) hb)
   replace BK193 := kB BK193 hb
   replace HB := kH _ hb
   (try clear hb)
   (try clear hb2)
   (try clear hk)
   (try clear hi)
   (try clear ho0)
   refine hK.out _ _ ⟨bc BK193 0, bc BK193 1⟩ (fun hHeld => ?_)
   clear hK K
   refine norm_ (a' := ?_) ?_ ?_
   rotate_left
   ·show Act.put _ (some 38) _ = _
    simp only [Act.put, List.setIfInBounds_toArray, List.set_cons_zero, List.set_cons_succ, i64_w, i32_w]
    rfl
   refine two_ (i := 15) (j := 20) (Ni := some 48) (Nj := some 9) (ba 23 65535) (ba 23 1081343) rfl rfl rfl rfl (two_of HT_.out (by kernel_rfl)) (by decide) (by decide) (fun K hK => ?_) (fun K hK => ?_)
   ·skip
    refine goes_ Try.func7 (by kernel_rfl) rfl #[.slice A1 (l1.take ((ji7) : Int).toNat).length c1] (by rfl) rfl rfl (by (try simp only [List.map_toArray, List.map_cons, List.map_nil]); first | done | (rw [show (l1.take ((ji7) : Int).toNat).length = (ji7).toNat from (by rw [List.length_take]; have h_ : ((ji7) : Int) ≤ (l1.length : Int) := dA; omega)] <;> rfl) | (simp only [hji7]; rfl) | rfl | (simp only [List.length_drop, List.length_take]; rfl)) ?_
    with_reducible refine (slices_Clone_int_int.calls _ _ (l1.take ((ji7) : Int).toNat) t199 _ ?side1 ?side2 A10.out).mono ?_
    (case side1 => exact kC HR198)
    (case side2 => exact HC198.out)
    rintro e w21 ⟨v200, rfl, ho0, hb⟩
    refine ⟨_, rfl, ?_⟩
    replace HO191 := ak (Kd.S_elder' (by (with_reducible repeat (first | apply Kd.S_alloc | apply Kd.S_drewN | apply Kd.S_drew)); exact HO191.out) (Kd.R_base ho0) hb)
    replace HO197 := ak (Kd.S_elder' (by (with_reducible repeat (first | apply Kd.S_alloc | apply Kd.S_drewN | apply Kd.S_drew)); exact HO197.out) (Kd.R_base ho0) hb)
    have HO201 := ak (Kd.R_lower ho0 (below_size (hbC _)))
    replace BK193 := kB BK193 hb
    replace HB := kH _ hb
    (try clear hb)
    (try clear hb2)
    (try clear hk)
    (try clear hi)
    (try clear ho0)
    obtain ⟨Ao22, co22, eo22⟩ := Kd.S_slice HO197.out
    (first | subst eo22 | (injection eo22 with f1_ f2_ f3_; have f4_ := f1_.symm; have f5_ := f3_.symm; clear f1_ f2_ f3_; subst f4_; subst f5_))
    obtain ⟨Ao23, co23, eo23⟩ := Kd.R_slice HO201.out
    (first | subst eo23 | (injection eo23 with f1_ f2_ f3_; have f4_ := f1_.symm; have f5_ := f3_.symm; clear f1_ f2_ f3_; subst f4_; subst f5_))
    refine hK.out _ _ ⟨bc BK193 0, bc BK193 1⟩ (fun hHeld => ?_)
    clear hK K
    refine norm_ (a' := ?_) ?_ ?_
    rotate_left
    ·show Act.put _ (some 48) _ = _
     simp only [Act.put, List.setIfInBounds_toArray, List.set_cons_zero, List.set_cons_succ, i64_w, i32_w]
     rfl
    refine two_ (i := 16) (j := 20) (Ni := some 49) (Nj := some 9) (ba 23 131071) (ba 23 1114111) rfl rfl rfl rfl (two_of HT_.out (by kernel_rfl)) (by decide) (by decide) (fun K hK => ?_) (fun K hK => ?_)
    ·skip
     refine gC Try.func5 #[.agg #[.int .i64 t194, .slice Ao22 t195.length co22], .int .i64 (wrap64 (Int.tmod (IntKind.u64.wrap (a0)) 4)), .slice Ao23 t199.length co23] ?_
     with_reducible refine (arrays_Rename.calls k t194 _ _ t195 (wrap64 (Int.tmod (IntKind.u64.wrap (a0)) 4)) _ _ t199 t202 t203 t206 _ ?side1 ?side2 ?side3 ?side4 A11.out).mono ?_
     (case side1 => repeat (first | exact (Kd.S_reads' HO197.out).2.2 | (with_reducible refine Kd.C_alloc ?_ _) | (with_reducible refine Kd.C_drewN ?_ _) | (with_reducible refine Kd.C_drew ?_)))
     (case side2 => exact (Kd.S_reads' HO197.out).2.1)
     (case side3 => exact kD (Kd.R_reads' HO201.out).2.2)
     (case side4 => exact (Kd.R_reads' HO201.out).2.1)
     rintro e w24 ⟨v204, rfl, ho0, hb⟩
     refine ⟨_, rfl, ?_⟩
     have HO205 := ak (Kd.S_lower (Kd.S_new' (Kd.S_new' (Kd.S_new' ho0 (Kd.S_lt (by (with_reducible repeat (first | apply Kd.S_alloc | apply Kd.S_drewN | apply Kd.S_drew)); exact HO191.out))) (Kd.S_lt (by (with_reducible repeat (first | apply Kd.S_alloc | apply Kd.S_drewN | apply Kd.S_drew)); exact HO197.out))) (Kd.R_lt (rC HO201))) (below_size (hbC _)))
     replace HO191 := ak (Kd.S_elder' (by (with_reducible repeat (first | apply Kd.S_alloc | apply Kd.S_drewN | apply Kd.S_drew)); exact HO191.out) (Kd.S_base ho0) hb)
     replace HO197 := ak (Kd.S_elder' (by (with_reducible repeat (first | apply Kd.S_alloc | apply Kd.S_drewN | apply Kd.S_drew)); exact HO197.out) (Kd.S_base ho0) hb)
     replace HO201 := kO HO201 hb
     replace BK193 := kB BK193 hb
     replace HB := kH _ hb
     (try clear hb)
     (try clear hb2)
     (try clear hk)
     (try clear hi)
     (try clear ho0)
     refine hK.out _ _ ⟨bc BK193 0, bc BK193 1⟩ (fun hHeld => ?_)
     clear hK K
     refine norm_ (a' := ?_) ?_ ?_
     rotate_left
     ·show Act.put _ (some 49) _ = _
      simp only [Act.put, List.setIfInBounds_toArray, List.set_cons_zero, List.set_cons_succ, i64_w, i32_w]
      rfl
     refine pS 17 32 23 262143 ?_
     refine pS 18 50 23 524287 ?_
     refine pS 19 51 23 1048575 ?_
     refine one_ (i := 20) (N := some 9) (ba 23 2097151) rfl rfl (one_of HT_.out (by kernel_rfl)) (by decide) (fun K hK => ?_)
     refine box_step ?hg (N := 9) ?hd (cs := #[.int .i64 0, .slice none 0 0]) (t := 25) ?hr ?_; (case hd => rfl); (case hg => rfl); (case hr => first | (go_simp; done) | (go_simp; rfl))
     intro gb207 hg w25 hbox hb
     replace HO191 := ak (Kd.S_below (by (with_reducible repeat (first | apply Kd.S_alloc | apply Kd.S_drewN | apply Kd.S_drew)); exact HO191.out) hb)
     replace HO197 := ak (Kd.S_below (by (with_reducible repeat (first | apply Kd.S_alloc | apply Kd.S_drewN | apply Kd.S_drew)); exact HO197.out) hb)
     replace HO201 := kO HO201 hb
     replace HO205 := ak (Kd.S_below (by (with_reducible repeat (first | apply Kd.S_alloc | apply Kd.S_drewN | apply Kd.S_drew)); exact HO205.out) hb)
     have BK207 := ak (hbox)
     have GW207 := kG w hg
     have GE207 := kG w hg
     replace HB := kH _ hb
     have NB193_207 := kL BK193 hg
     have NB207_193 := kR BK193 hg
     replace BK193 := kB BK193 hb
     clear hb hbox hg
     refine hK.out _ _ ⟨bc BK193 0, bc BK193 1⟩ (fun hHeld => ?_)
     clear hK K
     refine norm_ (a' := ?_) ?_ ?_
     rotate_left
     ·show Act.put _ (some 9) _ = _
      simp only [Act.put, List.setIfInBounds_toArray, List.set_cons_zero, List.set_cons_succ, i64_w, i32_w]
      rfl
     exact norm_ (by simp only [putAll, Act.put, List.setIfInBounds_toArray, List.set_cons_zero, List.set_cons_succ]) (hCont (.slice Ao22 t195.length co22, .slice Ao23 t199.length co23, v204, gb207) _ ⟨hHeld, (by (with_reducible repeat (first | apply Kd.S_alloc | apply Kd.S_drewN | apply Kd.S_drew)); exact Kd.S_mono HO191.out (fun _ hk => ⟨hk.1.1.2, ⟨hk.1.2, hk.2⟩⟩)), (by (with_reducible repeat (first | apply Kd.S_alloc | apply Kd.S_drewN | apply Kd.S_drew)); exact Kd.S_mono HO197.out (fun _ hk => ⟨hk.1.1.2, ⟨hk.1.2, hk.2⟩⟩)), (rC HO201), (by (with_reducible repeat (first | apply Kd.S_alloc | apply Kd.S_drewN | apply Kd.S_drew)); exact Kd.S_mono HO205.out (fun _ hk => ⟨hk.1.1.2, ⟨hk.1.2, hk.2⟩⟩)), (bkC BK193), (bkC BK207), GW207.out, GE207.out, NB193_207.out, NB207_193.out, (hbC _)⟩)
    ·skip
     refine box_step ?hg (N := 9) ?hd (cs := #[.int .i64 0, .slice none 0 0]) (t := 25) ?hr ?_; (case hd => rfl); (case hg => rfl); (case hr => first | (go_simp; done) | (go_simp; rfl))
     intro gb207 hg w22 hbox hb
     replace HO191 := ak (Kd.S_below (by (with_reducible repeat (first | apply Kd.S_alloc | apply Kd.S_drewN | apply Kd.S_drew)); exact HO191.out) hb)
     replace HO197 := ak (Kd.S_below (by (with_reducible repeat (first | apply Kd.S_alloc | apply Kd.S_drewN | apply Kd.S_drew)); exact HO197.out) hb)
     replace HO201 := kO HO201 hb
     have BK207 := ak (hbox)
     have GW207 := kG w hg
     have GE207 := kG w hg
     replace HB := kH _ hb
     have NB193_207 := kL BK193 hg
     have NB207_193 := kR BK193 hg
     replace BK193 := kB BK193 hb
     clear hb hbox hg
     obtain ⟨Ao23, co23, eo23⟩ := Kd.S_slice HO197.out
     (first | subst eo23 | (injection eo23 with f1_ f2_ f3_; have f4_ := f1_.symm; have f5_ := f3_.symm; clear f1_ f2_ f3_; subst f4_; subst f5_))
     obtain ⟨Ao24, co24, eo24⟩ := Kd.R_slice HO201.out
     (first | subst eo24 | (injection eo24 with f1_ f2_ f3_; have f4_ := f1_.symm; have f5_ := f3_.symm; clear f1_ f2_ f3_; subst f4_; subst f5_))
     refine hK.out _ _ ⟨bc BK193 0, bc BK193 1⟩ (fun hHeld => ?_)
     clear hK K
     refine norm_ (a' := ?_) ?_ ?_
     rotate_left
     ·show Act.put _ (some 9) _ = _
      simp only [Act.put, List.setIfInBounds_toArray, List.set_cons_zero, List.set_cons_succ, i64_w, i32_w]
      rfl
     refine one_ (i := 16) (N := some 49) (ba 23 1179647) rfl rfl (one_of HT_.out (by kernel_rfl)) (by decide) (fun K hK => ?_)
     refine gC Try.func5 #[.agg #[.int .i64 t194, .slice Ao23 t195.length co23], .int .i64 (wrap64 (Int.tmod (IntKind.u64.wrap (a0)) 4)), .slice Ao24 t199.length co24] ?_
     with_reducible refine (arrays_Rename.calls k t194 _ _ t195 (wrap64 (Int.tmod (IntKind.u64.wrap (a0)) 4)) _ _ t199 t202 t203 t206 _ ?side1 ?side2 ?side3 ?side4 A11.out).mono ?_
     (case side1 => repeat (first | exact (Kd.S_reads' HO197.out).2.2 | (with_reducible refine Kd.C_alloc ?_ _) | (with_reducible refine Kd.C_drewN ?_ _) | (with_reducible refine Kd.C_drew ?_)))
     (case side2 => exact (Kd.S_reads' HO197.out).2.1)
     (case side3 => exact kD (Kd.R_reads' HO201.out).2.2)
     (case side4 => exact (Kd.R_reads' HO201.out).2.1)
     rintro e w25 ⟨v204, rfl, ho0, hb⟩
     refine ⟨_, rfl, ?_⟩
     have HO205 := ak (Kd.S_lower (Kd.S_new' (Kd.S_new' (Kd.S_new' ho0 (Kd.S_lt (by (with_reducible repeat (first | apply Kd.S_alloc | apply Kd.S_drewN | apply Kd.S_drew)); exact HO191.out))) (Kd.S_lt (by (with_reducible repeat (first | apply Kd.S_alloc | apply Kd.S_drewN | apply Kd.S_drew)); exact HO197.out))) (Kd.R_lt (rC HO201))) (below_size (hbC _)))
     replace HO191 := ak (Kd.S_elder' (by (with_reducible repeat (first | apply Kd.S_alloc | apply Kd.S_drewN | apply Kd.S_drew)); exact HO191.out) (Kd.S_base ho0) hb)
     replace HO197 := ak (Kd.S_elder' (by (with_reducible repeat (first | apply Kd.S_alloc | apply Kd.S_drewN | apply Kd.S_drew)); exact HO197.out) (Kd.S_base ho0) hb)
     replace HO201 := kO HO201 hb
     replace BK193 := kB BK193 hb
     replace BK207 := kB BK207 hb
     replace HB := kH _ hb
     (try clear hb)
     (try clear hb2)
     (try clear hk)
     (try clear hi)
     (try clear ho0)
     refine hK.out _ _ ⟨bc BK193 0, bc BK193 1⟩ (fun hHeld => ?_)
     clear hK K
     refine norm_ (a' := ?_) ?_ ?_
     rotate_left
     ·show Act.put _ (some 49) _ = _
      simp only [Act.put, List.setIfInBounds_toArray, List.set_cons_zero, List.set_cons_succ, i64_w, i32_w]
      rfl
     refine pS 17 32 23 1310719 ?_
     refine pS 18 50 23 1572863 ?_
     refine pS 19 51 23 2097151 ?_
     exact norm_ (by simp only [putAll, Act.put, List.setIfInBounds_toArray, List.set_cons_zero, List.set_cons_succ]) (hCont (.slice Ao23 t195.length co23, .slice Ao24 t199.length co24, v204, gb207) _ ⟨hHeld, (by (with_reducible repeat (first | apply Kd.S_alloc | apply Kd.S_drewN | apply Kd.S_drew)); exact Kd.S_mono HO191.out (fun _ hk => ⟨hk.1.1.2, ⟨hk.1.2, hk.2⟩⟩)), (by (with_reducible repeat (first | apply Kd.S_alloc | apply Kd.S_drewN | apply Kd.S_drew)); exact Kd.S_mono HO197.out (fun _ hk => ⟨hk.1.1.2, ⟨hk.1.2, hk.2⟩⟩)), (rC HO201), (by (with_reducible repeat (first | apply Kd.S_alloc | apply Kd.S_drewN | apply Kd.S_drew)); exact Kd.S_mono HO205.out (fun _ hk => ⟨hk.1.1.2, ⟨hk.1.2, hk.2⟩⟩)), (bkC BK193), (bkC BK207), GW207.out, GE207.out, NB193_207.out, NB207_193.out, (hbC _)⟩)
   ·skip
    refine box_step ?hg (N := 9) ?hd (cs := #[.int .i64 0, .slice none 0 0]) (t := 25) ?hr ?_; (case hd => rfl); (case hg => rfl); (case hr => first | (go_simp; done) | (go_simp; rfl))
    intro gb207 hg w21 hbox hb
    replace HO191 := ak (Kd.S_below (by (with_reducible repeat (first | apply Kd.S_alloc | apply Kd.S_drewN | apply Kd.S_drew)); exact HO191.out) hb)
    replace HO197 := ak (Kd.S_below (by (with_reducible repeat (first | apply Kd.S_alloc | apply Kd.S_drewN | apply Kd.S_drew)); exact HO197.out) hb)
    have BK207 := ak (hbox)
    have GW207 := kG w hg
    have GE207 := kG w hg
    replace HB := kH _ hb
    have NB193_207 := kL BK193 hg
    have NB207_193 := kR BK193 hg
    replace BK193 := kB BK193 hb
    clear hb hbox hg
    refine hK.out _ _ ⟨bc BK193 0, bc BK193 1⟩ (fun hHeld => ?_)
    clear hK K
    refine norm_ (a' := ?_) ?_ ?_
    rotate_left
    ·show Act.put _ (some 9) _ = _
     simp only [Act.put, List.setIfInBounds_toArray, List.set_cons_zero, List.set_cons_succ, i64_w, i32_w]
     rfl
    refine one_ (i := 15) (N := some 48) (ba 23 1114111) rfl rfl (one_of HT_.out (by kernel_rfl)) (by decide) (fun K hK => ?_)
    refine goes_ Try.func7 (by kernel_rfl) rfl #[.slice A1 (l1.take ((ji7) : Int).toNat).length c1] (by rfl) rfl rfl (by (try simp only [List.map_toArray, List.map_cons, List.map_nil]); first | done | (rw [show (l1.take ((ji7) : Int).toNat).length = (ji7).toNat from (by rw [List.length_take]; have h_ : ((ji7) : Int) ≤ (l1.length : Int) := dA; omega)] <;> rfl) | (simp only [hji7]; rfl) | rfl | (simp only [List.length_drop, List.length_take]; rfl)) ?_
    with_reducible refine (slices_Clone_int_int.calls _ _ (l1.take ((ji7) : Int).toNat) t199 _ ?side1 ?side2 A10.out).mono ?_
    (case side1 => exact kC HR198)
    (case side2 => exact HC198.out)
    rintro e w22 ⟨v200, rfl, ho0, hb⟩
    refine ⟨_, rfl, ?_⟩
    replace HO191 := ak (Kd.S_elder' (by (with_reducible repeat (first | apply Kd.S_alloc | apply Kd.S_drewN | apply Kd.S_drew)); exact HO191.out) (Kd.R_base ho0) hb)
    replace HO197 := ak (Kd.S_elder' (by (with_reducible repeat (first | apply Kd.S_alloc | apply Kd.S_drewN | apply Kd.S_drew)); exact HO197.out) (Kd.R_base ho0) hb)
    have HO201 := ak (Kd.R_lower ho0 (below_size (hbC _)))
    replace BK193 := kB BK193 hb
    replace BK207 := kB BK207 hb
    replace HB := kH _ hb
    (try clear hb)
    (try clear hb2)
    (try clear hk)
    (try clear hi)
    (try clear ho0)
    obtain ⟨Ao23, co23, eo23⟩ := Kd.S_slice HO197.out
    (first | subst eo23 | (injection eo23 with f1_ f2_ f3_; have f4_ := f1_.symm; have f5_ := f3_.symm; clear f1_ f2_ f3_; subst f4_; subst f5_))
    obtain ⟨Ao24, co24, eo24⟩ := Kd.R_slice HO201.out
    (first | subst eo24 | (injection eo24 with f1_ f2_ f3_; have f4_ := f1_.symm; have f5_ := f3_.symm; clear f1_ f2_ f3_; subst f4_; subst f5_))
    refine hK.out _ _ ⟨bc BK193 0, bc BK193 1⟩ (fun hHeld => ?_)
    clear hK K
    refine norm_ (a' := ?_) ?_ ?_
    rotate_left
    ·show Act.put _ (some 48) _ = _
     simp only [Act.put, List.setIfInBounds_toArray, List.set_cons_zero, List.set_cons_succ, i64_w, i32_w]
     rfl
    refine one_ (i := 16) (N := some 49) (ba 23 1179647) rfl rfl (one_of HT_.out (by kernel_rfl)) (by decide) (fun K hK => ?_)
    refine gC Try.func5 #[.agg #[.int .i64 t194, .slice Ao23 t195.length co23], .int .i64 (wrap64 (Int.tmod (IntKind.u64.wrap (a0)) 4)), .slice Ao24 t199.length co24] ?_
    with_reducible refine (arrays_Rename.calls k t194 _ _ t195 (wrap64 (Int.tmod (IntKind.u64.wrap (a0)) 4)) _ _ t199 t202 t203 t206 _ ?side1 ?side2 ?side3 ?side4 A11.out).mono ?_
    (case side1 => repeat (first | exact (Kd.S_reads' HO197.out).2.2 | (with_reducible refine Kd.C_alloc ?_ _) | (with_reducible refine Kd.C_drewN ?_ _) | (with_reducible refine Kd.C_drew ?_)))
    (case side2 => exact (Kd.S_reads' HO197.out).2.1)
    (case side3 => exact kD (Kd.R_reads' HO201.out).2.2)
    (case side4 => exact (Kd.R_reads' HO201.out).2.1)
    rintro e w25 ⟨v204, rfl, ho0, hb⟩
    refine ⟨_, rfl, ?_⟩
    have HO205 := ak (Kd.S_lower (Kd.S_new' (Kd.S_new' (Kd.S_new' ho0 (Kd.S_lt (by (with_reducible repeat (first | apply Kd.S_alloc | apply Kd.S_drewN | apply Kd.S_drew)); exact HO191.out))) (Kd.S_lt (by (with_reducible repeat (first | apply Kd.S_alloc | apply Kd.S_drewN | apply Kd.S_drew)); exact HO197.out))) (Kd.R_lt (rC HO201))) (below_size (hbC _)))
    replace HO191 := ak (Kd.S_elder' (by (with_reducible repeat (first | apply Kd.S_alloc | apply Kd.S_drewN | apply Kd.S_drew)); exact HO191.out) (Kd.S_base ho0) hb)
    replace HO197 := ak (Kd.S_elder' (by (with_reducible repeat (first | apply Kd.S_alloc | apply Kd.S_drewN | apply Kd.S_drew)); exact HO197.out) (Kd.S_base ho0) hb)
    replace HO201 := kO HO201 hb
    replace BK193 := kB BK193 hb
    replace BK207 := kB BK207 hb
    replace HB := kH _ hb
    (try clear hb)
    (try clear hb2)
    (try clear hk)
    (try clear hi)
    (try clear ho0)
    refine hK.out _ _ ⟨bc BK193 0, bc BK193 1⟩ (fun hHeld => ?_)
    clear hK K
    refine norm_ (a' := ?_) ?_ ?_
    rotate_left
    ·show Act.put _ (some 49) _ = _
     simp only [Act.put, List.setIfInBounds_toArray, List.set_cons_zero, List.set_cons_succ, i64_w, i32_w]
     rfl
    refine pS 17 32 23 1310719 ?_
    refine pS 18 50 23 1572863 ?_
    refine pS 19 51 23 2097151 ?_
    exact norm_ (by simp only [putAll, Act.put, List.setIfInBounds_toArray, List.set_cons_zero, List.set_cons_succ]) (hCont (.slice Ao23 t195.length co23, .slice Ao24 t199.length co24, v204, gb207) _ ⟨hHeld, (by (with_reducible repeat (first | apply Kd.S_alloc | apply Kd.S_drewN | apply Kd.S_drew)); exact Kd.S_mono HO191.out (fun _ hk => ⟨hk.1.1.2, ⟨hk.1.2, hk.2⟩⟩)), (by (with_reducible repeat (first | apply Kd.S_alloc | apply Kd.S_drewN | apply Kd.S_drew)); exact Kd.S_mono HO197.out (fun _ hk => ⟨hk.1.1.2, ⟨hk.1.2, hk.2⟩⟩)), (rC HO201), (by (with_reducible repeat (first | apply Kd.S_alloc | apply Kd.S_drewN | apply Kd.S_drew)); exact Kd.S_mono HO205.out (fun _ hk => ⟨hk.1.1.2, ⟨hk.1.2, hk.2⟩⟩)), (bkC BK193), (bkC BK207), GW207.out, GE207.out, NB193_207.out, NB207_193.out, (hbC _)⟩)
  ·skip
   refine box_step ?hg (N := 9) ?hd (cs := #[.int .i64 0, .slice none 0 0]) (t := 25) ?hr ?_; (case hd => rfl); (case hg => rfl); (case hr => first | (go_simp; done) | (go_simp; rfl))
   intro gb207 hg w20 hbox hb
   replace HO191 := ak (Kd.S_below (by (with_reducible repeat (first | apply Kd.S_alloc | apply Kd.S_drewN | apply Kd.S_drew)); exact HO191.out) hb)
   have BK207 := ak (hbox)
   have GW207 := kG w hg
   have GE207 := kG w hg
   replace HB := kH _ hb
   have NB193_207 := kL BK193 hg
   have NB207_193 := kR BK193 hg
   replace BK193 := kB BK193 hb
   clear hb hbox hg
   refine hK.out _ _ ⟨bc BK193 0, bc BK193 1⟩ (fun hHeld => ?_)
   clear hK K
   refine norm_ (a' := ?_) ?_ ?_
   rotate_left
   ·show Act.put _ (some 9) _ = _
    simp only [Act.put, List.setIfInBounds_toArray, List.set_cons_zero, List.set_cons_succ, i64_w, i32_w]
    rfl
   refine one_ (i := 5) (N := some 38) (ba 23 1081343) rfl rfl (one_of HT_.out (by kernel_rfl)) (by decide) (fun K hK => ?_)
   refine gC Try.func6 #[.agg #[.int .i64 t188, .slice Ao16 t189.length co16]] ?_
   with_reducible refine (congoutop_array.calls k t188 _ _ t189 t194 t195 _ ?side1 ?side2 A6.out).mono ?_
   (case side1 => repeat (first | exact (Kd.S_reads' HO191.out).2.2 | (with_reducible refine Kd.C_alloc ?_ _) | (with_reducible refine Kd.C_drewN ?_ _) | (with_reducible refine Kd.C_drew ?_)))
   (case side2 => exact (Kd.S_reads' HO191.out).2.1)
   rintro e w21 ⟨v196, rfl, ho0, hb⟩
   refine ⟨_, rfl, ?_⟩
   have HO197 := ak (Kd.S_lower (Kd.S_new' ho0 (Kd.S_lt (by (with_reducible repeat (first | apply Kd.S_alloc | apply Kd.S_drewN | apply Kd.S_drew)); exact HO191.out))) (below_size (hbC _)))
   replace HO191 := ak (Kd.S_elder' (by (with_reducible repeat (first | apply Kd.S_alloc | apply Kd.S_drewN | apply Kd.S_drew)); exact HO191.out) (Kd.S_base ho0) hb)
   replace BK193 := kB BK193 hb
   replace BK207 := kB BK207 hb
   replace HB := kH _ hb
   (try clear hb)
   (try clear hb2)
   (try clear hk)
   (try clear hi)
   (try clear ho0)
   refine hK.out _ _ ⟨bc BK193 0, bc BK193 1⟩ (fun hHeld => ?_)
   clear hK K
   refine norm_ (a' := ?_) ?_ ?_
   rotate_left
   ·show Act.put _ (some 38) _ = _
    simp only [Act.put, List.setIfInBounds_toArray, List.set_cons_zero, List.set_cons_succ, i64_w, i32_w]
    rfl
   refine one_ (i := 15) (N := some 48) (ba 23 1114111) rfl rfl (one_of HT_.out (by kernel_rfl)) (by decide) (fun K hK => ?_)
   refine goes_ Try.func7 (by kernel_rfl) rfl #[.slice A1 (l1.take ((ji7) : Int).toNat).length c1] (by rfl) rfl rfl (by (try simp only [List.map_toArray, List.map_cons, List.map_nil]); first | done | (rw [show (l1.take ((ji7) : Int).toNat).length = (ji7).toNat from (by rw [List.length_take]; have h_ : ((ji7) : Int) ≤ (l1.length : Int) := dA; omega)] <;> rfl) | (simp only [hji7]; rfl) | rfl | (simp only [List.length_drop, List.length_take]; rfl)) ?_
   with_reducible refine (slices_Clone_int_int.calls _ _ (l1.take ((ji7) : Int).toNat) t199 _ ?side1 ?side2 A10.out).mono ?_
   (case side1 => exact kC HR198)
   (case side2 => exact HC198.out)
   rintro e w22 ⟨v200, rfl, ho0, hb⟩
   refine ⟨_, rfl, ?_⟩
   replace HO191 := ak (Kd.S_elder' (by (with_reducible repeat (first | apply Kd.S_alloc | apply Kd.S_drewN | apply Kd.S_drew)); exact HO191.out) (Kd.R_base ho0) hb)
   replace HO197 := ak (Kd.S_elder' (by (with_reducible repeat (first | apply Kd.S_alloc | apply Kd.S_drewN | apply Kd.S_drew)); exact HO197.out) (Kd.R_base ho0) hb)
   have HO201 := ak (Kd.R_lower ho0 (below_size (hbC _)))
   replace BK193 := kB BK193 hb
   replace BK207 := kB BK207 hb
   replace HB := kH _ hb
   (try clear hb)
   (try clear hb2)
   (try clear hk)
   (try clear hi)
   (try clear ho0)
   obtain ⟨Ao23, co23, eo23⟩ := Kd.S_slice HO197.out
   (first | subst eo23 | (injection eo23 with f1_ f2_ f3_; have f4_ := f1_.symm; have f5_ := f3_.symm; clear f1_ f2_ f3_; subst f4_; subst f5_))
   obtain ⟨Ao24, co24, eo24⟩ := Kd.R_slice HO201.out
   (first | subst eo24 | (injection eo24 with f1_ f2_ f3_; have f4_ := f1_.symm; have f5_ := f3_.symm; clear f1_ f2_ f3_; subst f4_; subst f5_))
   refine hK.out _ _ ⟨bc BK193 0, bc BK193 1⟩ (fun hHeld => ?_)
   clear hK K
   refine norm_ (a' := ?_) ?_ ?_
   rotate_left
   ·show Act.put _ (some 48) _ = _
    simp only [Act.put, List.setIfInBounds_toArray, List.set_cons_zero, List.set_cons_succ, i64_w, i32_w]
    rfl
   refine one_ (i := 16) (N := some 49) (ba 23 1179647) rfl rfl (one_of HT_.out (by kernel_rfl)) (by decide) (fun K hK => ?_)
   refine gC Try.func5 #[.agg #[.int .i64 t194, .slice Ao23 t195.length co23], .int .i64 (wrap64 (Int.tmod (IntKind.u64.wrap (a0)) 4)), .slice Ao24 t199.length co24] ?_
   with_reducible refine (arrays_Rename.calls k t194 _ _ t195 (wrap64 (Int.tmod (IntKind.u64.wrap (a0)) 4)) _ _ t199 t202 t203 t206 _ ?side1 ?side2 ?side3 ?side4 A11.out).mono ?_
   (case side1 => repeat (first | exact (Kd.S_reads' HO197.out).2.2 | (with_reducible refine Kd.C_alloc ?_ _) | (with_reducible refine Kd.C_drewN ?_ _) | (with_reducible refine Kd.C_drew ?_)))
   (case side2 => exact (Kd.S_reads' HO197.out).2.1)
   (case side3 => exact kD (Kd.R_reads' HO201.out).2.2)
   (case side4 => exact (Kd.R_reads' HO201.out).2.1)
   rintro e w25 ⟨v204, rfl, ho0, hb⟩
   refine ⟨_, rfl, ?_⟩
   have HO205 := ak (Kd.S_lower (Kd.S_new' (Kd.S_new' (Kd.S_new' ho0 (Kd.S_lt (by (with_reducible repeat (first | apply Kd.S_alloc | apply Kd.S_drewN | apply Kd.S_drew)); exact HO191.out))) (Kd.S_lt (by (with_reducible repeat (first | apply Kd.S_alloc | apply Kd.S_drewN | apply Kd.S_drew)); exact HO197.out))) (Kd.R_lt (rC HO201))) (below_size (hbC _)))
   replace HO191 := ak (Kd.S_elder' (by (with_reducible repeat (first | apply Kd.S_alloc | apply Kd.S_drewN | apply Kd.S_drew)); exact HO191.out) (Kd.S_base ho0) hb)
   replace HO197 := ak (Kd.S_elder' (by (with_reducible repeat (first | apply Kd.S_alloc | apply Kd.S_drewN | apply Kd.S_drew)); exact HO197.out) (Kd.S_base ho0) hb)
   replace HO201 := kO HO201 hb
   replace BK193 := kB BK193 hb
   replace BK207 := kB BK207 hb
   replace HB := kH _ hb
   (try clear hb)
   (try clear hb2)
   (try clear hk)
   (try clear hi)
   (try clear ho0)
   refine hK.out _ _ ⟨bc BK193 0, bc BK193 1⟩ (fun hHeld => ?_)
   clear hK K
   refine norm_ (a' := ?_) ?_ ?_
   rotate_left
   ·show Act.put _ (some 49) _ = _
    simp only [Act.put, List.setIfInBounds_toArray, List.set_cons_zero, List.set_cons_succ, i64_w, i32_w]
    rfl
   refine pS 17 32 23 1310719 ?_
   refine pS 18 50 23 1572863 ?_
   refine pS 19 51 23 2097151 ?_
   exact norm_ (by simp only [putAll, Act.put, List.setIfInBounds_toArray, List.set_cons_zero, List.set_cons_succ]) (hCont (.slice Ao23 t195.length co23, .slice Ao24 t199.length co24, v204, gb207) _ ⟨hHeld, (by (with_reducible repeat (first | apply Kd.S_alloc | apply Kd.S_drewN | apply Kd.S_drew)); exact Kd.S_mono HO191.out (fun _ hk => ⟨hk.1.1.2, ⟨hk.1.2, hk.2⟩⟩)), (by (with_reducible repeat (first | apply Kd.S_alloc | apply Kd.S_drewN | apply Kd.S_drew)); exact Kd.S_mono HO197.out (fun _ hk => ⟨hk.1.1.2, ⟨hk.1.2, hk.2⟩⟩)), (rC HO201), (by (with_reducible repeat (first | apply Kd.S_alloc | apply Kd.S_drewN | apply Kd.S_drew)); exact Kd.S_mono HO205.out (fun _ hk => ⟨hk.1.1.2, ⟨hk.1.2, hk.2⟩⟩)), (bkC BK193), (bkC BK207), GW207.out, GE207.out, NB193_207.out, NB207_193.out, (hbC _)⟩)
 rintro ⟨v196, v200, v204, gb207⟩ w26 ⟨hS_, h0_, h1_, h2_, h3_, h4_, h5_, h6_, h7_, h8_, h9_, h10_⟩
 have n0_ : Aside0 (Kd.S (Kd.slice 3 (Kd.int .i64)) 22 w26 w.heap.size (fun k_ => nb k_ v196 ∧ nb k_ v200 ∧ nb k_ v204) (.slice Ao16 t189.length co16) t189) := ⟨h0_⟩
 have n1_ : Aside0 (Kd.S (Kd.slice 3 (Kd.int .i64)) 22 w26 w.heap.size (fun k_ => nb k_ (.slice Ao16 t189.length co16) ∧ nb k_ v200 ∧ nb k_ v204) v196 t195) := ⟨h1_⟩
 have n2_ : Aside0 (Kd.R (Kd.int .i64) 3 w26 w.heap.size (fun _ => True) v200 t199) := ⟨h2_⟩
 have n3_ : Aside0 (Kd.S (Kd.slice 3 (Kd.int .i64)) 22 w26 w.heap.size (fun k_ => nb k_ (.slice Ao16 t189.length co16) ∧ nb k_ v196 ∧ nb k_ v200) v204 t203) := ⟨h3_⟩
 have n4_ : Aside0 (w26.heap[gb193]? = some (.cells #[.int .i64 t188, .slice Ao16 t189.length co16] 25 (0, 0))) := ⟨h4_⟩
 have n5_ : Aside0 (w26.heap[gb207]? = some (.cells #[.int .i64 0, .slice none 0 0] 25 (0, 0))) := ⟨h5_⟩
 have n6_ : Aside0 (w.heap.size ≤ gb207) := ⟨h6_⟩
 have n7_ : Aside0 (w.heap.size ≤ gb207) := ⟨h7_⟩
 have n8_ : Aside0 (gb193 ≠ gb207) := ⟨h8_⟩
 have n9_ : Aside0 (gb207 ≠ gb193) := ⟨h9_⟩
 have n10_ : Aside0 (Below w.heap.size w w26) := ⟨h10_⟩
 clear HO191
 clear BK193
 clear HB
 clear h0_ h1_ h2_ h3_ h4_ h5_ h6_ h7_ h8_ h9_ h10_
 have HO191 := n0_
 have HO197 := n1_
 have HO201 := n2_
 have HO205 := n3_
 have BK193 := n4_
 have BK207 := n5_
 have GW207 := n6_
 have GE207 := n7_
 have NB193_207 := n8_
 have NB207_193 := n9_
 have HB := n10_
 clear n0_ n1_ n2_ n3_ n4_ n5_ n6_ n7_ n8_ n9_ n10_
 have hHeld : w26.cell? ⟨gb193, 0, none⟩ = some (.int .i64 t188) ∧ w26.cell? ⟨gb193, 1, none⟩ = some (.slice Ao16 t189.length co16) := hS_
 obtain ⟨Ao28, co28, eo28⟩ := Kd.S_slice HO205.out
 (first | subst eo28 | (injection eo28 with f1_ f2_ f3_; have f4_ := f1_.symm; have f5_ := f3_.symm; clear f1_ f2_ f3_; subst f4_; subst f5_))
 refine norm_ (a' := ?_) ?_ ?_
 rotate_left
 ·simp only [putAll, Act.put, List.setIfInBounds_toArray, List.set_cons_zero, List.set_cons_succ]
  rfl
 refine one_ (i := 21) (N := none) (ba 23 4194303) rfl rfl (one_of HT_.out (by kernel_rfl)) (by decide) (fun K hK => ?_)
 have hs27 : w26.cell? ⟨gb207, 0, none⟩ = some (.int .i64 0) := bc BK207 0
 have hfs27 := fz BK207 0
 have hns27_0 := NB193_207.out
 have hms27_0 := NB207_193.out
 have hs29 : w26.cell? ⟨gb207, 1, none⟩ = some (.slice none 0 0) := bc BK207 1
 have hfs29 := fz BK207 1
 have hns29_0 := NB193_207.out
 have hms29_0 := NB207_193.out
 refine skip_ (w1 := ?_) (by rfl) rfl ?_ ?_
 rotate_left
 ·go_simp
  rfl
 refine hK.out _ _ ⟨((cell_far (p := ⟨gb207, _, none⟩) NB193_207.out _).trans (((cell_far (p := ⟨gb207, _, none⟩) NB193_207.out _).trans (hHeld.1)))), ((cell_far (p := ⟨gb207, _, none⟩) NB193_207.out _).trans (((cell_far (p := ⟨gb207, _, none⟩) NB193_207.out _).trans (hHeld.2))))⟩ (fun hHeld => ?_)
 clear hK K
 refine pS 22 10 23 8388607 ?_
 refine done_ (done_of HT_.out (by kernel_rfl)) ?_
 go_upto_if 53 with (fail)
 go_cut [] (fun wc => ∃ (kq : Nat) (x194000_11 : Int) (x194001_11 : List (List Int)) (u194001 : Value), Aside0 (congoutop_TopPlane.j0 kq l2 x194000_11 x194001_11 = some r) ∧ Aside0 (kq ≤ k) ∧ Aside0 (Kd.S (Kd.slice 3 (Kd.int .i64)) 22 wc w.heap.size (fun _ => True) u194001 x194001_11) ∧ Aside0 (Kd.S (Kd.slice 3 (Kd.int .i64)) 22 wc w.heap.size (fun _ => True) (.slice Ao28 t203.length co28) t203) ∧ Aside0 (wc.heap[gb193]? = some (.cells #[.int .i64 x194000_11, u194001] 25 (0, 0))) ∧ Aside0 (wc.heap[gb207]? = some (.cells #[.int .i64 t202, (.slice Ao28 t203.length co28)] 25 (0, 0))) ∧ Aside0 (Below w.heap.size w wc))
 case first =>
  as_aux_lemma =>
  have H := HC12.out
  clear HC12
  by_cases c30 : t206 = 0
  rotate_left
  ·rw [if_neg c30] at H
   have c30b0 : (t206 == 0) = false := beq_eq_false_iff_ne.mpr c30
   have c30b1 : (t206 != 0) = true := bne_iff_ne.mpr c30
   (first | rw [c30b0] | (simp only [i64_w, i32_w]; rw [c30b0]) | skip)
   by_cases c34 : t206 = 2
   rotate_left
   ·rw [if_neg c34] at H
    have c34b0 : (t206 == 2) = false := beq_eq_false_iff_ne.mpr c34
    have c34b1 : (t206 != 2) = true := bne_iff_ne.mpr c34
    exact absurd (H.trans (congrArg some HRT.out)) (by simp)
   rw [if_pos c34] at H
   have c34b0 : (t206 == 2) = true := beq_iff_eq.mpr c34
   have c34b1 : (t206 != 2) = false := bne_eq_false_iff_eq.mpr c34
   clear c34
   have H' := Aside0.mk H
   clear H
   go_wp2
   go_meet
   case rel => exact ⟨_, (t188), (t189), (.slice Ao16 t189.length co16), H', ⟨by first | omega | exact Nat.le_refl _⟩, ⟨by (with_reducible repeat (first | apply Kd.S_alloc | apply Kd.S_drewN | apply Kd.S_drew)); exact Kd.S_mono (Kd.S_far (p := ⟨gb207, 1, none⟩) (Kd.S_far (p := ⟨gb207, 0, none⟩) (Kd.S_types HO191.out BK207.out (by decide)) (fun _ hk => hk.2) (.int .i64 t202)) (fun _ hk => hk.2) (.slice Ao28 t203.length co28)) (fun _ _ => trivial)⟩, ⟨by (with_reducible repeat (first | apply Kd.S_alloc | apply Kd.S_drewN | apply Kd.S_drew)); exact Kd.S_mono (Kd.S_far (p := ⟨gb207, 1, none⟩) (Kd.S_far (p := ⟨gb207, 0, none⟩) (Kd.S_types HO205.out BK207.out (by decide)) (fun _ hk => hk.2) (.int .i64 t202)) (fun _ hk => hk.2) (.slice Ao28 t203.length co28)) (fun _ _ => trivial)⟩, ⟨bF BK193⟩, ⟨by (with_reducible repeat (first | refine blk_drewN ?_ _ | refine blk_drew ?_ | refine blk_alloc ?_ _)); refine blk_put (cs := #[.int .i64 t202, .slice none 0 0]) ?_ 1 _ rfl; (with_reducible repeat (first | refine blk_drewN ?_ _ | refine blk_drew ?_ | refine blk_alloc ?_ _)); refine blk_put (cs := #[.int .i64 0, .slice none 0 0]) ?_ 0 _ rfl; (with_reducible repeat (first | refine blk_drewN ?_ _ | refine blk_drew ?_ | refine blk_alloc ?_ _)); exact BK207.out⟩, ⟨hbC _⟩⟩
  rw [if_pos c30] at H
  have c30b0 : (t206 == 0) = true := beq_iff_eq.mpr c30
  have c30b1 : (t206 != 0) = false := bne_eq_false_iff_eq.mpr c30
  clear c30
  (first | rw [c30b0] | (simp only [i64_w, i32_w]; rw [c30b0]) | skip)
  have H' := Aside0.mk H
  clear H
  have hnb31 := NB207_193.out
  have hnc31 := NB193_207.out
  have hcz32_0 : w26.cell? ⟨gb207, 0, none⟩ = some (.int .i64 0) := bc BK207 0
  have hcz32_1 : w26.cell? ⟨gb207, 1, none⟩ = some (.slice none 0 0) := bc BK207 1
  have hfz32_0 := fz BK207 0
  have hfz32_1 := fz BK207 1
  have hcz33_0 : w26.cell? ⟨gb193, 0, none⟩ = some (.int .i64 t188) := bc BK193 0
  have hcz33_1 : w26.cell? ⟨gb193, 1, none⟩ = some (.slice Ao16 t189.length co16) := bc BK193 1
  have hfz33_0 := fz BK193 0
  have hfz33_1 := fz BK193 1
  go_wp2
  go_meet
  case rel => exact ⟨_, (t202), (t203), (.slice Ao28 t203.length co28), H', ⟨by first | omega | exact Nat.le_refl _⟩, ⟨by (with_reducible repeat (first | apply Kd.S_alloc | apply Kd.S_drewN | apply Kd.S_drew)); exact Kd.S_mono (Kd.S_far (p := ⟨gb193, 1, none⟩) (Kd.S_far (p := ⟨gb193, 0, none⟩) (Kd.S_far (p := ⟨gb207, 1, none⟩) (Kd.S_far (p := ⟨gb207, 0, none⟩) (Kd.S_types (Kd.S_types HO205.out BK207.out (by decide)) BK193.out (by decide)) (fun _ hk => hk.1.2) (.int .i64 t202)) (fun _ hk => hk.1.2) (.slice Ao28 t203.length co28)) (fun _ hk => hk.2) (.int .i64 t202)) (fun _ hk => hk.2) (.slice Ao28 t203.length co28)) (fun _ hk => trivial)⟩, ⟨by (with_reducible repeat (first | apply Kd.S_alloc | apply Kd.S_drewN | apply Kd.S_drew)); exact Kd.S_mono (Kd.S_far (p := ⟨gb193, 1, none⟩) (Kd.S_far (p := ⟨gb193, 0, none⟩) (Kd.S_far (p := ⟨gb207, 1, none⟩) (Kd.S_far (p := ⟨gb207, 0, none⟩) (Kd.S_types (Kd.S_types HO205.out BK207.out (by decide)) BK193.out (by decide)) (fun _ hk => hk.1.2) (.int .i64 t202)) (fun _ hk => hk.1.2) (.slice Ao28 t203.length co28)) (fun _ hk => hk.2) (.int .i64 t202)) (fun _ hk => hk.2) (.slice Ao28 t203.length co28)) (fun _ hk => trivial)⟩, ⟨by (with_reducible repeat (first | refine blk_drewN ?_ _ | refine blk_drew ?_ | refine blk_alloc ?_ _)); refine blk_put (cs := #[.int .i64 t202, .slice Ao16 t189.length co16]) ?_ 1 _ rfl; (with_reducible repeat (first | refine blk_drewN ?_ _ | refine blk_drew ?_ | refine blk_alloc ?_ _)); refine blk_put (cs := #[.int .i64 t188, .slice Ao16 t189.length co16]) ?_ 0 _ rfl; (with_reducible repeat (first | refine blk_drewN ?_ _ | refine blk_drew ?_ | refine blk_alloc ?_ _)); refine blk_far ?_ NB193_207.out _; (with_reducible repeat (first | refine blk_drewN ?_ _ | refine blk_drew ?_ | refine blk_alloc ?_ _)); refine blk_far ?_ NB193_207.out _; (with_reducible repeat (first | refine blk_drewN ?_ _ | refine blk_drew ?_ | refine blk_alloc ?_ _)); exact BK193.out⟩, ⟨by (with_reducible repeat (first | refine blk_drewN ?_ _ | refine blk_drew ?_ | refine blk_alloc ?_ _)); refine blk_far ?_ NB207_193.out _; (with_reducible repeat (first | refine blk_drewN ?_ _ | refine blk_drew ?_ | refine blk_alloc ?_ _)); refine blk_far ?_ NB207_193.out _; (with_reducible repeat (first | refine blk_drewN ?_ _ | refine blk_drew ?_ | refine blk_alloc ?_ _)); refine blk_put (cs := #[.int .i64 t202, .slice none 0 0]) ?_ 1 _ rfl; (with_reducible repeat (first | refine blk_drewN ?_ _ | refine blk_drew ?_ | refine blk_alloc ?_ _)); refine blk_put (cs := #[.int .i64 0, .slice none 0 0]) ?_ 0 _ rfl; (with_reducible repeat (first | refine blk_drewN ?_ _ | refine blk_drew ?_ | refine blk_alloc ?_ _)); exact BK207.out⟩, ⟨hbC _⟩⟩
 case rest =>
  as_aux_lemma =>
  clear HC12
  try clear c1
  try clear p2
  try clear c3
  try clear c5
  try clear c6
  try clear p6
  try clear c7
  try clear c30
  try clear c30b0
  try clear c30b1
  try clear c31
  try clear c34
  try clear c34b0
  try clear c34b1
  try clear hcz32_0
  try clear hcz32_1
  try clear hcz33_0
  try clear hcz33_1
  try clear hfz32_0
  try clear hfz32_1
  try clear hfz33_0
  try clear hfz33_1
  obtain ⟨kq, x194000_11, x194001_11, u194001, HA, HJ11, HO_194001, HO_208001, BK193, BK207, HB⟩ := hcut
  obtain ⟨vb7, hvb7⟩ : ∃ v_ : Value, v_ = (.slice Ao28 t203.length co28) := ⟨_, rfl⟩
  rw [← hvb7] at BK207
  clear hvb7 HO_208001
  obtain ⟨Ao28, co28, t203, e1_, e2_, e3_⟩ : ∃ (A_ : Option Addr) (c_ : Nat) (t_ : List (List Int)), A_ = none ∧ c_ = 0 ∧ t_ = [] := ⟨none, 0, [], rfl, rfl, rfl⟩
  have HO_208001 := ak (show Kd.S (Kd.slice 3 (Kd.int .i64)) 22 wc w.heap.size (fun k_ => some k_ ≠ u194001.ownBlock) (.slice Ao28 t203.length co28) t203 by subst e1_ e2_ e3_; exact Kd.S_nil _ _ _ _ _)
  replace HO_194001 := ak (Kd.S_mono (ok' := fun k_ => some k_ ≠ ((.slice Ao28 t203.length co28) : Value).ownBlock) HO_194001.out (fun k_ _ => by subst e1_; simp [Value.ownBlock]))
  clear e1_ e2_ e3_
  cases kq with
  | zero => exact absurd HA.out (by simp [congoutop_TopPlane.j0])
  | succ kj11 =>
   have H := HA.out
   clear HA
   simp only [congoutop_TopPlane.j0] at H
   have HC35 := Aside0.mk H
   clear H
   go_upto_region 9 with (fail)
   go_cut [87] (fun v87 wc => ∃ (kq : Nat) (x87_34 : Bool), v87 = .bool x87_34 ∧ Aside0 (congoutop_TopPlane.j1 kq l2 x87_34 x194000_11 x194001_11 = some r) ∧ Aside0 (kq ≤ kj11) ∧ Aside0 (Kd.S (Kd.slice 3 (Kd.int .i64)) 22 wc w.heap.size (fun k_ => some k_ ≠ ((.slice Ao28 t203.length co28) : Value).ownBlock) u194001 x194001_11) ∧ Aside0 (Kd.S (Kd.slice 3 (Kd.int .i64)) 22 wc w.heap.size (fun k_ => nb k_ u194001) (.slice Ao28 t203.length co28) t203) ∧ Aside0 (wc.heap[gb193]? = some (.cells #[.int .i64 x194000_11, u194001] 25 (0, 0))) ∧ Aside0 (wc.heap[gb207]? = some (.cells #[.int .i64 t202, vb7] 25 (0, 0))) ∧ Aside0 (Below w.heap.size w wc))
   case first =>
    as_aux_lemma =>
    have H := HC35.out
    clear HC35
    replace H := Option.bind_eq_some_iff.mp H
    obtain ⟨t208, A360, H⟩ := H
    replace H : (if t208 = true then (if x194000_11 = 3 then (if (x194001_11.length : Int) = 9 then (if 0 < (x194001_11.length : Int) then (if ((rd_L1 x194001_11 0).length : Int) = 4 then ((congouref09_Names.f kj11 9 l2).bind fun t210 => (congoutop_TopPlane.j1 kj11 l2 (!t210) x194000_11 x194001_11)) else (congoutop_TopPlane.j1 kj11 l2 true x194000_11 x194001_11)) else (none)) else (congoutop_TopPlane.j1 kj11 l2 true x194000_11 x194001_11)) else (congoutop_TopPlane.j1 kj11 l2 true x194000_11 x194001_11)) else (congoutop_TopPlane.j1 kj11 l2 true x194000_11 x194001_11)) = some r := H
    have A36 := Aside0.mk A360
    clear A360
    by_cases c37 : t208 = true
    rotate_left
    ·replace c37 := Bool.eq_false_iff.mpr c37
     subst c37
     have H1 : (congoutop_TopPlane.j1 kj11 l2 true x194000_11 x194001_11) = some r := by rw [if_neg (show ¬ (false = true) by decide)] at H; exact H
     clear H
     have H := H1
     clear H1
     have H' := Aside0.mk H
     clear H
     have hnb63 := NB193_207.out
     have hnc63 := NB207_193.out
     have hcz64_0 : wc.cell? ⟨gb193, 0, none⟩ = some (.int .i64 x194000_11) := bc BK193 0
     have hcz64_1 : wc.cell? ⟨gb193, 1, none⟩ = some (u194001) := bc BK193 1
     have hfz64_0 := fz BK193 0
     have hfz64_1 := fz BK193 1
     obtain ⟨Ao65, co65, eo65⟩ := Kd.S_slice HO_194001.out
     subst eo65
     go_wp2_with (first | ((with_reducible refine gate_callee (f := 8) rfl ?_); refine gL 62 Try.func8 #[.agg #[.int .i64 x194000_11, .slice Ao65 x194001_11.length co65]] ?_; (with_reducible refine (congouref09_Valid.calls kj11 x194000_11 _ _ x194001_11 false _ ?side1 ?side2 A36.out).mono ?_); (case side1 => repeat (first | exact (Kd.S_reads' HO_194001.out).2.2 | (with_reducible refine Kd.C_alloc ?_ _) | (with_reducible refine Kd.C_drewN ?_ _) | (with_reducible refine Kd.C_drew ?_))); (case side2 => exact (Kd.S_reads' HO_194001.out).2.1); rintro e w66 ⟨rfl, hb⟩; refine ⟨_, rfl, ?_⟩; replace HO_194001 := ak (Kd.S_below (by (with_reducible repeat (first | apply Kd.S_alloc | apply Kd.S_drewN | apply Kd.S_drew)); exact HO_194001.out) hb); replace HO_208001 := ak (Kd.S_below (by (with_reducible repeat (first | apply Kd.S_alloc | apply Kd.S_drewN | apply Kd.S_drew)); exact HO_208001.out) hb); replace BK193 := kB BK193 hb; replace BK207 := kB BK207 hb; replace HB := kH _ hb; (try clear hb); (try clear hb2); (try clear hk); (try clear hi)))
     go_meet
     case rel => exact ⟨_, (true), (by first | rfl | (simp; done) | (simp [*]; done)), H', ⟨by have := HJ11.out; first | omega | exact Nat.le_refl _⟩, ⟨by (with_reducible repeat (first | apply Kd.S_alloc | apply Kd.S_drewN | apply Kd.S_drew)); exact HO_194001.out⟩, ⟨by (with_reducible repeat (first | apply Kd.S_alloc | apply Kd.S_drewN | apply Kd.S_drew)); exact HO_208001.out⟩, ⟨bkC BK193⟩, ⟨bkC BK207⟩, ⟨hbC _⟩⟩
    subst c37
    have H1 : (if x194000_11 = 3 then (if (x194001_11.length : Int) = 9 then (if 0 < (x194001_11.length : Int) then (if ((rd_L1 x194001_11 0).length : Int) = 4 then ((congouref09_Names.f kj11 9 l2).bind fun t210 => (congoutop_TopPlane.j1 kj11 l2 (!t210) x194000_11 x194001_11)) else (congoutop_TopPlane.j1 kj11 l2 true x194000_11 x194001_11)) else (none)) else (congoutop_TopPlane.j1 kj11 l2 true x194000_11 x194001_11)) else (congoutop_TopPlane.j1 kj11 l2 true x194000_11 x194001_11)) = some r := by rw [if_pos rfl] at H; exact H
    clear H
    have H := H1
    clear H1
    by_cases c38 : x194000_11 = 3
    rotate_left
    ·rw [if_neg c38] at H
     have c38b0 : (x194000_11 == 3) = false := beq_eq_false_iff_ne.mpr c38
     have c38b1 : (x194000_11 != 3) = true := bne_iff_ne.mpr c38
     (first | rw [c38b0] | (simp only [i64_w, i32_w]; rw [c38b0]) | skip)
     have H' := Aside0.mk H
     clear H
     have hnb58 := NB193_207.out
     have hnc58 := NB207_193.out
     have hcz59_0 : wc.cell? ⟨gb193, 0, none⟩ = some (.int .i64 x194000_11) := bc BK193 0
     have hcz59_1 : wc.cell? ⟨gb193, 1, none⟩ = some (u194001) := bc BK193 1
     have hfz59_0 := fz BK193 0
     have hfz59_1 := fz BK193 1
     obtain ⟨Ao60, co60, eo60⟩ := Kd.S_slice HO_194001.out
     subst eo60
     go_wp2_with (first | ((with_reducible refine gate_callee (f := 8) rfl ?_); refine gL 62 Try.func8 #[.agg #[.int .i64 x194000_11, .slice Ao60 x194001_11.length co60]] ?_; (with_reducible refine (congouref09_Valid.calls kj11 x194000_11 _ _ x194001_11 true _ ?side1 ?side2 A36.out).mono ?_); (case side1 => repeat (first | exact (Kd.S_reads' HO_194001.out).2.2 | (with_reducible refine Kd.C_alloc ?_ _) | (with_reducible refine Kd.C_drewN ?_ _) | (with_reducible refine Kd.C_drew ?_))); (case side2 => exact (Kd.S_reads' HO_194001.out).2.1); rintro e w61 ⟨rfl, hb⟩; refine ⟨_, rfl, ?_⟩; replace HO_194001 := ak (Kd.S_below (by (with_reducible repeat (first | apply Kd.S_alloc | apply Kd.S_drewN | apply Kd.S_drew)); exact HO_194001.out) hb); replace HO_208001 := ak (Kd.S_below (by (with_reducible repeat (first | apply Kd.S_alloc | apply Kd.S_drewN | apply Kd.S_drew)); exact HO_208001.out) hb); replace BK193 := kB BK193 hb; replace BK207 := kB BK207 hb; replace HB := kH _ hb; (try clear hb); (try clear hb2); (try clear hk); (try clear hi); have hcz62_0 : w61.cell? ⟨gb193, 0, none⟩ = some (.int .i64 x194000_11) := bc BK193 0; have hcz62_1 : w61.cell? ⟨gb193, 1, none⟩ = some (.slice Ao60 x194001_11.length co60) := bc BK193 1; have hfz62_0 := fz BK193 0; have hfz62_1 := fz BK193 1))
     go_meet
     case rel => exact ⟨_, (true), (by first | rfl | (simp; done) | (simp [*]; done)), H', ⟨by have := HJ11.out; first | omega | exact Nat.le_refl _⟩, ⟨by (with_reducible repeat (first | apply Kd.S_alloc | apply Kd.S_drewN | apply Kd.S_drew)); exact HO_194001.out⟩, ⟨by (with_reducible repeat (first | apply Kd.S_alloc | apply Kd.S_drewN | apply Kd.S_drew)); exact HO_208001.out⟩, ⟨bkC BK193⟩, ⟨bkC BK207⟩, ⟨hbC _⟩⟩
    rw [if_pos c38] at H
    have c38b0 : (x194000_11 == 3) = true := beq_iff_eq.mpr c38
    have c38b1 : (x194000_11 != 3) = false := bne_eq_false_iff_eq.mpr c38
    clear c38
    (first | rw [c38b0] | (simp only [i64_w, i32_w]; rw [c38b0]) | skip)
    by_cases c39 : (x194001_11.length : Int) = 9
    rotate_left
    ·rw [if_neg c39] at H
     have c39b0 : ((x194001_11.length : Int) == 9) = false := beq_eq_false_iff_ne.mpr c39
     have c39b1 : ((x194001_11.length : Int) != 9) = true := bne_iff_ne.mpr c39
     have H' := Aside0.mk H
     clear H
     have hnb53 := NB193_207.out
     have hnc53 := NB207_193.out
     have hcz54_0 : wc.cell? ⟨gb193, 0, none⟩ = some (.int .i64 x194000_11) := bc BK193 0
     have hcz54_1 : wc.cell? ⟨gb193, 1, none⟩ = some (u194001) := bc BK193 1
     have hfz54_0 := fz BK193 0
     have hfz54_1 := fz BK193 1
     obtain ⟨Ao55, co55, eo55⟩ := Kd.S_slice HO_194001.out
     subst eo55
     go_wp2_with (first | ((with_reducible refine gate_callee (f := 8) rfl ?_); refine gL 62 Try.func8 #[.agg #[.int .i64 x194000_11, .slice Ao55 x194001_11.length co55]] ?_; (with_reducible refine (congouref09_Valid.calls kj11 x194000_11 _ _ x194001_11 true _ ?side1 ?side2 A36.out).mono ?_); (case side1 => repeat (first | exact (Kd.S_reads' HO_194001.out).2.2 | (with_reducible refine Kd.C_alloc ?_ _) | (with_reducible refine Kd.C_drewN ?_ _) | (with_reducible refine Kd.C_drew ?_))); (case side2 => exact (Kd.S_reads' HO_194001.out).2.1); rintro e w56 ⟨rfl, hb⟩; refine ⟨_, rfl, ?_⟩; replace HO_194001 := ak (Kd.S_below (by (with_reducible repeat (first | apply Kd.S_alloc | apply Kd.S_drewN | apply Kd.S_drew)); exact HO_194001.out) hb); replace HO_208001 := ak (Kd.S_below (by (with_reducible repeat (first | apply Kd.S_alloc | apply Kd.S_drewN | apply Kd.S_drew)); exact HO_208001.out) hb); replace BK193 := kB BK193 hb; replace BK207 := kB BK207 hb; replace HB := kH _ hb; (try clear hb); (try clear hb2); (try clear hk); (try clear hi); have hcz57_0 : w56.cell? ⟨gb193, 0, none⟩ = some (.int .i64 x194000_11) := bc BK193 0; have hcz57_1 : w56.cell? ⟨gb193, 1, none⟩ = some (.slice Ao55 x194001_11.length co55) := bc BK193 1; have hfz57_0 := fz BK193 0; have hfz57_1 := fz BK193 1))
     go_meet
     case rel => exact ⟨_, (true), (by first | rfl | (simp; done) | (simp [*]; done)), H', ⟨by have := HJ11.out; first | omega | exact Nat.le_refl _⟩, ⟨by (with_reducible repeat (first | apply Kd.S_alloc | apply Kd.S_drewN | apply Kd.S_drew)); exact HO_194001.out⟩, ⟨by (with_reducible repeat (first | apply Kd.S_alloc | apply Kd.S_drewN | apply Kd.S_drew)); exact HO_208001.out⟩, ⟨bkC BK193⟩, ⟨bkC BK207⟩, ⟨hbC _⟩⟩
    rw [if_pos c39] at H
    have c39b0 : ((x194001_11.length : Int) == 9) = true := beq_iff_eq.mpr c39
    have c39b1 : ((x194001_11.length : Int) != 9) = false := bne_eq_false_iff_eq.mpr c39
    clear c39
    by_cases c40 : 0 < (x194001_11.length : Int)
    rotate_left
    ·rw [if_neg c40] at H
     exact absurd H (by simp)
    rw [if_pos c40] at H
    have c40b0 : decide (0 < (x194001_11.length : Int)) = true := decide_eq_true c40
    have c40b1 : decide (0 < x194001_11.length) = true := decide_eq_true (by omega)
    clear c40
    by_cases c41 : ((rd_L1 x194001_11 0).length : Int) = 4
    rotate_left
    ·rw [if_neg c41] at H
     have c41b0 : (((rd_L1 x194001_11 0).length : Int) == 4) = false := beq_eq_false_iff_ne.mpr c41
     have c41b1 : (((rd_L1 x194001_11 0).length : Int) != 4) = true := bne_iff_ne.mpr c41
     have H' := Aside0.mk H
     clear H
     have hnb48 := NB193_207.out
     have hnc48 := NB207_193.out
     have hcz49_0 : wc.cell? ⟨gb193, 0, none⟩ = some (.int .i64 x194000_11) := bc BK193 0
     have hcz49_1 : wc.cell? ⟨gb193, 1, none⟩ = some (u194001) := bc BK193 1
     have hfz49_0 := fz BK193 0
     have hfz49_1 := fz BK193 1
     obtain ⟨Ao50, co50, eo50⟩ := Kd.S_slice HO_194001.out
     subst eo50
     go_wp2_with (first | ((with_reducible refine gate_callee (f := 8) rfl ?_); refine gL 62 Try.func8 #[.agg #[.int .i64 x194000_11, .slice Ao50 x194001_11.length co50]] ?_; (with_reducible refine (congouref09_Valid.calls kj11 x194000_11 _ _ x194001_11 true _ ?side1 ?side2 A36.out).mono ?_); (case side1 => repeat (first | exact (Kd.S_reads' HO_194001.out).2.2 | (with_reducible refine Kd.C_alloc ?_ _) | (with_reducible refine Kd.C_drewN ?_ _) | (with_reducible refine Kd.C_drew ?_))); (case side2 => exact (Kd.S_reads' HO_194001.out).2.1); rintro e w51 ⟨rfl, hb⟩; refine ⟨_, rfl, ?_⟩; replace HO_194001 := ak (Kd.S_below (by (with_reducible repeat (first | apply Kd.S_alloc | apply Kd.S_drewN | apply Kd.S_drew)); exact HO_194001.out) hb); replace HO_208001 := ak (Kd.S_below (by (with_reducible repeat (first | apply Kd.S_alloc | apply Kd.S_drewN | apply Kd.S_drew)); exact HO_208001.out) hb); replace BK193 := kB BK193 hb; replace BK207 := kB BK207 hb; replace HB := kH _ hb; (try clear hb); (try clear hb2); (try clear hk); (try clear hi); have hcz52_0 : w51.cell? ⟨gb193, 0, none⟩ = some (.int .i64 x194000_11) := bc BK193 0; have hcz52_1 : w51.cell? ⟨gb193, 1, none⟩ = some (.slice Ao50 x194001_11.length co50) := bc BK193 1; have hfz52_0 := fz BK193 0; have hfz52_1 := fz BK193 1; have p209 : 0 ≤ (0 : Int) := (by omega); have q209 : 0 < (x194001_11.length : Int) := dA; obtain ⟨ad209, A209_0, c209_0, e209, hx209_0, hl209_0, hi209_0⟩ := at_L1 (Kd.S_reads' HO_194001.out).2.2 0 p209 q209; cases e209; obtain ⟨ce209, hce209, hMe209, hcc209⟩ := Kd.S_get HO_194001.out [] 0 p209 (by first | exact q209 | exact dA | (have e_ := (Kd.S_reads' HO_194001.out).1; omega)); obtain ⟨ve209_0, rfl, ge209_0⟩ := hMe209; have hv209_0 := hcc209 0 _ rfl; rw [Nat.add_zero, show ((Kd.slice 3 (Kd.int .i64))).sz = 1 from rfl, Nat.mul_one] at hv209_0; replace hv209_0 := Option.some.inj (hv209_0.symm.trans hx209_0); rw [hv209_0] at ge209_0; have HL209_0 := ak (show Kd.R (Kd.int .i64) 3 _ _ _ _ (rd_L1 x194001_11 0) from ge209_0); clear hv209_0 ge209_0; clear hcc209 hce209; have qi209 : (0 < x194001_11.length) = True := eq_true (by omega); (try rw [show ((0 : Int)).toNat = 0 from rfl] at hx209_0); (try rw [Addr.add_zero'] at hx209_0); have HR209_0 := Aside0.mk hi209_0; have HC209_0 := Aside0.mk hl209_0; clear hi209_0 hl209_0; replace p209 := eq_true p209; replace q209 := eq_true q209))
     go_meet
     case rel => exact ⟨_, (true), (by first | rfl | (simp; done) | (simp [*]; done)), H', ⟨by have := HJ11.out; first | omega | exact Nat.le_refl _⟩, ⟨by (with_reducible repeat (first | apply Kd.S_alloc | apply Kd.S_drewN | apply Kd.S_drew)); exact HO_194001.out⟩, ⟨by (with_reducible repeat (first | apply Kd.S_alloc | apply Kd.S_drewN | apply Kd.S_drew)); exact HO_208001.out⟩, ⟨bkC BK193⟩, ⟨bkC BK207⟩, ⟨hbC _⟩⟩
    rw [if_pos c41] at H
    have c41b0 : (((rd_L1 x194001_11 0).length : Int) == 4) = true := beq_iff_eq.mpr c41
    have c41b1 : (((rd_L1 x194001_11 0).length : Int) != 4) = false := bne_eq_false_iff_eq.mpr c41
    clear c41
    replace H := Option.bind_eq_some_iff.mp H
    obtain ⟨t210, A420, H⟩ := H
    replace H : (congoutop_TopPlane.j1 kj11 l2 (!t210) x194000_11 x194001_11) = some r := H
    have A42 := Aside0.mk A420
    clear A420
    have H' := Aside0.mk H
    clear H
    have hnb43 := NB193_207.out
    have hnc43 := NB207_193.out
    have hcz44_0 : wc.cell? ⟨gb193, 0, none⟩ = some (.int .i64 x194000_11) := bc BK193 0
    have hcz44_1 : wc.cell? ⟨gb193, 1, none⟩ = some (u194001) := bc BK193 1
    have hfz44_0 := fz BK193 0
    have hfz44_1 := fz BK193 1
    obtain ⟨Ao45, co45, eo45⟩ := Kd.S_slice HO_194001.out
    subst eo45
    go_wp2_with (first | ((with_reducible refine gate_callee (f := 8) rfl ?_); refine gL 62 Try.func8 #[.agg #[.int .i64 x194000_11, .slice Ao45 x194001_11.length co45]] ?_; (with_reducible refine (congouref09_Valid.calls kj11 x194000_11 _ _ x194001_11 true _ ?side1 ?side2 A36.out).mono ?_); (case side1 => repeat (first | exact (Kd.S_reads' HO_194001.out).2.2 | (with_reducible refine Kd.C_alloc ?_ _) | (with_reducible refine Kd.C_drewN ?_ _) | (with_reducible refine Kd.C_drew ?_))); (case side2 => exact (Kd.S_reads' HO_194001.out).2.1); rintro e w46 ⟨rfl, hb⟩; refine ⟨_, rfl, ?_⟩; replace HO_194001 := ak (Kd.S_below (by (with_reducible repeat (first | apply Kd.S_alloc | apply Kd.S_drewN | apply Kd.S_drew)); exact HO_194001.out) hb); replace HO_208001 := ak (Kd.S_below (by (with_reducible repeat (first | apply Kd.S_alloc | apply Kd.S_drewN | apply Kd.S_drew)); exact HO_208001.out) hb); replace BK193 := kB BK193 hb; replace BK207 := kB BK207 hb; replace HB := kH _ hb; (try clear hb); (try clear hb2); (try clear hk); (try clear hi); have hcz47_0 : w46.cell? ⟨gb193, 0, none⟩ = some (.int .i64 x194000_11) := bc BK193 0; have hcz47_1 : w46.cell? ⟨gb193, 1, none⟩ = some (.slice Ao45 x194001_11.length co45) := bc BK193 1; have hfz47_0 := fz BK193 0; have hfz47_1 := fz BK193 1; have p209 : 0 ≤ (0 : Int) := (by omega); have q209 : 0 < (x194001_11.length : Int) := dA; obtain ⟨ad209, A209_0, c209_0, e209, hx209_0, hl209_0, hi209_0⟩ := at_L1 (Kd.S_reads' HO_194001.out).2.2 0 p209 q209; cases e209; obtain ⟨ce209, hce209, hMe209, hcc209⟩ := Kd.S_get HO_194001.out [] 0 p209 (by first | exact q209 | exact dA | (have e_ := (Kd.S_reads' HO_194001.out).1; omega)); obtain ⟨ve209_0, rfl, ge209_0⟩ := hMe209; have hv209_0 := hcc209 0 _ rfl; rw [Nat.add_zero, show ((Kd.slice 3 (Kd.int .i64))).sz = 1 from rfl, Nat.mul_one] at hv209_0; replace hv209_0 := Option.some.inj (hv209_0.symm.trans hx209_0); rw [hv209_0] at ge209_0; have HL209_0 := ak (show Kd.R (Kd.int .i64) 3 _ _ _ _ (rd_L1 x194001_11 0) from ge209_0); clear hv209_0 ge209_0; clear hcc209 hce209; have qi209 : (0 < x194001_11.length) = True := eq_true (by omega); (try rw [show ((0 : Int)).toNat = 0 from rfl] at hx209_0); (try rw [Addr.add_zero'] at hx209_0); have HR209_0 := Aside0.mk hi209_0; have HC209_0 := Aside0.mk hl209_0; clear hi209_0 hl209_0; replace p209 := eq_true p209; replace q209 := eq_true q209) | (go_at_call 9; (with_reducible refine (congouref09_Names.calls kj11 9 _ _ l2 t210 _ ?side1 ?side2 A42.out).mono ?_); (case side1 => exact kC HR2); (case side2 => exact HC2.out); rintro e w' ⟨rfl, ⟨nd, rfl⟩⟩))
    go_meet
    case rel => exact ⟨_, (!t210), (by first | rfl | (simp; done) | (simp [*]; done)), H', ⟨by have := HJ11.out; first | omega | exact Nat.le_refl _⟩, ⟨by (with_reducible repeat (first | apply Kd.S_alloc | apply Kd.S_drewN | apply Kd.S_drew)); exact HO_194001.out⟩, ⟨by (with_reducible repeat (first | apply Kd.S_alloc | apply Kd.S_drewN | apply Kd.S_drew)); exact HO_208001.out⟩, ⟨bkC BK193⟩, ⟨bkC BK207⟩, ⟨hbC _⟩⟩
   case rest =>
    as_aux_lemma =>
    clear HC35
    try clear c1
    try clear c2
    try clear p2
    try clear q2
    try clear hx2
    try clear qi2
    try clear c3
    try clear c4
    try clear c5
    try clear c6
    try clear p6
    try clear c7
    try clear c8
    try clear c20
    try clear p20
    try clear q20
    try clear hx20
    try clear qi20
    try clear c30
    try clear c30b0
    try clear c30b1
    try clear c31
    try clear c34
    try clear c34b0
    try clear c34b1
    try clear c37
    try clear c38
    try clear c38b0
    try clear c38b1
    try clear c39
    try clear c39b0
    try clear c39b1
    try clear c40
    try clear c40b0
    try clear c40b1
    try clear c41
    try clear c41b0
    try clear c41b1
    try clear c43
    try clear c48
    try clear c53
    try clear c58
    try clear c63
    try clear p64
    try clear hcz32_0
    try clear hcz32_1
    try clear hcz33_0
    try clear hcz33_1
    try clear hcz44_0
    try clear hcz44_1
    try clear hcz47_0
    try clear hcz47_1
    try clear hcz49_0
    try clear hcz49_1
    try clear hcz52_0
    try clear hcz52_1
    try clear hcz54_0
    try clear hcz54_1
    try clear hcz57_0
    try clear hcz57_1
    try clear hcz59_0
    try clear hcz59_1
    try clear hcz62_0
    try clear hcz62_1
    try clear hcz64_0
    try clear hcz64_1
    try clear hfz32_0
    try clear hfz32_1
    try clear hfz33_0
    try clear hfz33_1
    try clear hfz44_0
    try clear hfz44_1
    try clear hfz47_0
    try clear hfz47_1
    try clear hfz49_0
    try clear hfz49_1
    try clear hfz52_0
    try clear hfz52_1
    try clear hfz54_0
    try clear hfz54_1
    try clear hfz57_0
    try clear hfz57_1
    try clear hfz59_0
    try clear hfz59_1
    try clear hfz62_0
    try clear hfz62_1
    try clear hfz64_0
    try clear hfz64_1
    try clear hx209_0
    try clear p2
    try clear p209
    try clear p6
    try clear q209
    obtain ⟨kq, x87_34, rfl, HA, HJ34, HO_194001, HO_208001, BK193, BK207, HB⟩ := hcut
    cases kq with
    | zero => exact absurd HA.out (by simp [congoutop_TopPlane.j1])
    | succ kj34 =>
     have H := HA.out
     clear HA
     simp only [congoutop_TopPlane.j1] at H
     by_cases c67 : x87_34 = true
     ·subst c67
      have H1 : (if (x194001_11.length : Int) = 9 then ((congoutop_apart.f kj34).bind fun t211 => (some t211)) else (some false)) = some r := by rw [if_pos rfl] at H; exact H
      clear H
      have H := H1
      clear H1
      by_cases c68 : (x194001_11.length : Int) = 9
      rotate_left
      ·rw [if_neg c68] at H
       have c68b0 : ((x194001_11.length : Int) == 9) = false := beq_eq_false_iff_ne.mpr c68
       have c68b1 : ((x194001_11.length : Int) != 9) = true := bne_iff_ne.mpr c68
       exact absurd (H.trans (congrArg some HRT.out)) (by simp)
      rw [if_pos c68] at H
      have c68b0 : ((x194001_11.length : Int) == 9) = true := beq_iff_eq.mpr c68
      have c68b1 : ((x194001_11.length : Int) != 9) = false := bne_eq_false_iff_eq.mpr c68
      clear c68
      replace H := Option.bind_eq_some_iff.mp H
      obtain ⟨t211, A690, H⟩ := H
      replace H : (some t211) = some r := H
      have A69 := Aside0.mk A690
      clear A690
      obtain rfl := Option.some.inj H
      have hnb70 := NB193_207.out
      have hnc70 := NB207_193.out
      have hcz71_0 : wc.cell? ⟨gb193, 0, none⟩ = some (.int .i64 x194000_11) := bc BK193 0
      have hcz71_1 : wc.cell? ⟨gb193, 1, none⟩ = some (u194001) := bc BK193 1
      have hfz71_0 := fz BK193 0
      have hfz71_1 := fz BK193 1
      obtain ⟨Ao72, co72, eo72⟩ := Kd.S_slice HO_194001.out
      subst eo72
      go_wp2_with (first | (go_at_call 10; (with_reducible refine (congoutop_apart.calls kj34  t211 _ A69.out).mono ?_); rintro e w73 ⟨rfl, hb⟩; replace HO_194001 := ak (Kd.S_below (by (with_reducible repeat (first | apply Kd.S_alloc | apply Kd.S_drewN | apply Kd.S_drew)); exact HO_194001.out) hb); replace HO_208001 := ak (Kd.S_below (by (with_reducible repeat (first | apply Kd.S_alloc | apply Kd.S_drewN | apply Kd.S_drew)); exact HO_208001.out) hb); replace BK193 := kB BK193 hb; replace BK207 := kB BK207 hb; replace HB := kH _ hb; (try clear hb); (try clear hb2); (try clear hk); (try clear hi)))
      go_ret
      exact ⟨by first | rfl | (simp [errW_none, errW_some] <;> rfl) | (simp only [← hji7]; first | rfl | (simp [errW_none, errW_some] <;> rfl)) | (simp [*, errW_none, errW_some] <;> rfl), hbC _⟩
     replace c67 := Bool.eq_false_iff.mpr c67
     subst c67
     have H1 : (congoutop_TopPlane.l0 kj34 l2 ([] : List (S39)) 0 x194000_11 x194001_11) = some r := by rw [if_neg (show ¬ (false = true) by decide)] at H; exact H
     clear H
     have H := H1
     clear H1
     have H' := Aside0.mk H
     clear H
     go_wp2
     go_loopg [11, 95] kj34 (fun kq v11 v95 w' => ∃ (x11_3 : List (S39)) (x95_3 : Int), v95 = .int .i64 x95_3 ∧ Aside0 (congoutop_TopPlane.l0 kq l2 x11_3 x95_3 x194000_11 x194001_11 = some r) ∧ Aside0 (kq ≤ kj34) ∧ Aside0 (Kd.R k39 39 w' w.heap.size (fun _ => True) v11 x11_3) ∧ Aside0 (Kd.S (Kd.slice 3 (Kd.int .i64)) 22 w' w.heap.size (fun k_ => some k_ ≠ ((.slice Ao28 t203.length co28) : Value).ownBlock) u194001 x194001_11) ∧ Aside0 (Kd.S (Kd.slice 3 (Kd.int .i64)) 22 w' w.heap.size (fun k_ => nb k_ u194001) (.slice Ao28 t203.length co28) t203) ∧ Aside0 (w'.heap[gb193]? = some (.cells #[.int .i64 x194000_11, u194001] 25 (0, 0))) ∧ Aside0 (w'.heap[gb207]? = some (.cells #[.int .i64 t202, vb7] 25 (0, 0))) ∧ Aside0 (Below w.heap.size w w'))
     case atStart => exact ⟨(([] : List (S39))), (0), (by first | rfl | (simp; done) | (simp [*]; done)), H', ⟨Nat.le_refl _⟩, ⟨by first | exact Kd.R_nil _ _ _ _ _ | exact Kd.N_nil _ _ _ _ _ | exact Kd.V_nil _ _ _ _ _ | exact Kd.Q_nil _ _ _ _ _ | exact Kd.S_nil _ _ _ _ _⟩, ⟨by (with_reducible repeat (first | apply Kd.S_alloc | apply Kd.S_drewN | apply Kd.S_drew)); exact HO_194001.out⟩, ⟨by (with_reducible repeat (first | apply Kd.S_alloc | apply Kd.S_drewN | apply Kd.S_drew)); exact HO_208001.out⟩, ⟨bkC BK193⟩, ⟨bkC BK207⟩, ⟨hbC _⟩⟩
     case round =>
      as_aux_lemma =>
      clear H'
      try clear c1
      try clear c2
      try clear p2
      try clear q2
      try clear hx2
      try clear qi2
      try clear c3
      try clear c4
      try clear c5
      try clear c6
      try clear p6
      try clear c7
      try clear c8
      try clear c20
      try clear p20
      try clear q20
      try clear hx20
      try clear qi20
      try clear c30
      try clear c30b0
      try clear c30b1
      try clear c31
      try clear c34
      try clear c34b0
      try clear c34b1
      try clear c37
      try clear c38
      try clear c38b0
      try clear c38b1
      try clear c39
      try clear c39b0
      try clear c39b1
      try clear c40
      try clear c40b0
      try clear c40b1
      try clear c41
      try clear c41b0
      try clear c41b1
      try clear c43
      try clear c48
      try clear c53
      try clear c58
      try clear c63
      try clear p64
      try clear c67
      try clear c68
      try clear c68b0
      try clear c68b1
      try clear c70
      try clear hcz32_0
      try clear hcz32_1
      try clear hcz33_0
      try clear hcz33_1
      try clear hcz44_0
      try clear hcz44_1
      try clear hcz47_0
      try clear hcz47_1
      try clear hcz49_0
      try clear hcz49_1
      try clear hcz52_0
      try clear hcz52_1
      try clear hcz54_0
      try clear hcz54_1
      try clear hcz57_0
      try clear hcz57_1
      try clear hcz59_0
      try clear hcz59_1
      try clear hcz62_0
      try clear hcz62_1
      try clear hcz64_0
      try clear hcz64_1
      try clear hcz71_0
      try clear hcz71_1
      try clear hfz32_0
      try clear hfz32_1
      try clear hfz33_0
      try clear hfz33_1
      try clear hfz44_0
      try clear hfz44_1
      try clear hfz47_0
      try clear hfz47_1
      try clear hfz49_0
      try clear hfz49_1
      try clear hfz52_0
      try clear hfz52_1
      try clear hfz54_0
      try clear hfz54_1
      try clear hfz57_0
      try clear hfz57_1
      try clear hfz59_0
      try clear hfz59_1
      try clear hfz62_0
      try clear hfz62_1
      try clear hfz64_0
      try clear hfz64_1
      try clear hfz71_0
      try clear hfz71_1
      try clear hx209_0
      try clear p2
      try clear p20
      try clear p209
      try clear p6
      try clear p64
      try clear q2
      try clear q20
      try clear q209
      obtain ⟨x11_3, x95_3, rfl, HA, HK3, HO_11, HO_194001, HO_208001, BK193, BK207, HB⟩ := hrel
      cases gk with
      | zero => exact absurd HA.out (by simp [congoutop_TopPlane.l0])
      | succ k3 =>
       have H := HA.out
       clear HA
       simp only [congoutop_TopPlane.l0] at H
       by_cases c74 : x95_3 < 4
       ·rw [if_pos c74] at H
        have c74b0 : decide (x95_3 < 4) = true := decide_eq_true c74
        clear c74
        have H' := Aside0.mk H
        clear H
        go_wp2
        go_loopg [11, 98] k3 (fun kq v11 v98 w' => ∃ (x11_4 : List (S39)) (x98_4 : Int), v98 = .int .i64 x98_4 ∧ Aside0 (congoutop_TopPlane.l1 kq l2 x11_4 x95_3 x95_3 x98_4 x194000_11 x194001_11 = some r) ∧ Aside0 (kq ≤ k3) ∧ Aside0 (Kd.R k39 39 w' w.heap.size (fun _ => True) v11 x11_4) ∧ Aside0 (Kd.S (Kd.slice 3 (Kd.int .i64)) 22 w' w.heap.size (fun k_ => some k_ ≠ ((.slice Ao28 t203.length co28) : Value).ownBlock) u194001 x194001_11) ∧ Aside0 (Kd.S (Kd.slice 3 (Kd.int .i64)) 22 w' w.heap.size (fun k_ => nb k_ u194001) (.slice Ao28 t203.length co28) t203) ∧ Aside0 (w'.heap[gb193]? = some (.cells #[.int .i64 x194000_11, u194001] 25 (0, 0))) ∧ Aside0 (w'.heap[gb207]? = some (.cells #[.int .i64 t202, vb7] 25 (0, 0))) ∧ Aside0 (Below w.heap.size w w'))
        case atStart => exact ⟨(x11_3), (0), (by first | rfl | (simp; done) | (simp [*]; done)), H', ⟨Nat.le_refl _⟩, ⟨rC HO_11⟩, ⟨by (with_reducible repeat (first | apply Kd.S_alloc | apply Kd.S_drewN | apply Kd.S_drew)); exact HO_194001.out⟩, ⟨by (with_reducible repeat (first | apply Kd.S_alloc | apply Kd.S_drewN | apply Kd.S_drew)); exact HO_208001.out⟩, ⟨bkC BK193⟩, ⟨bkC BK207⟩, ⟨hbC _⟩⟩
        case round =>
         as_aux_lemma =>
         clear H'
         try clear c1
         try clear c2
         try clear p2
         try clear q2
         try clear hx2
         try clear qi2
         try clear c3
         try clear c4
         try clear c5
         try clear c6
         try clear p6
         try clear c7
         try clear c8
         try clear c20
         try clear p20
         try clear q20
         try clear hx20
         try clear qi20
         try clear c30
         try clear c30b0
         try clear c30b1
         try clear c31
         try clear c34
         try clear c34b0
         try clear c34b1
         try clear c37
         try clear c38
         try clear c38b0
         try clear c38b1
         try clear c39
         try clear c39b0
         try clear c39b1
         try clear c40
         try clear c40b0
         try clear c40b1
         try clear c41
         try clear c41b0
         try clear c41b1
         try clear c43
         try clear c48
         try clear c53
         try clear c58
         try clear c63
         try clear p64
         try clear c67
         try clear c68
         try clear c68b0
         try clear c68b1
         try clear c70
         try clear c74
         try clear c74b0
         try clear hcz32_0
         try clear hcz32_1
         try clear hcz33_0
         try clear hcz33_1
         try clear hcz44_0
         try clear hcz44_1
         try clear hcz47_0
         try clear hcz47_1
         try clear hcz49_0
         try clear hcz49_1
         try clear hcz52_0
         try clear hcz52_1
         try clear hcz54_0
         try clear hcz54_1
         try clear hcz57_0
         try clear hcz57_1
         try clear hcz59_0
         try clear hcz59_1
         try clear hcz62_0
         try clear hcz62_1
         try clear hcz64_0
         try clear hcz64_1
         try clear hcz71_0
         try clear hcz71_1
         try clear hfz32_0
         try clear hfz32_1
         try clear hfz33_0
         try clear hfz33_1
         try clear hfz44_0
         try clear hfz44_1
         try clear hfz47_0
         try clear hfz47_1
         try clear hfz49_0
         try clear hfz49_1
         try clear hfz52_0
         try clear hfz52_1
         try clear hfz54_0
         try clear hfz54_1
         try clear hfz57_0
         try clear hfz57_1
         try clear hfz59_0
         try clear hfz59_1
         try clear hfz62_0
         try clear hfz62_1
         try clear hfz64_0
         try clear hfz64_1
         try clear hfz71_0
         try clear hfz71_1
         try clear hx209_0
         try clear p2
         try clear p20
         try clear p209
         try clear p6
         try clear p64
         try clear q2
         try clear q20
         try clear q209
         obtain ⟨x11_4, x98_4, rfl, HA, HK4, HO_11, HO_194001, HO_208001, BK193, BK207, HB⟩ := hrel
         cases gk with
         | zero => exact absurd HA.out (by simp [congoutop_TopPlane.l1])
         | succ k4 =>
          have H := HA.out
          clear HA
          simp only [congoutop_TopPlane.l1] at H
          by_cases c75 : x98_4 < 3
          rotate_left
          ·rw [if_neg c75] at H
           have c75b0 : decide (x98_4 < 3) = false := decide_eq_false c75
           clear c75
           have H' := Aside0.mk H
           clear H
           go_wp2
           go_roundg k4
           case measure => have := HJ11.out; have := HJ34.out; have := HK3.out; have := HK4.out; omega
           case rel => exact ⟨(x11_4), (wrap64 (x95_3 + 1)), (by first | rfl | (simp; done) | (simp [*]; done)), H', ⟨by have := HJ11.out; have := HJ34.out; have := HK3.out; have := HK4.out; omega⟩, ⟨rC HO_11⟩, ⟨by (with_reducible repeat (first | apply Kd.S_alloc | apply Kd.S_drewN | apply Kd.S_drew)); exact HO_194001.out⟩, ⟨by (with_reducible repeat (first | apply Kd.S_alloc | apply Kd.S_drewN | apply Kd.S_drew)); exact HO_208001.out⟩, ⟨bkC BK193⟩, ⟨bkC BK207⟩, ⟨hbC _⟩⟩
          rw [if_pos c75] at H
          have c75b0 : decide (x98_4 < 3) = true := decide_eq_true c75
          clear c75
          have H' := Aside0.mk H
          clear H
          have hnb76 := NB193_207.out
          have hnc76 := NB207_193.out
          have hcz77_0 : wr.cell? ⟨gb193, 0, none⟩ = some (.int .i64 x194000_11) := bc BK193 0
          have hcz77_1 : wr.cell? ⟨gb193, 1, none⟩ = some (u194001) := bc BK193 1
          have hfz77_0 := fz BK193 0
          have hfz77_1 := fz BK193 1
          obtain ⟨Ao78, co78, eo78⟩ := Kd.S_slice HO_194001.out
          subst eo78
          go_wp2
          go_loopg [14, 104] k4 (fun kq v14 v104 w' => ∃ (x14_5 : List Int) (x104_5 : Int), v104 = .int .i64 x104_5 ∧ Aside0 (congoutop_TopPlane.l2 kq l2 x11_4 x95_3 x98_4 x14_5 x95_3 x98_4 x194001_11 (x194001_11.length : Int) x104_5 x194000_11 x194001_11 = some r) ∧ Aside0 (kq ≤ k4) ∧ Aside0 (Kd.R k39 39 w' w.heap.size (fun _ => True) u11 x11_4) ∧ Aside0 (Kd.R (Kd.int .i64) 3 w' w.heap.size (fun _ => True) v14 x14_5) ∧ Aside0 (Kd.S (Kd.slice 3 (Kd.int .i64)) 22 w' w.heap.size (fun k_ => nb k_ v14 ∧ some k_ ≠ ((.slice Ao28 t203.length co28) : Value).ownBlock) (.slice Ao78 x194001_11.length co78) x194001_11) ∧ Aside0 (Kd.S (Kd.slice 3 (Kd.int .i64)) 22 w' w.heap.size (fun k_ => nb k_ v14 ∧ some k_ ≠ ((.slice Ao28 t203.length co28) : Value).ownBlock) (.slice Ao78 x194001_11.length co78) x194001_11) ∧ Aside0 (Kd.S (Kd.slice 3 (Kd.int .i64)) 22 w' w.heap.size (fun k_ => nb k_ v14 ∧ some k_ ≠ ((.slice Ao78 x194001_11.length co78) : Value).ownBlock ∧ some k_ ≠ ((.slice Ao78 x194001_11.length co78) : Value).ownBlock) (.slice Ao28 t203.length co28) t203) ∧ Aside0 (w'.heap[gb193]? = some (.cells #[.int .i64 x194000_11, (.slice Ao78 x194001_11.length co78)] 25 (0, 0))) ∧ Aside0 (w'.heap[gb207]? = some (.cells #[.int .i64 t202, vb7] 25 (0, 0))) ∧ Aside0 (Below w.heap.size w w'))
          case atStart => exact ⟨(([] : List Int)), (0), (by first | rfl | (simp; done) | (simp [*]; done)), H', ⟨Nat.le_refl _⟩, ⟨rC HO_11⟩, ⟨by first | exact Kd.R_nil _ _ _ _ _ | exact Kd.N_nil _ _ _ _ _ | exact Kd.V_nil _ _ _ _ _ | exact Kd.Q_nil _ _ _ _ _ | exact Kd.S_nil _ _ _ _ _⟩, ⟨by (with_reducible repeat (first | apply Kd.S_alloc | apply Kd.S_drewN | apply Kd.S_drew)); exact Kd.S_mono HO_194001.out (fun _ hk => ⟨(by simp [Value.ownBlock]), hk⟩)⟩, ⟨by (with_reducible repeat (first | apply Kd.S_alloc | apply Kd.S_drewN | apply Kd.S_drew)); exact Kd.S_mono HO_194001.out (fun _ hk => ⟨(by simp [Value.ownBlock]), hk⟩)⟩, ⟨by (with_reducible repeat (first | apply Kd.S_alloc | apply Kd.S_drewN | apply Kd.S_drew)); exact Kd.S_mono HO_208001.out (fun _ hk => ⟨(by simp [Value.ownBlock]), ⟨hk, hk⟩⟩)⟩, ⟨bkC BK193⟩, ⟨bkC BK207⟩, ⟨hbC _⟩⟩
          case round =>
           as_aux_lemma =>
           clear H'
           try clear c1
           try clear c2
           try clear p2
           try clear q2
           try clear hx2
           try clear qi2
           try clear c3
           try clear c4
           try clear c5
           try clear c6
           try clear p6
           try clear c7
           try clear c8
           try clear c20
           try clear p20
           try clear q20
           try clear hx20
           try clear qi20
           try clear c30
           try clear c30b0
           try clear c30b1
           try clear c31
           try clear c34
           try clear c34b0
           try clear c34b1
           try clear c37
           try clear c38
           try clear c38b0
           try clear c38b1
           try clear c39
           try clear c39b0
           try clear c39b1
           try clear c40
           try clear c40b0
           try clear c40b1
           try clear c41
           try clear c41b0
           try clear c41b1
           try clear c43
           try clear c48
           try clear c53
           try clear c58
           try clear c63
           try clear p64
           try clear c67
           try clear c68
           try clear c68b0
           try clear c68b1
           try clear c70
           try clear c74
           try clear c74b0
           try clear c75
           try clear c75b0
           try clear c76
           try clear hcz32_0
           try clear hcz32_1
           try clear hcz33_0
           try clear hcz33_1
           try clear hcz44_0
           try clear hcz44_1
           try clear hcz47_0
           try clear hcz47_1
           try clear hcz49_0
           try clear hcz49_1
           try clear hcz52_0
           try clear hcz52_1
           try clear hcz54_0
           try clear hcz54_1
           try clear hcz57_0
           try clear hcz57_1
           try clear hcz59_0
           try clear hcz59_1
           try clear hcz62_0
           try clear hcz62_1
           try clear hcz64_0
           try clear hcz64_1
           try clear hcz71_0
           try clear hcz71_1
           try clear hcz77_0
           try clear hcz77_1
           try clear hfz32_0
           try clear hfz32_1
           try clear hfz33_0
           try clear hfz33_1
           try clear hfz44_0
           try clear hfz44_1
           try clear hfz47_0
           try clear hfz47_1
           try clear hfz49_0
           try clear hfz49_1
           try clear hfz52_0
           try clear hfz52_1
           try clear hfz54_0
           try clear hfz54_1
           try clear hfz57_0
           try clear hfz57_1
           try clear hfz59_0
           try clear hfz59_1
           try clear hfz62_0
           try clear hfz62_1
           try clear hfz64_0
           try clear hfz64_1
           try clear hfz71_0
           try clear hfz71_1
           try clear hfz77_0
           try clear hfz77_1
           try clear hx209_0
           try clear p2
           try clear p20
           try clear p209
           try clear p6
           try clear p64
           try clear q2
           try clear q20
           try clear q209
           obtain ⟨x14_5, x104_5, rfl, HA, HK5, HO_11, HO_14, HO_102, HO_194001, HO_208001, BK193, BK207, HB⟩ := hrel
           cases gk with
           | zero => exact absurd HA.out (by simp [congoutop_TopPlane.l2])
           | succ k5 =>
            have H := HA.out
            clear HA
            simp only [congoutop_TopPlane.l2] at H
            by_cases c79 : x104_5 < (x194001_11.length : Int)
            ·rw [if_pos c79] at H
             have c79b0 : decide (x104_5 < (x194001_11.length : Int)) = true := decide_eq_true c79
             clear c79
             by_cases c80 : 0 ≤ x104_5
             rotate_left
             ·rw [if_neg c80] at H
              exact absurd H (by simp)
             rw [if_pos c80] at H
             have c80b0 : decide (0 ≤ x104_5) = true := decide_eq_true c80
             clear c80
             by_cases c81 : x104_5 < (x194001_11.length : Int)
             rotate_left
             ·rw [if_neg c81] at H
              exact absurd H (by simp)
             rw [if_pos c81] at H
             have c81b0 : decide (x104_5 < (x194001_11.length : Int)) = true := decide_eq_true c81
             clear c81
             by_cases c82 : 0 ≤ x95_3
             rotate_left
             ·rw [if_neg c82] at H
              exact absurd H (by simp)
             rw [if_pos c82] at H
             have c82b0 : decide (0 ≤ x95_3) = true := decide_eq_true c82
             clear c82
             by_cases c83 : x95_3 < ((rd_L1 x194001_11 x104_5).length : Int)
             rotate_left
             ·rw [if_neg c83] at H
              exact absurd H (by simp)
             rw [if_pos c83] at H
             have c83b0 : decide (x95_3 < ((rd_L1 x194001_11 x104_5).length : Int)) = true := decide_eq_true c83
             clear c83
             by_cases c84 : (rd (rd_L1 x194001_11 x104_5) x95_3) = x98_4
             rotate_left
             ·rw [if_neg c84] at H
              have c84b0 : ((rd (rd_L1 x194001_11 x104_5) x95_3) == x98_4) = false := beq_eq_false_iff_ne.mpr c84
              have c84b1 : ((rd (rd_L1 x194001_11 x104_5) x95_3) != x98_4) = true := bne_iff_ne.mpr c84
              have H' := Aside0.mk H
              clear H
              have p212 : 0 ≤ (x104_5 : Int) := dA
              have q212 : x104_5 < (x194001_11.length : Int) := dA
              obtain ⟨ad212, A212_0, c212_0, e212, hx212_0, hl212_0, hi212_0⟩ := at_L1 (Kd.S_reads' HO_102.out).2.2 x104_5 p212 q212
              cases e212
              obtain ⟨ce212, hce212, hMe212, hcc212⟩ := Kd.S_get HO_102.out [] x104_5 p212 (by first | exact q212 | exact dA | (have e_ := (Kd.S_reads' HO_102.out).1; omega))
              obtain ⟨ve212_0, rfl, ge212_0⟩ := hMe212
              have hv212_0 := hcc212 0 _ rfl
              rw [Nat.add_zero, show ((Kd.slice 3 (Kd.int .i64))).sz = 1 from rfl, Nat.mul_one] at hv212_0
              replace hv212_0 := Option.some.inj (hv212_0.symm.trans hx212_0)
              rw [hv212_0] at ge212_0
              have HL212_0 := ak (show Kd.R (Kd.int .i64) 3 _ _ _ _ (rd_L1 x194001_11 x104_5) from ge212_0)
              clear hv212_0 ge212_0
              clear hcc212 hce212
              have HR212_0 := Aside0.mk hi212_0
              have HC212_0 := Aside0.mk hl212_0
              clear hi212_0 hl212_0
              replace p212 := eq_true p212
              replace q212 := eq_true q212
              have p213 : 0 ≤ (x95_3 : Int) := dA
              have q213 : x95_3 < ((rd_L1 x194001_11 x104_5).length : Int) := dA
              obtain ⟨ad213, e213, hx213_0⟩ := Kd.at_int (by repeat (first | (with_reducible exact HR212_0.out) | (with_reducible refine Kd.C_alloc ?_ _) | (with_reducible refine Kd.C_drewN ?_ _) | (with_reducible refine Kd.C_drew ?_) | exact HR212_0.out)) x95_3 p213 q213
              cases e213
              replace p213 := eq_true p213
              replace q213 := eq_true q213
              go_wp2
              go_roundg k5
              case measure => have := HJ11.out; have := HJ34.out; have := HK3.out; have := HK4.out; have := HK5.out; omega
              case rel => exact ⟨(x14_5), (wrap64 (x104_5 + 1)), (by first | rfl | (simp; done) | (simp [*]; done)), H', ⟨by have := HJ11.out; have := HJ34.out; have := HK3.out; have := HK4.out; have := HK5.out; omega⟩, ⟨rC HO_11⟩, ⟨rC HO_14⟩, ⟨by (with_reducible repeat (first | apply Kd.S_alloc | apply Kd.S_drewN | apply Kd.S_drew)); exact HO_102.out⟩, ⟨by (with_reducible repeat (first | apply Kd.S_alloc | apply Kd.S_drewN | apply Kd.S_drew)); exact HO_194001.out⟩, ⟨by (with_reducible repeat (first | apply Kd.S_alloc | apply Kd.S_drewN | apply Kd.S_drew)); exact HO_208001.out⟩, ⟨bkC BK193⟩, ⟨bkC BK207⟩, ⟨hbC _⟩⟩
             rw [if_pos c84] at H
             have c84b0 : ((rd (rd_L1 x194001_11 x104_5) x95_3) == x98_4) = true := beq_iff_eq.mpr c84
             have c84b1 : ((rd (rd_L1 x194001_11 x104_5) x95_3) != x98_4) = false := bne_eq_false_iff_eq.mpr c84
             clear c84
             by_cases c85 : x104_5 < (l2.length : Int)
             rotate_left
             ·rw [if_neg c85] at H
              exact absurd H (by simp)
             rw [if_pos c85] at H
             have c85b0 : decide (x104_5 < (l2.length : Int)) = true := decide_eq_true c85
             clear c85
             by_cases c86 : x14_5.length < 17592186044416
             rotate_left
             ·rw [if_neg c86] at H
              exact absurd H (by simp)
             rw [if_pos c86] at H
             have LMc86 := Aside0.mk c86
             clear c86
             obtain ⟨y215, hy215⟩ : ∃ y_ : List Int, y_ = (x14_5 ++ [rd l2 x104_5]) := ⟨_, rfl⟩
             replace H : (congoutop_TopPlane.l2 k5 l2 x11_4 x95_3 x98_4 y215 x95_3 x98_4 x194001_11 (x194001_11.length : Int) (wrap64 (x104_5 + 1)) x194000_11 x194001_11) = some r := by first | (rw [hy215]; with_reducible exact H) | (have H2_ := (Option.bind_some _ _).symm.trans H; rw [hy215]; with_reducible exact H2_) | (have H2_ := (Option.bind_some _ _).symm.trans H; with_reducible exact H2_) | with_reducible exact H | (rw [hy215]; exact H) | exact H
             have Ny215 := Aside0.mk hy215
             clear hy215
             have H' := Aside0.mk H
             clear H
             have p212 : 0 ≤ (x104_5 : Int) := dA
             have q212 : x104_5 < (x194001_11.length : Int) := dA
             obtain ⟨ad212, A212_0, c212_0, e212, hx212_0, hl212_0, hi212_0⟩ := at_L1 (Kd.S_reads' HO_102.out).2.2 x104_5 p212 q212
             cases e212
             obtain ⟨ce212, hce212, hMe212, hcc212⟩ := Kd.S_get HO_102.out [] x104_5 p212 (by first | exact q212 | exact dA | (have e_ := (Kd.S_reads' HO_102.out).1; omega))
             obtain ⟨ve212_0, rfl, ge212_0⟩ := hMe212
             have hv212_0 := hcc212 0 _ rfl
             rw [Nat.add_zero, show ((Kd.slice 3 (Kd.int .i64))).sz = 1 from rfl, Nat.mul_one] at hv212_0
             replace hv212_0 := Option.some.inj (hv212_0.symm.trans hx212_0)
             rw [hv212_0] at ge212_0
             have HL212_0 := ak (show Kd.R (Kd.int .i64) 3 _ _ _ _ (rd_L1 x194001_11 x104_5) from ge212_0)
             clear hv212_0 ge212_0
             clear hcc212 hce212
             have HR212_0 := Aside0.mk hi212_0
             have HC212_0 := Aside0.mk hl212_0
             clear hi212_0 hl212_0
             replace p212 := eq_true p212
             replace q212 := eq_true q212
             have p213 : 0 ≤ (x95_3 : Int) := dA
             have q213 : x95_3 < ((rd_L1 x194001_11 x104_5).length : Int) := dA
             obtain ⟨ad213, e213, hx213_0⟩ := Kd.at_int (by repeat (first | (with_reducible exact HR212_0.out) | (with_reducible refine Kd.C_alloc ?_ _) | (with_reducible refine Kd.C_drewN ?_ _) | (with_reducible refine Kd.C_drew ?_) | exact HR212_0.out)) x95_3 p213 q213
             cases e213
             replace p213 := eq_true p213
             replace q213 := eq_true q213
             have p214 : 0 ≤ (x104_5 : Int) := dA
             have q214 : x104_5 < (l2.length : Int) := dA
             obtain ⟨ad214, e214, hx214_0⟩ := Kd.at_int HR2.out x104_5 p214 q214
             cases e214
             try replace hx214_0 := (HB.out.cell (World.block_lt_of_cell? w _ hx214_0)).trans hx214_0
             replace p214 := eq_true p214
             replace q214 := eq_true q214
             go_wp2_with (first | ((with_reducible refine gate_builtin (b := .append) (xs := #[.tmp 115, .tmp 120]) rfl ?_); (try (refine gate_guard (by rfl) ?_; dsimp only)); at_builtin; refine Kd.R_append (Kd.int .i64) (w0 := w) w.heap.size rfl (.tmp 115) (.tmp 120) 22 3 (.int .i64 0) 8 rfl Try.underlying22 info3 rfl (by decide) (by omega) u14 x14_5 (rd l2 x104_5) [.int .i64 (rd l2 x104_5)] (fun _ => True) (fun _ => False) rfl rfl ?aP (fun _ hk => hk.elim) ?aF ?aO ?aB ?aS ?aL ?_; (case aP => exact rfl); (case aB => exact (hbC _)); (case aF => exact (fun _ _ => trivial)); (case aO => exact (rC HO_14)); (case aS => exact (below_size (hbC _))); (case aL => have := LMc86.out; omega); intro v216 w87 ho hb hg hat; rw [← Ny215.out] at ho; have n0_ := ak (Kd.R_over' (rC HO_11) (Kd.R_typed (rC HO_14)) (by decide) hg); have n1_ := ak (Kd.S_after (ok := (fun k_ => nb k_ (.slice Ao28 t203.length co28))) (by (with_reducible repeat (first | apply Kd.S_alloc | apply Kd.S_drewN | apply Kd.S_drew)); exact Kd.S_mono HO_102.out (fun _ hk => ⟨hk.2, hk.1⟩)) hg hat); have n2_ := ak (Kd.S_after (ok := (fun k_ => nb k_ (.slice Ao28 t203.length co28))) (by (with_reducible repeat (first | apply Kd.S_alloc | apply Kd.S_drewN | apply Kd.S_drew)); exact Kd.S_mono HO_194001.out (fun _ hk => ⟨hk.2, hk.1⟩)) hg hat); have n3_ := ak (Kd.S_after (ok := (fun k_ => some k_ ≠ (.slice (some ad212) x194001_11.length co78 : Value).ownBlock ∧ some k_ ≠ (.slice (some ad212) x194001_11.length co78 : Value).ownBlock)) (by (with_reducible repeat (first | apply Kd.S_alloc | apply Kd.S_drewN | apply Kd.S_drew)); exact Kd.S_mono HO_208001.out (fun _ hk => ⟨⟨hk.2.1, hk.2.2⟩, hk.1⟩)) hg hat); have n4_ := ak (blk_grown (g := gb193) (o := .cells #[.int .i64 x194000_11, .slice (some ad212) x194001_11.length co78] 25 (0, 0)) (bkC BK193) hg (Kd.R_ne HO_14.out BK193.out (by decide))); have n5_ := ak (blk_grown (g := gb207) (o := .cells #[.int .i64 t202, vb7] 25 (0, 0)) (bkC BK207) hg (Kd.R_ne HO_14.out BK207.out (by decide))); have n6_ := ak (Kd.R_after (ok := (fun k_ => some k_ ≠ (.slice (some ad212) x194001_11.length co78 : Value).ownBlock ∧ nb k_ (.slice Ao28 t203.length co28))) (rD (Kd.R_mono HL212_0.out (fun _ hk => ⟨⟨hk.2, hk.1.2⟩, hk.1.1⟩))) hg hat); have n7_ := ak (hb); have n8_ := ak (ho); clear HO_11; clear HO_102; clear HO_194001; clear HO_208001; clear BK193; clear BK207; clear HL212_0; clear HB; clear HO_14; have HO_11 := n0_; have HO_102 := n1_; have HO_194001 := n2_; have HO_208001 := n3_; have BK193 := n4_; have BK207 := n5_; have HL212_0 := n6_; have HB := n7_; have HO217 := n8_; clear n0_ n1_ n2_ n3_ n4_ n5_ n6_ n7_ n8_; clear ho hb hg hat))
             go_roundg k5
             case measure => have := HJ11.out; have := HJ34.out; have := HK3.out; have := HK4.out; have := HK5.out; omega
             case rel => exact ⟨(y215), (wrap64 (x104_5 + 1)), (by first | rfl | (simp; done) | (simp [*]; done)), H', ⟨by have := HJ11.out; have := HJ34.out; have := HK3.out; have := HK4.out; have := HK5.out; omega⟩, ⟨rC HO_11⟩, ⟨rC HO217⟩, ⟨by (with_reducible repeat (first | apply Kd.S_alloc | apply Kd.S_drewN | apply Kd.S_drew)); exact Kd.S_mono HO_102.out (fun _ hk => ⟨hk.2, hk.1⟩)⟩, ⟨by (with_reducible repeat (first | apply Kd.S_alloc | apply Kd.S_drewN | apply Kd.S_drew)); exact Kd.S_mono HO_194001.out (fun _ hk => ⟨hk.2, hk.1⟩)⟩, ⟨by (with_reducible repeat (first | apply Kd.S_alloc | apply Kd.S_drewN | apply Kd.S_drew)); exact Kd.S_mono HO_208001.out (fun _ hk => ⟨hk.2, ⟨hk.1.1, hk.1.2⟩⟩)⟩, ⟨bkC BK193⟩, ⟨bkC BK207⟩, ⟨hbC _⟩⟩
            rw [if_neg c79] at H
            have c79b0 : decide (x104_5 < (x194001_11.length : Int)) = false := decide_eq_false c79
            clear c79
            by_cases c88 : (x14_5.length : Int) = 3
            rotate_left
            ·rw [if_neg c88] at H
             have c88b0 : ((x14_5.length : Int) == 3) = false := beq_eq_false_iff_ne.mpr c88
             have c88b1 : ((x14_5.length : Int) != 3) = true := bne_iff_ne.mpr c88
             exact absurd (H.trans (congrArg some HRT.out)) (by simp)
            rw [if_pos c88] at H
            have c88b0 : ((x14_5.length : Int) == 3) = true := beq_iff_eq.mpr c88
            have c88b1 : ((x14_5.length : Int) != 3) = false := bne_eq_false_iff_eq.mpr c88
            clear c88
            replace H := Option.bind_eq_some_iff.mp H
            obtain ⟨t218, A890, H⟩ := H
            replace H : (if 0 < (x14_5.length : Int) then (if 1 < (x14_5.length : Int) then (if 2 < (x14_5.length : Int) then (if x11_4.length < 5864062014805 then (congoutop_TopPlane.l1 k5 l2 (x11_4 ++ [(⟨rd t218 0, rd t218 1, rd t218 2⟩ : S39)]) x95_3 x95_3 (wrap64 (x98_4 + 1)) x194000_11 x194001_11) else (none)) else (none)) else (none)) else (none)) = some r := H
            have A89 := Aside0.mk A890
            clear A890
            by_cases c90 : 0 < (x14_5.length : Int)
            rotate_left
            ·rw [if_neg c90] at H
             exact absurd H (by simp)
            rw [if_pos c90] at H
            have c90b0 : decide (0 < (x14_5.length : Int)) = true := decide_eq_true c90
            have c90b1 : decide (0 < x14_5.length) = true := decide_eq_true (by omega)
            clear c90
            by_cases c91 : 1 < (x14_5.length : Int)
            rotate_left
            ·rw [if_neg c91] at H
             exact absurd H (by simp)
            rw [if_pos c91] at H
            have c91b0 : decide (1 < (x14_5.length : Int)) = true := decide_eq_true c91
            have c91b1 : decide (1 < x14_5.length) = true := decide_eq_true (by omega)
            clear c91
            by_cases c92 : 2 < (x14_5.length : Int)
            rotate_left
            ·rw [if_neg c92] at H
             exact absurd H (by simp)
            rw [if_pos c92] at H
            have c92b0 : decide (2 < (x14_5.length : Int)) = true := decide_eq_true c92
            have c92b1 : decide (2 < x14_5.length) = true := decide_eq_true (by omega)
            clear c92
            by_cases c93 : x11_4.length < 5864062014805
            rotate_left
            ·rw [if_neg c93] at H
             exact absurd H (by simp)
            rw [if_pos c93] at H
            have LMc93 := Aside0.mk c93
            clear c93
            obtain ⟨y222, hy222⟩ : ∃ y_ : List (S39), y_ = (x11_4 ++ [(⟨rd t218 0, rd t218 1, rd t218 2⟩ : S39)]) := ⟨_, rfl⟩
            replace H : (congoutop_TopPlane.l1 k5 l2 y222 x95_3 x95_3 (wrap64 (x98_4 + 1)) x194000_11 x194001_11) = some r := by first | (rw [hy222]; with_reducible exact H) | (have H2_ := (Option.bind_some _ _).symm.trans H; rw [hy222]; with_reducible exact H2_) | (have H2_ := (Option.bind_some _ _).symm.trans H; with_reducible exact H2_) | with_reducible exact H | (rw [hy222]; exact H) | exact H
            have Ny222 := Aside0.mk hy222
            clear hy222
            have H' := Aside0.mk H
            clear H
            obtain ⟨Ao94, co94, eo94⟩ := Kd.R_slice HO_14.out
            subst eo94
            try go_wp2_with (first | ((with_reducible refine gate_callee (f := 11) rfl ?_); refine gL 127 Try.func11 #[.slice Ao94 x14_5.length co94] ?_; (with_reducible refine (xSort.calls (fun k_ => some k_ = (.slice Ao94 x14_5.length co94 : Value).ownBlock) (.slice Ao94 x14_5.length co94) x14_5 t218 w _ ?side1 ?side2 A89.out).mono ?_); (case side1 => repeat (first | (with_reducible first | exact HB.out | apply below_alloc | apply pw_below_drewN | apply below_drew1 | refine below_set ?_ GE193.out | refine below_set ?_ GE207.out) | exact HB.out)); (case side2 => exact Kd.R_tight rfl HO_14.out); rintro e w95 ⟨rfl, hy0, hb, hkp⟩; refine ⟨_, rfl, ?_⟩; replace HO_11 := ak (Kd.R_mono (ok' := fun k_ => True) (Kd.R_keptB ((Kd.R_apart' HO_11.out (Kd.R_typed HO_14.out) (by decide))) hkp (fun k_ hk_ hs_ => (hk_.2) hs_)) (fun k_ hk_ => trivial)); replace HO_102 := ak (Kd.S_mono (ok' := fun k_ => nb k_ (.slice Ao94 x14_5.length co94) ∧ nb k_ (.slice Ao28 t203.length co28)) (Kd.S_keptB (HO_102.out) hkp (fun k_ hk_ hs_ => (hk_.1) hs_)) (fun k_ hk_ => ⟨hk_.1.1, hk_.1.2⟩)); replace HO_194001 := ak (Kd.S_mono (ok' := fun k_ => nb k_ (.slice Ao94 x14_5.length co94) ∧ nb k_ (.slice Ao28 t203.length co28)) (Kd.S_keptB (HO_194001.out) hkp (fun k_ hk_ hs_ => (hk_.1) hs_)) (fun k_ hk_ => ⟨hk_.1.1, hk_.1.2⟩)); replace HO_208001 := ak (Kd.S_mono (ok' := fun k_ => nb k_ (.slice Ao94 x14_5.length co94) ∧ nb k_ (.slice Ao78 x194001_11.length co78) ∧ nb k_ (.slice Ao78 x194001_11.length co78)) (Kd.S_keptB (HO_208001.out) hkp (fun k_ hk_ hs_ => (hk_.1) hs_)) (fun k_ hk_ => ⟨hk_.1.1, hk_.1.2.1, hk_.1.2.2⟩)); replace BK193 := ak (blk_kept (bkC BK193) hkp (fun hs_ => (fun e_ => (Kd.R_ne HO_14.out BK193.out (by decide)) e_) hs_)); replace BK207 := ak (blk_kept (bkC BK207) hkp (fun hs_ => (fun e_ => (Kd.R_ne HO_14.out BK207.out (by decide)) e_) hs_)); replace HO_14 := ak (Kd.R_reok rfl hy0 (fun k_ e_ => HO_14.out.1 k_ e_)); replace HB := ak (hb); (try clear hb); (try clear hkp); (try clear hy0)))
            replace HO_11 := ak (Kd.R_drew HO_11.out)
            replace HO_14 := ak (Kd.R_drew HO_14.out)
            replace HO_102 := ak (Kd.S_drew HO_102.out)
            replace HO_194001 := ak (Kd.S_drew HO_194001.out)
            replace HO_208001 := ak (Kd.S_drew HO_208001.out)
            replace BK193 := kd BK193
            replace BK207 := kd BK207
            replace HB := ak (below_drew1 HB.out)
            have p219 : 0 ≤ (0 : Int) := (by omega)
            have q219 : 0 < (t218.length : Int) := (by have h_ : (0 : Int) < ((x14_5.length : Int) : Int) := dA; have e_ := (Kd.R_reads' HO_14.out).1; omega)
            have ql219 : ((0 : Int) < ((x14_5.length : Int) : Int)) = True := eq_true (dA)
            (try have qn219 : (0 < x14_5.length) = True := eq_true (by have h_ : (0 : Int) < ((x14_5.length : Int) : Int) := dA; omega))
            obtain ⟨ad219, e219, hx219_0⟩ := Kd.at_int (Kd.R_reads' HO_14.out).2.2 0 p219 q219
            cases e219
            have qi219 : (0 < t218.length) = True := eq_true (by omega)
            (try rw [show ((0 : Int)).toNat = 0 from rfl] at hx219_0)
            (try rw [Addr.add_zero'] at hx219_0)
            replace p219 := eq_true p219
            replace q219 := eq_true q219
            have p220 : 0 ≤ (1 : Int) := (by omega)
            have q220 : 1 < (t218.length : Int) := (by have h_ : (1 : Int) < ((x14_5.length : Int) : Int) := dA; have e_ := (Kd.R_reads' HO_14.out).1; omega)
            have ql220 : ((1 : Int) < ((x14_5.length : Int) : Int)) = True := eq_true (dA)
            (try have qn220 : (1 < x14_5.length) = True := eq_true (by have h_ : (1 : Int) < ((x14_5.length : Int) : Int) := dA; omega))
            obtain ⟨ad220, e220, hx220_0⟩ := Kd.at_int (Kd.R_reads' HO_14.out).2.2 1 p220 q220
            obtain rfl : ad219 = ad220 := (by injection e220)
            (try simp only [show (1 : Int).toNat = 1 from rfl, Nat.reduceMul, Nat.reduceEqDiff, Go.Addr.add, ↓reduceIte] at hx220_0)
            have qi220 : (1 < t218.length) = True := eq_true (by omega)
            (try rw [show ((1 : Int)).toNat = 1 from rfl] at hx220_0)
            replace p220 := eq_true p220
            replace q220 := eq_true q220
            have p221 : 0 ≤ (2 : Int) := (by omega)
            have q221 : 2 < (t218.length : Int) := (by have h_ : (2 : Int) < ((x14_5.length : Int) : Int) := dA; have e_ := (Kd.R_reads' HO_14.out).1; omega)
            have ql221 : ((2 : Int) < ((x14_5.length : Int) : Int)) = True := eq_true (dA)
            (try have qn221 : (2 < x14_5.length) = True := eq_true (by have h_ : (2 : Int) < ((x14_5.length : Int) : Int) := dA; omega))
            obtain ⟨ad221, e221, hx221_0⟩ := Kd.at_int (Kd.R_reads' HO_14.out).2.2 2 p221 q221
            obtain rfl : ad219 = ad221 := (by injection e221)
            (try simp only [show (2 : Int).toNat = 2 from rfl, Nat.reduceMul, Nat.reduceEqDiff, Go.Addr.add, ↓reduceIte] at hx221_0)
            have qi221 : (2 < t218.length) = True := eq_true (by omega)
            (try rw [show ((2 : Int)).toNat = 2 from rfl] at hx221_0)
            replace p221 := eq_true p221
            replace q221 := eq_true q221
            refine sS (n := 14) (S := fun w' => w'.cell? ad219 = some (.int .i64 (rd t218 0)) ∧ w'.cell? ⟨ad219.block, ad219.off + 1, none⟩ = some (.int .i64 (rd t218 1)) ∧ w'.cell? ⟨ad219.block, ad219.off + 2, none⟩ = some (.int .i64 (rd t218 2))) (ds := [11, 12]) ⟨hx219_0, hx220_0, hx221_0⟩ (fun hHeld => ?_); refine with_tabW congoutop_TopPlane.tab28 congoutop_TopPlane.bits28 (fun HT_ HW_ => ?_)
            generalize w95.drew = w96 at HO_11 HO_14 HO_102 HO_194001 HO_208001 BK193 BK207 HB hx219_0 hx220_0 hx221_0 hHeld ⊢
            refine pS 0 128 14 1 ?_
            refine pS 1 129 14 3 ?_
            refine pS 2 130 14 7 ?_
            refine pS 4 132 14 23 ?_
            refine pS 5 133 14 55 ?_
            refine pS 7 135 14 183 ?_
            refine pS 8 136 14 439 ?_
            refine tS 3 131 14 447 ?_
            refine tS 6 134 14 511 ?_
            refine tS 9 137 14 1023 ?_
            refine pS 10 138 14 2047 ?_
            refine last_ (i := 11) (N := some 139) (ba 14 4095) rfl rfl (one_of HT_.out (by kernel_rfl)) (by decide) (fun K hK => ?_)
            refine value_ (w1 := ?_) (v := ?_) (by rfl) rfl ?_ ?_
            rotate_left 2
            ·go_simp
             constructor
             ·rfl
             ·rfl
            refine hK.out _ _ ?_
            clear hK K
            refine norm_ (a' := ?_) ?_ ?_
            rotate_left
            ·show Act.put _ (some 139) _ = _
             simp only [Act.put, List.setIfInBounds_toArray, List.set_cons_zero, List.set_cons_succ, i64_w, i32_w]
             rfl
            refine last_ (i := 12) (N := some 140) (ba 14 8191) rfl rfl (one_of HT_.out (by kernel_rfl)) (by decide) (fun K hK => ?_)
            refine Kd.R_append_step k39 (w0 := w) w.heap.size (by rfl) (.tmp 128) (.tmp 139) 37 39 (.agg #[(.int .i64 0), (.int .i64 0), (.int .i64 0)]) 24 rfl Try.underlying37 info39 rfl (by decide) (by omega) u11 x11_4 (⟨rd t218 0, rd t218 1, rd t218 2⟩ : S39) [.int .i64 (rd t218 0), .int .i64 (rd t218 1), .int .i64 (rd t218 2)] (fun _ => True) (fun _ => False) rfl rfl ?aP (fun _ hk => hk.elim) ?aF ?aO ?aB ?aS ?aL ?_
            (case aP => exact k39_mkM _ _ _ (⟨rd t218 0, rd t218 1, rd t218 2⟩ : S39))
            (case aB => exact (hbC _))
            (case aF => exact (fun _ _ => trivial))
            (case aO => exact (rC HO_11))
            (case aS => exact (below_size (hbC _)))
            (case aL => have := LMc93.out; omega)
            intro v223 w97 ho hb hg hat
            rw [← Ny222.out] at ho
            have n0_ := ak (Kd.R_over' (rC HO_14) (Kd.R_typed (rC HO_11)) (by decide) hg)
            have n1_ := ak (Kd.S_over' (by (with_reducible repeat (first | apply Kd.S_alloc | apply Kd.S_drewN | apply Kd.S_drew)); exact HO_102.out) (Kd.R_typed (rC HO_11)) (by decide) hg)
            have n2_ := ak (Kd.S_over' (by (with_reducible repeat (first | apply Kd.S_alloc | apply Kd.S_drewN | apply Kd.S_drew)); exact HO_194001.out) (Kd.R_typed (rC HO_11)) (by decide) hg)
            have n3_ := ak (Kd.S_over' (by (with_reducible repeat (first | apply Kd.S_alloc | apply Kd.S_drewN | apply Kd.S_drew)); exact HO_208001.out) (Kd.R_typed (rC HO_11)) (by decide) hg)
            have n4_ := ak (blk_grown (g := gb193) (o := .cells #[.int .i64 x194000_11, .slice Ao78 x194001_11.length co78] 25 (0, 0)) (bkC BK193) hg (Kd.R_ne HO_11.out BK193.out (by decide)))
            have n5_ := ak (blk_grown (g := gb207) (o := .cells #[.int .i64 t202, vb7] 25 (0, 0)) (bkC BK207) hg (Kd.R_ne HO_11.out BK207.out (by decide)))
            have n6_ := ak (hb)
            have n7_ := ak (ho)
            clear HO_14
            clear HO_102
            clear HO_194001
            clear HO_208001
            clear BK193
            clear BK207
            clear HB
            clear HO_11
            have HO_14 := n0_
            have HO_102 := n1_
            have HO_194001 := n2_
            have HO_208001 := n3_
            have BK193 := n4_
            have BK207 := n5_
            have HB := n6_
            have HO224 := n7_
            clear n0_ n1_ n2_ n3_ n4_ n5_ n6_ n7_
            clear ho hb hg hat
            refine hK.out _ _ ?_
            clear hK K
            refine norm_ (a' := ?_) ?_ ?_
            rotate_left
            ·show Act.put _ (some 140) _ = _
             simp only [Act.put, List.setIfInBounds_toArray, List.set_cons_zero, List.set_cons_succ, i64_w, i32_w]
             rfl
            refine pS 13 11 14 16383 ?_
            refine done_ (done_of HT_.out (by kernel_rfl)) ?_
            try go_wp2
            go_roundg k5
            case measure => have := HJ11.out; have := HJ34.out; have := HK3.out; have := HK4.out; have := HK5.out; omega
            case rel => exact ⟨(y222), (wrap64 (x98_4 + 1)), (by first | rfl | (simp; done) | (simp [*]; done)), H', ⟨by have := HJ11.out; have := HJ34.out; have := HK3.out; have := HK4.out; have := HK5.out; omega⟩, ⟨rC HO224⟩, ⟨by (with_reducible repeat (first | apply Kd.S_alloc | apply Kd.S_drewN | apply Kd.S_drew)); exact Kd.S_mono HO_194001.out (fun _ hk => hk.2)⟩, ⟨by (with_reducible repeat (first | apply Kd.S_alloc | apply Kd.S_drewN | apply Kd.S_drew)); exact Kd.S_mono HO_208001.out (fun _ hk => hk.2.2)⟩, ⟨bkC BK193⟩, ⟨bkC BK207⟩, ⟨hbC _⟩⟩
       rw [if_neg c74] at H
       have c74b0 : decide (x95_3 < 4) = false := decide_eq_false c74
       clear c74
       replace H := Option.bind_eq_some_iff.mp H
       obtain ⟨t225, A980, H⟩ := H
       replace H : ((xSort3.f x11_3).bind fun t228 => ((slices_Clone_3_int_3_int.f t228).bind fun t229 => ((xIsThrees.f 9 t229).bind fun bt232 => ((slices_Clone_3_int_3_int.f t228).bind fun t234 => ((xSpreads.f 9 t234).bind fun bt237 => (if bt232.1 = true then (if bt232.2 = 0 then (if bt237.2 = 0 then (congoutop_TopPlane.j5 k3 t228 t225 bt237.1 ((bt237.1.length : Int) != 4)) else (congoutop_TopPlane.j5 k3 t228 t225 bt237.1 true)) else (congoutop_TopPlane.j5 k3 t228 t225 bt237.1 true)) else (congoutop_TopPlane.j5 k3 t228 t225 bt237.1 true))))))) = some r := H
       have A98 := Aside0.mk A980
       clear A980
       replace H := Option.bind_eq_some_iff.mp H
       obtain ⟨t228, A990, H⟩ := H
       replace H : ((slices_Clone_3_int_3_int.f t228).bind fun t229 => ((xIsThrees.f 9 t229).bind fun bt232 => ((slices_Clone_3_int_3_int.f t228).bind fun t234 => ((xSpreads.f 9 t234).bind fun bt237 => (if bt232.1 = true then (if bt232.2 = 0 then (if bt237.2 = 0 then (congoutop_TopPlane.j5 k3 t228 t225 bt237.1 ((bt237.1.length : Int) != 4)) else (congoutop_TopPlane.j5 k3 t228 t225 bt237.1 true)) else (congoutop_TopPlane.j5 k3 t228 t225 bt237.1 true)) else (congoutop_TopPlane.j5 k3 t228 t225 bt237.1 true)))))) = some r := H
       have A99 := Aside0.mk A990
       clear A990
       replace H := Option.bind_eq_some_iff.mp H
       obtain ⟨t229, A1000, H⟩ := H
       replace H : ((xIsThrees.f 9 t229).bind fun bt232 => ((slices_Clone_3_int_3_int.f t228).bind fun t234 => ((xSpreads.f 9 t234).bind fun bt237 => (if bt232.1 = true then (if bt232.2 = 0 then (if bt237.2 = 0 then (congoutop_TopPlane.j5 k3 t228 t225 bt237.1 ((bt237.1.length : Int) != 4)) else (congoutop_TopPlane.j5 k3 t228 t225 bt237.1 true)) else (congoutop_TopPlane.j5 k3 t228 t225 bt237.1 true)) else (congoutop_TopPlane.j5 k3 t228 t225 bt237.1 true))))) = some r := H
       have A100 := Aside0.mk A1000
       clear A1000
       replace H := Option.bind_eq_some_iff.mp H
       obtain ⟨⟨t232, t233⟩, A1010, H⟩ := H
       replace H : ((slices_Clone_3_int_3_int.f t228).bind fun t234 => ((xSpreads.f 9 t234).bind fun bt237 => (if t232 = true then (if t233 = 0 then (if bt237.2 = 0 then (congoutop_TopPlane.j5 k3 t228 t225 bt237.1 ((bt237.1.length : Int) != 4)) else (congoutop_TopPlane.j5 k3 t228 t225 bt237.1 true)) else (congoutop_TopPlane.j5 k3 t228 t225 bt237.1 true)) else (congoutop_TopPlane.j5 k3 t228 t225 bt237.1 true)))) = some r := H
       have A101 := Aside0.mk A1010
       clear A1010
       replace H := Option.bind_eq_some_iff.mp H
       obtain ⟨t234, A1020, H⟩ := H
       replace H : ((xSpreads.f 9 t234).bind fun bt237 => (if t232 = true then (if t233 = 0 then (if bt237.2 = 0 then (congoutop_TopPlane.j5 k3 t228 t225 bt237.1 ((bt237.1.length : Int) != 4)) else (congoutop_TopPlane.j5 k3 t228 t225 bt237.1 true)) else (congoutop_TopPlane.j5 k3 t228 t225 bt237.1 true)) else (congoutop_TopPlane.j5 k3 t228 t225 bt237.1 true))) = some r := H
       have A102 := Aside0.mk A1020
       clear A1020
       replace H := Option.bind_eq_some_iff.mp H
       obtain ⟨⟨t237, t238⟩, A1030, H⟩ := H
       replace H : (if t232 = true then (if t233 = 0 then (if t238 = 0 then (congoutop_TopPlane.j5 k3 t228 t225 t237 ((t237.length : Int) != 4)) else (congoutop_TopPlane.j5 k3 t228 t225 t237 true)) else (congoutop_TopPlane.j5 k3 t228 t225 t237 true)) else (congoutop_TopPlane.j5 k3 t228 t225 t237 true)) = some r := H
       have A103 := Aside0.mk A1030
       clear A1030
       have HC104 := Aside0.mk H
       clear H
       obtain ⟨Ao105, co105, eo105⟩ := Kd.R_slice HO_11.out
       subst eo105
       go_upto_region 35 with (first | ((with_reducible refine gate_callee (f := 12) rfl ?_); refine gL 144 Try.func12 #[.slice Ao105 x11_3.length co105] ?_; (with_reducible refine (slices_Clone_3_int_3_int.calls _ _ x11_3 t225 _ ?side1 ?side2 A98.out).mono ?_); (case side1 => exact kD (Kd.R_reads' HO_11.out).2.2); (case side2 => exact (Kd.R_reads' HO_11.out).2.1); rintro e w106 ⟨v226, rfl, ho0, hb⟩; refine ⟨_, rfl, ?_⟩; replace HO_194001 := ak (Kd.S_below (by (with_reducible repeat (first | apply Kd.S_alloc | apply Kd.S_drewN | apply Kd.S_drew)); exact HO_194001.out) hb); replace HO_208001 := ak (Kd.S_below (by (with_reducible repeat (first | apply Kd.S_alloc | apply Kd.S_drewN | apply Kd.S_drew)); exact HO_208001.out) hb); have HO227 := ak (Kd.R_lower (Kd.R_new' ho0 (Kd.R_lt (rC HO_11))) (below_size (hbC _))); replace HO_11 := ak (Kd.R_elder' (rC HO_11) (Kd.R_base ho0) hb); replace BK193 := kB BK193 hb; replace BK207 := kB BK207 hb; replace HB := kH _ hb; (try clear hb); (try clear hb2); (try clear hk); (try clear hi); (try clear ho0)) | ((with_reducible refine gate_callee (f := 13) rfl ?_); refine gL 146 Try.func13 #[.slice Ao105 x11_3.length co105, .func (.func 14) #[] #[]] ?_; (with_reducible refine (xSort3.calls (fun k_ => some k_ = (.slice Ao105 x11_3.length co105 : Value).ownBlock) (.slice Ao105 x11_3.length co105) x11_3 t228 w _ ?side1 ?side2 A99.out).mono ?_); (case side1 => repeat (first | (with_reducible first | exact HB.out | apply below_alloc | apply pw_below_drewN | apply below_drew1 | refine below_set ?_ GE193.out | refine below_set ?_ GE207.out) | exact HB.out)); (case side2 => exact Kd.R_tight rfl HO_11.out); rintro e w107 ⟨rfl, hy0, hb, hkp⟩; refine ⟨_, rfl, ?_⟩; replace HO_194001 := ak (Kd.S_mono (ok' := fun k_ => nb k_ (.slice Ao28 t203.length co28)) (Kd.S_keptB ((Kd.S_apart' HO_194001.out (Kd.R_typed HO_11.out) (by decide))) hkp (fun k_ hk_ hs_ => (hk_.2) hs_)) (fun k_ hk_ => hk_.1.1)); replace HO_208001 := ak (Kd.S_mono (ok' := fun k_ => nb k_ u194001) (Kd.S_keptB ((Kd.S_apart' HO_208001.out (Kd.R_typed HO_11.out) (by decide))) hkp (fun k_ hk_ hs_ => (hk_.2) hs_)) (fun k_ hk_ => hk_.1.1)); replace BK193 := ak (blk_kept (bkC BK193) hkp (fun hs_ => (fun e_ => (Kd.R_ne HO_11.out BK193.out (by decide)) e_) hs_)); replace BK207 := ak (blk_kept (bkC BK207) hkp (fun hs_ => (fun e_ => (Kd.R_ne HO_11.out BK207.out (by decide)) e_) hs_)); replace HO_11 := ak (Kd.R_reok rfl hy0 (fun k_ e_ => HO_11.out.1 k_ e_)); replace HO227 := ak (Kd.R_mono (ok' := fun k_ => nb k_ (.slice Ao105 x11_3.length co105)) (Kd.R_keptB (HO227.out) hkp (fun k_ hk_ hs_ => (hk_.2) hs_)) (fun k_ hk_ => hk_.1.2)); replace HB := ak (hb); (try clear hb); (try clear hkp); (try clear hy0)) | ((with_reducible refine gate_callee (f := 12) rfl ?_); refine goesL_ (some 149) rfl rfl Try.func12 (by kernel_rfl) rfl #[.slice Ao105 t228.length co105] rfl (by (try simp only [List.map_toArray, List.map_cons, List.map_nil]); first | done | (rw [show t228.length = x11_3.length from (Kd.R_reads' HO_11.out).1.symm] <;> rfl) | rfl | (simp only [List.length_drop, List.length_take]; rfl)) ?_; (with_reducible refine (slices_Clone_3_int_3_int.calls _ _ t228 t229 _ ?side1 ?side2 A100.out).mono ?_); (case side1 => exact kD (Kd.R_reads' HO_11.out).2.2); (case side2 => rw [show t228.length = x11_3.length from (Kd.R_reads' HO_11.out).1.symm]; exact (Kd.R_reads' HO_11.out).2.1); rintro e w108 ⟨v230, rfl, ho0, hb⟩; refine ⟨_, rfl, ?_⟩; replace HO_194001 := ak (Kd.S_below (by (with_reducible repeat (first | apply Kd.S_alloc | apply Kd.S_drewN | apply Kd.S_drew)); exact HO_194001.out) hb); replace HO_208001 := ak (Kd.S_below (by (with_reducible repeat (first | apply Kd.S_alloc | apply Kd.S_drewN | apply Kd.S_drew)); exact HO_208001.out) hb); have HO231 := ak (Kd.R_lower (Kd.R_new' (Kd.R_new' ho0 (Kd.R_lt (rC HO_11))) (Kd.R_lt (rC HO227))) (below_size (hbC _))); replace HO_11 := ak (Kd.R_elder' (rC HO_11) (Kd.R_base ho0) hb); replace HO227 := ak (Kd.R_elder' (rC HO227) (Kd.R_base ho0) hb); replace BK193 := kB BK193 hb; replace BK207 := kB BK207 hb; replace HB := kH _ hb; (try clear hb); (try clear hb2); (try clear hk); (try clear hi); (try clear ho0); obtain ⟨Ao109, co109, eo109⟩ := Kd.R_slice HO231.out; subst eo109) | ((with_reducible refine gate_callee (f := 16) rfl ?_); refine gL 150 Try.func16 #[.int .i64 9, .slice Ao109 t229.length co109] ?_; (with_reducible refine (xIsThrees.calls 9 _ _ t229 t232 t233 _ ?side1 ?side2 A101.out).mono ?_); (case side1 => exact kD (Kd.R_reads' HO231.out).2.2); (case side2 => exact (Kd.R_reads' HO231.out).2.1); rintro e w110 ⟨rfl, hb⟩; refine ⟨_, rfl, ?_⟩; replace HO_11 := kO HO_11 hb; replace HO_194001 := ak (Kd.S_below (by (with_reducible repeat (first | apply Kd.S_alloc | apply Kd.S_drewN | apply Kd.S_drew)); exact HO_194001.out) hb); replace HO_208001 := ak (Kd.S_below (by (with_reducible repeat (first | apply Kd.S_alloc | apply Kd.S_drewN | apply Kd.S_drew)); exact HO_208001.out) hb); replace HO227 := kO HO227 hb; replace HO231 := kO HO231 hb; replace BK193 := kB BK193 hb; replace BK207 := kB BK207 hb; replace HB := kH _ hb; (try clear hb); (try clear hb2); (try clear hk); (try clear hi)) | ((with_reducible refine gate_callee (f := 12) rfl ?_); refine goesL_ (some 155) rfl rfl Try.func12 (by kernel_rfl) rfl #[.slice Ao105 t228.length co105] rfl (by (try simp only [List.map_toArray, List.map_cons, List.map_nil]); first | done | (rw [show t228.length = x11_3.length from (Kd.R_reads' HO_11.out).1.symm] <;> rfl) | rfl | (simp only [List.length_drop, List.length_take]; rfl)) ?_; (with_reducible refine (slices_Clone_3_int_3_int.calls _ _ t228 t234 _ ?side1 ?side2 A102.out).mono ?_); (case side1 => exact kD (Kd.R_reads' HO_11.out).2.2); (case side2 => rw [show t228.length = x11_3.length from (Kd.R_reads' HO_11.out).1.symm]; exact (Kd.R_reads' HO_11.out).2.1); rintro e w111 ⟨v235, rfl, ho0, hb⟩; refine ⟨_, rfl, ?_⟩; replace HO_194001 := ak (Kd.S_below (by (with_reducible repeat (first | apply Kd.S_alloc | apply Kd.S_drewN | apply Kd.S_drew)); exact HO_194001.out) hb); replace HO_208001 := ak (Kd.S_below (by (with_reducible repeat (first | apply Kd.S_alloc | apply Kd.S_drewN | apply Kd.S_drew)); exact HO_208001.out) hb); have HO236 := ak (Kd.R_lower (Kd.R_new' (Kd.R_new' (Kd.R_new' ho0 (Kd.R_lt (rC HO_11))) (Kd.R_lt (rC HO227))) (Kd.R_lt (rC HO231))) (below_size (hbC _))); replace HO_11 := ak (Kd.R_elder' (rC HO_11) (Kd.R_base ho0) hb); replace HO227 := ak (Kd.R_elder' (rC HO227) (Kd.R_base ho0) hb); replace HO231 := ak (Kd.R_elder' (rC HO231) (Kd.R_base ho0) hb); replace BK193 := kB BK193 hb; replace BK207 := kB BK207 hb; replace HB := kH _ hb; (try clear hb); (try clear hb2); (try clear hk); (try clear hi); (try clear ho0); obtain ⟨Ao112, co112, eo112⟩ := Kd.R_slice HO236.out; subst eo112) | ((with_reducible refine gate_callee (f := 17) rfl ?_); refine gL 156 Try.func17 #[.int .i64 9, .slice Ao112 t234.length co112] ?_; (with_reducible refine (xSpreads.calls 9 _ _ t234 t237 t238 _ ?side1 ?side2 A103.out).mono ?_); (case side1 => exact kD (Kd.R_reads' HO236.out).2.2); (case side2 => exact (Kd.R_reads' HO236.out).2.1); rintro e w113 ⟨v239, rfl, ho0, hb⟩; refine ⟨_, rfl, ?_⟩; replace HO_11 := kO HO_11 hb; replace HO227 := kO HO227 hb; replace HO231 := kO HO231 hb; replace HO236 := kO HO236 hb; have HO240 := ak (Kd.S_lower (Kd.S_new' (Kd.S_new' ho0 (Kd.S_lt (by (with_reducible repeat (first | apply Kd.S_alloc | apply Kd.S_drewN | apply Kd.S_drew)); exact HO_194001.out))) (Kd.S_lt (by (with_reducible repeat (first | apply Kd.S_alloc | apply Kd.S_drewN | apply Kd.S_drew)); exact HO_208001.out))) (below_size (hbC _))); replace HO_194001 := ak (Kd.S_elder' (by (with_reducible repeat (first | apply Kd.S_alloc | apply Kd.S_drewN | apply Kd.S_drew)); exact HO_194001.out) (Kd.S_base ho0) hb); replace HO_208001 := ak (Kd.S_elder' (by (with_reducible repeat (first | apply Kd.S_alloc | apply Kd.S_drewN | apply Kd.S_drew)); exact HO_208001.out) (Kd.S_base ho0) hb); replace BK193 := kB BK193 hb; replace BK207 := kB BK207 hb; replace HB := kH _ hb; (try clear hb); (try clear hb2); (try clear hk); (try clear hi); (try clear ho0)))
       (try simp only [Act.put, List.setIfInBounds_toArray, List.set_cons_zero, List.set_cons_succ])
       go_cut [173] (fun v173 wc => ∃ (kq : Nat) (x173_103 : Bool), v173 = .bool x173_103 ∧ Aside0 (congoutop_TopPlane.j5 kq t228 t225 t237 x173_103 = some r) ∧ Aside0 (kq ≤ k3) ∧ Aside0 (Kd.R k39 39 wc w.heap.size (fun k_ => nb k_ v226) (.slice Ao105 x11_3.length co105) t228) ∧ Aside0 (Kd.R k39 39 wc w.heap.size (fun k_ => some k_ ≠ ((.slice Ao105 x11_3.length co105) : Value).ownBlock) v226 t225) ∧ Aside0 (Kd.S (Kd.slice 3 (Kd.int .i64)) 22 wc w.heap.size (fun k_ => nb k_ u194001 ∧ some k_ ≠ ((.slice Ao28 t203.length co28) : Value).ownBlock) v239 t237) ∧ Aside0 (Kd.S (Kd.slice 3 (Kd.int .i64)) 22 wc w.heap.size (fun k_ => nb k_ v239 ∧ some k_ ≠ ((.slice Ao28 t203.length co28) : Value).ownBlock) u194001 x194001_11) ∧ Aside0 (Kd.S (Kd.slice 3 (Kd.int .i64)) 22 wc w.heap.size (fun k_ => nb k_ v239 ∧ nb k_ u194001) (.slice Ao28 t203.length co28) t203) ∧ Aside0 (wc.heap[gb193]? = some (.cells #[.int .i64 x194000_11, u194001] 25 (0, 0))) ∧ Aside0 (wc.heap[gb207]? = some (.cells #[.int .i64 t202, vb7] 25 (0, 0))) ∧ Aside0 (Below w.heap.size w wc))
       case first =>
        as_aux_lemma =>
        have H := HC104.out
        clear HC104
        by_cases c114 : t232 = true
        rotate_left
        ·replace c114 := Bool.eq_false_iff.mpr c114
         subst c114
         have H1 : (congoutop_TopPlane.j5 k3 t228 t225 t237 true) = some r := by rw [if_neg (show ¬ (false = true) by decide)] at H; exact H
         clear H
         have H := H1
         clear H1
         have H' := Aside0.mk H
         clear H
         go_wp2
         go_meet
         case rel => exact ⟨_, (true), (by first | rfl | (simp; done) | (simp [*]; done)), H', ⟨by have := HJ11.out; have := HJ34.out; have := HK3.out; first | omega | exact Nat.le_refl _⟩, ⟨rD (Kd.R_mono HO_11.out (fun _ hk => hk.1.1.2))⟩, ⟨rD (Kd.R_mono HO227.out (fun _ hk => hk.1.1))⟩, ⟨by (with_reducible repeat (first | apply Kd.S_alloc | apply Kd.S_drewN | apply Kd.S_drew)); exact Kd.S_mono HO240.out (fun _ hk => ⟨hk.1.2, hk.2⟩)⟩, ⟨by (with_reducible repeat (first | apply Kd.S_alloc | apply Kd.S_drewN | apply Kd.S_drew)); exact Kd.S_mono HO_194001.out (fun _ hk => ⟨hk.2, hk.1⟩)⟩, ⟨by (with_reducible repeat (first | apply Kd.S_alloc | apply Kd.S_drewN | apply Kd.S_drew)); exact Kd.S_mono HO_208001.out (fun _ hk => ⟨hk.2, hk.1⟩)⟩, ⟨bkC BK193⟩, ⟨bkC BK207⟩, ⟨hbC _⟩⟩
        subst c114
        have H1 : (if t233 = 0 then (if t238 = 0 then (congoutop_TopPlane.j5 k3 t228 t225 t237 ((t237.length : Int) != 4)) else (congoutop_TopPlane.j5 k3 t228 t225 t237 true)) else (congoutop_TopPlane.j5 k3 t228 t225 t237 true)) = some r := by rw [if_pos rfl] at H; exact H
        clear H
        have H := H1
        clear H1
        by_cases c115 : t233 = 0
        rotate_left
        ·rw [if_neg c115] at H
         have c115b0 : (t233 == 0) = false := beq_eq_false_iff_ne.mpr c115
         have c115b1 : (t233 != 0) = true := bne_iff_ne.mpr c115
         (first | rw [c115b0] | (simp only [i64_w, i32_w]; rw [c115b0]) | skip)
         have H' := Aside0.mk H
         clear H
         go_wp2
         go_meet
         case rel => exact ⟨_, (true), (by first | rfl | (simp; done) | (simp [*]; done)), H', ⟨by have := HJ11.out; have := HJ34.out; have := HK3.out; first | omega | exact Nat.le_refl _⟩, ⟨rD (Kd.R_mono HO_11.out (fun _ hk => hk.1.1.2))⟩, ⟨rD (Kd.R_mono HO227.out (fun _ hk => hk.1.1))⟩, ⟨by (with_reducible repeat (first | apply Kd.S_alloc | apply Kd.S_drewN | apply Kd.S_drew)); exact Kd.S_mono HO240.out (fun _ hk => ⟨hk.1.2, hk.2⟩)⟩, ⟨by (with_reducible repeat (first | apply Kd.S_alloc | apply Kd.S_drewN | apply Kd.S_drew)); exact Kd.S_mono HO_194001.out (fun _ hk => ⟨hk.2, hk.1⟩)⟩, ⟨by (with_reducible repeat (first | apply Kd.S_alloc | apply Kd.S_drewN | apply Kd.S_drew)); exact Kd.S_mono HO_208001.out (fun _ hk => ⟨hk.2, hk.1⟩)⟩, ⟨bkC BK193⟩, ⟨bkC BK207⟩, ⟨hbC _⟩⟩
        rw [if_pos c115] at H
        have c115b0 : (t233 == 0) = true := beq_iff_eq.mpr c115
        have c115b1 : (t233 != 0) = false := bne_eq_false_iff_eq.mpr c115
        clear c115
        (first | rw [c115b0] | (simp only [i64_w, i32_w]; rw [c115b0]) | skip)
        by_cases c116 : t238 = 0
        rotate_left
        ·rw [if_neg c116] at H
         have c116b0 : (t238 == 0) = false := beq_eq_false_iff_ne.mpr c116
         have c116b1 : (t238 != 0) = true := bne_iff_ne.mpr c116
         have H' := Aside0.mk H
         clear H
         go_wp2
         go_meet
         case rel => exact ⟨_, (true), (by first | rfl | (simp; done) | (simp [*]; done)), H', ⟨by have := HJ11.out; have := HJ34.out; have := HK3.out; first | omega | exact Nat.le_refl _⟩, ⟨rD (Kd.R_mono HO_11.out (fun _ hk => hk.1.1.2))⟩, ⟨rD (Kd.R_mono HO227.out (fun _ hk => hk.1.1))⟩, ⟨by (with_reducible repeat (first | apply Kd.S_alloc | apply Kd.S_drewN | apply Kd.S_drew)); exact Kd.S_mono HO240.out (fun _ hk => ⟨hk.1.2, hk.2⟩)⟩, ⟨by (with_reducible repeat (first | apply Kd.S_alloc | apply Kd.S_drewN | apply Kd.S_drew)); exact Kd.S_mono HO_194001.out (fun _ hk => ⟨hk.2, hk.1⟩)⟩, ⟨by (with_reducible repeat (first | apply Kd.S_alloc | apply Kd.S_drewN | apply Kd.S_drew)); exact Kd.S_mono HO_208001.out (fun _ hk => ⟨hk.2, hk.1⟩)⟩, ⟨bkC BK193⟩, ⟨bkC BK207⟩, ⟨hbC _⟩⟩
        rw [if_pos c116] at H
        have c116b0 : (t238 == 0) = true := beq_iff_eq.mpr c116
        have c116b1 : (t238 != 0) = false := bne_eq_false_iff_eq.mpr c116
        clear c116
        have H' := Aside0.mk H
        clear H
        obtain ⟨Ao117, co117, eo117⟩ := Kd.S_slice HO240.out
        subst eo117
        go_wp2
        go_meet
        case rel => exact ⟨_, (((t237.length : Int) != 4)), (by first | rfl | (simp; done) | (simp [*]; done)), H', ⟨by have := HJ11.out; have := HJ34.out; have := HK3.out; first | omega | exact Nat.le_refl _⟩, ⟨rD (Kd.R_mono HO_11.out (fun _ hk => hk.1.1.2))⟩, ⟨rD (Kd.R_mono HO227.out (fun _ hk => hk.1.1))⟩, ⟨by (with_reducible repeat (first | apply Kd.S_alloc | apply Kd.S_drewN | apply Kd.S_drew)); exact Kd.S_mono HO240.out (fun _ hk => ⟨hk.1.2, hk.2⟩)⟩, ⟨by (with_reducible repeat (first | apply Kd.S_alloc | apply Kd.S_drewN | apply Kd.S_drew)); exact Kd.S_mono HO_194001.out (fun _ hk => ⟨hk.2, hk.1⟩)⟩, ⟨by (with_reducible repeat (first | apply Kd.S_alloc | apply Kd.S_drewN | apply Kd.S_drew)); exact Kd.S_mono HO_208001.out (fun _ hk => ⟨hk.2, hk.1⟩)⟩, ⟨bkC BK193⟩, ⟨bkC BK207⟩, ⟨hbC _⟩⟩
       case rest =>
        as_aux_lemma =>
        clear HC104
        try clear c1
        try clear c2
        try clear p2
        try clear q2
        try clear hx2
        try clear qi2
        try clear c3
        try clear c4
        try clear c5
        try clear c6
        try clear p6
        try clear c7
        try clear c8
        try clear c9
        try clear c11
        try clear c12
        try clear c13
        try clear c16
        try clear c17
        try clear p20
        try clear q20
        try clear hx20
        try clear c21
        try clear p21
        try clear q21
        try clear hx21
        try clear qi21
        try clear p22
        try clear q22
        try clear hx22
        try clear qi22
        try clear c30
        try clear c30b0
        try clear c30b1
        try clear c31
        try clear c34
        try clear c34b0
        try clear c34b1
        try clear c37
        try clear c38
        try clear c38b0
        try clear c38b1
        try clear c39
        try clear c39b0
        try clear c39b1
        try clear c40
        try clear c40b0
        try clear c40b1
        try clear c41
        try clear c41b0
        try clear c41b1
        try clear c43
        try clear c48
        try clear c53
        try clear c58
        try clear c63
        try clear p64
        try clear c67
        try clear c68
        try clear c68b0
        try clear c68b1
        try clear c70
        try clear c74
        try clear c74b0
        try clear c75
        try clear c75b0
        try clear c76
        try clear c79
        try clear c79b0
        try clear c80
        try clear c80b0
        try clear c81
        try clear c81b0
        try clear c82
        try clear c82b0
        try clear c83
        try clear c83b0
        try clear c84
        try clear c84b0
        try clear c84b1
        try clear c85
        try clear c85b0
        try clear c86
        try clear c88
        try clear c88b0
        try clear c88b1
        try clear c90
        try clear c90b0
        try clear c90b1
        try clear c91
        try clear c91b0
        try clear c91b1
        try clear c92
        try clear c92b0
        try clear c92b1
        try clear c93
        try clear c114
        try clear c115
        try clear c115b0
        try clear c115b1
        try clear c116
        try clear c116b0
        try clear c116b1
        try clear hcz32_0
        try clear hcz32_1
        try clear hcz33_0
        try clear hcz33_1
        try clear hcz44_0
        try clear hcz44_1
        try clear hcz47_0
        try clear hcz47_1
        try clear hcz49_0
        try clear hcz49_1
        try clear hcz52_0
        try clear hcz52_1
        try clear hcz54_0
        try clear hcz54_1
        try clear hcz57_0
        try clear hcz57_1
        try clear hcz59_0
        try clear hcz59_1
        try clear hcz62_0
        try clear hcz62_1
        try clear hcz64_0
        try clear hcz64_1
        try clear hcz71_0
        try clear hcz71_1
        try clear hcz77_0
        try clear hcz77_1
        try clear hfz32_0
        try clear hfz32_1
        try clear hfz33_0
        try clear hfz33_1
        try clear hfz44_0
        try clear hfz44_1
        try clear hfz47_0
        try clear hfz47_1
        try clear hfz49_0
        try clear hfz49_1
        try clear hfz52_0
        try clear hfz52_1
        try clear hfz54_0
        try clear hfz54_1
        try clear hfz57_0
        try clear hfz57_1
        try clear hfz59_0
        try clear hfz59_1
        try clear hfz62_0
        try clear hfz62_1
        try clear hfz64_0
        try clear hfz64_1
        try clear hfz71_0
        try clear hfz71_1
        try clear hfz77_0
        try clear hfz77_1
        try clear hx209_0
        try clear hx212_0
        try clear hx213_0
        try clear hx214_0
        try clear hx219_0
        try clear hx220_0
        try clear hx221_0
        try clear p2
        try clear p20
        try clear p209
        try clear p212
        try clear p213
        try clear p214
        try clear p219
        try clear p220
        try clear p221
        try clear p6
        try clear p64
        try clear q2
        try clear q20
        try clear q209
        try clear q212
        try clear q213
        try clear q214
        try clear q219
        try clear q220
        try clear q221
        obtain ⟨kq, x173_103, rfl, HA, HJ103, HO_11, HO_17, HO_20, HO_194001, HO_208001, BK193, BK207, HB⟩ := hcut
        have hl11_103 := (Kd.R_reads' HO_11.out).1
        rw [hl11_103] at HO_11
        (try simp only [hl11_103])
        (try simp only [hl11_103] at BK193)
        (try simp only [hl11_103] at BK207)
        (try simp only [hl11_103] at HO_17)
        (try simp only [hl11_103] at HO_20)
        (try simp only [hl11_103] at HO_194001)
        (try simp only [hl11_103] at HO_208001)
        cases kq with
        | zero => exact absurd HA.out (by simp [congoutop_TopPlane.j5])
        | succ kj103 =>
         have H := HA.out
         clear HA
         simp only [congoutop_TopPlane.j5] at H
         by_cases c118 : x173_103 = true
         ·subst c118
          have H1 : (some false) = some r := by rw [if_pos rfl] at H; exact H
          clear H
          have H := H1
          clear H1
          exact absurd (H.trans (congrArg some HRT.out)) (by simp)
         replace c118 := Bool.eq_false_iff.mpr c118
         subst c118
         have H1 : (congoutop_TopPlane.l3 kj103 t228 t225 t237 0) = some r := by rw [if_neg (show ¬ (false = true) by decide)] at H; exact H
         clear H
         have H := H1
         clear H1
         have H' := Aside0.mk H
         clear H
         go_wp2
         obtain ⟨Aq17, cq17, eq17⟩ := Kd.R_slice HO_17.out
         subst eq17
         obtain ⟨Aq20, cq20, eq20⟩ := Kd.S_slice HO_20.out
         subst eq20
         have HL17 := ak (Kd.R_reads' HO_17.out).2.1
         have HL11 := ak (Kd.R_reads' HO_11.out).2.1
         have HL20 := ak (Kd.S_reads' HO_20.out).2.1
         go_loopg [174] kj103 (fun kq v174 w' => ∃ (x174_5 : Int), v174 = .int .i64 x174_5 ∧ Aside0 (congoutop_TopPlane.l3 kq t228 t225 t237 x174_5 = some r) ∧ Aside0 (kq ≤ kj103) ∧ Aside0 (Kd.C k39 w' Ao105 t228.length t228) ∧ Aside0 (Kd.C k39 w' Aq17 t225.length t225) ∧ Aside0 (Kd.C (Kd.slice 3 (Kd.int .i64)) w' Aq20 t237.length t237) ∧ Aside0 (Below w.heap.size w w'))
         case atStart => exact ⟨0, (by first | rfl | (simp; done)), H', ⟨Nat.le_refl _⟩, ⟨kD (Kd.R_reads' HO_11.out).2.2⟩, ⟨kD (Kd.R_reads' HO_17.out).2.2⟩, ⟨kD (Kd.S_reads' HO_20.out).2.2⟩, ⟨hbC _⟩⟩
         case round =>
          as_aux_lemma =>
          clear H'
          clear HO_11 HO_17 HO_20
          try clear c1
          try clear c2
          try clear p2
          try clear q2
          try clear hx2
          try clear qi2
          try clear c3
          try clear c4
          try clear c5
          try clear c6
          try clear p6
          try clear c7
          try clear c8
          try clear c9
          try clear c11
          try clear c12
          try clear c13
          try clear c16
          try clear c17
          try clear p20
          try clear q20
          try clear hx20
          try clear c21
          try clear p21
          try clear q21
          try clear hx21
          try clear qi21
          try clear p22
          try clear q22
          try clear hx22
          try clear qi22
          try clear c30
          try clear c30b0
          try clear c30b1
          try clear c31
          try clear c34
          try clear c34b0
          try clear c34b1
          try clear c37
          try clear c38
          try clear c38b0
          try clear c38b1
          try clear c39
          try clear c39b0
          try clear c39b1
          try clear c40
          try clear c40b0
          try clear c40b1
          try clear c41
          try clear c41b0
          try clear c41b1
          try clear c43
          try clear c48
          try clear c53
          try clear c58
          try clear c63
          try clear p64
          try clear c67
          try clear c68
          try clear c68b0
          try clear c68b1
          try clear c70
          try clear c74
          try clear c74b0
          try clear c75
          try clear c75b0
          try clear c76
          try clear c79
          try clear c79b0
          try clear c80
          try clear c80b0
          try clear c81
          try clear c81b0
          try clear c82
          try clear c82b0
          try clear c83
          try clear c83b0
          try clear c84
          try clear c84b0
          try clear c84b1
          try clear c85
          try clear c85b0
          try clear c86
          try clear c88
          try clear c88b0
          try clear c88b1
          try clear c90
          try clear c90b0
          try clear c90b1
          try clear c91
          try clear c91b0
          try clear c91b1
          try clear c92
          try clear c92b0
          try clear c92b1
          try clear c93
          try clear c114
          try clear c115
          try clear c115b0
          try clear c115b1
          try clear c116
          try clear c116b0
          try clear c116b1
          try clear c118
          try clear hcz32_0
          try clear hcz32_1
          try clear hcz33_0
          try clear hcz33_1
          try clear hcz44_0
          try clear hcz44_1
          try clear hcz47_0
          try clear hcz47_1
          try clear hcz49_0
          try clear hcz49_1
          try clear hcz52_0
          try clear hcz52_1
          try clear hcz54_0
          try clear hcz54_1
          try clear hcz57_0
          try clear hcz57_1
          try clear hcz59_0
          try clear hcz59_1
          try clear hcz62_0
          try clear hcz62_1
          try clear hcz64_0
          try clear hcz64_1
          try clear hcz71_0
          try clear hcz71_1
          try clear hcz77_0
          try clear hcz77_1
          try clear hfz32_0
          try clear hfz32_1
          try clear hfz33_0
          try clear hfz33_1
          try clear hfz44_0
          try clear hfz44_1
          try clear hfz47_0
          try clear hfz47_1
          try clear hfz49_0
          try clear hfz49_1
          try clear hfz52_0
          try clear hfz52_1
          try clear hfz54_0
          try clear hfz54_1
          try clear hfz57_0
          try clear hfz57_1
          try clear hfz59_0
          try clear hfz59_1
          try clear hfz62_0
          try clear hfz62_1
          try clear hfz64_0
          try clear hfz64_1
          try clear hfz71_0
          try clear hfz71_1
          try clear hfz77_0
          try clear hfz77_1
          try clear hx209_0
          try clear hx212_0
          try clear hx213_0
          try clear hx214_0
          try clear hx219_0
          try clear hx220_0
          try clear hx221_0
          try clear p2
          try clear p20
          try clear p209
          try clear p21
          try clear p212
          try clear p213
          try clear p214
          try clear p219
          try clear p22
          try clear p220
          try clear p221
          try clear p6
          try clear p64
          try clear q2
          try clear q20
          try clear q209
          try clear q21
          try clear q212
          try clear q213
          try clear q214
          try clear q219
          try clear q22
          try clear q220
          try clear q221
          obtain ⟨x174_5, rfl, HA, HK5, HC11, HC17, HC20, HB⟩ := hrel
          cases gk with
          | zero => exact absurd HA.out (by simp [congoutop_TopPlane.l3])
          | succ k5 =>
           have H := HA.out
           clear HA
           simp only [congoutop_TopPlane.l3] at H
           by_cases c119 : x174_5 < 4
           rotate_left
           ·rw [if_neg c119] at H
            have c119b0 : decide (x174_5 < 4) = false := decide_eq_false c119
            clear c119
            obtain ⟨t241, A1460, H⟩ := Option.bind_eq_some_iff.mp H
            have A146 := Aside0.mk A1460
            clear A1460
            obtain rfl := Option.some.inj H
            go_wp2_with (first | ((with_reducible refine gate_callee (f := 10) rfl ?_); refine gL 203 Try.func10 #[] ?_; (with_reducible refine (congoutop_apart.calls k5 t241 _ A146.out).mono ?_); rintro e w147 ⟨rfl, hb⟩; refine ⟨_, rfl, ?_⟩; replace HB := kH _ hb; (try clear hb)))
            go_ret
            exact ⟨rfl, hbC _⟩
           rw [if_pos c119] at H
           have c119b0 : decide (x174_5 < 4) = true := decide_eq_true c119
           clear c119
           obtain ⟨ji120, hji120⟩ : ∃ j_ : Int, (wrap64 (3 * x174_5)) = j_ := ⟨_, rfl⟩
           rw [hji120] at H
           have hji120w : (IntKind.i64.wrap (3 * x174_5)) = ji120 := (i64_w _).trans hji120
           by_cases c121 : 0 ≤ (ji120)
           rotate_left
           ·rw [if_neg c121] at H
            exact absurd H (by simp)
           rw [if_pos c121] at H
           have c121b0 := eq_true c121
           have c121b1 : decide (0 ≤ (ji120)) = true := decide_eq_true c121
           clear c121
           by_cases c122 : (ji120) ≤ (wrap64 ((ji120) + 3))
           rotate_left
           ·rw [if_neg c122] at H
            exact absurd H (by simp)
           rw [if_pos c122] at H
           have c122b0 := eq_true c122
           have c122b1 : decide ((ji120) ≤ (wrap64 ((ji120) + 3))) = true := decide_eq_true c122
           by_cases c123 : (wrap64 ((ji120) + 3)) ≤ (t225.length : Int)
           rotate_left
           ·rw [if_neg c123] at H
            exact absurd H (by simp)
           rw [if_pos c123] at H
           have c123b0 := eq_true c123
           have c123b1 : decide ((wrap64 ((ji120) + 3)) ≤ (t225.length : Int)) = true := decide_eq_true c123
           obtain ⟨y229, hy229⟩ : ∃ y_ : List (S39), y_ = ((t225.take ((wrap64 ((ji120) + 3)) : Int).toNat).drop ((ji120) : Int).toNat) := ⟨_, rfl⟩
           rw [Option.bind_some, ← hy229] at H
           have Ny229 := Aside0.mk hy229
           clear hy229
           have H' := Aside0.mk H
           clear H
           have q124 : ((wrap64 ((ji120) + 3)) : Int) ≤ ((t225.length : Int) : Int) := dA
           obtain ⟨i0124, hi0124, _, hsz124, _⟩ := info_parts info39
           have hroom124 : t225.length ≤ cq17 := HL17.out
           have hC124 : Kd.C k39 wr Aq17 t225.length t225 := HC17.out
           have ql124 : ((ji120) : Int) ≤ ((wrap64 ((ji120) + 3)) : Int) := dA
           have q0124 : (0 : Int) ≤ ((ji120) : Int) := dA
           have hcut124 := cut_mid (P := Try.prog) 37 39 .i64 .i64 Try.underlying37 hi0124 3 hsz124 Aq17 t225.length cq17 (ji120) (wrap64 ((ji120) + 3)) q0124 ql124 q124 hroom124
           have hr124 := Kd.C_mid (lo := ((ji120) : Int).toNat) (hi := ((wrap64 ((ji120) + 3)) : Int).toNat) (c := cq17) hC124 (by omega) (by omega) hroom124
           obtain ⟨A124, hA124⟩ : ∃ A1, A1 = (if cq17 = ((ji120) : Int).toNat then Aq17 else (Aq17 : Option Addr).map (·.add (((ji120) : Int).toNat * 3))) := ⟨_, rfl⟩
           obtain ⟨c124, hc124⟩ : ∃ c1, c1 = cq17 - ((ji120) : Int).toNat := ⟨_, rfl⟩
           have hy124 : y229.length = ((wrap64 ((ji120) + 3)) : Int).toNat - ((ji120) : Int).toNat := (by rw [Ny229.out, List.length_drop, List.length_take] <;> omega)
           rw [show ((t225).take ((wrap64 ((ji120) + 3)) : Int).toNat).drop ((ji120) : Int).toNat = y229 from Ny229.out.symm] at hr124
           replace hr124 : Kd.C k39 wr A124 y229.length y229 := (by rw [hA124]; exact hr124)
           rw [← hy124, ← hA124, ← hc124] at hcut124
           have HR245 := Aside0.mk hr124
           clear hr124 hC124 hroom124 hi0124 hsz124 hc124
           have KY124 := Aside0.mk hy124
           have KA124 := Aside0.mk hA124
           clear hy124 hA124
           replace q124 := eq_true q124
           have HD := ak (Below.refl wr.heap.size wr)
           obtain ⟨wo, hwo⟩ : ∃ wo : World, wo = wr := ⟨_, rfl⟩
           rw [← hwo] at HD HR245 HC11 HC17 HC20 HB
           have HWO := ak hwo
           clear hwo
           go_wp2_with (first | ((with_reducible refine gate_dst (N := 23) rfl ?_); refine bE 23 #[.slice none 0 0] 22 ?_; intro gb hgb wq hbox hb; have BA := ak (hbox); have HGB := ak (show wo.heap.size ≤ gb by rw [hgb, HWO.out]; exact Nat.le_refl _); replace HD := ak (show Below wo.heap.size wo wq by rw [HWO.out]; exact hb); clear hb hgb hbox))
           go_loopg [185] k5 (fun kq v185 w' => ∃ (x23 : List Int) (v23 : Value) (x185_6 : Int), v185 = .int .i64 x185_6 ∧ Aside0 (congoutop_TopPlane.l4 kq t228 t225 t237 x23 x174_5 y229 (y229.length : Int) x185_6 = some r) ∧ Aside0 (kq ≤ k5) ∧ Aside0 (w'.heap[gb]? = some (.cells #[v23] 22 (0, 0))) ∧ Aside0 (Kd.R (Kd.int .i64) 3 w' wo.heap.size (fun _ => True) v23 x23) ∧ Aside0 (Below wo.heap.size wo w'))
           case atStart => exact ⟨[], .slice none 0 0, 0, (by first | rfl | (simp; done)), H', ⟨Nat.le_refl _⟩, BA, ⟨Kd.R_nil _ _ _ _ _⟩, HD⟩
           case round =>
            as_aux_lemma =>
            clear H' HD BA c119b0 hcut124 q124 ql124 q0124 c121b0 c121b1 c122b0 c122b1 c123b0 c123b1 hji120w hji120 c122 c123
            obtain ⟨x23, v23, x185_6, rfl, HA, HK6, BA, HR23, HD⟩ := hrel
            cases gk with
            | zero => exact absurd HA.out (by simp [congoutop_TopPlane.l4])
            | succ k6 =>
             have H := HA.out
             clear HA
             simp only [congoutop_TopPlane.l4] at H
             obtain ⟨A23, c23, e23⟩ := Kd.R_slice HR23.out
             subst e23
             have hca : wr.cell? ⟨gb, 0, none⟩ = some (.slice A23 x23.length c23) := bc BA 0
             by_cases c126 : x185_6 < (y229.length : Int)
             rotate_left
             ·rw [if_neg c126] at H
              have c126b0 : decide (x185_6 < (y229.length : Int)) = false := decide_eq_false c126
              clear c126
              obtain ⟨t250, A1390, H⟩ := Option.bind_eq_some_iff.mp H
              have A139 := Aside0.mk A1390
              clear A1390
              obtain ⟨t251, A1400, H⟩ := Option.bind_eq_some_iff.mp H
              have A140 := Aside0.mk A1400
              clear A1400
              by_cases c141 : t251 = true
              rotate_left
              ·rw [if_neg c141] at H
               exact absurd (H.trans (congrArg some HRT.out)) (by simp)
              rw [if_pos c141] at H
              subst c141
              have H' := Aside0.mk H
              clear H
              have hmf : ∀ (fn : Fn) (first cap : Array Value) (w : World), (Instr.makeFunc fn first cap).run Try.prog w = .ok (.func fn first cap) w := fun _ _ _ _ => rfl
              go_wp2_with (first
               | ((with_reducible refine gate_callee (f := 11) rfl ?_); refine gL 197 Try.func11 #[.slice A23 x23.length c23] ?_; (with_reducible refine (xSort.calls (fun k_ => some k_ = (.slice A23 x23.length c23 : Value).ownBlock) (.slice A23 x23.length c23) x23 t250 wo _ ?side1 ?side2 A139.out).mono ?_); (case side1 => exact HD.out); (case side2 => exact Kd.R_tight rfl HR23.out); rintro e w143 ⟨rfl, hy0, hb, hkp⟩; refine ⟨_, rfl, ?_⟩; have HR24 := ak hy0; have HLL := ak (R_len hy0); replace BA := ak (blk_kept BA.out hkp (fun h_ => absurd h_ (Kd.R_ne HR23.out BA.out (by decide)))); replace HD := ak hb; clear hy0 hb hkp hca; have hca : w143.cell? ⟨gb, 0, none⟩ = some (.slice A23 x23.length c23) := bc BA 0)
               | ((with_reducible refine gate_callee (f := 19) rfl ?_); refine gL 200 Try.func19 #[.slice Aq20 t237.length cq20, .func (.func 20) #[] #[.pointer (some ⟨gb, 0, none⟩)]] ?_; (with_reducible refine (xHas.calls gb Aq20 cq20 t237 A23 c23 t250 true _ ?side1 ?side2 ?side3 ?side4 ?side5 A140.out).mono ?_); (case side1 => exact Kd.C_below HC20.out HD.out); (case side2 => exact HL20.out); (case side3 => exact C_len (Kd.R_reads' HR24.out).2.2 rfl); (case side4 => exact Nat.le_trans (Nat.le_of_eq HLL.out.symm) (Kd.R_reads' HR24.out).2.1); (case side5 => exact cell_len hca HLL.out); rintro e w144 ⟨rfl, hb⟩; refine ⟨_, rfl, ?_⟩; replace HD := ak (below_step HD.out hb); clear hb hca))
              go_roundg k6
              case measure => have := HJ11.out; have := HJ34.out; have := HK3.out; have := HJ103.out; have := HK5.out; have := HK6.out; omega
              case rel => exact ⟨(wrap64 (x174_5 + 1)), (by first | rfl | (simp; done) | (simp [*]; done)), H', ⟨by have := HJ11.out; have := HJ34.out; have := HK3.out; have := HJ103.out; have := HK5.out; have := HK6.out; omega⟩, ⟨Kd.C_below HC11.out HD.out⟩, ⟨Kd.C_below HC17.out HD.out⟩, ⟨Kd.C_below HC20.out HD.out⟩, ⟨below_step HB.out HD.out⟩⟩
             rw [if_pos c126] at H
             have c126b0 : decide (x185_6 < (y229.length : Int)) = true := decide_eq_true c126
             by_cases c127 : 0 ≤ x185_6
             rotate_left
             ·rw [if_neg c127] at H
              exact absurd H (by simp)
             rw [if_pos c127, if_pos c126] at H
             have c127b0 := eq_true c127
             have c127b1 : decide (0 ≤ x185_6) = true := decide_eq_true c127
             obtain ⟨t248, A1290, H⟩ := Option.bind_eq_some_iff.mp H
             have A129 := Aside0.mk A1290
             clear A1290
             by_cases c130 : x23.length < 17592186044416
             rotate_left
             ·rw [if_neg c130] at H
              exact absurd H (by simp)
             rw [if_pos c130] at H
             have LM := Aside0.mk c130
             have H' := Aside0.mk H
             clear H c130
             obtain ⟨ad246, e246, hx0, hx1, hx2⟩ := at_T39 HR245.out x185_6 c127 c126
             cases e246
             replace hx0 := (HD.out.cell (World.block_lt_of_cell? wo _ hx0)).trans hx0
             replace hx1 := (HD.out.cell (World.block_lt_of_cell? wo _ hx1)).trans hx1
             replace hx2 := (HD.out.cell (World.block_lt_of_cell? wo _ hx2)).trans hx2
             replace c127 := eq_true c127
             replace c126 := eq_true c126
             go_wp2_with (first | ((with_reducible refine gate_dst (N := 25) rfl ?_); refine bE 25 #[.int .i64 0, .int .i64 0, .int .i64 0] 39 ?_; intro gx hg w131 hbox hb; have HNE := kL BA hg; have BX := ak (hbox); replace BA := kB BA hb; replace HR23 := kO HR23 hb; have HGX := ak (show wo.heap.size ≤ gx by rw [hg]; exact below_size HD.out); replace HD := ak (below_step HD.out hb); clear hb hbox hg hca; have hz0 : w131.cell? ⟨gx, 0, none⟩ = some (.int .i64 0) := bc BX 0; have hz1 : w131.cell? ⟨gx, 1, none⟩ = some (.int .i64 0) := bc BX 1; have hz2 : w131.cell? ⟨gx, 2, none⟩ = some (.int .i64 0) := bc BX 2; have hf0 := fz BX 0; have hf1 := fz BX 1; have hf2 := fz BX 2))
             have BX2 := ak (show (((w131.setCell ⟨gx, 0, none⟩ (.int .i64 ((rd_T39 y229 x185_6).f0))).setCell ⟨gx, 1, none⟩ (.int .i64 ((rd_T39 y229 x185_6).f1))).setCell ⟨gx, 2, none⟩ (.int .i64 ((rd_T39 y229 x185_6).f2))).heap[gx]? = some (.cells #[.int .i64 ((rd_T39 y229 x185_6).f0), .int .i64 ((rd_T39 y229 x185_6).f1), .int .i64 ((rd_T39 y229 x185_6).f2)] 39 (0, 0)) from blk_put (cs := #[.int .i64 ((rd_T39 y229 x185_6).f0), .int .i64 ((rd_T39 y229 x185_6).f1), .int .i64 0]) (blk_put (cs := #[.int .i64 ((rd_T39 y229 x185_6).f0), .int .i64 0, .int .i64 0]) (blk_put (cs := #[.int .i64 0, .int .i64 0, .int .i64 0]) BX.out 0 _ rfl) 1 _ rfl) 2 _ rfl)
             have BA2 := ak (show (((w131.setCell ⟨gx, 0, none⟩ (.int .i64 ((rd_T39 y229 x185_6).f0))).setCell ⟨gx, 1, none⟩ (.int .i64 ((rd_T39 y229 x185_6).f1))).setCell ⟨gx, 2, none⟩ (.int .i64 ((rd_T39 y229 x185_6).f2))).heap[gb]? = some (.cells #[.slice A23 x23.length c23] 22 (0, 0)) from blk_far (blk_far (blk_far BA.out HNE.out _) HNE.out _) HNE.out _)
             have HR2 := ak (show Kd.R (Kd.int .i64) 3 (((w131.setCell ⟨gx, 0, none⟩ (.int .i64 ((rd_T39 y229 x185_6).f0))).setCell ⟨gx, 1, none⟩ (.int .i64 ((rd_T39 y229 x185_6).f1))).setCell ⟨gx, 2, none⟩ (.int .i64 ((rd_T39 y229 x185_6).f2))) wo.heap.size (fun _ => True) (.slice A23 x23.length c23) x23 from Kd.R_set (Kd.R_set (Kd.R_set HR23.out BX.out (by decide) 0 _) (blk_put (cs := #[.int .i64 0, .int .i64 0, .int .i64 0]) BX.out 0 (.int .i64 ((rd_T39 y229 x185_6).f0)) rfl) (by decide) 1 _) (blk_put (cs := #[.int .i64 ((rd_T39 y229 x185_6).f0), .int .i64 0, .int .i64 0]) (blk_put (cs := #[.int .i64 0, .int .i64 0, .int .i64 0]) BX.out 0 (.int .i64 ((rd_T39 y229 x185_6).f0)) rfl) 1 (.int .i64 ((rd_T39 y229 x185_6).f1)) rfl) (by decide) 2 _)
             have HD2 := ak (show Below wo.heap.size wo (((w131.setCell ⟨gx, 0, none⟩ (.int .i64 ((rd_T39 y229 x185_6).f0))).setCell ⟨gx, 1, none⟩ (.int .i64 ((rd_T39 y229 x185_6).f1))).setCell ⟨gx, 2, none⟩ (.int .i64 ((rd_T39 y229 x185_6).f2))) from below_set (below_set (below_set HD.out HGX.out) HGX.out) HGX.out)
             generalize (((w131.setCell ⟨gx, 0, none⟩ (.int .i64 ((rd_T39 y229 x185_6).f0))).setCell ⟨gx, 1, none⟩ (.int .i64 ((rd_T39 y229 x185_6).f1))).setCell ⟨gx, 2, none⟩ (.int .i64 ((rd_T39 y229 x185_6).f2))) = w132 at BX2 BA2 HR2 HD2 ⊢
             clear BX BA HR23 HD hz0 hz1 hz2 hf0 hf1 hf2 hx0 hx1 hx2
             replace BX2 := kd BX2
             replace BA2 := kd BA2
             replace HR2 := ak (Kd.R_drew HR2.out)
             replace HD2 := ak (below_drew1 HD2.out)
             refine sS (n := 7) (S := fun w' => w'.cell? ⟨gb, 0, none⟩ = some (.slice A23 x23.length c23) ∧ w'.cell? ⟨gx, 0, none⟩ = some (.int .i64 ((rd_T39 y229 x185_6).f0)) ∧ w'.cell? ⟨gx, 1, none⟩ = some (.int .i64 ((rd_T39 y229 x185_6).f1)) ∧ w'.cell? ⟨gx, 2, none⟩ = some (.int .i64 ((rd_T39 y229 x185_6).f2))) (ds := [6]) ⟨bc BA2 0, bc BX2 0, bc BX2 1, bc BX2 2⟩ (fun hHeld => ?_); refine with_tabW Y3.tab44 Y3.bits44 (fun HT_ HW_ => ?_)
             generalize w132.drew = w133 at BX2 BA2 HR2 HD2 hHeld ⊢
             refine take_ (i := 0) (N := some 189) (v := ?_) (a' := ?_) (ba 7 1) rfl rfl (take_ofW HT_.out HW_.out (by kernel_rfl)) (fun _ _ _ h => h) (Or.inl ⟨by rfl, ?_⟩) hHeld ?_ ?_
             rotate_left
             ·rintro w' ⟨s0, s1, s2, s3⟩
              go_simp
              with_reducible rfl
             rotate_left
             ·simp only [Act.put, List.setIfInBounds_toArray, List.set_cons_zero, List.set_cons_succ, i64_w, i32_w]
              rfl
             refine pS 1 190 7 3 ?_
             refine take_ (i := 2) (N := some 191) (v := ?_) (a' := ?_) (ba 7 7) rfl rfl (take_ofW HT_.out HW_.out (by kernel_rfl)) (fun _ _ _ h => h) (Or.inl ⟨by rfl, ?_⟩) hHeld ?_ ?_
             rotate_left
             ·rintro w' ⟨s0, s1, s2, s3⟩
              go_simp
              with_reducible rfl
             rotate_left
             ·simp only [Act.put, List.setIfInBounds_toArray, List.set_cons_zero, List.set_cons_succ, i64_w, i32_w]
              rfl
             refine one_ (i := 3) (N := some 192) (ba 7 15) rfl rfl (one_of HT_.out (by kernel_rfl)) (by decide) (fun K hK => ?_)
             refine gC Try.func18 #[.slice Ao105 t228.length co105, .agg #[.int .i64 ((rd_T39 y229 x185_6).f0), .int .i64 ((rd_T39 y229 x185_6).f1), .int .i64 ((rd_T39 y229 x185_6).f2)]] ?_
             refine (slices_Index_3_int_3_int.calls k6 _ _ t228 ((rd_T39 y229 x185_6).f0) ((rd_T39 y229 x185_6).f1) ((rd_T39 y229 x185_6).f2) t248 _ (Kd.C_below HC11.out HD2.out) HL11.out A129.out).mono ?_
             rintro e w137 ⟨rfl, hb⟩
             refine ⟨_, rfl, ?_⟩
             replace BX2 := kB BX2 hb
             replace BA2 := kB BA2 hb
             replace HR2 := kO HR2 hb
             replace HD2 := ak (below_step HD2.out hb)
             clear hb
             refine hK.out _ _ ⟨bc BA2 0, bc BX2 0, bc BX2 1, bc BX2 2⟩ (fun hHeld => ?_)
             clear hK K
             refine norm_ (a' := ?_) ?_ ?_
             rotate_left
             ·show Act.put _ (some 192) _ = _
              simp only [Act.put, List.setIfInBounds_toArray, List.set_cons_zero, List.set_cons_succ, i64_w, i32_w]
              rfl
             refine one_ (i := 4) (N := some 193) (ba 7 31) rfl rfl (one_of HT_.out (by kernel_rfl)) (by decide) (fun K hK => ?_)
             refine value_ (w1 := ?_) (v := ?_) (by rfl) rfl ?_ ?_
             rotate_left 2
             ·go_simp
              constructor
              ·rfl
              ·rfl
             refine hK.out _ _ ⟨(blk_cell (blk_alloc BA2.out _) 0).trans rfl, (blk_cell (blk_alloc BX2.out _) 0).trans rfl, (blk_cell (blk_alloc BX2.out _) 1).trans rfl, (blk_cell (blk_alloc BX2.out _) 2).trans rfl⟩ (fun hHeld => ?_)
             clear hK K
             refine norm_ (a' := ?_) ?_ ?_
             rotate_left
             ·show Act.put _ (some 193) _ = _
              simp only [Act.put, List.setIfInBounds_toArray, List.set_cons_zero, List.set_cons_succ, i64_w, i32_w]
              rfl
             refine one_ (i := 5) (N := some 194) (ba 7 63) rfl rfl (one_of HT_.out (by kernel_rfl)) (by decide) (fun K hK => ?_)
             refine Kd.R_append_step (Kd.int .i64) (w0 := wo) wo.heap.size (by rfl) (.tmp 189) (.tmp 193) 22 3 (.int .i64 0) 8 rfl Try.underlying22 info3 rfl (by decide) (by omega) (.slice A23 x23.length c23) x23 t248 [.int .i64 t248] (fun _ => True) (fun _ => False) rfl rfl ?aP (fun _ hk => hk.elim) ?aF ?aO ?aB ?aS ?aL ?_
             (case aP => exact rfl)
             (case aB => exact HD2.out)
             (case aF => exact (fun _ _ => trivial))
             (case aO => exact HR2.out)
             (case aS => exact (below_size HD2.out))
             (case aL => have := LM.out; omega)
             intro v7 w138 ho hb hg hat
             have BX3 := ak (blk_grown (g := gx) (o := .cells #[.int .i64 ((rd_T39 y229 x185_6).f0), .int .i64 ((rd_T39 y229 x185_6).f1), .int .i64 ((rd_T39 y229 x185_6).f2)] 39 (0, 0)) BX2.out hg (Kd.R_ne HR2.out BX2.out (by decide)))
             have BA3 := ak (blk_grown (g := gb) (o := .cells #[.slice A23 x23.length c23] 22 (0, 0)) BA2.out hg (Kd.R_ne HR2.out BA2.out (by decide)))
             have HR3 := ak ho
             have HD3 := ak hb
             clear ho hb hg hat BX2 BA2 HR2 HD2
             obtain ⟨A7, c7, e7⟩ := Kd.R_slice HR3.out
             rw [show (x23 ++ [t248]).length = x23.length + 1 by rw [List.length_append, List.length_singleton]] at e7
             subst e7
             refine hK.out _ _ ⟨bc BA3 0, bc BX3 0, bc BX3 1, bc BX3 2⟩ (fun hHeld => ?_)
             clear hK K
             refine norm_ (a' := ?_) ?_ ?_
             rotate_left
             ·show Act.put _ (some 194) _ = _
              simp only [Act.put, List.setIfInBounds_toArray, List.set_cons_zero, List.set_cons_succ, i64_w, i32_w]
              rfl
             have hcb : w138.cell? ⟨gb, 0, none⟩ = some (.slice A23 x23.length c23) := bc BA3 0
             have hfb := fz BA3 0
             refine last_ (i := 6) (N := none) (ba 7 127) rfl rfl (one_of HT_.out (by kernel_rfl)) (by decide) (fun K hK => ?_)
             refine skip_ (w1 := w138.setCell ⟨gb, 0, none⟩ (.slice A7 (x23.length + 1) c7)) (by rfl) rfl (by go_simp) ?_
             refine hK.out _ _ ?_
             clear hK K hcb hfb
             refine done_ (done_of HT_.out (by kernel_rfl)) ?_
             clear hHeld
             try go_wp2
             go_roundg k6
             case measure => have := HJ11.out; have := HJ34.out; have := HK3.out; have := HJ103.out; have := HK5.out; have := HK6.out; omega
             case rel => exact ⟨_, _, (wrap64 (x185_6 + 1)), (by first | rfl | (simp; done) | (simp [*]; done)), H', ⟨by have := HJ11.out; have := HJ34.out; have := HK3.out; have := HJ103.out; have := HK5.out; have := HK6.out; omega⟩, ⟨blk_put BA3.out 0 _ rfl⟩, ⟨Kd.R_set HR3.out BA3.out (by decide) 0 _⟩, ⟨below_set HD3.out HGB.out⟩⟩

/-- THE ONE PURE STATEMENT of congoutop_TopPlane: yours. -/
def congoutop_TopPlane.Pure : Prop := ∀ (a0 : Int) (l1 : List Int) (l2 : List Int), (Lit.int .i64 a0).wf = true → l1.length ≤ maxLen → l1.length * 8 ≤ 140737488351232 → (∀ x ∈ l1, (Lit.int .i64 x).wf = true) → l2.length ≤ maxLen → l2.length * 8 ≤ 140737488351232 → (∀ x ∈ l2, (Lit.int .i64 x).wf = true) → ∃ k, congoutop_TopPlane.f k a0 l1 l2 = some true
theorem congoutop_TopPlane.walk (P : congoutop_TopPlane.Pure) (a0 : Int) (a1 : Option Addr) (len1 cap1 : Nat) (z1 : List Int) (a2 : Option Addr) (len2 cap2 : Nat) (z2 : List Int) (w : World) (w0 : (Lit.int .i64 a0).wf = true) (w1 : (a1 = none ∧ len1 = 0 ∧ cap1 = 0 ∧ z1 = []) ∨ ∃ x, a1 = some x ∧ len1 ≤ cap1 ∧ cap1 ≤ maxLen ∧ z1.length = cap1 ∧ (∀ i, i < z1.length → w.cell? (x.add i) = some (.int .i64 (z1.getD i 0))) ∧ ∀ n ∈ z1, (Lit.int .i64 n).wf = true) (y1 : len1 * 8 ≤ 140737488351232) (w2 : (a2 = none ∧ len2 = 0 ∧ cap2 = 0 ∧ z2 = []) ∨ ∃ x, a2 = some x ∧ len2 ≤ cap2 ∧ cap2 ≤ maxLen ∧ z2.length = cap2 ∧ (∀ i, i < z2.length → w.cell? (x.add i) = some (.int .i64 (z2.getD i 0))) ∧ ∀ n ∈ z2, (Lit.int .i64 n).wf = true) (y2 : len2 * 8 ≤ 140737488351232) :
  Calls Try.prog 3 #[.int .i64 a0, .slice a1 len1 cap1, .slice a2 len2 cap2] w fun e w' => e = .returned (.bool true) ∧ Below w.heap.size w w' := by
 obtain ⟨l1, rfl, hr1, hm1, hw1, hc1⟩ := ReadsInt.ofRowC w1
 obtain ⟨l2, rfl, hr2, hm2, hw2, hc2⟩ := ReadsInt.ofRowC w2
 obtain ⟨k, h⟩ := P a0 l1 l2 w0 hm1 y1 hw1 hm2 y2 hw2
 refine (congoutop_TopPlane.calls k a0 _ _ l1 _ _ l2 true w (Kd.C_of_reads (d := (0 : Int)) (h1 := fun _ => rfl) hr1) hc1 (Kd.C_of_reads (d := (0 : Int)) (h1 := fun _ => rfl) hr2) hc2 rfl h).mono ?_
 rintro e w' ⟨rfl, hd⟩
 exact ⟨rfl, hd⟩

end Go.Proofs.Ytkieehjpnjplmaa.X
