-- Written by a program of this work (wip/xprint.py, over the kit's printer) out of the translation.
import Derived.Test.YtefmafbbnkkpjaaX0
import Derived.Test.YtefmafbbnkkpjaaXG1a
import Derived.Test.YtefmafbbnkkpjaaXf88
namespace Go.Proofs.Ytefmafbbnkkpjaa.X
open Go.RowKit Go.Proofs.YtefmafbbnkkpjaaW.PrintWords Go.Proofs.YtefmafbbnkkpjaaW.PrintLast Go.Proofs.YtefmafbbnkkpjaaW.PrintMore
attribute [local go_sem] max2_int min2_int max_two min_two max_three min_three max_four min_four   -- for this text's walks alone
set_option linter.unusedVariables false
set_option linter.unusedSimpArgs false

/-! ### congouref01_Splits: function 51 -/
mutual
def congouref01_Splits.j0 : Nat → List (List (S62)) → List (List Int) → List (S62) → Int → Int → Bool → Option (Bool)
 | 0, _, _, _, _, _, _ => none
 | k + 1, x0, x1, x2, x7, x8, x49 => if x49 = true then (some false) else (if 0 ≤ x7 then (if (x7 : Int).toNat ≤ 11728124029610 then (congouref01_Splits.l0 k x1 x2 x7 x8 0 (List.replicate (x7 : Int).toNat []) x0 (x0.length : Int) 0) else (none)) else (none))
def congouref01_Splits.l0 : Nat → List (List Int) → List (S62) → Int → Int → Int → List (List Int) → List (List (S62)) → Int → Int → Option (Bool)
 | 0, _, _, _, _, _, _, _, _, _ => none
 | k + 1, x1, x2, x7, x8, x9, x10, x52, x53, x54 => if x54 < x53 then (if 0 ≤ x54 then (if x54 < (x52.length : Int) then (congouref01_Splits.l1 k x1 x2 x7 x8 x9 x10 x54 x52 x53 x54 (rd_L5 x52 x54) ((rd_L5 x52 x54).length : Int) 0) else (none)) else (none)) else (congouref01_Splits.l2 k x2 x7 x8 x9 x10 x1 (x1.length : Int) 0)
def congouref01_Splits.l1 : Nat → List (List Int) → List (S62) → Int → Int → Int → List (List Int) → Int → List (List (S62)) → Int → Int → List (S62) → Int → Int → Option (Bool)
 | 0, _, _, _, _, _, _, _, _, _, _, _, _, _ => none
 | k + 1, x1, x2, x7, x8, x9, x10, x11, x52, x53, x54, x59, x60, x61 => if x61 < x60 then (if 0 ≤ x61 then (if x61 < (x59.length : Int) then (if 0 ≤ x11 then (if x11 < (x10.length : Int) then (if ((rd_T62 x59 x61).f1) = 0 then (none) else (if (rd_L1 x10 x11).length < 17592186044416 then (congouref01_Splits.l1 k x1 x2 x7 x8 x9 (x10.set (x11 : Int).toNat ((rd_L1 x10 x11) ++ [wrap64 ((wrap64 (Int.tdiv x8 ((rd_T62 x59 x61).f1))) * ((rd_T62 x59 x61).f0))])) x11 x52 x53 x54 x59 x60 (wrap64 (x61 + 1))) else (none))) else (none)) else (none)) else (none)) else (none)) else (congouref01_Splits.l0 k x1 x2 x7 x8 x9 x10 x52 x53 (wrap64 (x54 + 1)))
def congouref01_Splits.l2 : Nat → List (S62) → Int → Int → Int → List (List Int) → List (List Int) → Int → Int → Option (Bool)
 | 0, _, _, _, _, _, _, _, _ => none
 | k + 1, x2, x7, x8, x9, x10, x83, x84, x85 => if x85 < x84 then (if 0 ≤ x85 then (if x85 < (x83.length : Int) then (if x85 < (x2.length : Int) then (if ((rd_T62 x2 x85).f0) < 1 then (congouref01_Splits.j4 k x2 x7 x8 x9 x10 x85 (rd_L1 x83 x85) x83 x84 x85 true) else (if ((rd_T62 x2 x85).f0) > ((rd_T62 x2 x85).f1) then (congouref01_Splits.j4 k x2 x7 x8 x9 x10 x85 (rd_L1 x83 x85) x83 x84 x85 true) else ((congouref01_order.f k (rd_L1 x83 x85) x7).bind fun t916 => (congouref01_Splits.j4 k x2 x7 x8 x9 x10 x85 (rd_L1 x83 x85) x83 x84 x85 (!t916))))) else (none)) else (none)) else (none)) else (congouref01_Splits.l4 k x8 x9 x10 (x10.length : Int) 0)
def congouref01_Splits.j4 : Nat → List (S62) → Int → Int → Int → List (List Int) → Int → List Int → List (List Int) → Int → Int → Bool → Option (Bool)
 | 0, _, _, _, _, _, _, _, _, _, _, _ => none
 | k + 1, x2, x7, x8, x9, x10, x15, x16, x83, x84, x85, x114 => if x114 = true then (some false) else (if 0 ≤ x15 then (if x15 < (x2.length : Int) then (if ((rd_T62 x2 x15).f1) = 0 then (none) else (if (wrap64 (x9 + (wrap64 ((wrap64 (Int.tdiv x8 ((rd_T62 x2 x15).f1))) * ((rd_T62 x2 x15).f0))))) > x8 then (some false) else (congouref01_Splits.l3 k x2 x7 x8 (wrap64 (x9 + (wrap64 ((wrap64 (Int.tdiv x8 ((rd_T62 x2 x15).f1))) * ((rd_T62 x2 x15).f0))))) x10 (wrap64 ((wrap64 (Int.tdiv x8 ((rd_T62 x2 x15).f1))) * ((rd_T62 x2 x15).f0))) x83 x84 x85 x16 (x16.length : Int) 0))) else (none)) else (none))
def congouref01_Splits.l3 : Nat → List (S62) → Int → Int → Int → List (List Int) → Int → List (List Int) → Int → Int → List Int → Int → Int → Option (Bool)
 | 0, _, _, _, _, _, _, _, _, _, _, _, _ => none
 | k + 1, x2, x7, x8, x9, x10, x17, x83, x84, x85, x134, x135, x136 => if x136 < x135 then (if 0 ≤ x136 then (if x136 < (x134.length : Int) then (if x136 < (x10.length : Int) then (if 0 ≤ (rd x134 x136) then (if (rd x134 x136) < ((rd_L1 x10 x136).length : Int) then (congouref01_Splits.l3 k x2 x7 x8 x9 (x10.set (x136 : Int).toNat ((rd_L1 x10 x136).set ((rd x134 x136) : Int).toNat (wrap64 ((rd (rd_L1 x10 x136) (rd x134 x136)) - x17)))) x17 x83 x84 x85 x134 x135 (wrap64 (x136 + 1))) else (none)) else (none)) else (none)) else (none)) else (none)) else (congouref01_Splits.l2 k x2 x7 x8 x9 x10 x83 x84 (wrap64 (x85 + 1)))
def congouref01_Splits.l4 : Nat → Int → Int → List (List Int) → Int → Int → Option (Bool)
 | 0, _, _, _, _, _ => none
 | k + 1, x8, x9, x153, x154, x155 => if x155 < x154 then (if 0 ≤ x155 then (if x155 < (x153.length : Int) then (congouref01_Splits.l5 k x8 x9 x153 x154 x155 (rd_L1 x153 x155) ((rd_L1 x153 x155).length : Int) 0) else (none)) else (none)) else (some (x9 == x8))
def congouref01_Splits.l5 : Nat → Int → Int → List (List Int) → Int → Int → List Int → Int → Int → Option (Bool)
 | 0, _, _, _, _, _, _, _, _ => none
 | k + 1, x8, x9, x153, x154, x155, x159, x160, x161 => if x161 < x160 then (if 0 ≤ x161 then (if x161 < (x159.length : Int) then (if (rd x159 x161) = 0 then (congouref01_Splits.l5 k x8 x9 x153 x154 x155 x159 x160 (wrap64 (x161 + 1))) else (some false)) else (none)) else (none)) else (congouref01_Splits.l4 k x8 x9 x153 x154 (wrap64 (x155 + 1)))
end
def congouref01_Splits.f (k : Nat) (l0 : List (List (S62))) (l1 : List (List Int)) (l2 : List (S62)) : Option (Bool) := (congouref01_numbers.f k l0).bind fun t893 => (if t893.length + l2.length < 8796093022208 then ((congouref01_Multiple.f k (t893 ++ l2) 10000000000000).bind fun t899 => (if t899 = 0 then (congouref01_Splits.j0 k l0 l1 l2 (l0.length : Int) t899 true) else ((congouref01_Multiple.f k l2 10000000).bind fun t900 => (if t900 = 0 then (congouref01_Splits.j0 k l0 l1 l2 (l0.length : Int) t899 true) else (if (l1.length : Int) = (l2.length : Int) then (congouref01_Splits.j0 k l0 l1 l2 (l0.length : Int) t899 (decide ((l1.length : Int) > 100))) else (congouref01_Splits.j0 k l0 l1 l2 (l0.length : Int) t899 true)))))) else (none))
theorem congouref01_Splits.mono_l : ∀ k, (∀ y0 y1 y2 y3 y4 y5, LeO (congouref01_Splits.j0 k y0 y1 y2 y3 y4 y5) (congouref01_Splits.j0 (k + 1) y0 y1 y2 y3 y4 y5)) ∧ (∀ y0 y1 y2 y3 y4 y5 y6 y7 y8, LeO (congouref01_Splits.l0 k y0 y1 y2 y3 y4 y5 y6 y7 y8) (congouref01_Splits.l0 (k + 1) y0 y1 y2 y3 y4 y5 y6 y7 y8)) ∧ (∀ y0 y1 y2 y3 y4 y5 y6 y7 y8 y9 y10 y11 y12, LeO (congouref01_Splits.l1 k y0 y1 y2 y3 y4 y5 y6 y7 y8 y9 y10 y11 y12) (congouref01_Splits.l1 (k + 1) y0 y1 y2 y3 y4 y5 y6 y7 y8 y9 y10 y11 y12)) ∧ (∀ y0 y1 y2 y3 y4 y5 y6 y7, LeO (congouref01_Splits.l2 k y0 y1 y2 y3 y4 y5 y6 y7) (congouref01_Splits.l2 (k + 1) y0 y1 y2 y3 y4 y5 y6 y7)) ∧ (∀ y0 y1 y2 y3 y4 y5 y6 y7 y8 y9 y10, LeO (congouref01_Splits.j4 k y0 y1 y2 y3 y4 y5 y6 y7 y8 y9 y10) (congouref01_Splits.j4 (k + 1) y0 y1 y2 y3 y4 y5 y6 y7 y8 y9 y10)) ∧ (∀ y0 y1 y2 y3 y4 y5 y6 y7 y8 y9 y10 y11, LeO (congouref01_Splits.l3 k y0 y1 y2 y3 y4 y5 y6 y7 y8 y9 y10 y11) (congouref01_Splits.l3 (k + 1) y0 y1 y2 y3 y4 y5 y6 y7 y8 y9 y10 y11)) ∧ (∀ y0 y1 y2 y3 y4, LeO (congouref01_Splits.l4 k y0 y1 y2 y3 y4) (congouref01_Splits.l4 (k + 1) y0 y1 y2 y3 y4)) ∧ (∀ y0 y1 y2 y3 y4 y5 y6 y7, LeO (congouref01_Splits.l5 k y0 y1 y2 y3 y4 y5 y6 y7) (congouref01_Splits.l5 (k + 1) y0 y1 y2 y3 y4 y5 y6 y7))
 | 0 => ⟨fun _ _ _ _ _ _ r h => by simp [congouref01_Splits.j0] at h, fun _ _ _ _ _ _ _ _ _ r h => by simp [congouref01_Splits.l0] at h, fun _ _ _ _ _ _ _ _ _ _ _ _ _ r h => by simp [congouref01_Splits.l1] at h, fun _ _ _ _ _ _ _ _ r h => by simp [congouref01_Splits.l2] at h, fun _ _ _ _ _ _ _ _ _ _ _ r h => by simp [congouref01_Splits.j4] at h, fun _ _ _ _ _ _ _ _ _ _ _ _ r h => by simp [congouref01_Splits.l3] at h, fun _ _ _ _ _ r h => by simp [congouref01_Splits.l4] at h, fun _ _ _ _ _ _ _ _ r h => by simp [congouref01_Splits.l5] at h⟩
 | k + 1 => by
  obtain ⟨ih0, ih1, ih2, ih3, ih4, ih5, ih6, ih7⟩ := congouref01_Splits.mono_l k
  refine ⟨?_, ?_, ?_, ?_, ?_, ?_, ?_, ?_⟩
  ·intro y0 y1 y2 y3 y4 y5
   unfold congouref01_Splits.j0
   repeat' first
   | (with_reducible exact ih0 _ _ _ _ _ _)
   | (with_reducible exact ih1 _ _ _ _ _ _ _ _ _)
   | (with_reducible exact ih2 _ _ _ _ _ _ _ _ _ _ _ _ _)
   | (with_reducible exact ih3 _ _ _ _ _ _ _ _)
   | (with_reducible exact ih4 _ _ _ _ _ _ _ _ _ _ _)
   | (with_reducible exact ih5 _ _ _ _ _ _ _ _ _ _ _ _)
   | (with_reducible exact ih6 _ _ _ _ _)
   | (with_reducible exact ih7 _ _ _ _ _ _ _ _)
   | (with_reducible exact congouref01_Multiple.mono _ _ _)
   | (with_reducible exact congouref01_numbers.mono _ _)
   | (with_reducible exact congouref01_order.mono _ _ _)
   | (with_reducible exact LeO.refl _)
   | (with_reducible exact LeO.none _)
   | (with_reducible refine LeO.ite ?_ ?_)
   | (with_reducible refine LeO.bind ?_ (fun _ => ?_))
   | exact ih0 _ _ _ _ _ _
   | exact ih1 _ _ _ _ _ _ _ _ _
   | exact ih2 _ _ _ _ _ _ _ _ _ _ _ _ _
   | exact ih3 _ _ _ _ _ _ _ _
   | exact ih4 _ _ _ _ _ _ _ _ _ _ _
   | exact ih5 _ _ _ _ _ _ _ _ _ _ _ _
   | exact ih6 _ _ _ _ _
   | exact ih7 _ _ _ _ _ _ _ _
   | exact congouref01_Multiple.mono _ _ _
   | exact congouref01_numbers.mono _ _
   | exact congouref01_order.mono _ _ _
   | exact LeO.none _
   | refine LeO.ite ?_ ?_
   | refine LeO.bind ?_ (fun _ => ?_)
  ·intro y0 y1 y2 y3 y4 y5 y6 y7 y8
   unfold congouref01_Splits.l0
   repeat' first
   | (with_reducible exact ih0 _ _ _ _ _ _)
   | (with_reducible exact ih1 _ _ _ _ _ _ _ _ _)
   | (with_reducible exact ih2 _ _ _ _ _ _ _ _ _ _ _ _ _)
   | (with_reducible exact ih3 _ _ _ _ _ _ _ _)
   | (with_reducible exact ih4 _ _ _ _ _ _ _ _ _ _ _)
   | (with_reducible exact ih5 _ _ _ _ _ _ _ _ _ _ _ _)
   | (with_reducible exact ih6 _ _ _ _ _)
   | (with_reducible exact ih7 _ _ _ _ _ _ _ _)
   | (with_reducible exact congouref01_Multiple.mono _ _ _)
   | (with_reducible exact congouref01_numbers.mono _ _)
   | (with_reducible exact congouref01_order.mono _ _ _)
   | (with_reducible exact LeO.refl _)
   | (with_reducible exact LeO.none _)
   | (with_reducible refine LeO.ite ?_ ?_)
   | (with_reducible refine LeO.bind ?_ (fun _ => ?_))
   | exact ih0 _ _ _ _ _ _
   | exact ih1 _ _ _ _ _ _ _ _ _
   | exact ih2 _ _ _ _ _ _ _ _ _ _ _ _ _
   | exact ih3 _ _ _ _ _ _ _ _
   | exact ih4 _ _ _ _ _ _ _ _ _ _ _
   | exact ih5 _ _ _ _ _ _ _ _ _ _ _ _
   | exact ih6 _ _ _ _ _
   | exact ih7 _ _ _ _ _ _ _ _
   | exact congouref01_Multiple.mono _ _ _
   | exact congouref01_numbers.mono _ _
   | exact congouref01_order.mono _ _ _
   | exact LeO.none _
   | refine LeO.ite ?_ ?_
   | refine LeO.bind ?_ (fun _ => ?_)
  ·intro y0 y1 y2 y3 y4 y5 y6 y7 y8 y9 y10 y11 y12
   unfold congouref01_Splits.l1
   repeat' first
   | (with_reducible exact ih0 _ _ _ _ _ _)
   | (with_reducible exact ih1 _ _ _ _ _ _ _ _ _)
   | (with_reducible exact ih2 _ _ _ _ _ _ _ _ _ _ _ _ _)
   | (with_reducible exact ih3 _ _ _ _ _ _ _ _)
   | (with_reducible exact ih4 _ _ _ _ _ _ _ _ _ _ _)
   | (with_reducible exact ih5 _ _ _ _ _ _ _ _ _ _ _ _)
   | (with_reducible exact ih6 _ _ _ _ _)
   | (with_reducible exact ih7 _ _ _ _ _ _ _ _)
   | (with_reducible exact congouref01_Multiple.mono _ _ _)
   | (with_reducible exact congouref01_numbers.mono _ _)
   | (with_reducible exact congouref01_order.mono _ _ _)
   | (with_reducible exact LeO.refl _)
   | (with_reducible exact LeO.none _)
   | (with_reducible refine LeO.ite ?_ ?_)
   | (with_reducible refine LeO.bind ?_ (fun _ => ?_))
   | exact ih0 _ _ _ _ _ _
   | exact ih1 _ _ _ _ _ _ _ _ _
   | exact ih2 _ _ _ _ _ _ _ _ _ _ _ _ _
   | exact ih3 _ _ _ _ _ _ _ _
   | exact ih4 _ _ _ _ _ _ _ _ _ _ _
   | exact ih5 _ _ _ _ _ _ _ _ _ _ _ _
   | exact ih6 _ _ _ _ _
   | exact ih7 _ _ _ _ _ _ _ _
   | exact congouref01_Multiple.mono _ _ _
   | exact congouref01_numbers.mono _ _
   | exact congouref01_order.mono _ _ _
   | exact LeO.none _
   | refine LeO.ite ?_ ?_
   | refine LeO.bind ?_ (fun _ => ?_)
  ·intro y0 y1 y2 y3 y4 y5 y6 y7
   unfold congouref01_Splits.l2
   repeat' first
   | (with_reducible exact ih0 _ _ _ _ _ _)
   | (with_reducible exact ih1 _ _ _ _ _ _ _ _ _)
   | (with_reducible exact ih2 _ _ _ _ _ _ _ _ _ _ _ _ _)
   | (with_reducible exact ih3 _ _ _ _ _ _ _ _)
   | (with_reducible exact ih4 _ _ _ _ _ _ _ _ _ _ _)
   | (with_reducible exact ih5 _ _ _ _ _ _ _ _ _ _ _ _)
   | (with_reducible exact ih6 _ _ _ _ _)
   | (with_reducible exact ih7 _ _ _ _ _ _ _ _)
   | (with_reducible exact congouref01_Multiple.mono _ _ _)
   | (with_reducible exact congouref01_numbers.mono _ _)
   | (with_reducible exact congouref01_order.mono _ _ _)
   | (with_reducible exact LeO.refl _)
   | (with_reducible exact LeO.none _)
   | (with_reducible refine LeO.ite ?_ ?_)
   | (with_reducible refine LeO.bind ?_ (fun _ => ?_))
   | exact ih0 _ _ _ _ _ _
   | exact ih1 _ _ _ _ _ _ _ _ _
   | exact ih2 _ _ _ _ _ _ _ _ _ _ _ _ _
   | exact ih3 _ _ _ _ _ _ _ _
   | exact ih4 _ _ _ _ _ _ _ _ _ _ _
   | exact ih5 _ _ _ _ _ _ _ _ _ _ _ _
   | exact ih6 _ _ _ _ _
   | exact ih7 _ _ _ _ _ _ _ _
   | exact congouref01_Multiple.mono _ _ _
   | exact congouref01_numbers.mono _ _
   | exact congouref01_order.mono _ _ _
   | exact LeO.none _
   | refine LeO.ite ?_ ?_
   | refine LeO.bind ?_ (fun _ => ?_)
  ·intro y0 y1 y2 y3 y4 y5 y6 y7 y8 y9 y10
   unfold congouref01_Splits.j4
   repeat' first
   | (with_reducible exact ih0 _ _ _ _ _ _)
   | (with_reducible exact ih1 _ _ _ _ _ _ _ _ _)
   | (with_reducible exact ih2 _ _ _ _ _ _ _ _ _ _ _ _ _)
   | (with_reducible exact ih3 _ _ _ _ _ _ _ _)
   | (with_reducible exact ih4 _ _ _ _ _ _ _ _ _ _ _)
   | (with_reducible exact ih5 _ _ _ _ _ _ _ _ _ _ _ _)
   | (with_reducible exact ih6 _ _ _ _ _)
   | (with_reducible exact ih7 _ _ _ _ _ _ _ _)
   | (with_reducible exact congouref01_Multiple.mono _ _ _)
   | (with_reducible exact congouref01_numbers.mono _ _)
   | (with_reducible exact congouref01_order.mono _ _ _)
   | (with_reducible exact LeO.refl _)
   | (with_reducible exact LeO.none _)
   | (with_reducible refine LeO.ite ?_ ?_)
   | (with_reducible refine LeO.bind ?_ (fun _ => ?_))
   | exact ih0 _ _ _ _ _ _
   | exact ih1 _ _ _ _ _ _ _ _ _
   | exact ih2 _ _ _ _ _ _ _ _ _ _ _ _ _
   | exact ih3 _ _ _ _ _ _ _ _
   | exact ih4 _ _ _ _ _ _ _ _ _ _ _
   | exact ih5 _ _ _ _ _ _ _ _ _ _ _ _
   | exact ih6 _ _ _ _ _
   | exact ih7 _ _ _ _ _ _ _ _
   | exact congouref01_Multiple.mono _ _ _
   | exact congouref01_numbers.mono _ _
   | exact congouref01_order.mono _ _ _
   | exact LeO.none _
   | refine LeO.ite ?_ ?_
   | refine LeO.bind ?_ (fun _ => ?_)
  ·intro y0 y1 y2 y3 y4 y5 y6 y7 y8 y9 y10 y11
   unfold congouref01_Splits.l3
   repeat' first
   | (with_reducible exact ih0 _ _ _ _ _ _)
   | (with_reducible exact ih1 _ _ _ _ _ _ _ _ _)
   | (with_reducible exact ih2 _ _ _ _ _ _ _ _ _ _ _ _ _)
   | (with_reducible exact ih3 _ _ _ _ _ _ _ _)
   | (with_reducible exact ih4 _ _ _ _ _ _ _ _ _ _ _)
   | (with_reducible exact ih5 _ _ _ _ _ _ _ _ _ _ _ _)
   | (with_reducible exact ih6 _ _ _ _ _)
   | (with_reducible exact ih7 _ _ _ _ _ _ _ _)
   | (with_reducible exact congouref01_Multiple.mono _ _ _)
   | (with_reducible exact congouref01_numbers.mono _ _)
   | (with_reducible exact congouref01_order.mono _ _ _)
   | (with_reducible exact LeO.refl _)
   | (with_reducible exact LeO.none _)
   | (with_reducible refine LeO.ite ?_ ?_)
   | (with_reducible refine LeO.bind ?_ (fun _ => ?_))
   | exact ih0 _ _ _ _ _ _
   | exact ih1 _ _ _ _ _ _ _ _ _
   | exact ih2 _ _ _ _ _ _ _ _ _ _ _ _ _
   | exact ih3 _ _ _ _ _ _ _ _
   | exact ih4 _ _ _ _ _ _ _ _ _ _ _
   | exact ih5 _ _ _ _ _ _ _ _ _ _ _ _
   | exact ih6 _ _ _ _ _
   | exact ih7 _ _ _ _ _ _ _ _
   | exact congouref01_Multiple.mono _ _ _
   | exact congouref01_numbers.mono _ _
   | exact congouref01_order.mono _ _ _
   | exact LeO.none _
   | refine LeO.ite ?_ ?_
   | refine LeO.bind ?_ (fun _ => ?_)
  ·intro y0 y1 y2 y3 y4
   unfold congouref01_Splits.l4
   repeat' first
   | (with_reducible exact ih0 _ _ _ _ _ _)
   | (with_reducible exact ih1 _ _ _ _ _ _ _ _ _)
   | (with_reducible exact ih2 _ _ _ _ _ _ _ _ _ _ _ _ _)
   | (with_reducible exact ih3 _ _ _ _ _ _ _ _)
   | (with_reducible exact ih4 _ _ _ _ _ _ _ _ _ _ _)
   | (with_reducible exact ih5 _ _ _ _ _ _ _ _ _ _ _ _)
   | (with_reducible exact ih6 _ _ _ _ _)
   | (with_reducible exact ih7 _ _ _ _ _ _ _ _)
   | (with_reducible exact congouref01_Multiple.mono _ _ _)
   | (with_reducible exact congouref01_numbers.mono _ _)
   | (with_reducible exact congouref01_order.mono _ _ _)
   | (with_reducible exact LeO.refl _)
   | (with_reducible exact LeO.none _)
   | (with_reducible refine LeO.ite ?_ ?_)
   | (with_reducible refine LeO.bind ?_ (fun _ => ?_))
   | exact ih0 _ _ _ _ _ _
   | exact ih1 _ _ _ _ _ _ _ _ _
   | exact ih2 _ _ _ _ _ _ _ _ _ _ _ _ _
   | exact ih3 _ _ _ _ _ _ _ _
   | exact ih4 _ _ _ _ _ _ _ _ _ _ _
   | exact ih5 _ _ _ _ _ _ _ _ _ _ _ _
   | exact ih6 _ _ _ _ _
   | exact ih7 _ _ _ _ _ _ _ _
   | exact congouref01_Multiple.mono _ _ _
   | exact congouref01_numbers.mono _ _
   | exact congouref01_order.mono _ _ _
   | exact LeO.none _
   | refine LeO.ite ?_ ?_
   | refine LeO.bind ?_ (fun _ => ?_)
  ·intro y0 y1 y2 y3 y4 y5 y6 y7
   unfold congouref01_Splits.l5
   repeat' first
   | (with_reducible exact ih0 _ _ _ _ _ _)
   | (with_reducible exact ih1 _ _ _ _ _ _ _ _ _)
   | (with_reducible exact ih2 _ _ _ _ _ _ _ _ _ _ _ _ _)
   | (with_reducible exact ih3 _ _ _ _ _ _ _ _)
   | (with_reducible exact ih4 _ _ _ _ _ _ _ _ _ _ _)
   | (with_reducible exact ih5 _ _ _ _ _ _ _ _ _ _ _ _)
   | (with_reducible exact ih6 _ _ _ _ _)
   | (with_reducible exact ih7 _ _ _ _ _ _ _ _)
   | (with_reducible exact congouref01_Multiple.mono _ _ _)
   | (with_reducible exact congouref01_numbers.mono _ _)
   | (with_reducible exact congouref01_order.mono _ _ _)
   | (with_reducible exact LeO.refl _)
   | (with_reducible exact LeO.none _)
   | (with_reducible refine LeO.ite ?_ ?_)
   | (with_reducible refine LeO.bind ?_ (fun _ => ?_))
   | exact ih0 _ _ _ _ _ _
   | exact ih1 _ _ _ _ _ _ _ _ _
   | exact ih2 _ _ _ _ _ _ _ _ _ _ _ _ _
   | exact ih3 _ _ _ _ _ _ _ _
   | exact ih4 _ _ _ _ _ _ _ _ _ _ _
   | exact ih5 _ _ _ _ _ _ _ _ _ _ _ _
   | exact ih6 _ _ _ _ _
   | exact ih7 _ _ _ _ _ _ _ _
   | exact congouref01_Multiple.mono _ _ _
   | exact congouref01_numbers.mono _ _
   | exact congouref01_order.mono _ _ _
   | exact LeO.none _
   | refine LeO.ite ?_ ?_
   | refine LeO.bind ?_ (fun _ => ?_)
theorem congouref01_Splits.mono : ∀ a0 a1 a2 k, LeO (congouref01_Splits.f k a0 a1 a2) (congouref01_Splits.f (k + 1) a0 a1 a2) := by
 intro a0 a1 a2 k
 obtain ⟨ih0, ih1, ih2, ih3, ih4, ih5, ih6, ih7⟩ := congouref01_Splits.mono_l k
 unfold congouref01_Splits.f
 repeat' first
   | (with_reducible exact ih0 _ _ _ _ _ _)
   | (with_reducible exact ih1 _ _ _ _ _ _ _ _ _)
   | (with_reducible exact ih2 _ _ _ _ _ _ _ _ _ _ _ _ _)
   | (with_reducible exact ih3 _ _ _ _ _ _ _ _)
   | (with_reducible exact ih4 _ _ _ _ _ _ _ _ _ _ _)
   | (with_reducible exact ih5 _ _ _ _ _ _ _ _ _ _ _ _)
   | (with_reducible exact ih6 _ _ _ _ _)
   | (with_reducible exact ih7 _ _ _ _ _ _ _ _)
   | (with_reducible exact congouref01_Multiple.mono _ _ _)
   | (with_reducible exact congouref01_numbers.mono _ _)
   | (with_reducible exact congouref01_order.mono _ _ _)
   | (with_reducible exact LeO.refl _)
   | (with_reducible exact LeO.none _)
   | (with_reducible refine LeO.ite ?_ ?_)
   | (with_reducible refine LeO.bind ?_ (fun _ => ?_))
   | exact ih0 _ _ _ _ _ _
   | exact ih1 _ _ _ _ _ _ _ _ _
   | exact ih2 _ _ _ _ _ _ _ _ _ _ _ _ _
   | exact ih3 _ _ _ _ _ _ _ _
   | exact ih4 _ _ _ _ _ _ _ _ _ _ _
   | exact ih5 _ _ _ _ _ _ _ _ _ _ _ _
   | exact ih6 _ _ _ _ _
   | exact ih7 _ _ _ _ _ _ _ _
   | exact congouref01_Multiple.mono _ _ _
   | exact congouref01_numbers.mono _ _
   | exact congouref01_order.mono _ _ _
   | exact LeO.none _
   | refine LeO.ite ?_ ?_
   | refine LeO.bind ?_ (fun _ => ?_)
def congouref01_Splits.T13 : Bool × List (List Nat × List Nat) := (true, [([], []), ([], []), ([], []), ([], []), ([2, 3], [2, 3]), ([4], [4]), ([], []), ([], []), ([7], [7]), ([6, 8], [6, 8]), ([], []), ([10], [10]), ([9, 11], [9, 11]), ([12], [12]), ([5, 13], [5, 13]), ([0, 1, 0, 1, 2, 3, 4, 5, 6, 7, 8, 9, 10, 11, 12, 13, 14], [0, 1]), ([15, 14, 14, 0, 1, 2, 3, 4, 5, 6, 7, 8, 9, 10, 11, 12, 13, 14], [14, 15])])
def congouref01_Splits.B13 : List Nat := [0, 0, 0, 0, 12, 28, 0, 0, 128, 448, 0, 1024, 4032, 8128, 16380, 32767, 65535]
theorem congouref01_Splits.tab13 : rtab .any (opsOf Try.f51 13) = congouref01_Splits.T13 := by kernel_rfl
theorem congouref01_Splits.bits13 : waitsOk congouref01_Splits.T13.2 congouref01_Splits.B13 = true := by kernel_rfl
def congouref01_Splits.T19 : Bool × List (List Nat × List Nat) := (true, [([], []), ([], []), ([0, 1], [0, 1]), ([2], [2]), ([3], [3]), ([4], [4]), ([5], [5]), ([6], [6]), ([6], [6]), ([7, 8, 6], [6, 7, 8]), ([9, 6], [6, 9]), ([10, 6], [6, 10]), ([6], [6]), ([6], [6]), ([12, 13, 6], [6, 12, 13]), ([14, 6], [6, 14]), ([15, 6], [6, 15]), ([11, 16, 6], [6, 11, 16]), ([6, 17], [6, 17]), ([18, 6], [18]), ([19], [19]), ([19], [19]), ([20, 21, 19, 19], [19, 20, 21]), ([22, 19], [19, 22]), ([19, 23], [19, 23])])
def congouref01_Splits.B19 : List Nat := [0, 0, 3, 7, 15, 31, 63, 127, 127, 511, 1023, 2047, 127, 127, 12415, 28799, 61567, 131071, 262143, 524287, 1048575, 1048575, 4194303, 8388607, 16777215]
theorem congouref01_Splits.tab19 : rtab .any (opsOf Try.f51 19) = congouref01_Splits.T19 := by kernel_rfl
theorem congouref01_Splits.bits19 : waitsOk congouref01_Splits.T19.2 congouref01_Splits.B19 = true := by kernel_rfl
def congouref01_Splits.T21 : Bool × List (List Nat × List Nat) := (true, [([], []), ([], []), ([], []), ([1, 2], [1, 2]), ([3], [3]), ([4], [4]), ([0, 5], [0, 5]), ([], []), ([], []), ([7, 8], [7, 8]), ([9], [9]), ([10], [10]), ([6, 11], [6, 11]), ([12, 0, 1, 2, 3, 4, 5, 6, 7, 8, 9, 10, 11, 12], [12])])
def congouref01_Splits.B21 : List Nat := [0, 0, 0, 6, 14, 30, 63, 0, 0, 384, 896, 1920, 4095, 8191]
theorem congouref01_Splits.tab21 : rtab .any (opsOf Try.f51 21) = congouref01_Splits.T21 := by kernel_rfl
theorem congouref01_Splits.bits21 : waitsOk congouref01_Splits.T21.2 congouref01_Splits.B21 = true := by kernel_rfl
set_option maxHeartbeats 8000000 in
set_option maxRecDepth 100000 in
theorem congouref01_Splits.calls (k : Nat) (A0 : Option Addr) (c0 : Nat) (l0 : List (List (S62))) (A1 : Option Addr) (c1 : Nat) (l1 : List (List Int)) (A2 : Option Addr) (c2 : Nat) (l2 : List (S62)) (r : Bool) (w : World) (hr0 : Kd.C (Kd.slice 62 k62) w A0 l0.length l0) (hc0 : l0.length ≤ c0) (hr1 : Kd.C (Kd.slice 3 (Kd.int .i64)) w A1 l1.length l1) (hc1 : l1.length ≤ c1) (hr2 : Kd.C k62 w A2 l2.length l2) (hc2 : l2.length ≤ c2) (h : congouref01_Splits.f k l0 l1 l2 = some r) :
  Calls Try.prog 51 #[.slice A0 l0.length c0, .slice A1 l1.length c1, .slice A2 l2.length c2] w fun e w' => e = .returned (.bool r) ∧ Below w.heap.size w w' := by
 have hu62 := Try.underlying62
 have HR0 := Aside0.mk hr0
 have HC0 := Aside0.mk hc0
 clear hr0 hc0
 have HR1 := Aside0.mk hr1
 have HC1 := Aside0.mk hc1
 clear hr1 hc1
 have HR2 := Aside0.mk hr2
 have HC2 := Aside0.mk hc2
 clear hr2 hc2
 have HB := ak (Below.refl w.heap.size w)
 have H : ((congouref01_numbers.f k l0).bind fun t893 => (if t893.length + l2.length < 8796093022208 then ((congouref01_Multiple.f k (t893 ++ l2) 10000000000000).bind fun t899 => (if t899 = 0 then (congouref01_Splits.j0 k l0 l1 l2 (l0.length : Int) t899 true) else ((congouref01_Multiple.f k l2 10000000).bind fun t900 => (if t900 = 0 then (congouref01_Splits.j0 k l0 l1 l2 (l0.length : Int) t899 true) else (if (l1.length : Int) = (l2.length : Int) then (congouref01_Splits.j0 k l0 l1 l2 (l0.length : Int) t899 (decide ((l1.length : Int) > 100))) else (congouref01_Splits.j0 k l0 l1 l2 (l0.length : Int) t899 true)))))) else (none))) = some r := h
 clear h
 replace H := Option.bind_eq_some_iff.mp H
 obtain ⟨t893, A40, H⟩ := H
 replace H : (if t893.length + l2.length < 8796093022208 then ((congouref01_Multiple.f k (t893 ++ l2) 10000000000000).bind fun t899 => (if t899 = 0 then (congouref01_Splits.j0 k l0 l1 l2 (l0.length : Int) t899 true) else ((congouref01_Multiple.f k l2 10000000).bind fun t900 => (if t900 = 0 then (congouref01_Splits.j0 k l0 l1 l2 (l0.length : Int) t899 true) else (if (l1.length : Int) = (l2.length : Int) then (congouref01_Splits.j0 k l0 l1 l2 (l0.length : Int) t899 (decide ((l1.length : Int) > 100))) else (congouref01_Splits.j0 k l0 l1 l2 (l0.length : Int) t899 true)))))) else (none)) = some r := H
 have A4 := Aside0.mk A40
 clear A40
 by_cases c5 : t893.length + l2.length < 8796093022208
 rotate_left
 ·rw [if_neg c5] at H
  exact absurd H (by simp)
 rw [if_pos c5] at H
 have LMc5 := Aside0.mk c5
 clear c5
 obtain ⟨y896, hy896⟩ : ∃ y_ : List (S62), y_ = (t893 ++ l2) := ⟨_, rfl⟩
 replace H : ((congouref01_Multiple.f k y896 10000000000000).bind fun t899 => (if t899 = 0 then (congouref01_Splits.j0 k l0 l1 l2 (l0.length : Int) t899 true) else ((congouref01_Multiple.f k l2 10000000).bind fun t900 => (if t900 = 0 then (congouref01_Splits.j0 k l0 l1 l2 (l0.length : Int) t899 true) else (if (l1.length : Int) = (l2.length : Int) then (congouref01_Splits.j0 k l0 l1 l2 (l0.length : Int) t899 (decide ((l1.length : Int) > 100))) else (congouref01_Splits.j0 k l0 l1 l2 (l0.length : Int) t899 true)))))) = some r := by first | (rw [hy896]; with_reducible exact H) | (have H2_ := (Option.bind_some _ _).symm.trans H; rw [hy896]; with_reducible exact H2_) | (have H2_ := (Option.bind_some _ _).symm.trans H; with_reducible exact H2_) | with_reducible exact H | (rw [hy896]; exact H) | exact H
 have Ny896 := Aside0.mk hy896
 clear hy896
 replace H := Option.bind_eq_some_iff.mp H
 obtain ⟨t899, A60, H⟩ := H
 replace H : (if t899 = 0 then (congouref01_Splits.j0 k l0 l1 l2 (l0.length : Int) t899 true) else ((congouref01_Multiple.f k l2 10000000).bind fun t900 => (if t900 = 0 then (congouref01_Splits.j0 k l0 l1 l2 (l0.length : Int) t899 true) else (if (l1.length : Int) = (l2.length : Int) then (congouref01_Splits.j0 k l0 l1 l2 (l0.length : Int) t899 (decide ((l1.length : Int) > 100))) else (congouref01_Splits.j0 k l0 l1 l2 (l0.length : Int) t899 true))))) = some r := H
 have A6 := Aside0.mk A60
 clear A60
 have HC7 := Aside0.mk H
 clear H
 go_enter Try.func51, Try.ntmps51
 go_upto_region 3 with (first | ((with_reducible refine gate_callee (f := 89) rfl ?_); refine gL 27 Try.func89 #[.slice A0 l0.length c0] ?_; (with_reducible refine (congouref01_numbers.calls k _ _ l0 t893 _ ?side1 ?side2 A4.out).mono ?_); (case side1 => repeat (first | exact HR0.out | (with_reducible refine Kd.C_alloc ?_ _) | (with_reducible refine Kd.C_drewN ?_ _) | (with_reducible refine Kd.C_drew ?_))); (case side2 => exact HC0.out); rintro e w8 ⟨v894, rfl, ho0, hb⟩; refine ⟨_, rfl, ?_⟩; have HO895 := ak (Kd.R_lower ho0 (below_size (hbC _))); replace HB := kH _ hb; (try clear hb); (try clear hb2); (try clear hk); (try clear hi); (try clear ho0)) | ((with_reducible refine gate_builtin (b := .append) (xs := #[.tmp 27, .tmp 28]) rfl ?_); (try (refine gate_guard (by rfl) ?_; dsimp only)); at_builtin; refine Kd.R_append_rows k62 (w0 := w) w.heap.size rfl (.tmp 27) (.tmp 28) 52 62 (.agg #[(.int .i64 0), (.int .i64 0)]) 16 rfl Try.underlying52 info62 rfl (by decide) (by omega) v894 t893 l2 _ _ _ (fun _ => True) (fun _ => False) rfl rfl ?aO ?aR (fun _ _ h => h) (fun _ h => h.elim) ?aF ?aB ?aS ?aL ?_; (case aR => exact kC HR2); (case aB => exact (hbC _)); (case aF => exact (fun _ _ => trivial)); (case aO => exact (rC HO895)); (case aS => exact (below_size (hbC _))); (case aL => have := LMc5.out; omega); intro v897 w9 ho hb hg hat; rw [← Ny896.out] at ho; have n0_ := ak (hb); have n1_ := ak (ho); clear HB; clear HO895; have HB := n0_; have HO898 := n1_; clear n0_ n1_; clear ho hb hg hat; obtain ⟨Ao10, co10, eo10⟩ := Kd.R_slice HO898.out; subst eo10) | ((with_reducible refine gate_callee (f := 88) rfl ?_); refine gL 30 Try.func88 #[.slice Ao10 y896.length co10, .int .i64 10000000000000] ?_; (with_reducible refine (congouref01_Multiple.calls k _ _ y896 10000000000000 t899 _ ?side1 ?side2 A6.out).mono ?_); (case side1 => exact kD (Kd.R_reads' HO898.out).2.2); (case side2 => exact (Kd.R_reads' HO898.out).2.1); rintro e w11 ⟨rfl, hb⟩; refine ⟨_, rfl, ?_⟩; replace HO898 := kO HO898 hb; replace HB := kH _ hb; (try clear hb); (try clear hb2); (try clear hk); (try clear hi)))
 (try simp only [Act.put, List.setIfInBounds_toArray, List.set_cons_zero, List.set_cons_succ])
 go_cut [49] (fun v49 wc => ∃ (kq : Nat) (x49_6 : Bool), v49 = .bool x49_6 ∧ Aside0 (congouref01_Splits.j0 kq l0 l1 l2 (l0.length : Int) t899 x49_6 = some r) ∧ Aside0 (kq ≤ k) ∧ Aside0 (Below w.heap.size w wc))
 case first =>
  have H := HC7.out
  clear HC7
  by_cases c12 : t899 = 0
  ·rw [if_pos c12] at H
   have c12b0 : (t899 == 0) = true := beq_iff_eq.mpr c12
   have c12b1 : (t899 != 0) = false := bne_eq_false_iff_eq.mpr c12
   clear c12
   (first | rw [c12b0] | (simp only [i64_w, i32_w]; rw [c12b0]) | skip)
   have H' := Aside0.mk H
   clear H
   go_wp2
   go_meet
   case rel => exact ⟨_, (true), (by first | rfl | (simp; done) | (simp [*]; done)), H', ⟨by first | omega | exact Nat.le_refl _⟩, ⟨hbC _⟩⟩
  rw [if_neg c12] at H
  have c12b0 : (t899 == 0) = false := beq_eq_false_iff_ne.mpr c12
  have c12b1 : (t899 != 0) = true := bne_iff_ne.mpr c12
  (first | rw [c12b0] | (simp only [i64_w, i32_w]; rw [c12b0]) | skip)
  replace H := Option.bind_eq_some_iff.mp H
  obtain ⟨t900, A130, H⟩ := H
  replace H : (if t900 = 0 then (congouref01_Splits.j0 k l0 l1 l2 (l0.length : Int) t899 true) else (if (l1.length : Int) = (l2.length : Int) then (congouref01_Splits.j0 k l0 l1 l2 (l0.length : Int) t899 (decide ((l1.length : Int) > 100))) else (congouref01_Splits.j0 k l0 l1 l2 (l0.length : Int) t899 true))) = some r := H
  have A13 := Aside0.mk A130
  clear A130
  by_cases c14 : t900 = 0
  ·rw [if_pos c14] at H
   have c14b0 : (t900 == 0) = true := beq_iff_eq.mpr c14
   have c14b1 : (t900 != 0) = false := bne_eq_false_iff_eq.mpr c14
   clear c14
   have H' := Aside0.mk H
   clear H
   go_wp2_with (first | (go_at_call 88; (with_reducible refine (congouref01_Multiple.calls k _ _ l2 10000000 t900 _ ?side1 ?side2 A13.out).mono ?_); (case side1 => exact kC HR2); (case side2 => exact HC2.out); rintro e w15 ⟨rfl, hb⟩; replace HO898 := kO HO898 hb; replace HB := kH _ hb; (try clear hb); (try clear hb2); (try clear hk); (try clear hi)))
   go_meet
   case rel => exact ⟨_, (true), (by first | rfl | (simp; done) | (simp [*]; done)), H', ⟨by first | omega | exact Nat.le_refl _⟩, ⟨hbC _⟩⟩
  rw [if_neg c14] at H
  have c14b0 : (t900 == 0) = false := beq_eq_false_iff_ne.mpr c14
  have c14b1 : (t900 != 0) = true := bne_iff_ne.mpr c14
  by_cases c16 : (l1.length : Int) = (l2.length : Int)
  rotate_left
  ·rw [if_neg c16] at H
   have c16b0 : ((l1.length : Int) == (l2.length : Int)) = false := beq_eq_false_iff_ne.mpr c16
   have c16b1 : ((l1.length : Int) != (l2.length : Int)) = true := bne_iff_ne.mpr c16
   have c16b2 : (l1.length == l2.length) = false := by first | simpa using c16 | (simp at c16 ⊢; omega)
   have H' := Aside0.mk H
   clear H
   go_wp2_with (first | (go_at_call 88; (with_reducible refine (congouref01_Multiple.calls k _ _ l2 10000000 t900 _ ?side1 ?side2 A13.out).mono ?_); (case side1 => exact kC HR2); (case side2 => exact HC2.out); rintro e w18 ⟨rfl, hb⟩; replace HO898 := kO HO898 hb; replace HB := kH _ hb; (try clear hb); (try clear hb2); (try clear hk); (try clear hi)))
   go_meet
   case rel => exact ⟨_, (true), (by first | rfl | (simp; done) | (simp [*]; done)), H', ⟨by first | omega | exact Nat.le_refl _⟩, ⟨hbC _⟩⟩
  rw [if_pos c16] at H
  have c16b0 : ((l1.length : Int) == (l2.length : Int)) = true := beq_iff_eq.mpr c16
  have c16b1 : ((l1.length : Int) != (l2.length : Int)) = false := bne_eq_false_iff_eq.mpr c16
  have c16b2 : (l1.length == l2.length) = true := by first | simpa using c16 | (simp at c16 ⊢; omega)
  clear c16
  have H' := Aside0.mk H
  clear H
  go_wp2_with (first | (go_at_call 88; (with_reducible refine (congouref01_Multiple.calls k _ _ l2 10000000 t900 _ ?side1 ?side2 A13.out).mono ?_); (case side1 => exact kC HR2); (case side2 => exact HC2.out); rintro e w17 ⟨rfl, hb⟩; replace HO898 := kO HO898 hb; replace HB := kH _ hb; (try clear hb); (try clear hb2); (try clear hk); (try clear hi)))
  go_meet
  case rel => exact ⟨_, (decide ((l1.length : Int) > 100)), (by first | rfl | (simp; done) | (simp [*]; done)), H', ⟨by first | omega | exact Nat.le_refl _⟩, ⟨hbC _⟩⟩
 case rest =>
  clear HC7
  try clear c1
  try clear c2
  try clear p2
  try clear c5
  try clear c8
  try clear c12
  try clear c12b0
  try clear c12b1
  try clear c14
  try clear c14b0
  try clear c14b1
  try clear c16
  try clear c16b0
  try clear c16b1
  try clear c16b2
  obtain ⟨kq, x49_6, rfl, HA, HJ6, HB⟩ := hcut
  cases kq with
  | zero => exact absurd HA.out (by simp [congouref01_Splits.j0])
  | succ kj6 =>
   have H := HA.out
   clear HA
   simp only [congouref01_Splits.j0] at H
   by_cases c19 : x49_6 = true
   ·subst c19
    have H1 : (some false) = some r := by rw [if_pos rfl] at H; exact H
    clear H
    have H := H1
    clear H1
    obtain rfl := Option.some.inj H
    go_wp2
    go_ret
    exact ⟨by first | rfl | (simp [errW_none, errW_some] <;> rfl) | (simp [*, errW_none, errW_some] <;> rfl), hbC _⟩
   replace c19 := Bool.eq_false_iff.mpr c19
   subst c19
   have H1 : (if 0 ≤ (l0.length : Int) then (if ((l0.length : Int) : Int).toNat ≤ 11728124029610 then (congouref01_Splits.l0 kj6 l1 l2 (l0.length : Int) t899 0 (List.replicate ((l0.length : Int) : Int).toNat []) l0 (l0.length : Int) 0) else (none)) else (none)) = some r := by rw [if_neg (show ¬ (false = true) by decide)] at H; exact H
   clear H
   have H := H1
   clear H1
   by_cases c20 : 0 ≤ (l0.length : Int)
   rotate_left
   ·rw [if_neg c20] at H
    exact absurd H (by simp)
   rw [if_pos c20] at H
   have c20b0 := eq_true c20
   have c20b1 : decide (0 ≤ (l0.length : Int)) = true := decide_eq_true c20
   clear c20
   by_cases c21 : ((l0.length : Int) : Int).toNat ≤ 11728124029610
   rotate_left
   ·rw [if_neg c21] at H
    exact absurd H (by simp)
   rw [if_pos c21] at H
   have c21b0 := eq_true c21
   have c21b1 : decide (((l0.length : Int) : Int).toNat ≤ 11728124029610) = true := decide_eq_true c21
   clear c21
   obtain ⟨y901, hy901⟩ : ∃ y_ : List (List Int), y_ = (List.replicate ((l0.length : Int) : Int).toNat []) := ⟨_, rfl⟩
   replace H : (congouref01_Splits.l0 kj6 l1 l2 (l0.length : Int) t899 0 y901 l0 (l0.length : Int) 0) = some r := by first | (rw [hy901]; with_reducible exact H) | (have H2_ := (Option.bind_some _ _).symm.trans H; rw [hy901]; with_reducible exact H2_) | (have H2_ := (Option.bind_some _ _).symm.trans H; with_reducible exact H2_) | with_reducible exact H | (rw [hy901]; exact H) | exact H
   have Ny901 := Aside0.mk hy901
   clear hy901
   have H' := Aside0.mk H
   clear H
   go_wp2_with (first | ((with_reducible refine gate_dst (N := 51) rfl ?_); (try (refine gate_guard (by rfl) ?_; dsimp only)); refine Kd.S_make (Kd.slice 3 (Kd.int .i64)) _ 22 rfl (N := 51) rfl 48 _ _ rfl (l0.length : Int) rfl rfl Try.underlying48 (.slice none 0 0) 24 info22 rfl (by decide) (by omega) [] (ok := fun _ => True) (okp := fun _ => True) ⟨_, rfl, Kd.R_nil _ _ _ _ _⟩ (fun _ hk => hk) trivial (dA) (Nat.le_trans (Nat.mul_le_mul_right _ (dA : (l0.length : Int).toNat ≤ 11728124029610)) (by omega)) (Below.refl _ _) (Nat.le_refl _) ?_; intro v902 w22 ho23 hb hg_ hnew_; clear hg_ hnew_; (first | rw [← Ny901.out] at ho23 | (simp only [Int.reduceToNat] at ho23; rw [← Ny901.out] at ho23)); have HO903 := ak (Kd.S_lower ho23 (below_size (hbC _))); replace HB := kH _ hb; clear hb ho23))
   go_loopg [54] kj6 (fun kq v54 w' => ∃ (x10_2 : List (List Int)) (x54_2 : Int), v54 = .int .i64 x54_2 ∧ Aside0 (congouref01_Splits.l0 kq l1 l2 (l0.length : Int) t899 0 x10_2 l0 (l0.length : Int) x54_2 = some r) ∧ Aside0 (kq ≤ kj6) ∧ Aside0 (Kd.S (Kd.slice 3 (Kd.int .i64)) 22 w' w.heap.size (fun _ => True) v902 x10_2) ∧ Aside0 (Below w.heap.size w w'))
   case atStart => exact ⟨(y901), (0), (by first | rfl | (simp; done) | (simp [*]; done)), H', ⟨Nat.le_refl _⟩, ⟨by (with_reducible repeat (first | apply Kd.S_alloc | apply Kd.S_drewN | apply Kd.S_drew)); exact HO903.out⟩, ⟨hbC _⟩⟩
   case round =>
    clear H'
    try clear c1
    try clear c2
    try clear p2
    try clear c5
    try clear c8
    try clear c12
    try clear c12b0
    try clear c12b1
    try clear c14
    try clear c14b0
    try clear c14b1
    try clear c16
    try clear c16b0
    try clear c16b1
    try clear c16b2
    try clear c19
    try clear c20
    try clear c20b0
    try clear c20b1
    try clear c21
    try clear c21b0
    try clear c21b1
    try clear p2
    obtain ⟨x10_2, x54_2, rfl, HA, HK2, HO_10, HB⟩ := hrel
    cases gk with
    | zero => exact absurd HA.out (by simp [congouref01_Splits.l0])
    | succ k2 =>
     have H := HA.out
     clear HA
     simp only [congouref01_Splits.l0] at H
     by_cases c24 : x54_2 < (l0.length : Int)
     ·rw [if_pos c24] at H
      have c24b0 : decide (x54_2 < (l0.length : Int)) = true := decide_eq_true c24
      clear c24
      by_cases c25 : 0 ≤ x54_2
      rotate_left
      ·rw [if_neg c25] at H
       exact absurd H (by simp)
      rw [if_pos c25] at H
      have c25b0 : decide (0 ≤ x54_2) = true := decide_eq_true c25
      clear c25
      by_cases c26 : x54_2 < (l0.length : Int)
      rotate_left
      ·rw [if_neg c26] at H
       exact absurd H (by simp)
      rw [if_pos c26] at H
      have c26b0 : decide (x54_2 < (l0.length : Int)) = true := decide_eq_true c26
      clear c26
      have H' := Aside0.mk H
      clear H
      have p904 : 0 ≤ (x54_2 : Int) := dA
      have q904 : x54_2 < (l0.length : Int) := dA
      obtain ⟨ad904, A904_0, c904_0, e904, hx904_0, hl904_0, hi904_0⟩ := at_L5 HR0.out x54_2 p904 q904
      cases e904
      try replace hx904_0 := (HB.out.cell (World.block_lt_of_cell? w _ hx904_0)).trans hx904_0
      have HR904_0 := Aside0.mk hi904_0
      have HC904_0 := Aside0.mk hl904_0
      clear hi904_0 hl904_0
      replace p904 := eq_true p904
      replace q904 := eq_true q904
      go_wp2
      go_loopg [61] k2 (fun kq v61 w' => ∃ (x10_3 : List (List Int)) (x61_3 : Int), v61 = .int .i64 x61_3 ∧ Aside0 (congouref01_Splits.l1 kq l1 l2 (l0.length : Int) t899 0 x10_3 x54_2 l0 (l0.length : Int) x54_2 (rd_L5 l0 x54_2) ((rd_L5 l0 x54_2).length : Int) x61_3 = some r) ∧ Aside0 (kq ≤ k2) ∧ Aside0 (Kd.S (Kd.slice 3 (Kd.int .i64)) 22 w' w.heap.size (fun _ => True) v902 x10_3) ∧ Aside0 (Below w.heap.size w w'))
      case atStart => exact ⟨(x10_2), (0), (by first | rfl | (simp; done) | (simp [*]; done)), H', ⟨Nat.le_refl _⟩, ⟨by (with_reducible repeat (first | apply Kd.S_alloc | apply Kd.S_drewN | apply Kd.S_drew)); exact HO_10.out⟩, ⟨hbC _⟩⟩
      case round =>
       clear H'
       try clear c1
       try clear c2
       try clear p2
       try clear c5
       try clear c8
       try clear c9
       try clear p9
       try clear q9
       try clear hx9
       try clear c12
       try clear c12b0
       try clear c12b1
       try clear c14
       try clear c14b0
       try clear c14b1
       try clear c16
       try clear c16b0
       try clear c16b1
       try clear c16b2
       try clear c19
       try clear c20
       try clear c20b0
       try clear c20b1
       try clear c21
       try clear c21b0
       try clear c21b1
       try clear c24
       try clear c24b0
       try clear c25
       try clear c25b0
       try clear c26
       try clear c26b0
       try clear hx904_0
       try clear p2
       try clear p904
       try clear q904
       obtain ⟨x10_3, x61_3, rfl, HA, HK3, HO_10, HB⟩ := hrel
       cases gk with
       | zero => exact absurd HA.out (by simp [congouref01_Splits.l1])
       | succ k3 =>
        have H := HA.out
        clear HA
        simp only [congouref01_Splits.l1] at H
        by_cases c27 : x61_3 < ((rd_L5 l0 x54_2).length : Int)
        rotate_left
        ·rw [if_neg c27] at H
         have c27b0 : decide (x61_3 < ((rd_L5 l0 x54_2).length : Int)) = false := decide_eq_false c27
         clear c27
         have H' := Aside0.mk H
         clear H
         go_wp2
         go_roundg k3
         case measure => have := HJ6.out; have := HK2.out; have := HK3.out; omega
         case rel => exact ⟨(x10_3), (wrap64 (x54_2 + 1)), (by first | rfl | (simp; done) | (simp [*]; done)), H', ⟨by have := HJ6.out; have := HK2.out; have := HK3.out; omega⟩, ⟨by (with_reducible repeat (first | apply Kd.S_alloc | apply Kd.S_drewN | apply Kd.S_drew)); exact HO_10.out⟩, ⟨hbC _⟩⟩
        rw [if_pos c27] at H
        have c27b0 : decide (x61_3 < ((rd_L5 l0 x54_2).length : Int)) = true := decide_eq_true c27
        clear c27
        by_cases c28 : 0 ≤ x61_3
        rotate_left
        ·rw [if_neg c28] at H
         exact absurd H (by simp)
        rw [if_pos c28] at H
        have c28b0 : decide (0 ≤ x61_3) = true := decide_eq_true c28
        clear c28
        by_cases c29 : x61_3 < ((rd_L5 l0 x54_2).length : Int)
        rotate_left
        ·rw [if_neg c29] at H
         exact absurd H (by simp)
        rw [if_pos c29] at H
        have c29b0 : decide (x61_3 < ((rd_L5 l0 x54_2).length : Int)) = true := decide_eq_true c29
        clear c29
        by_cases c30 : 0 ≤ x54_2
        rotate_left
        ·rw [if_neg c30] at H
         exact absurd H (by simp)
        rw [if_pos c30] at H
        have c30b0 : decide (0 ≤ x54_2) = true := decide_eq_true c30
        clear c30
        by_cases c31 : x54_2 < (x10_3.length : Int)
        rotate_left
        ·rw [if_neg c31] at H
         exact absurd H (by simp)
        rw [if_pos c31] at H
        have c31b0 : decide (x54_2 < (x10_3.length : Int)) = true := decide_eq_true c31
        clear c31
        by_cases c32 : ((rd_T62 (rd_L5 l0 x54_2) x61_3).f1) = 0
        ·rw [if_pos c32] at H
         exact absurd H (by simp)
        rw [if_neg c32] at H
        have c32b0 : (((rd_T62 (rd_L5 l0 x54_2) x61_3).f1) == 0) = false := beq_eq_false_iff_ne.mpr c32
        have c32b1 : (((rd_T62 (rd_L5 l0 x54_2) x61_3).f1) != 0) = true := bne_iff_ne.mpr c32
        by_cases c33 : (rd_L1 x10_3 x54_2).length < 17592186044416
        rotate_left
        ·rw [if_neg c33] at H
         exact absurd H (by simp)
        rw [if_pos c33] at H
        have LMc33 := Aside0.mk c33
        clear c33
        obtain ⟨y908, hy908⟩ : ∃ y_ : List Int, y_ = ((rd_L1 x10_3 x54_2) ++ [wrap64 ((wrap64 (Int.tdiv t899 ((rd_T62 (rd_L5 l0 x54_2) x61_3).f1))) * ((rd_T62 (rd_L5 l0 x54_2) x61_3).f0))]) := ⟨_, rfl⟩
        replace H : (congouref01_Splits.l1 k3 l1 l2 (l0.length : Int) t899 0 (x10_3.set (x54_2 : Int).toNat y908) x54_2 l0 (l0.length : Int) x54_2 (rd_L5 l0 x54_2) ((rd_L5 l0 x54_2).length : Int) (wrap64 (x61_3 + 1))) = some r := by first | (rw [hy908]; with_reducible exact H) | (have H2_ := (Option.bind_some _ _).symm.trans H; rw [hy908]; with_reducible exact H2_) | (have H2_ := (Option.bind_some _ _).symm.trans H; with_reducible exact H2_) | with_reducible exact H | (rw [hy908]; exact H) | exact H
        have Ny908 := Aside0.mk hy908
        clear hy908
        obtain ⟨y911, hy911⟩ : ∃ y_ : List (List Int), y_ = (x10_3.set (x54_2 : Int).toNat y908) := ⟨_, rfl⟩
        replace H : (congouref01_Splits.l1 k3 l1 l2 (l0.length : Int) t899 0 y911 x54_2 l0 (l0.length : Int) x54_2 (rd_L5 l0 x54_2) ((rd_L5 l0 x54_2).length : Int) (wrap64 (x61_3 + 1))) = some r := by first | (rw [hy911]; with_reducible exact H) | (have H2_ := (Option.bind_some _ _).symm.trans H; rw [hy911]; with_reducible exact H2_) | (have H2_ := (Option.bind_some _ _).symm.trans H; with_reducible exact H2_) | with_reducible exact H | (rw [hy911]; exact H) | exact H
        have Ny911 := Aside0.mk hy911
        clear hy911
        have H' := Aside0.mk H
        clear H
        have p905 : 0 ≤ (x61_3 : Int) := dA
        have q905 : x61_3 < ((rd_L5 l0 x54_2).length : Int) := dA
        obtain ⟨ad905, e905, hx905_0, hx905_1⟩ := at_T62 HR904_0.out x61_3 p905 q905
        cases e905
        try replace hx905_0 := (HB.out.cell (World.block_lt_of_cell? w _ hx905_0)).trans hx905_0
        try replace hx905_1 := (HB.out.cell (World.block_lt_of_cell? w _ hx905_1)).trans hx905_1
        replace p905 := eq_true p905
        replace q905 := eq_true q905
        try go_wp2_with (first | ((with_reducible refine gate_dst (N := 14) rfl ?_); (try (refine gate_guard (by rfl) ?_; dsimp only)); refine bE 14 #[.int .i64 0, .int .i64 0] 62 ?_; intro gb906 hg w35 hbox hb; replace HO_10 := ak (Kd.S_below (by (with_reducible repeat (first | apply Kd.S_alloc | apply Kd.S_drewN | apply Kd.S_drew)); exact HO_10.out) hb); have BK906 := ak (hbox); have GW906 := kG w hg; have GE906 := kG w hg; replace HB := kH _ hb; clear hb hbox hg; have hcz36_0 : w35.cell? ⟨gb906, 0, none⟩ = some (.int .i64 0) := bc BK906 0; have hcz36_1 : w35.cell? ⟨gb906, 1, none⟩ = some (.int .i64 0) := bc BK906 1; have hfz36_0 := fz BK906 0; have hfz36_1 := fz BK906 1))
        have n0_ : Aside0 (Kd.S (Kd.slice 3 (Kd.int .i64)) 22 ((w35.setCell ⟨gb906, 0, none⟩ (.int .i64 ((rd_T62 (rd_L5 l0 x54_2) x61_3).f0))).setCell ⟨gb906, 1, none⟩ (.int .i64 ((rd_T62 (rd_L5 l0 x54_2) x61_3).f1))) w.heap.size (fun _ => True) v902 x10_3) := ⟨by (with_reducible repeat (first | apply Kd.S_alloc | apply Kd.S_drewN | apply Kd.S_drew)); exact Kd.S_mono (Kd.S_far (p := ⟨gb906, 1, none⟩) (Kd.S_far (p := ⟨gb906, 0, none⟩) (Kd.S_types HO_10.out BK906.out (by decide)) (fun _ hk => hk.2) (.int .i64 ((rd_T62 (rd_L5 l0 x54_2) x61_3).f0))) (fun _ hk => hk.2) (.int .i64 ((rd_T62 (rd_L5 l0 x54_2) x61_3).f1))) (fun _ hk => trivial)⟩
        have n1_ : Aside0 (((w35.setCell ⟨gb906, 0, none⟩ (.int .i64 ((rd_T62 (rd_L5 l0 x54_2) x61_3).f0))).setCell ⟨gb906, 1, none⟩ (.int .i64 ((rd_T62 (rd_L5 l0 x54_2) x61_3).f1))).heap[gb906]? = some (.cells #[.int .i64 ((rd_T62 (rd_L5 l0 x54_2) x61_3).f0), .int .i64 ((rd_T62 (rd_L5 l0 x54_2) x61_3).f1)] 62 (0, 0))) := ⟨by (with_reducible repeat (first | refine blk_drewN ?_ _ | refine blk_drew ?_ | refine blk_alloc ?_ _)); refine blk_put (cs := #[.int .i64 ((rd_T62 (rd_L5 l0 x54_2) x61_3).f0), .int .i64 0]) ?_ 1 _ rfl; (with_reducible repeat (first | refine blk_drewN ?_ _ | refine blk_drew ?_ | refine blk_alloc ?_ _)); refine blk_put (cs := #[.int .i64 0, .int .i64 0]) ?_ 0 _ rfl; (with_reducible repeat (first | refine blk_drewN ?_ _ | refine blk_drew ?_ | refine blk_alloc ?_ _)); exact BK906.out⟩
        have n2_ : Aside0 (Below w.heap.size w ((w35.setCell ⟨gb906, 0, none⟩ (.int .i64 ((rd_T62 (rd_L5 l0 x54_2) x61_3).f0))).setCell ⟨gb906, 1, none⟩ (.int .i64 ((rd_T62 (rd_L5 l0 x54_2) x61_3).f1)))) := ⟨hbC _⟩
        (try clear HO_10)
        (try clear BK906)
        (try clear HB)
        generalize ((w35.setCell ⟨gb906, 0, none⟩ (.int .i64 ((rd_T62 (rd_L5 l0 x54_2) x61_3).f0))).setCell ⟨gb906, 1, none⟩ (.int .i64 ((rd_T62 (rd_L5 l0 x54_2) x61_3).f1))) = w37 at n0_ n1_ n2_ ⊢
        have HO_10 := n0_
        have BK906 := n1_
        have HB := n2_
        clear n0_ n1_ n2_
        replace HO_10 := ak (Kd.S_drew HO_10.out)
        replace BK906 := kd BK906
        replace HB := ak (below_drew1 HB.out)
        obtain ⟨Ao39, co39, eo39⟩ := Kd.S_slice HO_10.out
        (first | subst eo39 | (injection eo39 with f1_ f2_ f3_; have f4_ := f1_.symm; have f5_ := f3_.symm; clear f1_ f2_ f3_; subst f4_; subst f5_))
        have p907 : 0 ≤ (x54_2 : Int) := dA
        have q907 : x54_2 < (x10_3.length : Int) := dA
        obtain ⟨ad907, A907_0, c907_0, e907, hx907_0, hl907_0, hi907_0⟩ := at_L1 (Kd.S_reads' HO_10.out).2.2 x54_2 p907 q907
        cases e907
        obtain ⟨ce907, hce907, hMe907, hcc907⟩ := Kd.S_get HO_10.out [] x54_2 p907 (by first | exact q907 | exact dA | (have e_ := (Kd.S_reads' HO_10.out).1; omega))
        obtain ⟨ve907_0, rfl, ge907_0⟩ := hMe907
        have hv907_0 := hcc907 0 _ rfl
        rw [Nat.add_zero, show ((Kd.slice 3 (Kd.int .i64))).sz = 1 from rfl, Nat.mul_one] at hv907_0
        replace hv907_0 := Option.some.inj (hv907_0.symm.trans hx907_0)
        rw [hv907_0] at ge907_0
        have HL907_0 := ak (show Kd.R (Kd.int .i64) 3 _ _ _ _ (rd_L1 x10_3 x54_2) from ge907_0)
        clear hv907_0 ge907_0
        have HX907_0 := Aside0.mk hx907_0
        clear hcc907 hce907
        have HR907_0 := Aside0.mk hi907_0
        have HC907_0 := Aside0.mk hl907_0
        clear hi907_0 hl907_0
        replace p907 := eq_true p907
        replace q907 := eq_true q907
        obtain ⟨go40, co40, eo40, gb40, gl40, cl40, HG40⟩ := Kd.S_form HO_10.out (by have h_ : (x54_2 : Int) < ((x10_3.length : Int) : Int) := dA; have h2_ : 0 ≤ (x54_2 : Int) := (dA); omega)
        (first | cases eo40 | (injection eo40 with ea_ en_ ec_; (first | subst ea_ | (injection ea_ with ea_; subst ea_)); subst ec_; clear en_))
        have GB40 := Aside0.mk gb40
        have GG40 := Aside0.mk HG40
        clear gb40 gl40 HG40
        (first | simp only [add_plain] at hx907_0 | skip)
        obtain ⟨oki40, ce40, hcl40, hM40, hcc40, _, _, hH40⟩ := Kd.S_elem HO_10.out [] (x54_2 : Int) (dA) (by have h_ : (x54_2 : Int) < ((x10_3.length : Int) : Int) := dA; first | exact h_ | (have e_ := (Kd.S_reads' HO_10.out).1; omega) | simpa using h_)
        obtain ⟨ve40_0, rfl, ge40_0⟩ := hM40
        have hv40 := hcc40 0 _ rfl
        have hX40 := HX907_0.out
        (try simp only [add_plain] at hX40)
        (try simp only [Nat.add_zero] at hv40)
        (try rw [show ((Kd.slice 3 (Kd.int .i64))).sz = 1 from rfl, Nat.mul_one] at hv40)
        replace hv40 := Option.some.inj (hv40.symm.trans hX40)
        subst hv40
        clear hX40 hcc40 hcl40
        have UU40 := ak (show Kd.R (Kd.int .i64) 3 _ w.heap.size oki40 (.slice A907_0 (rd_L1 x10_3 x54_2).length c907_0) (rd_L1 x10_3 x54_2) from ge40_0)
        have HH40 := Aside0.mk hH40
        have HN40 := ak (Kd.S_reads' HO_10.out).1
        clear hH40 ge40_0
        refine sS (n := 17) (S := fun w' => w'.cell? ⟨gb906, 0, none⟩ = some (.int .i64 ((rd_T62 (rd_L5 l0 x54_2) x61_3).f0)) ∧ w'.cell? ⟨gb906, 1, none⟩ = some (.int .i64 ((rd_T62 (rd_L5 l0 x54_2) x61_3).f1)) ∧ w'.cell? ⟨go40, (x54_2).toNat, none⟩ = some (.slice A907_0 (rd_L1 x10_3 x54_2).length c907_0)) (ds := [16]) ⟨bc BK906 0, bc BK906 1, hx907_0⟩ (fun hHeld => ?_); refine with_tabW congouref01_Splits.tab13 congouref01_Splits.bits13 (fun HT_ HW_ => ?_)
        generalize w37.drew = w38 at HO_10 BK906 HB GG40 HH40 HL907_0 HR907_0 HX907_0 UU40 hx907_0 hHeld ⊢
        refine pS 0 65 17 1 ?_
        refine pS 1 66 17 3 ?_
        refine pS 2 67 17 7 ?_
        refine pS 3 68 17 15 ?_
        refine pS 4 69 17 31 ?_
        refine pS 6 71 17 95 ?_
        refine pS 7 72 17 223 ?_
        refine pS 10 75 17 1247 ?_
        refine tS 5 70 17 1279 ?_
        refine tS 8 73 17 1535 ?_
        refine pS 9 74 17 2047 ?_
        refine tS 11 76 17 4095 ?_
        refine pS 12 77 17 8191 ?_
        refine one_ (i := 13) (N := some 78) (ba 17 16383) rfl rfl (one_of HT_.out (by kernel_rfl)) (by decide) (fun K hK => ?_)
        refine value_ (w1 := ?_) (v := ?_) (by rfl) rfl ?_ ?_
        rotate_left 2
        ·go_simp
         constructor
         ·rfl
         ·rfl
        refine hK.out _ _ ⟨(blk_cell (blk_alloc BK906.out _) 0).trans rfl, (blk_cell (blk_alloc BK906.out _) 1).trans rfl, (World.cell?_alloc_lt _ _ _ (World.block_lt_of_cell? _ _ (hHeld.2.2))).trans (hHeld.2.2)⟩ (fun hHeld => ?_)
        clear hK K
        refine norm_ (a' := ?_) ?_ ?_
        rotate_left
        ·show Act.put _ (some 78) _ = _
         simp only [Act.put, List.setIfInBounds_toArray, List.set_cons_zero, List.set_cons_succ, i64_w, i32_w]
         rfl
        refine one_ (i := 14) (N := some 79) (ba 17 32767) rfl rfl (one_of HT_.out (by kernel_rfl)) (by decide) (fun K hK => ?_)
        refine Kd.R_append_step (Kd.int .i64) (w0 := w) w.heap.size (by rfl) (.tmp 70) (.tmp 78) 22 3 (.int .i64 0) 8 rfl Try.underlying22 info3 rfl (by decide) (by omega) (.slice A907_0 (rd_L1 x10_3 x54_2).length c907_0) (rd_L1 x10_3 x54_2) (wrap64 ((wrap64 (Int.tdiv t899 ((rd_T62 (rd_L5 l0 x54_2) x61_3).f1))) * ((rd_T62 (rd_L5 l0 x54_2) x61_3).f0))) [.int .i64 (wrap64 ((wrap64 (Int.tdiv t899 ((rd_T62 (rd_L5 l0 x54_2) x61_3).f1))) * ((rd_T62 (rd_L5 l0 x54_2) x61_3).f0)))] (fun k_ => oki40 k_ ∨ ((fun _ => True)) k_ ∧ w38.heap.size ≤ k_) (fun _ => False) rfl rfl ?aP (fun _ hk => hk.elim) ?aF ?aO ?aB ?aS ?aL ?_
        (case aP => exact rfl)
        (case aB => exact (hbC _))
        (case aF => exact (fun k_ hk => .inr ⟨trivial, hk⟩))
        (case aO => exact (rD (Kd.R_mono UU40.out (fun _ hk => .inl hk))))
        (case aS => exact (below_size (hbC _)))
        (case aL => have := LMc33.out; omega)
        intro v909 w41 ho hb hg hat
        (first | have HS2_ := cell_grown hg (hHeld.2.2) (by first | (rw [add_block]; exact (fun e_ => ((HL907_0.out.1 _ e_.symm).2) rfl)) | (show some (Addr.add _ _).block ≠ _; rw [add_block]; exact (fun e_ => ((HL907_0.out.1 _ e_.symm).2) rfl)) | exact (fun e_ => ((HL907_0.out.1 _ e_.symm).2) rfl)) | have HS2_ := cell_grown hg (cell_unalloc (hHeld.2.2) (by first | (rw [add_block]; exact Kd.S_lt HO_10.out _ rfl) | (show (Addr.add _ _).block < _; rw [add_block]; exact Kd.S_lt HO_10.out _ rfl) | exact Kd.S_lt HO_10.out _ rfl)) (by first | (rw [add_block]; exact (fun e_ => ((HL907_0.out.1 _ e_.symm).2) rfl)) | (show some (Addr.add _ _).block ≠ _; rw [add_block]; exact (fun e_ => ((HL907_0.out.1 _ e_.symm).2) rfl)) | exact (fun e_ => ((HL907_0.out.1 _ e_.symm).2) rfl)))
        rw [← Ny908.out] at ho
        have n0_ := ak (blk_grown (g := gb906) (o := .cells #[.int .i64 ((rd_T62 (rd_L5 l0 x54_2) x61_3).f0), .int .i64 ((rd_T62 (rd_L5 l0 x54_2) x61_3).f1)] 62 (0, 0)) (bkC BK906) hg (Kd.R_ne HL907_0.out BK906.out (by decide)))
        have n1_ := ak (hb)
        have n2_ := ak (Kd.H_grown (Kd.H_widen (by repeat (first | exact HH40.out | refine Kd.H_alloc ?_ _ | refine Kd.H_drewN ?_ _ | refine Kd.H_drew ?_))) hg (fun k_ e_ => .inl (UU40.out.1 k_ e_)))
        have n3_ := ak (ho)
        clear BK906
        clear HB
        clear HH40
        clear HO_10
        clear UU40
        clear HL907_0
        have BK906 := n0_
        have HB := n1_
        have HH40 := n2_
        have HO910 := n3_
        clear n0_ n1_ n2_ n3_
        clear ho hb hg hat
        have p34 : 0 ≤ (x54_2 : Int) := dA
        have q34 : (x54_2 : Int) < ((x10_3.length : Int) : Int) := dA
        replace p34 := eq_true p34
        replace q34 := eq_true q34
        obtain ⟨Ao44, co44, eo44⟩ := Kd.R_slice HO910.out
        (first | subst eo44 | (injection eo44 with f1_ f2_ f3_; have f4_ := f1_.symm; have f5_ := f3_.symm; clear f1_ f2_ f3_; subst f4_; subst f5_))
        obtain ⟨_, _, hraw42, _, _, hcc42, _⟩ := Kd.H_raw HH40.out (dA) (by have h_ : (x54_2 : Int) < ((x10_3.length : Int) : Int) := dA; first | exact h_ | (have e_ := (HN40.out); omega) | simpa using h_)
        obtain ⟨_, hfr42⟩ := Kd.H_at HH40.out (dA) (by have h_ : (x54_2 : Int) < ((x10_3.length : Int) : Int) := dA; first | exact h_ | (have e_ := (HN40.out); omega) | simpa using h_)
        have hx42_0 := hcc42 0 _ rfl
        have hf42_0 := hfr42 0
        (try simp only [Nat.add_zero] at hx42_0 hf42_0)
        (try rw [show ((Kd.slice 3 (Kd.int .i64))).sz = 1 from rfl, Nat.mul_one] at hx42_0)
        (try rw [show ((Kd.slice 3 (Kd.int .i64))).sz = 1 from rfl, Nat.mul_one] at hf42_0)
        have HP42 := Kd.S_seg0 HH40.out (dA) (by have h_ : (x54_2 : Int) < ((x10_3.length : Int) : Int) := dA; first | exact h_ | (have e_ := (HN40.out); omega) | simpa using h_) (seg := [.slice Ao44 y908.length co44]) (j := 0) (show 1 ≤ 1 from by decide) (x' := y908) (Kd.M_row HO910.out) (fun _ hk => hk)
        (try simp only [show ((Kd.slice 3 (Kd.int .i64))).sz = 1 from rfl, Nat.mul_one, Nat.add_zero] at HP42)
        clear hcc42 hfr42
        have HNB906_go40 := ak (show gb906 ≠ go40 from by have h_ := Kd.R_ne hraw42 BK906.out (by decide); intro e_; exact h_ (by rw [e_]; rfl))
        have HS42 := HP42.1
        rw [← Ny911.out] at HS42
        have HQ42 := Aside0.mk HS42
        obtain ⟨_, hgg42⟩ := Kd.R_typed hraw42 go40 rfl
        have GG42_ := Aside0.mk hgg42
        clear HP42 HS42 hgg42
        refine hK.out _ _ ⟨bc BK906 0, bc BK906 1, HS2_⟩ (fun hHeld => ?_)
        clear hK K
        refine norm_ (a' := ?_) ?_ ?_
        rotate_left
        ·show Act.put _ (some 79) _ = _
         simp only [Act.put, List.setIfInBounds_toArray, List.set_cons_zero, List.set_cons_succ, i64_w, i32_w]
         rfl
        refine pS 15 80 17 65535 ?_
        refine last_ (i := 16) (N := none) (ba 17 131071) rfl rfl (one_of HT_.out (by kernel_rfl)) (by decide) (fun K hK => ?_)
        refine skip_ (w1 := ?_) (by rfl) rfl ?_ ?_
        rotate_left
        ·go_simp
         rfl
        refine hK.out _ _ ?_
        clear hK K
        refine done_ (done_of HT_.out (by kernel_rfl)) ?_
        try go_wp2
        go_roundg k3
        case measure => have := HJ6.out; have := HK2.out; have := HK3.out; omega
        case rel => exact ⟨(y911), (wrap64 (x61_3 + 1)), (by first | rfl | (simp; done) | (simp [*]; done)), H', ⟨by have := HJ6.out; have := HK2.out; have := HK3.out; omega⟩, ⟨by (with_reducible repeat (first | apply Kd.S_alloc | apply Kd.S_drewN | apply Kd.S_drew)); exact HQ42.out⟩, ⟨by repeat (first | (with_reducible first | exact HB.out | apply below_alloc | apply pw_below_drewN | apply below_drew1 | refine below_set ?_ GB40.out | refine below_set ?_ GE906.out) | exact HB.out)⟩⟩
     rw [if_neg c24] at H
     have c24b0 : decide (x54_2 < (l0.length : Int)) = false := decide_eq_false c24
     clear c24
     have H' := Aside0.mk H
     clear H
     go_wp2
     go_loopg [9, 85] k2 (fun kq v9 v85 w' => ∃ (x9_3 : Int) (x10_3 : List (List Int)) (x85_3 : Int), v9 = .int .i64 x9_3 ∧ v85 = .int .i64 x85_3 ∧ Aside0 (congouref01_Splits.l2 kq l2 (l0.length : Int) t899 x9_3 x10_3 l1 (l1.length : Int) x85_3 = some r) ∧ Aside0 (kq ≤ k2) ∧ Aside0 (Kd.S (Kd.slice 3 (Kd.int .i64)) 22 w' w.heap.size (fun _ => True) v902 x10_3) ∧ Aside0 (Below w.heap.size w w'))
     case atStart => exact ⟨(0), (x10_2), (0), (by first | rfl | (simp; done) | (simp [*]; done)), (by first | rfl | (simp; done) | (simp [*]; done)), H', ⟨Nat.le_refl _⟩, ⟨by (with_reducible repeat (first | apply Kd.S_alloc | apply Kd.S_drewN | apply Kd.S_drew)); exact HO_10.out⟩, ⟨hbC _⟩⟩
     case round =>
      clear H'
      try clear c1
      try clear c2
      try clear p2
      try clear c3
      try clear p3
      try clear q3
      try clear c4
      try clear hx4
      try clear hf4
      try clear c5
      try clear p6
      try clear c8
      try clear c9
      try clear p9
      try clear q9
      try clear hx9
      try clear c12
      try clear c12b0
      try clear c12b1
      try clear c14
      try clear c14b0
      try clear c14b1
      try clear c16
      try clear c16b0
      try clear c16b1
      try clear c16b2
      try clear c19
      try clear c20
      try clear c20b0
      try clear c20b1
      try clear c21
      try clear c21b0
      try clear c21b1
      try clear c24
      try clear c24b0
      try clear c25
      try clear c25b0
      try clear c26
      try clear c26b0
      try clear c27
      try clear c27b0
      try clear c28
      try clear c28b0
      try clear c29
      try clear c29b0
      try clear c30
      try clear c30b0
      try clear c31
      try clear c31b0
      try clear c32
      try clear c32b0
      try clear c32b1
      try clear c33
      try clear p34
      try clear q34
      try clear c40
      try clear c42
      try clear hx42
      try clear hf42
      try clear hcz36_0
      try clear hcz36_1
      try clear hfz36_0
      try clear hfz36_1
      try clear hx42_0
      try clear hx904_0
      try clear hx905_0
      try clear hx905_1
      try clear hx907_0
      try clear p2
      try clear p34
      try clear p9
      try clear p904
      try clear p905
      try clear p907
      try clear q34
      try clear q9
      try clear q904
      try clear q905
      try clear q907
      obtain ⟨x9_3, x10_3, x85_3, rfl, rfl, HA, HK3, HO_10, HB⟩ := hrel
      cases gk with
      | zero => exact absurd HA.out (by simp [congouref01_Splits.l2])
      | succ k3 =>
       have H := HA.out
       clear HA
       simp only [congouref01_Splits.l2] at H
       by_cases c45 : x85_3 < (l1.length : Int)
       rotate_left
       ·rw [if_neg c45] at H
        have c45b0 : decide (x85_3 < (l1.length : Int)) = false := decide_eq_false c45
        clear c45
        have H' := Aside0.mk H
        clear H
        obtain ⟨Ao73, co73, eo73⟩ := Kd.S_slice HO_10.out
        subst eo73
        go_wp2
        go_loopg [155] k3 (fun kq v155 w' => ∃ (x155_4 : Int), v155 = .int .i64 x155_4 ∧ Aside0 (congouref01_Splits.l4 kq t899 x9_3 x10_3 (x10_3.length : Int) x155_4 = some r) ∧ Aside0 (kq ≤ k3) ∧ Aside0 (Kd.S (Kd.slice 3 (Kd.int .i64)) 22 w' w.heap.size (fun _ => True) (.slice Ao73 x10_3.length co73) x10_3) ∧ Aside0 (Below w.heap.size w w'))
        case atStart => exact ⟨(0), (by first | rfl | (simp; done) | (simp [*]; done)), H', ⟨Nat.le_refl _⟩, ⟨by (with_reducible repeat (first | apply Kd.S_alloc | apply Kd.S_drewN | apply Kd.S_drew)); exact HO_10.out⟩, ⟨hbC _⟩⟩
        case round =>
         clear H'
         try clear p2
         try clear c4
         try clear c5
         try clear c6
         try clear p6
         try clear q6
         try clear hx6
         try clear hf6
         try clear c7
         try clear q7
         try clear c9
         try clear p9
         try clear q9
         try clear hx9
         try clear c45
         try clear c45b0
         try clear c46
         try clear c47
         try clear c49
         try clear c50
         try clear c50b0
         try clear c52
         try clear c52b0
         try clear c56
         try clear c57
         try clear c57b0
         try clear c58
         try clear c58b0
         try clear c59
         try clear c59b0
         try clear c59b1
         try clear c60
         try clear c60b0
         try clear c63
         try clear c63b0
         try clear c64
         try clear c64b0
         try clear p64
         try clear c65
         try clear c65b0
         try clear c66
         try clear c66b0
         try clear c67
         try clear c67b0
         try clear c68
         try clear c68b0
         try clear p69
         try clear q69
         try clear hx69
         try clear hf69
         try clear c71
         try clear q71
         try clear hx69_0
         try clear hx913_0
         try clear hx913_1
         try clear hx914_0
         try clear hx914_1
         try clear hx915_0
         try clear hx915_1
         try clear hx917_0
         try clear hx917_1
         try clear hx918_0
         try clear hx918_1
         try clear hx919_0
         try clear hx920_0
         try clear hx921_0
         try clear p2
         try clear p6
         try clear p69
         try clear p9
         try clear p913
         try clear p914
         try clear p915
         try clear p917
         try clear p918
         try clear p919
         try clear p920
         try clear p921
         try clear q69
         try clear q9
         try clear q913
         try clear q914
         try clear q915
         try clear q917
         try clear q918
         try clear q919
         try clear q920
         try clear q921
         obtain ⟨x155_4, rfl, HA, HK4, HO_153, HB⟩ := hrel
         cases gk with
         | zero => exact absurd HA.out (by simp [congouref01_Splits.l4])
         | succ k4 =>
          have H := HA.out
          clear HA
          simp only [congouref01_Splits.l4] at H
          by_cases c74 : x155_4 < (x10_3.length : Int)
          rotate_left
          ·rw [if_neg c74] at H
           have c74b0 : decide (x155_4 < (x10_3.length : Int)) = false := decide_eq_false c74
           clear c74
           obtain rfl := Option.some.inj H
           go_wp2
           go_ret
           exact ⟨by first | rfl | (simp [errW_none, errW_some] <;> rfl) | (simp [*, errW_none, errW_some] <;> rfl), hbC _⟩
          rw [if_pos c74] at H
          have c74b0 : decide (x155_4 < (x10_3.length : Int)) = true := decide_eq_true c74
          clear c74
          by_cases c75 : 0 ≤ x155_4
          rotate_left
          ·rw [if_neg c75] at H
           exact absurd H (by simp)
          rw [if_pos c75] at H
          have c75b0 : decide (0 ≤ x155_4) = true := decide_eq_true c75
          clear c75
          by_cases c76 : x155_4 < (x10_3.length : Int)
          rotate_left
          ·rw [if_neg c76] at H
           exact absurd H (by simp)
          rw [if_pos c76] at H
          have c76b0 : decide (x155_4 < (x10_3.length : Int)) = true := decide_eq_true c76
          clear c76
          have H' := Aside0.mk H
          clear H
          have p925 : 0 ≤ (x155_4 : Int) := dA
          have q925 : x155_4 < (x10_3.length : Int) := dA
          obtain ⟨ad925, A925_0, c925_0, e925, hx925_0, hl925_0, hi925_0⟩ := at_L1 (Kd.S_reads' HO_153.out).2.2 x155_4 p925 q925
          cases e925
          obtain ⟨ce925, hce925, hMe925, hcc925⟩ := Kd.S_get HO_153.out [] x155_4 p925 (by first | exact q925 | exact dA | (have e_ := (Kd.S_reads' HO_153.out).1; omega))
          obtain ⟨ve925_0, rfl, ge925_0⟩ := hMe925
          have hv925_0 := hcc925 0 _ rfl
          rw [Nat.add_zero, show ((Kd.slice 3 (Kd.int .i64))).sz = 1 from rfl, Nat.mul_one] at hv925_0
          replace hv925_0 := Option.some.inj (hv925_0.symm.trans hx925_0)
          rw [hv925_0] at ge925_0
          have HL925_0 := ak (show Kd.R (Kd.int .i64) 3 _ _ _ _ (rd_L1 x10_3 x155_4) from ge925_0)
          clear hv925_0 ge925_0
          have HX925_0 := Aside0.mk hx925_0
          clear hcc925 hce925
          have HR925_0 := Aside0.mk hi925_0
          have HC925_0 := Aside0.mk hl925_0
          clear hi925_0 hl925_0
          replace p925 := eq_true p925
          replace q925 := eq_true q925
          go_wp2
          go_loopg [161] k4 (fun kq v161 w' => ∃ (x161_5 : Int), v161 = .int .i64 x161_5 ∧ Aside0 (congouref01_Splits.l5 kq t899 x9_3 x10_3 (x10_3.length : Int) x155_4 (rd_L1 x10_3 x155_4) ((rd_L1 x10_3 x155_4).length : Int) x161_5 = some r) ∧ Aside0 (kq ≤ k4) ∧ Aside0 (Kd.S (Kd.slice 3 (Kd.int .i64)) 22 w' w.heap.size (fun _ => True) (.slice (some ad925) x10_3.length co73) x10_3) ∧ Aside0 (Kd.C (Kd.int .i64) w' A925_0 (rd_L1 x10_3 x155_4).length (rd_L1 x10_3 x155_4)) ∧ Aside0 (Below w.heap.size w w'))
          case atStart => exact ⟨(0), (by first | rfl | (simp; done) | (simp [*]; done)), H', ⟨Nat.le_refl _⟩, ⟨by (with_reducible repeat (first | apply Kd.S_alloc | apply Kd.S_drewN | apply Kd.S_drew)); exact HO_153.out⟩, ⟨by repeat (first | (with_reducible exact HR925_0.out) | (with_reducible refine Kd.C_alloc ?_ _) | (with_reducible refine Kd.C_drewN ?_ _) | (with_reducible refine Kd.C_drew ?_) | exact HR925_0.out)⟩, ⟨hbC _⟩⟩
          case round =>
           clear H'
           try clear p2
           try clear c4
           try clear c5
           try clear c6
           try clear p6
           try clear q6
           try clear hx6
           try clear hf6
           try clear c7
           try clear q7
           try clear c9
           try clear p9
           try clear q9
           try clear hx9
           try clear c45
           try clear c45b0
           try clear c46
           try clear c47
           try clear c49
           try clear c50
           try clear c50b0
           try clear c52
           try clear c52b0
           try clear c56
           try clear c57
           try clear c57b0
           try clear c58
           try clear c58b0
           try clear c59
           try clear c59b0
           try clear c59b1
           try clear c60
           try clear c60b0
           try clear c63
           try clear c63b0
           try clear c64
           try clear c64b0
           try clear p64
           try clear c65
           try clear c65b0
           try clear c66
           try clear c66b0
           try clear c67
           try clear c67b0
           try clear c68
           try clear c68b0
           try clear p69
           try clear q69
           try clear hx69
           try clear hf69
           try clear c71
           try clear q71
           try clear c74
           try clear c74b0
           try clear c75
           try clear c75b0
           try clear c76
           try clear c76b0
           try clear hx69_0
           try clear hx913_0
           try clear hx913_1
           try clear hx914_0
           try clear hx914_1
           try clear hx915_0
           try clear hx915_1
           try clear hx917_0
           try clear hx917_1
           try clear hx918_0
           try clear hx918_1
           try clear hx919_0
           try clear hx920_0
           try clear hx921_0
           try clear hx925_0
           try clear p2
           try clear p6
           try clear p64
           try clear p69
           try clear p9
           try clear p913
           try clear p914
           try clear p915
           try clear p917
           try clear p918
           try clear p919
           try clear p920
           try clear p921
           try clear p925
           try clear q6
           try clear q69
           try clear q7
           try clear q71
           try clear q9
           try clear q913
           try clear q914
           try clear q915
           try clear q917
           try clear q918
           try clear q919
           try clear q920
           try clear q921
           try clear q925
           obtain ⟨x161_5, rfl, HA, HK5, HO_153, HR925_0, HB⟩ := hrel
           cases gk with
           | zero => exact absurd HA.out (by simp [congouref01_Splits.l5])
           | succ k5 =>
            have H := HA.out
            clear HA
            simp only [congouref01_Splits.l5] at H
            by_cases c77 : x161_5 < ((rd_L1 x10_3 x155_4).length : Int)
            rotate_left
            ·rw [if_neg c77] at H
             have c77b0 : decide (x161_5 < ((rd_L1 x10_3 x155_4).length : Int)) = false := decide_eq_false c77
             clear c77
             have H' := Aside0.mk H
             clear H
             go_wp2
             go_roundg k5
             case measure => have := HJ6.out; have := HK2.out; have := HK3.out; have := HK4.out; have := HK5.out; omega
             case rel => exact ⟨(wrap64 (x155_4 + 1)), (by first | rfl | (simp; done) | (simp [*]; done)), H', ⟨by have := HJ6.out; have := HK2.out; have := HK3.out; have := HK4.out; have := HK5.out; omega⟩, ⟨by (with_reducible repeat (first | apply Kd.S_alloc | apply Kd.S_drewN | apply Kd.S_drew)); exact HO_153.out⟩, ⟨hbC _⟩⟩
            rw [if_pos c77] at H
            have c77b0 : decide (x161_5 < ((rd_L1 x10_3 x155_4).length : Int)) = true := decide_eq_true c77
            clear c77
            by_cases c78 : 0 ≤ x161_5
            rotate_left
            ·rw [if_neg c78] at H
             exact absurd H (by simp)
            rw [if_pos c78] at H
            have c78b0 : decide (0 ≤ x161_5) = true := decide_eq_true c78
            clear c78
            by_cases c79 : x161_5 < ((rd_L1 x10_3 x155_4).length : Int)
            rotate_left
            ·rw [if_neg c79] at H
             exact absurd H (by simp)
            rw [if_pos c79] at H
            have c79b0 : decide (x161_5 < ((rd_L1 x10_3 x155_4).length : Int)) = true := decide_eq_true c79
            clear c79
            by_cases c80 : (rd (rd_L1 x10_3 x155_4) x161_5) = 0
            rotate_left
            ·rw [if_neg c80] at H
             have c80b0 : ((rd (rd_L1 x10_3 x155_4) x161_5) == 0) = false := beq_eq_false_iff_ne.mpr c80
             have c80b1 : ((rd (rd_L1 x10_3 x155_4) x161_5) != 0) = true := bne_iff_ne.mpr c80
             obtain rfl := Option.some.inj H
             have p926 : 0 ≤ (x161_5 : Int) := dA
             have q926 : x161_5 < ((rd_L1 x10_3 x155_4).length : Int) := dA
             obtain ⟨ad926, e926, hx926_0⟩ := Kd.at_int HR925_0.out x161_5 p926 q926
             cases e926
             try replace hx926_0 := (HB.out.cell (World.block_lt_of_cell? w _ hx926_0)).trans hx926_0
             replace p926 := eq_true p926
             replace q926 := eq_true q926
             go_wp2
             go_ret
             exact ⟨by first | rfl | (simp [errW_none, errW_some] <;> rfl) | (simp [*, errW_none, errW_some] <;> rfl), hbC _⟩
            rw [if_pos c80] at H
            have c80b0 : ((rd (rd_L1 x10_3 x155_4) x161_5) == 0) = true := beq_iff_eq.mpr c80
            have c80b1 : ((rd (rd_L1 x10_3 x155_4) x161_5) != 0) = false := bne_eq_false_iff_eq.mpr c80
            clear c80
            have H' := Aside0.mk H
            clear H
            have p926 : 0 ≤ (x161_5 : Int) := dA
            have q926 : x161_5 < ((rd_L1 x10_3 x155_4).length : Int) := dA
            obtain ⟨ad926, e926, hx926_0⟩ := Kd.at_int HR925_0.out x161_5 p926 q926
            cases e926
            try replace hx926_0 := (HB.out.cell (World.block_lt_of_cell? w _ hx926_0)).trans hx926_0
            replace p926 := eq_true p926
            replace q926 := eq_true q926
            go_wp2
            go_roundg k5
            case measure => have := HJ6.out; have := HK2.out; have := HK3.out; have := HK4.out; have := HK5.out; omega
            case rel => exact ⟨(wrap64 (x161_5 + 1)), (by first | rfl | (simp; done) | (simp [*]; done)), H', ⟨by have := HJ6.out; have := HK2.out; have := HK3.out; have := HK4.out; have := HK5.out; omega⟩, ⟨by (with_reducible repeat (first | apply Kd.S_alloc | apply Kd.S_drewN | apply Kd.S_drew)); exact HO_153.out⟩, ⟨by repeat (first | (with_reducible exact HR925_0.out) | (with_reducible refine Kd.C_alloc ?_ _) | (with_reducible refine Kd.C_drewN ?_ _) | (with_reducible refine Kd.C_drew ?_) | exact HR925_0.out)⟩, ⟨hbC _⟩⟩
       rw [if_pos c45] at H
       have c45b0 : decide (x85_3 < (l1.length : Int)) = true := decide_eq_true c45
       clear c45
       by_cases c46 : 0 ≤ x85_3
       rotate_left
       ·rw [if_neg c46] at H
        exact absurd H (by simp)
       rw [if_pos c46] at H
       have c46b0 : decide (0 ≤ x85_3) = true := decide_eq_true c46
       clear c46
       by_cases c47 : x85_3 < (l1.length : Int)
       rotate_left
       ·rw [if_neg c47] at H
        exact absurd H (by simp)
       rw [if_pos c47] at H
       have c47b0 : decide (x85_3 < (l1.length : Int)) = true := decide_eq_true c47
       clear c47
       have HC48 := Aside0.mk H
       clear H
       have p912 : 0 ≤ (x85_3 : Int) := dA
       have q912 : x85_3 < (l1.length : Int) := dA
       obtain ⟨ad912, A912_0, c912_0, e912, hx912_0, hl912_0, hi912_0⟩ := at_L1 HR1.out x85_3 p912 q912
       cases e912
       try replace hx912_0 := (HB.out.cell (World.block_lt_of_cell? w _ hx912_0)).trans hx912_0
       have HR912_0 := Aside0.mk hi912_0
       have HC912_0 := Aside0.mk hl912_0
       clear hi912_0 hl912_0
       replace p912 := eq_true p912
       replace q912 := eq_true q912
       go_upto_region 19 with (fail)
       go_cut [114] (fun v114 wc => ∃ (kq : Nat) (x114_47 : Bool), v114 = .bool x114_47 ∧ Aside0 (congouref01_Splits.j4 kq l2 (l0.length : Int) t899 x9_3 x10_3 x85_3 (rd_L1 l1 x85_3) l1 (l1.length : Int) x85_3 x114_47 = some r) ∧ Aside0 (kq ≤ k3) ∧ Aside0 (Kd.S (Kd.slice 3 (Kd.int .i64)) 22 wc w.heap.size (fun _ => True) v902 x10_3) ∧ Aside0 (Below w.heap.size w wc))
       case first =>
        have H := HC48.out
        clear HC48
        by_cases c49 : x85_3 < (l2.length : Int)
        rotate_left
        ·rw [if_neg c49] at H
         exact absurd H (by simp)
        rw [if_pos c49] at H
        have c49b0 : decide (x85_3 < (l2.length : Int)) = true := decide_eq_true c49
        clear c49
        (first | rw [c49b0] | (simp only [i64_w, i32_w]; rw [c49b0]) | skip)
        by_cases c50 : ((rd_T62 l2 x85_3).f0) < 1
        ·rw [if_pos c50] at H
         have c50b0 : decide (((rd_T62 l2 x85_3).f0) < 1) = true := decide_eq_true c50
         clear c50
         have H' := Aside0.mk H
         clear H
         try go_wp2
         replace HO_10 := ak (Kd.S_drew HO_10.out)
         replace HB := ak (below_drew1 HB.out)
         have p913 : 0 ≤ (x85_3 : Int) := dA
         have q913 : x85_3 < (l2.length : Int) := dA
         obtain ⟨ad913, e913, hx913_0, hx913_1⟩ := at_T62 HR2.out x85_3 p913 q913
         have hw913_1 := hx913_1
         have hw913_0 := hx913_0
         cases e913
         try replace hx913_0 := (HB.out.cell (World.block_lt_of_cell? w _ hx913_0)).trans hx913_0
         try replace hx913_1 := (HB.out.cell (World.block_lt_of_cell? w _ hx913_1)).trans hx913_1
         replace p913 := eq_true p913
         replace q913 := eq_true q913
         refine sS (n := 25) (S := fun w' => w'.cell? (ad913.add ((x85_3).toNat * 2)) = some (.int .i64 ((rd_T62 l2 x85_3).f0)) ∧ w'.cell? ⟨(ad913.add ((x85_3).toNat * 2)).block, (ad913.add ((x85_3).toNat * 2)).off + 1, none⟩ = some (.int .i64 ((rd_T62 l2 x85_3).f1))) (ds := []) ⟨((HB.out.cell (World.block_lt_of_cell? w _ hw913_0)).trans hw913_0), ((HB.out.cell (World.block_lt_of_cell? w _ hw913_1)).trans hw913_1)⟩ (fun hHeld => ?_); refine with_tabW congouref01_Splits.tab19 congouref01_Splits.bits19 (fun HT_ HW_ => ?_)
         generalize wr.drew = w51 at HO_10 HB hx913_0 hx913_1 hHeld ⊢
         refine pS 0 90 25 1 ?_
         refine pS 1 91 25 3 ?_
         refine pS 2 92 25 7 ?_
         refine pS 3 93 25 15 ?_
         refine tS 4 94 25 31 ?_
         refine pS 5 95 25 63 ?_
         refine pS 6 96 25 127 ?_
         refine uS 7 97 25 255 ?_
         refine uS 8 98 25 511 ?_
         refine uS 9 99 25 1023 ?_
         refine uS 10 100 25 2047 ?_
         refine uS 11 101 25 4095 ?_
         refine uS 12 102 25 8191 ?_
         refine uS 13 103 25 16383 ?_
         refine uS 14 104 25 32767 ?_
         refine uS 15 105 25 65535 ?_
         refine uS 16 106 25 131071 ?_
         refine uS 17 107 25 262143 ?_
         refine pS 18 108 25 524287 ?_
         refine pS 19 109 25 1048575 ?_
         refine uS 20 110 25 2097151 ?_
         refine uS 21 111 25 4194303 ?_
         refine uS 22 112 25 8388607 ?_
         refine uS 23 113 25 16777215 ?_
         refine pS 24 114 25 33554431 ?_
         refine done_ (done_of HT_.out (by kernel_rfl)) ?_
         try go_wp2
         go_meet
         case rel => exact ⟨_, (true), (by first | rfl | (simp; done) | (simp [*]; done)), H', ⟨by have := HJ6.out; have := HK2.out; have := HK3.out; first | omega | exact Nat.le_refl _⟩, ⟨by (with_reducible repeat (first | apply Kd.S_alloc | apply Kd.S_drewN | apply Kd.S_drew)); exact HO_10.out⟩, ⟨hbC _⟩⟩
        rw [if_neg c50] at H
        have c50b0 : decide (((rd_T62 l2 x85_3).f0) < 1) = false := decide_eq_false c50
        clear c50
        by_cases c52 : ((rd_T62 l2 x85_3).f0) > ((rd_T62 l2 x85_3).f1)
        ·rw [if_pos c52] at H
         have c52b0 : decide (((rd_T62 l2 x85_3).f1) < ((rd_T62 l2 x85_3).f0)) = true := decide_eq_true c52
         clear c52
         have H' := Aside0.mk H
         clear H
         try go_wp2
         replace HO_10 := ak (Kd.S_drew HO_10.out)
         replace HB := ak (below_drew1 HB.out)
         have p913 : 0 ≤ (x85_3 : Int) := dA
         have q913 : x85_3 < (l2.length : Int) := dA
         obtain ⟨ad913, e913, hx913_0, hx913_1⟩ := at_T62 HR2.out x85_3 p913 q913
         have hw913_1 := hx913_1
         have hw913_0 := hx913_0
         cases e913
         try replace hx913_0 := (HB.out.cell (World.block_lt_of_cell? w _ hx913_0)).trans hx913_0
         try replace hx913_1 := (HB.out.cell (World.block_lt_of_cell? w _ hx913_1)).trans hx913_1
         replace p913 := eq_true p913
         replace q913 := eq_true q913
         have p914 : 0 ≤ (x85_3 : Int) := dA
         have q914 : x85_3 < (l2.length : Int) := dA
         obtain ⟨ad914, e914, hx914_0, hx914_1⟩ := at_T62 HR2.out x85_3 p914 q914
         have hw914_1 := hx914_1
         have hw914_0 := hx914_0
         obtain rfl : ad913 = ad914 := (by injection e914)
         try replace hx914_0 := (HB.out.cell (World.block_lt_of_cell? w _ hx914_0)).trans hx914_0
         try replace hx914_1 := (HB.out.cell (World.block_lt_of_cell? w _ hx914_1)).trans hx914_1
         replace p914 := eq_true p914
         replace q914 := eq_true q914
         have p915 : 0 ≤ (x85_3 : Int) := dA
         have q915 : x85_3 < (l2.length : Int) := dA
         obtain ⟨ad915, e915, hx915_0, hx915_1⟩ := at_T62 HR2.out x85_3 p915 q915
         have hw915_1 := hx915_1
         have hw915_0 := hx915_0
         obtain rfl : ad913 = ad915 := (by injection e915)
         try replace hx915_0 := (HB.out.cell (World.block_lt_of_cell? w _ hx915_0)).trans hx915_0
         try replace hx915_1 := (HB.out.cell (World.block_lt_of_cell? w _ hx915_1)).trans hx915_1
         replace p915 := eq_true p915
         replace q915 := eq_true q915
         refine sS (n := 25) (S := fun w' => w'.cell? (ad913.add ((x85_3).toNat * 2)) = some (.int .i64 ((rd_T62 l2 x85_3).f0)) ∧ w'.cell? ⟨(ad913.add ((x85_3).toNat * 2)).block, (ad913.add ((x85_3).toNat * 2)).off + 1, none⟩ = some (.int .i64 ((rd_T62 l2 x85_3).f1)) ∧ w'.cell? (ad913.add ((x85_3).toNat * 2)) = some (.int .i64 ((rd_T62 l2 x85_3).f0)) ∧ w'.cell? ⟨(ad913.add ((x85_3).toNat * 2)).block, (ad913.add ((x85_3).toNat * 2)).off + 1, none⟩ = some (.int .i64 ((rd_T62 l2 x85_3).f1)) ∧ w'.cell? (ad913.add ((x85_3).toNat * 2)) = some (.int .i64 ((rd_T62 l2 x85_3).f0)) ∧ w'.cell? ⟨(ad913.add ((x85_3).toNat * 2)).block, (ad913.add ((x85_3).toNat * 2)).off + 1, none⟩ = some (.int .i64 ((rd_T62 l2 x85_3).f1))) (ds := []) ⟨((HB.out.cell (World.block_lt_of_cell? w _ hw913_0)).trans hw913_0), ((HB.out.cell (World.block_lt_of_cell? w _ hw913_1)).trans hw913_1), ((HB.out.cell (World.block_lt_of_cell? w _ hw914_0)).trans hw914_0), ((HB.out.cell (World.block_lt_of_cell? w _ hw914_1)).trans hw914_1), ((HB.out.cell (World.block_lt_of_cell? w _ hw915_0)).trans hw915_0), ((HB.out.cell (World.block_lt_of_cell? w _ hw915_1)).trans hw915_1)⟩ (fun hHeld => ?_); refine with_tabW congouref01_Splits.tab19 congouref01_Splits.bits19 (fun HT_ HW_ => ?_)
         generalize wr.drew = w53 at HO_10 HB hx913_0 hx913_1 hx914_0 hx914_1 hx915_0 hx915_1 hHeld ⊢
         refine pS 0 90 25 1 ?_
         refine pS 1 91 25 3 ?_
         refine pS 2 92 25 7 ?_
         refine pS 3 93 25 15 ?_
         refine tS 4 94 25 31 ?_
         refine pS 5 95 25 63 ?_
         refine pS 6 96 25 127 ?_
         refine pS 7 97 25 255 ?_
         refine pS 8 98 25 511 ?_
         refine pS 9 99 25 1023 ?_
         refine pS 10 100 25 2047 ?_
         refine pS 12 102 25 6143 ?_
         refine pS 13 103 25 14335 ?_
         refine pS 14 104 25 30719 ?_
         refine pS 15 105 25 63487 ?_
         refine tS 11 101 25 65535 ?_
         refine tS 16 106 25 131071 ?_
         refine pS 17 107 25 262143 ?_
         refine pS 18 108 25 524287 ?_
         refine pS 19 109 25 1048575 ?_
         refine uS 20 110 25 2097151 ?_
         refine uS 21 111 25 4194303 ?_
         refine uS 22 112 25 8388607 ?_
         refine uS 23 113 25 16777215 ?_
         refine pS 24 114 25 33554431 ?_
         refine done_ (done_of HT_.out (by kernel_rfl)) ?_
         try go_wp2
         go_meet
         case rel => exact ⟨_, (true), (by first | rfl | (simp; done) | (simp [*]; done)), H', ⟨by have := HJ6.out; have := HK2.out; have := HK3.out; first | omega | exact Nat.le_refl _⟩, ⟨by (with_reducible repeat (first | apply Kd.S_alloc | apply Kd.S_drewN | apply Kd.S_drew)); exact HO_10.out⟩, ⟨hbC _⟩⟩
        rw [if_neg c52] at H
        have c52b0 : decide (((rd_T62 l2 x85_3).f1) < ((rd_T62 l2 x85_3).f0)) = false := decide_eq_false c52
        clear c52
        replace H := Option.bind_eq_some_iff.mp H
        obtain ⟨t916, A540, H⟩ := H
        replace H : (congouref01_Splits.j4 k3 l2 (l0.length : Int) t899 x9_3 x10_3 x85_3 (rd_L1 l1 x85_3) l1 (l1.length : Int) x85_3 (!t916)) = some r := H
        have A54 := Aside0.mk A540
        clear A540
        have H' := Aside0.mk H
        clear H
        try go_wp2
        replace HO_10 := ak (Kd.S_drew HO_10.out)
        replace HB := ak (below_drew1 HB.out)
        have p913 : 0 ≤ (x85_3 : Int) := dA
        have q913 : x85_3 < (l2.length : Int) := dA
        obtain ⟨ad913, e913, hx913_0, hx913_1⟩ := at_T62 HR2.out x85_3 p913 q913
        have hw913_1 := hx913_1
        have hw913_0 := hx913_0
        cases e913
        try replace hx913_0 := (HB.out.cell (World.block_lt_of_cell? w _ hx913_0)).trans hx913_0
        try replace hx913_1 := (HB.out.cell (World.block_lt_of_cell? w _ hx913_1)).trans hx913_1
        replace p913 := eq_true p913
        replace q913 := eq_true q913
        have p914 : 0 ≤ (x85_3 : Int) := dA
        have q914 : x85_3 < (l2.length : Int) := dA
        obtain ⟨ad914, e914, hx914_0, hx914_1⟩ := at_T62 HR2.out x85_3 p914 q914
        have hw914_1 := hx914_1
        have hw914_0 := hx914_0
        obtain rfl : ad913 = ad914 := (by injection e914)
        try replace hx914_0 := (HB.out.cell (World.block_lt_of_cell? w _ hx914_0)).trans hx914_0
        try replace hx914_1 := (HB.out.cell (World.block_lt_of_cell? w _ hx914_1)).trans hx914_1
        replace p914 := eq_true p914
        replace q914 := eq_true q914
        have p915 : 0 ≤ (x85_3 : Int) := dA
        have q915 : x85_3 < (l2.length : Int) := dA
        obtain ⟨ad915, e915, hx915_0, hx915_1⟩ := at_T62 HR2.out x85_3 p915 q915
        have hw915_1 := hx915_1
        have hw915_0 := hx915_0
        obtain rfl : ad913 = ad915 := (by injection e915)
        try replace hx915_0 := (HB.out.cell (World.block_lt_of_cell? w _ hx915_0)).trans hx915_0
        try replace hx915_1 := (HB.out.cell (World.block_lt_of_cell? w _ hx915_1)).trans hx915_1
        replace p915 := eq_true p915
        replace q915 := eq_true q915
        refine sS (n := 25) (S := fun w' => w'.cell? (ad913.add ((x85_3).toNat * 2)) = some (.int .i64 ((rd_T62 l2 x85_3).f0)) ∧ w'.cell? ⟨(ad913.add ((x85_3).toNat * 2)).block, (ad913.add ((x85_3).toNat * 2)).off + 1, none⟩ = some (.int .i64 ((rd_T62 l2 x85_3).f1)) ∧ w'.cell? (ad913.add ((x85_3).toNat * 2)) = some (.int .i64 ((rd_T62 l2 x85_3).f0)) ∧ w'.cell? ⟨(ad913.add ((x85_3).toNat * 2)).block, (ad913.add ((x85_3).toNat * 2)).off + 1, none⟩ = some (.int .i64 ((rd_T62 l2 x85_3).f1)) ∧ w'.cell? (ad913.add ((x85_3).toNat * 2)) = some (.int .i64 ((rd_T62 l2 x85_3).f0)) ∧ w'.cell? ⟨(ad913.add ((x85_3).toNat * 2)).block, (ad913.add ((x85_3).toNat * 2)).off + 1, none⟩ = some (.int .i64 ((rd_T62 l2 x85_3).f1))) (ds := []) ⟨((HB.out.cell (World.block_lt_of_cell? w _ hw913_0)).trans hw913_0), ((HB.out.cell (World.block_lt_of_cell? w _ hw913_1)).trans hw913_1), ((HB.out.cell (World.block_lt_of_cell? w _ hw914_0)).trans hw914_0), ((HB.out.cell (World.block_lt_of_cell? w _ hw914_1)).trans hw914_1), ((HB.out.cell (World.block_lt_of_cell? w _ hw915_0)).trans hw915_0), ((HB.out.cell (World.block_lt_of_cell? w _ hw915_1)).trans hw915_1)⟩ (fun hHeld => ?_); refine with_tabW congouref01_Splits.tab19 congouref01_Splits.bits19 (fun HT_ HW_ => ?_)
        generalize wr.drew = w55 at HO_10 HB hx913_0 hx913_1 hx914_0 hx914_1 hx915_0 hx915_1 hHeld ⊢
        refine pS 0 90 25 1 ?_
        refine pS 1 91 25 3 ?_
        refine pS 2 92 25 7 ?_
        refine pS 3 93 25 15 ?_
        refine tS 4 94 25 31 ?_
        refine pS 5 95 25 63 ?_
        refine pS 6 96 25 127 ?_
        refine pS 7 97 25 255 ?_
        refine pS 8 98 25 511 ?_
        refine pS 9 99 25 1023 ?_
        refine pS 10 100 25 2047 ?_
        refine pS 12 102 25 6143 ?_
        refine pS 13 103 25 14335 ?_
        refine pS 14 104 25 30719 ?_
        refine pS 15 105 25 63487 ?_
        refine tS 11 101 25 65535 ?_
        refine tS 16 106 25 131071 ?_
        refine pS 17 107 25 262143 ?_
        refine pS 18 108 25 524287 ?_
        refine pS 19 109 25 1048575 ?_
        refine pS 20 110 25 2097151 ?_
        refine pS 21 111 25 4194303 ?_
        refine one_ (i := 22) (N := some 112) (ba 25 8388607) rfl rfl (one_of HT_.out (by kernel_rfl)) (by decide) (fun K hK => ?_)
        refine gC Try.func90 #[.slice A912_0 (rd_L1 l1 x85_3).length c912_0, .int .i64 (l0.length : Int)] ?_
        with_reducible refine (congouref01_order.calls k3 _ _ (rd_L1 l1 x85_3) (l0.length : Int) t916 _ ?side1 ?side2 A54.out).mono ?_
        (case side1 => exact kC HR912_0)
        (case side2 => exact HC912_0.out)
        rintro e w' ⟨rfl, ⟨nd, rfl⟩⟩
        refine ⟨_, rfl, ?_⟩
        refine hK.out _ _ ⟨((HB.out.cell (World.block_lt_of_cell? w _ hw913_0)).trans hw913_0), ((HB.out.cell (World.block_lt_of_cell? w _ hw913_1)).trans hw913_1), ((HB.out.cell (World.block_lt_of_cell? w _ hw914_0)).trans hw914_0), ((HB.out.cell (World.block_lt_of_cell? w _ hw914_1)).trans hw914_1), ((HB.out.cell (World.block_lt_of_cell? w _ hw915_0)).trans hw915_0), ((HB.out.cell (World.block_lt_of_cell? w _ hw915_1)).trans hw915_1)⟩ (fun hHeld => ?_)
        clear hK K
        refine norm_ (a' := ?_) ?_ ?_
        rotate_left
        ·show Act.put _ (some 112) _ = _
         simp only [Act.put, List.setIfInBounds_toArray, List.set_cons_zero, List.set_cons_succ, i64_w, i32_w]
         rfl
        refine pS 23 113 25 16777215 ?_
        refine pS 24 114 25 33554431 ?_
        refine done_ (done_of HT_.out (by kernel_rfl)) ?_
        try go_wp2
        go_meet
        case rel => exact ⟨_, (!t916), (by first | rfl | (simp; done) | (simp [*]; done)), H', ⟨by have := HJ6.out; have := HK2.out; have := HK3.out; first | omega | exact Nat.le_refl _⟩, ⟨by (with_reducible repeat (first | apply Kd.S_alloc | apply Kd.S_drewN | apply Kd.S_drew)); exact HO_10.out⟩, ⟨hbC _⟩⟩
       case rest =>
        clear HC48
        try clear p2
        try clear c4
        try clear c5
        try clear c9
        try clear p9
        try clear q9
        try clear hx9
        try clear c49
        try clear c50
        try clear c50b0
        try clear c52
        try clear c52b0
        try clear hx913_0
        try clear hx913_1
        try clear hx914_0
        try clear hx914_1
        try clear hx915_0
        try clear hx915_1
        try clear p913
        try clear p914
        try clear p915
        try clear q913
        try clear q914
        try clear q915
        obtain ⟨kq, x114_47, rfl, HA, HJ47, HO_10, HB⟩ := hcut
        cases kq with
        | zero => exact absurd HA.out (by simp [congouref01_Splits.j4])
        | succ kj47 =>
         have H := HA.out
         clear HA
         simp only [congouref01_Splits.j4] at H
         by_cases c56 : x114_47 = true
         ·subst c56
          have H1 : (some false) = some r := by rw [if_pos rfl] at H; exact H
          clear H
          have H := H1
          clear H1
          obtain rfl := Option.some.inj H
          go_wp2
          go_ret
          exact ⟨by first | rfl | (simp [errW_none, errW_some] <;> rfl) | (simp [*, errW_none, errW_some] <;> rfl), hbC _⟩
         replace c56 := Bool.eq_false_iff.mpr c56
         subst c56
         have H1 : (if 0 ≤ x85_3 then (if x85_3 < (l2.length : Int) then (if ((rd_T62 l2 x85_3).f1) = 0 then (none) else (if (wrap64 (x9_3 + (wrap64 ((wrap64 (Int.tdiv t899 ((rd_T62 l2 x85_3).f1))) * ((rd_T62 l2 x85_3).f0))))) > t899 then (some false) else (congouref01_Splits.l3 kj47 l2 (l0.length : Int) t899 (wrap64 (x9_3 + (wrap64 ((wrap64 (Int.tdiv t899 ((rd_T62 l2 x85_3).f1))) * ((rd_T62 l2 x85_3).f0))))) x10_3 (wrap64 ((wrap64 (Int.tdiv t899 ((rd_T62 l2 x85_3).f1))) * ((rd_T62 l2 x85_3).f0))) l1 (l1.length : Int) x85_3 (rd_L1 l1 x85_3) ((rd_L1 l1 x85_3).length : Int) 0))) else (none)) else (none)) = some r := by rw [if_neg (show ¬ (false = true) by decide)] at H; exact H
         clear H
         have H := H1
         clear H1
         by_cases c57 : 0 ≤ x85_3
         rotate_left
         ·rw [if_neg c57] at H
          exact absurd H (by simp)
         rw [if_pos c57] at H
         have c57b0 : decide (0 ≤ x85_3) = true := decide_eq_true c57
         clear c57
         by_cases c58 : x85_3 < (l2.length : Int)
         rotate_left
         ·rw [if_neg c58] at H
          exact absurd H (by simp)
         rw [if_pos c58] at H
         have c58b0 : decide (x85_3 < (l2.length : Int)) = true := decide_eq_true c58
         clear c58
         by_cases c59 : ((rd_T62 l2 x85_3).f1) = 0
         ·rw [if_pos c59] at H
          exact absurd H (by simp)
         rw [if_neg c59] at H
         have c59b0 : (((rd_T62 l2 x85_3).f1) == 0) = false := beq_eq_false_iff_ne.mpr c59
         have c59b1 : (((rd_T62 l2 x85_3).f1) != 0) = true := bne_iff_ne.mpr c59
         by_cases c60 : (wrap64 (x9_3 + (wrap64 ((wrap64 (Int.tdiv t899 ((rd_T62 l2 x85_3).f1))) * ((rd_T62 l2 x85_3).f0))))) > t899
         ·rw [if_pos c60] at H
          have c60b0 : decide (t899 < (wrap64 (x9_3 + (wrap64 ((wrap64 (Int.tdiv t899 ((rd_T62 l2 x85_3).f1))) * ((rd_T62 l2 x85_3).f0)))))) = true := decide_eq_true c60
          clear c60
          obtain rfl := Option.some.inj H
          try go_wp2
          replace HO_10 := ak (Kd.S_drew HO_10.out)
          replace HB := ak (below_drew1 HB.out)
          have p917 : 0 ≤ (x85_3 : Int) := dA
          have q917 : x85_3 < (l2.length : Int) := dA
          obtain ⟨ad917, e917, hx917_0, hx917_1⟩ := at_T62 HR2.out x85_3 p917 q917
          have hw917_1 := hx917_1
          have hw917_0 := hx917_0
          cases e917
          try replace hx917_0 := (HB.out.cell (World.block_lt_of_cell? w _ hx917_0)).trans hx917_0
          try replace hx917_1 := (HB.out.cell (World.block_lt_of_cell? w _ hx917_1)).trans hx917_1
          replace p917 := eq_true p917
          replace q917 := eq_true q917
          have p918 : 0 ≤ (x85_3 : Int) := dA
          have q918 : x85_3 < (l2.length : Int) := dA
          obtain ⟨ad918, e918, hx918_0, hx918_1⟩ := at_T62 HR2.out x85_3 p918 q918
          have hw918_1 := hx918_1
          have hw918_0 := hx918_0
          obtain rfl : ad917 = ad918 := (by injection e918)
          try replace hx918_0 := (HB.out.cell (World.block_lt_of_cell? w _ hx918_0)).trans hx918_0
          try replace hx918_1 := (HB.out.cell (World.block_lt_of_cell? w _ hx918_1)).trans hx918_1
          replace p918 := eq_true p918
          replace q918 := eq_true q918
          refine sS (n := 14) (S := fun w' => w'.cell? (ad917.add ((x85_3).toNat * 2)) = some (.int .i64 ((rd_T62 l2 x85_3).f0)) ∧ w'.cell? ⟨(ad917.add ((x85_3).toNat * 2)).block, (ad917.add ((x85_3).toNat * 2)).off + 1, none⟩ = some (.int .i64 ((rd_T62 l2 x85_3).f1)) ∧ w'.cell? (ad917.add ((x85_3).toNat * 2)) = some (.int .i64 ((rd_T62 l2 x85_3).f0)) ∧ w'.cell? ⟨(ad917.add ((x85_3).toNat * 2)).block, (ad917.add ((x85_3).toNat * 2)).off + 1, none⟩ = some (.int .i64 ((rd_T62 l2 x85_3).f1))) (ds := []) ⟨((HB.out.cell (World.block_lt_of_cell? w _ hw917_0)).trans hw917_0), ((HB.out.cell (World.block_lt_of_cell? w _ hw917_1)).trans hw917_1), ((HB.out.cell (World.block_lt_of_cell? w _ hw918_0)).trans hw918_0), ((HB.out.cell (World.block_lt_of_cell? w _ hw918_1)).trans hw918_1)⟩ (fun hHeld => ?_); refine with_tabW congouref01_Splits.tab21 congouref01_Splits.bits21 (fun HT_ HW_ => ?_)
          generalize wc.drew = w61 at HO_10 HB hx917_0 hx917_1 hx918_0 hx918_1 hHeld ⊢
          refine pS 0 115 14 1 ?_
          refine pS 1 116 14 3 ?_
          refine pS 2 117 14 7 ?_
          refine pS 3 118 14 15 ?_
          refine pS 4 119 14 31 ?_
          refine pS 7 122 14 159 ?_
          refine pS 8 123 14 415 ?_
          refine pS 9 124 14 927 ?_
          refine pS 10 125 14 1951 ?_
          refine tS 5 120 14 1983 ?_
          refine pS 6 121 14 2047 ?_
          refine tS 11 126 14 4095 ?_
          refine pS 12 127 14 8191 ?_
          refine pS 13 17 14 16383 ?_
          refine done_ (done_of HT_.out (by kernel_rfl)) ?_
          try go_wp2
          go_ret
          exact ⟨by first | rfl | (simp [errW_none, errW_some] <;> rfl) | (simp [*, errW_none, errW_some] <;> rfl), hbC _⟩
         rw [if_neg c60] at H
         have c60b0 : decide (t899 < (wrap64 (x9_3 + (wrap64 ((wrap64 (Int.tdiv t899 ((rd_T62 l2 x85_3).f1))) * ((rd_T62 l2 x85_3).f0)))))) = false := decide_eq_false c60
         clear c60
         have H' := Aside0.mk H
         clear H
         try go_wp2
         replace HO_10 := ak (Kd.S_drew HO_10.out)
         replace HB := ak (below_drew1 HB.out)
         have p917 : 0 ≤ (x85_3 : Int) := dA
         have q917 : x85_3 < (l2.length : Int) := dA
         obtain ⟨ad917, e917, hx917_0, hx917_1⟩ := at_T62 HR2.out x85_3 p917 q917
         have hw917_1 := hx917_1
         have hw917_0 := hx917_0
         cases e917
         try replace hx917_0 := (HB.out.cell (World.block_lt_of_cell? w _ hx917_0)).trans hx917_0
         try replace hx917_1 := (HB.out.cell (World.block_lt_of_cell? w _ hx917_1)).trans hx917_1
         replace p917 := eq_true p917
         replace q917 := eq_true q917
         have p918 : 0 ≤ (x85_3 : Int) := dA
         have q918 : x85_3 < (l2.length : Int) := dA
         obtain ⟨ad918, e918, hx918_0, hx918_1⟩ := at_T62 HR2.out x85_3 p918 q918
         have hw918_1 := hx918_1
         have hw918_0 := hx918_0
         obtain rfl : ad917 = ad918 := (by injection e918)
         try replace hx918_0 := (HB.out.cell (World.block_lt_of_cell? w _ hx918_0)).trans hx918_0
         try replace hx918_1 := (HB.out.cell (World.block_lt_of_cell? w _ hx918_1)).trans hx918_1
         replace p918 := eq_true p918
         replace q918 := eq_true q918
         refine sS (n := 14) (S := fun w' => w'.cell? (ad917.add ((x85_3).toNat * 2)) = some (.int .i64 ((rd_T62 l2 x85_3).f0)) ∧ w'.cell? ⟨(ad917.add ((x85_3).toNat * 2)).block, (ad917.add ((x85_3).toNat * 2)).off + 1, none⟩ = some (.int .i64 ((rd_T62 l2 x85_3).f1)) ∧ w'.cell? (ad917.add ((x85_3).toNat * 2)) = some (.int .i64 ((rd_T62 l2 x85_3).f0)) ∧ w'.cell? ⟨(ad917.add ((x85_3).toNat * 2)).block, (ad917.add ((x85_3).toNat * 2)).off + 1, none⟩ = some (.int .i64 ((rd_T62 l2 x85_3).f1))) (ds := []) ⟨((HB.out.cell (World.block_lt_of_cell? w _ hw917_0)).trans hw917_0), ((HB.out.cell (World.block_lt_of_cell? w _ hw917_1)).trans hw917_1), ((HB.out.cell (World.block_lt_of_cell? w _ hw918_0)).trans hw918_0), ((HB.out.cell (World.block_lt_of_cell? w _ hw918_1)).trans hw918_1)⟩ (fun hHeld => ?_); refine with_tabW congouref01_Splits.tab21 congouref01_Splits.bits21 (fun HT_ HW_ => ?_)
         generalize wc.drew = w62 at HO_10 HB hx917_0 hx917_1 hx918_0 hx918_1 hHeld ⊢
         refine pS 0 115 14 1 ?_
         refine pS 1 116 14 3 ?_
         refine pS 2 117 14 7 ?_
         refine pS 3 118 14 15 ?_
         refine pS 4 119 14 31 ?_
         refine pS 7 122 14 159 ?_
         refine pS 8 123 14 415 ?_
         refine pS 9 124 14 927 ?_
         refine pS 10 125 14 1951 ?_
         refine tS 5 120 14 1983 ?_
         refine pS 6 121 14 2047 ?_
         refine tS 11 126 14 4095 ?_
         refine pS 12 127 14 8191 ?_
         refine pS 13 17 14 16383 ?_
         refine done_ (done_of HT_.out (by kernel_rfl)) ?_
         try go_wp2
         go_loopg [136] kj47 (fun kq v136 w' => ∃ (x10_5 : List (List Int)) (x136_5 : Int), v136 = .int .i64 x136_5 ∧ Aside0 (congouref01_Splits.l3 kq l2 (l0.length : Int) t899 (wrap64 (x9_3 + (wrap64 ((wrap64 (Int.tdiv t899 ((rd_T62 l2 x85_3).f1))) * ((rd_T62 l2 x85_3).f0))))) x10_5 (wrap64 ((wrap64 (Int.tdiv t899 ((rd_T62 l2 x85_3).f1))) * ((rd_T62 l2 x85_3).f0))) l1 (l1.length : Int) x85_3 (rd_L1 l1 x85_3) ((rd_L1 l1 x85_3).length : Int) x136_5 = some r) ∧ Aside0 (kq ≤ kj47) ∧ Aside0 (Kd.S (Kd.slice 3 (Kd.int .i64)) 22 w' w.heap.size (fun _ => True) v902 x10_5) ∧ Aside0 (Below w.heap.size w w'))
         case atStart => exact ⟨(x10_3), (0), (by first | rfl | (simp; done) | (simp [*]; done)), H', ⟨Nat.le_refl _⟩, ⟨by (with_reducible repeat (first | apply Kd.S_alloc | apply Kd.S_drewN | apply Kd.S_drew)); exact HO_10.out⟩, ⟨hbC _⟩⟩
         case round =>
          clear H'
          try clear p2
          try clear c4
          try clear c5
          try clear c6
          try clear p6
          try clear c9
          try clear p9
          try clear q9
          try clear hx9
          try clear c49
          try clear c50
          try clear c50b0
          try clear c52
          try clear c52b0
          try clear c56
          try clear c57
          try clear c57b0
          try clear c58
          try clear c58b0
          try clear c59
          try clear c59b0
          try clear c59b1
          try clear c60
          try clear c60b0
          try clear hx913_0
          try clear hx913_1
          try clear hx914_0
          try clear hx914_1
          try clear hx915_0
          try clear hx915_1
          try clear hx917_0
          try clear hx917_1
          try clear hx918_0
          try clear hx918_1
          try clear p2
          try clear p9
          try clear p913
          try clear p914
          try clear p915
          try clear p917
          try clear p918
          try clear q9
          try clear q913
          try clear q914
          try clear q915
          try clear q917
          try clear q918
          obtain ⟨x10_5, x136_5, rfl, HA, HK5, HO_10, HB⟩ := hrel
          cases gk with
          | zero => exact absurd HA.out (by simp [congouref01_Splits.l3])
          | succ k5 =>
           have H := HA.out
           clear HA
           simp only [congouref01_Splits.l3] at H
           by_cases c63 : x136_5 < ((rd_L1 l1 x85_3).length : Int)
           rotate_left
           ·rw [if_neg c63] at H
            have c63b0 : decide (x136_5 < ((rd_L1 l1 x85_3).length : Int)) = false := decide_eq_false c63
            clear c63
            have H' := Aside0.mk H
            clear H
            go_wp2
            go_roundg k5
            case measure => have := HJ6.out; have := HK2.out; have := HK3.out; have := HJ47.out; have := HK5.out; omega
            case rel => exact ⟨((wrap64 (x9_3 + (wrap64 ((wrap64 (Int.tdiv t899 ((rd_T62 l2 x85_3).f1))) * ((rd_T62 l2 x85_3).f0)))))), (x10_5), (wrap64 (x85_3 + 1)), (by first | rfl | (simp; done) | (simp [*]; done)), (by first | rfl | (simp; done) | (simp [*]; done)), H', ⟨by have := HJ6.out; have := HK2.out; have := HK3.out; have := HJ47.out; have := HK5.out; omega⟩, ⟨by (with_reducible repeat (first | apply Kd.S_alloc | apply Kd.S_drewN | apply Kd.S_drew)); exact HO_10.out⟩, ⟨hbC _⟩⟩
           rw [if_pos c63] at H
           have c63b0 : decide (x136_5 < ((rd_L1 l1 x85_3).length : Int)) = true := decide_eq_true c63
           clear c63
           by_cases c64 : 0 ≤ x136_5
           rotate_left
           ·rw [if_neg c64] at H
            exact absurd H (by simp)
           rw [if_pos c64] at H
           have c64b0 : decide (0 ≤ x136_5) = true := decide_eq_true c64
           clear c64
           by_cases c65 : x136_5 < ((rd_L1 l1 x85_3).length : Int)
           rotate_left
           ·rw [if_neg c65] at H
            exact absurd H (by simp)
           rw [if_pos c65] at H
           have c65b0 : decide (x136_5 < ((rd_L1 l1 x85_3).length : Int)) = true := decide_eq_true c65
           clear c65
           by_cases c66 : x136_5 < (x10_5.length : Int)
           rotate_left
           ·rw [if_neg c66] at H
            exact absurd H (by simp)
           rw [if_pos c66] at H
           have c66b0 : decide (x136_5 < (x10_5.length : Int)) = true := decide_eq_true c66
           clear c66
           by_cases c67 : 0 ≤ (rd (rd_L1 l1 x85_3) x136_5)
           rotate_left
           ·rw [if_neg c67] at H
            exact absurd H (by simp)
           rw [if_pos c67] at H
           have c67b0 : decide (0 ≤ (rd (rd_L1 l1 x85_3) x136_5)) = true := decide_eq_true c67
           clear c67
           by_cases c68 : (rd (rd_L1 l1 x85_3) x136_5) < ((rd_L1 x10_5 x136_5).length : Int)
           rotate_left
           ·rw [if_neg c68] at H
            exact absurd H (by simp)
           rw [if_pos c68] at H
           have c68b0 : decide ((rd (rd_L1 l1 x85_3) x136_5) < ((rd_L1 x10_5 x136_5).length : Int)) = true := decide_eq_true c68
           clear c68
           obtain ⟨y922, hy922⟩ : ∃ y_ : List Int, y_ = ((rd_L1 x10_5 x136_5).set ((rd (rd_L1 l1 x85_3) x136_5) : Int).toNat (wrap64 ((rd (rd_L1 x10_5 x136_5) (rd (rd_L1 l1 x85_3) x136_5)) - (wrap64 ((wrap64 (Int.tdiv t899 ((rd_T62 l2 x85_3).f1))) * ((rd_T62 l2 x85_3).f0)))))) := ⟨_, rfl⟩
           replace H : (congouref01_Splits.l3 k5 l2 (l0.length : Int) t899 (wrap64 (x9_3 + (wrap64 ((wrap64 (Int.tdiv t899 ((rd_T62 l2 x85_3).f1))) * ((rd_T62 l2 x85_3).f0))))) (x10_5.set (x136_5 : Int).toNat y922) (wrap64 ((wrap64 (Int.tdiv t899 ((rd_T62 l2 x85_3).f1))) * ((rd_T62 l2 x85_3).f0))) l1 (l1.length : Int) x85_3 (rd_L1 l1 x85_3) ((rd_L1 l1 x85_3).length : Int) (wrap64 (x136_5 + 1))) = some r := by first | (rw [hy922]; with_reducible exact H) | (have H2_ := (Option.bind_some _ _).symm.trans H; rw [hy922]; with_reducible exact H2_) | (have H2_ := (Option.bind_some _ _).symm.trans H; with_reducible exact H2_) | with_reducible exact H | (rw [hy922]; exact H) | exact H
           have Ny922 := Aside0.mk hy922
           clear hy922
           obtain ⟨y924, hy924⟩ : ∃ y_ : List (List Int), y_ = (x10_5.set (x136_5 : Int).toNat y922) := ⟨_, rfl⟩
           replace H : (congouref01_Splits.l3 k5 l2 (l0.length : Int) t899 (wrap64 (x9_3 + (wrap64 ((wrap64 (Int.tdiv t899 ((rd_T62 l2 x85_3).f1))) * ((rd_T62 l2 x85_3).f0))))) y924 (wrap64 ((wrap64 (Int.tdiv t899 ((rd_T62 l2 x85_3).f1))) * ((rd_T62 l2 x85_3).f0))) l1 (l1.length : Int) x85_3 (rd_L1 l1 x85_3) ((rd_L1 l1 x85_3).length : Int) (wrap64 (x136_5 + 1))) = some r := by first | (rw [hy924]; with_reducible exact H) | (have H2_ := (Option.bind_some _ _).symm.trans H; rw [hy924]; with_reducible exact H2_) | (have H2_ := (Option.bind_some _ _).symm.trans H; with_reducible exact H2_) | with_reducible exact H | (rw [hy924]; exact H) | exact H
           have Ny924 := Aside0.mk hy924
           clear hy924
           have H' := Aside0.mk H
           clear H
           have p919 : 0 ≤ (x136_5 : Int) := dA
           have q919 : x136_5 < ((rd_L1 l1 x85_3).length : Int) := dA
           obtain ⟨ad919, e919, hx919_0⟩ := Kd.at_int HR912_0.out x136_5 p919 q919
           cases e919
           try replace hx919_0 := (HB.out.cell (World.block_lt_of_cell? w _ hx919_0)).trans hx919_0
           replace p919 := eq_true p919
           replace q919 := eq_true q919
           obtain ⟨Ao70, co70, eo70⟩ := Kd.S_slice HO_10.out
           subst eo70
           have p920 : 0 ≤ (x136_5 : Int) := dA
           have q920 : x136_5 < (x10_5.length : Int) := dA
           obtain ⟨ad920, A920_0, c920_0, e920, hx920_0, hl920_0, hi920_0⟩ := at_L1 (Kd.S_reads' HO_10.out).2.2 x136_5 p920 q920
           cases e920
           obtain ⟨ce920, hce920, hMe920, hcc920⟩ := Kd.S_get HO_10.out [] x136_5 p920 (by first | exact q920 | exact dA | (have e_ := (Kd.S_reads' HO_10.out).1; omega))
           obtain ⟨ve920_0, rfl, ge920_0⟩ := hMe920
           have hv920_0 := hcc920 0 _ rfl
           rw [Nat.add_zero, show ((Kd.slice 3 (Kd.int .i64))).sz = 1 from rfl, Nat.mul_one] at hv920_0
           replace hv920_0 := Option.some.inj (hv920_0.symm.trans hx920_0)
           rw [hv920_0] at ge920_0
           have HL920_0 := ak (show Kd.R (Kd.int .i64) 3 _ _ _ _ (rd_L1 x10_5 x136_5) from ge920_0)
           clear hv920_0 ge920_0
           have HX920_0 := Aside0.mk hx920_0
           clear hcc920 hce920
           have HR920_0 := Aside0.mk hi920_0
           have HC920_0 := Aside0.mk hl920_0
           clear hi920_0 hl920_0
           replace p920 := eq_true p920
           replace q920 := eq_true q920
           have p921 : 0 ≤ ((rd (rd_L1 l1 x85_3) x136_5) : Int) := dA
           have q921 : (rd (rd_L1 l1 x85_3) x136_5) < ((rd_L1 x10_5 x136_5).length : Int) := dA
           obtain ⟨ad921, e921, hx921_0⟩ := Kd.at_int (by repeat (first | (with_reducible exact HR920_0.out) | (with_reducible refine Kd.C_alloc ?_ _) | (with_reducible refine Kd.C_drewN ?_ _) | (with_reducible refine Kd.C_drew ?_) | exact HR920_0.out)) (rd (rd_L1 l1 x85_3) x136_5) p921 q921
           cases e921
           replace p921 := eq_true p921
           replace q921 := eq_true q921
           have p69 : 0 ≤ ((rd (rd_L1 l1 x85_3) x136_5) : Int) := dA
           have q69 : ((rd (rd_L1 l1 x85_3) x136_5) : Int) < (((rd_L1 x10_5 x136_5).length : Int) : Int) := dA
           obtain ⟨go69, co69, eo69, gb69, gl69, cl69, HG69⟩ := Kd.R_form HL920_0.out (by omega)
           (first | cases eo69 | (injection eo69 with ea_ en_ ec_; (first | subst ea_ | (injection ea_ with ea_; subst ea_)); subst ec_; clear en_))
           have GB69 := Aside0.mk gb69
           have GG69 := Aside0.mk HG69
           clear gb69 gl69 HG69
           (first | simp only [add_plain] at hx921_0 | skip)
           obtain ⟨hx69_0, hf69_0⟩ := Kd.R_celln 0 HL920_0.out ((rd (rd_L1 l1 x85_3) x136_5) : Int) p69 q69
           replace p69 := eq_true p69
           replace q69 := eq_true q69
           have hq71 : (x136_5 : Int) < (x10_5.length : Int) := (by have h_ : (x136_5 : Int) < ((x10_5.length : Int) : Int) := dA; first | exact h_ | (have e_ := (Kd.S_reads' HO_10.out).1; omega) | simpa only [List.length_set, List.length_set] using h_)
           obtain ⟨oki71, ce71, hcl71, hM71, hcc71, hok71, hbk71⟩ := Kd.S_borrow HO_10.out [] (x136_5 : Int) (dA) hq71
           obtain ⟨ve71_0, rfl, ge71_0⟩ := hM71
           have hv71 := hcc71 0 _ rfl
           rw [Nat.add_zero, show ((Kd.slice 3 (Kd.int .i64))).sz = 1 from rfl, Nat.mul_one] at hv71
           replace hv71 := Option.some.inj (hv71.symm.trans HX920_0.out)
           subst hv71
           clear hcc71 hcl71
           replace ge71_0 := (show Kd.R (Kd.int .i64) 3 _ _ _ _ (rd_L1 x10_5 x136_5) from ge71_0)
           have HP71 := Kd.R_putg ge71_0 ((rd (rd_L1 l1 x85_3) x136_5) : Int) (wrap64 ((rd (rd_L1 x10_5 x136_5) (rd (rd_L1 l1 x85_3) x136_5)) - (wrap64 ((wrap64 (Int.tdiv t899 ((rd_T62 l2 x85_3).f1))) * ((rd_T62 l2 x85_3).f0)))))
           go_wp2_with (first | ((with_reducible refine gate_store (t := 3) (p := 150) rfl ?_); refine store_event (t := 3) (p := 150) (v := ?vo_w72) (w1 := (wr.setCell ⟨go69, ((rd (rd_L1 l1 x85_3) x136_5) : Int).toNat, none⟩ (.int .i64 (wrap64 ((rd (rd_L1 x10_5 x136_5) (rd (rd_L1 l1 x85_3) x136_5)) - (wrap64 ((wrap64 (Int.tdiv t899 ((rd_T62 l2 x85_3).f1))) * ((rd_T62 l2 x85_3).f0)))))))) ?hg ?ho ?hn ?hr ?_; (case ho => rfl); (case hg => rfl); (case hn => rfl); (case hr => first | (go_simp; done) | (go_simp; rfl)); intro w72 hw; have hg : wr.grownBy w72 (some go69) := (by rw [hw]; exact HP71.2); have hz_ : Kd.R (Kd.int .i64) 3 w72 w.heap.size oki71 (.slice (some ⟨go69, 0, none⟩) (rd_L1 x10_5 x136_5).length c920_0) y922 := (by rw [hw, Ny922.out]; exact HP71.1); have hp_ : Kd.S (Kd.slice 3 (Kd.int .i64)) 22 w72 w.heap.size (fun _ => True) (.slice (some ad920) x10_5.length co70) y924 := (by rw [Ny924.out]; exact hbk71 hg (fun k_ e_ => by injection e_ with e_; subst e_; exact ge71_0.1 _ rfl) (Kd.M_row hz_)); have hm_ := Kd.R_mono hz_ hok71; clear HP71 hbk71; have n0_ := ak (hp_); have n1_ := ak ((by rw [hw]; exact below_set (HB.out) GB69.out : Below w.heap.size w w72)); have n2_ := ak (hm_); have n3_ := ak ((Kd.R_reads' hm_).2.1); clear HO_10; clear HB; clear HL920_0; have HO_10 := n0_; have HB := n1_; have HL927 := n2_; have HC923 := n3_; clear n0_ n1_ n2_ n3_; clear hg hw hp_ hz_ hm_ hok71))
           go_roundg k5
           case measure => have := HJ6.out; have := HK2.out; have := HK3.out; have := HJ47.out; have := HK5.out; omega
           case rel => exact ⟨(y924), (wrap64 (x136_5 + 1)), (by first | rfl | (simp; done) | (simp [*]; done)), H', ⟨by have := HJ6.out; have := HK2.out; have := HK3.out; have := HJ47.out; have := HK5.out; omega⟩, ⟨by (with_reducible repeat (first | apply Kd.S_alloc | apply Kd.S_drewN | apply Kd.S_drew)); exact HO_10.out⟩, ⟨hbC _⟩⟩

end Go.Proofs.Ytefmafbbnkkpjaa.X
