-- Written by a program of this work (wip/xprint.py, over the kit's printer) out of the translation.
import Derived.Test.YtkieehjpnjplmaaDoorX0
import Derived.Test.YtkieehjpnjplmaaDoorXG1a
import Derived.Test.YtkieehjpnjplmaaDoorXG3a
import Derived.Test.YtkieehjpnjplmaaDoorXG4a
import Derived.Test.YtkieehjpnjplmaaDoorXf11
import Derived.Test.YtkieehjpnjplmaaDoorXf4
import Derived.Test.YtkieehjpnjplmaaDoorXf7
import Derived.Test.YtkieehjpnjplmaaDoorXf8
import Derived.Test.YtkieehjpnjplmaaDoorXf9
import Derived.Test.YtkieehjpnjplmaaDoorEG
namespace Go.Proofs.YtkieehjpnjplmaaDoor.X
open Go.RowKit Go.Proofs.YtkieehjpnjplmaaDoorW.PrintWords Go.Proofs.YtkieehjpnjplmaaDoorW.PrintLast Go.Proofs.YtkieehjpnjplmaaDoorW.PrintMore
attribute [local go_sem] max2_int min2_int max_two min_two max_three min_three max_four min_four   -- for this text's walks alone
set_option linter.unusedVariables false
set_option linter.unusedSimpArgs false

/-! ### congoutop_TopGale: function 3 -/
mutual
def congoutop_TopGale.j0 : Nat → Int → List Int → Int → Bool → List (List Int) → List (List Int) → Option (Bool)
 | 0, _, _, _, _, _, _ => none
 | k + 1, x0, x1, x6, x32, x248000, x248001 => if x32 = true then (if x6 = 2 then ((congoutop_blocks.f k).bind fun t249 => (some t249)) else (some false)) else ((squares_Filled.f k x248000 x248001).bind fun bt250 => (if bt250.2 = 0 then ((slices_Clone_int_int.f x1).bind fun t252 => ((squares_Clues.f k x0 t252).bind fun bt255 => (if bt255.2.2 = 0 then (if (bt255.1.length : Int) = (x1.length : Int) then (congoutop_TopGale.j1 k bt250.1 ((bt255.2.1.length : Int) != x0) bt255.1 bt255.2.1) else (congoutop_TopGale.j1 k bt250.1 true bt255.1 bt255.2.1)) else (congoutop_TopGale.j1 k bt250.1 true bt255.1 bt255.2.1)))) else (some false)))
def congoutop_TopGale.j1 : Nat → Int → Bool → List (List Int) → List (List Int) → Option (Bool)
 | 0, _, _, _, _ => none
 | k + 1, x7, x68, x263000, x263001 => if x68 = true then (some false) else ((congoutop_sums.f k x263000).bind fun t263 => ((congoutop_sums.f k x263001).bind fun t266 => (if x7 < 1 then (congoutop_TopGale.j2 k x7 t263 t266 true) else (congoutop_TopGale.j2 k x7 t263 t266 (decide (x7 > 12))))))
def congoutop_TopGale.j2 : Nat → Int → List Int → List Int → Bool → Option (Bool)
 | 0, _, _, _, _ => none
 | k + 1, x7, x9, x10, x80 => if x80 = true then (if x7 ≥ 0 then ((congoutop_blocks.f k).bind fun t269 => (some t269)) else (some false)) else ((slices_Clone_int_int.f x9).bind fun t270 => (congoutop_TopGale.l0 k x10 t270))
def congoutop_TopGale.j4 : Nat → List Int → List Int → Option (Bool)
 | 0, _, _ => none
 | k + 1, x10, x11 => (shares_Turn.f k x11).bind fun bt277 => (if bt277.2 = 0 then (congoutop_TopGale.j5 k x10 bt277.1 (decide ((bt277.1.length : Int) > 6))) else (congoutop_TopGale.j5 k x10 bt277.1 true))
def congoutop_TopGale.j5 : Nat → List Int → List Int → Bool → Option (Bool)
 | 0, _, _, _ => none
 | k + 1, x10, x12, x116 => if x116 = true then (some false) else (congoutop_TopGale.l1 k x10 x12)
def congoutop_TopGale.l1 : Nat → List Int → List Int → Option (Bool)
 | 0, _, _ => none
 | k + 1, x10, x12 => if (x12.length : Int) < 6 then (if x12.length < 17592186044416 then (congoutop_TopGale.l1 k x10 (x12 ++ [0])) else (none)) else ((shares_Uneven.f k x12 x10).bind fun bt284 => (if bt284.2 = 0 then (if bt284.1 = true then ((congoutop_blocks.f k).bind fun t286 => (some t286)) else (some false)) else (some false)))
def congoutop_TopGale.l0 : Nat → List Int → List Int → Option (Bool)
 | 0, _, _ => none
 | k + 1, x10, x11 => if (x11.length : Int) > 0 then (if 0 ≤ (wrap64 ((x11.length : Int) - 1)) then (if (wrap64 ((x11.length : Int) - 1)) < (x11.length : Int) then (if (rd x11 (wrap64 ((x11.length : Int) - 1))) = 0 then (if (wrap64 ((x11.length : Int) - 1)) ≤ (x11.length : Int) then (congoutop_TopGale.l0 k x10 (x11.take ((wrap64 ((x11.length : Int) - 1)) : Int).toNat)) else (none)) else (congoutop_TopGale.j4 k x10 x11)) else (none)) else (none)) else (congoutop_TopGale.j4 k x10 x11)
end
def congoutop_TopGale.f (k : Nat) (a0 : Int) (l1 : List Int) : Option (Bool) := if 0 ≤ (mn (l1.length : Int) 8) then (if (mn (l1.length : Int) 8) ≤ (l1.length : Int) then ((slices_Clone_int_int.f (l1.take ((mn (l1.length : Int) 8) : Int).toNat)).bind fun t237 => ((squares_Clues.f k a0 t237).bind fun bt240 => (if bt240.2.2 = 0 then ((congouref07_Picture.f k a0 l1).bind fun t248 => (congoutop_TopGale.j0 k a0 l1 bt240.2.2 (!t248) bt240.1 bt240.2.1)) else (congoutop_TopGale.j0 k a0 l1 bt240.2.2 true bt240.1 bt240.2.1)))) else (none)) else (none)
theorem congoutop_TopGale.mono_l : ∀ k, (∀ y0 y1 y2 y3 y4 y5, LeO (congoutop_TopGale.j0 k y0 y1 y2 y3 y4 y5) (congoutop_TopGale.j0 (k + 1) y0 y1 y2 y3 y4 y5)) ∧ (∀ y0 y1 y2 y3, LeO (congoutop_TopGale.j1 k y0 y1 y2 y3) (congoutop_TopGale.j1 (k + 1) y0 y1 y2 y3)) ∧ (∀ y0 y1 y2 y3, LeO (congoutop_TopGale.j2 k y0 y1 y2 y3) (congoutop_TopGale.j2 (k + 1) y0 y1 y2 y3)) ∧ (∀ y0 y1, LeO (congoutop_TopGale.j4 k y0 y1) (congoutop_TopGale.j4 (k + 1) y0 y1)) ∧ (∀ y0 y1 y2, LeO (congoutop_TopGale.j5 k y0 y1 y2) (congoutop_TopGale.j5 (k + 1) y0 y1 y2)) ∧ (∀ y0 y1, LeO (congoutop_TopGale.l1 k y0 y1) (congoutop_TopGale.l1 (k + 1) y0 y1)) ∧ (∀ y0 y1, LeO (congoutop_TopGale.l0 k y0 y1) (congoutop_TopGale.l0 (k + 1) y0 y1))
 | 0 => ⟨fun _ _ _ _ _ _ r h => by simp [congoutop_TopGale.j0] at h, fun _ _ _ _ r h => by simp [congoutop_TopGale.j1] at h, fun _ _ _ _ r h => by simp [congoutop_TopGale.j2] at h, fun _ _ r h => by simp [congoutop_TopGale.j4] at h, fun _ _ _ r h => by simp [congoutop_TopGale.j5] at h, fun _ _ r h => by simp [congoutop_TopGale.l1] at h, fun _ _ r h => by simp [congoutop_TopGale.l0] at h⟩
 | k + 1 => by
  obtain ⟨ih0, ih1, ih2, ih3, ih4, ih5, ih6⟩ := congoutop_TopGale.mono_l k
  refine ⟨?_, ?_, ?_, ?_, ?_, ?_, ?_⟩
  ·intro y0 y1 y2 y3 y4 y5
   unfold congoutop_TopGale.j0
   repeat' first
   | (with_reducible exact ih0 _ _ _ _ _ _)
   | (with_reducible exact ih1 _ _ _ _)
   | (with_reducible exact ih2 _ _ _ _)
   | (with_reducible exact ih3 _ _)
   | (with_reducible exact ih4 _ _ _)
   | (with_reducible exact ih5 _ _)
   | (with_reducible exact ih6 _ _)
   | (with_reducible exact congouref07_Picture.mono _ _ _)
   | (with_reducible exact congoutop_blocks.mono _)
   | (with_reducible exact congoutop_sums.mono _ _)
   | (with_reducible exact shares_Turn.mono _ _)
   | (with_reducible exact shares_Uneven.mono _ _ _)
   | (with_reducible exact squares_Clues.mono _ _ _)
   | (with_reducible exact squares_Filled.mono _ _ _)
   | (with_reducible exact LeO.refl _)
   | (with_reducible exact LeO.none _)
   | (with_reducible refine LeO.ite ?_ ?_)
   | (with_reducible refine LeO.bind ?_ (fun _ => ?_))
   | exact ih0 _ _ _ _ _ _
   | exact ih1 _ _ _ _
   | exact ih2 _ _ _ _
   | exact ih3 _ _
   | exact ih4 _ _ _
   | exact ih5 _ _
   | exact ih6 _ _
   | exact congouref07_Picture.mono _ _ _
   | exact congoutop_blocks.mono _
   | exact congoutop_sums.mono _ _
   | exact shares_Turn.mono _ _
   | exact shares_Uneven.mono _ _ _
   | exact squares_Clues.mono _ _ _
   | exact squares_Filled.mono _ _ _
   | exact LeO.none _
   | refine LeO.ite ?_ ?_
   | refine LeO.bind ?_ (fun _ => ?_)
  ·intro y0 y1 y2 y3
   unfold congoutop_TopGale.j1
   repeat' first
   | (with_reducible exact ih0 _ _ _ _ _ _)
   | (with_reducible exact ih1 _ _ _ _)
   | (with_reducible exact ih2 _ _ _ _)
   | (with_reducible exact ih3 _ _)
   | (with_reducible exact ih4 _ _ _)
   | (with_reducible exact ih5 _ _)
   | (with_reducible exact ih6 _ _)
   | (with_reducible exact congouref07_Picture.mono _ _ _)
   | (with_reducible exact congoutop_blocks.mono _)
   | (with_reducible exact congoutop_sums.mono _ _)
   | (with_reducible exact shares_Turn.mono _ _)
   | (with_reducible exact shares_Uneven.mono _ _ _)
   | (with_reducible exact squares_Clues.mono _ _ _)
   | (with_reducible exact squares_Filled.mono _ _ _)
   | (with_reducible exact LeO.refl _)
   | (with_reducible exact LeO.none _)
   | (with_reducible refine LeO.ite ?_ ?_)
   | (with_reducible refine LeO.bind ?_ (fun _ => ?_))
   | exact ih0 _ _ _ _ _ _
   | exact ih1 _ _ _ _
   | exact ih2 _ _ _ _
   | exact ih3 _ _
   | exact ih4 _ _ _
   | exact ih5 _ _
   | exact ih6 _ _
   | exact congouref07_Picture.mono _ _ _
   | exact congoutop_blocks.mono _
   | exact congoutop_sums.mono _ _
   | exact shares_Turn.mono _ _
   | exact shares_Uneven.mono _ _ _
   | exact squares_Clues.mono _ _ _
   | exact squares_Filled.mono _ _ _
   | exact LeO.none _
   | refine LeO.ite ?_ ?_
   | refine LeO.bind ?_ (fun _ => ?_)
  ·intro y0 y1 y2 y3
   unfold congoutop_TopGale.j2
   repeat' first
   | (with_reducible exact ih0 _ _ _ _ _ _)
   | (with_reducible exact ih1 _ _ _ _)
   | (with_reducible exact ih2 _ _ _ _)
   | (with_reducible exact ih3 _ _)
   | (with_reducible exact ih4 _ _ _)
   | (with_reducible exact ih5 _ _)
   | (with_reducible exact ih6 _ _)
   | (with_reducible exact congouref07_Picture.mono _ _ _)
   | (with_reducible exact congoutop_blocks.mono _)
   | (with_reducible exact congoutop_sums.mono _ _)
   | (with_reducible exact shares_Turn.mono _ _)
   | (with_reducible exact shares_Uneven.mono _ _ _)
   | (with_reducible exact squares_Clues.mono _ _ _)
   | (with_reducible exact squares_Filled.mono _ _ _)
   | (with_reducible exact LeO.refl _)
   | (with_reducible exact LeO.none _)
   | (with_reducible refine LeO.ite ?_ ?_)
   | (with_reducible refine LeO.bind ?_ (fun _ => ?_))
   | exact ih0 _ _ _ _ _ _
   | exact ih1 _ _ _ _
   | exact ih2 _ _ _ _
   | exact ih3 _ _
   | exact ih4 _ _ _
   | exact ih5 _ _
   | exact ih6 _ _
   | exact congouref07_Picture.mono _ _ _
   | exact congoutop_blocks.mono _
   | exact congoutop_sums.mono _ _
   | exact shares_Turn.mono _ _
   | exact shares_Uneven.mono _ _ _
   | exact squares_Clues.mono _ _ _
   | exact squares_Filled.mono _ _ _
   | exact LeO.none _
   | refine LeO.ite ?_ ?_
   | refine LeO.bind ?_ (fun _ => ?_)
  ·intro y0 y1
   unfold congoutop_TopGale.j4
   repeat' first
   | (with_reducible exact ih0 _ _ _ _ _ _)
   | (with_reducible exact ih1 _ _ _ _)
   | (with_reducible exact ih2 _ _ _ _)
   | (with_reducible exact ih3 _ _)
   | (with_reducible exact ih4 _ _ _)
   | (with_reducible exact ih5 _ _)
   | (with_reducible exact ih6 _ _)
   | (with_reducible exact congouref07_Picture.mono _ _ _)
   | (with_reducible exact congoutop_blocks.mono _)
   | (with_reducible exact congoutop_sums.mono _ _)
   | (with_reducible exact shares_Turn.mono _ _)
   | (with_reducible exact shares_Uneven.mono _ _ _)
   | (with_reducible exact squares_Clues.mono _ _ _)
   | (with_reducible exact squares_Filled.mono _ _ _)
   | (with_reducible exact LeO.refl _)
   | (with_reducible exact LeO.none _)
   | (with_reducible refine LeO.ite ?_ ?_)
   | (with_reducible refine LeO.bind ?_ (fun _ => ?_))
   | exact ih0 _ _ _ _ _ _
   | exact ih1 _ _ _ _
   | exact ih2 _ _ _ _
   | exact ih3 _ _
   | exact ih4 _ _ _
   | exact ih5 _ _
   | exact ih6 _ _
   | exact congouref07_Picture.mono _ _ _
   | exact congoutop_blocks.mono _
   | exact congoutop_sums.mono _ _
   | exact shares_Turn.mono _ _
   | exact shares_Uneven.mono _ _ _
   | exact squares_Clues.mono _ _ _
   | exact squares_Filled.mono _ _ _
   | exact LeO.none _
   | refine LeO.ite ?_ ?_
   | refine LeO.bind ?_ (fun _ => ?_)
  ·intro y0 y1 y2
   unfold congoutop_TopGale.j5
   repeat' first
   | (with_reducible exact ih0 _ _ _ _ _ _)
   | (with_reducible exact ih1 _ _ _ _)
   | (with_reducible exact ih2 _ _ _ _)
   | (with_reducible exact ih3 _ _)
   | (with_reducible exact ih4 _ _ _)
   | (with_reducible exact ih5 _ _)
   | (with_reducible exact ih6 _ _)
   | (with_reducible exact congouref07_Picture.mono _ _ _)
   | (with_reducible exact congoutop_blocks.mono _)
   | (with_reducible exact congoutop_sums.mono _ _)
   | (with_reducible exact shares_Turn.mono _ _)
   | (with_reducible exact shares_Uneven.mono _ _ _)
   | (with_reducible exact squares_Clues.mono _ _ _)
   | (with_reducible exact squares_Filled.mono _ _ _)
   | (with_reducible exact LeO.refl _)
   | (with_reducible exact LeO.none _)
   | (with_reducible refine LeO.ite ?_ ?_)
   | (with_reducible refine LeO.bind ?_ (fun _ => ?_))
   | exact ih0 _ _ _ _ _ _
   | exact ih1 _ _ _ _
   | exact ih2 _ _ _ _
   | exact ih3 _ _
   | exact ih4 _ _ _
   | exact ih5 _ _
   | exact ih6 _ _
   | exact congouref07_Picture.mono _ _ _
   | exact congoutop_blocks.mono _
   | exact congoutop_sums.mono _ _
   | exact shares_Turn.mono _ _
   | exact shares_Uneven.mono _ _ _
   | exact squares_Clues.mono _ _ _
   | exact squares_Filled.mono _ _ _
   | exact LeO.none _
   | refine LeO.ite ?_ ?_
   | refine LeO.bind ?_ (fun _ => ?_)
  ·intro y0 y1
   unfold congoutop_TopGale.l1
   repeat' first
   | (with_reducible exact ih0 _ _ _ _ _ _)
   | (with_reducible exact ih1 _ _ _ _)
   | (with_reducible exact ih2 _ _ _ _)
   | (with_reducible exact ih3 _ _)
   | (with_reducible exact ih4 _ _ _)
   | (with_reducible exact ih5 _ _)
   | (with_reducible exact ih6 _ _)
   | (with_reducible exact congouref07_Picture.mono _ _ _)
   | (with_reducible exact congoutop_blocks.mono _)
   | (with_reducible exact congoutop_sums.mono _ _)
   | (with_reducible exact shares_Turn.mono _ _)
   | (with_reducible exact shares_Uneven.mono _ _ _)
   | (with_reducible exact squares_Clues.mono _ _ _)
   | (with_reducible exact squares_Filled.mono _ _ _)
   | (with_reducible exact LeO.refl _)
   | (with_reducible exact LeO.none _)
   | (with_reducible refine LeO.ite ?_ ?_)
   | (with_reducible refine LeO.bind ?_ (fun _ => ?_))
   | exact ih0 _ _ _ _ _ _
   | exact ih1 _ _ _ _
   | exact ih2 _ _ _ _
   | exact ih3 _ _
   | exact ih4 _ _ _
   | exact ih5 _ _
   | exact ih6 _ _
   | exact congouref07_Picture.mono _ _ _
   | exact congoutop_blocks.mono _
   | exact congoutop_sums.mono _ _
   | exact shares_Turn.mono _ _
   | exact shares_Uneven.mono _ _ _
   | exact squares_Clues.mono _ _ _
   | exact squares_Filled.mono _ _ _
   | exact LeO.none _
   | refine LeO.ite ?_ ?_
   | refine LeO.bind ?_ (fun _ => ?_)
  ·intro y0 y1
   unfold congoutop_TopGale.l0
   repeat' first
   | (with_reducible exact ih0 _ _ _ _ _ _)
   | (with_reducible exact ih1 _ _ _ _)
   | (with_reducible exact ih2 _ _ _ _)
   | (with_reducible exact ih3 _ _)
   | (with_reducible exact ih4 _ _ _)
   | (with_reducible exact ih5 _ _)
   | (with_reducible exact ih6 _ _)
   | (with_reducible exact congouref07_Picture.mono _ _ _)
   | (with_reducible exact congoutop_blocks.mono _)
   | (with_reducible exact congoutop_sums.mono _ _)
   | (with_reducible exact shares_Turn.mono _ _)
   | (with_reducible exact shares_Uneven.mono _ _ _)
   | (with_reducible exact squares_Clues.mono _ _ _)
   | (with_reducible exact squares_Filled.mono _ _ _)
   | (with_reducible exact LeO.refl _)
   | (with_reducible exact LeO.none _)
   | (with_reducible refine LeO.ite ?_ ?_)
   | (with_reducible refine LeO.bind ?_ (fun _ => ?_))
   | exact ih0 _ _ _ _ _ _
   | exact ih1 _ _ _ _
   | exact ih2 _ _ _ _
   | exact ih3 _ _
   | exact ih4 _ _ _
   | exact ih5 _ _
   | exact ih6 _ _
   | exact congouref07_Picture.mono _ _ _
   | exact congoutop_blocks.mono _
   | exact congoutop_sums.mono _ _
   | exact shares_Turn.mono _ _
   | exact shares_Uneven.mono _ _ _
   | exact squares_Clues.mono _ _ _
   | exact squares_Filled.mono _ _ _
   | exact LeO.none _
   | refine LeO.ite ?_ ?_
   | refine LeO.bind ?_ (fun _ => ?_)
theorem congoutop_TopGale.mono : ∀ a0 a1 k, LeO (congoutop_TopGale.f k a0 a1) (congoutop_TopGale.f (k + 1) a0 a1) := by
 intro a0 a1 k
 obtain ⟨ih0, ih1, ih2, ih3, ih4, ih5, ih6⟩ := congoutop_TopGale.mono_l k
 unfold congoutop_TopGale.f
 repeat' first
   | (with_reducible exact ih0 _ _ _ _ _ _)
   | (with_reducible exact ih1 _ _ _ _)
   | (with_reducible exact ih2 _ _ _ _)
   | (with_reducible exact ih3 _ _)
   | (with_reducible exact ih4 _ _ _)
   | (with_reducible exact ih5 _ _)
   | (with_reducible exact ih6 _ _)
   | (with_reducible exact congouref07_Picture.mono _ _ _)
   | (with_reducible exact congoutop_blocks.mono _)
   | (with_reducible exact congoutop_sums.mono _ _)
   | (with_reducible exact shares_Turn.mono _ _)
   | (with_reducible exact shares_Uneven.mono _ _ _)
   | (with_reducible exact squares_Clues.mono _ _ _)
   | (with_reducible exact squares_Filled.mono _ _ _)
   | (with_reducible exact LeO.refl _)
   | (with_reducible exact LeO.none _)
   | (with_reducible refine LeO.ite ?_ ?_)
   | (with_reducible refine LeO.bind ?_ (fun _ => ?_))
   | exact ih0 _ _ _ _ _ _
   | exact ih1 _ _ _ _
   | exact ih2 _ _ _ _
   | exact ih3 _ _
   | exact ih4 _ _ _
   | exact ih5 _ _
   | exact ih6 _ _
   | exact congouref07_Picture.mono _ _ _
   | exact congoutop_blocks.mono _
   | exact congoutop_sums.mono _ _
   | exact shares_Turn.mono _ _
   | exact shares_Uneven.mono _ _ _
   | exact squares_Clues.mono _ _ _
   | exact squares_Filled.mono _ _ _
   | exact LeO.none _
   | refine LeO.ite ?_ ?_
   | refine LeO.bind ?_ (fun _ => ?_)
def congoutop_TopGale.T10 : Bool × List (List Nat × List Nat) := (true, [([], []), ([0], [0]), ([1], [1]), ([], []), ([3], [3]), ([4, 2], [4]), ([2, 5, 0, 1, 2], [2]), ([5, 6, 0, 1, 2, 3, 4, 5, 6], [5])])
def congoutop_TopGale.B10 : List Nat := [0, 1, 3, 0, 8, 31, 63, 127]
theorem congoutop_TopGale.tab10 : rtab .any (opsOf Tryd.f3 10) = congoutop_TopGale.T10 := by kernel_rfl
theorem congoutop_TopGale.bits10 : waitsOk congoutop_TopGale.T10.2 congoutop_TopGale.B10 = true := by kernel_rfl
set_option maxHeartbeats 8000000 in
set_option maxRecDepth 100000 in
theorem congoutop_TopGale.calls (k : Nat) (a0 : Int) (A1 : Option Addr) (c1 : Nat) (l1 : List Int) (r : Bool) (w : World) (hr1 : Kd.C (Kd.int .i64) w A1 l1.length l1) (hc1 : l1.length ≤ c1) (hrt : r = true) (h : congoutop_TopGale.f k a0 l1 = some r) (hG0 : GL w := by exact GL.to HG.out (hbC _)) :
  Calls Tryd.prog 3 #[.int .i64 a0, .slice A1 l1.length c1] w fun e w' => e = .returned (.bool r) ∧ Below w.heap.size w w' := by
 have HG := Aside0.mk hG0
 clear hG0
 have hu25 := Tryd.underlying25
 have HR1 := Aside0.mk hr1
 have HC1 := Aside0.mk hc1
 clear hr1 hc1
 have HB := ak (Below.refl w.heap.size w)
 have H : (if 0 ≤ (mn (l1.length : Int) 8) then (if (mn (l1.length : Int) 8) ≤ (l1.length : Int) then ((slices_Clone_int_int.f (l1.take ((mn (l1.length : Int) 8) : Int).toNat)).bind fun t237 => ((squares_Clues.f k a0 t237).bind fun bt240 => (if bt240.2.2 = 0 then ((congouref07_Picture.f k a0 l1).bind fun t248 => (congoutop_TopGale.j0 k a0 l1 bt240.2.2 (!t248) bt240.1 bt240.2.1)) else (congoutop_TopGale.j0 k a0 l1 bt240.2.2 true bt240.1 bt240.2.1)))) else (none)) else (none)) = some r := h
 clear h
 have HRT := Aside0.mk hrt
 clear hrt
 obtain ⟨ji3, hji3⟩ : ∃ j_ : Int, (mn (l1.length : Int) 8) = j_ := ⟨_, rfl⟩
 replace H : (if 0 ≤ (ji3) then (if (ji3) ≤ (l1.length : Int) then ((slices_Clone_int_int.f (l1.take ((ji3) : Int).toNat)).bind fun t237 => ((squares_Clues.f k a0 t237).bind fun bt240 => (if bt240.2.2 = 0 then ((congouref07_Picture.f k a0 l1).bind fun t248 => (congoutop_TopGale.j0 k a0 l1 bt240.2.2 (!t248) bt240.1 bt240.2.1)) else (congoutop_TopGale.j0 k a0 l1 bt240.2.2 true bt240.1 bt240.2.1)))) else (none)) else (none)) = some r := by first | (rw [hji3] at H; exact H) | (simp only [hji3] at H ⊢; exact H)
 (try (have hji3h : ji3 ≤ 8 := by (rw [← hji3]; unfold mn; (repeat' split) <;> omega)))
 (try (have hji3g : ji3 ≤ 64 := by omega))
 (try (have hji3l : 0 ≤ ji3 := by (rw [← hji3]; unfold mn; (repeat' split) <;> omega)))
 (try (have hji3m : 0 ≤ ji3 := by omega))
 have hji3_ : (if 8 < (l1.length : Int) then 8 else (l1.length : Int)) = ji3 := hji3
 by_cases c4 : 0 ≤ (ji3)
 rotate_left
 ·rw [if_neg c4] at H
  exact absurd H (by simp)
 rw [if_pos c4] at H
 have c4b0 := eq_true c4
 have c4b1 : decide (0 ≤ (ji3)) = true := decide_eq_true c4
 clear c4
 by_cases c5 : (ji3) ≤ (l1.length : Int)
 rotate_left
 ·rw [if_neg c5] at H
  exact absurd H (by simp)
 rw [if_pos c5] at H
 have c5b0 := eq_true c5
 have c5b1 : decide ((ji3) ≤ (l1.length : Int)) = true := decide_eq_true c5
 clear c5
 replace H := Option.bind_eq_some_iff.mp H
 obtain ⟨t237, A60, H⟩ := H
 replace H : ((squares_Clues.f k a0 t237).bind fun bt240 => (if bt240.2.2 = 0 then ((congouref07_Picture.f k a0 l1).bind fun t248 => (congoutop_TopGale.j0 k a0 l1 bt240.2.2 (!t248) bt240.1 bt240.2.1)) else (congoutop_TopGale.j0 k a0 l1 bt240.2.2 true bt240.1 bt240.2.1))) = some r := H
 have A6 := Aside0.mk A60
 clear A60
 replace H := Option.bind_eq_some_iff.mp H
 obtain ⟨⟨t240, t243, t246⟩, A70, H⟩ := H
 replace H : (if t246 = 0 then ((congouref07_Picture.f k a0 l1).bind fun t248 => (congoutop_TopGale.j0 k a0 l1 t246 (!t248) t240 t243)) else (congoutop_TopGale.j0 k a0 l1 t246 true t240 t243)) = some r := H
 have A7 := Aside0.mk A70
 clear A70
 have HC8 := Aside0.mk H
 clear H
 obtain ⟨i09, hi09, _, hsz9, _⟩ := info_parts info3
 obtain ⟨hcut9, hA9, hC9⟩ := print_take_of (P := Tryd.prog) (Value.int .i64) 0 22 3 .i64 Tryd.underlying22 hi09 hsz9 A1 c1 l1 (ji3) (dA) (dA) HC1.out
 have HR236 := ak (Kd.C_of_reads (h1 := fun _ => rfl) (hA9 _ (Kd.reads_of_C HR1.out)))
 have HC236 := Aside0.mk hC9
 clear hA9 hC9 hi09 hsz9
 go_enter Tryd.func3, Tryd.ntmps3
 go_upto_region 2 with (first | ((with_reducible refine gate_callee (f := 5) rfl ?_); refine goesL_ (some 21) rfl rfl Tryd.func5 (by kernel_rfl) rfl #[.slice A1 (l1.take ((ji3) : Int).toNat).length c1] rfl (by (try simp only [List.map_toArray, List.map_cons, List.map_nil]); first | done | (rw [show (l1.take ((ji3) : Int).toNat).length = (ji3).toNat from (by rw [List.length_take]; have h_ : ((ji3) : Int) ≤ (l1.length : Int) := dA; omega)] <;> rfl) | (simp only [hji3]; rfl) | rfl | (simp only [List.length_drop, List.length_take]; rfl)) ?_; (with_reducible refine (slices_Clone_int_int.calls _ _ (l1.take ((ji3) : Int).toNat) t237 _ ?side1 ?side2 A6.out).mono ?_); (case side1 => repeat (first | exact HR236.out | (with_reducible refine Kd.C_alloc ?_ _) | (with_reducible refine Kd.C_drewN ?_ _) | (with_reducible refine Kd.C_drew ?_))); (case side2 => exact HC236.out); rintro e w10 ⟨v238, rfl, ho0, hb⟩; refine ⟨_, rfl, ?_⟩; have HO239 := ak (Kd.R_lower ho0 (below_size (hbC _))); replace HB := kH _ hb; (try clear hb); (try clear hb2); (try clear hk); (try clear hi); (try clear ho0); obtain ⟨Ao11, co11, eo11⟩ := Kd.R_slice HO239.out; subst eo11) | ((with_reducible refine gate_callee (f := 4) rfl ?_); refine gL 22 Tryd.func4 #[.int .i64 a0, .slice Ao11 t237.length co11] ?_; (with_reducible refine (squares_Clues.calls k a0 _ _ t237 t240 t243 t246 _ ?side1 ?side2 A7.out).mono ?_); (case side1 => exact kD (Kd.R_reads' HO239.out).2.2); (case side2 => exact (Kd.R_reads' HO239.out).2.1); rintro e w12 ⟨v241, v244, rfl, ho0, ho1, hb⟩; refine ⟨_, rfl, ?_⟩; have HO242 := ak (Kd.S_lower (Kd.S_new' ho0 (Kd.R_lt (rC HO239))) (below_size (hbC _))); have HO245 := ak (Kd.S_lower (Kd.S_new' ho1 (Kd.R_lt (rC HO239))) (below_size (hbC _))); replace HO239 := kO HO239 hb; replace HB := kH _ hb; (try clear hb); (try clear hb2); (try clear hk); (try clear hi); (try clear ho0); (try clear ho1)) | ((with_reducible refine gate_dst (N := 5) rfl ?_); (try (refine gate_guard (by rfl) ?_; dsimp only)); refine bE 5 #[.slice none 0 0, .slice none 0 0] 25 ?_; intro gb247 hg w13 hbox hb; replace HO239 := kO HO239 hb; replace HO242 := ak (Kd.S_below (by (with_reducible repeat (first | apply Kd.S_alloc | apply Kd.S_drewN | apply Kd.S_drew)); exact HO242.out) hb); replace HO245 := ak (Kd.S_below (by (with_reducible repeat (first | apply Kd.S_alloc | apply Kd.S_drewN | apply Kd.S_drew)); exact HO245.out) hb); have BK247 := ak (hbox); have GW247 := kG w hg; have GE247 := kG w hg; replace HB := kH _ hb; clear hb hbox hg; obtain ⟨Ao14, co14, eo14⟩ := Kd.S_slice HO242.out; subst eo14; have hcz15_0 : w13.cell? ⟨gb247, 0, none⟩ = some (.slice none 0 0) := bc BK247 0; have hcz15_1 : w13.cell? ⟨gb247, 1, none⟩ = some (.slice none 0 0) := bc BK247 1; have hfz15_0 := fz BK247 0; have hfz15_1 := fz BK247 1; obtain ⟨Ao16, co16, eo16⟩ := Kd.S_slice HO245.out; subst eo16))
 (try simp only [Act.put, List.setIfInBounds_toArray, List.set_cons_zero, List.set_cons_succ])
 go_cut [32] (fun v32 wc => ∃ (kq : Nat) (x32_7 : Bool), v32 = .bool x32_7 ∧ Aside0 (congoutop_TopGale.j0 kq a0 l1 t246 x32_7 t240 t243 = some r) ∧ Aside0 (kq ≤ k) ∧ Aside0 (Kd.S (Kd.slice 3 (Kd.int .i64)) 22 wc w.heap.size (fun k_ => some k_ ≠ ((.slice Ao16 t243.length co16) : Value).ownBlock) (.slice Ao14 t240.length co14) t240) ∧ Aside0 (Kd.S (Kd.slice 3 (Kd.int .i64)) 22 wc w.heap.size (fun k_ => some k_ ≠ ((.slice Ao14 t240.length co14) : Value).ownBlock) (.slice Ao16 t243.length co16) t243) ∧ Aside0 (wc.heap[gb247]? = some (.cells #[(.slice Ao14 t240.length co14), (.slice Ao16 t243.length co16)] 25 (0, 0))) ∧ Aside0 (Below w.heap.size w wc))
 case first =>
  have H := HC8.out
  clear HC8
  by_cases c17 : t246 = 0
  rotate_left
  ·rw [if_neg c17] at H
   have c17b0 : (t246 == 0) = false := beq_eq_false_iff_ne.mpr c17
   have c17b1 : (t246 != 0) = true := bne_iff_ne.mpr c17
   (first | rw [c17b0] | (simp only [i64_w, i32_w]; rw [c17b0]) | skip)
   have H' := Aside0.mk H
   clear H
   go_wp2
   go_meet
   case rel => exact ⟨_, (true), (by first | rfl | (simp; done) | (simp [*]; done)), H', ⟨by first | omega | exact Nat.le_refl _⟩, ⟨by (with_reducible repeat (first | apply Kd.S_alloc | apply Kd.S_drewN | apply Kd.S_drew)); exact Kd.S_mono (Kd.S_far (p := ⟨gb247, 1, none⟩) (Kd.S_far (p := ⟨gb247, 0, none⟩) (Kd.S_types HO242.out BK247.out (by decide)) (fun _ hk => hk.2) (.slice Ao14 t240.length co14)) (fun _ hk => hk.2) (.slice Ao16 t243.length co16)) (fun _ hk => hk.1.1)⟩, ⟨by (with_reducible repeat (first | apply Kd.S_alloc | apply Kd.S_drewN | apply Kd.S_drew)); exact Kd.S_mono (Kd.S_far (p := ⟨gb247, 1, none⟩) (Kd.S_far (p := ⟨gb247, 0, none⟩) (Kd.S_types HO245.out BK247.out (by decide)) (fun _ hk => hk.2) (.slice Ao14 t240.length co14)) (fun _ hk => hk.2) (.slice Ao16 t243.length co16)) (fun _ hk => hk.1.1)⟩, ⟨by (with_reducible repeat (first | refine blk_drewN ?_ _ | refine blk_drew ?_ | refine blk_alloc ?_ _)); refine blk_put (cs := #[.slice Ao14 t240.length co14, .slice none 0 0]) ?_ 1 _ rfl; (with_reducible repeat (first | refine blk_drewN ?_ _ | refine blk_drew ?_ | refine blk_alloc ?_ _)); refine blk_put (cs := #[.slice none 0 0, .slice none 0 0]) ?_ 0 _ rfl; (with_reducible repeat (first | refine blk_drewN ?_ _ | refine blk_drew ?_ | refine blk_alloc ?_ _)); exact BK247.out⟩, ⟨hbC _⟩⟩
  rw [if_pos c17] at H
  have c17b0 : (t246 == 0) = true := beq_iff_eq.mpr c17
  have c17b1 : (t246 != 0) = false := bne_eq_false_iff_eq.mpr c17
  clear c17
  (first | rw [c17b0] | (simp only [i64_w, i32_w]; rw [c17b0]) | skip)
  replace H := Option.bind_eq_some_iff.mp H
  obtain ⟨t248, A180, H⟩ := H
  replace H : (congoutop_TopGale.j0 k a0 l1 t246 (!t248) t240 t243) = some r := H
  have A18 := Aside0.mk A180
  clear A180
  have H' := Aside0.mk H
  clear H
  go_wp2_with (first | (go_at_call 6; (with_reducible refine (congouref07_Picture.calls k a0 _ _ l1 t248 _ ?side1 ?side2 A18.out).mono ?_); (case side1 => exact Kd.C_below HR1.out (hbC _)); (case side2 => exact HC1.out); rintro e w' ⟨rfl, ⟨nd, rfl⟩⟩))
  go_meet
  case rel => exact ⟨_, (!t248), (by first | rfl | (simp; done) | (simp [*]; done)), H', ⟨by first | omega | exact Nat.le_refl _⟩, ⟨by (with_reducible repeat (first | apply Kd.S_alloc | apply Kd.S_drewN | apply Kd.S_drew)); exact Kd.S_mono (Kd.S_far (p := ⟨gb247, 1, none⟩) (Kd.S_far (p := ⟨gb247, 0, none⟩) (Kd.S_types HO242.out BK247.out (by decide)) (fun _ hk => hk.2) (.slice Ao14 t240.length co14)) (fun _ hk => hk.2) (.slice Ao16 t243.length co16)) (fun _ hk => hk.1.1)⟩, ⟨by (with_reducible repeat (first | apply Kd.S_alloc | apply Kd.S_drewN | apply Kd.S_drew)); exact Kd.S_mono (Kd.S_far (p := ⟨gb247, 1, none⟩) (Kd.S_far (p := ⟨gb247, 0, none⟩) (Kd.S_types HO245.out BK247.out (by decide)) (fun _ hk => hk.2) (.slice Ao14 t240.length co14)) (fun _ hk => hk.2) (.slice Ao16 t243.length co16)) (fun _ hk => hk.1.1)⟩, ⟨by (with_reducible repeat (first | refine blk_drewN ?_ _ | refine blk_drew ?_ | refine blk_alloc ?_ _)); refine blk_put (cs := #[.slice Ao14 t240.length co14, .slice none 0 0]) ?_ 1 _ rfl; (with_reducible repeat (first | refine blk_drewN ?_ _ | refine blk_drew ?_ | refine blk_alloc ?_ _)); refine blk_put (cs := #[.slice none 0 0, .slice none 0 0]) ?_ 0 _ rfl; (with_reducible repeat (first | refine blk_drewN ?_ _ | refine blk_drew ?_ | refine blk_alloc ?_ _)); exact BK247.out⟩, ⟨hbC _⟩⟩
 case rest =>
  clear HC8
  try clear c1
  try clear p2
  try clear c3
  try clear c4
  try clear c4b0
  try clear c4b1
  try clear c5
  try clear c5b0
  try clear c5b1
  try clear c17
  try clear c17b0
  try clear c17b1
  try clear hcz15_0
  try clear hcz15_1
  try clear hfz15_0
  try clear hfz15_1
  obtain ⟨kq, x32_7, rfl, HA, HJ7, HO_248000, HO_248001, BK247, HB⟩ := hcut
  cases kq with
  | zero => exact absurd HA.out (by simp [congoutop_TopGale.j0])
  | succ kj7 =>
   have H := HA.out
   clear HA
   simp only [congoutop_TopGale.j0] at H
   by_cases c19 : x32_7 = true
   ·subst c19
    have H1 : (if t246 = 2 then ((congoutop_blocks.f kj7).bind fun t249 => (some t249)) else (some false)) = some r := by rw [if_pos rfl] at H; exact H
    clear H
    have H := H1
    clear H1
    by_cases c20 : t246 = 2
    rotate_left
    ·rw [if_neg c20] at H
     have c20b0 : (t246 == 2) = false := beq_eq_false_iff_ne.mpr c20
     have c20b1 : (t246 != 2) = true := bne_iff_ne.mpr c20
     exact absurd (H.trans (congrArg some HRT.out)) (by simp)
    rw [if_pos c20] at H
    have c20b0 : (t246 == 2) = true := beq_iff_eq.mpr c20
    have c20b1 : (t246 != 2) = false := bne_eq_false_iff_eq.mpr c20
    clear c20
    replace H := Option.bind_eq_some_iff.mp H
    obtain ⟨t249, A210, H⟩ := H
    replace H : (some t249) = some r := H
    have A21 := Aside0.mk A210
    clear A210
    obtain rfl := Option.some.inj H
    go_wp2_with (first | (go_at_call 7; (with_reducible refine (congoutop_blocks.calls kj7  t249 _ A21.out).mono ?_); rintro e w22 ⟨rfl, hb⟩; replace HO_248000 := ak (Kd.S_below (by (with_reducible repeat (first | apply Kd.S_alloc | apply Kd.S_drewN | apply Kd.S_drew)); exact HO_248000.out) hb); replace HO_248001 := ak (Kd.S_below (by (with_reducible repeat (first | apply Kd.S_alloc | apply Kd.S_drewN | apply Kd.S_drew)); exact HO_248001.out) hb); replace BK247 := kB BK247 hb; replace HB := kH _ hb; (try clear hb); (try clear hb2); (try clear hk); (try clear hi)))
    go_ret
    exact ⟨by first | rfl | (simp [errW_none, errW_some] <;> rfl) | (simp only [← hji3]; first | rfl | (simp [errW_none, errW_some] <;> rfl)) | (simp [*, errW_none, errW_some] <;> rfl), hbC _⟩
   replace c19 := Bool.eq_false_iff.mpr c19
   subst c19
   have H1 : ((squares_Filled.f kj7 t240 t243).bind fun bt250 => (if bt250.2 = 0 then ((slices_Clone_int_int.f l1).bind fun t252 => ((squares_Clues.f kj7 a0 t252).bind fun bt255 => (if bt255.2.2 = 0 then (if (bt255.1.length : Int) = (l1.length : Int) then (congoutop_TopGale.j1 kj7 bt250.1 ((bt255.2.1.length : Int) != a0) bt255.1 bt255.2.1) else (congoutop_TopGale.j1 kj7 bt250.1 true bt255.1 bt255.2.1)) else (congoutop_TopGale.j1 kj7 bt250.1 true bt255.1 bt255.2.1)))) else (some false))) = some r := by rw [if_neg (show ¬ (false = true) by decide)] at H; exact H
   clear H
   have H := H1
   clear H1
   replace H := Option.bind_eq_some_iff.mp H
   obtain ⟨⟨t250, t251⟩, A230, H⟩ := H
   replace H : (if t251 = 0 then ((slices_Clone_int_int.f l1).bind fun t252 => ((squares_Clues.f kj7 a0 t252).bind fun bt255 => (if bt255.2.2 = 0 then (if (bt255.1.length : Int) = (l1.length : Int) then (congoutop_TopGale.j1 kj7 t250 ((bt255.2.1.length : Int) != a0) bt255.1 bt255.2.1) else (congoutop_TopGale.j1 kj7 t250 true bt255.1 bt255.2.1)) else (congoutop_TopGale.j1 kj7 t250 true bt255.1 bt255.2.1)))) else (some false)) = some r := H
   have A23 := Aside0.mk A230
   clear A230
   by_cases c24 : t251 = 0
   rotate_left
   ·rw [if_neg c24] at H
    have c24b0 : (t251 == 0) = false := beq_eq_false_iff_ne.mpr c24
    have c24b1 : (t251 != 0) = true := bne_iff_ne.mpr c24
    exact absurd (H.trans (congrArg some HRT.out)) (by simp)
   rw [if_pos c24] at H
   have c24b0 : (t251 == 0) = true := beq_iff_eq.mpr c24
   have c24b1 : (t251 != 0) = false := bne_eq_false_iff_eq.mpr c24
   clear c24
   replace H := Option.bind_eq_some_iff.mp H
   obtain ⟨t252, A250, H⟩ := H
   replace H : ((squares_Clues.f kj7 a0 t252).bind fun bt255 => (if bt255.2.2 = 0 then (if (bt255.1.length : Int) = (l1.length : Int) then (congoutop_TopGale.j1 kj7 t250 ((bt255.2.1.length : Int) != a0) bt255.1 bt255.2.1) else (congoutop_TopGale.j1 kj7 t250 true bt255.1 bt255.2.1)) else (congoutop_TopGale.j1 kj7 t250 true bt255.1 bt255.2.1))) = some r := H
   have A25 := Aside0.mk A250
   clear A250
   replace H := Option.bind_eq_some_iff.mp H
   obtain ⟨⟨t255, t258, t261⟩, A260, H⟩ := H
   replace H : (if t261 = 0 then (if (t255.length : Int) = (l1.length : Int) then (congoutop_TopGale.j1 kj7 t250 ((t258.length : Int) != a0) t255 t258) else (congoutop_TopGale.j1 kj7 t250 true t255 t258)) else (congoutop_TopGale.j1 kj7 t250 true t255 t258)) = some r := H
   have A26 := Aside0.mk A260
   clear A260
   have HC27 := Aside0.mk H
   clear H
   have hcz28_0 : wc.cell? ⟨gb247, 0, none⟩ = some (.slice Ao14 t240.length co14) := bc BK247 0
   have hcz28_1 : wc.cell? ⟨gb247, 1, none⟩ = some (.slice Ao16 t243.length co16) := bc BK247 1
   have hfz28_0 := fz BK247 0
   have hfz28_1 := fz BK247 1
   go_upto_region 8 with (first | ((with_reducible refine gate_callee (f := 8) rfl ?_); refine gL 40 Tryd.func8 #[.agg #[.slice Ao14 t240.length co14, .slice Ao16 t243.length co16]] ?_; (with_reducible refine (squares_Filled.calls kj7 _ _ t240 _ _ t243 t250 t251 _ ?side1 ?side2 ?side3 ?side4 A23.out).mono ?_); (case side1 => repeat (first | exact (Kd.S_reads' HO_248000.out).2.2 | (with_reducible refine Kd.C_alloc ?_ _) | (with_reducible refine Kd.C_drewN ?_ _) | (with_reducible refine Kd.C_drew ?_))); (case side2 => exact (Kd.S_reads' HO_248000.out).2.1); (case side3 => repeat (first | exact (Kd.S_reads' HO_248001.out).2.2 | (with_reducible refine Kd.C_alloc ?_ _) | (with_reducible refine Kd.C_drewN ?_ _) | (with_reducible refine Kd.C_drew ?_))); (case side4 => exact (Kd.S_reads' HO_248001.out).2.1); rintro e w29 ⟨rfl, hb⟩; refine ⟨_, rfl, ?_⟩; replace HO_248000 := ak (Kd.S_below (by (with_reducible repeat (first | apply Kd.S_alloc | apply Kd.S_drewN | apply Kd.S_drew)); exact HO_248000.out) hb); replace HO_248001 := ak (Kd.S_below (by (with_reducible repeat (first | apply Kd.S_alloc | apply Kd.S_drewN | apply Kd.S_drew)); exact HO_248001.out) hb); replace BK247 := kB BK247 hb; replace HB := kH _ hb; (try clear hb); (try clear hb2); (try clear hk); (try clear hi)) | ((with_reducible refine gate_callee (f := 5) rfl ?_); refine gL 48 Tryd.func5 #[.slice A1 l1.length c1] ?_; (with_reducible refine (slices_Clone_int_int.calls _ _ l1 t252 _ ?side1 ?side2 A25.out).mono ?_); (case side1 => exact kC HR1); (case side2 => exact HC1.out); rintro e w30 ⟨v253, rfl, ho0, hb⟩; refine ⟨_, rfl, ?_⟩; replace HO_248000 := ak (Kd.S_elder' (by (with_reducible repeat (first | apply Kd.S_alloc | apply Kd.S_drewN | apply Kd.S_drew)); exact HO_248000.out) (Kd.R_base ho0) hb); replace HO_248001 := ak (Kd.S_elder' (by (with_reducible repeat (first | apply Kd.S_alloc | apply Kd.S_drewN | apply Kd.S_drew)); exact HO_248001.out) (Kd.R_base ho0) hb); have HO254 := ak (Kd.R_lower ho0 (below_size (hbC _))); replace BK247 := kB BK247 hb; replace HB := kH _ hb; (try clear hb); (try clear hb2); (try clear hk); (try clear hi); (try clear ho0); obtain ⟨Ao31, co31, eo31⟩ := Kd.R_slice HO254.out; subst eo31) | ((with_reducible refine gate_callee (f := 4) rfl ?_); refine gL 49 Tryd.func4 #[.int .i64 a0, .slice Ao31 t252.length co31] ?_; (with_reducible refine (squares_Clues.calls kj7 a0 _ _ t252 t255 t258 t261 _ ?side1 ?side2 A26.out).mono ?_); (case side1 => exact kD (Kd.R_reads' HO254.out).2.2); (case side2 => exact (Kd.R_reads' HO254.out).2.1); rintro e w32 ⟨v256, v259, rfl, ho0, ho1, hb⟩; refine ⟨_, rfl, ?_⟩; have HO257 := ak (Kd.S_lower (Kd.S_new' (Kd.S_new' (Kd.S_new' ho0 (Kd.S_lt (by (with_reducible repeat (first | apply Kd.S_alloc | apply Kd.S_drewN | apply Kd.S_drew)); exact HO_248000.out))) (Kd.S_lt (by (with_reducible repeat (first | apply Kd.S_alloc | apply Kd.S_drewN | apply Kd.S_drew)); exact HO_248001.out))) (Kd.R_lt (rC HO254))) (below_size (hbC _))); have HO260 := ak (Kd.S_lower (Kd.S_new' (Kd.S_new' (Kd.S_new' ho1 (Kd.S_lt (by (with_reducible repeat (first | apply Kd.S_alloc | apply Kd.S_drewN | apply Kd.S_drew)); exact HO_248000.out))) (Kd.S_lt (by (with_reducible repeat (first | apply Kd.S_alloc | apply Kd.S_drewN | apply Kd.S_drew)); exact HO_248001.out))) (Kd.R_lt (rC HO254))) (below_size (hbC _))); replace HO_248000 := ak (Kd.S_mono (Kd.S_told (Kd.S_told (Kd.S_old (by (with_reducible repeat (first | apply Kd.S_alloc | apply Kd.S_drewN | apply Kd.S_drew)); exact HO_248000.out) hb) (Kd.S_base ho0)) (Kd.S_base ho1)) (fun _ h_ => h_.1)); replace HO_248001 := ak (Kd.S_mono (Kd.S_told (Kd.S_told (Kd.S_old (by (with_reducible repeat (first | apply Kd.S_alloc | apply Kd.S_drewN | apply Kd.S_drew)); exact HO_248001.out) hb) (Kd.S_base ho0)) (Kd.S_base ho1)) (fun _ h_ => h_.1)); replace HO254 := kO HO254 hb; replace BK247 := kB BK247 hb; replace HB := kH _ hb; (try clear hb); (try clear hb2); (try clear hk); (try clear hi); (try clear ho0); (try clear ho1)) | ((with_reducible refine gate_dst (N := 8) rfl ?_); (try (refine gate_guard (by rfl) ?_; dsimp only)); refine bE 8 #[.slice none 0 0, .slice none 0 0] 25 ?_; intro gb262 hg w33 hbox hb; replace HO_248000 := ak (Kd.S_below (by (with_reducible repeat (first | apply Kd.S_alloc | apply Kd.S_drewN | apply Kd.S_drew)); exact HO_248000.out) hb); replace HO_248001 := ak (Kd.S_below (by (with_reducible repeat (first | apply Kd.S_alloc | apply Kd.S_drewN | apply Kd.S_drew)); exact HO_248001.out) hb); replace HO254 := kO HO254 hb; replace HO257 := ak (Kd.S_below (by (with_reducible repeat (first | apply Kd.S_alloc | apply Kd.S_drewN | apply Kd.S_drew)); exact HO257.out) hb); replace HO260 := ak (Kd.S_below (by (with_reducible repeat (first | apply Kd.S_alloc | apply Kd.S_drewN | apply Kd.S_drew)); exact HO260.out) hb); have BK262 := ak (hbox); have GW262 := kG w hg; have GE262 := kG w hg; replace HB := kH _ hb; have NB247_262 := kL BK247 hg; have NB262_247 := kR BK247 hg; replace BK247 := kB BK247 hb; clear hb hbox hg; obtain ⟨Ao34, co34, eo34⟩ := Kd.S_slice HO257.out; subst eo34; have hnb35 := NB262_247.out; have hnc35 := NB247_262.out; have hcz36_0 : w33.cell? ⟨gb262, 0, none⟩ = some (.slice none 0 0) := bc BK262 0; have hcz36_1 : w33.cell? ⟨gb262, 1, none⟩ = some (.slice none 0 0) := bc BK262 1; have hfz36_0 := fz BK262 0; have hfz36_1 := fz BK262 1; obtain ⟨Ao37, co37, eo37⟩ := Kd.S_slice HO260.out; subst eo37))
   (try simp only [Act.put, List.setIfInBounds_toArray, List.set_cons_zero, List.set_cons_succ])
   go_cut [68] (fun v68 wc => ∃ (kq : Nat) (x68_26 : Bool), v68 = .bool x68_26 ∧ Aside0 (congoutop_TopGale.j1 kq t250 x68_26 t255 t258 = some r) ∧ Aside0 (kq ≤ kj7) ∧ Aside0 (Kd.S (Kd.slice 3 (Kd.int .i64)) 22 wc w.heap.size (fun k_ => some k_ ≠ ((.slice Ao16 t243.length co16) : Value).ownBlock ∧ some k_ ≠ ((.slice Ao34 t255.length co34) : Value).ownBlock ∧ some k_ ≠ ((.slice Ao37 t258.length co37) : Value).ownBlock) (.slice Ao14 t240.length co14) t240) ∧ Aside0 (Kd.S (Kd.slice 3 (Kd.int .i64)) 22 wc w.heap.size (fun k_ => some k_ ≠ ((.slice Ao14 t240.length co14) : Value).ownBlock ∧ some k_ ≠ ((.slice Ao34 t255.length co34) : Value).ownBlock ∧ some k_ ≠ ((.slice Ao37 t258.length co37) : Value).ownBlock) (.slice Ao16 t243.length co16) t243) ∧ Aside0 (Kd.S (Kd.slice 3 (Kd.int .i64)) 22 wc w.heap.size (fun k_ => some k_ ≠ ((.slice Ao14 t240.length co14) : Value).ownBlock ∧ some k_ ≠ ((.slice Ao16 t243.length co16) : Value).ownBlock ∧ some k_ ≠ ((.slice Ao37 t258.length co37) : Value).ownBlock) (.slice Ao34 t255.length co34) t255) ∧ Aside0 (Kd.S (Kd.slice 3 (Kd.int .i64)) 22 wc w.heap.size (fun k_ => some k_ ≠ ((.slice Ao14 t240.length co14) : Value).ownBlock ∧ some k_ ≠ ((.slice Ao16 t243.length co16) : Value).ownBlock ∧ some k_ ≠ ((.slice Ao34 t255.length co34) : Value).ownBlock) (.slice Ao37 t258.length co37) t258) ∧ Aside0 (wc.heap[gb247]? = some (.cells #[(.slice Ao14 t240.length co14), (.slice Ao16 t243.length co16)] 25 (0, 0))) ∧ Aside0 (wc.heap[gb262]? = some (.cells #[(.slice Ao34 t255.length co34), (.slice Ao37 t258.length co37)] 25 (0, 0))) ∧ Aside0 (Below w.heap.size w wc))
   case first =>
    have H := HC27.out
    clear HC27
    by_cases c38 : t261 = 0
    rotate_left
    ·rw [if_neg c38] at H
     have c38b0 : (t261 == 0) = false := beq_eq_false_iff_ne.mpr c38
     have c38b1 : (t261 != 0) = true := bne_iff_ne.mpr c38
     (first | rw [c38b0] | (simp only [i64_w, i32_w]; rw [c38b0]) | skip)
     have H' := Aside0.mk H
     clear H
     go_wp2
     go_meet
     case rel => exact ⟨_, (true), (by first | rfl | (simp; done) | (simp [*]; done)), H', ⟨by have := HJ7.out; first | omega | exact Nat.le_refl _⟩, ⟨by (with_reducible repeat (first | apply Kd.S_alloc | apply Kd.S_drewN | apply Kd.S_drew)); exact Kd.S_mono (Kd.S_far (p := ⟨gb262, 1, none⟩) (Kd.S_far (p := ⟨gb262, 0, none⟩) (Kd.S_types HO_248000.out BK262.out (by decide)) (fun _ hk => hk.2) (.slice Ao34 t255.length co34)) (fun _ hk => hk.2) (.slice Ao37 t258.length co37)) (fun _ hk => ⟨hk.1.1.1.1, ⟨hk.1.1.2, hk.1.2⟩⟩)⟩, ⟨by (with_reducible repeat (first | apply Kd.S_alloc | apply Kd.S_drewN | apply Kd.S_drew)); exact Kd.S_mono (Kd.S_far (p := ⟨gb262, 1, none⟩) (Kd.S_far (p := ⟨gb262, 0, none⟩) (Kd.S_types HO_248001.out BK262.out (by decide)) (fun _ hk => hk.2) (.slice Ao34 t255.length co34)) (fun _ hk => hk.2) (.slice Ao37 t258.length co37)) (fun _ hk => ⟨hk.1.1.1.1, ⟨hk.1.1.2, hk.1.2⟩⟩)⟩, ⟨by (with_reducible repeat (first | apply Kd.S_alloc | apply Kd.S_drewN | apply Kd.S_drew)); exact Kd.S_mono (Kd.S_far (p := ⟨gb262, 1, none⟩) (Kd.S_far (p := ⟨gb262, 0, none⟩) (Kd.S_types HO257.out BK262.out (by decide)) (fun _ hk => hk.2) (.slice Ao34 t255.length co34)) (fun _ hk => hk.2) (.slice Ao37 t258.length co37)) (fun _ hk => ⟨hk.1.1.1.2, ⟨hk.1.1.2, hk.1.1.1.1⟩⟩)⟩, ⟨by (with_reducible repeat (first | apply Kd.S_alloc | apply Kd.S_drewN | apply Kd.S_drew)); exact Kd.S_mono (Kd.S_far (p := ⟨gb262, 1, none⟩) (Kd.S_far (p := ⟨gb262, 0, none⟩) (Kd.S_types HO260.out BK262.out (by decide)) (fun _ hk => hk.2) (.slice Ao34 t255.length co34)) (fun _ hk => hk.2) (.slice Ao37 t258.length co37)) (fun _ hk => ⟨hk.1.1.1.2, ⟨hk.1.1.2, hk.1.1.1.1⟩⟩)⟩, ⟨bF BK247⟩, ⟨by (with_reducible repeat (first | refine blk_drewN ?_ _ | refine blk_drew ?_ | refine blk_alloc ?_ _)); refine blk_put (cs := #[.slice Ao34 t255.length co34, .slice none 0 0]) ?_ 1 _ rfl; (with_reducible repeat (first | refine blk_drewN ?_ _ | refine blk_drew ?_ | refine blk_alloc ?_ _)); refine blk_put (cs := #[.slice none 0 0, .slice none 0 0]) ?_ 0 _ rfl; (with_reducible repeat (first | refine blk_drewN ?_ _ | refine blk_drew ?_ | refine blk_alloc ?_ _)); exact BK262.out⟩, ⟨hbC _⟩⟩
    rw [if_pos c38] at H
    have c38b0 : (t261 == 0) = true := beq_iff_eq.mpr c38
    have c38b1 : (t261 != 0) = false := bne_eq_false_iff_eq.mpr c38
    clear c38
    (first | rw [c38b0] | (simp only [i64_w, i32_w]; rw [c38b0]) | skip)
    by_cases c39 : (t255.length : Int) = (l1.length : Int)
    rotate_left
    ·rw [if_neg c39] at H
     have c39b0 : ((t255.length : Int) == (l1.length : Int)) = false := beq_eq_false_iff_ne.mpr c39
     have c39b1 : ((t255.length : Int) != (l1.length : Int)) = true := bne_iff_ne.mpr c39
     have c39b2 : (t255.length == l1.length) = false := by first | simpa using c39 | (simp at c39 ⊢; omega)
     have H' := Aside0.mk H
     clear H
     have hnb42 := NB262_247.out
     have hnc42 := NB247_262.out
     have hcz43_0 : w33.cell? ⟨gb262, 0, none⟩ = some (.slice none 0 0) := bc BK262 0
     have hcz43_1 : w33.cell? ⟨gb262, 1, none⟩ = some (.slice none 0 0) := bc BK262 1
     have hfz43_0 := fz BK262 0
     have hfz43_1 := fz BK262 1
     go_wp2
     go_meet
     case rel => exact ⟨_, (true), (by first | rfl | (simp; done) | (simp [*]; done)), H', ⟨by have := HJ7.out; first | omega | exact Nat.le_refl _⟩, ⟨by (with_reducible repeat (first | apply Kd.S_alloc | apply Kd.S_drewN | apply Kd.S_drew)); exact Kd.S_mono (Kd.S_far (p := ⟨gb262, 1, none⟩) (Kd.S_far (p := ⟨gb262, 0, none⟩) (Kd.S_types HO_248000.out BK262.out (by decide)) (fun _ hk => hk.2) (.slice Ao34 t255.length co34)) (fun _ hk => hk.2) (.slice Ao37 t258.length co37)) (fun _ hk => ⟨hk.1.1.1.1, ⟨hk.1.1.2, hk.1.2⟩⟩)⟩, ⟨by (with_reducible repeat (first | apply Kd.S_alloc | apply Kd.S_drewN | apply Kd.S_drew)); exact Kd.S_mono (Kd.S_far (p := ⟨gb262, 1, none⟩) (Kd.S_far (p := ⟨gb262, 0, none⟩) (Kd.S_types HO_248001.out BK262.out (by decide)) (fun _ hk => hk.2) (.slice Ao34 t255.length co34)) (fun _ hk => hk.2) (.slice Ao37 t258.length co37)) (fun _ hk => ⟨hk.1.1.1.1, ⟨hk.1.1.2, hk.1.2⟩⟩)⟩, ⟨by (with_reducible repeat (first | apply Kd.S_alloc | apply Kd.S_drewN | apply Kd.S_drew)); exact Kd.S_mono (Kd.S_far (p := ⟨gb262, 1, none⟩) (Kd.S_far (p := ⟨gb262, 0, none⟩) (Kd.S_types HO257.out BK262.out (by decide)) (fun _ hk => hk.2) (.slice Ao34 t255.length co34)) (fun _ hk => hk.2) (.slice Ao37 t258.length co37)) (fun _ hk => ⟨hk.1.1.1.2, ⟨hk.1.1.2, hk.1.1.1.1⟩⟩)⟩, ⟨by (with_reducible repeat (first | apply Kd.S_alloc | apply Kd.S_drewN | apply Kd.S_drew)); exact Kd.S_mono (Kd.S_far (p := ⟨gb262, 1, none⟩) (Kd.S_far (p := ⟨gb262, 0, none⟩) (Kd.S_types HO260.out BK262.out (by decide)) (fun _ hk => hk.2) (.slice Ao34 t255.length co34)) (fun _ hk => hk.2) (.slice Ao37 t258.length co37)) (fun _ hk => ⟨hk.1.1.1.2, ⟨hk.1.1.2, hk.1.1.1.1⟩⟩)⟩, ⟨bF BK247⟩, ⟨by (with_reducible repeat (first | refine blk_drewN ?_ _ | refine blk_drew ?_ | refine blk_alloc ?_ _)); refine blk_put (cs := #[.slice Ao34 t255.length co34, .slice none 0 0]) ?_ 1 _ rfl; (with_reducible repeat (first | refine blk_drewN ?_ _ | refine blk_drew ?_ | refine blk_alloc ?_ _)); refine blk_put (cs := #[.slice none 0 0, .slice none 0 0]) ?_ 0 _ rfl; (with_reducible repeat (first | refine blk_drewN ?_ _ | refine blk_drew ?_ | refine blk_alloc ?_ _)); exact BK262.out⟩, ⟨hbC _⟩⟩
    rw [if_pos c39] at H
    have c39b0 : ((t255.length : Int) == (l1.length : Int)) = true := beq_iff_eq.mpr c39
    have c39b1 : ((t255.length : Int) != (l1.length : Int)) = false := bne_eq_false_iff_eq.mpr c39
    have c39b2 : (t255.length == l1.length) = true := by first | simpa using c39 | (simp at c39 ⊢; omega)
    clear c39
    have H' := Aside0.mk H
    clear H
    have hnb40 := NB262_247.out
    have hnc40 := NB247_262.out
    have hcz41_0 : w33.cell? ⟨gb262, 0, none⟩ = some (.slice none 0 0) := bc BK262 0
    have hcz41_1 : w33.cell? ⟨gb262, 1, none⟩ = some (.slice none 0 0) := bc BK262 1
    have hfz41_0 := fz BK262 0
    have hfz41_1 := fz BK262 1
    go_wp2
    go_meet
    case rel => exact ⟨_, (((t258.length : Int) != a0)), (by first | rfl | (simp; done) | (simp [*]; done)), H', ⟨by have := HJ7.out; first | omega | exact Nat.le_refl _⟩, ⟨by (with_reducible repeat (first | apply Kd.S_alloc | apply Kd.S_drewN | apply Kd.S_drew)); exact Kd.S_mono (Kd.S_far (p := ⟨gb262, 1, none⟩) (Kd.S_far (p := ⟨gb262, 0, none⟩) (Kd.S_types HO_248000.out BK262.out (by decide)) (fun _ hk => hk.2) (.slice Ao34 t255.length co34)) (fun _ hk => hk.2) (.slice Ao37 t258.length co37)) (fun _ hk => ⟨hk.1.1.1.1, ⟨hk.1.1.2, hk.1.2⟩⟩)⟩, ⟨by (with_reducible repeat (first | apply Kd.S_alloc | apply Kd.S_drewN | apply Kd.S_drew)); exact Kd.S_mono (Kd.S_far (p := ⟨gb262, 1, none⟩) (Kd.S_far (p := ⟨gb262, 0, none⟩) (Kd.S_types HO_248001.out BK262.out (by decide)) (fun _ hk => hk.2) (.slice Ao34 t255.length co34)) (fun _ hk => hk.2) (.slice Ao37 t258.length co37)) (fun _ hk => ⟨hk.1.1.1.1, ⟨hk.1.1.2, hk.1.2⟩⟩)⟩, ⟨by (with_reducible repeat (first | apply Kd.S_alloc | apply Kd.S_drewN | apply Kd.S_drew)); exact Kd.S_mono (Kd.S_far (p := ⟨gb262, 1, none⟩) (Kd.S_far (p := ⟨gb262, 0, none⟩) (Kd.S_types HO257.out BK262.out (by decide)) (fun _ hk => hk.2) (.slice Ao34 t255.length co34)) (fun _ hk => hk.2) (.slice Ao37 t258.length co37)) (fun _ hk => ⟨hk.1.1.1.2, ⟨hk.1.1.2, hk.1.1.1.1⟩⟩)⟩, ⟨by (with_reducible repeat (first | apply Kd.S_alloc | apply Kd.S_drewN | apply Kd.S_drew)); exact Kd.S_mono (Kd.S_far (p := ⟨gb262, 1, none⟩) (Kd.S_far (p := ⟨gb262, 0, none⟩) (Kd.S_types HO260.out BK262.out (by decide)) (fun _ hk => hk.2) (.slice Ao34 t255.length co34)) (fun _ hk => hk.2) (.slice Ao37 t258.length co37)) (fun _ hk => ⟨hk.1.1.1.2, ⟨hk.1.1.2, hk.1.1.1.1⟩⟩)⟩, ⟨bF BK247⟩, ⟨by (with_reducible repeat (first | refine blk_drewN ?_ _ | refine blk_drew ?_ | refine blk_alloc ?_ _)); refine blk_put (cs := #[.slice Ao34 t255.length co34, .slice none 0 0]) ?_ 1 _ rfl; (with_reducible repeat (first | refine blk_drewN ?_ _ | refine blk_drew ?_ | refine blk_alloc ?_ _)); refine blk_put (cs := #[.slice none 0 0, .slice none 0 0]) ?_ 0 _ rfl; (with_reducible repeat (first | refine blk_drewN ?_ _ | refine blk_drew ?_ | refine blk_alloc ?_ _)); exact BK262.out⟩, ⟨hbC _⟩⟩
   case rest =>
    clear HC27
    try clear c1
    try clear c2
    try clear p2
    try clear c3
    try clear c4
    try clear c4b0
    try clear c4b1
    try clear c5
    try clear c5b0
    try clear c5b1
    try clear c8
    try clear c17
    try clear c17b0
    try clear c17b1
    try clear c19
    try clear c20
    try clear c20b0
    try clear c20b1
    try clear c24
    try clear c24b0
    try clear c24b1
    try clear c35
    try clear c38
    try clear c38b0
    try clear c38b1
    try clear c39
    try clear c39b0
    try clear c39b1
    try clear c39b2
    try clear c40
    try clear c42
    try clear hcz15_0
    try clear hcz15_1
    try clear hcz28_0
    try clear hcz28_1
    try clear hcz36_0
    try clear hcz36_1
    try clear hcz41_0
    try clear hcz41_1
    try clear hcz43_0
    try clear hcz43_1
    try clear hfz15_0
    try clear hfz15_1
    try clear hfz28_0
    try clear hfz28_1
    try clear hfz36_0
    try clear hfz36_1
    try clear hfz41_0
    try clear hfz41_1
    try clear hfz43_0
    try clear hfz43_1
    try clear p2
    obtain ⟨kq, x68_26, rfl, HA, HJ26, HO_248000, HO_248001, HO_263000, HO_263001, BK247, BK262, HB⟩ := hcut
    cases kq with
    | zero => exact absurd HA.out (by simp [congoutop_TopGale.j1])
    | succ kj26 =>
     have H := HA.out
     clear HA
     simp only [congoutop_TopGale.j1] at H
     by_cases c44 : x68_26 = true
     ·subst c44
      have H1 : (some false) = some r := by rw [if_pos rfl] at H; exact H
      clear H
      have H := H1
      clear H1
      exact absurd (H.trans (congrArg some HRT.out)) (by simp)
     replace c44 := Bool.eq_false_iff.mpr c44
     subst c44
     have H1 : ((congoutop_sums.f kj26 t255).bind fun t263 => ((congoutop_sums.f kj26 t258).bind fun t266 => (if t250 < 1 then (congoutop_TopGale.j2 kj26 t250 t263 t266 true) else (congoutop_TopGale.j2 kj26 t250 t263 t266 (decide (t250 > 12)))))) = some r := by rw [if_neg (show ¬ (false = true) by decide)] at H; exact H
     clear H
     have H := H1
     clear H1
     replace H := Option.bind_eq_some_iff.mp H
     obtain ⟨t263, A450, H⟩ := H
     replace H : ((congoutop_sums.f kj26 t258).bind fun t266 => (if t250 < 1 then (congoutop_TopGale.j2 kj26 t250 t263 t266 true) else (congoutop_TopGale.j2 kj26 t250 t263 t266 (decide (t250 > 12))))) = some r := H
     have A45 := Aside0.mk A450
     clear A450
     replace H := Option.bind_eq_some_iff.mp H
     obtain ⟨t266, A460, H⟩ := H
     replace H : (if t250 < 1 then (congoutop_TopGale.j2 kj26 t250 t263 t266 true) else (congoutop_TopGale.j2 kj26 t250 t263 t266 (decide (t250 > 12)))) = some r := H
     have A46 := Aside0.mk A460
     clear A460
     have HC47 := Aside0.mk H
     clear H
     try go_wp2
     replace HO_248000 := ak (Kd.S_drew HO_248000.out)
     replace HO_248001 := ak (Kd.S_drew HO_248001.out)
     replace HO_263000 := ak (Kd.S_drew HO_263000.out)
     replace HO_263001 := ak (Kd.S_drew HO_263001.out)
     replace BK247 := kd BK247
     replace BK262 := kd BK262
     replace HB := ak (below_drew1 HB.out)
     refine sS (n := 8) (S := fun w' => w'.cell? ⟨gb262, 0, none⟩ = some (.slice Ao34 t255.length co34) ∧ w'.cell? ⟨gb262, 1, none⟩ = some (.slice Ao37 t258.length co37)) (ds := []) ⟨bc BK262 0, bc BK262 1⟩ (fun hHeld => ?_); refine with_tabW congoutop_TopGale.tab10 congoutop_TopGale.bits10 (fun HT_ HW_ => ?_)
     generalize wc.drew = w48 at HO_248000 HO_248001 HO_263000 HO_263001 BK247 BK262 HB hHeld ⊢
     refine pS 0 69 8 1 ?_
     refine pS 3 72 8 9 ?_
     refine tS 1 70 8 11 ?_
     refine tS 4 73 8 27 ?_
     refine one_ (i := 2) (N := some 71) (ba 8 31) rfl rfl (one_of HT_.out (by kernel_rfl)) (by decide) (fun K hK => ?_)
     refine gC Tryd.func9 #[.slice Ao34 t255.length co34] ?_
     with_reducible refine (congoutop_sums.calls kj26 _ _ t255 t263 _ ?side1 ?side2 A45.out).mono ?_
     (case side1 => repeat (first | exact (Kd.S_reads' HO_263000.out).2.2 | (with_reducible refine Kd.C_alloc ?_ _) | (with_reducible refine Kd.C_drewN ?_ _) | (with_reducible refine Kd.C_drew ?_)))
     (case side2 => exact (Kd.S_reads' HO_263000.out).2.1)
     rintro e w49 ⟨v264, rfl, ho0, hb⟩
     refine ⟨_, rfl, ?_⟩
     replace HO_248000 := ak (Kd.S_elder' (by (with_reducible repeat (first | apply Kd.S_alloc | apply Kd.S_drewN | apply Kd.S_drew)); exact HO_248000.out) (Kd.R_base ho0) hb)
     replace HO_248001 := ak (Kd.S_elder' (by (with_reducible repeat (first | apply Kd.S_alloc | apply Kd.S_drewN | apply Kd.S_drew)); exact HO_248001.out) (Kd.R_base ho0) hb)
     replace HO_263000 := ak (Kd.S_elder' (by (with_reducible repeat (first | apply Kd.S_alloc | apply Kd.S_drewN | apply Kd.S_drew)); exact HO_263000.out) (Kd.R_base ho0) hb)
     replace HO_263001 := ak (Kd.S_elder' (by (with_reducible repeat (first | apply Kd.S_alloc | apply Kd.S_drewN | apply Kd.S_drew)); exact HO_263001.out) (Kd.R_base ho0) hb)
     have HO265 := ak (Kd.R_lower ho0 (below_size (hbC _)))
     replace BK247 := kB BK247 hb
     replace BK262 := kB BK262 hb
     replace HB := kH _ hb
     (try clear hb)
     (try clear hb2)
     (try clear hk)
     (try clear hi)
     (try clear ho0)
     refine hK.out _ _ ⟨bc BK262 0, bc BK262 1⟩ (fun hHeld => ?_)
     clear hK K
     refine norm_ (a' := ?_) ?_ ?_
     rotate_left
     ·show Act.put _ (some 71) _ = _
      simp only [Act.put, List.setIfInBounds_toArray, List.set_cons_zero, List.set_cons_succ, i64_w, i32_w]
      rfl
     refine one_ (i := 5) (N := some 74) (ba 8 63) rfl rfl (one_of HT_.out (by kernel_rfl)) (by decide) (fun K hK => ?_)
     refine gC Tryd.func9 #[.slice Ao37 t258.length co37] ?_
     with_reducible refine (congoutop_sums.calls kj26 _ _ t258 t266 _ ?side1 ?side2 A46.out).mono ?_
     (case side1 => repeat (first | exact (Kd.S_reads' HO_263001.out).2.2 | (with_reducible refine Kd.C_alloc ?_ _) | (with_reducible refine Kd.C_drewN ?_ _) | (with_reducible refine Kd.C_drew ?_)))
     (case side2 => exact (Kd.S_reads' HO_263001.out).2.1)
     rintro e w50 ⟨v267, rfl, ho0, hb⟩
     refine ⟨_, rfl, ?_⟩
     replace HO_248000 := ak (Kd.S_elder' (by (with_reducible repeat (first | apply Kd.S_alloc | apply Kd.S_drewN | apply Kd.S_drew)); exact HO_248000.out) (Kd.R_base ho0) hb)
     replace HO_248001 := ak (Kd.S_elder' (by (with_reducible repeat (first | apply Kd.S_alloc | apply Kd.S_drewN | apply Kd.S_drew)); exact HO_248001.out) (Kd.R_base ho0) hb)
     replace HO_263000 := ak (Kd.S_elder' (by (with_reducible repeat (first | apply Kd.S_alloc | apply Kd.S_drewN | apply Kd.S_drew)); exact HO_263000.out) (Kd.R_base ho0) hb)
     replace HO_263001 := ak (Kd.S_elder' (by (with_reducible repeat (first | apply Kd.S_alloc | apply Kd.S_drewN | apply Kd.S_drew)); exact HO_263001.out) (Kd.R_base ho0) hb)
     have HO268 := ak (Kd.R_lower (Kd.R_new' ho0 (Kd.R_lt (rC HO265))) (below_size (hbC _)))
     replace HO265 := ak (Kd.R_elder' (rC HO265) (Kd.R_base ho0) hb)
     replace BK247 := kB BK247 hb
     replace BK262 := kB BK262 hb
     replace HB := kH _ hb
     (try clear hb)
     (try clear hb2)
     (try clear hk)
     (try clear hi)
     (try clear ho0)
     refine hK.out _ _ ⟨bc BK262 0, bc BK262 1⟩ (fun hHeld => ?_)
     clear hK K
     refine norm_ (a' := ?_) ?_ ?_
     rotate_left
     ·show Act.put _ (some 74) _ = _
      simp only [Act.put, List.setIfInBounds_toArray, List.set_cons_zero, List.set_cons_succ, i64_w, i32_w]
      rfl
     refine pS 6 9 8 127 ?_
     refine pS 7 10 8 255 ?_
     refine done_ (done_of HT_.out (by kernel_rfl)) ?_
     go_upto_region 11 with (fail)
     go_cut [80] (fun v80 wc => ∃ (kq : Nat) (x80_46 : Bool), v80 = .bool x80_46 ∧ Aside0 (congoutop_TopGale.j2 kq t250 t263 t266 x80_46 = some r) ∧ Aside0 (kq ≤ kj26) ∧ Aside0 (Kd.R (Kd.int .i64) 3 wc w.heap.size (fun k_ => nb k_ v267) v264 t263) ∧ Aside0 (Kd.R (Kd.int .i64) 3 wc w.heap.size (fun k_ => nb k_ v264) v267 t266) ∧ Aside0 (Kd.S (Kd.slice 3 (Kd.int .i64)) 22 wc w.heap.size (fun k_ => nb k_ v264 ∧ nb k_ v267 ∧ some k_ ≠ ((.slice Ao16 t243.length co16) : Value).ownBlock ∧ some k_ ≠ ((.slice Ao34 t255.length co34) : Value).ownBlock ∧ some k_ ≠ ((.slice Ao37 t258.length co37) : Value).ownBlock) (.slice Ao14 t240.length co14) t240) ∧ Aside0 (Kd.S (Kd.slice 3 (Kd.int .i64)) 22 wc w.heap.size (fun k_ => nb k_ v264 ∧ nb k_ v267 ∧ some k_ ≠ ((.slice Ao14 t240.length co14) : Value).ownBlock ∧ some k_ ≠ ((.slice Ao34 t255.length co34) : Value).ownBlock ∧ some k_ ≠ ((.slice Ao37 t258.length co37) : Value).ownBlock) (.slice Ao16 t243.length co16) t243) ∧ Aside0 (Kd.S (Kd.slice 3 (Kd.int .i64)) 22 wc w.heap.size (fun k_ => nb k_ v264 ∧ nb k_ v267 ∧ some k_ ≠ ((.slice Ao14 t240.length co14) : Value).ownBlock ∧ some k_ ≠ ((.slice Ao16 t243.length co16) : Value).ownBlock ∧ some k_ ≠ ((.slice Ao37 t258.length co37) : Value).ownBlock) (.slice Ao34 t255.length co34) t255) ∧ Aside0 (Kd.S (Kd.slice 3 (Kd.int .i64)) 22 wc w.heap.size (fun k_ => nb k_ v264 ∧ nb k_ v267 ∧ some k_ ≠ ((.slice Ao14 t240.length co14) : Value).ownBlock ∧ some k_ ≠ ((.slice Ao16 t243.length co16) : Value).ownBlock ∧ some k_ ≠ ((.slice Ao34 t255.length co34) : Value).ownBlock) (.slice Ao37 t258.length co37) t258) ∧ Aside0 (wc.heap[gb247]? = some (.cells #[(.slice Ao14 t240.length co14), (.slice Ao16 t243.length co16)] 25 (0, 0))) ∧ Aside0 (wc.heap[gb262]? = some (.cells #[(.slice Ao34 t255.length co34), (.slice Ao37 t258.length co37)] 25 (0, 0))) ∧ Aside0 (Below w.heap.size w wc))
     case first =>
      have H := HC47.out
      clear HC47
      by_cases c51 : t250 < 1
      ·rw [if_pos c51] at H
       have c51b0 : decide (t250 < 1) = true := decide_eq_true c51
       clear c51
       (first | rw [c51b0] | (simp only [i64_w, i32_w]; rw [c51b0]) | skip)
       have H' := Aside0.mk H
       clear H
       go_wp2
       go_meet
       case rel => exact ⟨_, (true), (by first | rfl | (simp; done) | (simp [*]; done)), H', ⟨by have := HJ7.out; have := HJ26.out; first | omega | exact Nat.le_refl _⟩, ⟨rD (Kd.R_mono HO265.out (fun _ hk => hk.2))⟩, ⟨rD (Kd.R_mono HO268.out (fun _ hk => hk.2))⟩, ⟨by (with_reducible repeat (first | apply Kd.S_alloc | apply Kd.S_drewN | apply Kd.S_drew)); exact Kd.S_mono HO_248000.out (fun _ hk => ⟨hk.1.2, ⟨hk.2, ⟨hk.1.1.1, ⟨hk.1.1.2.1, hk.1.1.2.2⟩⟩⟩⟩)⟩, ⟨by (with_reducible repeat (first | apply Kd.S_alloc | apply Kd.S_drewN | apply Kd.S_drew)); exact Kd.S_mono HO_248001.out (fun _ hk => ⟨hk.1.2, ⟨hk.2, ⟨hk.1.1.1, ⟨hk.1.1.2.1, hk.1.1.2.2⟩⟩⟩⟩)⟩, ⟨by (with_reducible repeat (first | apply Kd.S_alloc | apply Kd.S_drewN | apply Kd.S_drew)); exact Kd.S_mono HO_263000.out (fun _ hk => ⟨hk.1.2, ⟨hk.2, ⟨hk.1.1.1, ⟨hk.1.1.2.1, hk.1.1.2.2⟩⟩⟩⟩)⟩, ⟨by (with_reducible repeat (first | apply Kd.S_alloc | apply Kd.S_drewN | apply Kd.S_drew)); exact Kd.S_mono HO_263001.out (fun _ hk => ⟨hk.1.2, ⟨hk.2, ⟨hk.1.1.1, ⟨hk.1.1.2.1, hk.1.1.2.2⟩⟩⟩⟩)⟩, ⟨bkC BK247⟩, ⟨bkC BK262⟩, ⟨hbC _⟩⟩
      rw [if_neg c51] at H
      have c51b0 : decide (t250 < 1) = false := decide_eq_false c51
      clear c51
      (first | rw [c51b0] | (simp only [i64_w, i32_w]; rw [c51b0]) | skip)
      have H' := Aside0.mk H
      clear H
      go_wp2
      go_meet
      case rel => exact ⟨_, (decide (t250 > 12)), (by first | rfl | (simp; done) | (simp [*]; done)), H', ⟨by have := HJ7.out; have := HJ26.out; first | omega | exact Nat.le_refl _⟩, ⟨rD (Kd.R_mono HO265.out (fun _ hk => hk.2))⟩, ⟨rD (Kd.R_mono HO268.out (fun _ hk => hk.2))⟩, ⟨by (with_reducible repeat (first | apply Kd.S_alloc | apply Kd.S_drewN | apply Kd.S_drew)); exact Kd.S_mono HO_248000.out (fun _ hk => ⟨hk.1.2, ⟨hk.2, ⟨hk.1.1.1, ⟨hk.1.1.2.1, hk.1.1.2.2⟩⟩⟩⟩)⟩, ⟨by (with_reducible repeat (first | apply Kd.S_alloc | apply Kd.S_drewN | apply Kd.S_drew)); exact Kd.S_mono HO_248001.out (fun _ hk => ⟨hk.1.2, ⟨hk.2, ⟨hk.1.1.1, ⟨hk.1.1.2.1, hk.1.1.2.2⟩⟩⟩⟩)⟩, ⟨by (with_reducible repeat (first | apply Kd.S_alloc | apply Kd.S_drewN | apply Kd.S_drew)); exact Kd.S_mono HO_263000.out (fun _ hk => ⟨hk.1.2, ⟨hk.2, ⟨hk.1.1.1, ⟨hk.1.1.2.1, hk.1.1.2.2⟩⟩⟩⟩)⟩, ⟨by (with_reducible repeat (first | apply Kd.S_alloc | apply Kd.S_drewN | apply Kd.S_drew)); exact Kd.S_mono HO_263001.out (fun _ hk => ⟨hk.1.2, ⟨hk.2, ⟨hk.1.1.1, ⟨hk.1.1.2.1, hk.1.1.2.2⟩⟩⟩⟩)⟩, ⟨bkC BK247⟩, ⟨bkC BK262⟩, ⟨hbC _⟩⟩
     case rest =>
      clear HC47
      try clear c1
      try clear c2
      try clear p2
      try clear c3
      try clear c4
      try clear c4b0
      try clear c4b1
      try clear c5
      try clear c5b0
      try clear c5b1
      try clear c8
      try clear c9
      try clear c17
      try clear c17b0
      try clear c17b1
      try clear c19
      try clear c20
      try clear c20b0
      try clear c20b1
      try clear c24
      try clear c24b0
      try clear c24b1
      try clear c35
      try clear c38
      try clear c38b0
      try clear c38b1
      try clear c39
      try clear c39b0
      try clear c39b1
      try clear c39b2
      try clear c40
      try clear c42
      try clear c44
      try clear c51
      try clear c51b0
      try clear hcz15_0
      try clear hcz15_1
      try clear hcz28_0
      try clear hcz28_1
      try clear hcz36_0
      try clear hcz36_1
      try clear hcz41_0
      try clear hcz41_1
      try clear hcz43_0
      try clear hcz43_1
      try clear hfz15_0
      try clear hfz15_1
      try clear hfz28_0
      try clear hfz28_1
      try clear hfz36_0
      try clear hfz36_1
      try clear hfz41_0
      try clear hfz41_1
      try clear hfz43_0
      try clear hfz43_1
      try clear p2
      obtain ⟨kq, x80_46, rfl, HA, HJ46, HO_9, HO_10, HO_248000, HO_248001, HO_263000, HO_263001, BK247, BK262, HB⟩ := hcut
      cases kq with
      | zero => exact absurd HA.out (by simp [congoutop_TopGale.j2])
      | succ kj46 =>
       have H := HA.out
       clear HA
       simp only [congoutop_TopGale.j2] at H
       by_cases c52 : x80_46 = true
       ·subst c52
        have H1 : (if t250 ≥ 0 then ((congoutop_blocks.f kj46).bind fun t269 => (some t269)) else (some false)) = some r := by rw [if_pos rfl] at H; exact H
        clear H
        have H := H1
        clear H1
        by_cases c53 : t250 ≥ 0
        rotate_left
        ·rw [if_neg c53] at H
         have c53b0 : decide (0 ≤ t250) = false := decide_eq_false c53
         clear c53
         exact absurd (H.trans (congrArg some HRT.out)) (by simp)
        rw [if_pos c53] at H
        have c53b0 : decide (0 ≤ t250) = true := decide_eq_true c53
        clear c53
        replace H := Option.bind_eq_some_iff.mp H
        obtain ⟨t269, A540, H⟩ := H
        replace H : (some t269) = some r := H
        have A54 := Aside0.mk A540
        clear A540
        obtain rfl := Option.some.inj H
        go_wp2_with (first | (go_at_call 7; (with_reducible refine (congoutop_blocks.calls kj46  t269 _ A54.out).mono ?_); rintro e w55 ⟨rfl, hb⟩; replace HO_9 := kO HO_9 hb; replace HO_10 := kO HO_10 hb; replace HO_248000 := ak (Kd.S_below (by (with_reducible repeat (first | apply Kd.S_alloc | apply Kd.S_drewN | apply Kd.S_drew)); exact HO_248000.out) hb); replace HO_248001 := ak (Kd.S_below (by (with_reducible repeat (first | apply Kd.S_alloc | apply Kd.S_drewN | apply Kd.S_drew)); exact HO_248001.out) hb); replace HO_263000 := ak (Kd.S_below (by (with_reducible repeat (first | apply Kd.S_alloc | apply Kd.S_drewN | apply Kd.S_drew)); exact HO_263000.out) hb); replace HO_263001 := ak (Kd.S_below (by (with_reducible repeat (first | apply Kd.S_alloc | apply Kd.S_drewN | apply Kd.S_drew)); exact HO_263001.out) hb); replace BK247 := kB BK247 hb; replace BK262 := kB BK262 hb; replace HB := kH _ hb; (try clear hb); (try clear hb2); (try clear hk); (try clear hi)))
        go_ret
        exact ⟨by first | rfl | (simp [errW_none, errW_some] <;> rfl) | (simp only [← hji3]; first | rfl | (simp [errW_none, errW_some] <;> rfl)) | (simp [*, errW_none, errW_some] <;> rfl), hbC _⟩
       replace c52 := Bool.eq_false_iff.mpr c52
       subst c52
       have H1 : ((slices_Clone_int_int.f t263).bind fun t270 => (congoutop_TopGale.l0 kj46 t266 t270)) = some r := by rw [if_neg (show ¬ (false = true) by decide)] at H; exact H
       clear H
       have H := H1
       clear H1
       replace H := Option.bind_eq_some_iff.mp H
       obtain ⟨t270, A560, H⟩ := H
       replace H : (congoutop_TopGale.l0 kj46 t266 t270) = some r := H
       have A56 := Aside0.mk A560
       clear A560
       have HC57 := Aside0.mk H
       clear H
       obtain ⟨Ao58, co58, eo58⟩ := Kd.R_slice HO_9.out
       subst eo58
       go_upto_block 0 with (first | ((with_reducible refine gate_callee (f := 5) rfl ?_); refine gL 87 Tryd.func5 #[.slice Ao58 t263.length co58] ?_; (with_reducible refine (slices_Clone_int_int.calls _ _ t263 t270 _ ?side1 ?side2 A56.out).mono ?_); (case side1 => exact kD (Kd.R_reads' HO_9.out).2.2); (case side2 => exact (Kd.R_reads' HO_9.out).2.1); rintro e w59 ⟨v271, rfl, ho0, hb⟩; refine ⟨_, rfl, ?_⟩; replace HO_248000 := ak (Kd.S_elder' (by (with_reducible repeat (first | apply Kd.S_alloc | apply Kd.S_drewN | apply Kd.S_drew)); exact HO_248000.out) (Kd.R_base ho0) hb); replace HO_248001 := ak (Kd.S_elder' (by (with_reducible repeat (first | apply Kd.S_alloc | apply Kd.S_drewN | apply Kd.S_drew)); exact HO_248001.out) (Kd.R_base ho0) hb); replace HO_263000 := ak (Kd.S_elder' (by (with_reducible repeat (first | apply Kd.S_alloc | apply Kd.S_drewN | apply Kd.S_drew)); exact HO_263000.out) (Kd.R_base ho0) hb); replace HO_263001 := ak (Kd.S_elder' (by (with_reducible repeat (first | apply Kd.S_alloc | apply Kd.S_drewN | apply Kd.S_drew)); exact HO_263001.out) (Kd.R_base ho0) hb); have HO272 := ak (Kd.R_lower (Kd.R_new' (Kd.R_new' ho0 (Kd.R_lt (rC HO_9))) (Kd.R_lt (rC HO_10))) (below_size (hbC _))); replace HO_9 := ak (Kd.R_elder' (rC HO_9) (Kd.R_base ho0) hb); replace HO_10 := ak (Kd.R_elder' (rC HO_10) (Kd.R_base ho0) hb); replace BK247 := kB BK247 hb; replace BK262 := kB BK262 hb; replace HB := kH _ hb; (try clear hb); (try clear hb2); (try clear hk); (try clear hi); (try clear ho0)))
       (try simp only [Act.put, List.setIfInBounds_toArray, List.set_cons_zero, List.set_cons_succ])
       go_cut [11] (fun v11 wc => ∃ (kq : Nat) (x11_56 : List Int), Aside0 (congoutop_TopGale.j4 kq t266 x11_56 = some r) ∧ Aside0 (kq ≤ kj46) ∧ Aside0 (Kd.R (Kd.int .i64) 3 wc w.heap.size (fun k_ => nb k_ v11) v267 t266) ∧ Aside0 (Kd.R (Kd.int .i64) 3 wc w.heap.size (fun k_ => nb k_ v267) v11 x11_56) ∧ Aside0 (Kd.S (Kd.slice 3 (Kd.int .i64)) 22 wc w.heap.size (fun k_ => nb k_ v267 ∧ nb k_ v11 ∧ some k_ ≠ ((.slice Ao16 t243.length co16) : Value).ownBlock ∧ some k_ ≠ ((.slice Ao34 t255.length co34) : Value).ownBlock ∧ some k_ ≠ ((.slice Ao37 t258.length co37) : Value).ownBlock) (.slice Ao14 t240.length co14) t240) ∧ Aside0 (Kd.S (Kd.slice 3 (Kd.int .i64)) 22 wc w.heap.size (fun k_ => nb k_ v267 ∧ nb k_ v11 ∧ some k_ ≠ ((.slice Ao14 t240.length co14) : Value).ownBlock ∧ some k_ ≠ ((.slice Ao34 t255.length co34) : Value).ownBlock ∧ some k_ ≠ ((.slice Ao37 t258.length co37) : Value).ownBlock) (.slice Ao16 t243.length co16) t243) ∧ Aside0 (Kd.S (Kd.slice 3 (Kd.int .i64)) 22 wc w.heap.size (fun k_ => nb k_ v267 ∧ nb k_ v11 ∧ some k_ ≠ ((.slice Ao14 t240.length co14) : Value).ownBlock ∧ some k_ ≠ ((.slice Ao16 t243.length co16) : Value).ownBlock ∧ some k_ ≠ ((.slice Ao37 t258.length co37) : Value).ownBlock) (.slice Ao34 t255.length co34) t255) ∧ Aside0 (Kd.S (Kd.slice 3 (Kd.int .i64)) 22 wc w.heap.size (fun k_ => nb k_ v267 ∧ nb k_ v11 ∧ some k_ ≠ ((.slice Ao14 t240.length co14) : Value).ownBlock ∧ some k_ ≠ ((.slice Ao16 t243.length co16) : Value).ownBlock ∧ some k_ ≠ ((.slice Ao34 t255.length co34) : Value).ownBlock) (.slice Ao37 t258.length co37) t258) ∧ Aside0 (wc.heap[gb247]? = some (.cells #[(.slice Ao14 t240.length co14), (.slice Ao16 t243.length co16)] 25 (0, 0))) ∧ Aside0 (wc.heap[gb262]? = some (.cells #[(.slice Ao34 t255.length co34), (.slice Ao37 t258.length co37)] 25 (0, 0))) ∧ Aside0 (Below w.heap.size w wc))
       case first =>
        have H := HC57.out
        clear HC57
        have H' := Aside0.mk H
        clear H
        go_wp2
        go_loopg [11] kj46 (fun kq v11 w' => ∃ (x11_4 : List Int), Aside0 (congoutop_TopGale.l0 kq t266 x11_4 = some r) ∧ Aside0 (kq ≤ kj46) ∧ Aside0 (Kd.R (Kd.int .i64) 3 w' w.heap.size (fun k_ => nb k_ v11) v267 t266) ∧ Aside0 (Kd.R (Kd.int .i64) 3 w' w.heap.size (fun k_ => nb k_ v267) v11 x11_4) ∧ Aside0 (Kd.S (Kd.slice 3 (Kd.int .i64)) 22 w' w.heap.size (fun k_ => nb k_ v267 ∧ nb k_ v11 ∧ some k_ ≠ ((.slice Ao16 t243.length co16) : Value).ownBlock ∧ some k_ ≠ ((.slice Ao34 t255.length co34) : Value).ownBlock ∧ some k_ ≠ ((.slice Ao37 t258.length co37) : Value).ownBlock) (.slice Ao14 t240.length co14) t240) ∧ Aside0 (Kd.S (Kd.slice 3 (Kd.int .i64)) 22 w' w.heap.size (fun k_ => nb k_ v267 ∧ nb k_ v11 ∧ some k_ ≠ ((.slice Ao14 t240.length co14) : Value).ownBlock ∧ some k_ ≠ ((.slice Ao34 t255.length co34) : Value).ownBlock ∧ some k_ ≠ ((.slice Ao37 t258.length co37) : Value).ownBlock) (.slice Ao16 t243.length co16) t243) ∧ Aside0 (Kd.S (Kd.slice 3 (Kd.int .i64)) 22 w' w.heap.size (fun k_ => nb k_ v267 ∧ nb k_ v11 ∧ some k_ ≠ ((.slice Ao14 t240.length co14) : Value).ownBlock ∧ some k_ ≠ ((.slice Ao16 t243.length co16) : Value).ownBlock ∧ some k_ ≠ ((.slice Ao37 t258.length co37) : Value).ownBlock) (.slice Ao34 t255.length co34) t255) ∧ Aside0 (Kd.S (Kd.slice 3 (Kd.int .i64)) 22 w' w.heap.size (fun k_ => nb k_ v267 ∧ nb k_ v11 ∧ some k_ ≠ ((.slice Ao14 t240.length co14) : Value).ownBlock ∧ some k_ ≠ ((.slice Ao16 t243.length co16) : Value).ownBlock ∧ some k_ ≠ ((.slice Ao34 t255.length co34) : Value).ownBlock) (.slice Ao37 t258.length co37) t258) ∧ Aside0 (w'.heap[gb247]? = some (.cells #[(.slice Ao14 t240.length co14), (.slice Ao16 t243.length co16)] 25 (0, 0))) ∧ Aside0 (w'.heap[gb262]? = some (.cells #[(.slice Ao34 t255.length co34), (.slice Ao37 t258.length co37)] 25 (0, 0))) ∧ Aside0 (Below w.heap.size w w'))
        case atStart => exact ⟨(t270), H', ⟨Nat.le_refl _⟩, ⟨rD (Kd.R_mono HO_10.out (fun _ hk => hk.2))⟩, ⟨rD (Kd.R_mono HO272.out (fun _ hk => hk.2))⟩, ⟨by (with_reducible repeat (first | apply Kd.S_alloc | apply Kd.S_drewN | apply Kd.S_drew)); exact Kd.S_mono HO_248000.out (fun _ hk => ⟨hk.1.2.1, ⟨hk.2, ⟨hk.1.2.2.1, ⟨hk.1.2.2.2.1, hk.1.2.2.2.2⟩⟩⟩⟩)⟩, ⟨by (with_reducible repeat (first | apply Kd.S_alloc | apply Kd.S_drewN | apply Kd.S_drew)); exact Kd.S_mono HO_248001.out (fun _ hk => ⟨hk.1.2.1, ⟨hk.2, ⟨hk.1.2.2.1, ⟨hk.1.2.2.2.1, hk.1.2.2.2.2⟩⟩⟩⟩)⟩, ⟨by (with_reducible repeat (first | apply Kd.S_alloc | apply Kd.S_drewN | apply Kd.S_drew)); exact Kd.S_mono HO_263000.out (fun _ hk => ⟨hk.1.2.1, ⟨hk.2, ⟨hk.1.2.2.1, ⟨hk.1.2.2.2.1, hk.1.2.2.2.2⟩⟩⟩⟩)⟩, ⟨by (with_reducible repeat (first | apply Kd.S_alloc | apply Kd.S_drewN | apply Kd.S_drew)); exact Kd.S_mono HO_263001.out (fun _ hk => ⟨hk.1.2.1, ⟨hk.2, ⟨hk.1.2.2.1, ⟨hk.1.2.2.2.1, hk.1.2.2.2.2⟩⟩⟩⟩)⟩, ⟨bkC BK247⟩, ⟨bkC BK262⟩, ⟨hbC _⟩⟩
        case round =>
         clear H'
         try clear c1
         try clear c2
         try clear p2
         try clear c3
         try clear c4
         try clear c4b0
         try clear c4b1
         try clear c5
         try clear c5b0
         try clear c5b1
         try clear c8
         try clear c9
         try clear c17
         try clear c17b0
         try clear c17b1
         try clear c19
         try clear c20
         try clear c20b0
         try clear c20b1
         try clear c24
         try clear c24b0
         try clear c24b1
         try clear c35
         try clear c38
         try clear c38b0
         try clear c38b1
         try clear c39
         try clear c39b0
         try clear c39b1
         try clear c39b2
         try clear c40
         try clear c42
         try clear c44
         try clear c51
         try clear c51b0
         try clear c52
         try clear c53
         try clear c53b0
         try clear hcz15_0
         try clear hcz15_1
         try clear hcz28_0
         try clear hcz28_1
         try clear hcz36_0
         try clear hcz36_1
         try clear hcz41_0
         try clear hcz41_1
         try clear hcz43_0
         try clear hcz43_1
         try clear hfz15_0
         try clear hfz15_1
         try clear hfz28_0
         try clear hfz28_1
         try clear hfz36_0
         try clear hfz36_1
         try clear hfz41_0
         try clear hfz41_1
         try clear hfz43_0
         try clear hfz43_1
         try clear p2
         obtain ⟨x11_4, HA, HK4, HO_10, HO_11, HO_248000, HO_248001, HO_263000, HO_263001, BK247, BK262, HB⟩ := hrel
         cases gk with
         | zero => exact absurd HA.out (by simp [congoutop_TopGale.l0])
         | succ k4 =>
          have H := HA.out
          clear HA
          simp only [congoutop_TopGale.l0] at H
          by_cases c60 : (x11_4.length : Int) > 0
          rotate_left
          ·rw [if_neg c60] at H
           have c60b0 : decide (0 < (x11_4.length : Int)) = false := decide_eq_false c60
           have c60b1 : decide (0 < x11_4.length) = false := decide_eq_false (by omega)
           clear c60
           (first | rw [c60b0] | (simp only [i64_w, i32_w]; rw [c60b0]) | skip)
           have H' := Aside0.mk H
           clear H
           obtain ⟨Ao69, co69, eo69⟩ := Kd.R_slice HO_11.out
           subst eo69
           go_wp2
           go_meet
           case rel => exact ⟨_, (x11_4), H', ⟨by have := HJ7.out; have := HJ26.out; have := HJ46.out; have := HK4.out; first | omega | exact Nat.le_refl _⟩, ⟨rC HO_10⟩, ⟨rC HO_11⟩, ⟨by (with_reducible repeat (first | apply Kd.S_alloc | apply Kd.S_drewN | apply Kd.S_drew)); exact HO_248000.out⟩, ⟨by (with_reducible repeat (first | apply Kd.S_alloc | apply Kd.S_drewN | apply Kd.S_drew)); exact HO_248001.out⟩, ⟨by (with_reducible repeat (first | apply Kd.S_alloc | apply Kd.S_drewN | apply Kd.S_drew)); exact HO_263000.out⟩, ⟨by (with_reducible repeat (first | apply Kd.S_alloc | apply Kd.S_drewN | apply Kd.S_drew)); exact HO_263001.out⟩, ⟨bkC BK247⟩, ⟨bkC BK262⟩, ⟨hbC _⟩⟩
          rw [if_pos c60] at H
          have c60b0 : decide (0 < (x11_4.length : Int)) = true := decide_eq_true c60
          have c60b1 : decide (0 < x11_4.length) = true := decide_eq_true (by omega)
          clear c60
          (first | rw [c60b0] | (simp only [i64_w, i32_w]; rw [c60b0]) | skip)
          obtain ⟨ji61, hji61⟩ : ∃ j_ : Int, (wrap64 ((x11_4.length : Int) - 1)) = j_ := ⟨_, rfl⟩
          replace H : (if 0 ≤ (ji61) then (if (ji61) < (x11_4.length : Int) then (if (rd x11_4 (ji61)) = 0 then (if (ji61) ≤ (x11_4.length : Int) then (congoutop_TopGale.l0 k4 t266 (x11_4.take ((ji61) : Int).toNat)) else (none)) else (congoutop_TopGale.j4 k4 t266 x11_4)) else (none)) else (none)) = some r := by first | (rw [hji61] at H; exact H) | (simp only [hji61] at H ⊢; exact H)
          have hji61w : (IntKind.i64.wrap ((x11_4.length : Int) - 1)) = ji61 := (i64_w _).trans hji61
          by_cases c62 : 0 ≤ (ji61)
          rotate_left
          ·rw [if_neg c62] at H
           exact absurd H (by simp)
          rw [if_pos c62] at H
          have c62b0 : decide (0 ≤ (ji61)) = true := decide_eq_true c62
          clear c62
          by_cases c63 : (ji61) < (x11_4.length : Int)
          rotate_left
          ·rw [if_neg c63] at H
           exact absurd H (by simp)
          rw [if_pos c63] at H
          have c63b0 : decide ((ji61) < (x11_4.length : Int)) = true := decide_eq_true c63
          clear c63
          by_cases c64 : (rd x11_4 (ji61)) = 0
          rotate_left
          ·rw [if_neg c64] at H
           have c64b0 : ((rd x11_4 (ji61)) == 0) = false := beq_eq_false_iff_ne.mpr c64
           have c64b1 : ((rd x11_4 (ji61)) != 0) = true := bne_iff_ne.mpr c64
           have H' := Aside0.mk H
           clear H
           obtain ⟨Ao68, co68, eo68⟩ := Kd.R_slice HO_11.out
           subst eo68
           have p273 : 0 ≤ ((ji61) : Int) := dA
           have q273 : (ji61) < (x11_4.length : Int) := dA
           obtain ⟨ad273, e273, hx273_0⟩ := Kd.at_int (Kd.R_reads' HO_11.out).2.2 (ji61) p273 q273
           cases e273
           replace p273 := eq_true p273
           replace q273 := eq_true q273
           go_wp2
           go_meet
           case rel => exact ⟨_, (x11_4), H', ⟨by have := HJ7.out; have := HJ26.out; have := HJ46.out; have := HK4.out; first | omega | exact Nat.le_refl _⟩, ⟨rC HO_10⟩, ⟨rC HO_11⟩, ⟨by (with_reducible repeat (first | apply Kd.S_alloc | apply Kd.S_drewN | apply Kd.S_drew)); exact HO_248000.out⟩, ⟨by (with_reducible repeat (first | apply Kd.S_alloc | apply Kd.S_drewN | apply Kd.S_drew)); exact HO_248001.out⟩, ⟨by (with_reducible repeat (first | apply Kd.S_alloc | apply Kd.S_drewN | apply Kd.S_drew)); exact HO_263000.out⟩, ⟨by (with_reducible repeat (first | apply Kd.S_alloc | apply Kd.S_drewN | apply Kd.S_drew)); exact HO_263001.out⟩, ⟨bkC BK247⟩, ⟨bkC BK262⟩, ⟨hbC _⟩⟩
          rw [if_pos c64] at H
          have c64b0 : ((rd x11_4 (ji61)) == 0) = true := beq_iff_eq.mpr c64
          have c64b1 : ((rd x11_4 (ji61)) != 0) = false := bne_eq_false_iff_eq.mpr c64
          clear c64
          by_cases c65 : (ji61) ≤ (x11_4.length : Int)
          rotate_left
          ·rw [if_neg c65] at H
           exact absurd H (by simp)
          rw [if_pos c65] at H
          have c65b0 := eq_true c65
          have c65b1 : decide ((ji61) ≤ (x11_4.length : Int)) = true := decide_eq_true c65
          clear c65
          obtain ⟨y274, hy274⟩ : ∃ y_ : List Int, y_ = (x11_4.take ((ji61) : Int).toNat) := ⟨_, rfl⟩
          replace H : (congoutop_TopGale.l0 k4 t266 y274) = some r := by first | (rw [hy274]; with_reducible exact H) | (have H2_ := (Option.bind_some _ _).symm.trans H; rw [hy274]; with_reducible exact H2_) | (have H2_ := (Option.bind_some _ _).symm.trans H; with_reducible exact H2_) | with_reducible exact H | (rw [hy274]; exact H) | exact H
          have Ny274 := Aside0.mk hy274
          clear hy274
          have H' := Aside0.mk H
          clear H
          obtain ⟨Ao66, co66, eo66⟩ := Kd.R_slice HO_11.out
          subst eo66
          have p273 : 0 ≤ ((ji61) : Int) := dA
          have q273 : (ji61) < (x11_4.length : Int) := dA
          obtain ⟨ad273, e273, hx273_0⟩ := Kd.at_int (Kd.R_reads' HO_11.out).2.2 (ji61) p273 q273
          cases e273
          replace p273 := eq_true p273
          replace q273 := eq_true q273
          have q67 : ((ji61) : Int) ≤ ((x11_4.length : Int) : Int) := dA
          obtain ⟨i067, hi067, _, hsz67, _⟩ := info_parts info3
          have hcut67 := cut_to (P := Tryd.prog) 22 3 .i64 Tryd.underlying22 hi067 (some ad273) x11_4.length co66 (ji61) (dA) q67 (Kd.R_reads' HO_11.out).2.1
          have hr67 := Kd.R_take (m := ((ji61) : Int).toNat) HO_11.out (by omega)
          have hy67 : y274.length = ((ji61) : Int).toNat := (by rw [Ny274.out, List.length_take]; omega)
          rw [← Ny274.out] at hr67
          rw [← hy67] at hr67 hcut67
          clear hy67 hi067 hsz67 HO_11
          have HO276 := Aside0.mk hr67
          clear hr67
          replace q67 := eq_true q67
          go_wp2
          go_roundg k4
          case measure => have := HJ7.out; have := HJ26.out; have := HJ46.out; have := HK4.out; omega
          case rel => exact ⟨(y274), H', ⟨by have := HJ7.out; have := HJ26.out; have := HJ46.out; have := HK4.out; omega⟩, ⟨rC HO_10⟩, ⟨rC HO276⟩, ⟨by (with_reducible repeat (first | apply Kd.S_alloc | apply Kd.S_drewN | apply Kd.S_drew)); exact HO_248000.out⟩, ⟨by (with_reducible repeat (first | apply Kd.S_alloc | apply Kd.S_drewN | apply Kd.S_drew)); exact HO_248001.out⟩, ⟨by (with_reducible repeat (first | apply Kd.S_alloc | apply Kd.S_drewN | apply Kd.S_drew)); exact HO_263000.out⟩, ⟨by (with_reducible repeat (first | apply Kd.S_alloc | apply Kd.S_drewN | apply Kd.S_drew)); exact HO_263001.out⟩, ⟨bkC BK247⟩, ⟨bkC BK262⟩, ⟨hbC _⟩⟩
       case rest =>
        clear HC57
        try clear c1
        try clear c2
        try clear p2
        try clear q2
        try clear hx2
        try clear c3
        try clear c4
        try clear c4b0
        try clear c4b1
        try clear c5
        try clear c5b0
        try clear c5b1
        try clear c6
        try clear p6
        try clear q6
        try clear c8
        try clear c9
        try clear c17
        try clear c17b0
        try clear c17b1
        try clear c19
        try clear c20
        try clear c20b0
        try clear c20b1
        try clear c24
        try clear c24b0
        try clear c24b1
        try clear p27
        try clear q27
        try clear hx27
        try clear c35
        try clear c38
        try clear c38b0
        try clear c38b1
        try clear c39
        try clear c39b0
        try clear c39b1
        try clear c39b2
        try clear c40
        try clear c42
        try clear c44
        try clear c51
        try clear c51b0
        try clear c52
        try clear c53
        try clear c53b0
        try clear c60
        try clear c60b0
        try clear c60b1
        try clear c62
        try clear c62b0
        try clear c63
        try clear c63b0
        try clear c64
        try clear c64b0
        try clear c64b1
        try clear p64
        try clear c65
        try clear c65b0
        try clear c65b1
        try clear q67
        try clear hcz15_0
        try clear hcz15_1
        try clear hcz28_0
        try clear hcz28_1
        try clear hcz36_0
        try clear hcz36_1
        try clear hcz41_0
        try clear hcz41_1
        try clear hcz43_0
        try clear hcz43_1
        try clear hfz15_0
        try clear hfz15_1
        try clear hfz28_0
        try clear hfz28_1
        try clear hfz36_0
        try clear hfz36_1
        try clear hfz41_0
        try clear hfz41_1
        try clear hfz43_0
        try clear hfz43_1
        try clear hx273_0
        try clear p2
        try clear p273
        try clear q273
        try clear q67
        obtain ⟨kq, x11_56, HA, HJ56, HO_10, HO_11, HO_248000, HO_248001, HO_263000, HO_263001, BK247, BK262, HB⟩ := hcut
        cases kq with
        | zero => exact absurd HA.out (by simp [congoutop_TopGale.j4])
        | succ kj56 =>
         have H := HA.out
         clear HA
         simp only [congoutop_TopGale.j4] at H
         replace H := Option.bind_eq_some_iff.mp H
         obtain ⟨⟨t277, t280⟩, A700, H⟩ := H
         replace H : (if t280 = 0 then (congoutop_TopGale.j5 kj56 t266 t277 (decide ((t277.length : Int) > 6))) else (congoutop_TopGale.j5 kj56 t266 t277 true)) = some r := H
         have A70 := Aside0.mk A700
         clear A700
         have HC71 := Aside0.mk H
         clear H
         obtain ⟨Ao72, co72, eo72⟩ := Kd.R_slice HO_11.out
         subst eo72
         go_upto_region 17 with (first | ((with_reducible refine gate_callee (f := 10) rfl ?_); refine gL 107 Tryd.func10 #[.slice Ao72 x11_56.length co72] ?_; (with_reducible refine (shares_Turn.calls kj56 (fun k_ => some k_ = (.slice Ao72 x11_56.length co72 : Value).ownBlock) _ _ x11_56 t277 t280 _ ?side1 A70.out).mono ?_); (case side1 => exact Kd.R_V (Kd.R_tight rfl (Kd.R_types (Kd.R_types (Kd.R_apart' (Kd.R_apart' (Kd.R_apart' (Kd.R_apart' (HO_11.out) (Kd.S_typed HO_248000.out) (by decide)) (Kd.S_typed HO_248001.out) (by decide)) (Kd.S_typed HO_263000.out) (by decide)) (Kd.S_typed HO_263001.out) (by decide)) BK247.out (by decide)) BK262.out (by decide)))); rintro e w73 ⟨v278, rfl, ho0, hb⟩; refine ⟨_, rfl, ?_⟩; replace HO_248000 := ak (Kd.S_elder' (by (with_reducible repeat (first | apply Kd.S_alloc | apply Kd.S_drewN | apply Kd.S_drew)); exact HO_248000.out) (Kd.R_base ho0) hb); replace HO_248001 := ak (Kd.S_elder' (by (with_reducible repeat (first | apply Kd.S_alloc | apply Kd.S_drewN | apply Kd.S_drew)); exact HO_248001.out) (Kd.R_base ho0) hb); replace HO_263000 := ak (Kd.S_elder' (by (with_reducible repeat (first | apply Kd.S_alloc | apply Kd.S_drewN | apply Kd.S_drew)); exact HO_263000.out) (Kd.R_base ho0) hb); replace HO_263001 := ak (Kd.S_elder' (by (with_reducible repeat (first | apply Kd.S_alloc | apply Kd.S_drewN | apply Kd.S_drew)); exact HO_263001.out) (Kd.R_base ho0) hb); have HO279 := ak (Kd.R_lower (Kd.R_new' (Kd.R_new' (Kd.R_mono (ok' := fun k_ => True) ho0 (fun _ hk_ => trivial)) (Kd.R_lt (rC HO_10))) (Kd.R_lt (rC HO_11))) (below_size (hbC _))); replace HO_10 := ak (Kd.R_elder' (rC HO_10) (Kd.R_base ho0) hb); replace HO_11 := ak (Kd.R_elder' (rC HO_11) (Kd.R_base ho0) hb); replace BK247 := kB BK247 hb; replace BK262 := kB BK262 hb; replace HB := kH _ hb; (try clear hb); (try clear hb2); (try clear hk); (try clear hi); (try clear ho0)))
         (try simp only [Act.put, List.setIfInBounds_toArray, List.set_cons_zero, List.set_cons_succ])
         go_cut [116] (fun v116 wc => ∃ (kq : Nat) (x116_70 : Bool), v116 = .bool x116_70 ∧ Aside0 (congoutop_TopGale.j5 kq t266 t277 x116_70 = some r) ∧ Aside0 (kq ≤ kj56) ∧ Aside0 (Kd.R (Kd.int .i64) 3 wc w.heap.size (fun k_ => nb k_ v278) v267 t266) ∧ Aside0 (Kd.R (Kd.int .i64) 3 wc w.heap.size (fun k_ => nb k_ v267) v278 t277) ∧ Aside0 (Kd.S (Kd.slice 3 (Kd.int .i64)) 22 wc w.heap.size (fun k_ => nb k_ v267 ∧ nb k_ v278 ∧ some k_ ≠ ((.slice Ao16 t243.length co16) : Value).ownBlock ∧ some k_ ≠ ((.slice Ao34 t255.length co34) : Value).ownBlock ∧ some k_ ≠ ((.slice Ao37 t258.length co37) : Value).ownBlock) (.slice Ao14 t240.length co14) t240) ∧ Aside0 (Kd.S (Kd.slice 3 (Kd.int .i64)) 22 wc w.heap.size (fun k_ => nb k_ v267 ∧ nb k_ v278 ∧ some k_ ≠ ((.slice Ao14 t240.length co14) : Value).ownBlock ∧ some k_ ≠ ((.slice Ao34 t255.length co34) : Value).ownBlock ∧ some k_ ≠ ((.slice Ao37 t258.length co37) : Value).ownBlock) (.slice Ao16 t243.length co16) t243) ∧ Aside0 (Kd.S (Kd.slice 3 (Kd.int .i64)) 22 wc w.heap.size (fun k_ => nb k_ v267 ∧ nb k_ v278 ∧ some k_ ≠ ((.slice Ao14 t240.length co14) : Value).ownBlock ∧ some k_ ≠ ((.slice Ao16 t243.length co16) : Value).ownBlock ∧ some k_ ≠ ((.slice Ao37 t258.length co37) : Value).ownBlock) (.slice Ao34 t255.length co34) t255) ∧ Aside0 (Kd.S (Kd.slice 3 (Kd.int .i64)) 22 wc w.heap.size (fun k_ => nb k_ v267 ∧ nb k_ v278 ∧ some k_ ≠ ((.slice Ao14 t240.length co14) : Value).ownBlock ∧ some k_ ≠ ((.slice Ao16 t243.length co16) : Value).ownBlock ∧ some k_ ≠ ((.slice Ao34 t255.length co34) : Value).ownBlock) (.slice Ao37 t258.length co37) t258) ∧ Aside0 (wc.heap[gb247]? = some (.cells #[(.slice Ao14 t240.length co14), (.slice Ao16 t243.length co16)] 25 (0, 0))) ∧ Aside0 (wc.heap[gb262]? = some (.cells #[(.slice Ao34 t255.length co34), (.slice Ao37 t258.length co37)] 25 (0, 0))) ∧ Aside0 (Below w.heap.size w wc))
         case first =>
          have H := HC71.out
          clear HC71
          by_cases c74 : t280 = 0
          rotate_left
          ·rw [if_neg c74] at H
           have c74b0 : (t280 == 0) = false := beq_eq_false_iff_ne.mpr c74
           have c74b1 : (t280 != 0) = true := bne_iff_ne.mpr c74
           (first | rw [c74b0] | (simp only [i64_w, i32_w]; rw [c74b0]) | skip)
           have H' := Aside0.mk H
           clear H
           go_wp2
           go_meet
           case rel => exact ⟨_, (true), (by first | rfl | (simp; done) | (simp [*]; done)), H', ⟨by have := HJ7.out; have := HJ26.out; have := HJ46.out; have := HJ56.out; first | omega | exact Nat.le_refl _⟩, ⟨rD (Kd.R_mono HO_10.out (fun _ hk => hk.2))⟩, ⟨rD (Kd.R_mono HO279.out (fun _ hk => hk.1.2))⟩, ⟨by (with_reducible repeat (first | apply Kd.S_alloc | apply Kd.S_drewN | apply Kd.S_drew)); exact Kd.S_mono HO_248000.out (fun _ hk => ⟨hk.1.1, ⟨hk.2, ⟨hk.1.2.2.1, ⟨hk.1.2.2.2.1, hk.1.2.2.2.2⟩⟩⟩⟩)⟩, ⟨by (with_reducible repeat (first | apply Kd.S_alloc | apply Kd.S_drewN | apply Kd.S_drew)); exact Kd.S_mono HO_248001.out (fun _ hk => ⟨hk.1.1, ⟨hk.2, ⟨hk.1.2.2.1, ⟨hk.1.2.2.2.1, hk.1.2.2.2.2⟩⟩⟩⟩)⟩, ⟨by (with_reducible repeat (first | apply Kd.S_alloc | apply Kd.S_drewN | apply Kd.S_drew)); exact Kd.S_mono HO_263000.out (fun _ hk => ⟨hk.1.1, ⟨hk.2, ⟨hk.1.2.2.1, ⟨hk.1.2.2.2.1, hk.1.2.2.2.2⟩⟩⟩⟩)⟩, ⟨by (with_reducible repeat (first | apply Kd.S_alloc | apply Kd.S_drewN | apply Kd.S_drew)); exact Kd.S_mono HO_263001.out (fun _ hk => ⟨hk.1.1, ⟨hk.2, ⟨hk.1.2.2.1, ⟨hk.1.2.2.2.1, hk.1.2.2.2.2⟩⟩⟩⟩)⟩, ⟨bkC BK247⟩, ⟨bkC BK262⟩, ⟨hbC _⟩⟩
          rw [if_pos c74] at H
          have c74b0 : (t280 == 0) = true := beq_iff_eq.mpr c74
          have c74b1 : (t280 != 0) = false := bne_eq_false_iff_eq.mpr c74
          clear c74
          (first | rw [c74b0] | (simp only [i64_w, i32_w]; rw [c74b0]) | skip)
          have H' := Aside0.mk H
          clear H
          obtain ⟨Ao75, co75, eo75⟩ := Kd.R_slice HO279.out
          subst eo75
          go_wp2
          go_meet
          case rel => exact ⟨_, (decide ((t277.length : Int) > 6)), (by first | rfl | (simp; done) | (simp [*]; done)), H', ⟨by have := HJ7.out; have := HJ26.out; have := HJ46.out; have := HJ56.out; first | omega | exact Nat.le_refl _⟩, ⟨rD (Kd.R_mono HO_10.out (fun _ hk => hk.2))⟩, ⟨rD (Kd.R_mono HO279.out (fun _ hk => hk.1.2))⟩, ⟨by (with_reducible repeat (first | apply Kd.S_alloc | apply Kd.S_drewN | apply Kd.S_drew)); exact Kd.S_mono HO_248000.out (fun _ hk => ⟨hk.1.1, ⟨hk.2, ⟨hk.1.2.2.1, ⟨hk.1.2.2.2.1, hk.1.2.2.2.2⟩⟩⟩⟩)⟩, ⟨by (with_reducible repeat (first | apply Kd.S_alloc | apply Kd.S_drewN | apply Kd.S_drew)); exact Kd.S_mono HO_248001.out (fun _ hk => ⟨hk.1.1, ⟨hk.2, ⟨hk.1.2.2.1, ⟨hk.1.2.2.2.1, hk.1.2.2.2.2⟩⟩⟩⟩)⟩, ⟨by (with_reducible repeat (first | apply Kd.S_alloc | apply Kd.S_drewN | apply Kd.S_drew)); exact Kd.S_mono HO_263000.out (fun _ hk => ⟨hk.1.1, ⟨hk.2, ⟨hk.1.2.2.1, ⟨hk.1.2.2.2.1, hk.1.2.2.2.2⟩⟩⟩⟩)⟩, ⟨by (with_reducible repeat (first | apply Kd.S_alloc | apply Kd.S_drewN | apply Kd.S_drew)); exact Kd.S_mono HO_263001.out (fun _ hk => ⟨hk.1.1, ⟨hk.2, ⟨hk.1.2.2.1, ⟨hk.1.2.2.2.1, hk.1.2.2.2.2⟩⟩⟩⟩)⟩, ⟨bkC BK247⟩, ⟨bkC BK262⟩, ⟨hbC _⟩⟩
         case rest =>
          clear HC71
          try clear c1
          try clear c2
          try clear p2
          try clear q2
          try clear hx2
          try clear c3
          try clear c4
          try clear c4b0
          try clear c4b1
          try clear c5
          try clear c5b0
          try clear c5b1
          try clear c6
          try clear p6
          try clear q6
          try clear c7
          try clear c8
          try clear c9
          try clear c10
          try clear c17
          try clear c17b0
          try clear c17b1
          try clear c19
          try clear c20
          try clear c20b0
          try clear c20b1
          try clear c24
          try clear c24b0
          try clear c24b1
          try clear p27
          try clear q27
          try clear hx27
          try clear c35
          try clear c38
          try clear c38b0
          try clear c38b1
          try clear c39
          try clear c39b0
          try clear c39b1
          try clear c39b2
          try clear c40
          try clear c42
          try clear c44
          try clear c51
          try clear c51b0
          try clear c52
          try clear c53
          try clear c53b0
          try clear c60
          try clear c60b0
          try clear c60b1
          try clear c62
          try clear c62b0
          try clear c63
          try clear c63b0
          try clear c64
          try clear c64b0
          try clear c64b1
          try clear p64
          try clear c65
          try clear c65b0
          try clear c65b1
          try clear q67
          try clear c74
          try clear c74b0
          try clear c74b1
          try clear hcz15_0
          try clear hcz15_1
          try clear hcz28_0
          try clear hcz28_1
          try clear hcz36_0
          try clear hcz36_1
          try clear hcz41_0
          try clear hcz41_1
          try clear hcz43_0
          try clear hcz43_1
          try clear hfz15_0
          try clear hfz15_1
          try clear hfz28_0
          try clear hfz28_1
          try clear hfz36_0
          try clear hfz36_1
          try clear hfz41_0
          try clear hfz41_1
          try clear hfz43_0
          try clear hfz43_1
          try clear hx273_0
          try clear p2
          try clear p27
          try clear p273
          try clear p6
          try clear p64
          try clear q2
          try clear q27
          try clear q273
          try clear q6
          try clear q67
          obtain ⟨kq, x116_70, rfl, HA, HJ70, HO_10, HO_12, HO_248000, HO_248001, HO_263000, HO_263001, BK247, BK262, HB⟩ := hcut
          cases kq with
          | zero => exact absurd HA.out (by simp [congoutop_TopGale.j5])
          | succ kj70 =>
           have H := HA.out
           clear HA
           simp only [congoutop_TopGale.j5] at H
           by_cases c76 : x116_70 = true
           ·subst c76
            have H1 : (some false) = some r := by rw [if_pos rfl] at H; exact H
            clear H
            have H := H1
            clear H1
            exact absurd (H.trans (congrArg some HRT.out)) (by simp)
           replace c76 := Bool.eq_false_iff.mpr c76
           subst c76
           have H1 : (congoutop_TopGale.l1 kj70 t266 t277) = some r := by rw [if_neg (show ¬ (false = true) by decide)] at H; exact H
           clear H
           have H := H1
           clear H1
           have H' := Aside0.mk H
           clear H
           go_wp2
           go_loopg [12] kj70 (fun kq v12 w' => ∃ (x12_6 : List Int), Aside0 (congoutop_TopGale.l1 kq t266 x12_6 = some r) ∧ Aside0 (kq ≤ kj70) ∧ Aside0 (Kd.R (Kd.int .i64) 3 w' w.heap.size (fun k_ => nb k_ v12) v267 t266) ∧ Aside0 (Kd.R (Kd.int .i64) 3 w' w.heap.size (fun k_ => nb k_ v267) v12 x12_6) ∧ Aside0 (Kd.S (Kd.slice 3 (Kd.int .i64)) 22 w' w.heap.size (fun k_ => nb k_ v267 ∧ nb k_ v12 ∧ some k_ ≠ ((.slice Ao16 t243.length co16) : Value).ownBlock ∧ some k_ ≠ ((.slice Ao34 t255.length co34) : Value).ownBlock ∧ some k_ ≠ ((.slice Ao37 t258.length co37) : Value).ownBlock) (.slice Ao14 t240.length co14) t240) ∧ Aside0 (Kd.S (Kd.slice 3 (Kd.int .i64)) 22 w' w.heap.size (fun k_ => nb k_ v267 ∧ nb k_ v12 ∧ some k_ ≠ ((.slice Ao14 t240.length co14) : Value).ownBlock ∧ some k_ ≠ ((.slice Ao34 t255.length co34) : Value).ownBlock ∧ some k_ ≠ ((.slice Ao37 t258.length co37) : Value).ownBlock) (.slice Ao16 t243.length co16) t243) ∧ Aside0 (Kd.S (Kd.slice 3 (Kd.int .i64)) 22 w' w.heap.size (fun k_ => nb k_ v267 ∧ nb k_ v12 ∧ some k_ ≠ ((.slice Ao14 t240.length co14) : Value).ownBlock ∧ some k_ ≠ ((.slice Ao16 t243.length co16) : Value).ownBlock ∧ some k_ ≠ ((.slice Ao37 t258.length co37) : Value).ownBlock) (.slice Ao34 t255.length co34) t255) ∧ Aside0 (Kd.S (Kd.slice 3 (Kd.int .i64)) 22 w' w.heap.size (fun k_ => nb k_ v267 ∧ nb k_ v12 ∧ some k_ ≠ ((.slice Ao14 t240.length co14) : Value).ownBlock ∧ some k_ ≠ ((.slice Ao16 t243.length co16) : Value).ownBlock ∧ some k_ ≠ ((.slice Ao34 t255.length co34) : Value).ownBlock) (.slice Ao37 t258.length co37) t258) ∧ Aside0 (w'.heap[gb247]? = some (.cells #[(.slice Ao14 t240.length co14), (.slice Ao16 t243.length co16)] 25 (0, 0))) ∧ Aside0 (w'.heap[gb262]? = some (.cells #[(.slice Ao34 t255.length co34), (.slice Ao37 t258.length co37)] 25 (0, 0))) ∧ Aside0 (Below w.heap.size w w'))
           case atStart => exact ⟨(t277), H', ⟨Nat.le_refl _⟩, ⟨rC HO_10⟩, ⟨rC HO_12⟩, ⟨by (with_reducible repeat (first | apply Kd.S_alloc | apply Kd.S_drewN | apply Kd.S_drew)); exact HO_248000.out⟩, ⟨by (with_reducible repeat (first | apply Kd.S_alloc | apply Kd.S_drewN | apply Kd.S_drew)); exact HO_248001.out⟩, ⟨by (with_reducible repeat (first | apply Kd.S_alloc | apply Kd.S_drewN | apply Kd.S_drew)); exact HO_263000.out⟩, ⟨by (with_reducible repeat (first | apply Kd.S_alloc | apply Kd.S_drewN | apply Kd.S_drew)); exact HO_263001.out⟩, ⟨bkC BK247⟩, ⟨bkC BK262⟩, ⟨hbC _⟩⟩
           case round =>
            clear H'
            try clear c1
            try clear c2
            try clear p2
            try clear q2
            try clear hx2
            try clear c3
            try clear c4
            try clear c4b0
            try clear c4b1
            try clear c5
            try clear c5b0
            try clear c5b1
            try clear c6
            try clear p6
            try clear q6
            try clear c7
            try clear c8
            try clear c9
            try clear c10
            try clear c17
            try clear c17b0
            try clear c17b1
            try clear c19
            try clear c20
            try clear c20b0
            try clear c20b1
            try clear c24
            try clear c24b0
            try clear c24b1
            try clear p27
            try clear q27
            try clear hx27
            try clear c35
            try clear c38
            try clear c38b0
            try clear c38b1
            try clear c39
            try clear c39b0
            try clear c39b1
            try clear c39b2
            try clear c40
            try clear c42
            try clear c44
            try clear c51
            try clear c51b0
            try clear c52
            try clear c53
            try clear c53b0
            try clear c60
            try clear c60b0
            try clear c60b1
            try clear c62
            try clear c62b0
            try clear c63
            try clear c63b0
            try clear c64
            try clear c64b0
            try clear c64b1
            try clear p64
            try clear c65
            try clear c65b0
            try clear c65b1
            try clear q67
            try clear c74
            try clear c74b0
            try clear c74b1
            try clear c76
            try clear hcz15_0
            try clear hcz15_1
            try clear hcz28_0
            try clear hcz28_1
            try clear hcz36_0
            try clear hcz36_1
            try clear hcz41_0
            try clear hcz41_1
            try clear hcz43_0
            try clear hcz43_1
            try clear hfz15_0
            try clear hfz15_1
            try clear hfz28_0
            try clear hfz28_1
            try clear hfz36_0
            try clear hfz36_1
            try clear hfz41_0
            try clear hfz41_1
            try clear hfz43_0
            try clear hfz43_1
            try clear hx273_0
            try clear p2
            try clear p27
            try clear p273
            try clear p6
            try clear p64
            try clear q2
            try clear q27
            try clear q273
            try clear q6
            try clear q67
            obtain ⟨x12_6, HA, HK6, HO_10, HO_12, HO_248000, HO_248001, HO_263000, HO_263001, BK247, BK262, HB⟩ := hrel
            cases gk with
            | zero => exact absurd HA.out (by simp [congoutop_TopGale.l1])
            | succ k6 =>
             have H := HA.out
             clear HA
             simp only [congoutop_TopGale.l1] at H
             by_cases c77 : (x12_6.length : Int) < 6
             rotate_left
             ·rw [if_neg c77] at H
              have c77b0 : decide ((x12_6.length : Int) < 6) = false := decide_eq_false c77
              have c77b1 : decide (x12_6.length < 6) = false := decide_eq_false (by omega)
              clear c77
              replace H := Option.bind_eq_some_iff.mp H
              obtain ⟨⟨t284, t285⟩, A810, H⟩ := H
              replace H : (if t285 = 0 then (if t284 = true then ((congoutop_blocks.f k6).bind fun t286 => (some t286)) else (some false)) else (some false)) = some r := H
              have A81 := Aside0.mk A810
              clear A810
              by_cases c82 : t285 = 0
              rotate_left
              ·rw [if_neg c82] at H
               have c82b0 : (t285 == 0) = false := beq_eq_false_iff_ne.mpr c82
               have c82b1 : (t285 != 0) = true := bne_iff_ne.mpr c82
               exact absurd (H.trans (congrArg some HRT.out)) (by simp)
              rw [if_pos c82] at H
              have c82b0 : (t285 == 0) = true := beq_iff_eq.mpr c82
              have c82b1 : (t285 != 0) = false := bne_eq_false_iff_eq.mpr c82
              clear c82
              by_cases c83 : t284 = true
              rotate_left
              ·replace c83 := Bool.eq_false_iff.mpr c83
               subst c83
               have H1 : (some false) = some r := by rw [if_neg (show ¬ (false = true) by decide)] at H; exact H
               clear H
               have H := H1
               clear H1
               exact absurd (H.trans (congrArg some HRT.out)) (by simp)
              subst c83
              have H1 : ((congoutop_blocks.f k6).bind fun t286 => (some t286)) = some r := by rw [if_pos rfl] at H; exact H
              clear H
              have H := H1
              clear H1
              replace H := Option.bind_eq_some_iff.mp H
              obtain ⟨t286, A840, H⟩ := H
              replace H : (some t286) = some r := H
              have A84 := Aside0.mk A840
              clear A840
              obtain rfl := Option.some.inj H
              obtain ⟨Ao85, co85, eo85⟩ := Kd.R_slice HO_12.out
              subst eo85
              obtain ⟨Ao86, co86, eo86⟩ := Kd.R_slice HO_10.out
              subst eo86
              go_wp2_with (first | ((with_reducible refine gate_callee (f := 11) rfl ?_); refine gL 126 Tryd.func11 #[.slice Ao85 x12_6.length co85, .slice Ao86 t266.length co86] ?_; (with_reducible refine (shares_Uneven.calls k6 (fun k_ => some k_ = (.slice Ao85 x12_6.length co85 : Value).ownBlock) _ _ x12_6 (fun k_ => some k_ = (.slice Ao86 t266.length co86 : Value).ownBlock) _ _ t266 true t285 _ ?side1 ?side2 A81.out).mono ?_); (case side1 => exact Kd.R_V (Kd.R_tight rfl (Kd.R_types (Kd.R_types (Kd.R_apart' (Kd.R_apart' (Kd.R_apart' (Kd.R_apart' (HO_12.out) (Kd.S_typed HO_248000.out) (by decide)) (Kd.S_typed HO_248001.out) (by decide)) (Kd.S_typed HO_263000.out) (by decide)) (Kd.S_typed HO_263001.out) (by decide)) BK247.out (by decide)) BK262.out (by decide)))); (case side2 => exact Kd.R_V (Kd.R_tight rfl (Kd.R_types (Kd.R_types (Kd.R_apart' (Kd.R_apart' (Kd.R_apart' (Kd.R_apart' (HO_10.out) (Kd.S_typed HO_248000.out) (by decide)) (Kd.S_typed HO_248001.out) (by decide)) (Kd.S_typed HO_263000.out) (by decide)) (Kd.S_typed HO_263001.out) (by decide)) BK247.out (by decide)) BK262.out (by decide)))); rintro e w87 ⟨rfl, hb⟩; refine ⟨_, rfl, ?_⟩; replace HO_10 := kO HO_10 hb; replace HO_12 := kO HO_12 hb; replace HO_248000 := ak (Kd.S_below (by (with_reducible repeat (first | apply Kd.S_alloc | apply Kd.S_drewN | apply Kd.S_drew)); exact HO_248000.out) hb); replace HO_248001 := ak (Kd.S_below (by (with_reducible repeat (first | apply Kd.S_alloc | apply Kd.S_drewN | apply Kd.S_drew)); exact HO_248001.out) hb); replace HO_263000 := ak (Kd.S_below (by (with_reducible repeat (first | apply Kd.S_alloc | apply Kd.S_drewN | apply Kd.S_drew)); exact HO_263000.out) hb); replace HO_263001 := ak (Kd.S_below (by (with_reducible repeat (first | apply Kd.S_alloc | apply Kd.S_drewN | apply Kd.S_drew)); exact HO_263001.out) hb); replace BK247 := kB BK247 hb; replace BK262 := kB BK262 hb; replace HB := kH _ hb; (try clear hb); (try clear hb2); (try clear hk); (try clear hi)) | (go_at_call 7; (with_reducible refine (congoutop_blocks.calls k6  t286 _ A84.out).mono ?_); rintro e w88 ⟨rfl, hb⟩; replace HO_10 := kO HO_10 hb; replace HO_12 := kO HO_12 hb; replace HO_248000 := ak (Kd.S_below (by (with_reducible repeat (first | apply Kd.S_alloc | apply Kd.S_drewN | apply Kd.S_drew)); exact HO_248000.out) hb); replace HO_248001 := ak (Kd.S_below (by (with_reducible repeat (first | apply Kd.S_alloc | apply Kd.S_drewN | apply Kd.S_drew)); exact HO_248001.out) hb); replace HO_263000 := ak (Kd.S_below (by (with_reducible repeat (first | apply Kd.S_alloc | apply Kd.S_drewN | apply Kd.S_drew)); exact HO_263000.out) hb); replace HO_263001 := ak (Kd.S_below (by (with_reducible repeat (first | apply Kd.S_alloc | apply Kd.S_drewN | apply Kd.S_drew)); exact HO_263001.out) hb); replace BK247 := kB BK247 hb; replace BK262 := kB BK262 hb; replace HB := kH _ hb; (try clear hb); (try clear hb2); (try clear hk); (try clear hi)))
              go_ret
              exact ⟨by first | rfl | (simp [errW_none, errW_some] <;> rfl) | (simp only [← hji3]; first | rfl | (simp [errW_none, errW_some] <;> rfl)) | (simp [*, errW_none, errW_some] <;> rfl), hbC _⟩
             rw [if_pos c77] at H
             have c77b0 : decide ((x12_6.length : Int) < 6) = true := decide_eq_true c77
             have c77b1 : decide (x12_6.length < 6) = true := decide_eq_true (by omega)
             clear c77
             by_cases c78 : x12_6.length < 17592186044416
             rotate_left
             ·rw [if_neg c78] at H
              exact absurd H (by simp)
             rw [if_pos c78] at H
             have LMc78 := Aside0.mk c78
             clear c78
             obtain ⟨y281, hy281⟩ : ∃ y_ : List Int, y_ = (x12_6 ++ [0]) := ⟨_, rfl⟩
             replace H : (congoutop_TopGale.l1 k6 t266 y281) = some r := by first | (rw [hy281]; with_reducible exact H) | (have H2_ := (Option.bind_some _ _).symm.trans H; rw [hy281]; with_reducible exact H2_) | (have H2_ := (Option.bind_some _ _).symm.trans H; with_reducible exact H2_) | with_reducible exact H | (rw [hy281]; exact H) | exact H
             have Ny281 := Aside0.mk hy281
             clear hy281
             have H' := Aside0.mk H
             clear H
             obtain ⟨Ao79, co79, eo79⟩ := Kd.R_slice HO_12.out
             subst eo79
             go_wp2_with (first | ((with_reducible refine gate_builtin (b := .append) (xs := #[.tmp 120, .tmp 121]) rfl ?_); (try (refine gate_guard (by rfl) ?_; dsimp only)); at_builtin; refine Kd.R_append (Kd.int .i64) (w0 := w) w.heap.size rfl (.tmp 120) (.tmp 121) 22 3 (.int .i64 0) 8 rfl Tryd.underlying22 info3 rfl (by decide) (by omega) (.slice Ao79 x12_6.length co79) x12_6 0 [.int .i64 0] (fun k_ => nb k_ v267) (fun _ => False) rfl rfl ?aP (fun _ hk => hk.elim) ?aF ?aO ?aB ?aS ?aL ?_; (case aP => exact rfl); (case aB => exact (hbC _)); (case aF => exact (fun k_ hk => Kd.fresh' (Kd.R_lt (rC HO_10)) k_ hk)); (case aO => exact (rC HO_12)); (case aS => exact (below_size (hbC _))); (case aL => have := LMc78.out; omega); intro v282 w80 ho hb hg hat; rw [← Ny281.out] at ho; have n0_ := ak (Kd.R_after (ok := (fun _ => True)) (rD (Kd.R_mono HO_10.out (fun _ hk => ⟨trivial, hk⟩))) hg hat); have n1_ := ak (Kd.S_after (ok := (fun k_ => nb k_ v267 ∧ nb k_ (.slice Ao16 t243.length co16) ∧ nb k_ (.slice Ao34 t255.length co34) ∧ nb k_ (.slice Ao37 t258.length co37))) (by (with_reducible repeat (first | apply Kd.S_alloc | apply Kd.S_drewN | apply Kd.S_drew)); exact Kd.S_mono HO_248000.out (fun _ hk => ⟨⟨hk.1, ⟨hk.2.2.1, ⟨hk.2.2.2.1, hk.2.2.2.2⟩⟩⟩, hk.2.1⟩)) hg hat); have n2_ := ak (Kd.S_after (ok := (fun k_ => nb k_ v267 ∧ nb k_ (.slice Ao14 t240.length co14) ∧ nb k_ (.slice Ao34 t255.length co34) ∧ nb k_ (.slice Ao37 t258.length co37))) (by (with_reducible repeat (first | apply Kd.S_alloc | apply Kd.S_drewN | apply Kd.S_drew)); exact Kd.S_mono HO_248001.out (fun _ hk => ⟨⟨hk.1, ⟨hk.2.2.1, ⟨hk.2.2.2.1, hk.2.2.2.2⟩⟩⟩, hk.2.1⟩)) hg hat); have n3_ := ak (Kd.S_after (ok := (fun k_ => nb k_ v267 ∧ nb k_ (.slice Ao14 t240.length co14) ∧ nb k_ (.slice Ao16 t243.length co16) ∧ nb k_ (.slice Ao37 t258.length co37))) (by (with_reducible repeat (first | apply Kd.S_alloc | apply Kd.S_drewN | apply Kd.S_drew)); exact Kd.S_mono HO_263000.out (fun _ hk => ⟨⟨hk.1, ⟨hk.2.2.1, ⟨hk.2.2.2.1, hk.2.2.2.2⟩⟩⟩, hk.2.1⟩)) hg hat); have n4_ := ak (Kd.S_after (ok := (fun k_ => nb k_ v267 ∧ nb k_ (.slice Ao14 t240.length co14) ∧ nb k_ (.slice Ao16 t243.length co16) ∧ nb k_ (.slice Ao34 t255.length co34))) (by (with_reducible repeat (first | apply Kd.S_alloc | apply Kd.S_drewN | apply Kd.S_drew)); exact Kd.S_mono HO_263001.out (fun _ hk => ⟨⟨hk.1, ⟨hk.2.2.1, ⟨hk.2.2.2.1, hk.2.2.2.2⟩⟩⟩, hk.2.1⟩)) hg hat); have n5_ := ak (blk_grown (g := gb247) (o := .cells #[.slice Ao14 t240.length co14, .slice Ao16 t243.length co16] 25 (0, 0)) (bkC BK247) hg (Kd.R_ne HO_12.out BK247.out (by decide))); have n6_ := ak (blk_grown (g := gb262) (o := .cells #[.slice Ao34 t255.length co34, .slice Ao37 t258.length co37] 25 (0, 0)) (bkC BK262) hg (Kd.R_ne HO_12.out BK262.out (by decide))); have n7_ := ak (hb); have n8_ := ak (ho); clear HO_10; clear HO_248000; clear HO_248001; clear HO_263000; clear HO_263001; clear BK247; clear BK262; clear HB; clear HO_12; have HO_10 := n0_; have HO_248000 := n1_; have HO_248001 := n2_; have HO_263000 := n3_; have HO_263001 := n4_; have BK247 := n5_; have BK262 := n6_; have HB := n7_; have HO283 := n8_; clear n0_ n1_ n2_ n3_ n4_ n5_ n6_ n7_ n8_; clear ho hb hg hat))
             go_roundg k6
             case measure => have := HJ7.out; have := HJ26.out; have := HJ46.out; have := HJ56.out; have := HJ70.out; have := HK6.out; omega
             case rel => exact ⟨(y281), H', ⟨by have := HJ7.out; have := HJ26.out; have := HJ46.out; have := HJ56.out; have := HJ70.out; have := HK6.out; omega⟩, ⟨rD (Kd.R_mono HO_10.out (fun _ hk => hk.2))⟩, ⟨rC HO283⟩, ⟨by (with_reducible repeat (first | apply Kd.S_alloc | apply Kd.S_drewN | apply Kd.S_drew)); exact Kd.S_mono HO_248000.out (fun _ hk => ⟨hk.1.1, ⟨hk.2, ⟨hk.1.2.1, ⟨hk.1.2.2.1, hk.1.2.2.2⟩⟩⟩⟩)⟩, ⟨by (with_reducible repeat (first | apply Kd.S_alloc | apply Kd.S_drewN | apply Kd.S_drew)); exact Kd.S_mono HO_248001.out (fun _ hk => ⟨hk.1.1, ⟨hk.2, ⟨hk.1.2.1, ⟨hk.1.2.2.1, hk.1.2.2.2⟩⟩⟩⟩)⟩, ⟨by (with_reducible repeat (first | apply Kd.S_alloc | apply Kd.S_drewN | apply Kd.S_drew)); exact Kd.S_mono HO_263000.out (fun _ hk => ⟨hk.1.1, ⟨hk.2, ⟨hk.1.2.1, ⟨hk.1.2.2.1, hk.1.2.2.2⟩⟩⟩⟩)⟩, ⟨by (with_reducible repeat (first | apply Kd.S_alloc | apply Kd.S_drewN | apply Kd.S_drew)); exact Kd.S_mono HO_263001.out (fun _ hk => ⟨hk.1.1, ⟨hk.2, ⟨hk.1.2.1, ⟨hk.1.2.2.1, hk.1.2.2.2⟩⟩⟩⟩)⟩, ⟨bkC BK247⟩, ⟨bkC BK262⟩, ⟨hbC _⟩⟩

/-- THE ONE PURE STATEMENT of congoutop_TopGale: yours. -/
def congoutop_TopGale.Pure : Prop := ∀ (a0 : Int) (l1 : List Int), (Lit.int .i64 a0).wf = true → l1.length ≤ maxLen → l1.length * 8 ≤ 140737488351232 → (∀ x ∈ l1, (Lit.int .i64 x).wf = true) → ∃ k, congoutop_TopGale.f k a0 l1 = some true
theorem congoutop_TopGale.walk (P : congoutop_TopGale.Pure) (a0 : Int) (a1 : Option Addr) (len1 cap1 : Nat) (z1 : List Int) (w : World) (w0 : (Lit.int .i64 a0).wf = true) (w1 : (a1 = none ∧ len1 = 0 ∧ cap1 = 0 ∧ z1 = []) ∨ ∃ x, a1 = some x ∧ len1 ≤ cap1 ∧ cap1 ≤ maxLen ∧ z1.length = cap1 ∧ (∀ i, i < z1.length → w.cell? (x.add i) = some (.int .i64 (z1.getD i 0))) ∧ ∀ n ∈ z1, (Lit.int .i64 n).wf = true) (y1 : len1 * 8 ≤ 140737488351232) (hG0 : GL w) :
  Calls Tryd.prog 3 #[.int .i64 a0, .slice a1 len1 cap1] w fun e w' => e = .returned (.bool true) ∧ Below w.heap.size w w' := by
 obtain ⟨l1, rfl, hr1, hm1, hw1, hc1⟩ := ReadsInt.ofRowC w1
 obtain ⟨k, h⟩ := P a0 l1 w0 hm1 y1 hw1
 refine (congoutop_TopGale.calls k a0 _ _ l1 true w (Kd.C_of_reads (d := (0 : Int)) (h1 := fun _ => rfl) hr1) hc1 rfl h hG0).mono ?_
 rintro e w' ⟨rfl, hd⟩
 exact ⟨rfl, hd⟩

end Go.Proofs.YtkieehjpnjplmaaDoor.X
