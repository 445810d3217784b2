-- Written by a program of this work (wip/xprint.py, over the kit's printer) out of the translation.
import Derived.Test.YtpnocmkpeogifaaX0
import Derived.Test.YtpnocmkpeogifaaXG1a
import Derived.Test.YtpnocmkpeogifaaXG2a
import Derived.Test.YtpnocmkpeogifaaXf15
import Derived.Test.YtpnocmkpeogifaaXf17
import Derived.Test.YtpnocmkpeogifaaXf29
import Derived.Test.YtpnocmkpeogifaaXf35
import Derived.Test.YtpnocmkpeogifaaXf36
import Derived.Test.YtpnocmkpeogifaaXf37
import Derived.Test.YtpnocmkpeogifaaXf38
import Derived.Test.YtpnocmkpeogifaaE28
namespace Go.Proofs.Ytpnocmkpeogifaa.X
open Go.RowKit Go.Proofs.YtpnocmkpeogifaaW.PrintWords Go.Proofs.YtpnocmkpeogifaaW.PrintLast Go.Proofs.YtpnocmkpeogifaaW.PrintMore
attribute [local go_sem] max2_int min2_int max_two min_two max_three min_three max_four min_four   -- for this text's walks alone
set_option linter.unusedVariables false
set_option linter.unusedSimpArgs false

/-! ### congoulaw04_CurvesMirrors: function 9 -/
mutual
def congoulaw04_CurvesMirrors.j0 : Nat → Int → Bool → Int → List Int → List Int → Int → List Int → List Int → Int → List Int → List Int → Option (Bool)
 | 0, _, _, _, _, _, _, _, _, _, _, _ => none
 | k + 1, x8, x62, x721000, x721001, x721002, x722000, x722001, x722002, x761000, x761001, x761002 => if x62 = true then (some false) else ((congouref04_Valid.f k x722000 x722001 x722002).bind fun t795 => (if t795 = true then ((congouref04_Like.f k x721000 x721001 x721002 x722000 x722001 x722002).bind fun t796 => (congoulaw04_CurvesMirrors.j1 k x8 (!t796) x721000 x721001 x721002 x722000 x722001 x722002 x761000 x761001 x761002)) else (congoulaw04_CurvesMirrors.j1 k x8 true x721000 x721001 x721002 x722000 x722001 x722002 x761000 x761001 x761002)))
def congoulaw04_CurvesMirrors.j1 : Nat → Int → Bool → Int → List Int → List Int → Int → List Int → List Int → Int → List Int → List Int → Option (Bool)
 | 0, _, _, _, _, _, _, _, _, _, _, _ => none
 | k + 1, x8, x71, x721000, x721001, x721002, x722000, x722001, x722002, x761000, x761001, x761002 => if x71 = true then ((congoulaw04_own.f x761000 x761001 x761002).bind fun bt797 => ((congoulaw04_same.f k bt797.1 bt797.2.1 bt797.2.2 0 ([] : List Int) ([] : List Int)).bind fun t804 => (if t804 = true then (some (x8 == 2)) else (some false)))) else ((congouref04_Added.f k x721000 x721001 x721002 x722000 x722001 x722002).bind fun bt805 => ((congoulaw04_own.f x761000 x761001 x761002).bind fun bt814 => ((congoulaw04_same.f k bt814.1 bt814.2.1 bt814.2.2 bt805.1 bt805.2.1 bt805.2.2.1).bind fun t821 => (if t821 = true then (some (x8 == bt805.2.2.2)) else (some false)))))
end
def congoulaw04_CurvesMirrors.f (k : Nat) (a0_0 : Int) (l0_1 : List Int) (l0_2 : List Int) (a1_0 : Int) (l1_1 : List Int) (l1_2 : List Int) : Option (Bool) := (congoulaw04_Of.f a0_0 l0_1 l0_2).bind fun bt722 => ((curves_Mirror.f k bt722.1 bt722.2.1 bt722.2.2).bind fun bt729 => ((congoulaw04_Of.f a0_0 l0_1 l0_2).bind fun bt738 => ((congoulaw04_Of.f a1_0 l1_1 l1_2).bind fun bt745 => ((curves_Plus.f k bt738.1 bt738.2.1 bt738.2.2 bt745.1 bt745.2.1 bt745.2.2).bind fun bt752 => ((congouref04_Valid.f k a0_0 l0_1 l0_2).bind fun t761 => (if t761 = true then ((congoulaw04_own.f bt729.1 bt729.2.1 bt729.2.2.1).bind fun bt779 => ((congouref04_Mirror.f k a0_0 l0_1 l0_2).bind fun bt786 => ((congoulaw04_same.f k bt779.1 bt779.2.1 bt779.2.2 bt786.1 bt786.2.1 bt786.2.2).bind fun t793 => (if t793 = true then (if bt729.2.2.2 = 0 then ((congoulaw04_awake.f k).bind fun t794 => (congoulaw04_CurvesMirrors.j0 k bt752.2.2.2 (!t794) a0_0 l0_1 l0_2 a1_0 l1_1 l1_2 bt752.1 bt752.2.1 bt752.2.2.1)) else (congoulaw04_CurvesMirrors.j0 k bt752.2.2.2 true a0_0 l0_1 l0_2 a1_0 l1_1 l1_2 bt752.1 bt752.2.1 bt752.2.2.1)) else (congoulaw04_CurvesMirrors.j0 k bt752.2.2.2 true a0_0 l0_1 l0_2 a1_0 l1_1 l1_2 bt752.1 bt752.2.1 bt752.2.2.1))))) else ((congoulaw04_own.f bt729.1 bt729.2.1 bt729.2.2.1).bind fun bt762 => ((congoulaw04_same.f k bt762.1 bt762.2.1 bt762.2.2 0 ([] : List Int) ([] : List Int)).bind fun t769 => (if t769 = true then ((congoulaw04_own.f bt752.1 bt752.2.1 bt752.2.2.1).bind fun bt770 => ((congoulaw04_same.f k bt770.1 bt770.2.1 bt770.2.2 0 ([] : List Int) ([] : List Int)).bind fun t777 => (if t777 = true then (if bt729.2.2.2 = 2 then (if bt752.2.2.2 = 2 then ((congoulaw04_awake.f k).bind fun t778 => (some t778)) else (some false)) else (some false)) else (some false)))) else (some false))))))))))
theorem congoulaw04_CurvesMirrors.mono_l : ∀ k, (∀ y0 y1 y2 y3 y4 y5 y6 y7 y8 y9 y10, LeO (congoulaw04_CurvesMirrors.j0 k y0 y1 y2 y3 y4 y5 y6 y7 y8 y9 y10) (congoulaw04_CurvesMirrors.j0 (k + 1) y0 y1 y2 y3 y4 y5 y6 y7 y8 y9 y10)) ∧ (∀ y0 y1 y2 y3 y4 y5 y6 y7 y8 y9 y10, LeO (congoulaw04_CurvesMirrors.j1 k y0 y1 y2 y3 y4 y5 y6 y7 y8 y9 y10) (congoulaw04_CurvesMirrors.j1 (k + 1) y0 y1 y2 y3 y4 y5 y6 y7 y8 y9 y10))
 | 0 => ⟨fun _ _ _ _ _ _ _ _ _ _ _ r h => by simp [congoulaw04_CurvesMirrors.j0] at h, fun _ _ _ _ _ _ _ _ _ _ _ r h => by simp [congoulaw04_CurvesMirrors.j1] at h⟩
 | k + 1 => by
  obtain ⟨ih0, ih1⟩ := congoulaw04_CurvesMirrors.mono_l k
  refine ⟨?_, ?_⟩
  ·intro y0 y1 y2 y3 y4 y5 y6 y7 y8 y9 y10
   unfold congoulaw04_CurvesMirrors.j0
   repeat' first
   | (with_reducible exact ih0 _ _ _ _ _ _ _ _ _ _ _)
   | (with_reducible exact ih1 _ _ _ _ _ _ _ _ _ _ _)
   | (with_reducible exact congoulaw04_awake.mono _)
   | (with_reducible exact congoulaw04_same.mono _ _ _ _ _ _ _)
   | (with_reducible exact congouref04_Added.mono _ _ _ _ _ _ _)
   | (with_reducible exact congouref04_Like.mono _ _ _ _ _ _ _)
   | (with_reducible exact congouref04_Mirror.mono _ _ _ _)
   | (with_reducible exact congouref04_Valid.mono _ _ _ _)
   | (with_reducible exact curves_Mirror.mono _ _ _ _)
   | (with_reducible exact curves_Plus.mono _ _ _ _ _ _ _)
   | (with_reducible exact LeO.refl _)
   | (with_reducible exact LeO.none _)
   | (with_reducible refine LeO.ite ?_ ?_)
   | (with_reducible refine LeO.bind ?_ (fun _ => ?_))
   | exact ih0 _ _ _ _ _ _ _ _ _ _ _
   | exact ih1 _ _ _ _ _ _ _ _ _ _ _
   | exact congoulaw04_awake.mono _
   | exact congoulaw04_same.mono _ _ _ _ _ _ _
   | exact congouref04_Added.mono _ _ _ _ _ _ _
   | exact congouref04_Like.mono _ _ _ _ _ _ _
   | exact congouref04_Mirror.mono _ _ _ _
   | exact congouref04_Valid.mono _ _ _ _
   | exact curves_Mirror.mono _ _ _ _
   | exact curves_Plus.mono _ _ _ _ _ _ _
   | exact LeO.none _
   | refine LeO.ite ?_ ?_
   | refine LeO.bind ?_ (fun _ => ?_)
  ·intro y0 y1 y2 y3 y4 y5 y6 y7 y8 y9 y10
   unfold congoulaw04_CurvesMirrors.j1
   repeat' first
   | (with_reducible exact ih0 _ _ _ _ _ _ _ _ _ _ _)
   | (with_reducible exact ih1 _ _ _ _ _ _ _ _ _ _ _)
   | (with_reducible exact congoulaw04_awake.mono _)
   | (with_reducible exact congoulaw04_same.mono _ _ _ _ _ _ _)
   | (with_reducible exact congouref04_Added.mono _ _ _ _ _ _ _)
   | (with_reducible exact congouref04_Like.mono _ _ _ _ _ _ _)
   | (with_reducible exact congouref04_Mirror.mono _ _ _ _)
   | (with_reducible exact congouref04_Valid.mono _ _ _ _)
   | (with_reducible exact curves_Mirror.mono _ _ _ _)
   | (with_reducible exact curves_Plus.mono _ _ _ _ _ _ _)
   | (with_reducible exact LeO.refl _)
   | (with_reducible exact LeO.none _)
   | (with_reducible refine LeO.ite ?_ ?_)
   | (with_reducible refine LeO.bind ?_ (fun _ => ?_))
   | exact ih0 _ _ _ _ _ _ _ _ _ _ _
   | exact ih1 _ _ _ _ _ _ _ _ _ _ _
   | exact congoulaw04_awake.mono _
   | exact congoulaw04_same.mono _ _ _ _ _ _ _
   | exact congouref04_Added.mono _ _ _ _ _ _ _
   | exact congouref04_Like.mono _ _ _ _ _ _ _
   | exact congouref04_Mirror.mono _ _ _ _
   | exact congouref04_Valid.mono _ _ _ _
   | exact curves_Mirror.mono _ _ _ _
   | exact curves_Plus.mono _ _ _ _ _ _ _
   | exact LeO.none _
   | refine LeO.ite ?_ ?_
   | refine LeO.bind ?_ (fun _ => ?_)
theorem congoulaw04_CurvesMirrors.mono : ∀ a0 a1 a2 a3 a4 a5 k, LeO (congoulaw04_CurvesMirrors.f k a0 a1 a2 a3 a4 a5) (congoulaw04_CurvesMirrors.f (k + 1) a0 a1 a2 a3 a4 a5) := by
 intro a0 a1 a2 a3 a4 a5 k
 obtain ⟨ih0, ih1⟩ := congoulaw04_CurvesMirrors.mono_l k
 unfold congoulaw04_CurvesMirrors.f
 repeat' first
   | (with_reducible exact ih0 _ _ _ _ _ _ _ _ _ _ _)
   | (with_reducible exact ih1 _ _ _ _ _ _ _ _ _ _ _)
   | (with_reducible exact congoulaw04_awake.mono _)
   | (with_reducible exact congoulaw04_same.mono _ _ _ _ _ _ _)
   | (with_reducible exact congouref04_Added.mono _ _ _ _ _ _ _)
   | (with_reducible exact congouref04_Like.mono _ _ _ _ _ _ _)
   | (with_reducible exact congouref04_Mirror.mono _ _ _ _)
   | (with_reducible exact congouref04_Valid.mono _ _ _ _)
   | (with_reducible exact curves_Mirror.mono _ _ _ _)
   | (with_reducible exact curves_Plus.mono _ _ _ _ _ _ _)
   | (with_reducible exact LeO.refl _)
   | (with_reducible exact LeO.none _)
   | (with_reducible refine LeO.ite ?_ ?_)
   | (with_reducible refine LeO.bind ?_ (fun _ => ?_))
   | exact ih0 _ _ _ _ _ _ _ _ _ _ _
   | exact ih1 _ _ _ _ _ _ _ _ _ _ _
   | exact congoulaw04_awake.mono _
   | exact congoulaw04_same.mono _ _ _ _ _ _ _
   | exact congouref04_Added.mono _ _ _ _ _ _ _
   | exact congouref04_Like.mono _ _ _ _ _ _ _
   | exact congouref04_Mirror.mono _ _ _ _
   | exact congouref04_Valid.mono _ _ _ _
   | exact curves_Mirror.mono _ _ _ _
   | exact curves_Plus.mono _ _ _ _ _ _ _
   | exact LeO.none _
   | refine LeO.ite ?_ ?_
   | refine LeO.bind ?_ (fun _ => ?_)
def congoulaw04_CurvesMirrors.T2 : Bool × List (List Nat × List Nat) := (true, [([], []), ([0], [0]), ([], []), ([2, 1], [2]), ([1, 3, 3], [1, 3]), ([4], [4]), ([5], [5]), ([5], [5]), ([], []), ([8, 6, 4, 0, 1, 2, 3, 4, 5, 6, 8], [6, 8]), ([7, 9, 0, 1, 2, 3, 4, 5, 6, 7, 8, 9], [7])])
def congoulaw04_CurvesMirrors.B2 : List Nat := [0, 1, 0, 7, 15, 31, 63, 63, 0, 383, 1023]
theorem congoulaw04_CurvesMirrors.tab2 : rtab .any (opsOf Try.f9 2) = congoulaw04_CurvesMirrors.T2 := by kernel_rfl
theorem congoulaw04_CurvesMirrors.bits2 : waitsOk congoulaw04_CurvesMirrors.T2.2 congoulaw04_CurvesMirrors.B2 = true := by kernel_rfl
def congoulaw04_CurvesMirrors.T5 : Bool × List (List Nat × List Nat) := (true, [([], []), ([0], [0]), ([], []), ([2, 1], [2]), ([1, 3, 3], [1, 3]), ([4], [4]), ([5, 4], [5]), ([6], [6]), ([7, 6], [6, 7]), ([6, 8], [6, 8]), ([9, 6], [9]), ([10, 10], [10]), ([11, 10], [10, 11]), ([10, 12], [10, 12])])
def congoulaw04_CurvesMirrors.B5 : List Nat := [0, 1, 0, 7, 15, 31, 63, 127, 255, 511, 1023, 2047, 4095, 8191]
theorem congoulaw04_CurvesMirrors.tab5 : rtab .any (opsOf Try.f9 5) = congoulaw04_CurvesMirrors.T5 := by kernel_rfl
theorem congoulaw04_CurvesMirrors.bits5 : waitsOk congoulaw04_CurvesMirrors.T5.2 congoulaw04_CurvesMirrors.B5 = true := by kernel_rfl
def congoulaw04_CurvesMirrors.T10 : Bool × List (List Nat × List Nat) := (true, [([], []), ([0], [0]), ([], []), ([1, 2, 1], [1, 2]), ([3, 3], [3]), ([4], [4]), ([4], [4]), ([5, 6, 4], [4, 5, 6]), ([4, 7], [4, 7]), ([8, 4, 0, 1, 2, 3, 4, 5, 6, 7, 8], [8])])
def congoulaw04_CurvesMirrors.B10 : List Nat := [0, 1, 0, 7, 15, 31, 31, 127, 255, 511]
theorem congoulaw04_CurvesMirrors.tab10 : rtab .any (opsOf Try.f9 10) = congoulaw04_CurvesMirrors.T10 := by kernel_rfl
theorem congoulaw04_CurvesMirrors.bits10 : waitsOk congoulaw04_CurvesMirrors.T10.2 congoulaw04_CurvesMirrors.B10 = true := by kernel_rfl
set_option maxHeartbeats 8000000 in
set_option maxRecDepth 100000 in
theorem congoulaw04_CurvesMirrors.calls (k : Nat) (a0_0 : Int) (A0_1 : Option Addr) (c0_1 : Nat) (l0_1 : List Int) (A0_2 : Option Addr) (c0_2 : Nat) (l0_2 : List Int) (a1_0 : Int) (A1_1 : Option Addr) (c1_1 : Nat) (l1_1 : List Int) (A1_2 : Option Addr) (c1_2 : Nat) (l1_2 : List Int) (r : Bool) (w : World) (hr0_1 : Kd.C (Kd.int .i64) w A0_1 l0_1.length l0_1) (hc0_1 : l0_1.length ≤ c0_1) (hr0_2 : Kd.C (Kd.int .i64) w A0_2 l0_2.length l0_2) (hc0_2 : l0_2.length ≤ c0_2) (hr1_1 : Kd.C (Kd.int .i64) w A1_1 l1_1.length l1_1) (hc1_1 : l1_1.length ≤ c1_1) (hr1_2 : Kd.C (Kd.int .i64) w A1_2 l1_2.length l1_2) (hc1_2 : l1_2.length ≤ c1_2) (hrt : r = true) (h : congoulaw04_CurvesMirrors.f k a0_0 l0_1 l0_2 a1_0 l1_1 l1_2 = some r) :
  Calls Try.prog 9 #[.agg #[.int .i64 a0_0, .slice A0_1 l0_1.length c0_1, .slice A0_2 l0_2.length c0_2], .agg #[.int .i64 a1_0, .slice A1_1 l1_1.length c1_1, .slice A1_2 l1_2.length c1_2]] w fun e w' => e = .returned (.bool r) ∧ Below w.heap.size w w' := by
 have hu24 := Try.underlying24
 have hu30 := Try.underlying30
 have HR0_1 := Aside0.mk hr0_1
 have HC0_1 := Aside0.mk hc0_1
 clear hr0_1 hc0_1
 have HR0_2 := Aside0.mk hr0_2
 have HC0_2 := Aside0.mk hc0_2
 clear hr0_2 hc0_2
 have HR1_1 := Aside0.mk hr1_1
 have HC1_1 := Aside0.mk hc1_1
 clear hr1_1 hc1_1
 have HR1_2 := Aside0.mk hr1_2
 have HC1_2 := Aside0.mk hc1_2
 clear hr1_2 hc1_2
 have HB := ak (Below.refl w.heap.size w)
 have H : ((congoulaw04_Of.f a0_0 l0_1 l0_2).bind fun bt722 => ((curves_Mirror.f k bt722.1 bt722.2.1 bt722.2.2).bind fun bt729 => ((congoulaw04_Of.f a0_0 l0_1 l0_2).bind fun bt738 => ((congoulaw04_Of.f a1_0 l1_1 l1_2).bind fun bt745 => ((curves_Plus.f k bt738.1 bt738.2.1 bt738.2.2 bt745.1 bt745.2.1 bt745.2.2).bind fun bt752 => ((congouref04_Valid.f k a0_0 l0_1 l0_2).bind fun t761 => (if t761 = true then ((congoulaw04_own.f bt729.1 bt729.2.1 bt729.2.2.1).bind fun bt779 => ((congouref04_Mirror.f k a0_0 l0_1 l0_2).bind fun bt786 => ((congoulaw04_same.f k bt779.1 bt779.2.1 bt779.2.2 bt786.1 bt786.2.1 bt786.2.2).bind fun t793 => (if t793 = true then (if bt729.2.2.2 = 0 then ((congoulaw04_awake.f k).bind fun t794 => (congoulaw04_CurvesMirrors.j0 k bt752.2.2.2 (!t794) a0_0 l0_1 l0_2 a1_0 l1_1 l1_2 bt752.1 bt752.2.1 bt752.2.2.1)) else (congoulaw04_CurvesMirrors.j0 k bt752.2.2.2 true a0_0 l0_1 l0_2 a1_0 l1_1 l1_2 bt752.1 bt752.2.1 bt752.2.2.1)) else (congoulaw04_CurvesMirrors.j0 k bt752.2.2.2 true a0_0 l0_1 l0_2 a1_0 l1_1 l1_2 bt752.1 bt752.2.1 bt752.2.2.1))))) else ((congoulaw04_own.f bt729.1 bt729.2.1 bt729.2.2.1).bind fun bt762 => ((congoulaw04_same.f k bt762.1 bt762.2.1 bt762.2.2 0 ([] : List Int) ([] : List Int)).bind fun t769 => (if t769 = true then ((congoulaw04_own.f bt752.1 bt752.2.1 bt752.2.2.1).bind fun bt770 => ((congoulaw04_same.f k bt770.1 bt770.2.1 bt770.2.2 0 ([] : List Int) ([] : List Int)).bind fun t777 => (if t777 = true then (if bt729.2.2.2 = 2 then (if bt752.2.2.2 = 2 then ((congoulaw04_awake.f k).bind fun t778 => (some t778)) else (some false)) else (some false)) else (some false)))) else (some false))))))))))) = some r := h
 clear h
 have HRT := Aside0.mk hrt
 clear hrt
 replace H := Option.bind_eq_some_iff.mp H
 obtain ⟨⟨t722, t723, t726⟩, A30, H⟩ := H
 replace H : ((curves_Mirror.f k t722 t723 t726).bind fun bt729 => ((congoulaw04_Of.f a0_0 l0_1 l0_2).bind fun bt738 => ((congoulaw04_Of.f a1_0 l1_1 l1_2).bind fun bt745 => ((curves_Plus.f k bt738.1 bt738.2.1 bt738.2.2 bt745.1 bt745.2.1 bt745.2.2).bind fun bt752 => ((congouref04_Valid.f k a0_0 l0_1 l0_2).bind fun t761 => (if t761 = true then ((congoulaw04_own.f bt729.1 bt729.2.1 bt729.2.2.1).bind fun bt779 => ((congouref04_Mirror.f k a0_0 l0_1 l0_2).bind fun bt786 => ((congoulaw04_same.f k bt779.1 bt779.2.1 bt779.2.2 bt786.1 bt786.2.1 bt786.2.2).bind fun t793 => (if t793 = true then (if bt729.2.2.2 = 0 then ((congoulaw04_awake.f k).bind fun t794 => (congoulaw04_CurvesMirrors.j0 k bt752.2.2.2 (!t794) a0_0 l0_1 l0_2 a1_0 l1_1 l1_2 bt752.1 bt752.2.1 bt752.2.2.1)) else (congoulaw04_CurvesMirrors.j0 k bt752.2.2.2 true a0_0 l0_1 l0_2 a1_0 l1_1 l1_2 bt752.1 bt752.2.1 bt752.2.2.1)) else (congoulaw04_CurvesMirrors.j0 k bt752.2.2.2 true a0_0 l0_1 l0_2 a1_0 l1_1 l1_2 bt752.1 bt752.2.1 bt752.2.2.1))))) else ((congoulaw04_own.f bt729.1 bt729.2.1 bt729.2.2.1).bind fun bt762 => ((congoulaw04_same.f k bt762.1 bt762.2.1 bt762.2.2 0 ([] : List Int) ([] : List Int)).bind fun t769 => (if t769 = true then ((congoulaw04_own.f bt752.1 bt752.2.1 bt752.2.2.1).bind fun bt770 => ((congoulaw04_same.f k bt770.1 bt770.2.1 bt770.2.2 0 ([] : List Int) ([] : List Int)).bind fun t777 => (if t777 = true then (if bt729.2.2.2 = 2 then (if bt752.2.2.2 = 2 then ((congoulaw04_awake.f k).bind fun t778 => (some t778)) else (some false)) else (some false)) else (some false)))) else (some false)))))))))) = some r := H
 have A3 := Aside0.mk A30
 clear A30
 replace H := Option.bind_eq_some_iff.mp H
 obtain ⟨⟨t729, t730, t733, t736⟩, A40, H⟩ := H
 replace H : ((congoulaw04_Of.f a0_0 l0_1 l0_2).bind fun bt738 => ((congoulaw04_Of.f a1_0 l1_1 l1_2).bind fun bt745 => ((curves_Plus.f k bt738.1 bt738.2.1 bt738.2.2 bt745.1 bt745.2.1 bt745.2.2).bind fun bt752 => ((congouref04_Valid.f k a0_0 l0_1 l0_2).bind fun t761 => (if t761 = true then ((congoulaw04_own.f t729 t730 t733).bind fun bt779 => ((congouref04_Mirror.f k a0_0 l0_1 l0_2).bind fun bt786 => ((congoulaw04_same.f k bt779.1 bt779.2.1 bt779.2.2 bt786.1 bt786.2.1 bt786.2.2).bind fun t793 => (if t793 = true then (if t736 = 0 then ((congoulaw04_awake.f k).bind fun t794 => (congoulaw04_CurvesMirrors.j0 k bt752.2.2.2 (!t794) a0_0 l0_1 l0_2 a1_0 l1_1 l1_2 bt752.1 bt752.2.1 bt752.2.2.1)) else (congoulaw04_CurvesMirrors.j0 k bt752.2.2.2 true a0_0 l0_1 l0_2 a1_0 l1_1 l1_2 bt752.1 bt752.2.1 bt752.2.2.1)) else (congoulaw04_CurvesMirrors.j0 k bt752.2.2.2 true a0_0 l0_1 l0_2 a1_0 l1_1 l1_2 bt752.1 bt752.2.1 bt752.2.2.1))))) else ((congoulaw04_own.f t729 t730 t733).bind fun bt762 => ((congoulaw04_same.f k bt762.1 bt762.2.1 bt762.2.2 0 ([] : List Int) ([] : List Int)).bind fun t769 => (if t769 = true then ((congoulaw04_own.f bt752.1 bt752.2.1 bt752.2.2.1).bind fun bt770 => ((congoulaw04_same.f k bt770.1 bt770.2.1 bt770.2.2 0 ([] : List Int) ([] : List Int)).bind fun t777 => (if t777 = true then (if t736 = 2 then (if bt752.2.2.2 = 2 then ((congoulaw04_awake.f k).bind fun t778 => (some t778)) else (some false)) else (some false)) else (some false)))) else (some false))))))))) = some r := H
 have A4 := Aside0.mk A40
 clear A40
 replace H := Option.bind_eq_some_iff.mp H
 obtain ⟨⟨t738, t739, t742⟩, A50, H⟩ := H
 replace H : ((congoulaw04_Of.f a1_0 l1_1 l1_2).bind fun bt745 => ((curves_Plus.f k t738 t739 t742 bt745.1 bt745.2.1 bt745.2.2).bind fun bt752 => ((congouref04_Valid.f k a0_0 l0_1 l0_2).bind fun t761 => (if t761 = true then ((congoulaw04_own.f t729 t730 t733).bind fun bt779 => ((congouref04_Mirror.f k a0_0 l0_1 l0_2).bind fun bt786 => ((congoulaw04_same.f k bt779.1 bt779.2.1 bt779.2.2 bt786.1 bt786.2.1 bt786.2.2).bind fun t793 => (if t793 = true then (if t736 = 0 then ((congoulaw04_awake.f k).bind fun t794 => (congoulaw04_CurvesMirrors.j0 k bt752.2.2.2 (!t794) a0_0 l0_1 l0_2 a1_0 l1_1 l1_2 bt752.1 bt752.2.1 bt752.2.2.1)) else (congoulaw04_CurvesMirrors.j0 k bt752.2.2.2 true a0_0 l0_1 l0_2 a1_0 l1_1 l1_2 bt752.1 bt752.2.1 bt752.2.2.1)) else (congoulaw04_CurvesMirrors.j0 k bt752.2.2.2 true a0_0 l0_1 l0_2 a1_0 l1_1 l1_2 bt752.1 bt752.2.1 bt752.2.2.1))))) else ((congoulaw04_own.f t729 t730 t733).bind fun bt762 => ((congoulaw04_same.f k bt762.1 bt762.2.1 bt762.2.2 0 ([] : List Int) ([] : List Int)).bind fun t769 => (if t769 = true then ((congoulaw04_own.f bt752.1 bt752.2.1 bt752.2.2.1).bind fun bt770 => ((congoulaw04_same.f k bt770.1 bt770.2.1 bt770.2.2 0 ([] : List Int) ([] : List Int)).bind fun t777 => (if t777 = true then (if t736 = 2 then (if bt752.2.2.2 = 2 then ((congoulaw04_awake.f k).bind fun t778 => (some t778)) else (some false)) else (some false)) else (some false)))) else (some false)))))))) = some r := H
 have A5 := Aside0.mk A50
 clear A50
 replace H := Option.bind_eq_some_iff.mp H
 obtain ⟨⟨t745, t746, t749⟩, A60, H⟩ := H
 replace H : ((curves_Plus.f k t738 t739 t742 t745 t746 t749).bind fun bt752 => ((congouref04_Valid.f k a0_0 l0_1 l0_2).bind fun t761 => (if t761 = true then ((congoulaw04_own.f t729 t730 t733).bind fun bt779 => ((congouref04_Mirror.f k a0_0 l0_1 l0_2).bind fun bt786 => ((congoulaw04_same.f k bt779.1 bt779.2.1 bt779.2.2 bt786.1 bt786.2.1 bt786.2.2).bind fun t793 => (if t793 = true then (if t736 = 0 then ((congoulaw04_awake.f k).bind fun t794 => (congoulaw04_CurvesMirrors.j0 k bt752.2.2.2 (!t794) a0_0 l0_1 l0_2 a1_0 l1_1 l1_2 bt752.1 bt752.2.1 bt752.2.2.1)) else (congoulaw04_CurvesMirrors.j0 k bt752.2.2.2 true a0_0 l0_1 l0_2 a1_0 l1_1 l1_2 bt752.1 bt752.2.1 bt752.2.2.1)) else (congoulaw04_CurvesMirrors.j0 k bt752.2.2.2 true a0_0 l0_1 l0_2 a1_0 l1_1 l1_2 bt752.1 bt752.2.1 bt752.2.2.1))))) else ((congoulaw04_own.f t729 t730 t733).bind fun bt762 => ((congoulaw04_same.f k bt762.1 bt762.2.1 bt762.2.2 0 ([] : List Int) ([] : List Int)).bind fun t769 => (if t769 = true then ((congoulaw04_own.f bt752.1 bt752.2.1 bt752.2.2.1).bind fun bt770 => ((congoulaw04_same.f k bt770.1 bt770.2.1 bt770.2.2 0 ([] : List Int) ([] : List Int)).bind fun t777 => (if t777 = true then (if t736 = 2 then (if bt752.2.2.2 = 2 then ((congoulaw04_awake.f k).bind fun t778 => (some t778)) else (some false)) else (some false)) else (some false)))) else (some false))))))) = some r := H
 have A6 := Aside0.mk A60
 clear A60
 replace H := Option.bind_eq_some_iff.mp H
 obtain ⟨⟨t752, t753, t756, t759⟩, A70, H⟩ := H
 replace H : ((congouref04_Valid.f k a0_0 l0_1 l0_2).bind fun t761 => (if t761 = true then ((congoulaw04_own.f t729 t730 t733).bind fun bt779 => ((congouref04_Mirror.f k a0_0 l0_1 l0_2).bind fun bt786 => ((congoulaw04_same.f k bt779.1 bt779.2.1 bt779.2.2 bt786.1 bt786.2.1 bt786.2.2).bind fun t793 => (if t793 = true then (if t736 = 0 then ((congoulaw04_awake.f k).bind fun t794 => (congoulaw04_CurvesMirrors.j0 k t759 (!t794) a0_0 l0_1 l0_2 a1_0 l1_1 l1_2 t752 t753 t756)) else (congoulaw04_CurvesMirrors.j0 k t759 true a0_0 l0_1 l0_2 a1_0 l1_1 l1_2 t752 t753 t756)) else (congoulaw04_CurvesMirrors.j0 k t759 true a0_0 l0_1 l0_2 a1_0 l1_1 l1_2 t752 t753 t756))))) else ((congoulaw04_own.f t729 t730 t733).bind fun bt762 => ((congoulaw04_same.f k bt762.1 bt762.2.1 bt762.2.2 0 ([] : List Int) ([] : List Int)).bind fun t769 => (if t769 = true then ((congoulaw04_own.f t752 t753 t756).bind fun bt770 => ((congoulaw04_same.f k bt770.1 bt770.2.1 bt770.2.2 0 ([] : List Int) ([] : List Int)).bind fun t777 => (if t777 = true then (if t736 = 2 then (if t759 = 2 then ((congoulaw04_awake.f k).bind fun t778 => (some t778)) else (some false)) else (some false)) else (some false)))) else (some false)))))) = some r := H
 have A7 := Aside0.mk A70
 clear A70
 replace H := Option.bind_eq_some_iff.mp H
 obtain ⟨t761, A80, H⟩ := H
 replace H : (if t761 = true then ((congoulaw04_own.f t729 t730 t733).bind fun bt779 => ((congouref04_Mirror.f k a0_0 l0_1 l0_2).bind fun bt786 => ((congoulaw04_same.f k bt779.1 bt779.2.1 bt779.2.2 bt786.1 bt786.2.1 bt786.2.2).bind fun t793 => (if t793 = true then (if t736 = 0 then ((congoulaw04_awake.f k).bind fun t794 => (congoulaw04_CurvesMirrors.j0 k t759 (!t794) a0_0 l0_1 l0_2 a1_0 l1_1 l1_2 t752 t753 t756)) else (congoulaw04_CurvesMirrors.j0 k t759 true a0_0 l0_1 l0_2 a1_0 l1_1 l1_2 t752 t753 t756)) else (congoulaw04_CurvesMirrors.j0 k t759 true a0_0 l0_1 l0_2 a1_0 l1_1 l1_2 t752 t753 t756))))) else ((congoulaw04_own.f t729 t730 t733).bind fun bt762 => ((congoulaw04_same.f k bt762.1 bt762.2.1 bt762.2.2 0 ([] : List Int) ([] : List Int)).bind fun t769 => (if t769 = true then ((congoulaw04_own.f t752 t753 t756).bind fun bt770 => ((congoulaw04_same.f k bt770.1 bt770.2.1 bt770.2.2 0 ([] : List Int) ([] : List Int)).bind fun t777 => (if t777 = true then (if t736 = 2 then (if t759 = 2 then ((congoulaw04_awake.f k).bind fun t778 => (some t778)) else (some false)) else (some false)) else (some false)))) else (some false))))) = some r := H
 have A8 := Aside0.mk A80
 clear A80
 by_cases c9 : t761 = true
 rotate_left
 ·replace c9 := Bool.eq_false_iff.mpr c9
  subst c9
  have H1 : ((congoulaw04_own.f t729 t730 t733).bind fun bt762 => ((congoulaw04_same.f k bt762.1 bt762.2.1 bt762.2.2 0 ([] : List Int) ([] : List Int)).bind fun t769 => (if t769 = true then ((congoulaw04_own.f t752 t753 t756).bind fun bt770 => ((congoulaw04_same.f k bt770.1 bt770.2.1 bt770.2.2 0 ([] : List Int) ([] : List Int)).bind fun t777 => (if t777 = true then (if t736 = 2 then (if t759 = 2 then ((congoulaw04_awake.f k).bind fun t778 => (some t778)) else (some false)) else (some false)) else (some false)))) else (some false)))) = some r := by rw [if_neg (show ¬ (false = true) by decide)] at H; exact H
  clear H
  have H := H1
  clear H1
  replace H := Option.bind_eq_some_iff.mp H
  obtain ⟨⟨t762, t763, t766⟩, A1260, H⟩ := H
  replace H : ((congoulaw04_same.f k t762 t763 t766 0 ([] : List Int) ([] : List Int)).bind fun t769 => (if t769 = true then ((congoulaw04_own.f t752 t753 t756).bind fun bt770 => ((congoulaw04_same.f k bt770.1 bt770.2.1 bt770.2.2 0 ([] : List Int) ([] : List Int)).bind fun t777 => (if t777 = true then (if t736 = 2 then (if t759 = 2 then ((congoulaw04_awake.f k).bind fun t778 => (some t778)) else (some false)) else (some false)) else (some false)))) else (some false))) = some r := H
  have A126 := Aside0.mk A1260
  clear A1260
  replace H := Option.bind_eq_some_iff.mp H
  obtain ⟨t769, A1270, H⟩ := H
  replace H : (if t769 = true then ((congoulaw04_own.f t752 t753 t756).bind fun bt770 => ((congoulaw04_same.f k bt770.1 bt770.2.1 bt770.2.2 0 ([] : List Int) ([] : List Int)).bind fun t777 => (if t777 = true then (if t736 = 2 then (if t759 = 2 then ((congoulaw04_awake.f k).bind fun t778 => (some t778)) else (some false)) else (some false)) else (some false)))) else (some false)) = some r := H
  have A127 := Aside0.mk A1270
  clear A1270
  by_cases c128 : t769 = true
  rotate_left
  ·replace c128 := Bool.eq_false_iff.mpr c128
   subst c128
   have H1 : (some false) = some r := by rw [if_neg (show ¬ (false = true) by decide)] at H; exact H
   clear H
   have H := H1
   clear H1
   exact absurd (H.trans (congrArg some HRT.out)) (by simp)
  subst c128
  have H1 : ((congoulaw04_own.f t752 t753 t756).bind fun bt770 => ((congoulaw04_same.f k bt770.1 bt770.2.1 bt770.2.2 0 ([] : List Int) ([] : List Int)).bind fun t777 => (if t777 = true then (if t736 = 2 then (if t759 = 2 then ((congoulaw04_awake.f k).bind fun t778 => (some t778)) else (some false)) else (some false)) else (some false)))) = some r := by rw [if_pos rfl] at H; exact H
  clear H
  have H := H1
  clear H1
  replace H := Option.bind_eq_some_iff.mp H
  obtain ⟨⟨t770, t771, t774⟩, A1290, H⟩ := H
  replace H : ((congoulaw04_same.f k t770 t771 t774 0 ([] : List Int) ([] : List Int)).bind fun t777 => (if t777 = true then (if t736 = 2 then (if t759 = 2 then ((congoulaw04_awake.f k).bind fun t778 => (some t778)) else (some false)) else (some false)) else (some false))) = some r := H
  have A129 := Aside0.mk A1290
  clear A1290
  replace H := Option.bind_eq_some_iff.mp H
  obtain ⟨t777, A1300, H⟩ := H
  replace H : (if t777 = true then (if t736 = 2 then (if t759 = 2 then ((congoulaw04_awake.f k).bind fun t778 => (some t778)) else (some false)) else (some false)) else (some false)) = some r := H
  have A130 := Aside0.mk A1300
  clear A1300
  by_cases c131 : t777 = true
  rotate_left
  ·replace c131 := Bool.eq_false_iff.mpr c131
   subst c131
   have H1 : (some false) = some r := by rw [if_neg (show ¬ (false = true) by decide)] at H; exact H
   clear H
   have H := H1
   clear H1
   exact absurd (H.trans (congrArg some HRT.out)) (by simp)
  subst c131
  have H1 : (if t736 = 2 then (if t759 = 2 then ((congoulaw04_awake.f k).bind fun t778 => (some t778)) else (some false)) else (some false)) = some r := by rw [if_pos rfl] at H; exact H
  clear H
  have H := H1
  clear H1
  by_cases c132 : t736 = 2
  rotate_left
  ·rw [if_neg c132] at H
   have c132b0 : (t736 == 2) = false := beq_eq_false_iff_ne.mpr c132
   have c132b1 : (t736 != 2) = true := bne_iff_ne.mpr c132
   exact absurd (H.trans (congrArg some HRT.out)) (by simp)
  rw [if_pos c132] at H
  have c132b0 : (t736 == 2) = true := beq_iff_eq.mpr c132
  have c132b1 : (t736 != 2) = false := bne_eq_false_iff_eq.mpr c132
  clear c132
  by_cases c133 : t759 = 2
  rotate_left
  ·rw [if_neg c133] at H
   have c133b0 : (t759 == 2) = false := beq_eq_false_iff_ne.mpr c133
   have c133b1 : (t759 != 2) = true := bne_iff_ne.mpr c133
   exact absurd (H.trans (congrArg some HRT.out)) (by simp)
  rw [if_pos c133] at H
  have c133b0 : (t759 == 2) = true := beq_iff_eq.mpr c133
  have c133b1 : (t759 != 2) = false := bne_eq_false_iff_eq.mpr c133
  clear c133
  replace H := Option.bind_eq_some_iff.mp H
  obtain ⟨t778, A1340, H⟩ := H
  replace H : (some t778) = some r := H
  have A134 := Aside0.mk A1340
  clear A1340
  obtain rfl := Option.some.inj H
  go_enter Try.func9, Try.ntmps9
  try go_wp2_with (first | ((with_reducible refine gate_dst (N := 2) rfl ?_); refine bE 2 #[.int .i64 a0_0, .slice A0_1 l0_1.length c0_1, .slice A0_2 l0_2.length c0_2] 24 ?_; intro gb720 hg w135 hbox hb; have BK720 := ak (hbox); have GW720 := kG w hg; have GE720 := kG w hg; replace HB := kH _ hb; clear hb hbox hg) | ((with_reducible refine gate_dst (N := 3) rfl ?_); refine bE 3 #[.int .i64 a1_0, .slice A1_1 l1_1.length c1_1, .slice A1_2 l1_2.length c1_2] 24 ?_; intro gb721 hg w136 hbox hb; have BK721 := ak (hbox); have GW721 := kG w hg; have GE721 := kG w hg; replace HB := kH _ hb; have NB720_721 := kL BK720 hg; have NB721_720 := kR BK720 hg; replace BK720 := kB BK720 hb; clear hb hbox hg; have hnb137 := NB720_721.out; have hnc137 := NB721_720.out; have hcz138_0 : w136.cell? ⟨gb720, 0, none⟩ = some (.int .i64 a0_0) := bc BK720 0; have hcz138_1 : w136.cell? ⟨gb720, 1, none⟩ = some (.slice A0_1 l0_1.length c0_1) := bc BK720 1; have hcz138_2 : w136.cell? ⟨gb720, 2, none⟩ = some (.slice A0_2 l0_2.length c0_2) := bc BK720 2; have hfz138_0 := fz BK720 0; have hfz138_1 := fz BK720 1; have hfz138_2 := fz BK720 2) | ((with_reducible refine gate_callee (f := 15) rfl ?_); refine gL 13 Try.func15 #[.agg #[.int .i64 a0_0, .slice A0_1 l0_1.length c0_1, .slice A0_2 l0_2.length c0_2]] ?_; (with_reducible refine (congoulaw04_Of.calls a0_0 _ _ l0_1 _ _ l0_2 t722 t723 t726 _ ?side1 ?side2 ?side3 ?side4 A3.out).mono ?_); (case side1 => exact kC HR0_1); (case side2 => exact HC0_1.out); (case side3 => exact kC HR0_2); (case side4 => exact HC0_2.out); rintro e w139 ⟨v724, v727, rfl, ho0, ho1, hb⟩; refine ⟨_, rfl, ?_⟩; have HO725 := ak (Kd.R_lower ho0 (below_size (hbC _))); have HO728 := ak (Kd.R_lower ho1 (below_size (hbC _))); replace BK720 := kB BK720 hb; replace BK721 := kB BK721 hb; replace HB := kH _ hb; (try clear hb); (try clear hb2); (try clear hk); (try clear hi); (try clear ho0); (try clear ho1); obtain ⟨Ao140, co140, eo140⟩ := Kd.R_slice HO725.out; subst eo140; obtain ⟨Ao141, co141, eo141⟩ := Kd.R_slice HO728.out; subst eo141) | ((with_reducible refine gate_callee (f := 28) rfl ?_); refine gL 14 Try.func28 #[.agg #[.int .i64 t722, .slice Ao140 t723.length co140, .slice Ao141 t726.length co141]] ?_; (with_reducible refine (curves_Mirror.calls k t722 _ _ t723 _ _ t726 t729 t730 t733 t736 _ ?side1 ?side2 ?side3 ?side4 A4.out).mono ?_); (case side1 => exact kD (Kd.R_reads' HO725.out).2.2); (case side2 => exact (Kd.R_reads' HO725.out).2.1); (case side3 => exact kD (Kd.R_reads' HO728.out).2.2); (case side4 => exact (Kd.R_reads' HO728.out).2.1); rintro e w142 ⟨v731, v734, rfl, ho0, ho1, hb⟩; refine ⟨_, rfl, ?_⟩; have HO732 := ak (Kd.R_lower (Kd.R_new' (Kd.R_new' ho0 (Kd.R_lt (rC HO725))) (Kd.R_lt (rC HO728))) (below_size (hbC _))); have HO735 := ak (Kd.R_lower (Kd.R_new' (Kd.R_new' ho1 (Kd.R_lt (rC HO725))) (Kd.R_lt (rC HO728))) (below_size (hbC _))); replace HO725 := kT HO725 hb ho0 ho1; replace HO728 := kT HO728 hb ho0 ho1; replace BK720 := kB BK720 hb; replace BK721 := kB BK721 hb; replace HB := kH _ hb; (try clear hb); (try clear hb2); (try clear hk); (try clear hi); (try clear ho0); (try clear ho1)) | ((with_reducible refine gate_dst (N := 5) rfl ?_); refine bE 5 #[.int .i64 0, .slice none 0 0, .slice none 0 0] 30 ?_; intro gb737 hg w143 hbox hb; replace HO725 := kO HO725 hb; replace HO728 := kO HO728 hb; replace HO732 := kO HO732 hb; replace HO735 := kO HO735 hb; have BK737 := ak (hbox); have GW737 := kG w hg; have GE737 := kG w hg; replace HB := kH _ hb; have NB720_737 := kL BK720 hg; have NB737_720 := kR BK720 hg; replace BK720 := kB BK720 hb; have NB721_737 := kL BK721 hg; have NB737_721 := kR BK721 hg; replace BK721 := kB BK721 hb; clear hb hbox hg; have hnb144 := NB737_720.out; have hnc144 := NB720_737.out; have hnb145 := NB737_721.out; have hnc145 := NB721_737.out; have hcz146_0 : w143.cell? ⟨gb737, 0, none⟩ = some (.int .i64 0) := bc BK737 0; have hcz146_1 : w143.cell? ⟨gb737, 1, none⟩ = some (.slice none 0 0) := bc BK737 1; have hcz146_2 : w143.cell? ⟨gb737, 2, none⟩ = some (.slice none 0 0) := bc BK737 2; have hfz146_0 := fz BK737 0; have hfz146_1 := fz BK737 1; have hfz146_2 := fz BK737 2; obtain ⟨Ao147, co147, eo147⟩ := Kd.R_slice HO732.out; subst eo147; obtain ⟨Ao148, co148, eo148⟩ := Kd.R_slice HO735.out; subst eo148))
  have n0_ : Aside0 (Kd.R (Kd.int .i64) 3 (((w143.setCell ⟨gb737, 0, none⟩ (.int .i64 t729)).setCell ⟨gb737, 1, none⟩ (.slice Ao147 t730.length co147)).setCell ⟨gb737, 2, none⟩ (.slice Ao148 t733.length co148)) w.heap.size (fun k_ => nb k_ (.slice Ao141 t726.length co141) ∧ nb k_ (.slice Ao147 t730.length co147) ∧ nb k_ (.slice Ao148 t733.length co148)) (.slice Ao140 t723.length co140) t723) := ⟨rD (Kd.R_mono (Kd.R_far (p := ⟨gb737, 2, none⟩) (Kd.R_far (p := ⟨gb737, 1, none⟩) (Kd.R_far (p := ⟨gb737, 0, none⟩) (Kd.R_types HO725.out BK737.out (by decide)) (fun _ hk => hk.2) (.int .i64 t729)) (fun _ hk => hk.2) (.slice Ao147 t730.length co147)) (fun _ hk => hk.2) (.slice Ao148 t733.length co148)) (fun _ hk => ⟨hk.1.1.1, ⟨hk.1.1.2, hk.1.2⟩⟩))⟩
  have n1_ : Aside0 (Kd.R (Kd.int .i64) 3 (((w143.setCell ⟨gb737, 0, none⟩ (.int .i64 t729)).setCell ⟨gb737, 1, none⟩ (.slice Ao147 t730.length co147)).setCell ⟨gb737, 2, none⟩ (.slice Ao148 t733.length co148)) w.heap.size (fun k_ => nb k_ (.slice Ao140 t723.length co140) ∧ nb k_ (.slice Ao147 t730.length co147) ∧ nb k_ (.slice Ao148 t733.length co148)) (.slice Ao141 t726.length co141) t726) := ⟨rD (Kd.R_mono (Kd.R_far (p := ⟨gb737, 2, none⟩) (Kd.R_far (p := ⟨gb737, 1, none⟩) (Kd.R_far (p := ⟨gb737, 0, none⟩) (Kd.R_types HO728.out BK737.out (by decide)) (fun _ hk => hk.2) (.int .i64 t729)) (fun _ hk => hk.2) (.slice Ao147 t730.length co147)) (fun _ hk => hk.2) (.slice Ao148 t733.length co148)) (fun _ hk => ⟨hk.1.1.1, ⟨hk.1.1.2, hk.1.2⟩⟩))⟩
  have n2_ : Aside0 (Kd.R (Kd.int .i64) 3 (((w143.setCell ⟨gb737, 0, none⟩ (.int .i64 t729)).setCell ⟨gb737, 1, none⟩ (.slice Ao147 t730.length co147)).setCell ⟨gb737, 2, none⟩ (.slice Ao148 t733.length co148)) w.heap.size (fun k_ => nb k_ (.slice Ao140 t723.length co140) ∧ nb k_ (.slice Ao141 t726.length co141) ∧ nb k_ (.slice Ao148 t733.length co148)) (.slice Ao147 t730.length co147) t730) := ⟨rD (Kd.R_mono (Kd.R_far (p := ⟨gb737, 2, none⟩) (Kd.R_far (p := ⟨gb737, 1, none⟩) (Kd.R_far (p := ⟨gb737, 0, none⟩) (Kd.R_types HO732.out BK737.out (by decide)) (fun _ hk => hk.2) (.int .i64 t729)) (fun _ hk => hk.2) (.slice Ao147 t730.length co147)) (fun _ hk => hk.2) (.slice Ao148 t733.length co148)) (fun _ hk => ⟨hk.1.1.2, ⟨hk.1.2, hk.1.1.1⟩⟩))⟩
  have n3_ : Aside0 (Kd.R (Kd.int .i64) 3 (((w143.setCell ⟨gb737, 0, none⟩ (.int .i64 t729)).setCell ⟨gb737, 1, none⟩ (.slice Ao147 t730.length co147)).setCell ⟨gb737, 2, none⟩ (.slice Ao148 t733.length co148)) w.heap.size (fun k_ => nb k_ (.slice Ao140 t723.length co140) ∧ nb k_ (.slice Ao141 t726.length co141) ∧ nb k_ (.slice Ao147 t730.length co147)) (.slice Ao148 t733.length co148) t733) := ⟨rD (Kd.R_mono (Kd.R_far (p := ⟨gb737, 2, none⟩) (Kd.R_far (p := ⟨gb737, 1, none⟩) (Kd.R_far (p := ⟨gb737, 0, none⟩) (Kd.R_types HO735.out BK737.out (by decide)) (fun _ hk => hk.2) (.int .i64 t729)) (fun _ hk => hk.2) (.slice Ao147 t730.length co147)) (fun _ hk => hk.2) (.slice Ao148 t733.length co148)) (fun _ hk => ⟨hk.1.1.2, ⟨hk.1.2, hk.1.1.1⟩⟩))⟩
  have n4_ : Aside0 ((((w143.setCell ⟨gb737, 0, none⟩ (.int .i64 t729)).setCell ⟨gb737, 1, none⟩ (.slice Ao147 t730.length co147)).setCell ⟨gb737, 2, none⟩ (.slice Ao148 t733.length co148)).heap[gb720]? = some (.cells #[.int .i64 a0_0, .slice A0_1 l0_1.length c0_1, .slice A0_2 l0_2.length c0_2] 24 (0, 0))) := ⟨bF BK720⟩
  have n5_ : Aside0 ((((w143.setCell ⟨gb737, 0, none⟩ (.int .i64 t729)).setCell ⟨gb737, 1, none⟩ (.slice Ao147 t730.length co147)).setCell ⟨gb737, 2, none⟩ (.slice Ao148 t733.length co148)).heap[gb721]? = some (.cells #[.int .i64 a1_0, .slice A1_1 l1_1.length c1_1, .slice A1_2 l1_2.length c1_2] 24 (0, 0))) := ⟨bF BK721⟩
  have n6_ : Aside0 ((((w143.setCell ⟨gb737, 0, none⟩ (.int .i64 t729)).setCell ⟨gb737, 1, none⟩ (.slice Ao147 t730.length co147)).setCell ⟨gb737, 2, none⟩ (.slice Ao148 t733.length co148)).heap[gb737]? = some (.cells #[.int .i64 t729, .slice Ao147 t730.length co147, .slice Ao148 t733.length co148] 30 (0, 0))) := ⟨by (with_reducible repeat (first | refine blk_drewN ?_ _ | refine blk_drew ?_ | refine blk_alloc ?_ _)); refine blk_put (cs := #[.int .i64 t729, .slice Ao147 t730.length co147, .slice none 0 0]) ?_ 2 _ rfl; (with_reducible repeat (first | refine blk_drewN ?_ _ | refine blk_drew ?_ | refine blk_alloc ?_ _)); refine blk_put (cs := #[.int .i64 t729, .slice none 0 0, .slice none 0 0]) ?_ 1 _ rfl; (with_reducible repeat (first | refine blk_drewN ?_ _ | refine blk_drew ?_ | refine blk_alloc ?_ _)); refine blk_put (cs := #[.int .i64 0, .slice none 0 0, .slice none 0 0]) ?_ 0 _ rfl; (with_reducible repeat (first | refine blk_drewN ?_ _ | refine blk_drew ?_ | refine blk_alloc ?_ _)); exact BK737.out⟩
  have n7_ : Aside0 (Below w.heap.size w (((w143.setCell ⟨gb737, 0, none⟩ (.int .i64 t729)).setCell ⟨gb737, 1, none⟩ (.slice Ao147 t730.length co147)).setCell ⟨gb737, 2, none⟩ (.slice Ao148 t733.length co148))) := ⟨hbC _⟩
  (try clear HO725)
  (try clear HO728)
  (try clear HO732)
  (try clear HO735)
  (try clear BK720)
  (try clear BK721)
  (try clear BK737)
  (try clear HB)
  generalize (((w143.setCell ⟨gb737, 0, none⟩ (.int .i64 t729)).setCell ⟨gb737, 1, none⟩ (.slice Ao147 t730.length co147)).setCell ⟨gb737, 2, none⟩ (.slice Ao148 t733.length co148)) = w149 at n0_ n1_ n2_ n3_ n4_ n5_ n6_ n7_ ⊢
  have HO725 := n0_
  have HO728 := n1_
  have HO732 := n2_
  have HO735 := n3_
  have BK720 := n4_
  have BK721 := n5_
  have BK737 := n6_
  have HB := n7_
  clear n0_ n1_ n2_ n3_ n4_ n5_ n6_ n7_
  replace HO725 := ak (Kd.R_drew HO725.out)
  replace HO728 := ak (Kd.R_drew HO728.out)
  replace HO732 := ak (Kd.R_drew HO732.out)
  replace HO735 := ak (Kd.R_drew HO735.out)
  replace BK720 := kd BK720
  replace BK721 := kd BK721
  replace BK737 := kd BK737
  replace HB := ak (below_drew1 HB.out)
  refine sS (n := 11) (S := fun w' => w'.cell? ⟨gb720, 0, none⟩ = some (.int .i64 a0_0) ∧ w'.cell? ⟨gb720, 1, none⟩ = some (.slice A0_1 l0_1.length c0_1) ∧ w'.cell? ⟨gb720, 2, none⟩ = some (.slice A0_2 l0_2.length c0_2) ∧ w'.cell? ⟨gb721, 0, none⟩ = some (.int .i64 a1_0) ∧ w'.cell? ⟨gb721, 1, none⟩ = some (.slice A1_1 l1_1.length c1_1) ∧ w'.cell? ⟨gb721, 2, none⟩ = some (.slice A1_2 l1_2.length c1_2)) (ds := []) ⟨bc BK720 0, bc BK720 1, bc BK720 2, bc BK721 0, bc BK721 1, bc BK721 2⟩ (fun hHeld => ?_); refine with_tabW congoulaw04_CurvesMirrors.tab2 congoulaw04_CurvesMirrors.bits2 (fun HT_ HW_ => ?_)
  generalize w149.drew = w150 at HO725 HO728 HO732 HO735 BK720 BK721 BK737 HB hHeld ⊢
  refine tS 0 18 11 1 ?_
  refine tS 2 20 11 5 ?_
  refine join_ (σ := Value × Value × Value × Value × Value × Value × Nat) 2 (ba 11 511) (fun s_ => [(19, .agg #[.int .i64 t738, s_.1, s_.2.1]), (21, .agg #[.int .i64 t745, s_.2.2.1, s_.2.2.2.1]), (22, .tuple #[.agg #[.int .i64 t752, s_.2.2.2.2.1, s_.2.2.2.2.2.1], .int .i64 t759]), (7, .pointer (some ⟨s_.2.2.2.2.2.2, 0, none⟩)), (17, .tuple #[.agg #[.int .i64 t752, s_.2.2.2.2.1, s_.2.2.2.2.2.1], .int .i64 t759]), (23, .agg #[.int .i64 t752, s_.2.2.2.2.1, s_.2.2.2.2.2.1]), (24, .int .i64 t759)]) (fun s_ w' => (w'.cell? ⟨gb720, 0, none⟩ = some (.int .i64 a0_0) ∧ w'.cell? ⟨gb720, 1, none⟩ = some (.slice A0_1 l0_1.length c0_1) ∧ w'.cell? ⟨gb720, 2, none⟩ = some (.slice A0_2 l0_2.length c0_2) ∧ w'.cell? ⟨gb721, 0, none⟩ = some (.int .i64 a1_0) ∧ w'.cell? ⟨gb721, 1, none⟩ = some (.slice A1_1 l1_1.length c1_1) ∧ w'.cell? ⟨gb721, 2, none⟩ = some (.slice A1_2 l1_2.length c1_2)) ∧ (Kd.R (Kd.int .i64) 3 w' w.heap.size (fun k_ => nb k_ (.slice Ao141 t726.length co141) ∧ nb k_ (.slice Ao147 t730.length co147) ∧ nb k_ (.slice Ao148 t733.length co148) ∧ some k_ ≠ (s_.1 : Value).ownBlock ∧ some k_ ≠ (s_.2.1 : Value).ownBlock ∧ some k_ ≠ (s_.2.2.1 : Value).ownBlock ∧ some k_ ≠ (s_.2.2.2.1 : Value).ownBlock ∧ some k_ ≠ (s_.2.2.2.2.1 : Value).ownBlock ∧ some k_ ≠ (s_.2.2.2.2.2.1 : Value).ownBlock) (.slice Ao140 t723.length co140) t723) ∧ (Kd.R (Kd.int .i64) 3 w' w.heap.size (fun k_ => nb k_ (.slice Ao140 t723.length co140) ∧ nb k_ (.slice Ao147 t730.length co147) ∧ nb k_ (.slice Ao148 t733.length co148) ∧ some k_ ≠ (s_.1 : Value).ownBlock ∧ some k_ ≠ (s_.2.1 : Value).ownBlock ∧ some k_ ≠ (s_.2.2.1 : Value).ownBlock ∧ some k_ ≠ (s_.2.2.2.1 : Value).ownBlock ∧ some k_ ≠ (s_.2.2.2.2.1 : Value).ownBlock ∧ some k_ ≠ (s_.2.2.2.2.2.1 : Value).ownBlock) (.slice Ao141 t726.length co141) t726) ∧ (Kd.R (Kd.int .i64) 3 w' w.heap.size (fun k_ => nb k_ (.slice Ao140 t723.length co140) ∧ nb k_ (.slice Ao141 t726.length co141) ∧ nb k_ (.slice Ao148 t733.length co148) ∧ some k_ ≠ (s_.1 : Value).ownBlock ∧ some k_ ≠ (s_.2.1 : Value).ownBlock ∧ some k_ ≠ (s_.2.2.1 : Value).ownBlock ∧ some k_ ≠ (s_.2.2.2.1 : Value).ownBlock ∧ some k_ ≠ (s_.2.2.2.2.1 : Value).ownBlock ∧ some k_ ≠ (s_.2.2.2.2.2.1 : Value).ownBlock) (.slice Ao147 t730.length co147) t730) ∧ (Kd.R (Kd.int .i64) 3 w' w.heap.size (fun k_ => nb k_ (.slice Ao140 t723.length co140) ∧ nb k_ (.slice Ao141 t726.length co141) ∧ nb k_ (.slice Ao147 t730.length co147) ∧ some k_ ≠ (s_.1 : Value).ownBlock ∧ some k_ ≠ (s_.2.1 : Value).ownBlock ∧ some k_ ≠ (s_.2.2.1 : Value).ownBlock ∧ some k_ ≠ (s_.2.2.2.1 : Value).ownBlock ∧ some k_ ≠ (s_.2.2.2.2.1 : Value).ownBlock ∧ some k_ ≠ (s_.2.2.2.2.2.1 : Value).ownBlock) (.slice Ao148 t733.length co148) t733) ∧ (Kd.R (Kd.int .i64) 3 w' w.heap.size (fun k_ => nb k_ (.slice Ao140 t723.length co140) ∧ nb k_ (.slice Ao141 t726.length co141) ∧ nb k_ (.slice Ao147 t730.length co147) ∧ nb k_ (.slice Ao148 t733.length co148) ∧ some k_ ≠ (s_.2.1 : Value).ownBlock ∧ some k_ ≠ (s_.2.2.1 : Value).ownBlock ∧ some k_ ≠ (s_.2.2.2.1 : Value).ownBlock ∧ some k_ ≠ (s_.2.2.2.2.1 : Value).ownBlock ∧ some k_ ≠ (s_.2.2.2.2.2.1 : Value).ownBlock) s_.1 t739) ∧ (Kd.R (Kd.int .i64) 3 w' w.heap.size (fun k_ => nb k_ (.slice Ao140 t723.length co140) ∧ nb k_ (.slice Ao141 t726.length co141) ∧ nb k_ (.slice Ao147 t730.length co147) ∧ nb k_ (.slice Ao148 t733.length co148) ∧ some k_ ≠ (s_.1 : Value).ownBlock ∧ some k_ ≠ (s_.2.2.1 : Value).ownBlock ∧ some k_ ≠ (s_.2.2.2.1 : Value).ownBlock ∧ some k_ ≠ (s_.2.2.2.2.1 : Value).ownBlock ∧ some k_ ≠ (s_.2.2.2.2.2.1 : Value).ownBlock) s_.2.1 t742) ∧ (Kd.R (Kd.int .i64) 3 w' w.heap.size (fun k_ => nb k_ (.slice Ao140 t723.length co140) ∧ nb k_ (.slice Ao141 t726.length co141) ∧ nb k_ (.slice Ao147 t730.length co147) ∧ nb k_ (.slice Ao148 t733.length co148) ∧ some k_ ≠ (s_.1 : Value).ownBlock ∧ some k_ ≠ (s_.2.1 : Value).ownBlock ∧ some k_ ≠ (s_.2.2.2.1 : Value).ownBlock ∧ some k_ ≠ (s_.2.2.2.2.1 : Value).ownBlock ∧ some k_ ≠ (s_.2.2.2.2.2.1 : Value).ownBlock) s_.2.2.1 t746) ∧ (Kd.R (Kd.int .i64) 3 w' w.heap.size (fun k_ => nb k_ (.slice Ao140 t723.length co140) ∧ nb k_ (.slice Ao141 t726.length co141) ∧ nb k_ (.slice Ao147 t730.length co147) ∧ nb k_ (.slice Ao148 t733.length co148) ∧ some k_ ≠ (s_.1 : Value).ownBlock ∧ some k_ ≠ (s_.2.1 : Value).ownBlock ∧ some k_ ≠ (s_.2.2.1 : Value).ownBlock ∧ some k_ ≠ (s_.2.2.2.2.1 : Value).ownBlock ∧ some k_ ≠ (s_.2.2.2.2.2.1 : Value).ownBlock) s_.2.2.2.1 t749) ∧ (Kd.R (Kd.int .i64) 3 w' w.heap.size (fun k_ => nb k_ (.slice Ao140 t723.length co140) ∧ nb k_ (.slice Ao141 t726.length co141) ∧ nb k_ (.slice Ao147 t730.length co147) ∧ nb k_ (.slice Ao148 t733.length co148) ∧ some k_ ≠ (s_.1 : Value).ownBlock ∧ some k_ ≠ (s_.2.1 : Value).ownBlock ∧ some k_ ≠ (s_.2.2.1 : Value).ownBlock ∧ some k_ ≠ (s_.2.2.2.1 : Value).ownBlock ∧ some k_ ≠ (s_.2.2.2.2.2.1 : Value).ownBlock) s_.2.2.2.2.1 t753) ∧ (Kd.R (Kd.int .i64) 3 w' w.heap.size (fun k_ => nb k_ (.slice Ao140 t723.length co140) ∧ nb k_ (.slice Ao141 t726.length co141) ∧ nb k_ (.slice Ao147 t730.length co147) ∧ nb k_ (.slice Ao148 t733.length co148) ∧ some k_ ≠ (s_.1 : Value).ownBlock ∧ some k_ ≠ (s_.2.1 : Value).ownBlock ∧ some k_ ≠ (s_.2.2.1 : Value).ownBlock ∧ some k_ ≠ (s_.2.2.2.1 : Value).ownBlock ∧ some k_ ≠ (s_.2.2.2.2.1 : Value).ownBlock) s_.2.2.2.2.2.1 t756) ∧ (w'.heap[gb720]? = some (.cells #[.int .i64 a0_0, .slice A0_1 l0_1.length c0_1, .slice A0_2 l0_2.length c0_2] 24 (0, 0))) ∧ (w'.heap[gb721]? = some (.cells #[.int .i64 a1_0, .slice A1_1 l1_1.length c1_1, .slice A1_2 l1_2.length c1_2] 24 (0, 0))) ∧ (w'.heap[gb737]? = some (.cells #[.int .i64 t729, .slice Ao147 t730.length co147, .slice Ao148 t733.length co148] 30 (0, 0))) ∧ (w'.heap[s_.2.2.2.2.2.2]? = some (.cells #[.int .i64 0, .slice none 0 0, .slice none 0 0] 30 (0, 0))) ∧ (w.heap.size ≤ s_.2.2.2.2.2.2) ∧ (w.heap.size ≤ s_.2.2.2.2.2.2) ∧ (gb720 ≠ s_.2.2.2.2.2.2) ∧ (s_.2.2.2.2.2.2 ≠ gb720) ∧ (gb721 ≠ s_.2.2.2.2.2.2) ∧ (s_.2.2.2.2.2.2 ≠ gb721) ∧ (gb737 ≠ s_.2.2.2.2.2.2) ∧ (s_.2.2.2.2.2.2 ≠ gb737) ∧ (Below w.heap.size w w')) ?_ ?_
  rotate_left
  ·intro hCont
   refine two_ (i := 1) (j := 8) (Ni := some 19) (Nj := some 7) (ba 11 7) (ba 11 261) rfl rfl rfl rfl (two_of HT_.out (by kernel_rfl)) (by decide) (by decide) (fun K hK => ?_) (fun K hK => ?_)
   ·skip
    refine gC Try.func15 #[.agg #[.int .i64 a0_0, .slice A0_1 l0_1.length c0_1, .slice A0_2 l0_2.length c0_2]] ?_
    with_reducible refine (congoulaw04_Of.calls a0_0 _ _ l0_1 _ _ l0_2 t738 t739 t742 _ ?side1 ?side2 ?side3 ?side4 A5.out).mono ?_
    (case side1 => exact kC HR0_1)
    (case side2 => exact HC0_1.out)
    (case side3 => exact kC HR0_2)
    (case side4 => exact HC0_2.out)
    rintro e w151 ⟨v740, v743, rfl, ho0, ho1, hb⟩
    refine ⟨_, rfl, ?_⟩
    have HO741 := ak (Kd.R_lower (Kd.R_new' (Kd.R_new' (Kd.R_new' (Kd.R_new' ho0 (Kd.R_lt (rC HO725))) (Kd.R_lt (rC HO728))) (Kd.R_lt (rC HO732))) (Kd.R_lt (rC HO735))) (below_size (hbC _)))
    have HO744 := ak (Kd.R_lower (Kd.R_new' (Kd.R_new' (Kd.R_new' (Kd.R_new' ho1 (Kd.R_lt (rC HO725))) (Kd.R_lt (rC HO728))) (Kd.R_lt (rC HO732))) (Kd.R_lt (rC HO735))) (below_size (hbC _)))
    replace HO725 := kT HO725 hb ho0 ho1
    replace HO728 := kT HO728 hb ho0 ho1
    replace HO732 := kT HO732 hb ho0 ho1
    replace HO735 := kT HO735 hb ho0 ho1
    replace BK720 := kB BK720 hb
    replace BK721 := kB BK721 hb
    replace BK737 := kB BK737 hb
    replace HB := kH _ hb
    (try clear hb)
    (try clear hb2)
    (try clear hk)
    (try clear hi)
    (try clear ho0)
    (try clear ho1)
    refine hK.out _ _ ⟨bc BK720 0, bc BK720 1, bc BK720 2, bc BK721 0, bc BK721 1, bc BK721 2⟩ (fun hHeld => ?_)
    clear hK K
    refine norm_ (a' := ?_) ?_ ?_
    rotate_left
    ·show Act.put _ (some 19) _ = _
     simp only [Act.put, List.setIfInBounds_toArray, List.set_cons_zero, List.set_cons_succ, i64_w, i32_w]
     rfl
    refine two_ (i := 3) (j := 8) (Ni := some 21) (Nj := some 7) (ba 11 15) (ba 11 263) rfl rfl rfl rfl (two_of HT_.out (by kernel_rfl)) (by decide) (by decide) (fun K hK => ?_) (fun K hK => ?_)
    ·skip
     refine gC Try.func15 #[.agg #[.int .i64 a1_0, .slice A1_1 l1_1.length c1_1, .slice A1_2 l1_2.length c1_2]] ?_
     with_reducible refine (congoulaw04_Of.calls a1_0 _ _ l1_1 _ _ l1_2 t745 t746 t749 _ ?side1 ?side2 ?side3 ?side4 A6.out).mono ?_
     (case side1 => exact kC HR1_1)
     (case side2 => exact HC1_1.out)
     (case side3 => exact kC HR1_2)
     (case side4 => exact HC1_2.out)
     rintro e w152 ⟨v747, v750, rfl, ho0, ho1, hb⟩
     refine ⟨_, rfl, ?_⟩
     have HO748 := ak (Kd.R_lower (Kd.R_new' (Kd.R_new' (Kd.R_new' (Kd.R_new' (Kd.R_new' (Kd.R_new' ho0 (Kd.R_lt (rC HO725))) (Kd.R_lt (rC HO728))) (Kd.R_lt (rC HO732))) (Kd.R_lt (rC HO735))) (Kd.R_lt (rC HO741))) (Kd.R_lt (rC HO744))) (below_size (hbC _)))
     have HO751 := ak (Kd.R_lower (Kd.R_new' (Kd.R_new' (Kd.R_new' (Kd.R_new' (Kd.R_new' (Kd.R_new' ho1 (Kd.R_lt (rC HO725))) (Kd.R_lt (rC HO728))) (Kd.R_lt (rC HO732))) (Kd.R_lt (rC HO735))) (Kd.R_lt (rC HO741))) (Kd.R_lt (rC HO744))) (below_size (hbC _)))
     replace HO725 := kT HO725 hb ho0 ho1
     replace HO728 := kT HO728 hb ho0 ho1
     replace HO732 := kT HO732 hb ho0 ho1
     replace HO735 := kT HO735 hb ho0 ho1
     replace HO741 := kT HO741 hb ho0 ho1
     replace HO744 := kT HO744 hb ho0 ho1
     replace BK720 := kB BK720 hb
     replace BK721 := kB BK721 hb
     replace BK737 := kB BK737 hb
     replace HB := kH _ hb
     (try clear hb)
     (try clear hb2)
     (try clear hk)
     (try clear hi)
     (try clear ho0)
     (try clear ho1)
     obtain ⟨Ao153, co153, eo153⟩ := Kd.R_slice HO741.out
     (first | subst eo153 | (injection eo153 with f1_ f2_ f3_; have f4_ := f1_.symm; have f5_ := f3_.symm; clear f1_ f2_ f3_; subst f4_; subst f5_))
     obtain ⟨Ao154, co154, eo154⟩ := Kd.R_slice HO744.out
     (first | subst eo154 | (injection eo154 with f1_ f2_ f3_; have f4_ := f1_.symm; have f5_ := f3_.symm; clear f1_ f2_ f3_; subst f4_; subst f5_))
     obtain ⟨Ao155, co155, eo155⟩ := Kd.R_slice HO748.out
     (first | subst eo155 | (injection eo155 with f1_ f2_ f3_; have f4_ := f1_.symm; have f5_ := f3_.symm; clear f1_ f2_ f3_; subst f4_; subst f5_))
     obtain ⟨Ao156, co156, eo156⟩ := Kd.R_slice HO751.out
     (first | subst eo156 | (injection eo156 with f1_ f2_ f3_; have f4_ := f1_.symm; have f5_ := f3_.symm; clear f1_ f2_ f3_; subst f4_; subst f5_))
     refine hK.out _ _ ⟨bc BK720 0, bc BK720 1, bc BK720 2, bc BK721 0, bc BK721 1, bc BK721 2⟩ (fun hHeld => ?_)
     clear hK K
     refine norm_ (a' := ?_) ?_ ?_
     rotate_left
     ·show Act.put _ (some 21) _ = _
      simp only [Act.put, List.setIfInBounds_toArray, List.set_cons_zero, List.set_cons_succ, i64_w, i32_w]
      rfl
     refine two_ (i := 4) (j := 8) (Ni := some 22) (Nj := some 7) (ba 11 31) (ba 11 271) rfl rfl rfl rfl (two_of HT_.out (by kernel_rfl)) (by decide) (by decide) (fun K hK => ?_) (fun K hK => ?_)
     ·skip
      refine gC Try.func35 #[.agg #[.int .i64 t738, .slice Ao153 t739.length co153, .slice Ao154 t742.length co154], .agg #[.int .i64 t745, .slice Ao155 t746.length co155, .slice Ao156 t749.length co156]] ?_
      with_reducible refine (curves_Plus.calls k t738 _ _ t739 _ _ t742 t745 _ _ t746 _ _ t749 t752 t753 t756 t759 _ ?side1 ?side2 ?side3 ?side4 ?side5 ?side6 ?side7 ?side8 A7.out).mono ?_
      (case side1 => exact kD (Kd.R_reads' HO741.out).2.2)
      (case side2 => exact (Kd.R_reads' HO741.out).2.1)
      (case side3 => exact kD (Kd.R_reads' HO744.out).2.2)
      (case side4 => exact (Kd.R_reads' HO744.out).2.1)
      (case side5 => exact kD (Kd.R_reads' HO748.out).2.2)
      (case side6 => exact (Kd.R_reads' HO748.out).2.1)
      (case side7 => exact kD (Kd.R_reads' HO751.out).2.2)
      (case side8 => exact (Kd.R_reads' HO751.out).2.1)
      rintro e w157 ⟨v754, v757, rfl, ho0, ho1, hb⟩
      refine ⟨_, rfl, ?_⟩
      have HO755 := ak (Kd.R_lower (Kd.R_new' (Kd.R_new' (Kd.R_new' (Kd.R_new' (Kd.R_new' (Kd.R_new' (Kd.R_new' (Kd.R_new' ho0 (Kd.R_lt (rC HO725))) (Kd.R_lt (rC HO728))) (Kd.R_lt (rC HO732))) (Kd.R_lt (rC HO735))) (Kd.R_lt (rC HO741))) (Kd.R_lt (rC HO744))) (Kd.R_lt (rC HO748))) (Kd.R_lt (rC HO751))) (below_size (hbC _)))
      have HO758 := ak (Kd.R_lower (Kd.R_new' (Kd.R_new' (Kd.R_new' (Kd.R_new' (Kd.R_new' (Kd.R_new' (Kd.R_new' (Kd.R_new' ho1 (Kd.R_lt (rC HO725))) (Kd.R_lt (rC HO728))) (Kd.R_lt (rC HO732))) (Kd.R_lt (rC HO735))) (Kd.R_lt (rC HO741))) (Kd.R_lt (rC HO744))) (Kd.R_lt (rC HO748))) (Kd.R_lt (rC HO751))) (below_size (hbC _)))
      replace HO725 := kT HO725 hb ho0 ho1
      replace HO728 := kT HO728 hb ho0 ho1
      replace HO732 := kT HO732 hb ho0 ho1
      replace HO735 := kT HO735 hb ho0 ho1
      replace HO741 := kT HO741 hb ho0 ho1
      replace HO744 := kT HO744 hb ho0 ho1
      replace HO748 := kT HO748 hb ho0 ho1
      replace HO751 := kT HO751 hb ho0 ho1
      replace BK720 := kB BK720 hb
      replace BK721 := kB BK721 hb
      replace BK737 := kB BK737 hb
      replace HB := kH _ hb
      (try clear hb)
      (try clear hb2)
      (try clear hk)
      (try clear hi)
      (try clear ho0)
      (try clear ho1)
      refine hK.out _ _ ⟨bc BK720 0, bc BK720 1, bc BK720 2, bc BK721 0, bc BK721 1, bc BK721 2⟩ (fun hHeld => ?_)
      clear hK K
      refine norm_ (a' := ?_) ?_ ?_
      rotate_left
      ·show Act.put _ (some 22) _ = _
       simp only [Act.put, List.setIfInBounds_toArray, List.set_cons_zero, List.set_cons_succ, i64_w, i32_w]
       rfl
      refine pS 5 17 11 63 ?_
      refine pS 6 23 11 127 ?_
      refine pS 7 24 11 255 ?_
      refine one_ (i := 8) (N := some 7) (ba 11 511) rfl rfl (one_of HT_.out (by kernel_rfl)) (by decide) (fun K hK => ?_)
      refine box_step ?hg (N := 7) ?hd (cs := #[.int .i64 0, .slice none 0 0, .slice none 0 0]) (t := 30) ?hr ?_; (case hd => rfl); (case hg => rfl); (case hr => first | (go_simp; done) | (go_simp; rfl))
      intro gb760 hg w158 hbox hb
      replace HO725 := kO HO725 hb
      replace HO728 := kO HO728 hb
      replace HO732 := kO HO732 hb
      replace HO735 := kO HO735 hb
      replace HO741 := kO HO741 hb
      replace HO744 := kO HO744 hb
      replace HO748 := kO HO748 hb
      replace HO751 := kO HO751 hb
      replace HO755 := kO HO755 hb
      replace HO758 := kO HO758 hb
      have BK760 := ak (hbox)
      have GW760 := kG w hg
      have GE760 := kG w hg
      replace HB := kH _ hb
      have NB720_760 := kL BK720 hg
      have NB760_720 := kR BK720 hg
      replace BK720 := kB BK720 hb
      have NB721_760 := kL BK721 hg
      have NB760_721 := kR BK721 hg
      replace BK721 := kB BK721 hb
      have NB737_760 := kL BK737 hg
      have NB760_737 := kR BK737 hg
      replace BK737 := kB BK737 hb
      clear hb hbox hg
      refine hK.out _ _ ⟨bc BK720 0, bc BK720 1, bc BK720 2, bc BK721 0, bc BK721 1, bc BK721 2⟩ (fun hHeld => ?_)
      clear hK K
      refine norm_ (a' := ?_) ?_ ?_
      rotate_left
      ·show Act.put _ (some 7) _ = _
       simp only [Act.put, List.setIfInBounds_toArray, List.set_cons_zero, List.set_cons_succ, i64_w, i32_w]
       rfl
      exact norm_ (by simp only [putAll, Act.put, List.setIfInBounds_toArray, List.set_cons_zero, List.set_cons_succ]) (hCont (.slice Ao153 t739.length co153, .slice Ao154 t742.length co154, .slice Ao155 t746.length co155, .slice Ao156 t749.length co156, v754, v757, gb760) _ ⟨hHeld, (rD (kM HO725)), (rD (kM HO728)), (rD (kM HO732)), (rD (kM HO735)), (rD (Kd.R_mono HO741.out (fun _ hk => ⟨hk.1.1.1.1.1.1.1.2, ⟨hk.1.1.1.1.1.1.2, ⟨hk.1.1.1.1.1.2, ⟨hk.1.1.1.1.2, ⟨hk.1.1.1.1.1.1.1.1, ⟨hk.1.1.1.2, ⟨hk.1.1.2, ⟨hk.1.2, hk.2⟩⟩⟩⟩⟩⟩⟩⟩))), (rD (Kd.R_mono HO744.out (fun _ hk => ⟨hk.1.1.1.1.1.1.1.2, ⟨hk.1.1.1.1.1.1.2, ⟨hk.1.1.1.1.1.2, ⟨hk.1.1.1.1.2, ⟨hk.1.1.1.1.1.1.1.1, ⟨hk.1.1.1.2, ⟨hk.1.1.2, ⟨hk.1.2, hk.2⟩⟩⟩⟩⟩⟩⟩⟩))), (rD (Kd.R_mono HO748.out (fun _ hk => ⟨hk.1.1.1.1.1.1.1.2, ⟨hk.1.1.1.1.1.1.2, ⟨hk.1.1.1.1.1.2, ⟨hk.1.1.1.1.2, ⟨hk.1.1.1.2, ⟨hk.1.1.2, ⟨hk.1.1.1.1.1.1.1.1, ⟨hk.1.2, hk.2⟩⟩⟩⟩⟩⟩⟩⟩))), (rD (Kd.R_mono HO751.out (fun _ hk => ⟨hk.1.1.1.1.1.1.1.2, ⟨hk.1.1.1.1.1.1.2, ⟨hk.1.1.1.1.1.2, ⟨hk.1.1.1.1.2, ⟨hk.1.1.1.2, ⟨hk.1.1.2, ⟨hk.1.1.1.1.1.1.1.1, ⟨hk.1.2, hk.2⟩⟩⟩⟩⟩⟩⟩⟩))), (rD (Kd.R_mono HO755.out (fun _ hk => ⟨hk.1.1.1.1.1.1.1.2, ⟨hk.1.1.1.1.1.1.2, ⟨hk.1.1.1.1.1.2, ⟨hk.1.1.1.1.2, ⟨hk.1.1.1.2, ⟨hk.1.1.2, ⟨hk.1.2, ⟨hk.2, hk.1.1.1.1.1.1.1.1⟩⟩⟩⟩⟩⟩⟩⟩))), (rD (Kd.R_mono HO758.out (fun _ hk => ⟨hk.1.1.1.1.1.1.1.2, ⟨hk.1.1.1.1.1.1.2, ⟨hk.1.1.1.1.1.2, ⟨hk.1.1.1.1.2, ⟨hk.1.1.1.2, ⟨hk.1.1.2, ⟨hk.1.2, ⟨hk.2, hk.1.1.1.1.1.1.1.1⟩⟩⟩⟩⟩⟩⟩⟩))), (bkC BK720), (bkC BK721), (bkC BK737), (bkC BK760), GW760.out, GE760.out, NB720_760.out, NB760_720.out, NB721_760.out, NB760_721.out, NB737_760.out, NB760_737.out, (hbC _)⟩)
     ·skip
      refine box_step ?hg (N := 7) ?hd (cs := #[.int .i64 0, .slice none 0 0, .slice none 0 0]) (t := 30) ?hr ?_; (case hd => rfl); (case hg => rfl); (case hr => first | (go_simp; done) | (go_simp; rfl))
      intro gb760 hg w153 hbox hb
      replace HO725 := kO HO725 hb
      replace HO728 := kO HO728 hb
      replace HO732 := kO HO732 hb
      replace HO735 := kO HO735 hb
      replace HO741 := kO HO741 hb
      replace HO744 := kO HO744 hb
      replace HO748 := kO HO748 hb
      replace HO751 := kO HO751 hb
      have BK760 := ak (hbox)
      have GW760 := kG w hg
      have GE760 := kG w hg
      replace HB := kH _ hb
      have NB720_760 := kL BK720 hg
      have NB760_720 := kR BK720 hg
      replace BK720 := kB BK720 hb
      have NB721_760 := kL BK721 hg
      have NB760_721 := kR BK721 hg
      replace BK721 := kB BK721 hb
      have NB737_760 := kL BK737 hg
      have NB760_737 := kR BK737 hg
      replace BK737 := kB BK737 hb
      clear hb hbox hg
      obtain ⟨Ao154, co154, eo154⟩ := Kd.R_slice HO741.out
      (first | subst eo154 | (injection eo154 with f1_ f2_ f3_; have f4_ := f1_.symm; have f5_ := f3_.symm; clear f1_ f2_ f3_; subst f4_; subst f5_))
      obtain ⟨Ao155, co155, eo155⟩ := Kd.R_slice HO744.out
      (first | subst eo155 | (injection eo155 with f1_ f2_ f3_; have f4_ := f1_.symm; have f5_ := f3_.symm; clear f1_ f2_ f3_; subst f4_; subst f5_))
      obtain ⟨Ao156, co156, eo156⟩ := Kd.R_slice HO748.out
      (first | subst eo156 | (injection eo156 with f1_ f2_ f3_; have f4_ := f1_.symm; have f5_ := f3_.symm; clear f1_ f2_ f3_; subst f4_; subst f5_))
      obtain ⟨Ao157, co157, eo157⟩ := Kd.R_slice HO751.out
      (first | subst eo157 | (injection eo157 with f1_ f2_ f3_; have f4_ := f1_.symm; have f5_ := f3_.symm; clear f1_ f2_ f3_; subst f4_; subst f5_))
      refine hK.out _ _ ⟨bc BK720 0, bc BK720 1, bc BK720 2, bc BK721 0, bc BK721 1, bc BK721 2⟩ (fun hHeld => ?_)
      clear hK K
      refine norm_ (a' := ?_) ?_ ?_
      rotate_left
      ·show Act.put _ (some 7) _ = _
       simp only [Act.put, List.setIfInBounds_toArray, List.set_cons_zero, List.set_cons_succ, i64_w, i32_w]
       rfl
      refine one_ (i := 4) (N := some 22) (ba 11 287) rfl rfl (one_of HT_.out (by kernel_rfl)) (by decide) (fun K hK => ?_)
      refine gC Try.func35 #[.agg #[.int .i64 t738, .slice Ao154 t739.length co154, .slice Ao155 t742.length co155], .agg #[.int .i64 t745, .slice Ao156 t746.length co156, .slice Ao157 t749.length co157]] ?_
      with_reducible refine (curves_Plus.calls k t738 _ _ t739 _ _ t742 t745 _ _ t746 _ _ t749 t752 t753 t756 t759 _ ?side1 ?side2 ?side3 ?side4 ?side5 ?side6 ?side7 ?side8 A7.out).mono ?_
      (case side1 => exact kD (Kd.R_reads' HO741.out).2.2)
      (case side2 => exact (Kd.R_reads' HO741.out).2.1)
      (case side3 => exact kD (Kd.R_reads' HO744.out).2.2)
      (case side4 => exact (Kd.R_reads' HO744.out).2.1)
      (case side5 => exact kD (Kd.R_reads' HO748.out).2.2)
      (case side6 => exact (Kd.R_reads' HO748.out).2.1)
      (case side7 => exact kD (Kd.R_reads' HO751.out).2.2)
      (case side8 => exact (Kd.R_reads' HO751.out).2.1)
      rintro e w158 ⟨v754, v757, rfl, ho0, ho1, hb⟩
      refine ⟨_, rfl, ?_⟩
      have HO755 := ak (Kd.R_lower (Kd.R_new' (Kd.R_new' (Kd.R_new' (Kd.R_new' (Kd.R_new' (Kd.R_new' (Kd.R_new' (Kd.R_new' ho0 (Kd.R_lt (rC HO725))) (Kd.R_lt (rC HO728))) (Kd.R_lt (rC HO732))) (Kd.R_lt (rC HO735))) (Kd.R_lt (rC HO741))) (Kd.R_lt (rC HO744))) (Kd.R_lt (rC HO748))) (Kd.R_lt (rC HO751))) (below_size (hbC _)))
      have HO758 := ak (Kd.R_lower (Kd.R_new' (Kd.R_new' (Kd.R_new' (Kd.R_new' (Kd.R_new' (Kd.R_new' (Kd.R_new' (Kd.R_new' ho1 (Kd.R_lt (rC HO725))) (Kd.R_lt (rC HO728))) (Kd.R_lt (rC HO732))) (Kd.R_lt (rC HO735))) (Kd.R_lt (rC HO741))) (Kd.R_lt (rC HO744))) (Kd.R_lt (rC HO748))) (Kd.R_lt (rC HO751))) (below_size (hbC _)))
      replace HO725 := kT HO725 hb ho0 ho1
      replace HO728 := kT HO728 hb ho0 ho1
      replace HO732 := kT HO732 hb ho0 ho1
      replace HO735 := kT HO735 hb ho0 ho1
      replace HO741 := kT HO741 hb ho0 ho1
      replace HO744 := kT HO744 hb ho0 ho1
      replace HO748 := kT HO748 hb ho0 ho1
      replace HO751 := kT HO751 hb ho0 ho1
      replace BK720 := kB BK720 hb
      replace BK721 := kB BK721 hb
      replace BK737 := kB BK737 hb
      replace BK760 := kB BK760 hb
      replace HB := kH _ hb
      (try clear hb)
      (try clear hb2)
      (try clear hk)
      (try clear hi)
      (try clear ho0)
      (try clear ho1)
      refine hK.out _ _ ⟨bc BK720 0, bc BK720 1, bc BK720 2, bc BK721 0, bc BK721 1, bc BK721 2⟩ (fun hHeld => ?_)
      clear hK K
      refine norm_ (a' := ?_) ?_ ?_
      rotate_left
      ·show Act.put _ (some 22) _ = _
       simp only [Act.put, List.setIfInBounds_toArray, List.set_cons_zero, List.set_cons_succ, i64_w, i32_w]
       rfl
      refine pS 5 17 11 319 ?_
      refine pS 6 23 11 383 ?_
      refine pS 7 24 11 511 ?_
      exact norm_ (by simp only [putAll, Act.put, List.setIfInBounds_toArray, List.set_cons_zero, List.set_cons_succ]) (hCont (.slice Ao154 t739.length co154, .slice Ao155 t742.length co155, .slice Ao156 t746.length co156, .slice Ao157 t749.length co157, v754, v757, gb760) _ ⟨hHeld, (rD (kM HO725)), (rD (kM HO728)), (rD (kM HO732)), (rD (kM HO735)), (rD (Kd.R_mono HO741.out (fun _ hk => ⟨hk.1.1.1.1.1.1.1.2, ⟨hk.1.1.1.1.1.1.2, ⟨hk.1.1.1.1.1.2, ⟨hk.1.1.1.1.2, ⟨hk.1.1.1.1.1.1.1.1, ⟨hk.1.1.1.2, ⟨hk.1.1.2, ⟨hk.1.2, hk.2⟩⟩⟩⟩⟩⟩⟩⟩))), (rD (Kd.R_mono HO744.out (fun _ hk => ⟨hk.1.1.1.1.1.1.1.2, ⟨hk.1.1.1.1.1.1.2, ⟨hk.1.1.1.1.1.2, ⟨hk.1.1.1.1.2, ⟨hk.1.1.1.1.1.1.1.1, ⟨hk.1.1.1.2, ⟨hk.1.1.2, ⟨hk.1.2, hk.2⟩⟩⟩⟩⟩⟩⟩⟩))), (rD (Kd.R_mono HO748.out (fun _ hk => ⟨hk.1.1.1.1.1.1.1.2, ⟨hk.1.1.1.1.1.1.2, ⟨hk.1.1.1.1.1.2, ⟨hk.1.1.1.1.2, ⟨hk.1.1.1.2, ⟨hk.1.1.2, ⟨hk.1.1.1.1.1.1.1.1, ⟨hk.1.2, hk.2⟩⟩⟩⟩⟩⟩⟩⟩))), (rD (Kd.R_mono HO751.out (fun _ hk => ⟨hk.1.1.1.1.1.1.1.2, ⟨hk.1.1.1.1.1.1.2, ⟨hk.1.1.1.1.1.2, ⟨hk.1.1.1.1.2, ⟨hk.1.1.1.2, ⟨hk.1.1.2, ⟨hk.1.1.1.1.1.1.1.1, ⟨hk.1.2, hk.2⟩⟩⟩⟩⟩⟩⟩⟩))), (rD (Kd.R_mono HO755.out (fun _ hk => ⟨hk.1.1.1.1.1.1.1.2, ⟨hk.1.1.1.1.1.1.2, ⟨hk.1.1.1.1.1.2, ⟨hk.1.1.1.1.2, ⟨hk.1.1.1.2, ⟨hk.1.1.2, ⟨hk.1.2, ⟨hk.2, hk.1.1.1.1.1.1.1.1⟩⟩⟩⟩⟩⟩⟩⟩))), (rD (Kd.R_mono HO758.out (fun _ hk => ⟨hk.1.1.1.1.1.1.1.2, ⟨hk.1.1.1.1.1.1.2, ⟨hk.1.1.1.1.1.2, ⟨hk.1.1.1.1.2, ⟨hk.1.1.1.2, ⟨hk.1.1.2, ⟨hk.1.2, ⟨hk.2, hk.1.1.1.1.1.1.1.1⟩⟩⟩⟩⟩⟩⟩⟩))), (bkC BK720), (bkC BK721), (bkC BK737), (bkC BK760), GW760.out, GE760.out, NB720_760.out, NB760_720.out, NB721_760.out, NB760_721.out, NB737_760.out, NB760_737.out, (hbC _)⟩)
    ·skip
     refine box_step ?hg (N := 7) ?hd (cs := #[.int .i64 0, .slice none 0 0, .slice none 0 0]) (t := 30) ?hr ?_; (case hd => rfl); (case hg => rfl); (case hr => first | (go_simp; done) | (go_simp; rfl))
     intro gb760 hg w152 hbox hb
     replace HO725 := kO HO725 hb
     replace HO728 := kO HO728 hb
     replace HO732 := kO HO732 hb
     replace HO735 := kO HO735 hb
     replace HO741 := kO HO741 hb
     replace HO744 := kO HO744 hb
     have BK760 := ak (hbox)
     have GW760 := kG w hg
     have GE760 := kG w hg
     replace HB := kH _ hb
     have NB720_760 := kL BK720 hg
     have NB760_720 := kR BK720 hg
     replace BK720 := kB BK720 hb
     have NB721_760 := kL BK721 hg
     have NB760_721 := kR BK721 hg
     replace BK721 := kB BK721 hb
     have NB737_760 := kL BK737 hg
     have NB760_737 := kR BK737 hg
     replace BK737 := kB BK737 hb
     clear hb hbox hg
     refine hK.out _ _ ⟨bc BK720 0, bc BK720 1, bc BK720 2, bc BK721 0, bc BK721 1, bc BK721 2⟩ (fun hHeld => ?_)
     clear hK K
     refine norm_ (a' := ?_) ?_ ?_
     rotate_left
     ·show Act.put _ (some 7) _ = _
      simp only [Act.put, List.setIfInBounds_toArray, List.set_cons_zero, List.set_cons_succ, i64_w, i32_w]
      rfl
     refine one_ (i := 3) (N := some 21) (ba 11 271) rfl rfl (one_of HT_.out (by kernel_rfl)) (by decide) (fun K hK => ?_)
     refine gC Try.func15 #[.agg #[.int .i64 a1_0, .slice A1_1 l1_1.length c1_1, .slice A1_2 l1_2.length c1_2]] ?_
     with_reducible refine (congoulaw04_Of.calls a1_0 _ _ l1_1 _ _ l1_2 t745 t746 t749 _ ?side1 ?side2 ?side3 ?side4 A6.out).mono ?_
     (case side1 => exact kC HR1_1)
     (case side2 => exact HC1_1.out)
     (case side3 => exact kC HR1_2)
     (case side4 => exact HC1_2.out)
     rintro e w153 ⟨v747, v750, rfl, ho0, ho1, hb⟩
     refine ⟨_, rfl, ?_⟩
     have HO748 := ak (Kd.R_lower (Kd.R_new' (Kd.R_new' (Kd.R_new' (Kd.R_new' (Kd.R_new' (Kd.R_new' ho0 (Kd.R_lt (rC HO725))) (Kd.R_lt (rC HO728))) (Kd.R_lt (rC HO732))) (Kd.R_lt (rC HO735))) (Kd.R_lt (rC HO741))) (Kd.R_lt (rC HO744))) (below_size (hbC _)))
     have HO751 := ak (Kd.R_lower (Kd.R_new' (Kd.R_new' (Kd.R_new' (Kd.R_new' (Kd.R_new' (Kd.R_new' ho1 (Kd.R_lt (rC HO725))) (Kd.R_lt (rC HO728))) (Kd.R_lt (rC HO732))) (Kd.R_lt (rC HO735))) (Kd.R_lt (rC HO741))) (Kd.R_lt (rC HO744))) (below_size (hbC _)))
     replace HO725 := kT HO725 hb ho0 ho1
     replace HO728 := kT HO728 hb ho0 ho1
     replace HO732 := kT HO732 hb ho0 ho1
     replace HO735 := kT HO735 hb ho0 ho1
     replace HO741 := kT HO741 hb ho0 ho1
     replace HO744 := kT HO744 hb ho0 ho1
     replace BK720 := kB BK720 hb
     replace BK721 := kB BK721 hb
     replace BK737 := kB BK737 hb
     replace BK760 := kB BK760 hb
     replace HB := kH _ hb
     (try clear hb)
     (try clear hb2)
     (try clear hk)
     (try clear hi)
     (try clear ho0)
     (try clear ho1)
     obtain ⟨Ao154, co154, eo154⟩ := Kd.R_slice HO741.out
     (first | subst eo154 | (injection eo154 with f1_ f2_ f3_; have f4_ := f1_.symm; have f5_ := f3_.symm; clear f1_ f2_ f3_; subst f4_; subst f5_))
     obtain ⟨Ao155, co155, eo155⟩ := Kd.R_slice HO744.out
     (first | subst eo155 | (injection eo155 with f1_ f2_ f3_; have f4_ := f1_.symm; have f5_ := f3_.symm; clear f1_ f2_ f3_; subst f4_; subst f5_))
     obtain ⟨Ao156, co156, eo156⟩ := Kd.R_slice HO748.out
     (first | subst eo156 | (injection eo156 with f1_ f2_ f3_; have f4_ := f1_.symm; have f5_ := f3_.symm; clear f1_ f2_ f3_; subst f4_; subst f5_))
     obtain ⟨Ao157, co157, eo157⟩ := Kd.R_slice HO751.out
     (first | subst eo157 | (injection eo157 with f1_ f2_ f3_; have f4_ := f1_.symm; have f5_ := f3_.symm; clear f1_ f2_ f3_; subst f4_; subst f5_))
     refine hK.out _ _ ⟨bc BK720 0, bc BK720 1, bc BK720 2, bc BK721 0, bc BK721 1, bc BK721 2⟩ (fun hHeld => ?_)
     clear hK K
     refine norm_ (a' := ?_) ?_ ?_
     rotate_left
     ·show Act.put _ (some 21) _ = _
      simp only [Act.put, List.setIfInBounds_toArray, List.set_cons_zero, List.set_cons_succ, i64_w, i32_w]
      rfl
     refine one_ (i := 4) (N := some 22) (ba 11 287) rfl rfl (one_of HT_.out (by kernel_rfl)) (by decide) (fun K hK => ?_)
     refine gC Try.func35 #[.agg #[.int .i64 t738, .slice Ao154 t739.length co154, .slice Ao155 t742.length co155], .agg #[.int .i64 t745, .slice Ao156 t746.length co156, .slice Ao157 t749.length co157]] ?_
     with_reducible refine (curves_Plus.calls k t738 _ _ t739 _ _ t742 t745 _ _ t746 _ _ t749 t752 t753 t756 t759 _ ?side1 ?side2 ?side3 ?side4 ?side5 ?side6 ?side7 ?side8 A7.out).mono ?_
     (case side1 => exact kD (Kd.R_reads' HO741.out).2.2)
     (case side2 => exact (Kd.R_reads' HO741.out).2.1)
     (case side3 => exact kD (Kd.R_reads' HO744.out).2.2)
     (case side4 => exact (Kd.R_reads' HO744.out).2.1)
     (case side5 => exact kD (Kd.R_reads' HO748.out).2.2)
     (case side6 => exact (Kd.R_reads' HO748.out).2.1)
     (case side7 => exact kD (Kd.R_reads' HO751.out).2.2)
     (case side8 => exact (Kd.R_reads' HO751.out).2.1)
     rintro e w158 ⟨v754, v757, rfl, ho0, ho1, hb⟩
     refine ⟨_, rfl, ?_⟩
     have HO755 := ak (Kd.R_lower (Kd.R_new' (Kd.R_new' (Kd.R_new' (Kd.R_new' (Kd.R_new' (Kd.R_new' (Kd.R_new' (Kd.R_new' ho0 (Kd.R_lt (rC HO725))) (Kd.R_lt (rC HO728))) (Kd.R_lt (rC HO732))) (Kd.R_lt (rC HO735))) (Kd.R_lt (rC HO741))) (Kd.R_lt (rC HO744))) (Kd.R_lt (rC HO748))) (Kd.R_lt (rC HO751))) (below_size (hbC _)))
     have HO758 := ak (Kd.R_lower (Kd.R_new' (Kd.R_new' (Kd.R_new' (Kd.R_new' (Kd.R_new' (Kd.R_new' (Kd.R_new' (Kd.R_new' ho1 (Kd.R_lt (rC HO725))) (Kd.R_lt (rC HO728))) (Kd.R_lt (rC HO732))) (Kd.R_lt (rC HO735))) (Kd.R_lt (rC HO741))) (Kd.R_lt (rC HO744))) (Kd.R_lt (rC HO748))) (Kd.R_lt (rC HO751))) (below_size (hbC _)))
     replace HO725 := kT HO725 hb ho0 ho1
     replace HO728 := kT HO728 hb ho0 ho1
     replace HO732 := kT HO732 hb ho0 ho1
     replace HO735 := kT HO735 hb ho0 ho1
     replace HO741 := kT HO741 hb ho0 ho1
     replace HO744 := kT HO744 hb ho0 ho1
     replace HO748 := kT HO748 hb ho0 ho1
     replace HO751 := kT HO751 hb ho0 ho1
     replace BK720 := kB BK720 hb
     replace BK721 := kB BK721 hb
     replace BK737 := kB BK737 hb
     replace BK760 := kB BK760 hb
     replace HB := kH _ hb
     (try clear hb)
     (try clear hb2)
     (try clear hk)
     (try clear hi)
     (try clear ho0)
     (try clear ho1)
     refine hK.out _ _ ⟨bc BK720 0, bc BK720 1, bc BK720 2, bc BK721 0, bc BK721 1, bc BK721 2⟩ (fun hHeld => ?_)
     clear hK K
     refine norm_ (a' := ?_) ?_ ?_
     rotate_left
     ·show Act.put _ (some 22) _ = _
      simp only [Act.put, List.setIfInBounds_toArray, List.set_cons_zero, List.set_cons_succ, i64_w, i32_w]
      rfl
     refine pS 5 17 11 319 ?_
     refine pS 6 23 11 383 ?_
     refine pS 7 24 11 511 ?_
     exact norm_ (by simp only [putAll, Act.put, List.setIfInBounds_toArray, List.set_cons_zero, List.set_cons_succ]) (hCont (.slice Ao154 t739.length co154, .slice Ao155 t742.length co155, .slice Ao156 t746.length co156, .slice Ao157 t749.length co157, v754, v757, gb760) _ ⟨hHeld, (rD (kM HO725)), (rD (kM HO728)), (rD (kM HO732)), (rD (kM HO735)), (rD (Kd.R_mono HO741.out (fun _ hk => ⟨hk.1.1.1.1.1.1.1.2, ⟨hk.1.1.1.1.1.1.2, ⟨hk.1.1.1.1.1.2, ⟨hk.1.1.1.1.2, ⟨hk.1.1.1.1.1.1.1.1, ⟨hk.1.1.1.2, ⟨hk.1.1.2, ⟨hk.1.2, hk.2⟩⟩⟩⟩⟩⟩⟩⟩))), (rD (Kd.R_mono HO744.out (fun _ hk => ⟨hk.1.1.1.1.1.1.1.2, ⟨hk.1.1.1.1.1.1.2, ⟨hk.1.1.1.1.1.2, ⟨hk.1.1.1.1.2, ⟨hk.1.1.1.1.1.1.1.1, ⟨hk.1.1.1.2, ⟨hk.1.1.2, ⟨hk.1.2, hk.2⟩⟩⟩⟩⟩⟩⟩⟩))), (rD (Kd.R_mono HO748.out (fun _ hk => ⟨hk.1.1.1.1.1.1.1.2, ⟨hk.1.1.1.1.1.1.2, ⟨hk.1.1.1.1.1.2, ⟨hk.1.1.1.1.2, ⟨hk.1.1.1.2, ⟨hk.1.1.2, ⟨hk.1.1.1.1.1.1.1.1, ⟨hk.1.2, hk.2⟩⟩⟩⟩⟩⟩⟩⟩))), (rD (Kd.R_mono HO751.out (fun _ hk => ⟨hk.1.1.1.1.1.1.1.2, ⟨hk.1.1.1.1.1.1.2, ⟨hk.1.1.1.1.1.2, ⟨hk.1.1.1.1.2, ⟨hk.1.1.1.2, ⟨hk.1.1.2, ⟨hk.1.1.1.1.1.1.1.1, ⟨hk.1.2, hk.2⟩⟩⟩⟩⟩⟩⟩⟩))), (rD (Kd.R_mono HO755.out (fun _ hk => ⟨hk.1.1.1.1.1.1.1.2, ⟨hk.1.1.1.1.1.1.2, ⟨hk.1.1.1.1.1.2, ⟨hk.1.1.1.1.2, ⟨hk.1.1.1.2, ⟨hk.1.1.2, ⟨hk.1.2, ⟨hk.2, hk.1.1.1.1.1.1.1.1⟩⟩⟩⟩⟩⟩⟩⟩))), (rD (Kd.R_mono HO758.out (fun _ hk => ⟨hk.1.1.1.1.1.1.1.2, ⟨hk.1.1.1.1.1.1.2, ⟨hk.1.1.1.1.1.2, ⟨hk.1.1.1.1.2, ⟨hk.1.1.1.2, ⟨hk.1.1.2, ⟨hk.1.2, ⟨hk.2, hk.1.1.1.1.1.1.1.1⟩⟩⟩⟩⟩⟩⟩⟩))), (bkC BK720), (bkC BK721), (bkC BK737), (bkC BK760), GW760.out, GE760.out, NB720_760.out, NB760_720.out, NB721_760.out, NB760_721.out, NB737_760.out, NB760_737.out, (hbC _)⟩)
   ·skip
    refine box_step ?hg (N := 7) ?hd (cs := #[.int .i64 0, .slice none 0 0, .slice none 0 0]) (t := 30) ?hr ?_; (case hd => rfl); (case hg => rfl); (case hr => first | (go_simp; done) | (go_simp; rfl))
    intro gb760 hg w151 hbox hb
    replace HO725 := kO HO725 hb
    replace HO728 := kO HO728 hb
    replace HO732 := kO HO732 hb
    replace HO735 := kO HO735 hb
    have BK760 := ak (hbox)
    have GW760 := kG w hg
    have GE760 := kG w hg
    replace HB := kH _ hb
    have NB720_760 := kL BK720 hg
    have NB760_720 := kR BK720 hg
    replace BK720 := kB BK720 hb
    have NB721_760 := kL BK721 hg
    have NB760_721 := kR BK721 hg
    replace BK721 := kB BK721 hb
    have NB737_760 := kL BK737 hg
    have NB760_737 := kR BK737 hg
    replace BK737 := kB BK737 hb
    clear hb hbox hg
    refine hK.out _ _ ⟨bc BK720 0, bc BK720 1, bc BK720 2, bc BK721 0, bc BK721 1, bc BK721 2⟩ (fun hHeld => ?_)
    clear hK K
    refine norm_ (a' := ?_) ?_ ?_
    rotate_left
    ·show Act.put _ (some 7) _ = _
     simp only [Act.put, List.setIfInBounds_toArray, List.set_cons_zero, List.set_cons_succ, i64_w, i32_w]
     rfl
    refine one_ (i := 1) (N := some 19) (ba 11 263) rfl rfl (one_of HT_.out (by kernel_rfl)) (by decide) (fun K hK => ?_)
    refine gC Try.func15 #[.agg #[.int .i64 a0_0, .slice A0_1 l0_1.length c0_1, .slice A0_2 l0_2.length c0_2]] ?_
    with_reducible refine (congoulaw04_Of.calls a0_0 _ _ l0_1 _ _ l0_2 t738 t739 t742 _ ?side1 ?side2 ?side3 ?side4 A5.out).mono ?_
    (case side1 => exact kC HR0_1)
    (case side2 => exact HC0_1.out)
    (case side3 => exact kC HR0_2)
    (case side4 => exact HC0_2.out)
    rintro e w152 ⟨v740, v743, rfl, ho0, ho1, hb⟩
    refine ⟨_, rfl, ?_⟩
    have HO741 := ak (Kd.R_lower (Kd.R_new' (Kd.R_new' (Kd.R_new' (Kd.R_new' ho0 (Kd.R_lt (rC HO725))) (Kd.R_lt (rC HO728))) (Kd.R_lt (rC HO732))) (Kd.R_lt (rC HO735))) (below_size (hbC _)))
    have HO744 := ak (Kd.R_lower (Kd.R_new' (Kd.R_new' (Kd.R_new' (Kd.R_new' ho1 (Kd.R_lt (rC HO725))) (Kd.R_lt (rC HO728))) (Kd.R_lt (rC HO732))) (Kd.R_lt (rC HO735))) (below_size (hbC _)))
    replace HO725 := kT HO725 hb ho0 ho1
    replace HO728 := kT HO728 hb ho0 ho1
    replace HO732 := kT HO732 hb ho0 ho1
    replace HO735 := kT HO735 hb ho0 ho1
    replace BK720 := kB BK720 hb
    replace BK721 := kB BK721 hb
    replace BK737 := kB BK737 hb
    replace BK760 := kB BK760 hb
    replace HB := kH _ hb
    (try clear hb)
    (try clear hb2)
    (try clear hk)
    (try clear hi)
    (try clear ho0)
    (try clear ho1)
    refine hK.out _ _ ⟨bc BK720 0, bc BK720 1, bc BK720 2, bc BK721 0, bc BK721 1, bc BK721 2⟩ (fun hHeld => ?_)
    clear hK K
    refine norm_ (a' := ?_) ?_ ?_
    rotate_left
    ·show Act.put _ (some 19) _ = _
     simp only [Act.put, List.setIfInBounds_toArray, List.set_cons_zero, List.set_cons_succ, i64_w, i32_w]
     rfl
    refine one_ (i := 3) (N := some 21) (ba 11 271) rfl rfl (one_of HT_.out (by kernel_rfl)) (by decide) (fun K hK => ?_)
    refine gC Try.func15 #[.agg #[.int .i64 a1_0, .slice A1_1 l1_1.length c1_1, .slice A1_2 l1_2.length c1_2]] ?_
    with_reducible refine (congoulaw04_Of.calls a1_0 _ _ l1_1 _ _ l1_2 t745 t746 t749 _ ?side1 ?side2 ?side3 ?side4 A6.out).mono ?_
    (case side1 => exact kC HR1_1)
    (case side2 => exact HC1_1.out)
    (case side3 => exact kC HR1_2)
    (case side4 => exact HC1_2.out)
    rintro e w153 ⟨v747, v750, rfl, ho0, ho1, hb⟩
    refine ⟨_, rfl, ?_⟩
    have HO748 := ak (Kd.R_lower (Kd.R_new' (Kd.R_new' (Kd.R_new' (Kd.R_new' (Kd.R_new' (Kd.R_new' ho0 (Kd.R_lt (rC HO725))) (Kd.R_lt (rC HO728))) (Kd.R_lt (rC HO732))) (Kd.R_lt (rC HO735))) (Kd.R_lt (rC HO741))) (Kd.R_lt (rC HO744))) (below_size (hbC _)))
    have HO751 := ak (Kd.R_lower (Kd.R_new' (Kd.R_new' (Kd.R_new' (Kd.R_new' (Kd.R_new' (Kd.R_new' ho1 (Kd.R_lt (rC HO725))) (Kd.R_lt (rC HO728))) (Kd.R_lt (rC HO732))) (Kd.R_lt (rC HO735))) (Kd.R_lt (rC HO741))) (Kd.R_lt (rC HO744))) (below_size (hbC _)))
    replace HO725 := kT HO725 hb ho0 ho1
    replace HO728 := kT HO728 hb ho0 ho1
    replace HO732 := kT HO732 hb ho0 ho1
    replace HO735 := kT HO735 hb ho0 ho1
    replace HO741 := kT HO741 hb ho0 ho1
    replace HO744 := kT HO744 hb ho0 ho1
    replace BK720 := kB BK720 hb
    replace BK721 := kB BK721 hb
    replace BK737 := kB BK737 hb
    replace BK760 := kB BK760 hb
    replace HB := kH _ hb
    (try clear hb)
    (try clear hb2)
    (try clear hk)
    (try clear hi)
    (try clear ho0)
    (try clear ho1)
    obtain ⟨Ao154, co154, eo154⟩ := Kd.R_slice HO741.out
    (first | subst eo154 | (injection eo154 with f1_ f2_ f3_; have f4_ := f1_.symm; have f5_ := f3_.symm; clear f1_ f2_ f3_; subst f4_; subst f5_))
    obtain ⟨Ao155, co155, eo155⟩ := Kd.R_slice HO744.out
    (first | subst eo155 | (injection eo155 with f1_ f2_ f3_; have f4_ := f1_.symm; have f5_ := f3_.symm; clear f1_ f2_ f3_; subst f4_; subst f5_))
    obtain ⟨Ao156, co156, eo156⟩ := Kd.R_slice HO748.out
    (first | subst eo156 | (injection eo156 with f1_ f2_ f3_; have f4_ := f1_.symm; have f5_ := f3_.symm; clear f1_ f2_ f3_; subst f4_; subst f5_))
    obtain ⟨Ao157, co157, eo157⟩ := Kd.R_slice HO751.out
    (first | subst eo157 | (injection eo157 with f1_ f2_ f3_; have f4_ := f1_.symm; have f5_ := f3_.symm; clear f1_ f2_ f3_; subst f4_; subst f5_))
    refine hK.out _ _ ⟨bc BK720 0, bc BK720 1, bc BK720 2, bc BK721 0, bc BK721 1, bc BK721 2⟩ (fun hHeld => ?_)
    clear hK K
    refine norm_ (a' := ?_) ?_ ?_
    rotate_left
    ·show Act.put _ (some 21) _ = _
     simp only [Act.put, List.setIfInBounds_toArray, List.set_cons_zero, List.set_cons_succ, i64_w, i32_w]
     rfl
    refine one_ (i := 4) (N := some 22) (ba 11 287) rfl rfl (one_of HT_.out (by kernel_rfl)) (by decide) (fun K hK => ?_)
    refine gC Try.func35 #[.agg #[.int .i64 t738, .slice Ao154 t739.length co154, .slice Ao155 t742.length co155], .agg #[.int .i64 t745, .slice Ao156 t746.length co156, .slice Ao157 t749.length co157]] ?_
    with_reducible refine (curves_Plus.calls k t738 _ _ t739 _ _ t742 t745 _ _ t746 _ _ t749 t752 t753 t756 t759 _ ?side1 ?side2 ?side3 ?side4 ?side5 ?side6 ?side7 ?side8 A7.out).mono ?_
    (case side1 => exact kD (Kd.R_reads' HO741.out).2.2)
    (case side2 => exact (Kd.R_reads' HO741.out).2.1)
    (case side3 => exact kD (Kd.R_reads' HO744.out).2.2)
    (case side4 => exact (Kd.R_reads' HO744.out).2.1)
    (case side5 => exact kD (Kd.R_reads' HO748.out).2.2)
    (case side6 => exact (Kd.R_reads' HO748.out).2.1)
    (case side7 => exact kD (Kd.R_reads' HO751.out).2.2)
    (case side8 => exact (Kd.R_reads' HO751.out).2.1)
    rintro e w158 ⟨v754, v757, rfl, ho0, ho1, hb⟩
    refine ⟨_, rfl, ?_⟩
    have HO755 := ak (Kd.R_lower (Kd.R_new' (Kd.R_new' (Kd.R_new' (Kd.R_new' (Kd.R_new' (Kd.R_new' (Kd.R_new' (Kd.R_new' ho0 (Kd.R_lt (rC HO725))) (Kd.R_lt (rC HO728))) (Kd.R_lt (rC HO732))) (Kd.R_lt (rC HO735))) (Kd.R_lt (rC HO741))) (Kd.R_lt (rC HO744))) (Kd.R_lt (rC HO748))) (Kd.R_lt (rC HO751))) (below_size (hbC _)))
    have HO758 := ak (Kd.R_lower (Kd.R_new' (Kd.R_new' (Kd.R_new' (Kd.R_new' (Kd.R_new' (Kd.R_new' (Kd.R_new' (Kd.R_new' ho1 (Kd.R_lt (rC HO725))) (Kd.R_lt (rC HO728))) (Kd.R_lt (rC HO732))) (Kd.R_lt (rC HO735))) (Kd.R_lt (rC HO741))) (Kd.R_lt (rC HO744))) (Kd.R_lt (rC HO748))) (Kd.R_lt (rC HO751))) (below_size (hbC _)))
    replace HO725 := kT HO725 hb ho0 ho1
    replace HO728 := kT HO728 hb ho0 ho1
    replace HO732 := kT HO732 hb ho0 ho1
    replace HO735 := kT HO735 hb ho0 ho1
    replace HO741 := kT HO741 hb ho0 ho1
    replace HO744 := kT HO744 hb ho0 ho1
    replace HO748 := kT HO748 hb ho0 ho1
    replace HO751 := kT HO751 hb ho0 ho1
    replace BK720 := kB BK720 hb
    replace BK721 := kB BK721 hb
    replace BK737 := kB BK737 hb
    replace BK760 := kB BK760 hb
    replace HB := kH _ hb
    (try clear hb)
    (try clear hb2)
    (try clear hk)
    (try clear hi)
    (try clear ho0)
    (try clear ho1)
    refine hK.out _ _ ⟨bc BK720 0, bc BK720 1, bc BK720 2, bc BK721 0, bc BK721 1, bc BK721 2⟩ (fun hHeld => ?_)
    clear hK K
    refine norm_ (a' := ?_) ?_ ?_
    rotate_left
    ·show Act.put _ (some 22) _ = _
     simp only [Act.put, List.setIfInBounds_toArray, List.set_cons_zero, List.set_cons_succ, i64_w, i32_w]
     rfl
    refine pS 5 17 11 319 ?_
    refine pS 6 23 11 383 ?_
    refine pS 7 24 11 511 ?_
    exact norm_ (by simp only [putAll, Act.put, List.setIfInBounds_toArray, List.set_cons_zero, List.set_cons_succ]) (hCont (.slice Ao154 t739.length co154, .slice Ao155 t742.length co155, .slice Ao156 t746.length co156, .slice Ao157 t749.length co157, v754, v757, gb760) _ ⟨hHeld, (rD (kM HO725)), (rD (kM HO728)), (rD (kM HO732)), (rD (kM HO735)), (rD (Kd.R_mono HO741.out (fun _ hk => ⟨hk.1.1.1.1.1.1.1.2, ⟨hk.1.1.1.1.1.1.2, ⟨hk.1.1.1.1.1.2, ⟨hk.1.1.1.1.2, ⟨hk.1.1.1.1.1.1.1.1, ⟨hk.1.1.1.2, ⟨hk.1.1.2, ⟨hk.1.2, hk.2⟩⟩⟩⟩⟩⟩⟩⟩))), (rD (Kd.R_mono HO744.out (fun _ hk => ⟨hk.1.1.1.1.1.1.1.2, ⟨hk.1.1.1.1.1.1.2, ⟨hk.1.1.1.1.1.2, ⟨hk.1.1.1.1.2, ⟨hk.1.1.1.1.1.1.1.1, ⟨hk.1.1.1.2, ⟨hk.1.1.2, ⟨hk.1.2, hk.2⟩⟩⟩⟩⟩⟩⟩⟩))), (rD (Kd.R_mono HO748.out (fun _ hk => ⟨hk.1.1.1.1.1.1.1.2, ⟨hk.1.1.1.1.1.1.2, ⟨hk.1.1.1.1.1.2, ⟨hk.1.1.1.1.2, ⟨hk.1.1.1.2, ⟨hk.1.1.2, ⟨hk.1.1.1.1.1.1.1.1, ⟨hk.1.2, hk.2⟩⟩⟩⟩⟩⟩⟩⟩))), (rD (Kd.R_mono HO751.out (fun _ hk => ⟨hk.1.1.1.1.1.1.1.2, ⟨hk.1.1.1.1.1.1.2, ⟨hk.1.1.1.1.1.2, ⟨hk.1.1.1.1.2, ⟨hk.1.1.1.2, ⟨hk.1.1.2, ⟨hk.1.1.1.1.1.1.1.1, ⟨hk.1.2, hk.2⟩⟩⟩⟩⟩⟩⟩⟩))), (rD (Kd.R_mono HO755.out (fun _ hk => ⟨hk.1.1.1.1.1.1.1.2, ⟨hk.1.1.1.1.1.1.2, ⟨hk.1.1.1.1.1.2, ⟨hk.1.1.1.1.2, ⟨hk.1.1.1.2, ⟨hk.1.1.2, ⟨hk.1.2, ⟨hk.2, hk.1.1.1.1.1.1.1.1⟩⟩⟩⟩⟩⟩⟩⟩))), (rD (Kd.R_mono HO758.out (fun _ hk => ⟨hk.1.1.1.1.1.1.1.2, ⟨hk.1.1.1.1.1.1.2, ⟨hk.1.1.1.1.1.2, ⟨hk.1.1.1.1.2, ⟨hk.1.1.1.2, ⟨hk.1.1.2, ⟨hk.1.2, ⟨hk.2, hk.1.1.1.1.1.1.1.1⟩⟩⟩⟩⟩⟩⟩⟩))), (bkC BK720), (bkC BK721), (bkC BK737), (bkC BK760), GW760.out, GE760.out, NB720_760.out, NB760_720.out, NB721_760.out, NB760_721.out, NB737_760.out, NB760_737.out, (hbC _)⟩)
  rintro ⟨v740, v743, v747, v750, v754, v757, gb760⟩ w159 ⟨hS_, h0_, h1_, h2_, h3_, h4_, h5_, h6_, h7_, h8_, h9_, h10_, h11_, h12_, h13_, h14_, h15_, h16_, h17_, h18_, h19_, h20_, h21_, h22_⟩
  have n0_ : Aside0 (Kd.R (Kd.int .i64) 3 w159 w.heap.size (fun k_ => nb k_ (.slice Ao141 t726.length co141) ∧ nb k_ (.slice Ao147 t730.length co147) ∧ nb k_ (.slice Ao148 t733.length co148) ∧ nb k_ v740 ∧ nb k_ v743 ∧ nb k_ v747 ∧ nb k_ v750 ∧ nb k_ v754 ∧ nb k_ v757) (.slice Ao140 t723.length co140) t723) := ⟨h0_⟩
  have n1_ : Aside0 (Kd.R (Kd.int .i64) 3 w159 w.heap.size (fun k_ => nb k_ (.slice Ao140 t723.length co140) ∧ nb k_ (.slice Ao147 t730.length co147) ∧ nb k_ (.slice Ao148 t733.length co148) ∧ nb k_ v740 ∧ nb k_ v743 ∧ nb k_ v747 ∧ nb k_ v750 ∧ nb k_ v754 ∧ nb k_ v757) (.slice Ao141 t726.length co141) t726) := ⟨h1_⟩
  have n2_ : Aside0 (Kd.R (Kd.int .i64) 3 w159 w.heap.size (fun k_ => nb k_ (.slice Ao140 t723.length co140) ∧ nb k_ (.slice Ao141 t726.length co141) ∧ nb k_ (.slice Ao148 t733.length co148) ∧ nb k_ v740 ∧ nb k_ v743 ∧ nb k_ v747 ∧ nb k_ v750 ∧ nb k_ v754 ∧ nb k_ v757) (.slice Ao147 t730.length co147) t730) := ⟨h2_⟩
  have n3_ : Aside0 (Kd.R (Kd.int .i64) 3 w159 w.heap.size (fun k_ => nb k_ (.slice Ao140 t723.length co140) ∧ nb k_ (.slice Ao141 t726.length co141) ∧ nb k_ (.slice Ao147 t730.length co147) ∧ nb k_ v740 ∧ nb k_ v743 ∧ nb k_ v747 ∧ nb k_ v750 ∧ nb k_ v754 ∧ nb k_ v757) (.slice Ao148 t733.length co148) t733) := ⟨h3_⟩
  have n4_ : Aside0 (Kd.R (Kd.int .i64) 3 w159 w.heap.size (fun k_ => nb k_ (.slice Ao140 t723.length co140) ∧ nb k_ (.slice Ao141 t726.length co141) ∧ nb k_ (.slice Ao147 t730.length co147) ∧ nb k_ (.slice Ao148 t733.length co148) ∧ nb k_ v743 ∧ nb k_ v747 ∧ nb k_ v750 ∧ nb k_ v754 ∧ nb k_ v757) v740 t739) := ⟨h4_⟩
  have n5_ : Aside0 (Kd.R (Kd.int .i64) 3 w159 w.heap.size (fun k_ => nb k_ (.slice Ao140 t723.length co140) ∧ nb k_ (.slice Ao141 t726.length co141) ∧ nb k_ (.slice Ao147 t730.length co147) ∧ nb k_ (.slice Ao148 t733.length co148) ∧ nb k_ v740 ∧ nb k_ v747 ∧ nb k_ v750 ∧ nb k_ v754 ∧ nb k_ v757) v743 t742) := ⟨h5_⟩
  have n6_ : Aside0 (Kd.R (Kd.int .i64) 3 w159 w.heap.size (fun k_ => nb k_ (.slice Ao140 t723.length co140) ∧ nb k_ (.slice Ao141 t726.length co141) ∧ nb k_ (.slice Ao147 t730.length co147) ∧ nb k_ (.slice Ao148 t733.length co148) ∧ nb k_ v740 ∧ nb k_ v743 ∧ nb k_ v750 ∧ nb k_ v754 ∧ nb k_ v757) v747 t746) := ⟨h6_⟩
  have n7_ : Aside0 (Kd.R (Kd.int .i64) 3 w159 w.heap.size (fun k_ => nb k_ (.slice Ao140 t723.length co140) ∧ nb k_ (.slice Ao141 t726.length co141) ∧ nb k_ (.slice Ao147 t730.length co147) ∧ nb k_ (.slice Ao148 t733.length co148) ∧ nb k_ v740 ∧ nb k_ v743 ∧ nb k_ v747 ∧ nb k_ v754 ∧ nb k_ v757) v750 t749) := ⟨h7_⟩
  have n8_ : Aside0 (Kd.R (Kd.int .i64) 3 w159 w.heap.size (fun k_ => nb k_ (.slice Ao140 t723.length co140) ∧ nb k_ (.slice Ao141 t726.length co141) ∧ nb k_ (.slice Ao147 t730.length co147) ∧ nb k_ (.slice Ao148 t733.length co148) ∧ nb k_ v740 ∧ nb k_ v743 ∧ nb k_ v747 ∧ nb k_ v750 ∧ nb k_ v757) v754 t753) := ⟨h8_⟩
  have n9_ : Aside0 (Kd.R (Kd.int .i64) 3 w159 w.heap.size (fun k_ => nb k_ (.slice Ao140 t723.length co140) ∧ nb k_ (.slice Ao141 t726.length co141) ∧ nb k_ (.slice Ao147 t730.length co147) ∧ nb k_ (.slice Ao148 t733.length co148) ∧ nb k_ v740 ∧ nb k_ v743 ∧ nb k_ v747 ∧ nb k_ v750 ∧ nb k_ v754) v757 t756) := ⟨h9_⟩
  have n10_ : Aside0 (w159.heap[gb720]? = some (.cells #[.int .i64 a0_0, .slice A0_1 l0_1.length c0_1, .slice A0_2 l0_2.length c0_2] 24 (0, 0))) := ⟨h10_⟩
  have n11_ : Aside0 (w159.heap[gb721]? = some (.cells #[.int .i64 a1_0, .slice A1_1 l1_1.length c1_1, .slice A1_2 l1_2.length c1_2] 24 (0, 0))) := ⟨h11_⟩
  have n12_ : Aside0 (w159.heap[gb737]? = some (.cells #[.int .i64 t729, .slice Ao147 t730.length co147, .slice Ao148 t733.length co148] 30 (0, 0))) := ⟨h12_⟩
  have n13_ : Aside0 (w159.heap[gb760]? = some (.cells #[.int .i64 0, .slice none 0 0, .slice none 0 0] 30 (0, 0))) := ⟨h13_⟩
  have n14_ : Aside0 (w.heap.size ≤ gb760) := ⟨h14_⟩
  have n15_ : Aside0 (w.heap.size ≤ gb760) := ⟨h15_⟩
  have n16_ : Aside0 (gb720 ≠ gb760) := ⟨h16_⟩
  have n17_ : Aside0 (gb760 ≠ gb720) := ⟨h17_⟩
  have n18_ : Aside0 (gb721 ≠ gb760) := ⟨h18_⟩
  have n19_ : Aside0 (gb760 ≠ gb721) := ⟨h19_⟩
  have n20_ : Aside0 (gb737 ≠ gb760) := ⟨h20_⟩
  have n21_ : Aside0 (gb760 ≠ gb737) := ⟨h21_⟩
  have n22_ : Aside0 (Below w.heap.size w w159) := ⟨h22_⟩
  clear HO725
  clear HO728
  clear HO732
  clear HO735
  clear BK720
  clear BK721
  clear BK737
  clear HB
  clear h0_ h1_ h2_ h3_ h4_ h5_ h6_ h7_ h8_ h9_ h10_ h11_ h12_ h13_ h14_ h15_ h16_ h17_ h18_ h19_ h20_ h21_ h22_
  have HO725 := n0_
  have HO728 := n1_
  have HO732 := n2_
  have HO735 := n3_
  have HO741 := n4_
  have HO744 := n5_
  have HO748 := n6_
  have HO751 := n7_
  have HO755 := n8_
  have HO758 := n9_
  have BK720 := n10_
  have BK721 := n11_
  have BK737 := n12_
  have BK760 := n13_
  have GW760 := n14_
  have GE760 := n15_
  have NB720_760 := n16_
  have NB760_720 := n17_
  have NB721_760 := n18_
  have NB760_721 := n19_
  have NB737_760 := n20_
  have NB760_737 := n21_
  have HB := n22_
  clear n0_ n1_ n2_ n3_ n4_ n5_ n6_ n7_ n8_ n9_ n10_ n11_ n12_ n13_ n14_ n15_ n16_ n17_ n18_ n19_ n20_ n21_ n22_
  have hHeld : w159.cell? ⟨gb720, 0, none⟩ = some (.int .i64 a0_0) ∧ w159.cell? ⟨gb720, 1, none⟩ = some (.slice A0_1 l0_1.length c0_1) ∧ w159.cell? ⟨gb720, 2, none⟩ = some (.slice A0_2 l0_2.length c0_2) ∧ w159.cell? ⟨gb721, 0, none⟩ = some (.int .i64 a1_0) ∧ w159.cell? ⟨gb721, 1, none⟩ = some (.slice A1_1 l1_1.length c1_1) ∧ w159.cell? ⟨gb721, 2, none⟩ = some (.slice A1_2 l1_2.length c1_2) := hS_
  obtain ⟨Ao161, co161, eo161⟩ := Kd.R_slice HO755.out
  (first | subst eo161 | (injection eo161 with f1_ f2_ f3_; have f4_ := f1_.symm; have f5_ := f3_.symm; clear f1_ f2_ f3_; subst f4_; subst f5_))
  obtain ⟨Ao163, co163, eo163⟩ := Kd.R_slice HO758.out
  (first | subst eo163 | (injection eo163 with f1_ f2_ f3_; have f4_ := f1_.symm; have f5_ := f3_.symm; clear f1_ f2_ f3_; subst f4_; subst f5_))
  refine norm_ (a' := ?_) ?_ ?_
  rotate_left
  ·simp only [putAll, Act.put, List.setIfInBounds_toArray, List.set_cons_zero, List.set_cons_succ]
   rfl
  refine one_ (i := 9) (N := none) (ba 11 1023) rfl rfl (one_of HT_.out (by kernel_rfl)) (by decide) (fun K hK => ?_)
  have hs160 : w159.cell? ⟨gb760, 0, none⟩ = some (.int .i64 0) := bc BK760 0
  have hfs160 := fz BK760 0
  have hns160_0 := NB720_760.out
  have hns160_1 := NB721_760.out
  have hns160_2 := NB737_760.out
  have hms160_0 := NB760_720.out
  have hms160_1 := NB760_721.out
  have hms160_2 := NB760_737.out
  have hs162 : w159.cell? ⟨gb760, 1, none⟩ = some (.slice none 0 0) := bc BK760 1
  have hfs162 := fz BK760 1
  have hns162_0 := NB720_760.out
  have hns162_1 := NB721_760.out
  have hns162_2 := NB737_760.out
  have hms162_0 := NB760_720.out
  have hms162_1 := NB760_721.out
  have hms162_2 := NB760_737.out
  have hs164 : w159.cell? ⟨gb760, 2, none⟩ = some (.slice none 0 0) := bc BK760 2
  have hfs164 := fz BK760 2
  have hns164_0 := NB720_760.out
  have hns164_1 := NB721_760.out
  have hns164_2 := NB737_760.out
  have hms164_0 := NB760_720.out
  have hms164_1 := NB760_721.out
  have hms164_2 := NB760_737.out
  refine skip_ (w1 := ?_) (by rfl) rfl ?_ ?_
  rotate_left
  ·go_simp
   rfl
  refine hK.out _ _ ⟨((cell_far (p := ⟨gb760, _, none⟩) NB720_760.out _).trans (((cell_far (p := ⟨gb760, _, none⟩) NB720_760.out _).trans (((cell_far (p := ⟨gb760, _, none⟩) NB720_760.out _).trans (hHeld.1)))))), ((cell_far (p := ⟨gb760, _, none⟩) NB720_760.out _).trans (((cell_far (p := ⟨gb760, _, none⟩) NB720_760.out _).trans (((cell_far (p := ⟨gb760, _, none⟩) NB720_760.out _).trans (hHeld.2.1)))))), ((cell_far (p := ⟨gb760, _, none⟩) NB720_760.out _).trans (((cell_far (p := ⟨gb760, _, none⟩) NB720_760.out _).trans (((cell_far (p := ⟨gb760, _, none⟩) NB720_760.out _).trans (hHeld.2.2.1)))))), ((cell_far (p := ⟨gb760, _, none⟩) NB721_760.out _).trans (((cell_far (p := ⟨gb760, _, none⟩) NB721_760.out _).trans (((cell_far (p := ⟨gb760, _, none⟩) NB721_760.out _).trans (hHeld.2.2.2.1)))))), ((cell_far (p := ⟨gb760, _, none⟩) NB721_760.out _).trans (((cell_far (p := ⟨gb760, _, none⟩) NB721_760.out _).trans (((cell_far (p := ⟨gb760, _, none⟩) NB721_760.out _).trans (hHeld.2.2.2.2.1)))))), ((cell_far (p := ⟨gb760, _, none⟩) NB721_760.out _).trans (((cell_far (p := ⟨gb760, _, none⟩) NB721_760.out _).trans (((cell_far (p := ⟨gb760, _, none⟩) NB721_760.out _).trans (hHeld.2.2.2.2.2))))))⟩ (fun hHeld => ?_)
  clear hK K
  refine pS 10 8 11 2047 ?_
  refine done_ (done_of HT_.out (by kernel_rfl)) ?_
  have hnb165 := NB720_760.out
  have hnc165 := NB760_720.out
  have hcz166_0 : w159.cell? ⟨gb720, 0, none⟩ = some (.int .i64 a0_0) := bc BK720 0
  have hcz166_1 : w159.cell? ⟨gb720, 1, none⟩ = some (.slice A0_1 l0_1.length c0_1) := bc BK720 1
  have hcz166_2 : w159.cell? ⟨gb720, 2, none⟩ = some (.slice A0_2 l0_2.length c0_2) := bc BK720 2
  have hfz166_0 := fz BK720 0
  have hfz166_1 := fz BK720 1
  have hfz166_2 := fz BK720 2
  try go_wp2_with (first | ((with_reducible refine gate_callee (f := 29) rfl ?_); refine gL 26 Try.func29 #[.agg #[.int .i64 a0_0, .slice A0_1 l0_1.length c0_1, .slice A0_2 l0_2.length c0_2]] ?_; (with_reducible refine (congouref04_Valid.calls k a0_0 _ _ l0_1 _ _ l0_2 false _ ?side1 ?side2 ?side3 ?side4 A8.out).mono ?_); (case side1 => exact Kd.C_below HR0_1.out (hbC _)); (case side2 => exact HC0_1.out); (case side3 => exact Kd.C_below HR0_2.out (hbC _)); (case side4 => exact HC0_2.out); rintro e w167 ⟨rfl, hb⟩; refine ⟨_, rfl, ?_⟩; replace HO725 := ak (Kd.R_below (rD ((Kd.R_mono (Kd.R_far (p := ⟨gb760, 2, none⟩) (Kd.R_far (p := ⟨gb760, 1, none⟩) (Kd.R_far (p := ⟨gb760, 0, none⟩) (Kd.R_types HO725.out BK760.out (by decide)) (fun _ hk => hk.2) (.int .i64 t752)) (fun _ hk => hk.2) (.slice Ao161 t753.length co161)) (fun _ hk => hk.2) (.slice Ao163 t756.length co163)) (fun _ h_ => h_.1)))) hb); replace HO728 := ak (Kd.R_below (rD ((Kd.R_mono (Kd.R_far (p := ⟨gb760, 2, none⟩) (Kd.R_far (p := ⟨gb760, 1, none⟩) (Kd.R_far (p := ⟨gb760, 0, none⟩) (Kd.R_types HO728.out BK760.out (by decide)) (fun _ hk => hk.2) (.int .i64 t752)) (fun _ hk => hk.2) (.slice Ao161 t753.length co161)) (fun _ hk => hk.2) (.slice Ao163 t756.length co163)) (fun _ h_ => h_.1)))) hb); replace HO732 := ak (Kd.R_below (rD ((Kd.R_mono (Kd.R_far (p := ⟨gb760, 2, none⟩) (Kd.R_far (p := ⟨gb760, 1, none⟩) (Kd.R_far (p := ⟨gb760, 0, none⟩) (Kd.R_types HO732.out BK760.out (by decide)) (fun _ hk => hk.2) (.int .i64 t752)) (fun _ hk => hk.2) (.slice Ao161 t753.length co161)) (fun _ hk => hk.2) (.slice Ao163 t756.length co163)) (fun _ h_ => h_.1)))) hb); replace HO735 := ak (Kd.R_below (rD ((Kd.R_mono (Kd.R_far (p := ⟨gb760, 2, none⟩) (Kd.R_far (p := ⟨gb760, 1, none⟩) (Kd.R_far (p := ⟨gb760, 0, none⟩) (Kd.R_types HO735.out BK760.out (by decide)) (fun _ hk => hk.2) (.int .i64 t752)) (fun _ hk => hk.2) (.slice Ao161 t753.length co161)) (fun _ hk => hk.2) (.slice Ao163 t756.length co163)) (fun _ h_ => h_.1)))) hb); replace HO741 := ak (Kd.R_below (rD ((Kd.R_mono (Kd.R_far (p := ⟨gb760, 2, none⟩) (Kd.R_far (p := ⟨gb760, 1, none⟩) (Kd.R_far (p := ⟨gb760, 0, none⟩) (Kd.R_types HO741.out BK760.out (by decide)) (fun _ hk => hk.2) (.int .i64 t752)) (fun _ hk => hk.2) (.slice Ao161 t753.length co161)) (fun _ hk => hk.2) (.slice Ao163 t756.length co163)) (fun _ h_ => h_.1)))) hb); replace HO744 := ak (Kd.R_below (rD ((Kd.R_mono (Kd.R_far (p := ⟨gb760, 2, none⟩) (Kd.R_far (p := ⟨gb760, 1, none⟩) (Kd.R_far (p := ⟨gb760, 0, none⟩) (Kd.R_types HO744.out BK760.out (by decide)) (fun _ hk => hk.2) (.int .i64 t752)) (fun _ hk => hk.2) (.slice Ao161 t753.length co161)) (fun _ hk => hk.2) (.slice Ao163 t756.length co163)) (fun _ h_ => h_.1)))) hb); replace HO748 := ak (Kd.R_below (rD ((Kd.R_mono (Kd.R_far (p := ⟨gb760, 2, none⟩) (Kd.R_far (p := ⟨gb760, 1, none⟩) (Kd.R_far (p := ⟨gb760, 0, none⟩) (Kd.R_types HO748.out BK760.out (by decide)) (fun _ hk => hk.2) (.int .i64 t752)) (fun _ hk => hk.2) (.slice Ao161 t753.length co161)) (fun _ hk => hk.2) (.slice Ao163 t756.length co163)) (fun _ h_ => h_.1)))) hb); replace HO751 := ak (Kd.R_below (rD ((Kd.R_mono (Kd.R_far (p := ⟨gb760, 2, none⟩) (Kd.R_far (p := ⟨gb760, 1, none⟩) (Kd.R_far (p := ⟨gb760, 0, none⟩) (Kd.R_types HO751.out BK760.out (by decide)) (fun _ hk => hk.2) (.int .i64 t752)) (fun _ hk => hk.2) (.slice Ao161 t753.length co161)) (fun _ hk => hk.2) (.slice Ao163 t756.length co163)) (fun _ h_ => h_.1)))) hb); replace HO755 := ak (Kd.R_below (rD ((Kd.R_mono (Kd.R_far (p := ⟨gb760, 2, none⟩) (Kd.R_far (p := ⟨gb760, 1, none⟩) (Kd.R_far (p := ⟨gb760, 0, none⟩) (Kd.R_types HO755.out BK760.out (by decide)) (fun _ hk => hk.2) (.int .i64 t752)) (fun _ hk => hk.2) (.slice Ao161 t753.length co161)) (fun _ hk => hk.2) (.slice Ao163 t756.length co163)) (fun _ h_ => h_.1)))) hb); replace HO758 := ak (Kd.R_below (rD ((Kd.R_mono (Kd.R_far (p := ⟨gb760, 2, none⟩) (Kd.R_far (p := ⟨gb760, 1, none⟩) (Kd.R_far (p := ⟨gb760, 0, none⟩) (Kd.R_types HO758.out BK760.out (by decide)) (fun _ hk => hk.2) (.int .i64 t752)) (fun _ hk => hk.2) (.slice Ao161 t753.length co161)) (fun _ hk => hk.2) (.slice Ao163 t756.length co163)) (fun _ h_ => h_.1)))) hb); replace BK720 := ak (blk_below (g := gb720) (o := .cells #[.int .i64 a0_0, .slice A0_1 l0_1.length c0_1, .slice A0_2 l0_2.length c0_2] 24 (0, 0)) (bF BK720) hb); replace BK721 := ak (blk_below (g := gb721) (o := .cells #[.int .i64 a1_0, .slice A1_1 l1_1.length c1_1, .slice A1_2 l1_2.length c1_2] 24 (0, 0)) (bF BK721) hb); replace BK737 := ak (blk_below (g := gb737) (o := .cells #[.int .i64 t729, .slice Ao147 t730.length co147, .slice Ao148 t733.length co148] 30 (0, 0)) (bF BK737) hb); replace BK760 := ak (blk_below (g := gb760) (o := .cells #[.int .i64 t752, .slice Ao161 t753.length co161, .slice Ao163 t756.length co163] 30 (0, 0)) (by (with_reducible repeat (first | refine blk_drewN ?_ _ | refine blk_drew ?_ | refine blk_alloc ?_ _)); refine blk_put (cs := #[.int .i64 t752, .slice Ao161 t753.length co161, .slice none 0 0]) ?_ 2 _ rfl; (with_reducible repeat (first | refine blk_drewN ?_ _ | refine blk_drew ?_ | refine blk_alloc ?_ _)); refine blk_put (cs := #[.int .i64 t752, .slice none 0 0, .slice none 0 0]) ?_ 1 _ rfl; (with_reducible repeat (first | refine blk_drewN ?_ _ | refine blk_drew ?_ | refine blk_alloc ?_ _)); refine blk_put (cs := #[.int .i64 0, .slice none 0 0, .slice none 0 0]) ?_ 0 _ rfl; (with_reducible repeat (first | refine blk_drewN ?_ _ | refine blk_drew ?_ | refine blk_alloc ?_ _)); exact BK760.out) hb); replace HB := kH _ hb; (try clear hb); (try clear hb2); (try clear hk); (try clear hi); have hnb168 := NB737_760.out; have hnc168 := NB760_737.out; have hcz169_0 : w167.cell? ⟨gb737, 0, none⟩ = some (.int .i64 t729) := bc BK737 0; have hcz169_1 : w167.cell? ⟨gb737, 1, none⟩ = some (.slice Ao147 t730.length co147) := bc BK737 1; have hcz169_2 : w167.cell? ⟨gb737, 2, none⟩ = some (.slice Ao148 t733.length co148) := bc BK737 2; have hfz169_0 := fz BK737 0; have hfz169_1 := fz BK737 1; have hfz169_2 := fz BK737 2) | ((with_reducible refine gate_callee (f := 30) rfl ?_); refine gL 29 Try.func30 #[.agg #[.int .i64 t729, .slice Ao147 t730.length co147, .slice Ao148 t733.length co148]] ?_; (with_reducible refine (congoulaw04_own.calls t729 (fun k_ => some k_ = (.slice Ao147 t730.length co147 : Value).ownBlock) (.slice Ao147 t730.length co147) t730 (fun k_ => some k_ = (.slice Ao148 t733.length co148 : Value).ownBlock) (.slice Ao148 t733.length co148) t733 t762 t763 t766 w _ ?side1 ?side2 ?side3 ?side4 ?side5 A126.out).mono ?_); (case side1 => repeat (first | (with_reducible first | exact HB.out | apply below_alloc | apply pw_below_drewN | apply below_drew1 | refine below_set ?_ GE720.out | refine below_set ?_ GE721.out | refine below_set ?_ GE737.out | refine below_set ?_ GE760.out) | exact HB.out)); (case side2 => exact Kd.R_tight rfl HO732.out); (case side3 => exact fun k_ e_ => (HO732.out.1 k_ e_.symm).2.2.1); (case side4 => exact Kd.R_tight rfl HO735.out); (case side5 => exact fun k_ e_ => (HO735.out.1 k_ e_.symm).2.2.1); rintro e w170 ⟨v764, v767, rfl, ho0, ho1, hb, hkp⟩; refine ⟨_, rfl, ?_⟩; have n0_ := ak (blk_kept (bkC BK720) hkp (fun hs_ => Or.elim hs_ (fun e_ => (fun e_ => (Kd.R_ne HO732.out BK720.out (by decide)) e_) e_) (fun e_ => (fun e_ => (Kd.R_ne HO735.out BK720.out (by decide)) e_) e_))); have n1_ := ak (blk_kept (bkC BK721) hkp (fun hs_ => Or.elim hs_ (fun e_ => (fun e_ => (Kd.R_ne HO732.out BK721.out (by decide)) e_) e_) (fun e_ => (fun e_ => (Kd.R_ne HO735.out BK721.out (by decide)) e_) e_))); have n2_ := ak (Kd.R_mono (ok' := fun k_ => nb k_ (.slice Ao141 t726.length co141) ∧ nb k_ v740 ∧ nb k_ v743 ∧ nb k_ v747 ∧ nb k_ v750 ∧ nb k_ (.slice Ao161 t753.length co161) ∧ nb k_ (.slice Ao163 t756.length co163) ∧ nb k_ v764 ∧ nb k_ v767) (Kd.R_keptB (HO725.out) hkp (fun k_ hk_ hs_ => Or.elim hs_ (fun e_ => (hk_.2.1) e_) (fun e_ => (hk_.2.2.1) e_))) (fun k_ hk_ => ⟨hk_.1.1, hk_.1.2.2.2.1, hk_.1.2.2.2.2.1, hk_.1.2.2.2.2.2.1, hk_.1.2.2.2.2.2.2.1, hk_.1.2.2.2.2.2.2.2.1, hk_.1.2.2.2.2.2.2.2.2, fun e_ => Or.elim (ho0.1 k_ e_.symm).1 (fun hs_ => hk_.2.1 hs_) (fun hn_ => Nat.not_le.2 hk_.2.2 hn_), fun e_ => Or.elim (ho1.1 k_ e_.symm).1 (fun hs_ => hk_.2.1 hs_) (fun hn_ => Nat.not_le.2 hk_.2.2 hn_)⟩)); have n3_ := ak (Kd.R_mono (ok' := fun k_ => nb k_ (.slice Ao140 t723.length co140) ∧ nb k_ v740 ∧ nb k_ v743 ∧ nb k_ v747 ∧ nb k_ v750 ∧ nb k_ (.slice Ao161 t753.length co161) ∧ nb k_ (.slice Ao163 t756.length co163) ∧ nb k_ v764 ∧ nb k_ v767) (Kd.R_keptB (HO728.out) hkp (fun k_ hk_ hs_ => Or.elim hs_ (fun e_ => (hk_.2.1) e_) (fun e_ => (hk_.2.2.1) e_))) (fun k_ hk_ => ⟨hk_.1.1, hk_.1.2.2.2.1, hk_.1.2.2.2.2.1, hk_.1.2.2.2.2.2.1, hk_.1.2.2.2.2.2.2.1, hk_.1.2.2.2.2.2.2.2.1, hk_.1.2.2.2.2.2.2.2.2, fun e_ => Or.elim (ho0.1 k_ e_.symm).1 (fun hs_ => hk_.2.1 hs_) (fun hn_ => Nat.not_le.2 hk_.2.2 hn_), fun e_ => Or.elim (ho1.1 k_ e_.symm).1 (fun hs_ => hk_.2.1 hs_) (fun hn_ => Nat.not_le.2 hk_.2.2 hn_)⟩)); have n4_ := ak (blk_kept (bkC BK737) hkp (fun hs_ => Or.elim hs_ (fun e_ => (fun e_ => (Kd.R_ne HO732.out BK737.out (by decide)) e_) e_) (fun e_ => (fun e_ => (Kd.R_ne HO735.out BK737.out (by decide)) e_) e_))); have n5_ := ak (Kd.R_mono (ok' := fun k_ => nb k_ (.slice Ao140 t723.length co140) ∧ nb k_ (.slice Ao141 t726.length co141) ∧ nb k_ v743 ∧ nb k_ v747 ∧ nb k_ v750 ∧ nb k_ (.slice Ao161 t753.length co161) ∧ nb k_ (.slice Ao163 t756.length co163) ∧ nb k_ v764 ∧ nb k_ v767) (Kd.R_keptB (HO741.out) hkp (fun k_ hk_ hs_ => Or.elim hs_ (fun e_ => (hk_.2.2.1) e_) (fun e_ => (hk_.2.2.2.1) e_))) (fun k_ hk_ => ⟨hk_.1.1, hk_.1.2.1, hk_.1.2.2.2.2.1, hk_.1.2.2.2.2.2.1, hk_.1.2.2.2.2.2.2.1, hk_.1.2.2.2.2.2.2.2.1, hk_.1.2.2.2.2.2.2.2.2, fun e_ => Or.elim (ho0.1 k_ e_.symm).1 (fun hs_ => hk_.2.1 hs_) (fun hn_ => Nat.not_le.2 hk_.2.2 hn_), fun e_ => Or.elim (ho1.1 k_ e_.symm).1 (fun hs_ => hk_.2.1 hs_) (fun hn_ => Nat.not_le.2 hk_.2.2 hn_)⟩)); have n6_ := ak (Kd.R_mono (ok' := fun k_ => nb k_ (.slice Ao140 t723.length co140) ∧ nb k_ (.slice Ao141 t726.length co141) ∧ nb k_ v740 ∧ nb k_ v747 ∧ nb k_ v750 ∧ nb k_ (.slice Ao161 t753.length co161) ∧ nb k_ (.slice Ao163 t756.length co163) ∧ nb k_ v764 ∧ nb k_ v767) (Kd.R_keptB (HO744.out) hkp (fun k_ hk_ hs_ => Or.elim hs_ (fun e_ => (hk_.2.2.1) e_) (fun e_ => (hk_.2.2.2.1) e_))) (fun k_ hk_ => ⟨hk_.1.1, hk_.1.2.1, hk_.1.2.2.2.2.1, hk_.1.2.2.2.2.2.1, hk_.1.2.2.2.2.2.2.1, hk_.1.2.2.2.2.2.2.2.1, hk_.1.2.2.2.2.2.2.2.2, fun e_ => Or.elim (ho0.1 k_ e_.symm).1 (fun hs_ => hk_.2.1 hs_) (fun hn_ => Nat.not_le.2 hk_.2.2 hn_), fun e_ => Or.elim (ho1.1 k_ e_.symm).1 (fun hs_ => hk_.2.1 hs_) (fun hn_ => Nat.not_le.2 hk_.2.2 hn_)⟩)); have n7_ := ak (Kd.R_mono (ok' := fun k_ => nb k_ (.slice Ao140 t723.length co140) ∧ nb k_ (.slice Ao141 t726.length co141) ∧ nb k_ v740 ∧ nb k_ v743 ∧ nb k_ v750 ∧ nb k_ (.slice Ao161 t753.length co161) ∧ nb k_ (.slice Ao163 t756.length co163) ∧ nb k_ v764 ∧ nb k_ v767) (Kd.R_keptB (HO748.out) hkp (fun k_ hk_ hs_ => Or.elim hs_ (fun e_ => (hk_.2.2.1) e_) (fun e_ => (hk_.2.2.2.1) e_))) (fun k_ hk_ => ⟨hk_.1.1, hk_.1.2.1, hk_.1.2.2.2.2.1, hk_.1.2.2.2.2.2.1, hk_.1.2.2.2.2.2.2.1, hk_.1.2.2.2.2.2.2.2.1, hk_.1.2.2.2.2.2.2.2.2, fun e_ => Or.elim (ho0.1 k_ e_.symm).1 (fun hs_ => hk_.2.1 hs_) (fun hn_ => Nat.not_le.2 hk_.2.2 hn_), fun e_ => Or.elim (ho1.1 k_ e_.symm).1 (fun hs_ => hk_.2.1 hs_) (fun hn_ => Nat.not_le.2 hk_.2.2 hn_)⟩)); have n8_ := ak (Kd.R_mono (ok' := fun k_ => nb k_ (.slice Ao140 t723.length co140) ∧ nb k_ (.slice Ao141 t726.length co141) ∧ nb k_ v740 ∧ nb k_ v743 ∧ nb k_ v747 ∧ nb k_ (.slice Ao161 t753.length co161) ∧ nb k_ (.slice Ao163 t756.length co163) ∧ nb k_ v764 ∧ nb k_ v767) (Kd.R_keptB (HO751.out) hkp (fun k_ hk_ hs_ => Or.elim hs_ (fun e_ => (hk_.2.2.1) e_) (fun e_ => (hk_.2.2.2.1) e_))) (fun k_ hk_ => ⟨hk_.1.1, hk_.1.2.1, hk_.1.2.2.2.2.1, hk_.1.2.2.2.2.2.1, hk_.1.2.2.2.2.2.2.1, hk_.1.2.2.2.2.2.2.2.1, hk_.1.2.2.2.2.2.2.2.2, fun e_ => Or.elim (ho0.1 k_ e_.symm).1 (fun hs_ => hk_.2.1 hs_) (fun hn_ => Nat.not_le.2 hk_.2.2 hn_), fun e_ => Or.elim (ho1.1 k_ e_.symm).1 (fun hs_ => hk_.2.1 hs_) (fun hn_ => Nat.not_le.2 hk_.2.2 hn_)⟩)); have n9_ := ak (Kd.R_mono (ok' := fun k_ => nb k_ (.slice Ao140 t723.length co140) ∧ nb k_ (.slice Ao141 t726.length co141) ∧ nb k_ v740 ∧ nb k_ v743 ∧ nb k_ v747 ∧ nb k_ v750 ∧ nb k_ (.slice Ao163 t756.length co163) ∧ nb k_ v764 ∧ nb k_ v767) (Kd.R_keptB (HO755.out) hkp (fun k_ hk_ hs_ => Or.elim hs_ (fun e_ => (hk_.2.2.1) e_) (fun e_ => (hk_.2.2.2.1) e_))) (fun k_ hk_ => ⟨hk_.1.1, hk_.1.2.1, hk_.1.2.2.2.2.1, hk_.1.2.2.2.2.2.1, hk_.1.2.2.2.2.2.2.1, hk_.1.2.2.2.2.2.2.2.1, hk_.1.2.2.2.2.2.2.2.2, fun e_ => Or.elim (ho0.1 k_ e_.symm).1 (fun hs_ => hk_.2.1 hs_) (fun hn_ => Nat.not_le.2 hk_.2.2 hn_), fun e_ => Or.elim (ho1.1 k_ e_.symm).1 (fun hs_ => hk_.2.1 hs_) (fun hn_ => Nat.not_le.2 hk_.2.2 hn_)⟩)); have n10_ := ak (Kd.R_mono (ok' := fun k_ => nb k_ (.slice Ao140 t723.length co140) ∧ nb k_ (.slice Ao141 t726.length co141) ∧ nb k_ v740 ∧ nb k_ v743 ∧ nb k_ v747 ∧ nb k_ v750 ∧ nb k_ (.slice Ao161 t753.length co161) ∧ nb k_ v764 ∧ nb k_ v767) (Kd.R_keptB (HO758.out) hkp (fun k_ hk_ hs_ => Or.elim hs_ (fun e_ => (hk_.2.2.1) e_) (fun e_ => (hk_.2.2.2.1) e_))) (fun k_ hk_ => ⟨hk_.1.1, hk_.1.2.1, hk_.1.2.2.2.2.1, hk_.1.2.2.2.2.2.1, hk_.1.2.2.2.2.2.2.1, hk_.1.2.2.2.2.2.2.2.1, hk_.1.2.2.2.2.2.2.2.2, fun e_ => Or.elim (ho0.1 k_ e_.symm).1 (fun hs_ => hk_.2.1 hs_) (fun hn_ => Nat.not_le.2 hk_.2.2 hn_), fun e_ => Or.elim (ho1.1 k_ e_.symm).1 (fun hs_ => hk_.2.1 hs_) (fun hn_ => Nat.not_le.2 hk_.2.2 hn_)⟩)); have n11_ := ak (blk_kept (bkC BK760) hkp (fun hs_ => Or.elim hs_ (fun e_ => (fun e_ => (Kd.R_ne HO732.out BK760.out (by decide)) e_) e_) (fun e_ => (fun e_ => (Kd.R_ne HO735.out BK760.out (by decide)) e_) e_))); have n12_ := ak (Kd.R_mono (ok' := fun k_ => nb k_ v767 ∧ nb k_ (.slice Ao140 t723.length co140) ∧ nb k_ (.slice Ao141 t726.length co141) ∧ nb k_ v740 ∧ nb k_ v743 ∧ nb k_ v747 ∧ nb k_ v750 ∧ nb k_ (.slice Ao161 t753.length co161) ∧ nb k_ (.slice Ao163 t756.length co163)) ho0 (fun k_ hk_ => ⟨hk_.2, Or.elim hk_.1 (fun hs_ => Or.elim hs_ (fun hs_ => fun e_ => (((HO725.out).1 k_ e_.symm).2.1) hs_) (fun hs_ => fun e_ => (((HO725.out).1 k_ e_.symm).2.2.1) hs_)) (fun hn_ => (Kd.fresh' (Kd.R_lt (rC HO725)) k_ hn_)), Or.elim hk_.1 (fun hs_ => Or.elim hs_ (fun hs_ => fun e_ => (((HO728.out).1 k_ e_.symm).2.1) hs_) (fun hs_ => fun e_ => (((HO728.out).1 k_ e_.symm).2.2.1) hs_)) (fun hn_ => (Kd.fresh' (Kd.R_lt (rC HO728)) k_ hn_)), Or.elim hk_.1 (fun hs_ => Or.elim hs_ (fun hs_ => fun e_ => (((HO741.out).1 k_ e_.symm).2.2.1) hs_) (fun hs_ => fun e_ => (((HO741.out).1 k_ e_.symm).2.2.2.1) hs_)) (fun hn_ => (Kd.fresh' (Kd.R_lt (rC HO741)) k_ hn_)), Or.elim hk_.1 (fun hs_ => Or.elim hs_ (fun hs_ => fun e_ => (((HO744.out).1 k_ e_.symm).2.2.1) hs_) (fun hs_ => fun e_ => (((HO744.out).1 k_ e_.symm).2.2.2.1) hs_)) (fun hn_ => (Kd.fresh' (Kd.R_lt (rC HO744)) k_ hn_)), Or.elim hk_.1 (fun hs_ => Or.elim hs_ (fun hs_ => fun e_ => (((HO748.out).1 k_ e_.symm).2.2.1) hs_) (fun hs_ => fun e_ => (((HO748.out).1 k_ e_.symm).2.2.2.1) hs_)) (fun hn_ => (Kd.fresh' (Kd.R_lt (rC HO748)) k_ hn_)), Or.elim hk_.1 (fun hs_ => Or.elim hs_ (fun hs_ => fun e_ => (((HO751.out).1 k_ e_.symm).2.2.1) hs_) (fun hs_ => fun e_ => (((HO751.out).1 k_ e_.symm).2.2.2.1) hs_)) (fun hn_ => (Kd.fresh' (Kd.R_lt (rC HO751)) k_ hn_)), Or.elim hk_.1 (fun hs_ => Or.elim hs_ (fun hs_ => fun e_ => (((HO755.out).1 k_ e_.symm).2.2.1) hs_) (fun hs_ => fun e_ => (((HO755.out).1 k_ e_.symm).2.2.2.1) hs_)) (fun hn_ => (Kd.fresh' (Kd.R_lt (rC HO755)) k_ hn_)), Or.elim hk_.1 (fun hs_ => Or.elim hs_ (fun hs_ => fun e_ => (((HO758.out).1 k_ e_.symm).2.2.1) hs_) (fun hs_ => fun e_ => (((HO758.out).1 k_ e_.symm).2.2.2.1) hs_)) (fun hn_ => (Kd.fresh' (Kd.R_lt (rC HO758)) k_ hn_))⟩)); have n13_ := ak (Kd.R_mono (ok' := fun k_ => nb k_ v764 ∧ nb k_ (.slice Ao140 t723.length co140) ∧ nb k_ (.slice Ao141 t726.length co141) ∧ nb k_ v740 ∧ nb k_ v743 ∧ nb k_ v747 ∧ nb k_ v750 ∧ nb k_ (.slice Ao161 t753.length co161) ∧ nb k_ (.slice Ao163 t756.length co163)) ho1 (fun k_ hk_ => ⟨hk_.2, Or.elim hk_.1 (fun hs_ => Or.elim hs_ (fun hs_ => fun e_ => (((HO725.out).1 k_ e_.symm).2.1) hs_) (fun hs_ => fun e_ => (((HO725.out).1 k_ e_.symm).2.2.1) hs_)) (fun hn_ => (Kd.fresh' (Kd.R_lt (rC HO725)) k_ hn_)), Or.elim hk_.1 (fun hs_ => Or.elim hs_ (fun hs_ => fun e_ => (((HO728.out).1 k_ e_.symm).2.1) hs_) (fun hs_ => fun e_ => (((HO728.out).1 k_ e_.symm).2.2.1) hs_)) (fun hn_ => (Kd.fresh' (Kd.R_lt (rC HO728)) k_ hn_)), Or.elim hk_.1 (fun hs_ => Or.elim hs_ (fun hs_ => fun e_ => (((HO741.out).1 k_ e_.symm).2.2.1) hs_) (fun hs_ => fun e_ => (((HO741.out).1 k_ e_.symm).2.2.2.1) hs_)) (fun hn_ => (Kd.fresh' (Kd.R_lt (rC HO741)) k_ hn_)), Or.elim hk_.1 (fun hs_ => Or.elim hs_ (fun hs_ => fun e_ => (((HO744.out).1 k_ e_.symm).2.2.1) hs_) (fun hs_ => fun e_ => (((HO744.out).1 k_ e_.symm).2.2.2.1) hs_)) (fun hn_ => (Kd.fresh' (Kd.R_lt (rC HO744)) k_ hn_)), Or.elim hk_.1 (fun hs_ => Or.elim hs_ (fun hs_ => fun e_ => (((HO748.out).1 k_ e_.symm).2.2.1) hs_) (fun hs_ => fun e_ => (((HO748.out).1 k_ e_.symm).2.2.2.1) hs_)) (fun hn_ => (Kd.fresh' (Kd.R_lt (rC HO748)) k_ hn_)), Or.elim hk_.1 (fun hs_ => Or.elim hs_ (fun hs_ => fun e_ => (((HO751.out).1 k_ e_.symm).2.2.1) hs_) (fun hs_ => fun e_ => (((HO751.out).1 k_ e_.symm).2.2.2.1) hs_)) (fun hn_ => (Kd.fresh' (Kd.R_lt (rC HO751)) k_ hn_)), Or.elim hk_.1 (fun hs_ => Or.elim hs_ (fun hs_ => fun e_ => (((HO755.out).1 k_ e_.symm).2.2.1) hs_) (fun hs_ => fun e_ => (((HO755.out).1 k_ e_.symm).2.2.2.1) hs_)) (fun hn_ => (Kd.fresh' (Kd.R_lt (rC HO755)) k_ hn_)), Or.elim hk_.1 (fun hs_ => Or.elim hs_ (fun hs_ => fun e_ => (((HO758.out).1 k_ e_.symm).2.2.1) hs_) (fun hs_ => fun e_ => (((HO758.out).1 k_ e_.symm).2.2.2.1) hs_)) (fun hn_ => (Kd.fresh' (Kd.R_lt (rC HO758)) k_ hn_))⟩)); have n14_ := ak (hb); clear BK720; clear BK721; clear HO725; clear HO728; clear BK737; clear HO741; clear HO744; clear HO748; clear HO751; clear HO755; clear HO758; clear BK760; clear HB; clear HO732; clear HO735; have BK720 := n0_; have BK721 := n1_; have HO725 := n2_; have HO728 := n3_; have BK737 := n4_; have HO741 := n5_; have HO744 := n6_; have HO748 := n7_; have HO751 := n8_; have HO755 := n9_; have HO758 := n10_; have BK760 := n11_; have HO765 := n12_; have HO768 := n13_; have HB := n14_; clear n0_ n1_ n2_ n3_ n4_ n5_ n6_ n7_ n8_ n9_ n10_ n11_ n12_ n13_ n14_; (try clear hb); (try clear hkp); (try clear ho0); (try clear ho1); obtain ⟨Ao171, co171, eo171⟩ := Kd.R_slice HO765.out; subst eo171; obtain ⟨Ao172, co172, eo172⟩ := Kd.R_slice HO768.out; subst eo172) | ((with_reducible refine gate_callee (f := 31) rfl ?_); refine gL 31 Try.func31 #[.agg #[.int .i64 t762, .slice Ao171 t763.length co171, .slice Ao172 t766.length co172], .agg #[.int .i64 0, .slice none 0 0, .slice none 0 0]] ?_; (refine (congoulaw04_same.calls k t762 _ _ t763 _ _ t766 0 _ _ ([] : List Int) _ _ ([] : List Int) true _ ?side1 ?side2 ?side3 ?side4 ?side5 ?side6 ?side7 ?side8 A127.out).mono ?_); (case side1 => exact kD (Kd.R_reads' HO765.out).2.2); (case side2 => exact (Kd.R_reads' HO765.out).2.1); (case side3 => exact kD (Kd.R_reads' HO768.out).2.2); (case side4 => exact (Kd.R_reads' HO768.out).2.1); (case side5 => exact Kd.C_nil _ _); (case side6 => exact Nat.le_refl _); (case side7 => exact Kd.C_nil _ _); (case side8 => exact Nat.le_refl _); rintro e w173 ⟨rfl, hb⟩; refine ⟨_, rfl, ?_⟩; replace HO725 := kO HO725 hb; replace HO728 := kO HO728 hb; replace HO741 := kO HO741 hb; replace HO744 := kO HO744 hb; replace HO748 := kO HO748 hb; replace HO751 := kO HO751 hb; replace HO755 := kO HO755 hb; replace HO758 := kO HO758 hb; replace HO765 := kO HO765 hb; replace HO768 := kO HO768 hb; replace BK720 := kB BK720 hb; replace BK721 := kB BK721 hb; replace BK737 := kB BK737 hb; replace BK760 := kB BK760 hb; replace HB := kH _ hb; (try clear hb); (try clear hb2); (try clear hk); (try clear hi); have hnb174 := NB760_721.out; have hnc174 := NB721_760.out; have hcz175_0 : w173.cell? ⟨gb760, 0, none⟩ = some (.int .i64 t752) := bc BK760 0; have hcz175_1 : w173.cell? ⟨gb760, 1, none⟩ = some (.slice Ao161 t753.length co161) := bc BK760 1; have hcz175_2 : w173.cell? ⟨gb760, 2, none⟩ = some (.slice Ao163 t756.length co163) := bc BK760 2; have hfz175_0 := fz BK760 0; have hfz175_1 := fz BK760 1; have hfz175_2 := fz BK760 2) | (go_at_call 30; (with_reducible refine (congoulaw04_own.calls t752 (fun k_ => some k_ = (.slice Ao161 t753.length co161 : Value).ownBlock) (.slice Ao161 t753.length co161) t753 (fun k_ => some k_ = (.slice Ao163 t756.length co163 : Value).ownBlock) (.slice Ao163 t756.length co163) t756 t770 t771 t774 w _ ?side1 ?side2 ?side3 ?side4 ?side5 A129.out).mono ?_); (case side1 => repeat (first | (with_reducible first | exact HB.out | apply below_alloc | apply pw_below_drewN | apply below_drew1 | refine below_set ?_ GE720.out | refine below_set ?_ GE721.out | refine below_set ?_ GE737.out | refine below_set ?_ GE760.out) | exact HB.out)); (case side2 => exact Kd.R_tight rfl HO755.out); (case side3 => exact fun k_ e_ => (HO755.out.1 k_ e_.symm).2.2.2.2.2.2.1); (case side4 => exact Kd.R_tight rfl HO758.out); (case side5 => exact fun k_ e_ => (HO758.out.1 k_ e_.symm).2.2.2.2.2.2.1); rintro e w176 ⟨v772, v775, rfl, ho0, ho1, hb, hkp⟩; have n0_ := ak (blk_kept (bkC BK720) hkp (fun hs_ => Or.elim hs_ (fun e_ => (fun e_ => (Kd.R_ne HO755.out BK720.out (by decide)) e_) e_) (fun e_ => (fun e_ => (Kd.R_ne HO758.out BK720.out (by decide)) e_) e_))); have n1_ := ak (blk_kept (bkC BK721) hkp (fun hs_ => Or.elim hs_ (fun e_ => (fun e_ => (Kd.R_ne HO755.out BK721.out (by decide)) e_) e_) (fun e_ => (fun e_ => (Kd.R_ne HO758.out BK721.out (by decide)) e_) e_))); have n2_ := ak (Kd.R_mono (ok' := fun k_ => nb k_ (.slice Ao141 t726.length co141) ∧ nb k_ v740 ∧ nb k_ v743 ∧ nb k_ v747 ∧ nb k_ v750 ∧ nb k_ (.slice Ao171 t763.length co171) ∧ nb k_ (.slice Ao172 t766.length co172) ∧ nb k_ v772 ∧ nb k_ v775) (Kd.R_keptB (HO725.out) hkp (fun k_ hk_ hs_ => Or.elim hs_ (fun e_ => (hk_.2.2.2.2.2.1) e_) (fun e_ => (hk_.2.2.2.2.2.2.1) e_))) (fun k_ hk_ => ⟨hk_.1.1, hk_.1.2.1, hk_.1.2.2.1, hk_.1.2.2.2.1, hk_.1.2.2.2.2.1, hk_.1.2.2.2.2.2.2.2.1, hk_.1.2.2.2.2.2.2.2.2, fun e_ => Or.elim (ho0.1 k_ e_.symm).1 (fun hs_ => hk_.2.1 hs_) (fun hn_ => Nat.not_le.2 hk_.2.2 hn_), fun e_ => Or.elim (ho1.1 k_ e_.symm).1 (fun hs_ => hk_.2.1 hs_) (fun hn_ => Nat.not_le.2 hk_.2.2 hn_)⟩)); have n3_ := ak (Kd.R_mono (ok' := fun k_ => nb k_ (.slice Ao140 t723.length co140) ∧ nb k_ v740 ∧ nb k_ v743 ∧ nb k_ v747 ∧ nb k_ v750 ∧ nb k_ (.slice Ao171 t763.length co171) ∧ nb k_ (.slice Ao172 t766.length co172) ∧ nb k_ v772 ∧ nb k_ v775) (Kd.R_keptB (HO728.out) hkp (fun k_ hk_ hs_ => Or.elim hs_ (fun e_ => (hk_.2.2.2.2.2.1) e_) (fun e_ => (hk_.2.2.2.2.2.2.1) e_))) (fun k_ hk_ => ⟨hk_.1.1, hk_.1.2.1, hk_.1.2.2.1, hk_.1.2.2.2.1, hk_.1.2.2.2.2.1, hk_.1.2.2.2.2.2.2.2.1, hk_.1.2.2.2.2.2.2.2.2, fun e_ => Or.elim (ho0.1 k_ e_.symm).1 (fun hs_ => hk_.2.1 hs_) (fun hn_ => Nat.not_le.2 hk_.2.2 hn_), fun e_ => Or.elim (ho1.1 k_ e_.symm).1 (fun hs_ => hk_.2.1 hs_) (fun hn_ => Nat.not_le.2 hk_.2.2 hn_)⟩)); have n4_ := ak (blk_kept (bkC BK737) hkp (fun hs_ => Or.elim hs_ (fun e_ => (fun e_ => (Kd.R_ne HO755.out BK737.out (by decide)) e_) e_) (fun e_ => (fun e_ => (Kd.R_ne HO758.out BK737.out (by decide)) e_) e_))); have n5_ := ak (Kd.R_mono (ok' := fun k_ => nb k_ (.slice Ao140 t723.length co140) ∧ nb k_ (.slice Ao141 t726.length co141) ∧ nb k_ v743 ∧ nb k_ v747 ∧ nb k_ v750 ∧ nb k_ (.slice Ao171 t763.length co171) ∧ nb k_ (.slice Ao172 t766.length co172) ∧ nb k_ v772 ∧ nb k_ v775) (Kd.R_keptB (HO741.out) hkp (fun k_ hk_ hs_ => Or.elim hs_ (fun e_ => (hk_.2.2.2.2.2.1) e_) (fun e_ => (hk_.2.2.2.2.2.2.1) e_))) (fun k_ hk_ => ⟨hk_.1.1, hk_.1.2.1, hk_.1.2.2.1, hk_.1.2.2.2.1, hk_.1.2.2.2.2.1, hk_.1.2.2.2.2.2.2.2.1, hk_.1.2.2.2.2.2.2.2.2, fun e_ => Or.elim (ho0.1 k_ e_.symm).1 (fun hs_ => hk_.2.1 hs_) (fun hn_ => Nat.not_le.2 hk_.2.2 hn_), fun e_ => Or.elim (ho1.1 k_ e_.symm).1 (fun hs_ => hk_.2.1 hs_) (fun hn_ => Nat.not_le.2 hk_.2.2 hn_)⟩)); have n6_ := ak (Kd.R_mono (ok' := fun k_ => nb k_ (.slice Ao140 t723.length co140) ∧ nb k_ (.slice Ao141 t726.length co141) ∧ nb k_ v740 ∧ nb k_ v747 ∧ nb k_ v750 ∧ nb k_ (.slice Ao171 t763.length co171) ∧ nb k_ (.slice Ao172 t766.length co172) ∧ nb k_ v772 ∧ nb k_ v775) (Kd.R_keptB (HO744.out) hkp (fun k_ hk_ hs_ => Or.elim hs_ (fun e_ => (hk_.2.2.2.2.2.1) e_) (fun e_ => (hk_.2.2.2.2.2.2.1) e_))) (fun k_ hk_ => ⟨hk_.1.1, hk_.1.2.1, hk_.1.2.2.1, hk_.1.2.2.2.1, hk_.1.2.2.2.2.1, hk_.1.2.2.2.2.2.2.2.1, hk_.1.2.2.2.2.2.2.2.2, fun e_ => Or.elim (ho0.1 k_ e_.symm).1 (fun hs_ => hk_.2.1 hs_) (fun hn_ => Nat.not_le.2 hk_.2.2 hn_), fun e_ => Or.elim (ho1.1 k_ e_.symm).1 (fun hs_ => hk_.2.1 hs_) (fun hn_ => Nat.not_le.2 hk_.2.2 hn_)⟩)); have n7_ := ak (Kd.R_mono (ok' := fun k_ => nb k_ (.slice Ao140 t723.length co140) ∧ nb k_ (.slice Ao141 t726.length co141) ∧ nb k_ v740 ∧ nb k_ v743 ∧ nb k_ v750 ∧ nb k_ (.slice Ao171 t763.length co171) ∧ nb k_ (.slice Ao172 t766.length co172) ∧ nb k_ v772 ∧ nb k_ v775) (Kd.R_keptB (HO748.out) hkp (fun k_ hk_ hs_ => Or.elim hs_ (fun e_ => (hk_.2.2.2.2.2.1) e_) (fun e_ => (hk_.2.2.2.2.2.2.1) e_))) (fun k_ hk_ => ⟨hk_.1.1, hk_.1.2.1, hk_.1.2.2.1, hk_.1.2.2.2.1, hk_.1.2.2.2.2.1, hk_.1.2.2.2.2.2.2.2.1, hk_.1.2.2.2.2.2.2.2.2, fun e_ => Or.elim (ho0.1 k_ e_.symm).1 (fun hs_ => hk_.2.1 hs_) (fun hn_ => Nat.not_le.2 hk_.2.2 hn_), fun e_ => Or.elim (ho1.1 k_ e_.symm).1 (fun hs_ => hk_.2.1 hs_) (fun hn_ => Nat.not_le.2 hk_.2.2 hn_)⟩)); have n8_ := ak (Kd.R_mono (ok' := fun k_ => nb k_ (.slice Ao140 t723.length co140) ∧ nb k_ (.slice Ao141 t726.length co141) ∧ nb k_ v740 ∧ nb k_ v743 ∧ nb k_ v747 ∧ nb k_ (.slice Ao171 t763.length co171) ∧ nb k_ (.slice Ao172 t766.length co172) ∧ nb k_ v772 ∧ nb k_ v775) (Kd.R_keptB (HO751.out) hkp (fun k_ hk_ hs_ => Or.elim hs_ (fun e_ => (hk_.2.2.2.2.2.1) e_) (fun e_ => (hk_.2.2.2.2.2.2.1) e_))) (fun k_ hk_ => ⟨hk_.1.1, hk_.1.2.1, hk_.1.2.2.1, hk_.1.2.2.2.1, hk_.1.2.2.2.2.1, hk_.1.2.2.2.2.2.2.2.1, hk_.1.2.2.2.2.2.2.2.2, fun e_ => Or.elim (ho0.1 k_ e_.symm).1 (fun hs_ => hk_.2.1 hs_) (fun hn_ => Nat.not_le.2 hk_.2.2 hn_), fun e_ => Or.elim (ho1.1 k_ e_.symm).1 (fun hs_ => hk_.2.1 hs_) (fun hn_ => Nat.not_le.2 hk_.2.2 hn_)⟩)); have n9_ := ak (blk_kept (bkC BK760) hkp (fun hs_ => Or.elim hs_ (fun e_ => (fun e_ => (Kd.R_ne HO755.out BK760.out (by decide)) e_) e_) (fun e_ => (fun e_ => (Kd.R_ne HO758.out BK760.out (by decide)) e_) e_))); have n10_ := ak (Kd.R_mono (ok' := fun k_ => nb k_ (.slice Ao140 t723.length co140) ∧ nb k_ (.slice Ao141 t726.length co141) ∧ nb k_ v740 ∧ nb k_ v743 ∧ nb k_ v747 ∧ nb k_ v750 ∧ nb k_ (.slice Ao172 t766.length co172) ∧ nb k_ v772 ∧ nb k_ v775) (Kd.R_keptB (HO765.out) hkp (fun k_ hk_ hs_ => Or.elim hs_ (fun e_ => (hk_.2.2.2.2.2.2.2.1) e_) (fun e_ => (hk_.2.2.2.2.2.2.2.2) e_))) (fun k_ hk_ => ⟨hk_.1.2.1, hk_.1.2.2.1, hk_.1.2.2.2.1, hk_.1.2.2.2.2.1, hk_.1.2.2.2.2.2.1, hk_.1.2.2.2.2.2.2.1, hk_.1.1, fun e_ => Or.elim (ho0.1 k_ e_.symm).1 (fun hs_ => hk_.2.1 hs_) (fun hn_ => Nat.not_le.2 hk_.2.2 hn_), fun e_ => Or.elim (ho1.1 k_ e_.symm).1 (fun hs_ => hk_.2.1 hs_) (fun hn_ => Nat.not_le.2 hk_.2.2 hn_)⟩)); have n11_ := ak (Kd.R_mono (ok' := fun k_ => nb k_ (.slice Ao140 t723.length co140) ∧ nb k_ (.slice Ao141 t726.length co141) ∧ nb k_ v740 ∧ nb k_ v743 ∧ nb k_ v747 ∧ nb k_ v750 ∧ nb k_ (.slice Ao171 t763.length co171) ∧ nb k_ v772 ∧ nb k_ v775) (Kd.R_keptB (HO768.out) hkp (fun k_ hk_ hs_ => Or.elim hs_ (fun e_ => (hk_.2.2.2.2.2.2.2.1) e_) (fun e_ => (hk_.2.2.2.2.2.2.2.2) e_))) (fun k_ hk_ => ⟨hk_.1.2.1, hk_.1.2.2.1, hk_.1.2.2.2.1, hk_.1.2.2.2.2.1, hk_.1.2.2.2.2.2.1, hk_.1.2.2.2.2.2.2.1, hk_.1.1, fun e_ => Or.elim (ho0.1 k_ e_.symm).1 (fun hs_ => hk_.2.1 hs_) (fun hn_ => Nat.not_le.2 hk_.2.2 hn_), fun e_ => Or.elim (ho1.1 k_ e_.symm).1 (fun hs_ => hk_.2.1 hs_) (fun hn_ => Nat.not_le.2 hk_.2.2 hn_)⟩)); have n12_ := ak (Kd.R_mono (ok' := fun k_ => nb k_ v775 ∧ nb k_ (.slice Ao140 t723.length co140) ∧ nb k_ (.slice Ao141 t726.length co141) ∧ nb k_ v740 ∧ nb k_ v743 ∧ nb k_ v747 ∧ nb k_ v750 ∧ nb k_ (.slice Ao171 t763.length co171) ∧ nb k_ (.slice Ao172 t766.length co172)) ho0 (fun k_ hk_ => ⟨hk_.2, Or.elim hk_.1 (fun hs_ => Or.elim hs_ (fun hs_ => fun e_ => (((HO725.out).1 k_ e_.symm).2.2.2.2.2.1) hs_) (fun hs_ => fun e_ => (((HO725.out).1 k_ e_.symm).2.2.2.2.2.2.1) hs_)) (fun hn_ => (Kd.fresh' (Kd.R_lt (rC HO725)) k_ hn_)), Or.elim hk_.1 (fun hs_ => Or.elim hs_ (fun hs_ => fun e_ => (((HO728.out).1 k_ e_.symm).2.2.2.2.2.1) hs_) (fun hs_ => fun e_ => (((HO728.out).1 k_ e_.symm).2.2.2.2.2.2.1) hs_)) (fun hn_ => (Kd.fresh' (Kd.R_lt (rC HO728)) k_ hn_)), Or.elim hk_.1 (fun hs_ => Or.elim hs_ (fun hs_ => fun e_ => (((HO741.out).1 k_ e_.symm).2.2.2.2.2.1) hs_) (fun hs_ => fun e_ => (((HO741.out).1 k_ e_.symm).2.2.2.2.2.2.1) hs_)) (fun hn_ => (Kd.fresh' (Kd.R_lt (rC HO741)) k_ hn_)), Or.elim hk_.1 (fun hs_ => Or.elim hs_ (fun hs_ => fun e_ => (((HO744.out).1 k_ e_.symm).2.2.2.2.2.1) hs_) (fun hs_ => fun e_ => (((HO744.out).1 k_ e_.symm).2.2.2.2.2.2.1) hs_)) (fun hn_ => (Kd.fresh' (Kd.R_lt (rC HO744)) k_ hn_)), Or.elim hk_.1 (fun hs_ => Or.elim hs_ (fun hs_ => fun e_ => (((HO748.out).1 k_ e_.symm).2.2.2.2.2.1) hs_) (fun hs_ => fun e_ => (((HO748.out).1 k_ e_.symm).2.2.2.2.2.2.1) hs_)) (fun hn_ => (Kd.fresh' (Kd.R_lt (rC HO748)) k_ hn_)), Or.elim hk_.1 (fun hs_ => Or.elim hs_ (fun hs_ => fun e_ => (((HO751.out).1 k_ e_.symm).2.2.2.2.2.1) hs_) (fun hs_ => fun e_ => (((HO751.out).1 k_ e_.symm).2.2.2.2.2.2.1) hs_)) (fun hn_ => (Kd.fresh' (Kd.R_lt (rC HO751)) k_ hn_)), Or.elim hk_.1 (fun hs_ => Or.elim hs_ (fun hs_ => fun e_ => (((HO765.out).1 k_ e_.symm).2.2.2.2.2.2.2.1) hs_) (fun hs_ => fun e_ => (((HO765.out).1 k_ e_.symm).2.2.2.2.2.2.2.2) hs_)) (fun hn_ => (Kd.fresh' (Kd.R_lt (rC HO765)) k_ hn_)), Or.elim hk_.1 (fun hs_ => Or.elim hs_ (fun hs_ => fun e_ => (((HO768.out).1 k_ e_.symm).2.2.2.2.2.2.2.1) hs_) (fun hs_ => fun e_ => (((HO768.out).1 k_ e_.symm).2.2.2.2.2.2.2.2) hs_)) (fun hn_ => (Kd.fresh' (Kd.R_lt (rC HO768)) k_ hn_))⟩)); have n13_ := ak (Kd.R_mono (ok' := fun k_ => nb k_ v772 ∧ nb k_ (.slice Ao140 t723.length co140) ∧ nb k_ (.slice Ao141 t726.length co141) ∧ nb k_ v740 ∧ nb k_ v743 ∧ nb k_ v747 ∧ nb k_ v750 ∧ nb k_ (.slice Ao171 t763.length co171) ∧ nb k_ (.slice Ao172 t766.length co172)) ho1 (fun k_ hk_ => ⟨hk_.2, Or.elim hk_.1 (fun hs_ => Or.elim hs_ (fun hs_ => fun e_ => (((HO725.out).1 k_ e_.symm).2.2.2.2.2.1) hs_) (fun hs_ => fun e_ => (((HO725.out).1 k_ e_.symm).2.2.2.2.2.2.1) hs_)) (fun hn_ => (Kd.fresh' (Kd.R_lt (rC HO725)) k_ hn_)), Or.elim hk_.1 (fun hs_ => Or.elim hs_ (fun hs_ => fun e_ => (((HO728.out).1 k_ e_.symm).2.2.2.2.2.1) hs_) (fun hs_ => fun e_ => (((HO728.out).1 k_ e_.symm).2.2.2.2.2.2.1) hs_)) (fun hn_ => (Kd.fresh' (Kd.R_lt (rC HO728)) k_ hn_)), Or.elim hk_.1 (fun hs_ => Or.elim hs_ (fun hs_ => fun e_ => (((HO741.out).1 k_ e_.symm).2.2.2.2.2.1) hs_) (fun hs_ => fun e_ => (((HO741.out).1 k_ e_.symm).2.2.2.2.2.2.1) hs_)) (fun hn_ => (Kd.fresh' (Kd.R_lt (rC HO741)) k_ hn_)), Or.elim hk_.1 (fun hs_ => Or.elim hs_ (fun hs_ => fun e_ => (((HO744.out).1 k_ e_.symm).2.2.2.2.2.1) hs_) (fun hs_ => fun e_ => (((HO744.out).1 k_ e_.symm).2.2.2.2.2.2.1) hs_)) (fun hn_ => (Kd.fresh' (Kd.R_lt (rC HO744)) k_ hn_)), Or.elim hk_.1 (fun hs_ => Or.elim hs_ (fun hs_ => fun e_ => (((HO748.out).1 k_ e_.symm).2.2.2.2.2.1) hs_) (fun hs_ => fun e_ => (((HO748.out).1 k_ e_.symm).2.2.2.2.2.2.1) hs_)) (fun hn_ => (Kd.fresh' (Kd.R_lt (rC HO748)) k_ hn_)), Or.elim hk_.1 (fun hs_ => Or.elim hs_ (fun hs_ => fun e_ => (((HO751.out).1 k_ e_.symm).2.2.2.2.2.1) hs_) (fun hs_ => fun e_ => (((HO751.out).1 k_ e_.symm).2.2.2.2.2.2.1) hs_)) (fun hn_ => (Kd.fresh' (Kd.R_lt (rC HO751)) k_ hn_)), Or.elim hk_.1 (fun hs_ => Or.elim hs_ (fun hs_ => fun e_ => (((HO765.out).1 k_ e_.symm).2.2.2.2.2.2.2.1) hs_) (fun hs_ => fun e_ => (((HO765.out).1 k_ e_.symm).2.2.2.2.2.2.2.2) hs_)) (fun hn_ => (Kd.fresh' (Kd.R_lt (rC HO765)) k_ hn_)), Or.elim hk_.1 (fun hs_ => Or.elim hs_ (fun hs_ => fun e_ => (((HO768.out).1 k_ e_.symm).2.2.2.2.2.2.2.1) hs_) (fun hs_ => fun e_ => (((HO768.out).1 k_ e_.symm).2.2.2.2.2.2.2.2) hs_)) (fun hn_ => (Kd.fresh' (Kd.R_lt (rC HO768)) k_ hn_))⟩)); have n14_ := ak (hb); clear BK720; clear BK721; clear HO725; clear HO728; clear BK737; clear HO741; clear HO744; clear HO748; clear HO751; clear BK760; clear HO765; clear HO768; clear HB; clear HO755; clear HO758; have BK720 := n0_; have BK721 := n1_; have HO725 := n2_; have HO728 := n3_; have BK737 := n4_; have HO741 := n5_; have HO744 := n6_; have HO748 := n7_; have HO751 := n8_; have BK760 := n9_; have HO765 := n10_; have HO768 := n11_; have HO773 := n12_; have HO776 := n13_; have HB := n14_; clear n0_ n1_ n2_ n3_ n4_ n5_ n6_ n7_ n8_ n9_ n10_ n11_ n12_ n13_ n14_; (try clear hb); (try clear hkp); (try clear ho0); (try clear ho1); obtain ⟨Ao177, co177, eo177⟩ := Kd.R_slice HO773.out; subst eo177; obtain ⟨Ao178, co178, eo178⟩ := Kd.R_slice HO776.out; subst eo178) | (go_at_call 31; (refine (congoulaw04_same.calls k t770 _ _ t771 _ _ t774 0 _ _ ([] : List Int) _ _ ([] : List Int) true _ ?side1 ?side2 ?side3 ?side4 ?side5 ?side6 ?side7 ?side8 A130.out).mono ?_); (case side1 => exact kD (Kd.R_reads' HO773.out).2.2); (case side2 => exact (Kd.R_reads' HO773.out).2.1); (case side3 => exact kD (Kd.R_reads' HO776.out).2.2); (case side4 => exact (Kd.R_reads' HO776.out).2.1); (case side5 => exact Kd.C_nil _ _); (case side6 => exact Nat.le_refl _); (case side7 => exact Kd.C_nil _ _); (case side8 => exact Nat.le_refl _); rintro e w179 ⟨rfl, hb⟩; replace HO725 := kO HO725 hb; replace HO728 := kO HO728 hb; replace HO741 := kO HO741 hb; replace HO744 := kO HO744 hb; replace HO748 := kO HO748 hb; replace HO751 := kO HO751 hb; replace HO765 := kO HO765 hb; replace HO768 := kO HO768 hb; replace HO773 := kO HO773 hb; replace HO776 := kO HO776 hb; replace BK720 := kB BK720 hb; replace BK721 := kB BK721 hb; replace BK737 := kB BK737 hb; replace BK760 := kB BK760 hb; replace HB := kH _ hb; (try clear hb); (try clear hb2); (try clear hk); (try clear hi)) | (go_at_call 17; (with_reducible refine (congoulaw04_awake.calls k  t778 _ A134.out).mono ?_); rintro e w180 ⟨rfl, hb⟩; replace HO725 := kO HO725 hb; replace HO728 := kO HO728 hb; replace HO741 := kO HO741 hb; replace HO744 := kO HO744 hb; replace HO748 := kO HO748 hb; replace HO751 := kO HO751 hb; replace HO765 := kO HO765 hb; replace HO768 := kO HO768 hb; replace HO773 := kO HO773 hb; replace HO776 := kO HO776 hb; replace BK720 := kB BK720 hb; replace BK721 := kB BK721 hb; replace BK737 := kB BK737 hb; replace BK760 := kB BK760 hb; replace HB := kH _ hb; (try clear hb); (try clear hb2); (try clear hk); (try clear hi)))
  go_ret
  exact ⟨by first | rfl | (simp [errW_none, errW_some] <;> rfl) | (simp [*, errW_none, errW_some] <;> rfl), hbC _⟩
 subst c9
 have H1 : ((congoulaw04_own.f t729 t730 t733).bind fun bt779 => ((congouref04_Mirror.f k a0_0 l0_1 l0_2).bind fun bt786 => ((congoulaw04_same.f k bt779.1 bt779.2.1 bt779.2.2 bt786.1 bt786.2.1 bt786.2.2).bind fun t793 => (if t793 = true then (if t736 = 0 then ((congoulaw04_awake.f k).bind fun t794 => (congoulaw04_CurvesMirrors.j0 k t759 (!t794) a0_0 l0_1 l0_2 a1_0 l1_1 l1_2 t752 t753 t756)) else (congoulaw04_CurvesMirrors.j0 k t759 true a0_0 l0_1 l0_2 a1_0 l1_1 l1_2 t752 t753 t756)) else (congoulaw04_CurvesMirrors.j0 k t759 true a0_0 l0_1 l0_2 a1_0 l1_1 l1_2 t752 t753 t756))))) = some r := by rw [if_pos rfl] at H; exact H
 clear H
 have H := H1
 clear H1
 have HC10 := Aside0.mk H
 clear H
 go_enter Try.func9, Try.ntmps9
 try go_wp2_with (first | ((with_reducible refine gate_dst (N := 2) rfl ?_); refine bE 2 #[.int .i64 a0_0, .slice A0_1 l0_1.length c0_1, .slice A0_2 l0_2.length c0_2] 24 ?_; intro gb720 hg w11 hbox hb; have BK720 := ak (hbox); have GW720 := kG w hg; have GE720 := kG w hg; replace HB := kH _ hb; clear hb hbox hg) | ((with_reducible refine gate_dst (N := 3) rfl ?_); refine bE 3 #[.int .i64 a1_0, .slice A1_1 l1_1.length c1_1, .slice A1_2 l1_2.length c1_2] 24 ?_; intro gb721 hg w12 hbox hb; have BK721 := ak (hbox); have GW721 := kG w hg; have GE721 := kG w hg; replace HB := kH _ hb; have NB720_721 := kL BK720 hg; have NB721_720 := kR BK720 hg; replace BK720 := kB BK720 hb; clear hb hbox hg; have hnb13 := NB720_721.out; have hnc13 := NB721_720.out; have hcz14_0 : w12.cell? ⟨gb720, 0, none⟩ = some (.int .i64 a0_0) := bc BK720 0; have hcz14_1 : w12.cell? ⟨gb720, 1, none⟩ = some (.slice A0_1 l0_1.length c0_1) := bc BK720 1; have hcz14_2 : w12.cell? ⟨gb720, 2, none⟩ = some (.slice A0_2 l0_2.length c0_2) := bc BK720 2; have hfz14_0 := fz BK720 0; have hfz14_1 := fz BK720 1; have hfz14_2 := fz BK720 2) | ((with_reducible refine gate_callee (f := 15) rfl ?_); refine gL 13 Try.func15 #[.agg #[.int .i64 a0_0, .slice A0_1 l0_1.length c0_1, .slice A0_2 l0_2.length c0_2]] ?_; (with_reducible refine (congoulaw04_Of.calls a0_0 _ _ l0_1 _ _ l0_2 t722 t723 t726 _ ?side1 ?side2 ?side3 ?side4 A3.out).mono ?_); (case side1 => exact kC HR0_1); (case side2 => exact HC0_1.out); (case side3 => exact kC HR0_2); (case side4 => exact HC0_2.out); rintro e w15 ⟨v724, v727, rfl, ho0, ho1, hb⟩; refine ⟨_, rfl, ?_⟩; have HO725 := ak (Kd.R_lower ho0 (below_size (hbC _))); have HO728 := ak (Kd.R_lower ho1 (below_size (hbC _))); replace BK720 := kB BK720 hb; replace BK721 := kB BK721 hb; replace HB := kH _ hb; (try clear hb); (try clear hb2); (try clear hk); (try clear hi); (try clear ho0); (try clear ho1); obtain ⟨Ao16, co16, eo16⟩ := Kd.R_slice HO725.out; subst eo16; obtain ⟨Ao17, co17, eo17⟩ := Kd.R_slice HO728.out; subst eo17) | ((with_reducible refine gate_callee (f := 28) rfl ?_); refine gL 14 Try.func28 #[.agg #[.int .i64 t722, .slice Ao16 t723.length co16, .slice Ao17 t726.length co17]] ?_; (with_reducible refine (curves_Mirror.calls k t722 _ _ t723 _ _ t726 t729 t730 t733 t736 _ ?side1 ?side2 ?side3 ?side4 A4.out).mono ?_); (case side1 => exact kD (Kd.R_reads' HO725.out).2.2); (case side2 => exact (Kd.R_reads' HO725.out).2.1); (case side3 => exact kD (Kd.R_reads' HO728.out).2.2); (case side4 => exact (Kd.R_reads' HO728.out).2.1); rintro e w18 ⟨v731, v734, rfl, ho0, ho1, hb⟩; refine ⟨_, rfl, ?_⟩; have HO732 := ak (Kd.R_lower (Kd.R_new' (Kd.R_new' ho0 (Kd.R_lt (rC HO725))) (Kd.R_lt (rC HO728))) (below_size (hbC _))); have HO735 := ak (Kd.R_lower (Kd.R_new' (Kd.R_new' ho1 (Kd.R_lt (rC HO725))) (Kd.R_lt (rC HO728))) (below_size (hbC _))); replace HO725 := kT HO725 hb ho0 ho1; replace HO728 := kT HO728 hb ho0 ho1; replace BK720 := kB BK720 hb; replace BK721 := kB BK721 hb; replace HB := kH _ hb; (try clear hb); (try clear hb2); (try clear hk); (try clear hi); (try clear ho0); (try clear ho1)) | ((with_reducible refine gate_dst (N := 5) rfl ?_); refine bE 5 #[.int .i64 0, .slice none 0 0, .slice none 0 0] 30 ?_; intro gb737 hg w19 hbox hb; replace HO725 := kO HO725 hb; replace HO728 := kO HO728 hb; replace HO732 := kO HO732 hb; replace HO735 := kO HO735 hb; have BK737 := ak (hbox); have GW737 := kG w hg; have GE737 := kG w hg; replace HB := kH _ hb; have NB720_737 := kL BK720 hg; have NB737_720 := kR BK720 hg; replace BK720 := kB BK720 hb; have NB721_737 := kL BK721 hg; have NB737_721 := kR BK721 hg; replace BK721 := kB BK721 hb; clear hb hbox hg; have hnb20 := NB737_720.out; have hnc20 := NB720_737.out; have hnb21 := NB737_721.out; have hnc21 := NB721_737.out; have hcz22_0 : w19.cell? ⟨gb737, 0, none⟩ = some (.int .i64 0) := bc BK737 0; have hcz22_1 : w19.cell? ⟨gb737, 1, none⟩ = some (.slice none 0 0) := bc BK737 1; have hcz22_2 : w19.cell? ⟨gb737, 2, none⟩ = some (.slice none 0 0) := bc BK737 2; have hfz22_0 := fz BK737 0; have hfz22_1 := fz BK737 1; have hfz22_2 := fz BK737 2; obtain ⟨Ao23, co23, eo23⟩ := Kd.R_slice HO732.out; subst eo23; obtain ⟨Ao24, co24, eo24⟩ := Kd.R_slice HO735.out; subst eo24))
 have n0_ : Aside0 (Kd.R (Kd.int .i64) 3 (((w19.setCell ⟨gb737, 0, none⟩ (.int .i64 t729)).setCell ⟨gb737, 1, none⟩ (.slice Ao23 t730.length co23)).setCell ⟨gb737, 2, none⟩ (.slice Ao24 t733.length co24)) w.heap.size (fun k_ => nb k_ (.slice Ao17 t726.length co17) ∧ nb k_ (.slice Ao23 t730.length co23) ∧ nb k_ (.slice Ao24 t733.length co24)) (.slice Ao16 t723.length co16) t723) := ⟨rD (Kd.R_mono (Kd.R_far (p := ⟨gb737, 2, none⟩) (Kd.R_far (p := ⟨gb737, 1, none⟩) (Kd.R_far (p := ⟨gb737, 0, none⟩) (Kd.R_types HO725.out BK737.out (by decide)) (fun _ hk => hk.2) (.int .i64 t729)) (fun _ hk => hk.2) (.slice Ao23 t730.length co23)) (fun _ hk => hk.2) (.slice Ao24 t733.length co24)) (fun _ hk => ⟨hk.1.1.1, ⟨hk.1.1.2, hk.1.2⟩⟩))⟩
 have n1_ : Aside0 (Kd.R (Kd.int .i64) 3 (((w19.setCell ⟨gb737, 0, none⟩ (.int .i64 t729)).setCell ⟨gb737, 1, none⟩ (.slice Ao23 t730.length co23)).setCell ⟨gb737, 2, none⟩ (.slice Ao24 t733.length co24)) w.heap.size (fun k_ => nb k_ (.slice Ao16 t723.length co16) ∧ nb k_ (.slice Ao23 t730.length co23) ∧ nb k_ (.slice Ao24 t733.length co24)) (.slice Ao17 t726.length co17) t726) := ⟨rD (Kd.R_mono (Kd.R_far (p := ⟨gb737, 2, none⟩) (Kd.R_far (p := ⟨gb737, 1, none⟩) (Kd.R_far (p := ⟨gb737, 0, none⟩) (Kd.R_types HO728.out BK737.out (by decide)) (fun _ hk => hk.2) (.int .i64 t729)) (fun _ hk => hk.2) (.slice Ao23 t730.length co23)) (fun _ hk => hk.2) (.slice Ao24 t733.length co24)) (fun _ hk => ⟨hk.1.1.1, ⟨hk.1.1.2, hk.1.2⟩⟩))⟩
 have n2_ : Aside0 (Kd.R (Kd.int .i64) 3 (((w19.setCell ⟨gb737, 0, none⟩ (.int .i64 t729)).setCell ⟨gb737, 1, none⟩ (.slice Ao23 t730.length co23)).setCell ⟨gb737, 2, none⟩ (.slice Ao24 t733.length co24)) w.heap.size (fun k_ => nb k_ (.slice Ao16 t723.length co16) ∧ nb k_ (.slice Ao17 t726.length co17) ∧ nb k_ (.slice Ao24 t733.length co24)) (.slice Ao23 t730.length co23) t730) := ⟨rD (Kd.R_mono (Kd.R_far (p := ⟨gb737, 2, none⟩) (Kd.R_far (p := ⟨gb737, 1, none⟩) (Kd.R_far (p := ⟨gb737, 0, none⟩) (Kd.R_types HO732.out BK737.out (by decide)) (fun _ hk => hk.2) (.int .i64 t729)) (fun _ hk => hk.2) (.slice Ao23 t730.length co23)) (fun _ hk => hk.2) (.slice Ao24 t733.length co24)) (fun _ hk => ⟨hk.1.1.2, ⟨hk.1.2, hk.1.1.1⟩⟩))⟩
 have n3_ : Aside0 (Kd.R (Kd.int .i64) 3 (((w19.setCell ⟨gb737, 0, none⟩ (.int .i64 t729)).setCell ⟨gb737, 1, none⟩ (.slice Ao23 t730.length co23)).setCell ⟨gb737, 2, none⟩ (.slice Ao24 t733.length co24)) w.heap.size (fun k_ => nb k_ (.slice Ao16 t723.length co16) ∧ nb k_ (.slice Ao17 t726.length co17) ∧ nb k_ (.slice Ao23 t730.length co23)) (.slice Ao24 t733.length co24) t733) := ⟨rD (Kd.R_mono (Kd.R_far (p := ⟨gb737, 2, none⟩) (Kd.R_far (p := ⟨gb737, 1, none⟩) (Kd.R_far (p := ⟨gb737, 0, none⟩) (Kd.R_types HO735.out BK737.out (by decide)) (fun _ hk => hk.2) (.int .i64 t729)) (fun _ hk => hk.2) (.slice Ao23 t730.length co23)) (fun _ hk => hk.2) (.slice Ao24 t733.length co24)) (fun _ hk => ⟨hk.1.1.2, ⟨hk.1.2, hk.1.1.1⟩⟩))⟩
 have n4_ : Aside0 ((((w19.setCell ⟨gb737, 0, none⟩ (.int .i64 t729)).setCell ⟨gb737, 1, none⟩ (.slice Ao23 t730.length co23)).setCell ⟨gb737, 2, none⟩ (.slice Ao24 t733.length co24)).heap[gb720]? = some (.cells #[.int .i64 a0_0, .slice A0_1 l0_1.length c0_1, .slice A0_2 l0_2.length c0_2] 24 (0, 0))) := ⟨bF BK720⟩
 have n5_ : Aside0 ((((w19.setCell ⟨gb737, 0, none⟩ (.int .i64 t729)).setCell ⟨gb737, 1, none⟩ (.slice Ao23 t730.length co23)).setCell ⟨gb737, 2, none⟩ (.slice Ao24 t733.length co24)).heap[gb721]? = some (.cells #[.int .i64 a1_0, .slice A1_1 l1_1.length c1_1, .slice A1_2 l1_2.length c1_2] 24 (0, 0))) := ⟨bF BK721⟩
 have n6_ : Aside0 ((((w19.setCell ⟨gb737, 0, none⟩ (.int .i64 t729)).setCell ⟨gb737, 1, none⟩ (.slice Ao23 t730.length co23)).setCell ⟨gb737, 2, none⟩ (.slice Ao24 t733.length co24)).heap[gb737]? = some (.cells #[.int .i64 t729, .slice Ao23 t730.length co23, .slice Ao24 t733.length co24] 30 (0, 0))) := ⟨by (with_reducible repeat (first | refine blk_drewN ?_ _ | refine blk_drew ?_ | refine blk_alloc ?_ _)); refine blk_put (cs := #[.int .i64 t729, .slice Ao23 t730.length co23, .slice none 0 0]) ?_ 2 _ rfl; (with_reducible repeat (first | refine blk_drewN ?_ _ | refine blk_drew ?_ | refine blk_alloc ?_ _)); refine blk_put (cs := #[.int .i64 t729, .slice none 0 0, .slice none 0 0]) ?_ 1 _ rfl; (with_reducible repeat (first | refine blk_drewN ?_ _ | refine blk_drew ?_ | refine blk_alloc ?_ _)); refine blk_put (cs := #[.int .i64 0, .slice none 0 0, .slice none 0 0]) ?_ 0 _ rfl; (with_reducible repeat (first | refine blk_drewN ?_ _ | refine blk_drew ?_ | refine blk_alloc ?_ _)); exact BK737.out⟩
 have n7_ : Aside0 (Below w.heap.size w (((w19.setCell ⟨gb737, 0, none⟩ (.int .i64 t729)).setCell ⟨gb737, 1, none⟩ (.slice Ao23 t730.length co23)).setCell ⟨gb737, 2, none⟩ (.slice Ao24 t733.length co24))) := ⟨hbC _⟩
 (try clear HO725)
 (try clear HO728)
 (try clear HO732)
 (try clear HO735)
 (try clear BK720)
 (try clear BK721)
 (try clear BK737)
 (try clear HB)
 generalize (((w19.setCell ⟨gb737, 0, none⟩ (.int .i64 t729)).setCell ⟨gb737, 1, none⟩ (.slice Ao23 t730.length co23)).setCell ⟨gb737, 2, none⟩ (.slice Ao24 t733.length co24)) = w25 at n0_ n1_ n2_ n3_ n4_ n5_ n6_ n7_ ⊢
 have HO725 := n0_
 have HO728 := n1_
 have HO732 := n2_
 have HO735 := n3_
 have BK720 := n4_
 have BK721 := n5_
 have BK737 := n6_
 have HB := n7_
 clear n0_ n1_ n2_ n3_ n4_ n5_ n6_ n7_
 replace HO725 := ak (Kd.R_drew HO725.out)
 replace HO728 := ak (Kd.R_drew HO728.out)
 replace HO732 := ak (Kd.R_drew HO732.out)
 replace HO735 := ak (Kd.R_drew HO735.out)
 replace BK720 := kd BK720
 replace BK721 := kd BK721
 replace BK737 := kd BK737
 replace HB := ak (below_drew1 HB.out)
 refine sS (n := 11) (S := fun w' => w'.cell? ⟨gb720, 0, none⟩ = some (.int .i64 a0_0) ∧ w'.cell? ⟨gb720, 1, none⟩ = some (.slice A0_1 l0_1.length c0_1) ∧ w'.cell? ⟨gb720, 2, none⟩ = some (.slice A0_2 l0_2.length c0_2) ∧ w'.cell? ⟨gb721, 0, none⟩ = some (.int .i64 a1_0) ∧ w'.cell? ⟨gb721, 1, none⟩ = some (.slice A1_1 l1_1.length c1_1) ∧ w'.cell? ⟨gb721, 2, none⟩ = some (.slice A1_2 l1_2.length c1_2)) (ds := []) ⟨bc BK720 0, bc BK720 1, bc BK720 2, bc BK721 0, bc BK721 1, bc BK721 2⟩ (fun hHeld => ?_); refine with_tabW congoulaw04_CurvesMirrors.tab2 congoulaw04_CurvesMirrors.bits2 (fun HT_ HW_ => ?_)
 generalize w25.drew = w26 at HO725 HO728 HO732 HO735 BK720 BK721 BK737 HB hHeld ⊢
 refine tS 0 18 11 1 ?_
 refine tS 2 20 11 5 ?_
 refine join_ (σ := Value × Value × Value × Value × Value × Value × Nat) 2 (ba 11 511) (fun s_ => [(19, .agg #[.int .i64 t738, s_.1, s_.2.1]), (21, .agg #[.int .i64 t745, s_.2.2.1, s_.2.2.2.1]), (22, .tuple #[.agg #[.int .i64 t752, s_.2.2.2.2.1, s_.2.2.2.2.2.1], .int .i64 t759]), (7, .pointer (some ⟨s_.2.2.2.2.2.2, 0, none⟩)), (17, .tuple #[.agg #[.int .i64 t752, s_.2.2.2.2.1, s_.2.2.2.2.2.1], .int .i64 t759]), (23, .agg #[.int .i64 t752, s_.2.2.2.2.1, s_.2.2.2.2.2.1]), (24, .int .i64 t759)]) (fun s_ w' => (w'.cell? ⟨gb720, 0, none⟩ = some (.int .i64 a0_0) ∧ w'.cell? ⟨gb720, 1, none⟩ = some (.slice A0_1 l0_1.length c0_1) ∧ w'.cell? ⟨gb720, 2, none⟩ = some (.slice A0_2 l0_2.length c0_2) ∧ w'.cell? ⟨gb721, 0, none⟩ = some (.int .i64 a1_0) ∧ w'.cell? ⟨gb721, 1, none⟩ = some (.slice A1_1 l1_1.length c1_1) ∧ w'.cell? ⟨gb721, 2, none⟩ = some (.slice A1_2 l1_2.length c1_2)) ∧ (Kd.R (Kd.int .i64) 3 w' w.heap.size (fun k_ => nb k_ (.slice Ao17 t726.length co17) ∧ nb k_ (.slice Ao23 t730.length co23) ∧ nb k_ (.slice Ao24 t733.length co24) ∧ some k_ ≠ (s_.1 : Value).ownBlock ∧ some k_ ≠ (s_.2.1 : Value).ownBlock ∧ some k_ ≠ (s_.2.2.1 : Value).ownBlock ∧ some k_ ≠ (s_.2.2.2.1 : Value).ownBlock ∧ some k_ ≠ (s_.2.2.2.2.1 : Value).ownBlock ∧ some k_ ≠ (s_.2.2.2.2.2.1 : Value).ownBlock) (.slice Ao16 t723.length co16) t723) ∧ (Kd.R (Kd.int .i64) 3 w' w.heap.size (fun k_ => nb k_ (.slice Ao16 t723.length co16) ∧ nb k_ (.slice Ao23 t730.length co23) ∧ nb k_ (.slice Ao24 t733.length co24) ∧ some k_ ≠ (s_.1 : Value).ownBlock ∧ some k_ ≠ (s_.2.1 : Value).ownBlock ∧ some k_ ≠ (s_.2.2.1 : Value).ownBlock ∧ some k_ ≠ (s_.2.2.2.1 : Value).ownBlock ∧ some k_ ≠ (s_.2.2.2.2.1 : Value).ownBlock ∧ some k_ ≠ (s_.2.2.2.2.2.1 : Value).ownBlock) (.slice Ao17 t726.length co17) t726) ∧ (Kd.R (Kd.int .i64) 3 w' w.heap.size (fun k_ => nb k_ (.slice Ao16 t723.length co16) ∧ nb k_ (.slice Ao17 t726.length co17) ∧ nb k_ (.slice Ao24 t733.length co24) ∧ some k_ ≠ (s_.1 : Value).ownBlock ∧ some k_ ≠ (s_.2.1 : Value).ownBlock ∧ some k_ ≠ (s_.2.2.1 : Value).ownBlock ∧ some k_ ≠ (s_.2.2.2.1 : Value).ownBlock ∧ some k_ ≠ (s_.2.2.2.2.1 : Value).ownBlock ∧ some k_ ≠ (s_.2.2.2.2.2.1 : Value).ownBlock) (.slice Ao23 t730.length co23) t730) ∧ (Kd.R (Kd.int .i64) 3 w' w.heap.size (fun k_ => nb k_ (.slice Ao16 t723.length co16) ∧ nb k_ (.slice Ao17 t726.length co17) ∧ nb k_ (.slice Ao23 t730.length co23) ∧ some k_ ≠ (s_.1 : Value).ownBlock ∧ some k_ ≠ (s_.2.1 : Value).ownBlock ∧ some k_ ≠ (s_.2.2.1 : Value).ownBlock ∧ some k_ ≠ (s_.2.2.2.1 : Value).ownBlock ∧ some k_ ≠ (s_.2.2.2.2.1 : Value).ownBlock ∧ some k_ ≠ (s_.2.2.2.2.2.1 : Value).ownBlock) (.slice Ao24 t733.length co24) t733) ∧ (Kd.R (Kd.int .i64) 3 w' w.heap.size (fun k_ => nb k_ (.slice Ao16 t723.length co16) ∧ nb k_ (.slice Ao17 t726.length co17) ∧ nb k_ (.slice Ao23 t730.length co23) ∧ nb k_ (.slice Ao24 t733.length co24) ∧ some k_ ≠ (s_.2.1 : Value).ownBlock ∧ some k_ ≠ (s_.2.2.1 : Value).ownBlock ∧ some k_ ≠ (s_.2.2.2.1 : Value).ownBlock ∧ some k_ ≠ (s_.2.2.2.2.1 : Value).ownBlock ∧ some k_ ≠ (s_.2.2.2.2.2.1 : Value).ownBlock) s_.1 t739) ∧ (Kd.R (Kd.int .i64) 3 w' w.heap.size (fun k_ => nb k_ (.slice Ao16 t723.length co16) ∧ nb k_ (.slice Ao17 t726.length co17) ∧ nb k_ (.slice Ao23 t730.length co23) ∧ nb k_ (.slice Ao24 t733.length co24) ∧ some k_ ≠ (s_.1 : Value).ownBlock ∧ some k_ ≠ (s_.2.2.1 : Value).ownBlock ∧ some k_ ≠ (s_.2.2.2.1 : Value).ownBlock ∧ some k_ ≠ (s_.2.2.2.2.1 : Value).ownBlock ∧ some k_ ≠ (s_.2.2.2.2.2.1 : Value).ownBlock) s_.2.1 t742) ∧ (Kd.R (Kd.int .i64) 3 w' w.heap.size (fun k_ => nb k_ (.slice Ao16 t723.length co16) ∧ nb k_ (.slice Ao17 t726.length co17) ∧ nb k_ (.slice Ao23 t730.length co23) ∧ nb k_ (.slice Ao24 t733.length co24) ∧ some k_ ≠ (s_.1 : Value).ownBlock ∧ some k_ ≠ (s_.2.1 : Value).ownBlock ∧ some k_ ≠ (s_.2.2.2.1 : Value).ownBlock ∧ some k_ ≠ (s_.2.2.2.2.1 : Value).ownBlock ∧ some k_ ≠ (s_.2.2.2.2.2.1 : Value).ownBlock) s_.2.2.1 t746) ∧ (Kd.R (Kd.int .i64) 3 w' w.heap.size (fun k_ => nb k_ (.slice Ao16 t723.length co16) ∧ nb k_ (.slice Ao17 t726.length co17) ∧ nb k_ (.slice Ao23 t730.length co23) ∧ nb k_ (.slice Ao24 t733.length co24) ∧ some k_ ≠ (s_.1 : Value).ownBlock ∧ some k_ ≠ (s_.2.1 : Value).ownBlock ∧ some k_ ≠ (s_.2.2.1 : Value).ownBlock ∧ some k_ ≠ (s_.2.2.2.2.1 : Value).ownBlock ∧ some k_ ≠ (s_.2.2.2.2.2.1 : Value).ownBlock) s_.2.2.2.1 t749) ∧ (Kd.R (Kd.int .i64) 3 w' w.heap.size (fun k_ => nb k_ (.slice Ao16 t723.length co16) ∧ nb k_ (.slice Ao17 t726.length co17) ∧ nb k_ (.slice Ao23 t730.length co23) ∧ nb k_ (.slice Ao24 t733.length co24) ∧ some k_ ≠ (s_.1 : Value).ownBlock ∧ some k_ ≠ (s_.2.1 : Value).ownBlock ∧ some k_ ≠ (s_.2.2.1 : Value).ownBlock ∧ some k_ ≠ (s_.2.2.2.1 : Value).ownBlock ∧ some k_ ≠ (s_.2.2.2.2.2.1 : Value).ownBlock) s_.2.2.2.2.1 t753) ∧ (Kd.R (Kd.int .i64) 3 w' w.heap.size (fun k_ => nb k_ (.slice Ao16 t723.length co16) ∧ nb k_ (.slice Ao17 t726.length co17) ∧ nb k_ (.slice Ao23 t730.length co23) ∧ nb k_ (.slice Ao24 t733.length co24) ∧ some k_ ≠ (s_.1 : Value).ownBlock ∧ some k_ ≠ (s_.2.1 : Value).ownBlock ∧ some k_ ≠ (s_.2.2.1 : Value).ownBlock ∧ some k_ ≠ (s_.2.2.2.1 : Value).ownBlock ∧ some k_ ≠ (s_.2.2.2.2.1 : Value).ownBlock) s_.2.2.2.2.2.1 t756) ∧ (w'.heap[gb720]? = some (.cells #[.int .i64 a0_0, .slice A0_1 l0_1.length c0_1, .slice A0_2 l0_2.length c0_2] 24 (0, 0))) ∧ (w'.heap[gb721]? = some (.cells #[.int .i64 a1_0, .slice A1_1 l1_1.length c1_1, .slice A1_2 l1_2.length c1_2] 24 (0, 0))) ∧ (w'.heap[gb737]? = some (.cells #[.int .i64 t729, .slice Ao23 t730.length co23, .slice Ao24 t733.length co24] 30 (0, 0))) ∧ (w'.heap[s_.2.2.2.2.2.2]? = some (.cells #[.int .i64 0, .slice none 0 0, .slice none 0 0] 30 (0, 0))) ∧ (w.heap.size ≤ s_.2.2.2.2.2.2) ∧ (w.heap.size ≤ s_.2.2.2.2.2.2) ∧ (gb720 ≠ s_.2.2.2.2.2.2) ∧ (s_.2.2.2.2.2.2 ≠ gb720) ∧ (gb721 ≠ s_.2.2.2.2.2.2) ∧ (s_.2.2.2.2.2.2 ≠ gb721) ∧ (gb737 ≠ s_.2.2.2.2.2.2) ∧ (s_.2.2.2.2.2.2 ≠ gb737) ∧ (Below w.heap.size w w')) ?_ ?_
 rotate_left
 ·intro hCont
  refine two_ (i := 1) (j := 8) (Ni := some 19) (Nj := some 7) (ba 11 7) (ba 11 261) rfl rfl rfl rfl (two_of HT_.out (by kernel_rfl)) (by decide) (by decide) (fun K hK => ?_) (fun K hK => ?_)
  ·skip
   refine gC Try.func15 #[.agg #[.int .i64 a0_0, .slice A0_1 l0_1.length c0_1, .slice A0_2 l0_2.length c0_2]] ?_
   with_reducible refine (congoulaw04_Of.calls a0_0 _ _ l0_1 _ _ l0_2 t738 t739 t742 _ ?side1 ?side2 ?side3 ?side4 A5.out).mono ?_
   (case side1 => exact kC HR0_1)
   (case side2 => exact HC0_1.out)
   (case side3 => exact kC HR0_2)
   (case side4 => exact HC0_2.out)
   rintro e w27 ⟨v740, v743, rfl, ho0, ho1, hb⟩
   refine ⟨_, rfl, ?_⟩
   have HO741 := ak (Kd.R_lower (Kd.R_new' (Kd.R_new' (Kd.R_new' (Kd.R_new' ho0 (Kd.R_lt (rC HO725))) (Kd.R_lt (rC HO728))) (Kd.R_lt (rC HO732))) (Kd.R_lt (rC HO735))) (below_size (hbC _)))
   have HO744 := ak (Kd.R_lower (Kd.R_new' (Kd.R_new' (Kd.R_new' (Kd.R_new' ho1 (Kd.R_lt (rC HO725))) (Kd.R_lt (rC HO728))) (Kd.R_lt (rC HO732))) (Kd.R_lt (rC HO735))) (below_size (hbC _)))
   replace HO725 := kT HO725 hb ho0 ho1
   replace HO728 := kT HO728 hb ho0 ho1
   replace HO732 := kT HO732 hb ho0 ho1
   replace HO735 := kT HO735 hb ho0 ho1
   replace BK720 := kB BK720 hb
   replace BK721 := kB BK721 hb
   replace BK737 := kB BK737 hb
   replace HB := kH _ hb
   (try clear hb)
   (try clear hb2)
   (try clear hk)
   (try clear hi)
   (try clear ho0)
   (try clear ho1)
   refine hK.out _ _ ⟨bc BK720 0, bc BK720 1, bc BK720 2, bc BK721 0, bc BK721 1, bc BK721 2⟩ (fun hHeld => ?_)
   clear hK K
   refine norm_ (a' := ?_) ?_ ?_
   rotate_left
   ·show Act.put _ (some 19) _ = _
    simp only [Act.put, List.setIfInBounds_toArray, List.set_cons_zero, List.set_cons_succ, i64_w, i32_w]
    rfl
   refine two_ (i := 3) (j := 8) (Ni := some 21) (Nj := some 7) (ba 11 15) (ba 11 263) rfl rfl rfl rfl (two_of HT_.out (by kernel_rfl)) (by decide) (by decide) (fun K hK => ?_) (fun K hK => ?_)
   ·skip
    refine gC Try.func15 #[.agg #[.int .i64 a1_0, .slice A1_1 l1_1.length c1_1, .slice A1_2 l1_2.length c1_2]] ?_
    with_reducible refine (congoulaw04_Of.calls a1_0 _ _ l1_1 _ _ l1_2 t745 t746 t749 _ ?side1 ?side2 ?side3 ?side4 A6.out).mono ?_
    (case side1 => exact kC HR1_1)
    (case side2 => exact HC1_1.out)
    (case side3 => exact kC HR1_2)
    (case side4 => exact HC1_2.out)
    rintro e w28 ⟨v747, v750, rfl, ho0, ho1, hb⟩
    refine ⟨_, rfl, ?_⟩
    have HO748 := ak (Kd.R_lower (Kd.R_new' (Kd.R_new' (Kd.R_new' (Kd.R_new' (Kd.R_new' (Kd.R_new' ho0 (Kd.R_lt (rC HO725))) (Kd.R_lt (rC HO728))) (Kd.R_lt (rC HO732))) (Kd.R_lt (rC HO735))) (Kd.R_lt (rC HO741))) (Kd.R_lt (rC HO744))) (below_size (hbC _)))
    have HO751 := ak (Kd.R_lower (Kd.R_new' (Kd.R_new' (Kd.R_new' (Kd.R_new' (Kd.R_new' (Kd.R_new' ho1 (Kd.R_lt (rC HO725))) (Kd.R_lt (rC HO728))) (Kd.R_lt (rC HO732))) (Kd.R_lt (rC HO735))) (Kd.R_lt (rC HO741))) (Kd.R_lt (rC HO744))) (below_size (hbC _)))
    replace HO725 := kT HO725 hb ho0 ho1
    replace HO728 := kT HO728 hb ho0 ho1
    replace HO732 := kT HO732 hb ho0 ho1
    replace HO735 := kT HO735 hb ho0 ho1
    replace HO741 := kT HO741 hb ho0 ho1
    replace HO744 := kT HO744 hb ho0 ho1
    replace BK720 := kB BK720 hb
    replace BK721 := kB BK721 hb
    replace BK737 := kB BK737 hb
    replace HB := kH _ hb
    (try clear hb)
    (try clear hb2)
    (try clear hk)
    (try clear hi)
    (try clear ho0)
    (try clear ho1)
    obtain ⟨Ao29, co29, eo29⟩ := Kd.R_slice HO741.out
    (first | subst eo29 | (injection eo29 with f1_ f2_ f3_; have f4_ := f1_.symm; have f5_ := f3_.symm; clear f1_ f2_ f3_; subst f4_; subst f5_))
    obtain ⟨Ao30, co30, eo30⟩ := Kd.R_slice HO744.out
    (first | subst eo30 | (injection eo30 with f1_ f2_ f3_; have f4_ := f1_.symm; have f5_ := f3_.symm; clear f1_ f2_ f3_; subst f4_; subst f5_))
    obtain ⟨Ao31, co31, eo31⟩ := Kd.R_slice HO748.out
    (first | subst eo31 | (injection eo31 with f1_ f2_ f3_; have f4_ := f1_.symm; have f5_ := f3_.symm; clear f1_ f2_ f3_; subst f4_; subst f5_))
    obtain ⟨Ao32, co32, eo32⟩ := Kd.R_slice HO751.out
    (first | subst eo32 | (injection eo32 with f1_ f2_ f3_; have f4_ := f1_.symm; have f5_ := f3_.symm; clear f1_ f2_ f3_; subst f4_; subst f5_))
    refine hK.out _ _ ⟨bc BK720 0, bc BK720 1, bc BK720 2, bc BK721 0, bc BK721 1, bc BK721 2⟩ (fun hHeld => ?_)
    clear hK K
    refine norm_ (a' := ?_) ?_ ?_
    rotate_left
    ·show Act.put _ (some 21) _ = _
     simp only [Act.put, List.setIfInBounds_toArray, List.set_cons_zero, List.set_cons_succ, i64_w, i32_w]
     rfl
    refine two_ (i := 4) (j := 8) (Ni := some 22) (Nj := some 7) (ba 11 31) (ba 11 271) rfl rfl rfl rfl (two_of HT_.out (by kernel_rfl)) (by decide) (by decide) (fun K hK => ?_) (fun K hK => ?_)
    ·skip
     refine gC Try.func35 #[.agg #[.int .i64 t738, .slice Ao29 t739.length co29, .slice Ao30 t742.length co30], .agg #[.int .i64 t745, .slice Ao31 t746.length co31, .slice Ao32 t749.length co32]] ?_
     with_reducible refine (curves_Plus.calls k t738 _ _ t739 _ _ t742 t745 _ _ t746 _ _ t749 t752 t753 t756 t759 _ ?side1 ?side2 ?side3 ?side4 ?side5 ?side6 ?side7 ?side8 A7.out).mono ?_
     (case side1 => exact kD (Kd.R_reads' HO741.out).2.2)
     (case side2 => exact (Kd.R_reads' HO741.out).2.1)
     (case side3 => exact kD (Kd.R_reads' HO744.out).2.2)
     (case side4 => exact (Kd.R_reads' HO744.out).2.1)
     (case side5 => exact kD (Kd.R_reads' HO748.out).2.2)
     (case side6 => exact (Kd.R_reads' HO748.out).2.1)
     (case side7 => exact kD (Kd.R_reads' HO751.out).2.2)
     (case side8 => exact (Kd.R_reads' HO751.out).2.1)
     rintro e w33 ⟨v754, v757, rfl, ho0, ho1, hb⟩
     refine ⟨_, rfl, ?_⟩
     have HO755 := ak (Kd.R_lower (Kd.R_new' (Kd.R_new' (Kd.R_new' (Kd.R_new' (Kd.R_new' (Kd.R_new' (Kd.R_new' (Kd.R_new' ho0 (Kd.R_lt (rC HO725))) (Kd.R_lt (rC HO728))) (Kd.R_lt (rC HO732))) (Kd.R_lt (rC HO735))) (Kd.R_lt (rC HO741))) (Kd.R_lt (rC HO744))) (Kd.R_lt (rC HO748))) (Kd.R_lt (rC HO751))) (below_size (hbC _)))
     have HO758 := ak (Kd.R_lower (Kd.R_new' (Kd.R_new' (Kd.R_new' (Kd.R_new' (Kd.R_new' (Kd.R_new' (Kd.R_new' (Kd.R_new' ho1 (Kd.R_lt (rC HO725))) (Kd.R_lt (rC HO728))) (Kd.R_lt (rC HO732))) (Kd.R_lt (rC HO735))) (Kd.R_lt (rC HO741))) (Kd.R_lt (rC HO744))) (Kd.R_lt (rC HO748))) (Kd.R_lt (rC HO751))) (below_size (hbC _)))
     replace HO725 := kT HO725 hb ho0 ho1
     replace HO728 := kT HO728 hb ho0 ho1
     replace HO732 := kT HO732 hb ho0 ho1
     replace HO735 := kT HO735 hb ho0 ho1
     replace HO741 := kT HO741 hb ho0 ho1
     replace HO744 := kT HO744 hb ho0 ho1
     replace HO748 := kT HO748 hb ho0 ho1
     replace HO751 := kT HO751 hb ho0 ho1
     replace BK720 := kB BK720 hb
     replace BK721 := kB BK721 hb
     replace BK737 := kB BK737 hb
     replace HB := kH _ hb
     (try clear hb)
     (try clear hb2)
     (try clear hk)
     (try clear hi)
     (try clear ho0)
     (try clear ho1)
     refine hK.out _ _ ⟨bc BK720 0, bc BK720 1, bc BK720 2, bc BK721 0, bc BK721 1, bc BK721 2⟩ (fun hHeld => ?_)
     clear hK K
     refine norm_ (a' := ?_) ?_ ?_
     rotate_left
     ·show Act.put _ (some 22) _ = _
      simp only [Act.put, List.setIfInBounds_toArray, List.set_cons_zero, List.set_cons_succ, i64_w, i32_w]
      rfl
     refine pS 5 17 11 63 ?_
     refine pS 6 23 11 127 ?_
     refine pS 7 24 11 255 ?_
     refine one_ (i := 8) (N := some 7) (ba 11 511) rfl rfl (one_of HT_.out (by kernel_rfl)) (by decide) (fun K hK => ?_)
     refine box_step ?hg (N := 7) ?hd (cs := #[.int .i64 0, .slice none 0 0, .slice none 0 0]) (t := 30) ?hr ?_; (case hd => rfl); (case hg => rfl); (case hr => first | (go_simp; done) | (go_simp; rfl))
     intro gb760 hg w34 hbox hb
     replace HO725 := kO HO725 hb
     replace HO728 := kO HO728 hb
     replace HO732 := kO HO732 hb
     replace HO735 := kO HO735 hb
     replace HO741 := kO HO741 hb
     replace HO744 := kO HO744 hb
     replace HO748 := kO HO748 hb
     replace HO751 := kO HO751 hb
     replace HO755 := kO HO755 hb
     replace HO758 := kO HO758 hb
     have BK760 := ak (hbox)
     have GW760 := kG w hg
     have GE760 := kG w hg
     replace HB := kH _ hb
     have NB720_760 := kL BK720 hg
     have NB760_720 := kR BK720 hg
     replace BK720 := kB BK720 hb
     have NB721_760 := kL BK721 hg
     have NB760_721 := kR BK721 hg
     replace BK721 := kB BK721 hb
     have NB737_760 := kL BK737 hg
     have NB760_737 := kR BK737 hg
     replace BK737 := kB BK737 hb
     clear hb hbox hg
     refine hK.out _ _ ⟨bc BK720 0, bc BK720 1, bc BK720 2, bc BK721 0, bc BK721 1, bc BK721 2⟩ (fun hHeld => ?_)
     clear hK K
     refine norm_ (a' := ?_) ?_ ?_
     rotate_left
     ·show Act.put _ (some 7) _ = _
      simp only [Act.put, List.setIfInBounds_toArray, List.set_cons_zero, List.set_cons_succ, i64_w, i32_w]
      rfl
     exact norm_ (by simp only [putAll, Act.put, List.setIfInBounds_toArray, List.set_cons_zero, List.set_cons_succ]) (hCont (.slice Ao29 t739.length co29, .slice Ao30 t742.length co30, .slice Ao31 t746.length co31, .slice Ao32 t749.length co32, v754, v757, gb760) _ ⟨hHeld, (rD (kM HO725)), (rD (kM HO728)), (rD (kM HO732)), (rD (kM HO735)), (rD (Kd.R_mono HO741.out (fun _ hk => ⟨hk.1.1.1.1.1.1.1.2, ⟨hk.1.1.1.1.1.1.2, ⟨hk.1.1.1.1.1.2, ⟨hk.1.1.1.1.2, ⟨hk.1.1.1.1.1.1.1.1, ⟨hk.1.1.1.2, ⟨hk.1.1.2, ⟨hk.1.2, hk.2⟩⟩⟩⟩⟩⟩⟩⟩))), (rD (Kd.R_mono HO744.out (fun _ hk => ⟨hk.1.1.1.1.1.1.1.2, ⟨hk.1.1.1.1.1.1.2, ⟨hk.1.1.1.1.1.2, ⟨hk.1.1.1.1.2, ⟨hk.1.1.1.1.1.1.1.1, ⟨hk.1.1.1.2, ⟨hk.1.1.2, ⟨hk.1.2, hk.2⟩⟩⟩⟩⟩⟩⟩⟩))), (rD (Kd.R_mono HO748.out (fun _ hk => ⟨hk.1.1.1.1.1.1.1.2, ⟨hk.1.1.1.1.1.1.2, ⟨hk.1.1.1.1.1.2, ⟨hk.1.1.1.1.2, ⟨hk.1.1.1.2, ⟨hk.1.1.2, ⟨hk.1.1.1.1.1.1.1.1, ⟨hk.1.2, hk.2⟩⟩⟩⟩⟩⟩⟩⟩))), (rD (Kd.R_mono HO751.out (fun _ hk => ⟨hk.1.1.1.1.1.1.1.2, ⟨hk.1.1.1.1.1.1.2, ⟨hk.1.1.1.1.1.2, ⟨hk.1.1.1.1.2, ⟨hk.1.1.1.2, ⟨hk.1.1.2, ⟨hk.1.1.1.1.1.1.1.1, ⟨hk.1.2, hk.2⟩⟩⟩⟩⟩⟩⟩⟩))), (rD (Kd.R_mono HO755.out (fun _ hk => ⟨hk.1.1.1.1.1.1.1.2, ⟨hk.1.1.1.1.1.1.2, ⟨hk.1.1.1.1.1.2, ⟨hk.1.1.1.1.2, ⟨hk.1.1.1.2, ⟨hk.1.1.2, ⟨hk.1.2, ⟨hk.2, hk.1.1.1.1.1.1.1.1⟩⟩⟩⟩⟩⟩⟩⟩))), (rD (Kd.R_mono HO758.out (fun _ hk => ⟨hk.1.1.1.1.1.1.1.2, ⟨hk.1.1.1.1.1.1.2, ⟨hk.1.1.1.1.1.2, ⟨hk.1.1.1.1.2, ⟨hk.1.1.1.2, ⟨hk.1.1.2, ⟨hk.1.2, ⟨hk.2, hk.1.1.1.1.1.1.1.1⟩⟩⟩⟩⟩⟩⟩⟩))), (bkC BK720), (bkC BK721), (bkC BK737), (bkC BK760), GW760.out, GE760.out, NB720_760.out, NB760_720.out, NB721_760.out, NB760_721.out, NB737_760.out, NB760_737.out, (hbC _)⟩)
    ·skip
     refine box_step ?hg (N := 7) ?hd (cs := #[.int .i64 0, .slice none 0 0, .slice none 0 0]) (t := 30) ?hr ?_; (case hd => rfl); (case hg => rfl); (case hr => first | (go_simp; done) | (go_simp; rfl))
     intro gb760 hg w29 hbox hb
     replace HO725 := kO HO725 hb
     replace HO728 := kO HO728 hb
     replace HO732 := kO HO732 hb
     replace HO735 := kO HO735 hb
     replace HO741 := kO HO741 hb
     replace HO744 := kO HO744 hb
     replace HO748 := kO HO748 hb
     replace HO751 := kO HO751 hb
     have BK760 := ak (hbox)
     have GW760 := kG w hg
     have GE760 := kG w hg
     replace HB := kH _ hb
     have NB720_760 := kL BK720 hg
     have NB760_720 := kR BK720 hg
     replace BK720 := kB BK720 hb
     have NB721_760 := kL BK721 hg
     have NB760_721 := kR BK721 hg
     replace BK721 := kB BK721 hb
     have NB737_760 := kL BK737 hg
     have NB760_737 := kR BK737 hg
     replace BK737 := kB BK737 hb
     clear hb hbox hg
     obtain ⟨Ao30, co30, eo30⟩ := Kd.R_slice HO741.out
     (first | subst eo30 | (injection eo30 with f1_ f2_ f3_; have f4_ := f1_.symm; have f5_ := f3_.symm; clear f1_ f2_ f3_; subst f4_; subst f5_))
     obtain ⟨Ao31, co31, eo31⟩ := Kd.R_slice HO744.out
     (first | subst eo31 | (injection eo31 with f1_ f2_ f3_; have f4_ := f1_.symm; have f5_ := f3_.symm; clear f1_ f2_ f3_; subst f4_; subst f5_))
     obtain ⟨Ao32, co32, eo32⟩ := Kd.R_slice HO748.out
     (first | subst eo32 | (injection eo32 with f1_ f2_ f3_; have f4_ := f1_.symm; have f5_ := f3_.symm; clear f1_ f2_ f3_; subst f4_; subst f5_))
     obtain ⟨Ao33, co33, eo33⟩ := Kd.R_slice HO751.out
     (first | subst eo33 | (injection eo33 with f1_ f2_ f3_; have f4_ := f1_.symm; have f5_ := f3_.symm; clear f1_ f2_ f3_; subst f4_; subst f5_))
     refine hK.out _ _ ⟨bc BK720 0, bc BK720 1, bc BK720 2, bc BK721 0, bc BK721 1, bc BK721 2⟩ (fun hHeld => ?_)
     clear hK K
     refine norm_ (a' := ?_) ?_ ?_
     rotate_left
     ·show Act.put _ (some 7) _ = _
      simp only [Act.put, List.setIfInBounds_toArray, List.set_cons_zero, List.set_cons_succ, i64_w, i32_w]
      rfl
     refine one_ (i := 4) (N := some 22) (ba 11 287) rfl rfl (one_of HT_.out (by kernel_rfl)) (by decide) (fun K hK => ?_)
     refine gC Try.func35 #[.agg #[.int .i64 t738, .slice Ao30 t739.length co30, .slice Ao31 t742.length co31], .agg #[.int .i64 t745, .slice Ao32 t746.length co32, .slice Ao33 t749.length co33]] ?_
     with_reducible refine (curves_Plus.calls k t738 _ _ t739 _ _ t742 t745 _ _ t746 _ _ t749 t752 t753 t756 t759 _ ?side1 ?side2 ?side3 ?side4 ?side5 ?side6 ?side7 ?side8 A7.out).mono ?_
     (case side1 => exact kD (Kd.R_reads' HO741.out).2.2)
     (case side2 => exact (Kd.R_reads' HO741.out).2.1)
     (case side3 => exact kD (Kd.R_reads' HO744.out).2.2)
     (case side4 => exact (Kd.R_reads' HO744.out).2.1)
     (case side5 => exact kD (Kd.R_reads' HO748.out).2.2)
     (case side6 => exact (Kd.R_reads' HO748.out).2.1)
     (case side7 => exact kD (Kd.R_reads' HO751.out).2.2)
     (case side8 => exact (Kd.R_reads' HO751.out).2.1)
     rintro e w34 ⟨v754, v757, rfl, ho0, ho1, hb⟩
     refine ⟨_, rfl, ?_⟩
     have HO755 := ak (Kd.R_lower (Kd.R_new' (Kd.R_new' (Kd.R_new' (Kd.R_new' (Kd.R_new' (Kd.R_new' (Kd.R_new' (Kd.R_new' ho0 (Kd.R_lt (rC HO725))) (Kd.R_lt (rC HO728))) (Kd.R_lt (rC HO732))) (Kd.R_lt (rC HO735))) (Kd.R_lt (rC HO741))) (Kd.R_lt (rC HO744))) (Kd.R_lt (rC HO748))) (Kd.R_lt (rC HO751))) (below_size (hbC _)))
     have HO758 := ak (Kd.R_lower (Kd.R_new' (Kd.R_new' (Kd.R_new' (Kd.R_new' (Kd.R_new' (Kd.R_new' (Kd.R_new' (Kd.R_new' ho1 (Kd.R_lt (rC HO725))) (Kd.R_lt (rC HO728))) (Kd.R_lt (rC HO732))) (Kd.R_lt (rC HO735))) (Kd.R_lt (rC HO741))) (Kd.R_lt (rC HO744))) (Kd.R_lt (rC HO748))) (Kd.R_lt (rC HO751))) (below_size (hbC _)))
     replace HO725 := kT HO725 hb ho0 ho1
     replace HO728 := kT HO728 hb ho0 ho1
     replace HO732 := kT HO732 hb ho0 ho1
     replace HO735 := kT HO735 hb ho0 ho1
     replace HO741 := kT HO741 hb ho0 ho1
     replace HO744 := kT HO744 hb ho0 ho1
     replace HO748 := kT HO748 hb ho0 ho1
     replace HO751 := kT HO751 hb ho0 ho1
     replace BK720 := kB BK720 hb
     replace BK721 := kB BK721 hb
     replace BK737 := kB BK737 hb
     replace BK760 := kB BK760 hb
     replace HB := kH _ hb
     (try clear hb)
     (try clear hb2)
     (try clear hk)
     (try clear hi)
     (try clear ho0)
     (try clear ho1)
     refine hK.out _ _ ⟨bc BK720 0, bc BK720 1, bc BK720 2, bc BK721 0, bc BK721 1, bc BK721 2⟩ (fun hHeld => ?_)
     clear hK K
     refine norm_ (a' := ?_) ?_ ?_
     rotate_left
     ·show Act.put _ (some 22) _ = _
      simp only [Act.put, List.setIfInBounds_toArray, List.set_cons_zero, List.set_cons_succ, i64_w, i32_w]
      rfl
     refine pS 5 17 11 319 ?_
     refine pS 6 23 11 383 ?_
     refine pS 7 24 11 511 ?_
     exact norm_ (by simp only [putAll, Act.put, List.setIfInBounds_toArray, List.set_cons_zero, List.set_cons_succ]) (hCont (.slice Ao30 t739.length co30, .slice Ao31 t742.length co31, .slice Ao32 t746.length co32, .slice Ao33 t749.length co33, v754, v757, gb760) _ ⟨hHeld, (rD (kM HO725)), (rD (kM HO728)), (rD (kM HO732)), (rD (kM HO735)), (rD (Kd.R_mono HO741.out (fun _ hk => ⟨hk.1.1.1.1.1.1.1.2, ⟨hk.1.1.1.1.1.1.2, ⟨hk.1.1.1.1.1.2, ⟨hk.1.1.1.1.2, ⟨hk.1.1.1.1.1.1.1.1, ⟨hk.1.1.1.2, ⟨hk.1.1.2, ⟨hk.1.2, hk.2⟩⟩⟩⟩⟩⟩⟩⟩))), (rD (Kd.R_mono HO744.out (fun _ hk => ⟨hk.1.1.1.1.1.1.1.2, ⟨hk.1.1.1.1.1.1.2, ⟨hk.1.1.1.1.1.2, ⟨hk.1.1.1.1.2, ⟨hk.1.1.1.1.1.1.1.1, ⟨hk.1.1.1.2, ⟨hk.1.1.2, ⟨hk.1.2, hk.2⟩⟩⟩⟩⟩⟩⟩⟩))), (rD (Kd.R_mono HO748.out (fun _ hk => ⟨hk.1.1.1.1.1.1.1.2, ⟨hk.1.1.1.1.1.1.2, ⟨hk.1.1.1.1.1.2, ⟨hk.1.1.1.1.2, ⟨hk.1.1.1.2, ⟨hk.1.1.2, ⟨hk.1.1.1.1.1.1.1.1, ⟨hk.1.2, hk.2⟩⟩⟩⟩⟩⟩⟩⟩))), (rD (Kd.R_mono HO751.out (fun _ hk => ⟨hk.1.1.1.1.1.1.1.2, ⟨hk.1.1.1.1.1.1.2, ⟨hk.1.1.1.1.1.2, ⟨hk.1.1.1.1.2, ⟨hk.1.1.1.2, ⟨hk.1.1.2, ⟨hk.1.1.1.1.1.1.1.1, ⟨hk.1.2, hk.2⟩⟩⟩⟩⟩⟩⟩⟩))), (rD (Kd.R_mono HO755.out (fun _ hk => ⟨hk.1.1.1.1.1.1.1.2, ⟨hk.1.1.1.1.1.1.2, ⟨hk.1.1.1.1.1.2, ⟨hk.1.1.1.1.2, ⟨hk.1.1.1.2, ⟨hk.1.1.2, ⟨hk.1.2, ⟨hk.2, hk.1.1.1.1.1.1.1.1⟩⟩⟩⟩⟩⟩⟩⟩))), (rD (Kd.R_mono HO758.out (fun _ hk => ⟨hk.1.1.1.1.1.1.1.2, ⟨hk.1.1.1.1.1.1.2, ⟨hk.1.1.1.1.1.2, ⟨hk.1.1.1.1.2, ⟨hk.1.1.1.2, ⟨hk.1.1.2, ⟨hk.1.2, ⟨hk.2, hk.1.1.1.1.1.1.1.1⟩⟩⟩⟩⟩⟩⟩⟩))), (bkC BK720), (bkC BK721), (bkC BK737), (bkC BK760), GW760.out, GE760.out, NB720_760.out, NB760_720.out, NB721_760.out, NB760_721.out, NB737_760.out, NB760_737.out, (hbC _)⟩)
   ·skip
    refine box_step ?hg (N := 7) ?hd (cs := #[.int .i64 0, .slice none 0 0, .slice none 0 0]) (t := 30) ?hr ?_; (case hd => rfl); (case hg => rfl); (case hr => first | (go_simp; done) | (go_simp; rfl))
    intro gb760 hg w28 hbox hb
    replace HO725 := kO HO725 hb
    replace HO728 := kO HO728 hb
    replace HO732 := kO HO732 hb
    replace HO735 := kO HO735 hb
    replace HO741 := kO HO741 hb
    replace HO744 := kO HO744 hb
    have BK760 := ak (hbox)
    have GW760 := kG w hg
    have GE760 := kG w hg
    replace HB := kH _ hb
    have NB720_760 := kL BK720 hg
    have NB760_720 := kR BK720 hg
    replace BK720 := kB BK720 hb
    have NB721_760 := kL BK721 hg
    have NB760_721 := kR BK721 hg
    replace BK721 := kB BK721 hb
    have NB737_760 := kL BK737 hg
    have NB760_737 := kR BK737 hg
    replace BK737 := kB BK737 hb
    clear hb hbox hg
    refine hK.out _ _ ⟨bc BK720 0, bc BK720 1, bc BK720 2, bc BK721 0, bc BK721 1, bc BK721 2⟩ (fun hHeld => ?_)
    clear hK K
    refine norm_ (a' := ?_) ?_ ?_
    rotate_left
    ·show Act.put _ (some 7) _ = _
     simp only [Act.put, List.setIfInBounds_toArray, List.set_cons_zero, List.set_cons_succ, i64_w, i32_w]
     rfl
    refine one_ (i := 3) (N := some 21) (ba 11 271) rfl rfl (one_of HT_.out (by kernel_rfl)) (by decide) (fun K hK => ?_)
    refine gC Try.func15 #[.agg #[.int .i64 a1_0, .slice A1_1 l1_1.length c1_1, .slice A1_2 l1_2.length c1_2]] ?_
    with_reducible refine (congoulaw04_Of.calls a1_0 _ _ l1_1 _ _ l1_2 t745 t746 t749 _ ?side1 ?side2 ?side3 ?side4 A6.out).mono ?_
    (case side1 => exact kC HR1_1)
    (case side2 => exact HC1_1.out)
    (case side3 => exact kC HR1_2)
    (case side4 => exact HC1_2.out)
    rintro e w29 ⟨v747, v750, rfl, ho0, ho1, hb⟩
    refine ⟨_, rfl, ?_⟩
    have HO748 := ak (Kd.R_lower (Kd.R_new' (Kd.R_new' (Kd.R_new' (Kd.R_new' (Kd.R_new' (Kd.R_new' ho0 (Kd.R_lt (rC HO725))) (Kd.R_lt (rC HO728))) (Kd.R_lt (rC HO732))) (Kd.R_lt (rC HO735))) (Kd.R_lt (rC HO741))) (Kd.R_lt (rC HO744))) (below_size (hbC _)))
    have HO751 := ak (Kd.R_lower (Kd.R_new' (Kd.R_new' (Kd.R_new' (Kd.R_new' (Kd.R_new' (Kd.R_new' ho1 (Kd.R_lt (rC HO725))) (Kd.R_lt (rC HO728))) (Kd.R_lt (rC HO732))) (Kd.R_lt (rC HO735))) (Kd.R_lt (rC HO741))) (Kd.R_lt (rC HO744))) (below_size (hbC _)))
    replace HO725 := kT HO725 hb ho0 ho1
    replace HO728 := kT HO728 hb ho0 ho1
    replace HO732 := kT HO732 hb ho0 ho1
    replace HO735 := kT HO735 hb ho0 ho1
    replace HO741 := kT HO741 hb ho0 ho1
    replace HO744 := kT HO744 hb ho0 ho1
    replace BK720 := kB BK720 hb
    replace BK721 := kB BK721 hb
    replace BK737 := kB BK737 hb
    replace BK760 := kB BK760 hb
    replace HB := kH _ hb
    (try clear hb)
    (try clear hb2)
    (try clear hk)
    (try clear hi)
    (try clear ho0)
    (try clear ho1)
    obtain ⟨Ao30, co30, eo30⟩ := Kd.R_slice HO741.out
    (first | subst eo30 | (injection eo30 with f1_ f2_ f3_; have f4_ := f1_.symm; have f5_ := f3_.symm; clear f1_ f2_ f3_; subst f4_; subst f5_))
    obtain ⟨Ao31, co31, eo31⟩ := Kd.R_slice HO744.out
    (first | subst eo31 | (injection eo31 with f1_ f2_ f3_; have f4_ := f1_.symm; have f5_ := f3_.symm; clear f1_ f2_ f3_; subst f4_; subst f5_))
    obtain ⟨Ao32, co32, eo32⟩ := Kd.R_slice HO748.out
    (first | subst eo32 | (injection eo32 with f1_ f2_ f3_; have f4_ := f1_.symm; have f5_ := f3_.symm; clear f1_ f2_ f3_; subst f4_; subst f5_))
    obtain ⟨Ao33, co33, eo33⟩ := Kd.R_slice HO751.out
    (first | subst eo33 | (injection eo33 with f1_ f2_ f3_; have f4_ := f1_.symm; have f5_ := f3_.symm; clear f1_ f2_ f3_; subst f4_; subst f5_))
    refine hK.out _ _ ⟨bc BK720 0, bc BK720 1, bc BK720 2, bc BK721 0, bc BK721 1, bc BK721 2⟩ (fun hHeld => ?_)
    clear hK K
    refine norm_ (a' := ?_) ?_ ?_
    rotate_left
    ·show Act.put _ (some 21) _ = _
     simp only [Act.put, List.setIfInBounds_toArray, List.set_cons_zero, List.set_cons_succ, i64_w, i32_w]
     rfl
    refine one_ (i := 4) (N := some 22) (ba 11 287) rfl rfl (one_of HT_.out (by kernel_rfl)) (by decide) (fun K hK => ?_)
    refine gC Try.func35 #[.agg #[.int .i64 t738, .slice Ao30 t739.length co30, .slice Ao31 t742.length co31], .agg #[.int .i64 t745, .slice Ao32 t746.length co32, .slice Ao33 t749.length co33]] ?_
    with_reducible refine (curves_Plus.calls k t738 _ _ t739 _ _ t742 t745 _ _ t746 _ _ t749 t752 t753 t756 t759 _ ?side1 ?side2 ?side3 ?side4 ?side5 ?side6 ?side7 ?side8 A7.out).mono ?_
    (case side1 => exact kD (Kd.R_reads' HO741.out).2.2)
    (case side2 => exact (Kd.R_reads' HO741.out).2.1)
    (case side3 => exact kD (Kd.R_reads' HO744.out).2.2)
    (case side4 => exact (Kd.R_reads' HO744.out).2.1)
    (case side5 => exact kD (Kd.R_reads' HO748.out).2.2)
    (case side6 => exact (Kd.R_reads' HO748.out).2.1)
    (case side7 => exact kD (Kd.R_reads' HO751.out).2.2)
    (case side8 => exact (Kd.R_reads' HO751.out).2.1)
    rintro e w34 ⟨v754, v757, rfl, ho0, ho1, hb⟩
    refine ⟨_, rfl, ?_⟩
    have HO755 := ak (Kd.R_lower (Kd.R_new' (Kd.R_new' (Kd.R_new' (Kd.R_new' (Kd.R_new' (Kd.R_new' (Kd.R_new' (Kd.R_new' ho0 (Kd.R_lt (rC HO725))) (Kd.R_lt (rC HO728))) (Kd.R_lt (rC HO732))) (Kd.R_lt (rC HO735))) (Kd.R_lt (rC HO741))) (Kd.R_lt (rC HO744))) (Kd.R_lt (rC HO748))) (Kd.R_lt (rC HO751))) (below_size (hbC _)))
    have HO758 := ak (Kd.R_lower (Kd.R_new' (Kd.R_new' (Kd.R_new' (Kd.R_new' (Kd.R_new' (Kd.R_new' (Kd.R_new' (Kd.R_new' ho1 (Kd.R_lt (rC HO725))) (Kd.R_lt (rC HO728))) (Kd.R_lt (rC HO732))) (Kd.R_lt (rC HO735))) (Kd.R_lt (rC HO741))) (Kd.R_lt (rC HO744))) (Kd.R_lt (rC HO748))) (Kd.R_lt (rC HO751))) (below_size (hbC _)))
    replace HO725 := kT HO725 hb ho0 ho1
    replace HO728 := kT HO728 hb ho0 ho1
    replace HO732 := kT HO732 hb ho0 ho1
    replace HO735 := kT HO735 hb ho0 ho1
    replace HO741 := kT HO741 hb ho0 ho1
    replace HO744 := kT HO744 hb ho0 ho1
    replace HO748 := kT HO748 hb ho0 ho1
    replace HO751 := kT HO751 hb ho0 ho1
    replace BK720 := kB BK720 hb
    replace BK721 := kB BK721 hb
    replace BK737 := kB BK737 hb
    replace BK760 := kB BK760 hb
    replace HB := kH _ hb
    (try clear hb)
    (try clear hb2)
    (try clear hk)
    (try clear hi)
    (try clear ho0)
    (try clear ho1)
    refine hK.out _ _ ⟨bc BK720 0, bc BK720 1, bc BK720 2, bc BK721 0, bc BK721 1, bc BK721 2⟩ (fun hHeld => ?_)
    clear hK K
    refine norm_ (a' := ?_) ?_ ?_
    rotate_left
    ·show Act.put _ (some 22) _ = _
     simp only [Act.put, List.setIfInBounds_toArray, List.set_cons_zero, List.set_cons_succ, i64_w, i32_w]
     rfl
    refine pS 5 17 11 319 ?_
    refine pS 6 23 11 383 ?_
    refine pS 7 24 11 511 ?_
    exact norm_ (by simp only [putAll, Act.put, List.setIfInBounds_toArray, List.set_cons_zero, List.set_cons_succ]) (hCont (.slice Ao30 t739.length co30, .slice Ao31 t742.length co31, .slice Ao32 t746.length co32, .slice Ao33 t749.length co33, v754, v757, gb760) _ ⟨hHeld, (rD (kM HO725)), (rD (kM HO728)), (rD (kM HO732)), (rD (kM HO735)), (rD (Kd.R_mono HO741.out (fun _ hk => ⟨hk.1.1.1.1.1.1.1.2, ⟨hk.1.1.1.1.1.1.2, ⟨hk.1.1.1.1.1.2, ⟨hk.1.1.1.1.2, ⟨hk.1.1.1.1.1.1.1.1, ⟨hk.1.1.1.2, ⟨hk.1.1.2, ⟨hk.1.2, hk.2⟩⟩⟩⟩⟩⟩⟩⟩))), (rD (Kd.R_mono HO744.out (fun _ hk => ⟨hk.1.1.1.1.1.1.1.2, ⟨hk.1.1.1.1.1.1.2, ⟨hk.1.1.1.1.1.2, ⟨hk.1.1.1.1.2, ⟨hk.1.1.1.1.1.1.1.1, ⟨hk.1.1.1.2, ⟨hk.1.1.2, ⟨hk.1.2, hk.2⟩⟩⟩⟩⟩⟩⟩⟩))), (rD (Kd.R_mono HO748.out (fun _ hk => ⟨hk.1.1.1.1.1.1.1.2, ⟨hk.1.1.1.1.1.1.2, ⟨hk.1.1.1.1.1.2, ⟨hk.1.1.1.1.2, ⟨hk.1.1.1.2, ⟨hk.1.1.2, ⟨hk.1.1.1.1.1.1.1.1, ⟨hk.1.2, hk.2⟩⟩⟩⟩⟩⟩⟩⟩))), (rD (Kd.R_mono HO751.out (fun _ hk => ⟨hk.1.1.1.1.1.1.1.2, ⟨hk.1.1.1.1.1.1.2, ⟨hk.1.1.1.1.1.2, ⟨hk.1.1.1.1.2, ⟨hk.1.1.1.2, ⟨hk.1.1.2, ⟨hk.1.1.1.1.1.1.1.1, ⟨hk.1.2, hk.2⟩⟩⟩⟩⟩⟩⟩⟩))), (rD (Kd.R_mono HO755.out (fun _ hk => ⟨hk.1.1.1.1.1.1.1.2, ⟨hk.1.1.1.1.1.1.2, ⟨hk.1.1.1.1.1.2, ⟨hk.1.1.1.1.2, ⟨hk.1.1.1.2, ⟨hk.1.1.2, ⟨hk.1.2, ⟨hk.2, hk.1.1.1.1.1.1.1.1⟩⟩⟩⟩⟩⟩⟩⟩))), (rD (Kd.R_mono HO758.out (fun _ hk => ⟨hk.1.1.1.1.1.1.1.2, ⟨hk.1.1.1.1.1.1.2, ⟨hk.1.1.1.1.1.2, ⟨hk.1.1.1.1.2, ⟨hk.1.1.1.2, ⟨hk.1.1.2, ⟨hk.1.2, ⟨hk.2, hk.1.1.1.1.1.1.1.1⟩⟩⟩⟩⟩⟩⟩⟩))), (bkC BK720), (bkC BK721), (bkC BK737), (bkC BK760), GW760.out, GE760.out, NB720_760.out, NB760_720.out, NB721_760.out, NB760_721.out, NB737_760.out, NB760_737.out, (hbC _)⟩)
  ·skip
   refine box_step ?hg (N := 7) ?hd (cs := #[.int .i64 0, .slice none 0 0, .slice none 0 0]) (t := 30) ?hr ?_; (case hd => rfl); (case hg => rfl); (case hr => first | (go_simp; done) | (go_simp; rfl))
   intro gb760 hg w27 hbox hb
   replace HO725 := kO HO725 hb
   replace HO728 := kO HO728 hb
   replace HO732 := kO HO732 hb
   replace HO735 := kO HO735 hb
   have BK760 := ak (hbox)
   have GW760 := kG w hg
   have GE760 := kG w hg
   replace HB := kH _ hb
   have NB720_760 := kL BK720 hg
   have NB760_720 := kR BK720 hg
   replace BK720 := kB BK720 hb
   have NB721_760 := kL BK721 hg
   have NB760_721 := kR BK721 hg
   replace BK721 := kB BK721 hb
   have NB737_760 := kL BK737 hg
   have NB760_737 := kR BK737 hg
   replace BK737 := kB BK737 hb
   clear hb hbox hg
   refine hK.out _ _ ⟨bc BK720 0, bc BK720 1, bc BK720 2, bc BK721 0, bc BK721 1, bc BK721 2⟩ (fun hHeld => ?_)
   clear hK K
   refine norm_ (a' := ?_) ?_ ?_
   rotate_left
   ·show Act.put _ (some 7) _ = _
    simp only [Act.put, List.setIfInBounds_toArray, List.set_cons_zero, List.set_cons_succ, i64_w, i32_w]
    rfl
   refine one_ (i := 1) (N := some 19) (ba 11 263) rfl rfl (one_of HT_.out (by kernel_rfl)) (by decide) (fun K hK => ?_)
   refine gC Try.func15 #[.agg #[.int .i64 a0_0, .slice A0_1 l0_1.length c0_1, .slice A0_2 l0_2.length c0_2]] ?_
   with_reducible refine (congoulaw04_Of.calls a0_0 _ _ l0_1 _ _ l0_2 t738 t739 t742 _ ?side1 ?side2 ?side3 ?side4 A5.out).mono ?_
   (case side1 => exact kC HR0_1)
   (case side2 => exact HC0_1.out)
   (case side3 => exact kC HR0_2)
   (case side4 => exact HC0_2.out)
   rintro e w28 ⟨v740, v743, rfl, ho0, ho1, hb⟩
   refine ⟨_, rfl, ?_⟩
   have HO741 := ak (Kd.R_lower (Kd.R_new' (Kd.R_new' (Kd.R_new' (Kd.R_new' ho0 (Kd.R_lt (rC HO725))) (Kd.R_lt (rC HO728))) (Kd.R_lt (rC HO732))) (Kd.R_lt (rC HO735))) (below_size (hbC _)))
   have HO744 := ak (Kd.R_lower (Kd.R_new' (Kd.R_new' (Kd.R_new' (Kd.R_new' ho1 (Kd.R_lt (rC HO725))) (Kd.R_lt (rC HO728))) (Kd.R_lt (rC HO732))) (Kd.R_lt (rC HO735))) (below_size (hbC _)))
   replace HO725 := kT HO725 hb ho0 ho1
   replace HO728 := kT HO728 hb ho0 ho1
   replace HO732 := kT HO732 hb ho0 ho1
   replace HO735 := kT HO735 hb ho0 ho1
   replace BK720 := kB BK720 hb
   replace BK721 := kB BK721 hb
   replace BK737 := kB BK737 hb
   replace BK760 := kB BK760 hb
   replace HB := kH _ hb
   (try clear hb)
   (try clear hb2)
   (try clear hk)
   (try clear hi)
   (try clear ho0)
   (try clear ho1)
   refine hK.out _ _ ⟨bc BK720 0, bc BK720 1, bc BK720 2, bc BK721 0, bc BK721 1, bc BK721 2⟩ (fun hHeld => ?_)
   clear hK K
   refine norm_ (a' := ?_) ?_ ?_
   rotate_left
   ·show Act.put _ (some 19) _ = _
    simp only [Act.put, List.setIfInBounds_toArray, List.set_cons_zero, List.set_cons_succ, i64_w, i32_w]
    rfl
   refine one_ (i := 3) (N := some 21) (ba 11 271) rfl rfl (one_of HT_.out (by kernel_rfl)) (by decide) (fun K hK => ?_)
   refine gC Try.func15 #[.agg #[.int .i64 a1_0, .slice A1_1 l1_1.length c1_1, .slice A1_2 l1_2.length c1_2]] ?_
   with_reducible refine (congoulaw04_Of.calls a1_0 _ _ l1_1 _ _ l1_2 t745 t746 t749 _ ?side1 ?side2 ?side3 ?side4 A6.out).mono ?_
   (case side1 => exact kC HR1_1)
   (case side2 => exact HC1_1.out)
   (case side3 => exact kC HR1_2)
   (case side4 => exact HC1_2.out)
   rintro e w29 ⟨v747, v750, rfl, ho0, ho1, hb⟩
   refine ⟨_, rfl, ?_⟩
   have HO748 := ak (Kd.R_lower (Kd.R_new' (Kd.R_new' (Kd.R_new' (Kd.R_new' (Kd.R_new' (Kd.R_new' ho0 (Kd.R_lt (rC HO725))) (Kd.R_lt (rC HO728))) (Kd.R_lt (rC HO732))) (Kd.R_lt (rC HO735))) (Kd.R_lt (rC HO741))) (Kd.R_lt (rC HO744))) (below_size (hbC _)))
   have HO751 := ak (Kd.R_lower (Kd.R_new' (Kd.R_new' (Kd.R_new' (Kd.R_new' (Kd.R_new' (Kd.R_new' ho1 (Kd.R_lt (rC HO725))) (Kd.R_lt (rC HO728))) (Kd.R_lt (rC HO732))) (Kd.R_lt (rC HO735))) (Kd.R_lt (rC HO741))) (Kd.R_lt (rC HO744))) (below_size (hbC _)))
   replace HO725 := kT HO725 hb ho0 ho1
   replace HO728 := kT HO728 hb ho0 ho1
   replace HO732 := kT HO732 hb ho0 ho1
   replace HO735 := kT HO735 hb ho0 ho1
   replace HO741 := kT HO741 hb ho0 ho1
   replace HO744 := kT HO744 hb ho0 ho1
   replace BK720 := kB BK720 hb
   replace BK721 := kB BK721 hb
   replace BK737 := kB BK737 hb
   replace BK760 := kB BK760 hb
   replace HB := kH _ hb
   (try clear hb)
   (try clear hb2)
   (try clear hk)
   (try clear hi)
   (try clear ho0)
   (try clear ho1)
   obtain ⟨Ao30, co30, eo30⟩ := Kd.R_slice HO741.out
   (first | subst eo30 | (injection eo30 with f1_ f2_ f3_; have f4_ := f1_.symm; have f5_ := f3_.symm; clear f1_ f2_ f3_; subst f4_; subst f5_))
   obtain ⟨Ao31, co31, eo31⟩ := Kd.R_slice HO744.out
   (first | subst eo31 | (injection eo31 with f1_ f2_ f3_; have f4_ := f1_.symm; have f5_ := f3_.symm; clear f1_ f2_ f3_; subst f4_; subst f5_))
   obtain ⟨Ao32, co32, eo32⟩ := Kd.R_slice HO748.out
   (first | subst eo32 | (injection eo32 with f1_ f2_ f3_; have f4_ := f1_.symm; have f5_ := f3_.symm; clear f1_ f2_ f3_; subst f4_; subst f5_))
   obtain ⟨Ao33, co33, eo33⟩ := Kd.R_slice HO751.out
   (first | subst eo33 | (injection eo33 with f1_ f2_ f3_; have f4_ := f1_.symm; have f5_ := f3_.symm; clear f1_ f2_ f3_; subst f4_; subst f5_))
   refine hK.out _ _ ⟨bc BK720 0, bc BK720 1, bc BK720 2, bc BK721 0, bc BK721 1, bc BK721 2⟩ (fun hHeld => ?_)
   clear hK K
   refine norm_ (a' := ?_) ?_ ?_
   rotate_left
   ·show Act.put _ (some 21) _ = _
    simp only [Act.put, List.setIfInBounds_toArray, List.set_cons_zero, List.set_cons_succ, i64_w, i32_w]
    rfl
   refine one_ (i := 4) (N := some 22) (ba 11 287) rfl rfl (one_of HT_.out (by kernel_rfl)) (by decide) (fun K hK => ?_)
   refine gC Try.func35 #[.agg #[.int .i64 t738, .slice Ao30 t739.length co30, .slice Ao31 t742.length co31], .agg #[.int .i64 t745, .slice Ao32 t746.length co32, .slice Ao33 t749.length co33]] ?_
   with_reducible refine (curves_Plus.calls k t738 _ _ t739 _ _ t742 t745 _ _ t746 _ _ t749 t752 t753 t756 t759 _ ?side1 ?side2 ?side3 ?side4 ?side5 ?side6 ?side7 ?side8 A7.out).mono ?_
   (case side1 => exact kD (Kd.R_reads' HO741.out).2.2)
   (case side2 => exact (Kd.R_reads' HO741.out).2.1)
   (case side3 => exact kD (Kd.R_reads' HO744.out).2.2)
   (case side4 => exact (Kd.R_reads' HO744.out).2.1)
   (case side5 => exact kD (Kd.R_reads' HO748.out).2.2)
   (case side6 => exact (Kd.R_reads' HO748.out).2.1)
   (case side7 => exact kD (Kd.R_reads' HO751.out).2.2)
   (case side8 => exact (Kd.R_reads' HO751.out).2.1)
   rintro e w34 ⟨v754, v757, rfl, ho0, ho1, hb⟩
   refine ⟨_, rfl, ?_⟩
   have HO755 := ak (Kd.R_lower (Kd.R_new' (Kd.R_new' (Kd.R_new' (Kd.R_new' (Kd.R_new' (Kd.R_new' (Kd.R_new' (Kd.R_new' ho0 (Kd.R_lt (rC HO725))) (Kd.R_lt (rC HO728))) (Kd.R_lt (rC HO732))) (Kd.R_lt (rC HO735))) (Kd.R_lt (rC HO741))) (Kd.R_lt (rC HO744))) (Kd.R_lt (rC HO748))) (Kd.R_lt (rC HO751))) (below_size (hbC _)))
   have HO758 := ak (Kd.R_lower (Kd.R_new' (Kd.R_new' (Kd.R_new' (Kd.R_new' (Kd.R_new' (Kd.R_new' (Kd.R_new' (Kd.R_new' ho1 (Kd.R_lt (rC HO725))) (Kd.R_lt (rC HO728))) (Kd.R_lt (rC HO732))) (Kd.R_lt (rC HO735))) (Kd.R_lt (rC HO741))) (Kd.R_lt (rC HO744))) (Kd.R_lt (rC HO748))) (Kd.R_lt (rC HO751))) (below_size (hbC _)))
   replace HO725 := kT HO725 hb ho0 ho1
   replace HO728 := kT HO728 hb ho0 ho1
   replace HO732 := kT HO732 hb ho0 ho1
   replace HO735 := kT HO735 hb ho0 ho1
   replace HO741 := kT HO741 hb ho0 ho1
   replace HO744 := kT HO744 hb ho0 ho1
   replace HO748 := kT HO748 hb ho0 ho1
   replace HO751 := kT HO751 hb ho0 ho1
   replace BK720 := kB BK720 hb
   replace BK721 := kB BK721 hb
   replace BK737 := kB BK737 hb
   replace BK760 := kB BK760 hb
   replace HB := kH _ hb
   (try clear hb)
   (try clear hb2)
   (try clear hk)
   (try clear hi)
   (try clear ho0)
   (try clear ho1)
   refine hK.out _ _ ⟨bc BK720 0, bc BK720 1, bc BK720 2, bc BK721 0, bc BK721 1, bc BK721 2⟩ (fun hHeld => ?_)
   clear hK K
   refine norm_ (a' := ?_) ?_ ?_
   rotate_left
   ·show Act.put _ (some 22) _ = _
    simp only [Act.put, List.setIfInBounds_toArray, List.set_cons_zero, List.set_cons_succ, i64_w, i32_w]
    rfl
   refine pS 5 17 11 319 ?_
   refine pS 6 23 11 383 ?_
   refine pS 7 24 11 511 ?_
   exact norm_ (by simp only [putAll, Act.put, List.setIfInBounds_toArray, List.set_cons_zero, List.set_cons_succ]) (hCont (.slice Ao30 t739.length co30, .slice Ao31 t742.length co31, .slice Ao32 t746.length co32, .slice Ao33 t749.length co33, v754, v757, gb760) _ ⟨hHeld, (rD (kM HO725)), (rD (kM HO728)), (rD (kM HO732)), (rD (kM HO735)), (rD (Kd.R_mono HO741.out (fun _ hk => ⟨hk.1.1.1.1.1.1.1.2, ⟨hk.1.1.1.1.1.1.2, ⟨hk.1.1.1.1.1.2, ⟨hk.1.1.1.1.2, ⟨hk.1.1.1.1.1.1.1.1, ⟨hk.1.1.1.2, ⟨hk.1.1.2, ⟨hk.1.2, hk.2⟩⟩⟩⟩⟩⟩⟩⟩))), (rD (Kd.R_mono HO744.out (fun _ hk => ⟨hk.1.1.1.1.1.1.1.2, ⟨hk.1.1.1.1.1.1.2, ⟨hk.1.1.1.1.1.2, ⟨hk.1.1.1.1.2, ⟨hk.1.1.1.1.1.1.1.1, ⟨hk.1.1.1.2, ⟨hk.1.1.2, ⟨hk.1.2, hk.2⟩⟩⟩⟩⟩⟩⟩⟩))), (rD (Kd.R_mono HO748.out (fun _ hk => ⟨hk.1.1.1.1.1.1.1.2, ⟨hk.1.1.1.1.1.1.2, ⟨hk.1.1.1.1.1.2, ⟨hk.1.1.1.1.2, ⟨hk.1.1.1.2, ⟨hk.1.1.2, ⟨hk.1.1.1.1.1.1.1.1, ⟨hk.1.2, hk.2⟩⟩⟩⟩⟩⟩⟩⟩))), (rD (Kd.R_mono HO751.out (fun _ hk => ⟨hk.1.1.1.1.1.1.1.2, ⟨hk.1.1.1.1.1.1.2, ⟨hk.1.1.1.1.1.2, ⟨hk.1.1.1.1.2, ⟨hk.1.1.1.2, ⟨hk.1.1.2, ⟨hk.1.1.1.1.1.1.1.1, ⟨hk.1.2, hk.2⟩⟩⟩⟩⟩⟩⟩⟩))), (rD (Kd.R_mono HO755.out (fun _ hk => ⟨hk.1.1.1.1.1.1.1.2, ⟨hk.1.1.1.1.1.1.2, ⟨hk.1.1.1.1.1.2, ⟨hk.1.1.1.1.2, ⟨hk.1.1.1.2, ⟨hk.1.1.2, ⟨hk.1.2, ⟨hk.2, hk.1.1.1.1.1.1.1.1⟩⟩⟩⟩⟩⟩⟩⟩))), (rD (Kd.R_mono HO758.out (fun _ hk => ⟨hk.1.1.1.1.1.1.1.2, ⟨hk.1.1.1.1.1.1.2, ⟨hk.1.1.1.1.1.2, ⟨hk.1.1.1.1.2, ⟨hk.1.1.1.2, ⟨hk.1.1.2, ⟨hk.1.2, ⟨hk.2, hk.1.1.1.1.1.1.1.1⟩⟩⟩⟩⟩⟩⟩⟩))), (bkC BK720), (bkC BK721), (bkC BK737), (bkC BK760), GW760.out, GE760.out, NB720_760.out, NB760_720.out, NB721_760.out, NB760_721.out, NB737_760.out, NB760_737.out, (hbC _)⟩)
 rintro ⟨v740, v743, v747, v750, v754, v757, gb760⟩ w35 ⟨hS_, h0_, h1_, h2_, h3_, h4_, h5_, h6_, h7_, h8_, h9_, h10_, h11_, h12_, h13_, h14_, h15_, h16_, h17_, h18_, h19_, h20_, h21_, h22_⟩
 have n0_ : Aside0 (Kd.R (Kd.int .i64) 3 w35 w.heap.size (fun k_ => nb k_ (.slice Ao17 t726.length co17) ∧ nb k_ (.slice Ao23 t730.length co23) ∧ nb k_ (.slice Ao24 t733.length co24) ∧ nb k_ v740 ∧ nb k_ v743 ∧ nb k_ v747 ∧ nb k_ v750 ∧ nb k_ v754 ∧ nb k_ v757) (.slice Ao16 t723.length co16) t723) := ⟨h0_⟩
 have n1_ : Aside0 (Kd.R (Kd.int .i64) 3 w35 w.heap.size (fun k_ => nb k_ (.slice Ao16 t723.length co16) ∧ nb k_ (.slice Ao23 t730.length co23) ∧ nb k_ (.slice Ao24 t733.length co24) ∧ nb k_ v740 ∧ nb k_ v743 ∧ nb k_ v747 ∧ nb k_ v750 ∧ nb k_ v754 ∧ nb k_ v757) (.slice Ao17 t726.length co17) t726) := ⟨h1_⟩
 have n2_ : Aside0 (Kd.R (Kd.int .i64) 3 w35 w.heap.size (fun k_ => nb k_ (.slice Ao16 t723.length co16) ∧ nb k_ (.slice Ao17 t726.length co17) ∧ nb k_ (.slice Ao24 t733.length co24) ∧ nb k_ v740 ∧ nb k_ v743 ∧ nb k_ v747 ∧ nb k_ v750 ∧ nb k_ v754 ∧ nb k_ v757) (.slice Ao23 t730.length co23) t730) := ⟨h2_⟩
 have n3_ : Aside0 (Kd.R (Kd.int .i64) 3 w35 w.heap.size (fun k_ => nb k_ (.slice Ao16 t723.length co16) ∧ nb k_ (.slice Ao17 t726.length co17) ∧ nb k_ (.slice Ao23 t730.length co23) ∧ nb k_ v740 ∧ nb k_ v743 ∧ nb k_ v747 ∧ nb k_ v750 ∧ nb k_ v754 ∧ nb k_ v757) (.slice Ao24 t733.length co24) t733) := ⟨h3_⟩
 have n4_ : Aside0 (Kd.R (Kd.int .i64) 3 w35 w.heap.size (fun k_ => nb k_ (.slice Ao16 t723.length co16) ∧ nb k_ (.slice Ao17 t726.length co17) ∧ nb k_ (.slice Ao23 t730.length co23) ∧ nb k_ (.slice Ao24 t733.length co24) ∧ nb k_ v743 ∧ nb k_ v747 ∧ nb k_ v750 ∧ nb k_ v754 ∧ nb k_ v757) v740 t739) := ⟨h4_⟩
 have n5_ : Aside0 (Kd.R (Kd.int .i64) 3 w35 w.heap.size (fun k_ => nb k_ (.slice Ao16 t723.length co16) ∧ nb k_ (.slice Ao17 t726.length co17) ∧ nb k_ (.slice Ao23 t730.length co23) ∧ nb k_ (.slice Ao24 t733.length co24) ∧ nb k_ v740 ∧ nb k_ v747 ∧ nb k_ v750 ∧ nb k_ v754 ∧ nb k_ v757) v743 t742) := ⟨h5_⟩
 have n6_ : Aside0 (Kd.R (Kd.int .i64) 3 w35 w.heap.size (fun k_ => nb k_ (.slice Ao16 t723.length co16) ∧ nb k_ (.slice Ao17 t726.length co17) ∧ nb k_ (.slice Ao23 t730.length co23) ∧ nb k_ (.slice Ao24 t733.length co24) ∧ nb k_ v740 ∧ nb k_ v743 ∧ nb k_ v750 ∧ nb k_ v754 ∧ nb k_ v757) v747 t746) := ⟨h6_⟩
 have n7_ : Aside0 (Kd.R (Kd.int .i64) 3 w35 w.heap.size (fun k_ => nb k_ (.slice Ao16 t723.length co16) ∧ nb k_ (.slice Ao17 t726.length co17) ∧ nb k_ (.slice Ao23 t730.length co23) ∧ nb k_ (.slice Ao24 t733.length co24) ∧ nb k_ v740 ∧ nb k_ v743 ∧ nb k_ v747 ∧ nb k_ v754 ∧ nb k_ v757) v750 t749) := ⟨h7_⟩
 have n8_ : Aside0 (Kd.R (Kd.int .i64) 3 w35 w.heap.size (fun k_ => nb k_ (.slice Ao16 t723.length co16) ∧ nb k_ (.slice Ao17 t726.length co17) ∧ nb k_ (.slice Ao23 t730.length co23) ∧ nb k_ (.slice Ao24 t733.length co24) ∧ nb k_ v740 ∧ nb k_ v743 ∧ nb k_ v747 ∧ nb k_ v750 ∧ nb k_ v757) v754 t753) := ⟨h8_⟩
 have n9_ : Aside0 (Kd.R (Kd.int .i64) 3 w35 w.heap.size (fun k_ => nb k_ (.slice Ao16 t723.length co16) ∧ nb k_ (.slice Ao17 t726.length co17) ∧ nb k_ (.slice Ao23 t730.length co23) ∧ nb k_ (.slice Ao24 t733.length co24) ∧ nb k_ v740 ∧ nb k_ v743 ∧ nb k_ v747 ∧ nb k_ v750 ∧ nb k_ v754) v757 t756) := ⟨h9_⟩
 have n10_ : Aside0 (w35.heap[gb720]? = some (.cells #[.int .i64 a0_0, .slice A0_1 l0_1.length c0_1, .slice A0_2 l0_2.length c0_2] 24 (0, 0))) := ⟨h10_⟩
 have n11_ : Aside0 (w35.heap[gb721]? = some (.cells #[.int .i64 a1_0, .slice A1_1 l1_1.length c1_1, .slice A1_2 l1_2.length c1_2] 24 (0, 0))) := ⟨h11_⟩
 have n12_ : Aside0 (w35.heap[gb737]? = some (.cells #[.int .i64 t729, .slice Ao23 t730.length co23, .slice Ao24 t733.length co24] 30 (0, 0))) := ⟨h12_⟩
 have n13_ : Aside0 (w35.heap[gb760]? = some (.cells #[.int .i64 0, .slice none 0 0, .slice none 0 0] 30 (0, 0))) := ⟨h13_⟩
 have n14_ : Aside0 (w.heap.size ≤ gb760) := ⟨h14_⟩
 have n15_ : Aside0 (w.heap.size ≤ gb760) := ⟨h15_⟩
 have n16_ : Aside0 (gb720 ≠ gb760) := ⟨h16_⟩
 have n17_ : Aside0 (gb760 ≠ gb720) := ⟨h17_⟩
 have n18_ : Aside0 (gb721 ≠ gb760) := ⟨h18_⟩
 have n19_ : Aside0 (gb760 ≠ gb721) := ⟨h19_⟩
 have n20_ : Aside0 (gb737 ≠ gb760) := ⟨h20_⟩
 have n21_ : Aside0 (gb760 ≠ gb737) := ⟨h21_⟩
 have n22_ : Aside0 (Below w.heap.size w w35) := ⟨h22_⟩
 clear HO725
 clear HO728
 clear HO732
 clear HO735
 clear BK720
 clear BK721
 clear BK737
 clear HB
 clear h0_ h1_ h2_ h3_ h4_ h5_ h6_ h7_ h8_ h9_ h10_ h11_ h12_ h13_ h14_ h15_ h16_ h17_ h18_ h19_ h20_ h21_ h22_
 have HO725 := n0_
 have HO728 := n1_
 have HO732 := n2_
 have HO735 := n3_
 have HO741 := n4_
 have HO744 := n5_
 have HO748 := n6_
 have HO751 := n7_
 have HO755 := n8_
 have HO758 := n9_
 have BK720 := n10_
 have BK721 := n11_
 have BK737 := n12_
 have BK760 := n13_
 have GW760 := n14_
 have GE760 := n15_
 have NB720_760 := n16_
 have NB760_720 := n17_
 have NB721_760 := n18_
 have NB760_721 := n19_
 have NB737_760 := n20_
 have NB760_737 := n21_
 have HB := n22_
 clear n0_ n1_ n2_ n3_ n4_ n5_ n6_ n7_ n8_ n9_ n10_ n11_ n12_ n13_ n14_ n15_ n16_ n17_ n18_ n19_ n20_ n21_ n22_
 have hHeld : w35.cell? ⟨gb720, 0, none⟩ = some (.int .i64 a0_0) ∧ w35.cell? ⟨gb720, 1, none⟩ = some (.slice A0_1 l0_1.length c0_1) ∧ w35.cell? ⟨gb720, 2, none⟩ = some (.slice A0_2 l0_2.length c0_2) ∧ w35.cell? ⟨gb721, 0, none⟩ = some (.int .i64 a1_0) ∧ w35.cell? ⟨gb721, 1, none⟩ = some (.slice A1_1 l1_1.length c1_1) ∧ w35.cell? ⟨gb721, 2, none⟩ = some (.slice A1_2 l1_2.length c1_2) := hS_
 obtain ⟨Ao37, co37, eo37⟩ := Kd.R_slice HO755.out
 (first | subst eo37 | (injection eo37 with f1_ f2_ f3_; have f4_ := f1_.symm; have f5_ := f3_.symm; clear f1_ f2_ f3_; subst f4_; subst f5_))
 obtain ⟨Ao39, co39, eo39⟩ := Kd.R_slice HO758.out
 (first | subst eo39 | (injection eo39 with f1_ f2_ f3_; have f4_ := f1_.symm; have f5_ := f3_.symm; clear f1_ f2_ f3_; subst f4_; subst f5_))
 refine norm_ (a' := ?_) ?_ ?_
 rotate_left
 ·simp only [putAll, Act.put, List.setIfInBounds_toArray, List.set_cons_zero, List.set_cons_succ]
  rfl
 refine one_ (i := 9) (N := none) (ba 11 1023) rfl rfl (one_of HT_.out (by kernel_rfl)) (by decide) (fun K hK => ?_)
 have hs36 : w35.cell? ⟨gb760, 0, none⟩ = some (.int .i64 0) := bc BK760 0
 have hfs36 := fz BK760 0
 have hns36_0 := NB720_760.out
 have hns36_1 := NB721_760.out
 have hns36_2 := NB737_760.out
 have hms36_0 := NB760_720.out
 have hms36_1 := NB760_721.out
 have hms36_2 := NB760_737.out
 have hs38 : w35.cell? ⟨gb760, 1, none⟩ = some (.slice none 0 0) := bc BK760 1
 have hfs38 := fz BK760 1
 have hns38_0 := NB720_760.out
 have hns38_1 := NB721_760.out
 have hns38_2 := NB737_760.out
 have hms38_0 := NB760_720.out
 have hms38_1 := NB760_721.out
 have hms38_2 := NB760_737.out
 have hs40 : w35.cell? ⟨gb760, 2, none⟩ = some (.slice none 0 0) := bc BK760 2
 have hfs40 := fz BK760 2
 have hns40_0 := NB720_760.out
 have hns40_1 := NB721_760.out
 have hns40_2 := NB737_760.out
 have hms40_0 := NB760_720.out
 have hms40_1 := NB760_721.out
 have hms40_2 := NB760_737.out
 refine skip_ (w1 := ?_) (by rfl) rfl ?_ ?_
 rotate_left
 ·go_simp
  rfl
 refine hK.out _ _ ⟨((cell_far (p := ⟨gb760, _, none⟩) NB720_760.out _).trans (((cell_far (p := ⟨gb760, _, none⟩) NB720_760.out _).trans (((cell_far (p := ⟨gb760, _, none⟩) NB720_760.out _).trans (hHeld.1)))))), ((cell_far (p := ⟨gb760, _, none⟩) NB720_760.out _).trans (((cell_far (p := ⟨gb760, _, none⟩) NB720_760.out _).trans (((cell_far (p := ⟨gb760, _, none⟩) NB720_760.out _).trans (hHeld.2.1)))))), ((cell_far (p := ⟨gb760, _, none⟩) NB720_760.out _).trans (((cell_far (p := ⟨gb760, _, none⟩) NB720_760.out _).trans (((cell_far (p := ⟨gb760, _, none⟩) NB720_760.out _).trans (hHeld.2.2.1)))))), ((cell_far (p := ⟨gb760, _, none⟩) NB721_760.out _).trans (((cell_far (p := ⟨gb760, _, none⟩) NB721_760.out _).trans (((cell_far (p := ⟨gb760, _, none⟩) NB721_760.out _).trans (hHeld.2.2.2.1)))))), ((cell_far (p := ⟨gb760, _, none⟩) NB721_760.out _).trans (((cell_far (p := ⟨gb760, _, none⟩) NB721_760.out _).trans (((cell_far (p := ⟨gb760, _, none⟩) NB721_760.out _).trans (hHeld.2.2.2.2.1)))))), ((cell_far (p := ⟨gb760, _, none⟩) NB721_760.out _).trans (((cell_far (p := ⟨gb760, _, none⟩) NB721_760.out _).trans (((cell_far (p := ⟨gb760, _, none⟩) NB721_760.out _).trans (hHeld.2.2.2.2.2))))))⟩ (fun hHeld => ?_)
 clear hK K
 refine pS 10 8 11 2047 ?_
 refine done_ (done_of HT_.out (by kernel_rfl)) ?_
 have hnb41 := NB720_760.out
 have hnc41 := NB760_720.out
 have hcz42_0 : w35.cell? ⟨gb720, 0, none⟩ = some (.int .i64 a0_0) := bc BK720 0
 have hcz42_1 : w35.cell? ⟨gb720, 1, none⟩ = some (.slice A0_1 l0_1.length c0_1) := bc BK720 1
 have hcz42_2 : w35.cell? ⟨gb720, 2, none⟩ = some (.slice A0_2 l0_2.length c0_2) := bc BK720 2
 have hfz42_0 := fz BK720 0
 have hfz42_1 := fz BK720 1
 have hfz42_2 := fz BK720 2
 go_upto_region 5 with (first | ((with_reducible refine gate_callee (f := 29) rfl ?_); refine gL 26 Try.func29 #[.agg #[.int .i64 a0_0, .slice A0_1 l0_1.length c0_1, .slice A0_2 l0_2.length c0_2]] ?_; (with_reducible refine (congouref04_Valid.calls k a0_0 _ _ l0_1 _ _ l0_2 true _ ?side1 ?side2 ?side3 ?side4 A8.out).mono ?_); (case side1 => exact Kd.C_below HR0_1.out (hbC _)); (case side2 => exact HC0_1.out); (case side3 => exact Kd.C_below HR0_2.out (hbC _)); (case side4 => exact HC0_2.out); rintro e w43 ⟨rfl, hb⟩; refine ⟨_, rfl, ?_⟩; replace HO725 := ak (Kd.R_below (rD ((Kd.R_mono (Kd.R_far (p := ⟨gb760, 2, none⟩) (Kd.R_far (p := ⟨gb760, 1, none⟩) (Kd.R_far (p := ⟨gb760, 0, none⟩) (Kd.R_types HO725.out BK760.out (by decide)) (fun _ hk => hk.2) (.int .i64 t752)) (fun _ hk => hk.2) (.slice Ao37 t753.length co37)) (fun _ hk => hk.2) (.slice Ao39 t756.length co39)) (fun _ h_ => h_.1)))) hb); replace HO728 := ak (Kd.R_below (rD ((Kd.R_mono (Kd.R_far (p := ⟨gb760, 2, none⟩) (Kd.R_far (p := ⟨gb760, 1, none⟩) (Kd.R_far (p := ⟨gb760, 0, none⟩) (Kd.R_types HO728.out BK760.out (by decide)) (fun _ hk => hk.2) (.int .i64 t752)) (fun _ hk => hk.2) (.slice Ao37 t753.length co37)) (fun _ hk => hk.2) (.slice Ao39 t756.length co39)) (fun _ h_ => h_.1)))) hb); replace HO732 := ak (Kd.R_below (rD ((Kd.R_mono (Kd.R_far (p := ⟨gb760, 2, none⟩) (Kd.R_far (p := ⟨gb760, 1, none⟩) (Kd.R_far (p := ⟨gb760, 0, none⟩) (Kd.R_types HO732.out BK760.out (by decide)) (fun _ hk => hk.2) (.int .i64 t752)) (fun _ hk => hk.2) (.slice Ao37 t753.length co37)) (fun _ hk => hk.2) (.slice Ao39 t756.length co39)) (fun _ h_ => h_.1)))) hb); replace HO735 := ak (Kd.R_below (rD ((Kd.R_mono (Kd.R_far (p := ⟨gb760, 2, none⟩) (Kd.R_far (p := ⟨gb760, 1, none⟩) (Kd.R_far (p := ⟨gb760, 0, none⟩) (Kd.R_types HO735.out BK760.out (by decide)) (fun _ hk => hk.2) (.int .i64 t752)) (fun _ hk => hk.2) (.slice Ao37 t753.length co37)) (fun _ hk => hk.2) (.slice Ao39 t756.length co39)) (fun _ h_ => h_.1)))) hb); replace HO741 := ak (Kd.R_below (rD ((Kd.R_mono (Kd.R_far (p := ⟨gb760, 2, none⟩) (Kd.R_far (p := ⟨gb760, 1, none⟩) (Kd.R_far (p := ⟨gb760, 0, none⟩) (Kd.R_types HO741.out BK760.out (by decide)) (fun _ hk => hk.2) (.int .i64 t752)) (fun _ hk => hk.2) (.slice Ao37 t753.length co37)) (fun _ hk => hk.2) (.slice Ao39 t756.length co39)) (fun _ h_ => h_.1)))) hb); replace HO744 := ak (Kd.R_below (rD ((Kd.R_mono (Kd.R_far (p := ⟨gb760, 2, none⟩) (Kd.R_far (p := ⟨gb760, 1, none⟩) (Kd.R_far (p := ⟨gb760, 0, none⟩) (Kd.R_types HO744.out BK760.out (by decide)) (fun _ hk => hk.2) (.int .i64 t752)) (fun _ hk => hk.2) (.slice Ao37 t753.length co37)) (fun _ hk => hk.2) (.slice Ao39 t756.length co39)) (fun _ h_ => h_.1)))) hb); replace HO748 := ak (Kd.R_below (rD ((Kd.R_mono (Kd.R_far (p := ⟨gb760, 2, none⟩) (Kd.R_far (p := ⟨gb760, 1, none⟩) (Kd.R_far (p := ⟨gb760, 0, none⟩) (Kd.R_types HO748.out BK760.out (by decide)) (fun _ hk => hk.2) (.int .i64 t752)) (fun _ hk => hk.2) (.slice Ao37 t753.length co37)) (fun _ hk => hk.2) (.slice Ao39 t756.length co39)) (fun _ h_ => h_.1)))) hb); replace HO751 := ak (Kd.R_below (rD ((Kd.R_mono (Kd.R_far (p := ⟨gb760, 2, none⟩) (Kd.R_far (p := ⟨gb760, 1, none⟩) (Kd.R_far (p := ⟨gb760, 0, none⟩) (Kd.R_types HO751.out BK760.out (by decide)) (fun _ hk => hk.2) (.int .i64 t752)) (fun _ hk => hk.2) (.slice Ao37 t753.length co37)) (fun _ hk => hk.2) (.slice Ao39 t756.length co39)) (fun _ h_ => h_.1)))) hb); replace HO755 := ak (Kd.R_below (rD ((Kd.R_mono (Kd.R_far (p := ⟨gb760, 2, none⟩) (Kd.R_far (p := ⟨gb760, 1, none⟩) (Kd.R_far (p := ⟨gb760, 0, none⟩) (Kd.R_types HO755.out BK760.out (by decide)) (fun _ hk => hk.2) (.int .i64 t752)) (fun _ hk => hk.2) (.slice Ao37 t753.length co37)) (fun _ hk => hk.2) (.slice Ao39 t756.length co39)) (fun _ h_ => h_.1)))) hb); replace HO758 := ak (Kd.R_below (rD ((Kd.R_mono (Kd.R_far (p := ⟨gb760, 2, none⟩) (Kd.R_far (p := ⟨gb760, 1, none⟩) (Kd.R_far (p := ⟨gb760, 0, none⟩) (Kd.R_types HO758.out BK760.out (by decide)) (fun _ hk => hk.2) (.int .i64 t752)) (fun _ hk => hk.2) (.slice Ao37 t753.length co37)) (fun _ hk => hk.2) (.slice Ao39 t756.length co39)) (fun _ h_ => h_.1)))) hb); replace BK720 := ak (blk_below (g := gb720) (o := .cells #[.int .i64 a0_0, .slice A0_1 l0_1.length c0_1, .slice A0_2 l0_2.length c0_2] 24 (0, 0)) (bF BK720) hb); replace BK721 := ak (blk_below (g := gb721) (o := .cells #[.int .i64 a1_0, .slice A1_1 l1_1.length c1_1, .slice A1_2 l1_2.length c1_2] 24 (0, 0)) (bF BK721) hb); replace BK737 := ak (blk_below (g := gb737) (o := .cells #[.int .i64 t729, .slice Ao23 t730.length co23, .slice Ao24 t733.length co24] 30 (0, 0)) (bF BK737) hb); replace BK760 := ak (blk_below (g := gb760) (o := .cells #[.int .i64 t752, .slice Ao37 t753.length co37, .slice Ao39 t756.length co39] 30 (0, 0)) (by (with_reducible repeat (first | refine blk_drewN ?_ _ | refine blk_drew ?_ | refine blk_alloc ?_ _)); refine blk_put (cs := #[.int .i64 t752, .slice Ao37 t753.length co37, .slice none 0 0]) ?_ 2 _ rfl; (with_reducible repeat (first | refine blk_drewN ?_ _ | refine blk_drew ?_ | refine blk_alloc ?_ _)); refine blk_put (cs := #[.int .i64 t752, .slice none 0 0, .slice none 0 0]) ?_ 1 _ rfl; (with_reducible repeat (first | refine blk_drewN ?_ _ | refine blk_drew ?_ | refine blk_alloc ?_ _)); refine blk_put (cs := #[.int .i64 0, .slice none 0 0, .slice none 0 0]) ?_ 0 _ rfl; (with_reducible repeat (first | refine blk_drewN ?_ _ | refine blk_drew ?_ | refine blk_alloc ?_ _)); exact BK760.out) hb); replace HB := kH _ hb; (try clear hb); (try clear hb2); (try clear hk); (try clear hi)))
 (try simp only [Act.put, List.setIfInBounds_toArray, List.set_cons_zero, List.set_cons_succ])
 go_cut [62] (fun v62 wc => ∃ (kq : Nat) (x62_9 : Bool), v62 = .bool x62_9 ∧ Aside0 (congoulaw04_CurvesMirrors.j0 kq t759 x62_9 a0_0 l0_1 l0_2 a1_0 l1_1 l1_2 t752 t753 t756 = some r) ∧ Aside0 (kq ≤ k) ∧ Aside0 (Kd.R (Kd.int .i64) 3 wc w.heap.size (fun k_ => some k_ ≠ ((.slice Ao39 t756.length co39) : Value).ownBlock) (.slice Ao37 t753.length co37) t753) ∧ Aside0 (Kd.R (Kd.int .i64) 3 wc w.heap.size (fun k_ => some k_ ≠ ((.slice Ao37 t753.length co37) : Value).ownBlock) (.slice Ao39 t756.length co39) t756) ∧ Aside0 (wc.heap[gb720]? = some (.cells #[.int .i64 a0_0, (.slice A0_1 l0_1.length c0_1), (.slice A0_2 l0_2.length c0_2)] 24 (0, 0))) ∧ Aside0 (wc.heap[gb721]? = some (.cells #[.int .i64 a1_0, (.slice A1_1 l1_1.length c1_1), (.slice A1_2 l1_2.length c1_2)] 24 (0, 0))) ∧ Aside0 (wc.heap[gb760]? = some (.cells #[.int .i64 t752, (.slice Ao37 t753.length co37), (.slice Ao39 t756.length co39)] 30 (0, 0))) ∧ Aside0 (Below w.heap.size w wc))
 case first =>
  have H := HC10.out
  clear HC10
  replace H := Option.bind_eq_some_iff.mp H
  obtain ⟨⟨t779, t780, t783⟩, A440, H⟩ := H
  replace H : ((congouref04_Mirror.f k a0_0 l0_1 l0_2).bind fun bt786 => ((congoulaw04_same.f k t779 t780 t783 bt786.1 bt786.2.1 bt786.2.2).bind fun t793 => (if t793 = true then (if t736 = 0 then ((congoulaw04_awake.f k).bind fun t794 => (congoulaw04_CurvesMirrors.j0 k t759 (!t794) a0_0 l0_1 l0_2 a1_0 l1_1 l1_2 t752 t753 t756)) else (congoulaw04_CurvesMirrors.j0 k t759 true a0_0 l0_1 l0_2 a1_0 l1_1 l1_2 t752 t753 t756)) else (congoulaw04_CurvesMirrors.j0 k t759 true a0_0 l0_1 l0_2 a1_0 l1_1 l1_2 t752 t753 t756)))) = some r := H
  have A44 := Aside0.mk A440
  clear A440
  replace H := Option.bind_eq_some_iff.mp H
  obtain ⟨⟨t786, t787, t790⟩, A450, H⟩ := H
  replace H : ((congoulaw04_same.f k t779 t780 t783 t786 t787 t790).bind fun t793 => (if t793 = true then (if t736 = 0 then ((congoulaw04_awake.f k).bind fun t794 => (congoulaw04_CurvesMirrors.j0 k t759 (!t794) a0_0 l0_1 l0_2 a1_0 l1_1 l1_2 t752 t753 t756)) else (congoulaw04_CurvesMirrors.j0 k t759 true a0_0 l0_1 l0_2 a1_0 l1_1 l1_2 t752 t753 t756)) else (congoulaw04_CurvesMirrors.j0 k t759 true a0_0 l0_1 l0_2 a1_0 l1_1 l1_2 t752 t753 t756))) = some r := H
  have A45 := Aside0.mk A450
  clear A450
  replace H := Option.bind_eq_some_iff.mp H
  obtain ⟨t793, A460, H⟩ := H
  replace H : (if t793 = true then (if t736 = 0 then ((congoulaw04_awake.f k).bind fun t794 => (congoulaw04_CurvesMirrors.j0 k t759 (!t794) a0_0 l0_1 l0_2 a1_0 l1_1 l1_2 t752 t753 t756)) else (congoulaw04_CurvesMirrors.j0 k t759 true a0_0 l0_1 l0_2 a1_0 l1_1 l1_2 t752 t753 t756)) else (congoulaw04_CurvesMirrors.j0 k t759 true a0_0 l0_1 l0_2 a1_0 l1_1 l1_2 t752 t753 t756)) = some r := H
  have A46 := Aside0.mk A460
  clear A460
  by_cases c47 : t793 = true
  rotate_left
  ·replace c47 := Bool.eq_false_iff.mpr c47
   subst c47
   have H1 : (congoulaw04_CurvesMirrors.j0 k t759 true a0_0 l0_1 l0_2 a1_0 l1_1 l1_2 t752 t753 t756) = some r := by rw [if_neg (show ¬ (false = true) by decide)] at H; exact H
   clear H
   have H := H1
   clear H1
   have H' := Aside0.mk H
   clear H
   try go_wp2
   replace HO725 := ak (Kd.R_drew HO725.out)
   replace HO728 := ak (Kd.R_drew HO728.out)
   replace HO732 := ak (Kd.R_drew HO732.out)
   replace HO735 := ak (Kd.R_drew HO735.out)
   replace HO741 := ak (Kd.R_drew HO741.out)
   replace HO744 := ak (Kd.R_drew HO744.out)
   replace HO748 := ak (Kd.R_drew HO748.out)
   replace HO751 := ak (Kd.R_drew HO751.out)
   replace HO755 := ak (Kd.R_drew HO755.out)
   replace HO758 := ak (Kd.R_drew HO758.out)
   replace BK720 := kd BK720
   replace BK721 := kd BK721
   replace BK737 := kd BK737
   replace BK760 := kd BK760
   replace HB := ak (below_drew1 HB.out)
   refine sS (n := 14) (S := fun w' => w'.cell? ⟨gb737, 0, none⟩ = some (.int .i64 t729) ∧ w'.cell? ⟨gb737, 1, none⟩ = some (.slice Ao23 t730.length co23) ∧ w'.cell? ⟨gb737, 2, none⟩ = some (.slice Ao24 t733.length co24) ∧ w'.cell? ⟨gb720, 0, none⟩ = some (.int .i64 a0_0) ∧ w'.cell? ⟨gb720, 1, none⟩ = some (.slice A0_1 l0_1.length c0_1) ∧ w'.cell? ⟨gb720, 2, none⟩ = some (.slice A0_2 l0_2.length c0_2)) (ds := []) ⟨bc BK737 0, bc BK737 1, bc BK737 2, bc BK720 0, bc BK720 1, bc BK720 2⟩ (fun hHeld => ?_); refine with_tabW congoulaw04_CurvesMirrors.tab5 congoulaw04_CurvesMirrors.bits5 (fun HT_ HW_ => ?_)
   generalize w43.drew = w67 at HO725 HO728 HO732 HO735 HO741 HO744 HO748 HO751 HO755 HO758 BK720 BK721 BK737 BK760 HB hHeld ⊢
   refine tS 0 49 14 1 ?_
   refine tS 2 51 14 5 ?_
   refine one_ (i := 1) (N := some 50) (ba 14 7) rfl rfl (one_of HT_.out (by kernel_rfl)) (by decide) (fun K hK => ?_)
   refine gC Try.func30 #[.agg #[.int .i64 t729, .slice Ao23 t730.length co23, .slice Ao24 t733.length co24]] ?_
   with_reducible refine (congoulaw04_own.calls t729 (fun k_ => some k_ = (.slice Ao23 t730.length co23 : Value).ownBlock) (.slice Ao23 t730.length co23) t730 (fun k_ => some k_ = (.slice Ao24 t733.length co24 : Value).ownBlock) (.slice Ao24 t733.length co24) t733 t779 t780 t783 w _ ?side1 ?side2 ?side3 ?side4 ?side5 A44.out).mono ?_
   (case side1 => repeat (first | (with_reducible first | exact HB.out | apply below_alloc | apply pw_below_drewN | apply below_drew1 | refine below_set ?_ GE720.out | refine below_set ?_ GE721.out | refine below_set ?_ GE737.out | refine below_set ?_ GE760.out) | exact HB.out))
   (case side2 => exact Kd.R_tight rfl HO732.out)
   (case side3 => exact fun k_ e_ => (HO732.out.1 k_ e_.symm).2.2.1)
   (case side4 => exact Kd.R_tight rfl HO735.out)
   (case side5 => exact fun k_ e_ => (HO735.out.1 k_ e_.symm).2.2.1)
   rintro e w68 ⟨v781, v784, rfl, ho0, ho1, hb, hkp⟩
   refine ⟨_, rfl, ?_⟩
   have n0_ := ak (blk_kept (bkC BK720) hkp (fun hs_ => Or.elim hs_ (fun e_ => (fun e_ => (Kd.R_ne HO732.out BK720.out (by decide)) e_) e_) (fun e_ => (fun e_ => (Kd.R_ne HO735.out BK720.out (by decide)) e_) e_)))
   have n1_ := ak (blk_kept (bkC BK721) hkp (fun hs_ => Or.elim hs_ (fun e_ => (fun e_ => (Kd.R_ne HO732.out BK721.out (by decide)) e_) e_) (fun e_ => (fun e_ => (Kd.R_ne HO735.out BK721.out (by decide)) e_) e_)))
   have n2_ := ak (Kd.R_mono (ok' := fun k_ => nb k_ (.slice Ao17 t726.length co17) ∧ nb k_ v740 ∧ nb k_ v743 ∧ nb k_ v747 ∧ nb k_ v750 ∧ nb k_ (.slice Ao37 t753.length co37) ∧ nb k_ (.slice Ao39 t756.length co39) ∧ nb k_ v781 ∧ nb k_ v784) (Kd.R_keptB (HO725.out) hkp (fun k_ hk_ hs_ => Or.elim hs_ (fun e_ => (hk_.2.1) e_) (fun e_ => (hk_.2.2.1) e_))) (fun k_ hk_ => ⟨hk_.1.1, hk_.1.2.2.2.1, hk_.1.2.2.2.2.1, hk_.1.2.2.2.2.2.1, hk_.1.2.2.2.2.2.2.1, hk_.1.2.2.2.2.2.2.2.1, hk_.1.2.2.2.2.2.2.2.2, fun e_ => Or.elim (ho0.1 k_ e_.symm).1 (fun hs_ => hk_.2.1 hs_) (fun hn_ => Nat.not_le.2 hk_.2.2 hn_), fun e_ => Or.elim (ho1.1 k_ e_.symm).1 (fun hs_ => hk_.2.1 hs_) (fun hn_ => Nat.not_le.2 hk_.2.2 hn_)⟩))
   have n3_ := ak (Kd.R_mono (ok' := fun k_ => nb k_ (.slice Ao16 t723.length co16) ∧ nb k_ v740 ∧ nb k_ v743 ∧ nb k_ v747 ∧ nb k_ v750 ∧ nb k_ (.slice Ao37 t753.length co37) ∧ nb k_ (.slice Ao39 t756.length co39) ∧ nb k_ v781 ∧ nb k_ v784) (Kd.R_keptB (HO728.out) hkp (fun k_ hk_ hs_ => Or.elim hs_ (fun e_ => (hk_.2.1) e_) (fun e_ => (hk_.2.2.1) e_))) (fun k_ hk_ => ⟨hk_.1.1, hk_.1.2.2.2.1, hk_.1.2.2.2.2.1, hk_.1.2.2.2.2.2.1, hk_.1.2.2.2.2.2.2.1, hk_.1.2.2.2.2.2.2.2.1, hk_.1.2.2.2.2.2.2.2.2, fun e_ => Or.elim (ho0.1 k_ e_.symm).1 (fun hs_ => hk_.2.1 hs_) (fun hn_ => Nat.not_le.2 hk_.2.2 hn_), fun e_ => Or.elim (ho1.1 k_ e_.symm).1 (fun hs_ => hk_.2.1 hs_) (fun hn_ => Nat.not_le.2 hk_.2.2 hn_)⟩))
   have n4_ := ak (blk_kept (bkC BK737) hkp (fun hs_ => Or.elim hs_ (fun e_ => (fun e_ => (Kd.R_ne HO732.out BK737.out (by decide)) e_) e_) (fun e_ => (fun e_ => (Kd.R_ne HO735.out BK737.out (by decide)) e_) e_)))
   have n5_ := ak (Kd.R_mono (ok' := fun k_ => nb k_ (.slice Ao16 t723.length co16) ∧ nb k_ (.slice Ao17 t726.length co17) ∧ nb k_ v743 ∧ nb k_ v747 ∧ nb k_ v750 ∧ nb k_ (.slice Ao37 t753.length co37) ∧ nb k_ (.slice Ao39 t756.length co39) ∧ nb k_ v781 ∧ nb k_ v784) (Kd.R_keptB (HO741.out) hkp (fun k_ hk_ hs_ => Or.elim hs_ (fun e_ => (hk_.2.2.1) e_) (fun e_ => (hk_.2.2.2.1) e_))) (fun k_ hk_ => ⟨hk_.1.1, hk_.1.2.1, hk_.1.2.2.2.2.1, hk_.1.2.2.2.2.2.1, hk_.1.2.2.2.2.2.2.1, hk_.1.2.2.2.2.2.2.2.1, hk_.1.2.2.2.2.2.2.2.2, fun e_ => Or.elim (ho0.1 k_ e_.symm).1 (fun hs_ => hk_.2.1 hs_) (fun hn_ => Nat.not_le.2 hk_.2.2 hn_), fun e_ => Or.elim (ho1.1 k_ e_.symm).1 (fun hs_ => hk_.2.1 hs_) (fun hn_ => Nat.not_le.2 hk_.2.2 hn_)⟩))
   have n6_ := ak (Kd.R_mono (ok' := fun k_ => nb k_ (.slice Ao16 t723.length co16) ∧ nb k_ (.slice Ao17 t726.length co17) ∧ nb k_ v740 ∧ nb k_ v747 ∧ nb k_ v750 ∧ nb k_ (.slice Ao37 t753.length co37) ∧ nb k_ (.slice Ao39 t756.length co39) ∧ nb k_ v781 ∧ nb k_ v784) (Kd.R_keptB (HO744.out) hkp (fun k_ hk_ hs_ => Or.elim hs_ (fun e_ => (hk_.2.2.1) e_) (fun e_ => (hk_.2.2.2.1) e_))) (fun k_ hk_ => ⟨hk_.1.1, hk_.1.2.1, hk_.1.2.2.2.2.1, hk_.1.2.2.2.2.2.1, hk_.1.2.2.2.2.2.2.1, hk_.1.2.2.2.2.2.2.2.1, hk_.1.2.2.2.2.2.2.2.2, fun e_ => Or.elim (ho0.1 k_ e_.symm).1 (fun hs_ => hk_.2.1 hs_) (fun hn_ => Nat.not_le.2 hk_.2.2 hn_), fun e_ => Or.elim (ho1.1 k_ e_.symm).1 (fun hs_ => hk_.2.1 hs_) (fun hn_ => Nat.not_le.2 hk_.2.2 hn_)⟩))
   have n7_ := ak (Kd.R_mono (ok' := fun k_ => nb k_ (.slice Ao16 t723.length co16) ∧ nb k_ (.slice Ao17 t726.length co17) ∧ nb k_ v740 ∧ nb k_ v743 ∧ nb k_ v750 ∧ nb k_ (.slice Ao37 t753.length co37) ∧ nb k_ (.slice Ao39 t756.length co39) ∧ nb k_ v781 ∧ nb k_ v784) (Kd.R_keptB (HO748.out) hkp (fun k_ hk_ hs_ => Or.elim hs_ (fun e_ => (hk_.2.2.1) e_) (fun e_ => (hk_.2.2.2.1) e_))) (fun k_ hk_ => ⟨hk_.1.1, hk_.1.2.1, hk_.1.2.2.2.2.1, hk_.1.2.2.2.2.2.1, hk_.1.2.2.2.2.2.2.1, hk_.1.2.2.2.2.2.2.2.1, hk_.1.2.2.2.2.2.2.2.2, fun e_ => Or.elim (ho0.1 k_ e_.symm).1 (fun hs_ => hk_.2.1 hs_) (fun hn_ => Nat.not_le.2 hk_.2.2 hn_), fun e_ => Or.elim (ho1.1 k_ e_.symm).1 (fun hs_ => hk_.2.1 hs_) (fun hn_ => Nat.not_le.2 hk_.2.2 hn_)⟩))
   have n8_ := ak (Kd.R_mono (ok' := fun k_ => nb k_ (.slice Ao16 t723.length co16) ∧ nb k_ (.slice Ao17 t726.length co17) ∧ nb k_ v740 ∧ nb k_ v743 ∧ nb k_ v747 ∧ nb k_ (.slice Ao37 t753.length co37) ∧ nb k_ (.slice Ao39 t756.length co39) ∧ nb k_ v781 ∧ nb k_ v784) (Kd.R_keptB (HO751.out) hkp (fun k_ hk_ hs_ => Or.elim hs_ (fun e_ => (hk_.2.2.1) e_) (fun e_ => (hk_.2.2.2.1) e_))) (fun k_ hk_ => ⟨hk_.1.1, hk_.1.2.1, hk_.1.2.2.2.2.1, hk_.1.2.2.2.2.2.1, hk_.1.2.2.2.2.2.2.1, hk_.1.2.2.2.2.2.2.2.1, hk_.1.2.2.2.2.2.2.2.2, fun e_ => Or.elim (ho0.1 k_ e_.symm).1 (fun hs_ => hk_.2.1 hs_) (fun hn_ => Nat.not_le.2 hk_.2.2 hn_), fun e_ => Or.elim (ho1.1 k_ e_.symm).1 (fun hs_ => hk_.2.1 hs_) (fun hn_ => Nat.not_le.2 hk_.2.2 hn_)⟩))
   have n9_ := ak (Kd.R_mono (ok' := fun k_ => nb k_ (.slice Ao16 t723.length co16) ∧ nb k_ (.slice Ao17 t726.length co17) ∧ nb k_ v740 ∧ nb k_ v743 ∧ nb k_ v747 ∧ nb k_ v750 ∧ nb k_ (.slice Ao39 t756.length co39) ∧ nb k_ v781 ∧ nb k_ v784) (Kd.R_keptB (HO755.out) hkp (fun k_ hk_ hs_ => Or.elim hs_ (fun e_ => (hk_.2.2.1) e_) (fun e_ => (hk_.2.2.2.1) e_))) (fun k_ hk_ => ⟨hk_.1.1, hk_.1.2.1, hk_.1.2.2.2.2.1, hk_.1.2.2.2.2.2.1, hk_.1.2.2.2.2.2.2.1, hk_.1.2.2.2.2.2.2.2.1, hk_.1.2.2.2.2.2.2.2.2, fun e_ => Or.elim (ho0.1 k_ e_.symm).1 (fun hs_ => hk_.2.1 hs_) (fun hn_ => Nat.not_le.2 hk_.2.2 hn_), fun e_ => Or.elim (ho1.1 k_ e_.symm).1 (fun hs_ => hk_.2.1 hs_) (fun hn_ => Nat.not_le.2 hk_.2.2 hn_)⟩))
   have n10_ := ak (Kd.R_mono (ok' := fun k_ => nb k_ (.slice Ao16 t723.length co16) ∧ nb k_ (.slice Ao17 t726.length co17) ∧ nb k_ v740 ∧ nb k_ v743 ∧ nb k_ v747 ∧ nb k_ v750 ∧ nb k_ (.slice Ao37 t753.length co37) ∧ nb k_ v781 ∧ nb k_ v784) (Kd.R_keptB (HO758.out) hkp (fun k_ hk_ hs_ => Or.elim hs_ (fun e_ => (hk_.2.2.1) e_) (fun e_ => (hk_.2.2.2.1) e_))) (fun k_ hk_ => ⟨hk_.1.1, hk_.1.2.1, hk_.1.2.2.2.2.1, hk_.1.2.2.2.2.2.1, hk_.1.2.2.2.2.2.2.1, hk_.1.2.2.2.2.2.2.2.1, hk_.1.2.2.2.2.2.2.2.2, fun e_ => Or.elim (ho0.1 k_ e_.symm).1 (fun hs_ => hk_.2.1 hs_) (fun hn_ => Nat.not_le.2 hk_.2.2 hn_), fun e_ => Or.elim (ho1.1 k_ e_.symm).1 (fun hs_ => hk_.2.1 hs_) (fun hn_ => Nat.not_le.2 hk_.2.2 hn_)⟩))
   have n11_ := ak (blk_kept (bkC BK760) hkp (fun hs_ => Or.elim hs_ (fun e_ => (fun e_ => (Kd.R_ne HO732.out BK760.out (by decide)) e_) e_) (fun e_ => (fun e_ => (Kd.R_ne HO735.out BK760.out (by decide)) e_) e_)))
   have n12_ := ak (Kd.R_mono (ok' := fun k_ => nb k_ v784 ∧ nb k_ (.slice Ao16 t723.length co16) ∧ nb k_ (.slice Ao17 t726.length co17) ∧ nb k_ v740 ∧ nb k_ v743 ∧ nb k_ v747 ∧ nb k_ v750 ∧ nb k_ (.slice Ao37 t753.length co37) ∧ nb k_ (.slice Ao39 t756.length co39)) ho0 (fun k_ hk_ => ⟨hk_.2, Or.elim hk_.1 (fun hs_ => Or.elim hs_ (fun hs_ => fun e_ => (((HO725.out).1 k_ e_.symm).2.1) hs_) (fun hs_ => fun e_ => (((HO725.out).1 k_ e_.symm).2.2.1) hs_)) (fun hn_ => (Kd.fresh' (Kd.R_lt (rC HO725)) k_ hn_)), Or.elim hk_.1 (fun hs_ => Or.elim hs_ (fun hs_ => fun e_ => (((HO728.out).1 k_ e_.symm).2.1) hs_) (fun hs_ => fun e_ => (((HO728.out).1 k_ e_.symm).2.2.1) hs_)) (fun hn_ => (Kd.fresh' (Kd.R_lt (rC HO728)) k_ hn_)), Or.elim hk_.1 (fun hs_ => Or.elim hs_ (fun hs_ => fun e_ => (((HO741.out).1 k_ e_.symm).2.2.1) hs_) (fun hs_ => fun e_ => (((HO741.out).1 k_ e_.symm).2.2.2.1) hs_)) (fun hn_ => (Kd.fresh' (Kd.R_lt (rC HO741)) k_ hn_)), Or.elim hk_.1 (fun hs_ => Or.elim hs_ (fun hs_ => fun e_ => (((HO744.out).1 k_ e_.symm).2.2.1) hs_) (fun hs_ => fun e_ => (((HO744.out).1 k_ e_.symm).2.2.2.1) hs_)) (fun hn_ => (Kd.fresh' (Kd.R_lt (rC HO744)) k_ hn_)), Or.elim hk_.1 (fun hs_ => Or.elim hs_ (fun hs_ => fun e_ => (((HO748.out).1 k_ e_.symm).2.2.1) hs_) (fun hs_ => fun e_ => (((HO748.out).1 k_ e_.symm).2.2.2.1) hs_)) (fun hn_ => (Kd.fresh' (Kd.R_lt (rC HO748)) k_ hn_)), Or.elim hk_.1 (fun hs_ => Or.elim hs_ (fun hs_ => fun e_ => (((HO751.out).1 k_ e_.symm).2.2.1) hs_) (fun hs_ => fun e_ => (((HO751.out).1 k_ e_.symm).2.2.2.1) hs_)) (fun hn_ => (Kd.fresh' (Kd.R_lt (rC HO751)) k_ hn_)), Or.elim hk_.1 (fun hs_ => Or.elim hs_ (fun hs_ => fun e_ => (((HO755.out).1 k_ e_.symm).2.2.1) hs_) (fun hs_ => fun e_ => (((HO755.out).1 k_ e_.symm).2.2.2.1) hs_)) (fun hn_ => (Kd.fresh' (Kd.R_lt (rC HO755)) k_ hn_)), Or.elim hk_.1 (fun hs_ => Or.elim hs_ (fun hs_ => fun e_ => (((HO758.out).1 k_ e_.symm).2.2.1) hs_) (fun hs_ => fun e_ => (((HO758.out).1 k_ e_.symm).2.2.2.1) hs_)) (fun hn_ => (Kd.fresh' (Kd.R_lt (rC HO758)) k_ hn_))⟩))
   have n13_ := ak (Kd.R_mono (ok' := fun k_ => nb k_ v781 ∧ nb k_ (.slice Ao16 t723.length co16) ∧ nb k_ (.slice Ao17 t726.length co17) ∧ nb k_ v740 ∧ nb k_ v743 ∧ nb k_ v747 ∧ nb k_ v750 ∧ nb k_ (.slice Ao37 t753.length co37) ∧ nb k_ (.slice Ao39 t756.length co39)) ho1 (fun k_ hk_ => ⟨hk_.2, Or.elim hk_.1 (fun hs_ => Or.elim hs_ (fun hs_ => fun e_ => (((HO725.out).1 k_ e_.symm).2.1) hs_) (fun hs_ => fun e_ => (((HO725.out).1 k_ e_.symm).2.2.1) hs_)) (fun hn_ => (Kd.fresh' (Kd.R_lt (rC HO725)) k_ hn_)), Or.elim hk_.1 (fun hs_ => Or.elim hs_ (fun hs_ => fun e_ => (((HO728.out).1 k_ e_.symm).2.1) hs_) (fun hs_ => fun e_ => (((HO728.out).1 k_ e_.symm).2.2.1) hs_)) (fun hn_ => (Kd.fresh' (Kd.R_lt (rC HO728)) k_ hn_)), Or.elim hk_.1 (fun hs_ => Or.elim hs_ (fun hs_ => fun e_ => (((HO741.out).1 k_ e_.symm).2.2.1) hs_) (fun hs_ => fun e_ => (((HO741.out).1 k_ e_.symm).2.2.2.1) hs_)) (fun hn_ => (Kd.fresh' (Kd.R_lt (rC HO741)) k_ hn_)), Or.elim hk_.1 (fun hs_ => Or.elim hs_ (fun hs_ => fun e_ => (((HO744.out).1 k_ e_.symm).2.2.1) hs_) (fun hs_ => fun e_ => (((HO744.out).1 k_ e_.symm).2.2.2.1) hs_)) (fun hn_ => (Kd.fresh' (Kd.R_lt (rC HO744)) k_ hn_)), Or.elim hk_.1 (fun hs_ => Or.elim hs_ (fun hs_ => fun e_ => (((HO748.out).1 k_ e_.symm).2.2.1) hs_) (fun hs_ => fun e_ => (((HO748.out).1 k_ e_.symm).2.2.2.1) hs_)) (fun hn_ => (Kd.fresh' (Kd.R_lt (rC HO748)) k_ hn_)), Or.elim hk_.1 (fun hs_ => Or.elim hs_ (fun hs_ => fun e_ => (((HO751.out).1 k_ e_.symm).2.2.1) hs_) (fun hs_ => fun e_ => (((HO751.out).1 k_ e_.symm).2.2.2.1) hs_)) (fun hn_ => (Kd.fresh' (Kd.R_lt (rC HO751)) k_ hn_)), Or.elim hk_.1 (fun hs_ => Or.elim hs_ (fun hs_ => fun e_ => (((HO755.out).1 k_ e_.symm).2.2.1) hs_) (fun hs_ => fun e_ => (((HO755.out).1 k_ e_.symm).2.2.2.1) hs_)) (fun hn_ => (Kd.fresh' (Kd.R_lt (rC HO755)) k_ hn_)), Or.elim hk_.1 (fun hs_ => Or.elim hs_ (fun hs_ => fun e_ => (((HO758.out).1 k_ e_.symm).2.2.1) hs_) (fun hs_ => fun e_ => (((HO758.out).1 k_ e_.symm).2.2.2.1) hs_)) (fun hn_ => (Kd.fresh' (Kd.R_lt (rC HO758)) k_ hn_))⟩))
   have n14_ := ak (hb)
   clear BK720
   clear BK721
   clear HO725
   clear HO728
   clear BK737
   clear HO741
   clear HO744
   clear HO748
   clear HO751
   clear HO755
   clear HO758
   clear BK760
   clear HB
   clear HO732
   clear HO735
   have BK720 := n0_
   have BK721 := n1_
   have HO725 := n2_
   have HO728 := n3_
   have BK737 := n4_
   have HO741 := n5_
   have HO744 := n6_
   have HO748 := n7_
   have HO751 := n8_
   have HO755 := n9_
   have HO758 := n10_
   have BK760 := n11_
   have HO782 := n12_
   have HO785 := n13_
   have HB := n14_
   clear n0_ n1_ n2_ n3_ n4_ n5_ n6_ n7_ n8_ n9_ n10_ n11_ n12_ n13_ n14_
   (try clear hb)
   (try clear hkp)
   (try clear ho0)
   (try clear ho1)
   refine hK.out _ _ ⟨bc BK737 0, bc BK737 1, bc BK737 2, bc BK720 0, bc BK720 1, bc BK720 2⟩ (fun hHeld => ?_)
   clear hK K
   refine norm_ (a' := ?_) ?_ ?_
   rotate_left
   ·show Act.put _ (some 50) _ = _
    simp only [Act.put, List.setIfInBounds_toArray, List.set_cons_zero, List.set_cons_succ, i64_w, i32_w]
    rfl
   refine one_ (i := 3) (N := some 52) (ba 14 15) rfl rfl (one_of HT_.out (by kernel_rfl)) (by decide) (fun K hK => ?_)
   refine gC Try.func36 #[.agg #[.int .i64 a0_0, .slice A0_1 l0_1.length c0_1, .slice A0_2 l0_2.length c0_2]] ?_
   with_reducible refine (congouref04_Mirror.calls k a0_0 _ _ l0_1 _ _ l0_2 t786 t787 t790 _ ?side1 ?side2 ?side3 ?side4 A45.out).mono ?_
   (case side1 => exact kC HR0_1)
   (case side2 => exact HC0_1.out)
   (case side3 => exact kC HR0_2)
   (case side4 => exact HC0_2.out)
   rintro e w69 ⟨v788, v791, rfl, ho0, ho1, hb⟩
   refine ⟨_, rfl, ?_⟩
   have HO789 := ak (Kd.R_lower (Kd.R_new' (Kd.R_new' (Kd.R_new' (Kd.R_new' (Kd.R_new' (Kd.R_new' (Kd.R_new' (Kd.R_new' (Kd.R_new' (Kd.R_new' ho0 (Kd.R_lt (rC HO725))) (Kd.R_lt (rC HO728))) (Kd.R_lt (rC HO741))) (Kd.R_lt (rC HO744))) (Kd.R_lt (rC HO748))) (Kd.R_lt (rC HO751))) (Kd.R_lt (rC HO755))) (Kd.R_lt (rC HO758))) (Kd.R_lt (rC HO782))) (Kd.R_lt (rC HO785))) (below_size (hbC _)))
   have HO792 := ak (Kd.R_lower (Kd.R_new' (Kd.R_new' (Kd.R_new' (Kd.R_new' (Kd.R_new' (Kd.R_new' (Kd.R_new' (Kd.R_new' (Kd.R_new' (Kd.R_new' ho1 (Kd.R_lt (rC HO725))) (Kd.R_lt (rC HO728))) (Kd.R_lt (rC HO741))) (Kd.R_lt (rC HO744))) (Kd.R_lt (rC HO748))) (Kd.R_lt (rC HO751))) (Kd.R_lt (rC HO755))) (Kd.R_lt (rC HO758))) (Kd.R_lt (rC HO782))) (Kd.R_lt (rC HO785))) (below_size (hbC _)))
   replace HO725 := kT HO725 hb ho0 ho1
   replace HO728 := kT HO728 hb ho0 ho1
   replace HO741 := kT HO741 hb ho0 ho1
   replace HO744 := kT HO744 hb ho0 ho1
   replace HO748 := kT HO748 hb ho0 ho1
   replace HO751 := kT HO751 hb ho0 ho1
   replace HO755 := kT HO755 hb ho0 ho1
   replace HO758 := kT HO758 hb ho0 ho1
   replace HO782 := kT HO782 hb ho0 ho1
   replace HO785 := kT HO785 hb ho0 ho1
   replace BK720 := kB BK720 hb
   replace BK721 := kB BK721 hb
   replace BK737 := kB BK737 hb
   replace BK760 := kB BK760 hb
   replace HB := kH _ hb
   (try clear hb)
   (try clear hb2)
   (try clear hk)
   (try clear hi)
   (try clear ho0)
   (try clear ho1)
   obtain ⟨Ao70, co70, eo70⟩ := Kd.R_slice HO782.out
   (first | subst eo70 | (injection eo70 with f1_ f2_ f3_; have f4_ := f1_.symm; have f5_ := f3_.symm; clear f1_ f2_ f3_; subst f4_; subst f5_))
   obtain ⟨Ao71, co71, eo71⟩ := Kd.R_slice HO785.out
   (first | subst eo71 | (injection eo71 with f1_ f2_ f3_; have f4_ := f1_.symm; have f5_ := f3_.symm; clear f1_ f2_ f3_; subst f4_; subst f5_))
   obtain ⟨Ao72, co72, eo72⟩ := Kd.R_slice HO789.out
   (first | subst eo72 | (injection eo72 with f1_ f2_ f3_; have f4_ := f1_.symm; have f5_ := f3_.symm; clear f1_ f2_ f3_; subst f4_; subst f5_))
   obtain ⟨Ao73, co73, eo73⟩ := Kd.R_slice HO792.out
   (first | subst eo73 | (injection eo73 with f1_ f2_ f3_; have f4_ := f1_.symm; have f5_ := f3_.symm; clear f1_ f2_ f3_; subst f4_; subst f5_))
   refine hK.out _ _ ⟨bc BK737 0, bc BK737 1, bc BK737 2, bc BK720 0, bc BK720 1, bc BK720 2⟩ (fun hHeld => ?_)
   clear hK K
   refine norm_ (a' := ?_) ?_ ?_
   rotate_left
   ·show Act.put _ (some 52) _ = _
    simp only [Act.put, List.setIfInBounds_toArray, List.set_cons_zero, List.set_cons_succ, i64_w, i32_w]
    rfl
   refine one_ (i := 4) (N := some 53) (ba 14 31) rfl rfl (one_of HT_.out (by kernel_rfl)) (by decide) (fun K hK => ?_)
   refine gC Try.func31 #[.agg #[.int .i64 t779, .slice Ao70 t780.length co70, .slice Ao71 t783.length co71], .agg #[.int .i64 t786, .slice Ao72 t787.length co72, .slice Ao73 t790.length co73]] ?_
   with_reducible refine (congoulaw04_same.calls k t779 _ _ t780 _ _ t783 t786 _ _ t787 _ _ t790 false _ ?side1 ?side2 ?side3 ?side4 ?side5 ?side6 ?side7 ?side8 A46.out).mono ?_
   (case side1 => exact kD (Kd.R_reads' HO782.out).2.2)
   (case side2 => exact (Kd.R_reads' HO782.out).2.1)
   (case side3 => exact kD (Kd.R_reads' HO785.out).2.2)
   (case side4 => exact (Kd.R_reads' HO785.out).2.1)
   (case side5 => exact kD (Kd.R_reads' HO789.out).2.2)
   (case side6 => exact (Kd.R_reads' HO789.out).2.1)
   (case side7 => exact kD (Kd.R_reads' HO792.out).2.2)
   (case side8 => exact (Kd.R_reads' HO792.out).2.1)
   rintro e w74 ⟨rfl, hb⟩
   refine ⟨_, rfl, ?_⟩
   replace HO725 := kO HO725 hb
   replace HO728 := kO HO728 hb
   replace HO741 := kO HO741 hb
   replace HO744 := kO HO744 hb
   replace HO748 := kO HO748 hb
   replace HO751 := kO HO751 hb
   replace HO755 := kO HO755 hb
   replace HO758 := kO HO758 hb
   replace HO782 := kO HO782 hb
   replace HO785 := kO HO785 hb
   replace HO789 := kO HO789 hb
   replace HO792 := kO HO792 hb
   replace BK720 := kB BK720 hb
   replace BK721 := kB BK721 hb
   replace BK737 := kB BK737 hb
   replace BK760 := kB BK760 hb
   replace HB := kH _ hb
   (try clear hb)
   (try clear hb2)
   (try clear hk)
   (try clear hi)
   refine hK.out _ _ ⟨bc BK737 0, bc BK737 1, bc BK737 2, bc BK720 0, bc BK720 1, bc BK720 2⟩ (fun hHeld => ?_)
   clear hK K
   refine norm_ (a' := ?_) ?_ ?_
   rotate_left
   ·show Act.put _ (some 53) _ = _
    simp only [Act.put, List.setIfInBounds_toArray, List.set_cons_zero, List.set_cons_succ, i64_w, i32_w]
    rfl
   refine pS 5 54 14 63 ?_
   refine pS 6 55 14 127 ?_
   refine uS 7 56 14 255 ?_
   refine uS 8 57 14 511 ?_
   refine pS 9 58 14 1023 ?_
   refine pS 10 59 14 2047 ?_
   refine uS 11 60 14 4095 ?_
   refine uS 12 61 14 8191 ?_
   refine pS 13 62 14 16383 ?_
   refine done_ (done_of HT_.out (by kernel_rfl)) ?_
   try go_wp2
   go_meet
   case rel => exact ⟨_, (true), (by first | rfl | (simp; done) | (simp [*]; done)), H', ⟨by first | omega | exact Nat.le_refl _⟩, ⟨rD (Kd.R_mono HO755.out (fun _ hk => hk.1.1.2.2.2.2.2.2.1))⟩, ⟨rD (Kd.R_mono HO758.out (fun _ hk => hk.1.1.2.2.2.2.2.2.1))⟩, ⟨bkC BK720⟩, ⟨bkC BK721⟩, ⟨bkC BK760⟩, ⟨hbC _⟩⟩
  subst c47
  have H1 : (if t736 = 0 then ((congoulaw04_awake.f k).bind fun t794 => (congoulaw04_CurvesMirrors.j0 k t759 (!t794) a0_0 l0_1 l0_2 a1_0 l1_1 l1_2 t752 t753 t756)) else (congoulaw04_CurvesMirrors.j0 k t759 true a0_0 l0_1 l0_2 a1_0 l1_1 l1_2 t752 t753 t756)) = some r := by rw [if_pos rfl] at H; exact H
  clear H
  have H := H1
  clear H1
  by_cases c48 : t736 = 0
  rotate_left
  ·rw [if_neg c48] at H
   have c48b0 : (t736 == 0) = false := beq_eq_false_iff_ne.mpr c48
   have c48b1 : (t736 != 0) = true := bne_iff_ne.mpr c48
   (first | rw [c48b0] | (simp only [i64_w, i32_w]; rw [c48b0]) | skip)
   have H' := Aside0.mk H
   clear H
   try go_wp2
   replace HO725 := ak (Kd.R_drew HO725.out)
   replace HO728 := ak (Kd.R_drew HO728.out)
   replace HO732 := ak (Kd.R_drew HO732.out)
   replace HO735 := ak (Kd.R_drew HO735.out)
   replace HO741 := ak (Kd.R_drew HO741.out)
   replace HO744 := ak (Kd.R_drew HO744.out)
   replace HO748 := ak (Kd.R_drew HO748.out)
   replace HO751 := ak (Kd.R_drew HO751.out)
   replace HO755 := ak (Kd.R_drew HO755.out)
   replace HO758 := ak (Kd.R_drew HO758.out)
   replace BK720 := kd BK720
   replace BK721 := kd BK721
   replace BK737 := kd BK737
   replace BK760 := kd BK760
   replace HB := ak (below_drew1 HB.out)
   refine sS (n := 14) (S := fun w' => w'.cell? ⟨gb737, 0, none⟩ = some (.int .i64 t729) ∧ w'.cell? ⟨gb737, 1, none⟩ = some (.slice Ao23 t730.length co23) ∧ w'.cell? ⟨gb737, 2, none⟩ = some (.slice Ao24 t733.length co24) ∧ w'.cell? ⟨gb720, 0, none⟩ = some (.int .i64 a0_0) ∧ w'.cell? ⟨gb720, 1, none⟩ = some (.slice A0_1 l0_1.length c0_1) ∧ w'.cell? ⟨gb720, 2, none⟩ = some (.slice A0_2 l0_2.length c0_2)) (ds := []) ⟨bc BK737 0, bc BK737 1, bc BK737 2, bc BK720 0, bc BK720 1, bc BK720 2⟩ (fun hHeld => ?_); refine with_tabW congoulaw04_CurvesMirrors.tab5 congoulaw04_CurvesMirrors.bits5 (fun HT_ HW_ => ?_)
   generalize w43.drew = w59 at HO725 HO728 HO732 HO735 HO741 HO744 HO748 HO751 HO755 HO758 BK720 BK721 BK737 BK760 HB hHeld ⊢
   refine tS 0 49 14 1 ?_
   refine tS 2 51 14 5 ?_
   refine one_ (i := 1) (N := some 50) (ba 14 7) rfl rfl (one_of HT_.out (by kernel_rfl)) (by decide) (fun K hK => ?_)
   refine gC Try.func30 #[.agg #[.int .i64 t729, .slice Ao23 t730.length co23, .slice Ao24 t733.length co24]] ?_
   with_reducible refine (congoulaw04_own.calls t729 (fun k_ => some k_ = (.slice Ao23 t730.length co23 : Value).ownBlock) (.slice Ao23 t730.length co23) t730 (fun k_ => some k_ = (.slice Ao24 t733.length co24 : Value).ownBlock) (.slice Ao24 t733.length co24) t733 t779 t780 t783 w _ ?side1 ?side2 ?side3 ?side4 ?side5 A44.out).mono ?_
   (case side1 => repeat (first | (with_reducible first | exact HB.out | apply below_alloc | apply pw_below_drewN | apply below_drew1 | refine below_set ?_ GE720.out | refine below_set ?_ GE721.out | refine below_set ?_ GE737.out | refine below_set ?_ GE760.out) | exact HB.out))
   (case side2 => exact Kd.R_tight rfl HO732.out)
   (case side3 => exact fun k_ e_ => (HO732.out.1 k_ e_.symm).2.2.1)
   (case side4 => exact Kd.R_tight rfl HO735.out)
   (case side5 => exact fun k_ e_ => (HO735.out.1 k_ e_.symm).2.2.1)
   rintro e w60 ⟨v781, v784, rfl, ho0, ho1, hb, hkp⟩
   refine ⟨_, rfl, ?_⟩
   have n0_ := ak (blk_kept (bkC BK720) hkp (fun hs_ => Or.elim hs_ (fun e_ => (fun e_ => (Kd.R_ne HO732.out BK720.out (by decide)) e_) e_) (fun e_ => (fun e_ => (Kd.R_ne HO735.out BK720.out (by decide)) e_) e_)))
   have n1_ := ak (blk_kept (bkC BK721) hkp (fun hs_ => Or.elim hs_ (fun e_ => (fun e_ => (Kd.R_ne HO732.out BK721.out (by decide)) e_) e_) (fun e_ => (fun e_ => (Kd.R_ne HO735.out BK721.out (by decide)) e_) e_)))
   have n2_ := ak (Kd.R_mono (ok' := fun k_ => nb k_ (.slice Ao17 t726.length co17) ∧ nb k_ v740 ∧ nb k_ v743 ∧ nb k_ v747 ∧ nb k_ v750 ∧ nb k_ (.slice Ao37 t753.length co37) ∧ nb k_ (.slice Ao39 t756.length co39) ∧ nb k_ v781 ∧ nb k_ v784) (Kd.R_keptB (HO725.out) hkp (fun k_ hk_ hs_ => Or.elim hs_ (fun e_ => (hk_.2.1) e_) (fun e_ => (hk_.2.2.1) e_))) (fun k_ hk_ => ⟨hk_.1.1, hk_.1.2.2.2.1, hk_.1.2.2.2.2.1, hk_.1.2.2.2.2.2.1, hk_.1.2.2.2.2.2.2.1, hk_.1.2.2.2.2.2.2.2.1, hk_.1.2.2.2.2.2.2.2.2, fun e_ => Or.elim (ho0.1 k_ e_.symm).1 (fun hs_ => hk_.2.1 hs_) (fun hn_ => Nat.not_le.2 hk_.2.2 hn_), fun e_ => Or.elim (ho1.1 k_ e_.symm).1 (fun hs_ => hk_.2.1 hs_) (fun hn_ => Nat.not_le.2 hk_.2.2 hn_)⟩))
   have n3_ := ak (Kd.R_mono (ok' := fun k_ => nb k_ (.slice Ao16 t723.length co16) ∧ nb k_ v740 ∧ nb k_ v743 ∧ nb k_ v747 ∧ nb k_ v750 ∧ nb k_ (.slice Ao37 t753.length co37) ∧ nb k_ (.slice Ao39 t756.length co39) ∧ nb k_ v781 ∧ nb k_ v784) (Kd.R_keptB (HO728.out) hkp (fun k_ hk_ hs_ => Or.elim hs_ (fun e_ => (hk_.2.1) e_) (fun e_ => (hk_.2.2.1) e_))) (fun k_ hk_ => ⟨hk_.1.1, hk_.1.2.2.2.1, hk_.1.2.2.2.2.1, hk_.1.2.2.2.2.2.1, hk_.1.2.2.2.2.2.2.1, hk_.1.2.2.2.2.2.2.2.1, hk_.1.2.2.2.2.2.2.2.2, fun e_ => Or.elim (ho0.1 k_ e_.symm).1 (fun hs_ => hk_.2.1 hs_) (fun hn_ => Nat.not_le.2 hk_.2.2 hn_), fun e_ => Or.elim (ho1.1 k_ e_.symm).1 (fun hs_ => hk_.2.1 hs_) (fun hn_ => Nat.not_le.2 hk_.2.2 hn_)⟩))
   have n4_ := ak (blk_kept (bkC BK737) hkp (fun hs_ => Or.elim hs_ (fun e_ => (fun e_ => (Kd.R_ne HO732.out BK737.out (by decide)) e_) e_) (fun e_ => (fun e_ => (Kd.R_ne HO735.out BK737.out (by decide)) e_) e_)))
   have n5_ := ak (Kd.R_mono (ok' := fun k_ => nb k_ (.slice Ao16 t723.length co16) ∧ nb k_ (.slice Ao17 t726.length co17) ∧ nb k_ v743 ∧ nb k_ v747 ∧ nb k_ v750 ∧ nb k_ (.slice Ao37 t753.length co37) ∧ nb k_ (.slice Ao39 t756.length co39) ∧ nb k_ v781 ∧ nb k_ v784) (Kd.R_keptB (HO741.out) hkp (fun k_ hk_ hs_ => Or.elim hs_ (fun e_ => (hk_.2.2.1) e_) (fun e_ => (hk_.2.2.2.1) e_))) (fun k_ hk_ => ⟨hk_.1.1, hk_.1.2.1, hk_.1.2.2.2.2.1, hk_.1.2.2.2.2.2.1, hk_.1.2.2.2.2.2.2.1, hk_.1.2.2.2.2.2.2.2.1, hk_.1.2.2.2.2.2.2.2.2, fun e_ => Or.elim (ho0.1 k_ e_.symm).1 (fun hs_ => hk_.2.1 hs_) (fun hn_ => Nat.not_le.2 hk_.2.2 hn_), fun e_ => Or.elim (ho1.1 k_ e_.symm).1 (fun hs_ => hk_.2.1 hs_) (fun hn_ => Nat.not_le.2 hk_.2.2 hn_)⟩))
   have n6_ := ak (Kd.R_mono (ok' := fun k_ => nb k_ (.slice Ao16 t723.length co16) ∧ nb k_ (.slice Ao17 t726.length co17) ∧ nb k_ v740 ∧ nb k_ v747 ∧ nb k_ v750 ∧ nb k_ (.slice Ao37 t753.length co37) ∧ nb k_ (.slice Ao39 t756.length co39) ∧ nb k_ v781 ∧ nb k_ v784) (Kd.R_keptB (HO744.out) hkp (fun k_ hk_ hs_ => Or.elim hs_ (fun e_ => (hk_.2.2.1) e_) (fun e_ => (hk_.2.2.2.1) e_))) (fun k_ hk_ => ⟨hk_.1.1, hk_.1.2.1, hk_.1.2.2.2.2.1, hk_.1.2.2.2.2.2.1, hk_.1.2.2.2.2.2.2.1, hk_.1.2.2.2.2.2.2.2.1, hk_.1.2.2.2.2.2.2.2.2, fun e_ => Or.elim (ho0.1 k_ e_.symm).1 (fun hs_ => hk_.2.1 hs_) (fun hn_ => Nat.not_le.2 hk_.2.2 hn_), fun e_ => Or.elim (ho1.1 k_ e_.symm).1 (fun hs_ => hk_.2.1 hs_) (fun hn_ => Nat.not_le.2 hk_.2.2 hn_)⟩))
   have n7_ := ak (Kd.R_mono (ok' := fun k_ => nb k_ (.slice Ao16 t723.length co16) ∧ nb k_ (.slice Ao17 t726.length co17) ∧ nb k_ v740 ∧ nb k_ v743 ∧ nb k_ v750 ∧ nb k_ (.slice Ao37 t753.length co37) ∧ nb k_ (.slice Ao39 t756.length co39) ∧ nb k_ v781 ∧ nb k_ v784) (Kd.R_keptB (HO748.out) hkp (fun k_ hk_ hs_ => Or.elim hs_ (fun e_ => (hk_.2.2.1) e_) (fun e_ => (hk_.2.2.2.1) e_))) (fun k_ hk_ => ⟨hk_.1.1, hk_.1.2.1, hk_.1.2.2.2.2.1, hk_.1.2.2.2.2.2.1, hk_.1.2.2.2.2.2.2.1, hk_.1.2.2.2.2.2.2.2.1, hk_.1.2.2.2.2.2.2.2.2, fun e_ => Or.elim (ho0.1 k_ e_.symm).1 (fun hs_ => hk_.2.1 hs_) (fun hn_ => Nat.not_le.2 hk_.2.2 hn_), fun e_ => Or.elim (ho1.1 k_ e_.symm).1 (fun hs_ => hk_.2.1 hs_) (fun hn_ => Nat.not_le.2 hk_.2.2 hn_)⟩))
   have n8_ := ak (Kd.R_mono (ok' := fun k_ => nb k_ (.slice Ao16 t723.length co16) ∧ nb k_ (.slice Ao17 t726.length co17) ∧ nb k_ v740 ∧ nb k_ v743 ∧ nb k_ v747 ∧ nb k_ (.slice Ao37 t753.length co37) ∧ nb k_ (.slice Ao39 t756.length co39) ∧ nb k_ v781 ∧ nb k_ v784) (Kd.R_keptB (HO751.out) hkp (fun k_ hk_ hs_ => Or.elim hs_ (fun e_ => (hk_.2.2.1) e_) (fun e_ => (hk_.2.2.2.1) e_))) (fun k_ hk_ => ⟨hk_.1.1, hk_.1.2.1, hk_.1.2.2.2.2.1, hk_.1.2.2.2.2.2.1, hk_.1.2.2.2.2.2.2.1, hk_.1.2.2.2.2.2.2.2.1, hk_.1.2.2.2.2.2.2.2.2, fun e_ => Or.elim (ho0.1 k_ e_.symm).1 (fun hs_ => hk_.2.1 hs_) (fun hn_ => Nat.not_le.2 hk_.2.2 hn_), fun e_ => Or.elim (ho1.1 k_ e_.symm).1 (fun hs_ => hk_.2.1 hs_) (fun hn_ => Nat.not_le.2 hk_.2.2 hn_)⟩))
   have n9_ := ak (Kd.R_mono (ok' := fun k_ => nb k_ (.slice Ao16 t723.length co16) ∧ nb k_ (.slice Ao17 t726.length co17) ∧ nb k_ v740 ∧ nb k_ v743 ∧ nb k_ v747 ∧ nb k_ v750 ∧ nb k_ (.slice Ao39 t756.length co39) ∧ nb k_ v781 ∧ nb k_ v784) (Kd.R_keptB (HO755.out) hkp (fun k_ hk_ hs_ => Or.elim hs_ (fun e_ => (hk_.2.2.1) e_) (fun e_ => (hk_.2.2.2.1) e_))) (fun k_ hk_ => ⟨hk_.1.1, hk_.1.2.1, hk_.1.2.2.2.2.1, hk_.1.2.2.2.2.2.1, hk_.1.2.2.2.2.2.2.1, hk_.1.2.2.2.2.2.2.2.1, hk_.1.2.2.2.2.2.2.2.2, fun e_ => Or.elim (ho0.1 k_ e_.symm).1 (fun hs_ => hk_.2.1 hs_) (fun hn_ => Nat.not_le.2 hk_.2.2 hn_), fun e_ => Or.elim (ho1.1 k_ e_.symm).1 (fun hs_ => hk_.2.1 hs_) (fun hn_ => Nat.not_le.2 hk_.2.2 hn_)⟩))
   have n10_ := ak (Kd.R_mono (ok' := fun k_ => nb k_ (.slice Ao16 t723.length co16) ∧ nb k_ (.slice Ao17 t726.length co17) ∧ nb k_ v740 ∧ nb k_ v743 ∧ nb k_ v747 ∧ nb k_ v750 ∧ nb k_ (.slice Ao37 t753.length co37) ∧ nb k_ v781 ∧ nb k_ v784) (Kd.R_keptB (HO758.out) hkp (fun k_ hk_ hs_ => Or.elim hs_ (fun e_ => (hk_.2.2.1) e_) (fun e_ => (hk_.2.2.2.1) e_))) (fun k_ hk_ => ⟨hk_.1.1, hk_.1.2.1, hk_.1.2.2.2.2.1, hk_.1.2.2.2.2.2.1, hk_.1.2.2.2.2.2.2.1, hk_.1.2.2.2.2.2.2.2.1, hk_.1.2.2.2.2.2.2.2.2, fun e_ => Or.elim (ho0.1 k_ e_.symm).1 (fun hs_ => hk_.2.1 hs_) (fun hn_ => Nat.not_le.2 hk_.2.2 hn_), fun e_ => Or.elim (ho1.1 k_ e_.symm).1 (fun hs_ => hk_.2.1 hs_) (fun hn_ => Nat.not_le.2 hk_.2.2 hn_)⟩))
   have n11_ := ak (blk_kept (bkC BK760) hkp (fun hs_ => Or.elim hs_ (fun e_ => (fun e_ => (Kd.R_ne HO732.out BK760.out (by decide)) e_) e_) (fun e_ => (fun e_ => (Kd.R_ne HO735.out BK760.out (by decide)) e_) e_)))
   have n12_ := ak (Kd.R_mono (ok' := fun k_ => nb k_ v784 ∧ nb k_ (.slice Ao16 t723.length co16) ∧ nb k_ (.slice Ao17 t726.length co17) ∧ nb k_ v740 ∧ nb k_ v743 ∧ nb k_ v747 ∧ nb k_ v750 ∧ nb k_ (.slice Ao37 t753.length co37) ∧ nb k_ (.slice Ao39 t756.length co39)) ho0 (fun k_ hk_ => ⟨hk_.2, Or.elim hk_.1 (fun hs_ => Or.elim hs_ (fun hs_ => fun e_ => (((HO725.out).1 k_ e_.symm).2.1) hs_) (fun hs_ => fun e_ => (((HO725.out).1 k_ e_.symm).2.2.1) hs_)) (fun hn_ => (Kd.fresh' (Kd.R_lt (rC HO725)) k_ hn_)), Or.elim hk_.1 (fun hs_ => Or.elim hs_ (fun hs_ => fun e_ => (((HO728.out).1 k_ e_.symm).2.1) hs_) (fun hs_ => fun e_ => (((HO728.out).1 k_ e_.symm).2.2.1) hs_)) (fun hn_ => (Kd.fresh' (Kd.R_lt (rC HO728)) k_ hn_)), Or.elim hk_.1 (fun hs_ => Or.elim hs_ (fun hs_ => fun e_ => (((HO741.out).1 k_ e_.symm).2.2.1) hs_) (fun hs_ => fun e_ => (((HO741.out).1 k_ e_.symm).2.2.2.1) hs_)) (fun hn_ => (Kd.fresh' (Kd.R_lt (rC HO741)) k_ hn_)), Or.elim hk_.1 (fun hs_ => Or.elim hs_ (fun hs_ => fun e_ => (((HO744.out).1 k_ e_.symm).2.2.1) hs_) (fun hs_ => fun e_ => (((HO744.out).1 k_ e_.symm).2.2.2.1) hs_)) (fun hn_ => (Kd.fresh' (Kd.R_lt (rC HO744)) k_ hn_)), Or.elim hk_.1 (fun hs_ => Or.elim hs_ (fun hs_ => fun e_ => (((HO748.out).1 k_ e_.symm).2.2.1) hs_) (fun hs_ => fun e_ => (((HO748.out).1 k_ e_.symm).2.2.2.1) hs_)) (fun hn_ => (Kd.fresh' (Kd.R_lt (rC HO748)) k_ hn_)), Or.elim hk_.1 (fun hs_ => Or.elim hs_ (fun hs_ => fun e_ => (((HO751.out).1 k_ e_.symm).2.2.1) hs_) (fun hs_ => fun e_ => (((HO751.out).1 k_ e_.symm).2.2.2.1) hs_)) (fun hn_ => (Kd.fresh' (Kd.R_lt (rC HO751)) k_ hn_)), Or.elim hk_.1 (fun hs_ => Or.elim hs_ (fun hs_ => fun e_ => (((HO755.out).1 k_ e_.symm).2.2.1) hs_) (fun hs_ => fun e_ => (((HO755.out).1 k_ e_.symm).2.2.2.1) hs_)) (fun hn_ => (Kd.fresh' (Kd.R_lt (rC HO755)) k_ hn_)), Or.elim hk_.1 (fun hs_ => Or.elim hs_ (fun hs_ => fun e_ => (((HO758.out).1 k_ e_.symm).2.2.1) hs_) (fun hs_ => fun e_ => (((HO758.out).1 k_ e_.symm).2.2.2.1) hs_)) (fun hn_ => (Kd.fresh' (Kd.R_lt (rC HO758)) k_ hn_))⟩))
   have n13_ := ak (Kd.R_mono (ok' := fun k_ => nb k_ v781 ∧ nb k_ (.slice Ao16 t723.length co16) ∧ nb k_ (.slice Ao17 t726.length co17) ∧ nb k_ v740 ∧ nb k_ v743 ∧ nb k_ v747 ∧ nb k_ v750 ∧ nb k_ (.slice Ao37 t753.length co37) ∧ nb k_ (.slice Ao39 t756.length co39)) ho1 (fun k_ hk_ => ⟨hk_.2, Or.elim hk_.1 (fun hs_ => Or.elim hs_ (fun hs_ => fun e_ => (((HO725.out).1 k_ e_.symm).2.1) hs_) (fun hs_ => fun e_ => (((HO725.out).1 k_ e_.symm).2.2.1) hs_)) (fun hn_ => (Kd.fresh' (Kd.R_lt (rC HO725)) k_ hn_)), Or.elim hk_.1 (fun hs_ => Or.elim hs_ (fun hs_ => fun e_ => (((HO728.out).1 k_ e_.symm).2.1) hs_) (fun hs_ => fun e_ => (((HO728.out).1 k_ e_.symm).2.2.1) hs_)) (fun hn_ => (Kd.fresh' (Kd.R_lt (rC HO728)) k_ hn_)), Or.elim hk_.1 (fun hs_ => Or.elim hs_ (fun hs_ => fun e_ => (((HO741.out).1 k_ e_.symm).2.2.1) hs_) (fun hs_ => fun e_ => (((HO741.out).1 k_ e_.symm).2.2.2.1) hs_)) (fun hn_ => (Kd.fresh' (Kd.R_lt (rC HO741)) k_ hn_)), Or.elim hk_.1 (fun hs_ => Or.elim hs_ (fun hs_ => fun e_ => (((HO744.out).1 k_ e_.symm).2.2.1) hs_) (fun hs_ => fun e_ => (((HO744.out).1 k_ e_.symm).2.2.2.1) hs_)) (fun hn_ => (Kd.fresh' (Kd.R_lt (rC HO744)) k_ hn_)), Or.elim hk_.1 (fun hs_ => Or.elim hs_ (fun hs_ => fun e_ => (((HO748.out).1 k_ e_.symm).2.2.1) hs_) (fun hs_ => fun e_ => (((HO748.out).1 k_ e_.symm).2.2.2.1) hs_)) (fun hn_ => (Kd.fresh' (Kd.R_lt (rC HO748)) k_ hn_)), Or.elim hk_.1 (fun hs_ => Or.elim hs_ (fun hs_ => fun e_ => (((HO751.out).1 k_ e_.symm).2.2.1) hs_) (fun hs_ => fun e_ => (((HO751.out).1 k_ e_.symm).2.2.2.1) hs_)) (fun hn_ => (Kd.fresh' (Kd.R_lt (rC HO751)) k_ hn_)), Or.elim hk_.1 (fun hs_ => Or.elim hs_ (fun hs_ => fun e_ => (((HO755.out).1 k_ e_.symm).2.2.1) hs_) (fun hs_ => fun e_ => (((HO755.out).1 k_ e_.symm).2.2.2.1) hs_)) (fun hn_ => (Kd.fresh' (Kd.R_lt (rC HO755)) k_ hn_)), Or.elim hk_.1 (fun hs_ => Or.elim hs_ (fun hs_ => fun e_ => (((HO758.out).1 k_ e_.symm).2.2.1) hs_) (fun hs_ => fun e_ => (((HO758.out).1 k_ e_.symm).2.2.2.1) hs_)) (fun hn_ => (Kd.fresh' (Kd.R_lt (rC HO758)) k_ hn_))⟩))
   have n14_ := ak (hb)
   clear BK720
   clear BK721
   clear HO725
   clear HO728
   clear BK737
   clear HO741
   clear HO744
   clear HO748
   clear HO751
   clear HO755
   clear HO758
   clear BK760
   clear HB
   clear HO732
   clear HO735
   have BK720 := n0_
   have BK721 := n1_
   have HO725 := n2_
   have HO728 := n3_
   have BK737 := n4_
   have HO741 := n5_
   have HO744 := n6_
   have HO748 := n7_
   have HO751 := n8_
   have HO755 := n9_
   have HO758 := n10_
   have BK760 := n11_
   have HO782 := n12_
   have HO785 := n13_
   have HB := n14_
   clear n0_ n1_ n2_ n3_ n4_ n5_ n6_ n7_ n8_ n9_ n10_ n11_ n12_ n13_ n14_
   (try clear hb)
   (try clear hkp)
   (try clear ho0)
   (try clear ho1)
   refine hK.out _ _ ⟨bc BK737 0, bc BK737 1, bc BK737 2, bc BK720 0, bc BK720 1, bc BK720 2⟩ (fun hHeld => ?_)
   clear hK K
   refine norm_ (a' := ?_) ?_ ?_
   rotate_left
   ·show Act.put _ (some 50) _ = _
    simp only [Act.put, List.setIfInBounds_toArray, List.set_cons_zero, List.set_cons_succ, i64_w, i32_w]
    rfl
   refine one_ (i := 3) (N := some 52) (ba 14 15) rfl rfl (one_of HT_.out (by kernel_rfl)) (by decide) (fun K hK => ?_)
   refine gC Try.func36 #[.agg #[.int .i64 a0_0, .slice A0_1 l0_1.length c0_1, .slice A0_2 l0_2.length c0_2]] ?_
   with_reducible refine (congouref04_Mirror.calls k a0_0 _ _ l0_1 _ _ l0_2 t786 t787 t790 _ ?side1 ?side2 ?side3 ?side4 A45.out).mono ?_
   (case side1 => exact kC HR0_1)
   (case side2 => exact HC0_1.out)
   (case side3 => exact kC HR0_2)
   (case side4 => exact HC0_2.out)
   rintro e w61 ⟨v788, v791, rfl, ho0, ho1, hb⟩
   refine ⟨_, rfl, ?_⟩
   have HO789 := ak (Kd.R_lower (Kd.R_new' (Kd.R_new' (Kd.R_new' (Kd.R_new' (Kd.R_new' (Kd.R_new' (Kd.R_new' (Kd.R_new' (Kd.R_new' (Kd.R_new' ho0 (Kd.R_lt (rC HO725))) (Kd.R_lt (rC HO728))) (Kd.R_lt (rC HO741))) (Kd.R_lt (rC HO744))) (Kd.R_lt (rC HO748))) (Kd.R_lt (rC HO751))) (Kd.R_lt (rC HO755))) (Kd.R_lt (rC HO758))) (Kd.R_lt (rC HO782))) (Kd.R_lt (rC HO785))) (below_size (hbC _)))
   have HO792 := ak (Kd.R_lower (Kd.R_new' (Kd.R_new' (Kd.R_new' (Kd.R_new' (Kd.R_new' (Kd.R_new' (Kd.R_new' (Kd.R_new' (Kd.R_new' (Kd.R_new' ho1 (Kd.R_lt (rC HO725))) (Kd.R_lt (rC HO728))) (Kd.R_lt (rC HO741))) (Kd.R_lt (rC HO744))) (Kd.R_lt (rC HO748))) (Kd.R_lt (rC HO751))) (Kd.R_lt (rC HO755))) (Kd.R_lt (rC HO758))) (Kd.R_lt (rC HO782))) (Kd.R_lt (rC HO785))) (below_size (hbC _)))
   replace HO725 := kT HO725 hb ho0 ho1
   replace HO728 := kT HO728 hb ho0 ho1
   replace HO741 := kT HO741 hb ho0 ho1
   replace HO744 := kT HO744 hb ho0 ho1
   replace HO748 := kT HO748 hb ho0 ho1
   replace HO751 := kT HO751 hb ho0 ho1
   replace HO755 := kT HO755 hb ho0 ho1
   replace HO758 := kT HO758 hb ho0 ho1
   replace HO782 := kT HO782 hb ho0 ho1
   replace HO785 := kT HO785 hb ho0 ho1
   replace BK720 := kB BK720 hb
   replace BK721 := kB BK721 hb
   replace BK737 := kB BK737 hb
   replace BK760 := kB BK760 hb
   replace HB := kH _ hb
   (try clear hb)
   (try clear hb2)
   (try clear hk)
   (try clear hi)
   (try clear ho0)
   (try clear ho1)
   obtain ⟨Ao62, co62, eo62⟩ := Kd.R_slice HO782.out
   (first | subst eo62 | (injection eo62 with f1_ f2_ f3_; have f4_ := f1_.symm; have f5_ := f3_.symm; clear f1_ f2_ f3_; subst f4_; subst f5_))
   obtain ⟨Ao63, co63, eo63⟩ := Kd.R_slice HO785.out
   (first | subst eo63 | (injection eo63 with f1_ f2_ f3_; have f4_ := f1_.symm; have f5_ := f3_.symm; clear f1_ f2_ f3_; subst f4_; subst f5_))
   obtain ⟨Ao64, co64, eo64⟩ := Kd.R_slice HO789.out
   (first | subst eo64 | (injection eo64 with f1_ f2_ f3_; have f4_ := f1_.symm; have f5_ := f3_.symm; clear f1_ f2_ f3_; subst f4_; subst f5_))
   obtain ⟨Ao65, co65, eo65⟩ := Kd.R_slice HO792.out
   (first | subst eo65 | (injection eo65 with f1_ f2_ f3_; have f4_ := f1_.symm; have f5_ := f3_.symm; clear f1_ f2_ f3_; subst f4_; subst f5_))
   refine hK.out _ _ ⟨bc BK737 0, bc BK737 1, bc BK737 2, bc BK720 0, bc BK720 1, bc BK720 2⟩ (fun hHeld => ?_)
   clear hK K
   refine norm_ (a' := ?_) ?_ ?_
   rotate_left
   ·show Act.put _ (some 52) _ = _
    simp only [Act.put, List.setIfInBounds_toArray, List.set_cons_zero, List.set_cons_succ, i64_w, i32_w]
    rfl
   refine one_ (i := 4) (N := some 53) (ba 14 31) rfl rfl (one_of HT_.out (by kernel_rfl)) (by decide) (fun K hK => ?_)
   refine gC Try.func31 #[.agg #[.int .i64 t779, .slice Ao62 t780.length co62, .slice Ao63 t783.length co63], .agg #[.int .i64 t786, .slice Ao64 t787.length co64, .slice Ao65 t790.length co65]] ?_
   with_reducible refine (congoulaw04_same.calls k t779 _ _ t780 _ _ t783 t786 _ _ t787 _ _ t790 true _ ?side1 ?side2 ?side3 ?side4 ?side5 ?side6 ?side7 ?side8 A46.out).mono ?_
   (case side1 => exact kD (Kd.R_reads' HO782.out).2.2)
   (case side2 => exact (Kd.R_reads' HO782.out).2.1)
   (case side3 => exact kD (Kd.R_reads' HO785.out).2.2)
   (case side4 => exact (Kd.R_reads' HO785.out).2.1)
   (case side5 => exact kD (Kd.R_reads' HO789.out).2.2)
   (case side6 => exact (Kd.R_reads' HO789.out).2.1)
   (case side7 => exact kD (Kd.R_reads' HO792.out).2.2)
   (case side8 => exact (Kd.R_reads' HO792.out).2.1)
   rintro e w66 ⟨rfl, hb⟩
   refine ⟨_, rfl, ?_⟩
   replace HO725 := kO HO725 hb
   replace HO728 := kO HO728 hb
   replace HO741 := kO HO741 hb
   replace HO744 := kO HO744 hb
   replace HO748 := kO HO748 hb
   replace HO751 := kO HO751 hb
   replace HO755 := kO HO755 hb
   replace HO758 := kO HO758 hb
   replace HO782 := kO HO782 hb
   replace HO785 := kO HO785 hb
   replace HO789 := kO HO789 hb
   replace HO792 := kO HO792 hb
   replace BK720 := kB BK720 hb
   replace BK721 := kB BK721 hb
   replace BK737 := kB BK737 hb
   replace BK760 := kB BK760 hb
   replace HB := kH _ hb
   (try clear hb)
   (try clear hb2)
   (try clear hk)
   (try clear hi)
   refine hK.out _ _ ⟨bc BK737 0, bc BK737 1, bc BK737 2, bc BK720 0, bc BK720 1, bc BK720 2⟩ (fun hHeld => ?_)
   clear hK K
   refine norm_ (a' := ?_) ?_ ?_
   rotate_left
   ·show Act.put _ (some 53) _ = _
    simp only [Act.put, List.setIfInBounds_toArray, List.set_cons_zero, List.set_cons_succ, i64_w, i32_w]
    rfl
   refine pS 5 54 14 63 ?_
   refine pS 6 55 14 127 ?_
   refine pS 7 56 14 255 ?_
   refine pS 8 57 14 511 ?_
   refine pS 9 58 14 1023 ?_
   refine pS 10 59 14 2047 ?_
   refine uS 11 60 14 4095 ?_
   refine uS 12 61 14 8191 ?_
   refine pS 13 62 14 16383 ?_
   refine done_ (done_of HT_.out (by kernel_rfl)) ?_
   try go_wp2
   go_meet
   case rel => exact ⟨_, (true), (by first | rfl | (simp; done) | (simp [*]; done)), H', ⟨by first | omega | exact Nat.le_refl _⟩, ⟨rD (Kd.R_mono HO755.out (fun _ hk => hk.1.1.2.2.2.2.2.2.1))⟩, ⟨rD (Kd.R_mono HO758.out (fun _ hk => hk.1.1.2.2.2.2.2.2.1))⟩, ⟨bkC BK720⟩, ⟨bkC BK721⟩, ⟨bkC BK760⟩, ⟨hbC _⟩⟩
  rw [if_pos c48] at H
  have c48b0 : (t736 == 0) = true := beq_iff_eq.mpr c48
  have c48b1 : (t736 != 0) = false := bne_eq_false_iff_eq.mpr c48
  clear c48
  (first | rw [c48b0] | (simp only [i64_w, i32_w]; rw [c48b0]) | skip)
  replace H := Option.bind_eq_some_iff.mp H
  obtain ⟨t794, A490, H⟩ := H
  replace H : (congoulaw04_CurvesMirrors.j0 k t759 (!t794) a0_0 l0_1 l0_2 a1_0 l1_1 l1_2 t752 t753 t756) = some r := H
  have A49 := Aside0.mk A490
  clear A490
  have H' := Aside0.mk H
  clear H
  try go_wp2
  replace HO725 := ak (Kd.R_drew HO725.out)
  replace HO728 := ak (Kd.R_drew HO728.out)
  replace HO732 := ak (Kd.R_drew HO732.out)
  replace HO735 := ak (Kd.R_drew HO735.out)
  replace HO741 := ak (Kd.R_drew HO741.out)
  replace HO744 := ak (Kd.R_drew HO744.out)
  replace HO748 := ak (Kd.R_drew HO748.out)
  replace HO751 := ak (Kd.R_drew HO751.out)
  replace HO755 := ak (Kd.R_drew HO755.out)
  replace HO758 := ak (Kd.R_drew HO758.out)
  replace BK720 := kd BK720
  replace BK721 := kd BK721
  replace BK737 := kd BK737
  replace BK760 := kd BK760
  replace HB := ak (below_drew1 HB.out)
  refine sS (n := 14) (S := fun w' => w'.cell? ⟨gb737, 0, none⟩ = some (.int .i64 t729) ∧ w'.cell? ⟨gb737, 1, none⟩ = some (.slice Ao23 t730.length co23) ∧ w'.cell? ⟨gb737, 2, none⟩ = some (.slice Ao24 t733.length co24) ∧ w'.cell? ⟨gb720, 0, none⟩ = some (.int .i64 a0_0) ∧ w'.cell? ⟨gb720, 1, none⟩ = some (.slice A0_1 l0_1.length c0_1) ∧ w'.cell? ⟨gb720, 2, none⟩ = some (.slice A0_2 l0_2.length c0_2)) (ds := []) ⟨bc BK737 0, bc BK737 1, bc BK737 2, bc BK720 0, bc BK720 1, bc BK720 2⟩ (fun hHeld => ?_); refine with_tabW congoulaw04_CurvesMirrors.tab5 congoulaw04_CurvesMirrors.bits5 (fun HT_ HW_ => ?_)
  generalize w43.drew = w50 at HO725 HO728 HO732 HO735 HO741 HO744 HO748 HO751 HO755 HO758 BK720 BK721 BK737 BK760 HB hHeld ⊢
  refine tS 0 49 14 1 ?_
  refine tS 2 51 14 5 ?_
  refine one_ (i := 1) (N := some 50) (ba 14 7) rfl rfl (one_of HT_.out (by kernel_rfl)) (by decide) (fun K hK => ?_)
  refine gC Try.func30 #[.agg #[.int .i64 t729, .slice Ao23 t730.length co23, .slice Ao24 t733.length co24]] ?_
  with_reducible refine (congoulaw04_own.calls t729 (fun k_ => some k_ = (.slice Ao23 t730.length co23 : Value).ownBlock) (.slice Ao23 t730.length co23) t730 (fun k_ => some k_ = (.slice Ao24 t733.length co24 : Value).ownBlock) (.slice Ao24 t733.length co24) t733 t779 t780 t783 w _ ?side1 ?side2 ?side3 ?side4 ?side5 A44.out).mono ?_
  (case side1 => repeat (first | (with_reducible first | exact HB.out | apply below_alloc | apply pw_below_drewN | apply below_drew1 | refine below_set ?_ GE720.out | refine below_set ?_ GE721.out | refine below_set ?_ GE737.out | refine below_set ?_ GE760.out) | exact HB.out))
  (case side2 => exact Kd.R_tight rfl HO732.out)
  (case side3 => exact fun k_ e_ => (HO732.out.1 k_ e_.symm).2.2.1)
  (case side4 => exact Kd.R_tight rfl HO735.out)
  (case side5 => exact fun k_ e_ => (HO735.out.1 k_ e_.symm).2.2.1)
  rintro e w51 ⟨v781, v784, rfl, ho0, ho1, hb, hkp⟩
  refine ⟨_, rfl, ?_⟩
  have n0_ := ak (blk_kept (bkC BK720) hkp (fun hs_ => Or.elim hs_ (fun e_ => (fun e_ => (Kd.R_ne HO732.out BK720.out (by decide)) e_) e_) (fun e_ => (fun e_ => (Kd.R_ne HO735.out BK720.out (by decide)) e_) e_)))
  have n1_ := ak (blk_kept (bkC BK721) hkp (fun hs_ => Or.elim hs_ (fun e_ => (fun e_ => (Kd.R_ne HO732.out BK721.out (by decide)) e_) e_) (fun e_ => (fun e_ => (Kd.R_ne HO735.out BK721.out (by decide)) e_) e_)))
  have n2_ := ak (Kd.R_mono (ok' := fun k_ => nb k_ (.slice Ao17 t726.length co17) ∧ nb k_ v740 ∧ nb k_ v743 ∧ nb k_ v747 ∧ nb k_ v750 ∧ nb k_ (.slice Ao37 t753.length co37) ∧ nb k_ (.slice Ao39 t756.length co39) ∧ nb k_ v781 ∧ nb k_ v784) (Kd.R_keptB (HO725.out) hkp (fun k_ hk_ hs_ => Or.elim hs_ (fun e_ => (hk_.2.1) e_) (fun e_ => (hk_.2.2.1) e_))) (fun k_ hk_ => ⟨hk_.1.1, hk_.1.2.2.2.1, hk_.1.2.2.2.2.1, hk_.1.2.2.2.2.2.1, hk_.1.2.2.2.2.2.2.1, hk_.1.2.2.2.2.2.2.2.1, hk_.1.2.2.2.2.2.2.2.2, fun e_ => Or.elim (ho0.1 k_ e_.symm).1 (fun hs_ => hk_.2.1 hs_) (fun hn_ => Nat.not_le.2 hk_.2.2 hn_), fun e_ => Or.elim (ho1.1 k_ e_.symm).1 (fun hs_ => hk_.2.1 hs_) (fun hn_ => Nat.not_le.2 hk_.2.2 hn_)⟩))
  have n3_ := ak (Kd.R_mono (ok' := fun k_ => nb k_ (.slice Ao16 t723.length co16) ∧ nb k_ v740 ∧ nb k_ v743 ∧ nb k_ v747 ∧ nb k_ v750 ∧ nb k_ (.slice Ao37 t753.length co37) ∧ nb k_ (.slice Ao39 t756.length co39) ∧ nb k_ v781 ∧ nb k_ v784) (Kd.R_keptB (HO728.out) hkp (fun k_ hk_ hs_ => Or.elim hs_ (fun e_ => (hk_.2.1) e_) (fun e_ => (hk_.2.2.1) e_))) (fun k_ hk_ => ⟨hk_.1.1, hk_.1.2.2.2.1, hk_.1.2.2.2.2.1, hk_.1.2.2.2.2.2.1, hk_.1.2.2.2.2.2.2.1, hk_.1.2.2.2.2.2.2.2.1, hk_.1.2.2.2.2.2.2.2.2, fun e_ => Or.elim (ho0.1 k_ e_.symm).1 (fun hs_ => hk_.2.1 hs_) (fun hn_ => Nat.not_le.2 hk_.2.2 hn_), fun e_ => Or.elim (ho1.1 k_ e_.symm).1 (fun hs_ => hk_.2.1 hs_) (fun hn_ => Nat.not_le.2 hk_.2.2 hn_)⟩))
  have n4_ := ak (blk_kept (bkC BK737) hkp (fun hs_ => Or.elim hs_ (fun e_ => (fun e_ => (Kd.R_ne HO732.out BK737.out (by decide)) e_) e_) (fun e_ => (fun e_ => (Kd.R_ne HO735.out BK737.out (by decide)) e_) e_)))
  have n5_ := ak (Kd.R_mono (ok' := fun k_ => nb k_ (.slice Ao16 t723.length co16) ∧ nb k_ (.slice Ao17 t726.length co17) ∧ nb k_ v743 ∧ nb k_ v747 ∧ nb k_ v750 ∧ nb k_ (.slice Ao37 t753.length co37) ∧ nb k_ (.slice Ao39 t756.length co39) ∧ nb k_ v781 ∧ nb k_ v784) (Kd.R_keptB (HO741.out) hkp (fun k_ hk_ hs_ => Or.elim hs_ (fun e_ => (hk_.2.2.1) e_) (fun e_ => (hk_.2.2.2.1) e_))) (fun k_ hk_ => ⟨hk_.1.1, hk_.1.2.1, hk_.1.2.2.2.2.1, hk_.1.2.2.2.2.2.1, hk_.1.2.2.2.2.2.2.1, hk_.1.2.2.2.2.2.2.2.1, hk_.1.2.2.2.2.2.2.2.2, fun e_ => Or.elim (ho0.1 k_ e_.symm).1 (fun hs_ => hk_.2.1 hs_) (fun hn_ => Nat.not_le.2 hk_.2.2 hn_), fun e_ => Or.elim (ho1.1 k_ e_.symm).1 (fun hs_ => hk_.2.1 hs_) (fun hn_ => Nat.not_le.2 hk_.2.2 hn_)⟩))
  have n6_ := ak (Kd.R_mono (ok' := fun k_ => nb k_ (.slice Ao16 t723.length co16) ∧ nb k_ (.slice Ao17 t726.length co17) ∧ nb k_ v740 ∧ nb k_ v747 ∧ nb k_ v750 ∧ nb k_ (.slice Ao37 t753.length co37) ∧ nb k_ (.slice Ao39 t756.length co39) ∧ nb k_ v781 ∧ nb k_ v784) (Kd.R_keptB (HO744.out) hkp (fun k_ hk_ hs_ => Or.elim hs_ (fun e_ => (hk_.2.2.1) e_) (fun e_ => (hk_.2.2.2.1) e_))) (fun k_ hk_ => ⟨hk_.1.1, hk_.1.2.1, hk_.1.2.2.2.2.1, hk_.1.2.2.2.2.2.1, hk_.1.2.2.2.2.2.2.1, hk_.1.2.2.2.2.2.2.2.1, hk_.1.2.2.2.2.2.2.2.2, fun e_ => Or.elim (ho0.1 k_ e_.symm).1 (fun hs_ => hk_.2.1 hs_) (fun hn_ => Nat.not_le.2 hk_.2.2 hn_), fun e_ => Or.elim (ho1.1 k_ e_.symm).1 (fun hs_ => hk_.2.1 hs_) (fun hn_ => Nat.not_le.2 hk_.2.2 hn_)⟩))
  have n7_ := ak (Kd.R_mono (ok' := fun k_ => nb k_ (.slice Ao16 t723.length co16) ∧ nb k_ (.slice Ao17 t726.length co17) ∧ nb k_ v740 ∧ nb k_ v743 ∧ nb k_ v750 ∧ nb k_ (.slice Ao37 t753.length co37) ∧ nb k_ (.slice Ao39 t756.length co39) ∧ nb k_ v781 ∧ nb k_ v784) (Kd.R_keptB (HO748.out) hkp (fun k_ hk_ hs_ => Or.elim hs_ (fun e_ => (hk_.2.2.1) e_) (fun e_ => (hk_.2.2.2.1) e_))) (fun k_ hk_ => ⟨hk_.1.1, hk_.1.2.1, hk_.1.2.2.2.2.1, hk_.1.2.2.2.2.2.1, hk_.1.2.2.2.2.2.2.1, hk_.1.2.2.2.2.2.2.2.1, hk_.1.2.2.2.2.2.2.2.2, fun e_ => Or.elim (ho0.1 k_ e_.symm).1 (fun hs_ => hk_.2.1 hs_) (fun hn_ => Nat.not_le.2 hk_.2.2 hn_), fun e_ => Or.elim (ho1.1 k_ e_.symm).1 (fun hs_ => hk_.2.1 hs_) (fun hn_ => Nat.not_le.2 hk_.2.2 hn_)⟩))
  have n8_ := ak (Kd.R_mono (ok' := fun k_ => nb k_ (.slice Ao16 t723.length co16) ∧ nb k_ (.slice Ao17 t726.length co17) ∧ nb k_ v740 ∧ nb k_ v743 ∧ nb k_ v747 ∧ nb k_ (.slice Ao37 t753.length co37) ∧ nb k_ (.slice Ao39 t756.length co39) ∧ nb k_ v781 ∧ nb k_ v784) (Kd.R_keptB (HO751.out) hkp (fun k_ hk_ hs_ => Or.elim hs_ (fun e_ => (hk_.2.2.1) e_) (fun e_ => (hk_.2.2.2.1) e_))) (fun k_ hk_ => ⟨hk_.1.1, hk_.1.2.1, hk_.1.2.2.2.2.1, hk_.1.2.2.2.2.2.1, hk_.1.2.2.2.2.2.2.1, hk_.1.2.2.2.2.2.2.2.1, hk_.1.2.2.2.2.2.2.2.2, fun e_ => Or.elim (ho0.1 k_ e_.symm).1 (fun hs_ => hk_.2.1 hs_) (fun hn_ => Nat.not_le.2 hk_.2.2 hn_), fun e_ => Or.elim (ho1.1 k_ e_.symm).1 (fun hs_ => hk_.2.1 hs_) (fun hn_ => Nat.not_le.2 hk_.2.2 hn_)⟩))
  have n9_ := ak (Kd.R_mono (ok' := fun k_ => nb k_ (.slice Ao16 t723.length co16) ∧ nb k_ (.slice Ao17 t726.length co17) ∧ nb k_ v740 ∧ nb k_ v743 ∧ nb k_ v747 ∧ nb k_ v750 ∧ nb k_ (.slice Ao39 t756.length co39) ∧ nb k_ v781 ∧ nb k_ v784) (Kd.R_keptB (HO755.out) hkp (fun k_ hk_ hs_ => Or.elim hs_ (fun e_ => (hk_.2.2.1) e_) (fun e_ => (hk_.2.2.2.1) e_))) (fun k_ hk_ => ⟨hk_.1.1, hk_.1.2.1, hk_.1.2.2.2.2.1, hk_.1.2.2.2.2.2.1, hk_.1.2.2.2.2.2.2.1, hk_.1.2.2.2.2.2.2.2.1, hk_.1.2.2.2.2.2.2.2.2, fun e_ => Or.elim (ho0.1 k_ e_.symm).1 (fun hs_ => hk_.2.1 hs_) (fun hn_ => Nat.not_le.2 hk_.2.2 hn_), fun e_ => Or.elim (ho1.1 k_ e_.symm).1 (fun hs_ => hk_.2.1 hs_) (fun hn_ => Nat.not_le.2 hk_.2.2 hn_)⟩))
  have n10_ := ak (Kd.R_mono (ok' := fun k_ => nb k_ (.slice Ao16 t723.length co16) ∧ nb k_ (.slice Ao17 t726.length co17) ∧ nb k_ v740 ∧ nb k_ v743 ∧ nb k_ v747 ∧ nb k_ v750 ∧ nb k_ (.slice Ao37 t753.length co37) ∧ nb k_ v781 ∧ nb k_ v784) (Kd.R_keptB (HO758.out) hkp (fun k_ hk_ hs_ => Or.elim hs_ (fun e_ => (hk_.2.2.1) e_) (fun e_ => (hk_.2.2.2.1) e_))) (fun k_ hk_ => ⟨hk_.1.1, hk_.1.2.1, hk_.1.2.2.2.2.1, hk_.1.2.2.2.2.2.1, hk_.1.2.2.2.2.2.2.1, hk_.1.2.2.2.2.2.2.2.1, hk_.1.2.2.2.2.2.2.2.2, fun e_ => Or.elim (ho0.1 k_ e_.symm).1 (fun hs_ => hk_.2.1 hs_) (fun hn_ => Nat.not_le.2 hk_.2.2 hn_), fun e_ => Or.elim (ho1.1 k_ e_.symm).1 (fun hs_ => hk_.2.1 hs_) (fun hn_ => Nat.not_le.2 hk_.2.2 hn_)⟩))
  have n11_ := ak (blk_kept (bkC BK760) hkp (fun hs_ => Or.elim hs_ (fun e_ => (fun e_ => (Kd.R_ne HO732.out BK760.out (by decide)) e_) e_) (fun e_ => (fun e_ => (Kd.R_ne HO735.out BK760.out (by decide)) e_) e_)))
  have n12_ := ak (Kd.R_mono (ok' := fun k_ => nb k_ v784 ∧ nb k_ (.slice Ao16 t723.length co16) ∧ nb k_ (.slice Ao17 t726.length co17) ∧ nb k_ v740 ∧ nb k_ v743 ∧ nb k_ v747 ∧ nb k_ v750 ∧ nb k_ (.slice Ao37 t753.length co37) ∧ nb k_ (.slice Ao39 t756.length co39)) ho0 (fun k_ hk_ => ⟨hk_.2, Or.elim hk_.1 (fun hs_ => Or.elim hs_ (fun hs_ => fun e_ => (((HO725.out).1 k_ e_.symm).2.1) hs_) (fun hs_ => fun e_ => (((HO725.out).1 k_ e_.symm).2.2.1) hs_)) (fun hn_ => (Kd.fresh' (Kd.R_lt (rC HO725)) k_ hn_)), Or.elim hk_.1 (fun hs_ => Or.elim hs_ (fun hs_ => fun e_ => (((HO728.out).1 k_ e_.symm).2.1) hs_) (fun hs_ => fun e_ => (((HO728.out).1 k_ e_.symm).2.2.1) hs_)) (fun hn_ => (Kd.fresh' (Kd.R_lt (rC HO728)) k_ hn_)), Or.elim hk_.1 (fun hs_ => Or.elim hs_ (fun hs_ => fun e_ => (((HO741.out).1 k_ e_.symm).2.2.1) hs_) (fun hs_ => fun e_ => (((HO741.out).1 k_ e_.symm).2.2.2.1) hs_)) (fun hn_ => (Kd.fresh' (Kd.R_lt (rC HO741)) k_ hn_)), Or.elim hk_.1 (fun hs_ => Or.elim hs_ (fun hs_ => fun e_ => (((HO744.out).1 k_ e_.symm).2.2.1) hs_) (fun hs_ => fun e_ => (((HO744.out).1 k_ e_.symm).2.2.2.1) hs_)) (fun hn_ => (Kd.fresh' (Kd.R_lt (rC HO744)) k_ hn_)), Or.elim hk_.1 (fun hs_ => Or.elim hs_ (fun hs_ => fun e_ => (((HO748.out).1 k_ e_.symm).2.2.1) hs_) (fun hs_ => fun e_ => (((HO748.out).1 k_ e_.symm).2.2.2.1) hs_)) (fun hn_ => (Kd.fresh' (Kd.R_lt (rC HO748)) k_ hn_)), Or.elim hk_.1 (fun hs_ => Or.elim hs_ (fun hs_ => fun e_ => (((HO751.out).1 k_ e_.symm).2.2.1) hs_) (fun hs_ => fun e_ => (((HO751.out).1 k_ e_.symm).2.2.2.1) hs_)) (fun hn_ => (Kd.fresh' (Kd.R_lt (rC HO751)) k_ hn_)), Or.elim hk_.1 (fun hs_ => Or.elim hs_ (fun hs_ => fun e_ => (((HO755.out).1 k_ e_.symm).2.2.1) hs_) (fun hs_ => fun e_ => (((HO755.out).1 k_ e_.symm).2.2.2.1) hs_)) (fun hn_ => (Kd.fresh' (Kd.R_lt (rC HO755)) k_ hn_)), Or.elim hk_.1 (fun hs_ => Or.elim hs_ (fun hs_ => fun e_ => (((HO758.out).1 k_ e_.symm).2.2.1) hs_) (fun hs_ => fun e_ => (((HO758.out).1 k_ e_.symm).2.2.2.1) hs_)) (fun hn_ => (Kd.fresh' (Kd.R_lt (rC HO758)) k_ hn_))⟩))
  have n13_ := ak (Kd.R_mono (ok' := fun k_ => nb k_ v781 ∧ nb k_ (.slice Ao16 t723.length co16) ∧ nb k_ (.slice Ao17 t726.length co17) ∧ nb k_ v740 ∧ nb k_ v743 ∧ nb k_ v747 ∧ nb k_ v750 ∧ nb k_ (.slice Ao37 t753.length co37) ∧ nb k_ (.slice Ao39 t756.length co39)) ho1 (fun k_ hk_ => ⟨hk_.2, Or.elim hk_.1 (fun hs_ => Or.elim hs_ (fun hs_ => fun e_ => (((HO725.out).1 k_ e_.symm).2.1) hs_) (fun hs_ => fun e_ => (((HO725.out).1 k_ e_.symm).2.2.1) hs_)) (fun hn_ => (Kd.fresh' (Kd.R_lt (rC HO725)) k_ hn_)), Or.elim hk_.1 (fun hs_ => Or.elim hs_ (fun hs_ => fun e_ => (((HO728.out).1 k_ e_.symm).2.1) hs_) (fun hs_ => fun e_ => (((HO728.out).1 k_ e_.symm).2.2.1) hs_)) (fun hn_ => (Kd.fresh' (Kd.R_lt (rC HO728)) k_ hn_)), Or.elim hk_.1 (fun hs_ => Or.elim hs_ (fun hs_ => fun e_ => (((HO741.out).1 k_ e_.symm).2.2.1) hs_) (fun hs_ => fun e_ => (((HO741.out).1 k_ e_.symm).2.2.2.1) hs_)) (fun hn_ => (Kd.fresh' (Kd.R_lt (rC HO741)) k_ hn_)), Or.elim hk_.1 (fun hs_ => Or.elim hs_ (fun hs_ => fun e_ => (((HO744.out).1 k_ e_.symm).2.2.1) hs_) (fun hs_ => fun e_ => (((HO744.out).1 k_ e_.symm).2.2.2.1) hs_)) (fun hn_ => (Kd.fresh' (Kd.R_lt (rC HO744)) k_ hn_)), Or.elim hk_.1 (fun hs_ => Or.elim hs_ (fun hs_ => fun e_ => (((HO748.out).1 k_ e_.symm).2.2.1) hs_) (fun hs_ => fun e_ => (((HO748.out).1 k_ e_.symm).2.2.2.1) hs_)) (fun hn_ => (Kd.fresh' (Kd.R_lt (rC HO748)) k_ hn_)), Or.elim hk_.1 (fun hs_ => Or.elim hs_ (fun hs_ => fun e_ => (((HO751.out).1 k_ e_.symm).2.2.1) hs_) (fun hs_ => fun e_ => (((HO751.out).1 k_ e_.symm).2.2.2.1) hs_)) (fun hn_ => (Kd.fresh' (Kd.R_lt (rC HO751)) k_ hn_)), Or.elim hk_.1 (fun hs_ => Or.elim hs_ (fun hs_ => fun e_ => (((HO755.out).1 k_ e_.symm).2.2.1) hs_) (fun hs_ => fun e_ => (((HO755.out).1 k_ e_.symm).2.2.2.1) hs_)) (fun hn_ => (Kd.fresh' (Kd.R_lt (rC HO755)) k_ hn_)), Or.elim hk_.1 (fun hs_ => Or.elim hs_ (fun hs_ => fun e_ => (((HO758.out).1 k_ e_.symm).2.2.1) hs_) (fun hs_ => fun e_ => (((HO758.out).1 k_ e_.symm).2.2.2.1) hs_)) (fun hn_ => (Kd.fresh' (Kd.R_lt (rC HO758)) k_ hn_))⟩))
  have n14_ := ak (hb)
  clear BK720
  clear BK721
  clear HO725
  clear HO728
  clear BK737
  clear HO741
  clear HO744
  clear HO748
  clear HO751
  clear HO755
  clear HO758
  clear BK760
  clear HB
  clear HO732
  clear HO735
  have BK720 := n0_
  have BK721 := n1_
  have HO725 := n2_
  have HO728 := n3_
  have BK737 := n4_
  have HO741 := n5_
  have HO744 := n6_
  have HO748 := n7_
  have HO751 := n8_
  have HO755 := n9_
  have HO758 := n10_
  have BK760 := n11_
  have HO782 := n12_
  have HO785 := n13_
  have HB := n14_
  clear n0_ n1_ n2_ n3_ n4_ n5_ n6_ n7_ n8_ n9_ n10_ n11_ n12_ n13_ n14_
  (try clear hb)
  (try clear hkp)
  (try clear ho0)
  (try clear ho1)
  refine hK.out _ _ ⟨bc BK737 0, bc BK737 1, bc BK737 2, bc BK720 0, bc BK720 1, bc BK720 2⟩ (fun hHeld => ?_)
  clear hK K
  refine norm_ (a' := ?_) ?_ ?_
  rotate_left
  ·show Act.put _ (some 50) _ = _
   simp only [Act.put, List.setIfInBounds_toArray, List.set_cons_zero, List.set_cons_succ, i64_w, i32_w]
   rfl
  refine one_ (i := 3) (N := some 52) (ba 14 15) rfl rfl (one_of HT_.out (by kernel_rfl)) (by decide) (fun K hK => ?_)
  refine gC Try.func36 #[.agg #[.int .i64 a0_0, .slice A0_1 l0_1.length c0_1, .slice A0_2 l0_2.length c0_2]] ?_
  with_reducible refine (congouref04_Mirror.calls k a0_0 _ _ l0_1 _ _ l0_2 t786 t787 t790 _ ?side1 ?side2 ?side3 ?side4 A45.out).mono ?_
  (case side1 => exact kC HR0_1)
  (case side2 => exact HC0_1.out)
  (case side3 => exact kC HR0_2)
  (case side4 => exact HC0_2.out)
  rintro e w52 ⟨v788, v791, rfl, ho0, ho1, hb⟩
  refine ⟨_, rfl, ?_⟩
  have HO789 := ak (Kd.R_lower (Kd.R_new' (Kd.R_new' (Kd.R_new' (Kd.R_new' (Kd.R_new' (Kd.R_new' (Kd.R_new' (Kd.R_new' (Kd.R_new' (Kd.R_new' ho0 (Kd.R_lt (rC HO725))) (Kd.R_lt (rC HO728))) (Kd.R_lt (rC HO741))) (Kd.R_lt (rC HO744))) (Kd.R_lt (rC HO748))) (Kd.R_lt (rC HO751))) (Kd.R_lt (rC HO755))) (Kd.R_lt (rC HO758))) (Kd.R_lt (rC HO782))) (Kd.R_lt (rC HO785))) (below_size (hbC _)))
  have HO792 := ak (Kd.R_lower (Kd.R_new' (Kd.R_new' (Kd.R_new' (Kd.R_new' (Kd.R_new' (Kd.R_new' (Kd.R_new' (Kd.R_new' (Kd.R_new' (Kd.R_new' ho1 (Kd.R_lt (rC HO725))) (Kd.R_lt (rC HO728))) (Kd.R_lt (rC HO741))) (Kd.R_lt (rC HO744))) (Kd.R_lt (rC HO748))) (Kd.R_lt (rC HO751))) (Kd.R_lt (rC HO755))) (Kd.R_lt (rC HO758))) (Kd.R_lt (rC HO782))) (Kd.R_lt (rC HO785))) (below_size (hbC _)))
  replace HO725 := kT HO725 hb ho0 ho1
  replace HO728 := kT HO728 hb ho0 ho1
  replace HO741 := kT HO741 hb ho0 ho1
  replace HO744 := kT HO744 hb ho0 ho1
  replace HO748 := kT HO748 hb ho0 ho1
  replace HO751 := kT HO751 hb ho0 ho1
  replace HO755 := kT HO755 hb ho0 ho1
  replace HO758 := kT HO758 hb ho0 ho1
  replace HO782 := kT HO782 hb ho0 ho1
  replace HO785 := kT HO785 hb ho0 ho1
  replace BK720 := kB BK720 hb
  replace BK721 := kB BK721 hb
  replace BK737 := kB BK737 hb
  replace BK760 := kB BK760 hb
  replace HB := kH _ hb
  (try clear hb)
  (try clear hb2)
  (try clear hk)
  (try clear hi)
  (try clear ho0)
  (try clear ho1)
  obtain ⟨Ao53, co53, eo53⟩ := Kd.R_slice HO782.out
  (first | subst eo53 | (injection eo53 with f1_ f2_ f3_; have f4_ := f1_.symm; have f5_ := f3_.symm; clear f1_ f2_ f3_; subst f4_; subst f5_))
  obtain ⟨Ao54, co54, eo54⟩ := Kd.R_slice HO785.out
  (first | subst eo54 | (injection eo54 with f1_ f2_ f3_; have f4_ := f1_.symm; have f5_ := f3_.symm; clear f1_ f2_ f3_; subst f4_; subst f5_))
  obtain ⟨Ao55, co55, eo55⟩ := Kd.R_slice HO789.out
  (first | subst eo55 | (injection eo55 with f1_ f2_ f3_; have f4_ := f1_.symm; have f5_ := f3_.symm; clear f1_ f2_ f3_; subst f4_; subst f5_))
  obtain ⟨Ao56, co56, eo56⟩ := Kd.R_slice HO792.out
  (first | subst eo56 | (injection eo56 with f1_ f2_ f3_; have f4_ := f1_.symm; have f5_ := f3_.symm; clear f1_ f2_ f3_; subst f4_; subst f5_))
  refine hK.out _ _ ⟨bc BK737 0, bc BK737 1, bc BK737 2, bc BK720 0, bc BK720 1, bc BK720 2⟩ (fun hHeld => ?_)
  clear hK K
  refine norm_ (a' := ?_) ?_ ?_
  rotate_left
  ·show Act.put _ (some 52) _ = _
   simp only [Act.put, List.setIfInBounds_toArray, List.set_cons_zero, List.set_cons_succ, i64_w, i32_w]
   rfl
  refine one_ (i := 4) (N := some 53) (ba 14 31) rfl rfl (one_of HT_.out (by kernel_rfl)) (by decide) (fun K hK => ?_)
  refine gC Try.func31 #[.agg #[.int .i64 t779, .slice Ao53 t780.length co53, .slice Ao54 t783.length co54], .agg #[.int .i64 t786, .slice Ao55 t787.length co55, .slice Ao56 t790.length co56]] ?_
  with_reducible refine (congoulaw04_same.calls k t779 _ _ t780 _ _ t783 t786 _ _ t787 _ _ t790 true _ ?side1 ?side2 ?side3 ?side4 ?side5 ?side6 ?side7 ?side8 A46.out).mono ?_
  (case side1 => exact kD (Kd.R_reads' HO782.out).2.2)
  (case side2 => exact (Kd.R_reads' HO782.out).2.1)
  (case side3 => exact kD (Kd.R_reads' HO785.out).2.2)
  (case side4 => exact (Kd.R_reads' HO785.out).2.1)
  (case side5 => exact kD (Kd.R_reads' HO789.out).2.2)
  (case side6 => exact (Kd.R_reads' HO789.out).2.1)
  (case side7 => exact kD (Kd.R_reads' HO792.out).2.2)
  (case side8 => exact (Kd.R_reads' HO792.out).2.1)
  rintro e w57 ⟨rfl, hb⟩
  refine ⟨_, rfl, ?_⟩
  replace HO725 := kO HO725 hb
  replace HO728 := kO HO728 hb
  replace HO741 := kO HO741 hb
  replace HO744 := kO HO744 hb
  replace HO748 := kO HO748 hb
  replace HO751 := kO HO751 hb
  replace HO755 := kO HO755 hb
  replace HO758 := kO HO758 hb
  replace HO782 := kO HO782 hb
  replace HO785 := kO HO785 hb
  replace HO789 := kO HO789 hb
  replace HO792 := kO HO792 hb
  replace BK720 := kB BK720 hb
  replace BK721 := kB BK721 hb
  replace BK737 := kB BK737 hb
  replace BK760 := kB BK760 hb
  replace HB := kH _ hb
  (try clear hb)
  (try clear hb2)
  (try clear hk)
  (try clear hi)
  refine hK.out _ _ ⟨bc BK737 0, bc BK737 1, bc BK737 2, bc BK720 0, bc BK720 1, bc BK720 2⟩ (fun hHeld => ?_)
  clear hK K
  refine norm_ (a' := ?_) ?_ ?_
  rotate_left
  ·show Act.put _ (some 53) _ = _
   simp only [Act.put, List.setIfInBounds_toArray, List.set_cons_zero, List.set_cons_succ, i64_w, i32_w]
   rfl
  refine pS 5 54 14 63 ?_
  refine pS 6 55 14 127 ?_
  refine pS 7 56 14 255 ?_
  refine pS 8 57 14 511 ?_
  refine pS 9 58 14 1023 ?_
  refine pS 10 59 14 2047 ?_
  refine one_ (i := 11) (N := some 60) (ba 14 4095) rfl rfl (one_of HT_.out (by kernel_rfl)) (by decide) (fun K hK => ?_)
  refine gC Try.func17 #[] ?_
  with_reducible refine (congoulaw04_awake.calls k  t794 _ A49.out).mono ?_
  rintro e w58 ⟨rfl, hb⟩
  refine ⟨_, rfl, ?_⟩
  replace HO725 := kO HO725 hb
  replace HO728 := kO HO728 hb
  replace HO741 := kO HO741 hb
  replace HO744 := kO HO744 hb
  replace HO748 := kO HO748 hb
  replace HO751 := kO HO751 hb
  replace HO755 := kO HO755 hb
  replace HO758 := kO HO758 hb
  replace HO782 := kO HO782 hb
  replace HO785 := kO HO785 hb
  replace HO789 := kO HO789 hb
  replace HO792 := kO HO792 hb
  replace BK720 := kB BK720 hb
  replace BK721 := kB BK721 hb
  replace BK737 := kB BK737 hb
  replace BK760 := kB BK760 hb
  replace HB := kH _ hb
  (try clear hb)
  (try clear hb2)
  (try clear hk)
  (try clear hi)
  refine hK.out _ _ ⟨bc BK737 0, bc BK737 1, bc BK737 2, bc BK720 0, bc BK720 1, bc BK720 2⟩ (fun hHeld => ?_)
  clear hK K
  refine norm_ (a' := ?_) ?_ ?_
  rotate_left
  ·show Act.put _ (some 60) _ = _
   simp only [Act.put, List.setIfInBounds_toArray, List.set_cons_zero, List.set_cons_succ, i64_w, i32_w]
   rfl
  refine pS 12 61 14 8191 ?_
  refine pS 13 62 14 16383 ?_
  refine done_ (done_of HT_.out (by kernel_rfl)) ?_
  try go_wp2
  go_meet
  case rel => exact ⟨_, (!t794), (by first | rfl | (simp; done) | (simp [*]; done)), H', ⟨by first | omega | exact Nat.le_refl _⟩, ⟨rD (Kd.R_mono HO755.out (fun _ hk => hk.1.1.2.2.2.2.2.2.1))⟩, ⟨rD (Kd.R_mono HO758.out (fun _ hk => hk.1.1.2.2.2.2.2.2.1))⟩, ⟨bkC BK720⟩, ⟨bkC BK721⟩, ⟨bkC BK760⟩, ⟨hbC _⟩⟩
 case rest =>
  clear HC10
  try clear c1
  try clear p2
  try clear c3
  try clear c4
  try clear c30
  try clear c31
  try clear c36
  try clear c47
  obtain ⟨kq, x62_9, rfl, HA, HJ9, HO_761001, HO_761002, BK720, BK721, BK760, HB⟩ := hcut
  cases kq with
  | zero => exact absurd HA.out (by simp [congoulaw04_CurvesMirrors.j0])
  | succ kj9 =>
   have H := HA.out
   clear HA
   simp only [congoulaw04_CurvesMirrors.j0] at H
   by_cases c75 : x62_9 = true
   ·subst c75
    have H1 : (some false) = some r := by rw [if_pos rfl] at H; exact H
    clear H
    have H := H1
    clear H1
    exact absurd (H.trans (congrArg some HRT.out)) (by simp)
   replace c75 := Bool.eq_false_iff.mpr c75
   subst c75
   have H1 : ((congouref04_Valid.f kj9 a1_0 l1_1 l1_2).bind fun t795 => (if t795 = true then ((congouref04_Like.f kj9 a0_0 l0_1 l0_2 a1_0 l1_1 l1_2).bind fun t796 => (congoulaw04_CurvesMirrors.j1 kj9 t759 (!t796) a0_0 l0_1 l0_2 a1_0 l1_1 l1_2 t752 t753 t756)) else (congoulaw04_CurvesMirrors.j1 kj9 t759 true a0_0 l0_1 l0_2 a1_0 l1_1 l1_2 t752 t753 t756))) = some r := by rw [if_neg (show ¬ (false = true) by decide)] at H; exact H
   clear H
   have H := H1
   clear H1
   have HC76 := Aside0.mk H
   clear H
   go_upto_region 7 with (fail)
   go_cut [71] (fun v71 wc => ∃ (kq : Nat) (x71_75 : Bool), v71 = .bool x71_75 ∧ Aside0 (congoulaw04_CurvesMirrors.j1 kq t759 x71_75 a0_0 l0_1 l0_2 a1_0 l1_1 l1_2 t752 t753 t756 = some r) ∧ Aside0 (kq ≤ kj9) ∧ Aside0 (Kd.R (Kd.int .i64) 3 wc w.heap.size (fun k_ => some k_ ≠ ((.slice Ao39 t756.length co39) : Value).ownBlock) (.slice Ao37 t753.length co37) t753) ∧ Aside0 (Kd.R (Kd.int .i64) 3 wc w.heap.size (fun k_ => some k_ ≠ ((.slice Ao37 t753.length co37) : Value).ownBlock) (.slice Ao39 t756.length co39) t756) ∧ Aside0 (wc.heap[gb720]? = some (.cells #[.int .i64 a0_0, (.slice A0_1 l0_1.length c0_1), (.slice A0_2 l0_2.length c0_2)] 24 (0, 0))) ∧ Aside0 (wc.heap[gb721]? = some (.cells #[.int .i64 a1_0, (.slice A1_1 l1_1.length c1_1), (.slice A1_2 l1_2.length c1_2)] 24 (0, 0))) ∧ Aside0 (wc.heap[gb760]? = some (.cells #[.int .i64 t752, (.slice Ao37 t753.length co37), (.slice Ao39 t756.length co39)] 30 (0, 0))) ∧ Aside0 (Below w.heap.size w wc))
   case first =>
    have H := HC76.out
    clear HC76
    replace H := Option.bind_eq_some_iff.mp H
    obtain ⟨t795, A770, H⟩ := H
    replace H : (if t795 = true then ((congouref04_Like.f kj9 a0_0 l0_1 l0_2 a1_0 l1_1 l1_2).bind fun t796 => (congoulaw04_CurvesMirrors.j1 kj9 t759 (!t796) a0_0 l0_1 l0_2 a1_0 l1_1 l1_2 t752 t753 t756)) else (congoulaw04_CurvesMirrors.j1 kj9 t759 true a0_0 l0_1 l0_2 a1_0 l1_1 l1_2 t752 t753 t756)) = some r := H
    have A77 := Aside0.mk A770
    clear A770
    by_cases c78 : t795 = true
    rotate_left
    ·replace c78 := Bool.eq_false_iff.mpr c78
     subst c78
     have H1 : (congoulaw04_CurvesMirrors.j1 kj9 t759 true a0_0 l0_1 l0_2 a1_0 l1_1 l1_2 t752 t753 t756) = some r := by rw [if_neg (show ¬ (false = true) by decide)] at H; exact H
     clear H
     have H := H1
     clear H1
     have H' := Aside0.mk H
     clear H
     have hnb88 := NB721_720.out
     have hnc88 := NB720_721.out
     have hnb89 := NB721_760.out
     have hnc89 := NB760_721.out
     have hcz90_0 : wc.cell? ⟨gb721, 0, none⟩ = some (.int .i64 a1_0) := bc BK721 0
     have hcz90_1 : wc.cell? ⟨gb721, 1, none⟩ = some (.slice A1_1 l1_1.length c1_1) := bc BK721 1
     have hcz90_2 : wc.cell? ⟨gb721, 2, none⟩ = some (.slice A1_2 l1_2.length c1_2) := bc BK721 2
     have hfz90_0 := fz BK721 0
     have hfz90_1 := fz BK721 1
     have hfz90_2 := fz BK721 2
     go_wp2_with (first | ((with_reducible refine gate_callee (f := 29) rfl ?_); refine gL 64 Try.func29 #[.agg #[.int .i64 a1_0, .slice A1_1 l1_1.length c1_1, .slice A1_2 l1_2.length c1_2]] ?_; (with_reducible refine (congouref04_Valid.calls kj9 a1_0 _ _ l1_1 _ _ l1_2 false _ ?side1 ?side2 ?side3 ?side4 A77.out).mono ?_); (case side1 => exact kC HR1_1); (case side2 => exact HC1_1.out); (case side3 => exact kC HR1_2); (case side4 => exact HC1_2.out); rintro e w91 ⟨rfl, hb⟩; refine ⟨_, rfl, ?_⟩; replace HO_761001 := kO HO_761001 hb; replace HO_761002 := kO HO_761002 hb; replace BK720 := kB BK720 hb; replace BK721 := kB BK721 hb; replace BK760 := kB BK760 hb; replace HB := kH _ hb; (try clear hb); (try clear hb2); (try clear hk); (try clear hi)))
     go_meet
     case rel => exact ⟨_, (true), (by first | rfl | (simp; done) | (simp [*]; done)), H', ⟨by have := HJ9.out; first | omega | exact Nat.le_refl _⟩, ⟨rC HO_761001⟩, ⟨rC HO_761002⟩, ⟨bkC BK720⟩, ⟨bkC BK721⟩, ⟨bkC BK760⟩, ⟨hbC _⟩⟩
    subst c78
    have H1 : ((congouref04_Like.f kj9 a0_0 l0_1 l0_2 a1_0 l1_1 l1_2).bind fun t796 => (congoulaw04_CurvesMirrors.j1 kj9 t759 (!t796) a0_0 l0_1 l0_2 a1_0 l1_1 l1_2 t752 t753 t756)) = some r := by rw [if_pos rfl] at H; exact H
    clear H
    have H := H1
    clear H1
    replace H := Option.bind_eq_some_iff.mp H
    obtain ⟨t796, A790, H⟩ := H
    replace H : (congoulaw04_CurvesMirrors.j1 kj9 t759 (!t796) a0_0 l0_1 l0_2 a1_0 l1_1 l1_2 t752 t753 t756) = some r := H
    have A79 := Aside0.mk A790
    clear A790
    have H' := Aside0.mk H
    clear H
    have hnb80 := NB721_720.out
    have hnc80 := NB720_721.out
    have hnb81 := NB721_760.out
    have hnc81 := NB760_721.out
    have hcz82_0 : wc.cell? ⟨gb721, 0, none⟩ = some (.int .i64 a1_0) := bc BK721 0
    have hcz82_1 : wc.cell? ⟨gb721, 1, none⟩ = some (.slice A1_1 l1_1.length c1_1) := bc BK721 1
    have hcz82_2 : wc.cell? ⟨gb721, 2, none⟩ = some (.slice A1_2 l1_2.length c1_2) := bc BK721 2
    have hfz82_0 := fz BK721 0
    have hfz82_1 := fz BK721 1
    have hfz82_2 := fz BK721 2
    go_wp2_with (first | ((with_reducible refine gate_callee (f := 29) rfl ?_); refine gL 64 Try.func29 #[.agg #[.int .i64 a1_0, .slice A1_1 l1_1.length c1_1, .slice A1_2 l1_2.length c1_2]] ?_; (with_reducible refine (congouref04_Valid.calls kj9 a1_0 _ _ l1_1 _ _ l1_2 true _ ?side1 ?side2 ?side3 ?side4 A77.out).mono ?_); (case side1 => exact kC HR1_1); (case side2 => exact HC1_1.out); (case side3 => exact kC HR1_2); (case side4 => exact HC1_2.out); rintro e w83 ⟨rfl, hb⟩; refine ⟨_, rfl, ?_⟩; replace HO_761001 := kO HO_761001 hb; replace HO_761002 := kO HO_761002 hb; replace BK720 := kB BK720 hb; replace BK721 := kB BK721 hb; replace BK760 := kB BK760 hb; replace HB := kH _ hb; (try clear hb); (try clear hb2); (try clear hk); (try clear hi); have hnb84 := NB720_760.out; have hnc84 := NB760_720.out; have hcz85_0 : w83.cell? ⟨gb720, 0, none⟩ = some (.int .i64 a0_0) := bc BK720 0; have hcz85_1 : w83.cell? ⟨gb720, 1, none⟩ = some (.slice A0_1 l0_1.length c0_1) := bc BK720 1; have hcz85_2 : w83.cell? ⟨gb720, 2, none⟩ = some (.slice A0_2 l0_2.length c0_2) := bc BK720 2; have hfz85_0 := fz BK720 0; have hfz85_1 := fz BK720 1; have hfz85_2 := fz BK720 2; have hcz86_0 : w83.cell? ⟨gb721, 0, none⟩ = some (.int .i64 a1_0) := bc BK721 0; have hcz86_1 : w83.cell? ⟨gb721, 1, none⟩ = some (.slice A1_1 l1_1.length c1_1) := bc BK721 1; have hcz86_2 : w83.cell? ⟨gb721, 2, none⟩ = some (.slice A1_2 l1_2.length c1_2) := bc BK721 2; have hfz86_0 := fz BK721 0; have hfz86_1 := fz BK721 1; have hfz86_2 := fz BK721 2) | (go_at_call 37; (with_reducible refine (congouref04_Like.calls kj9 a0_0 _ _ l0_1 _ _ l0_2 a1_0 _ _ l1_1 _ _ l1_2 t796 _ ?side1 ?side2 ?side3 ?side4 ?side5 ?side6 ?side7 ?side8 A79.out).mono ?_); (case side1 => exact kC HR0_1); (case side2 => exact HC0_1.out); (case side3 => exact kC HR0_2); (case side4 => exact HC0_2.out); (case side5 => exact kC HR1_1); (case side6 => exact HC1_1.out); (case side7 => exact kC HR1_2); (case side8 => exact HC1_2.out); rintro e w87 ⟨rfl, hb⟩; replace HO_761001 := kO HO_761001 hb; replace HO_761002 := kO HO_761002 hb; replace BK720 := kB BK720 hb; replace BK721 := kB BK721 hb; replace BK760 := kB BK760 hb; replace HB := kH _ hb; (try clear hb); (try clear hb2); (try clear hk); (try clear hi)))
    go_meet
    case rel => exact ⟨_, (!t796), (by first | rfl | (simp; done) | (simp [*]; done)), H', ⟨by have := HJ9.out; first | omega | exact Nat.le_refl _⟩, ⟨rC HO_761001⟩, ⟨rC HO_761002⟩, ⟨bkC BK720⟩, ⟨bkC BK721⟩, ⟨bkC BK760⟩, ⟨hbC _⟩⟩
   case rest =>
    clear HC76
    try clear c1
    try clear c2
    try clear p2
    try clear c3
    try clear c4
    try clear c7
    try clear c8
    try clear c29
    try clear c30
    try clear c31
    try clear c36
    try clear c47
    try clear c75
    try clear c78
    try clear c80
    try clear c81
    try clear c84
    try clear c88
    try clear c89
    try clear hcz82_0
    try clear hcz82_1
    try clear hcz82_2
    try clear hcz85_0
    try clear hcz85_1
    try clear hcz85_2
    try clear hcz86_0
    try clear hcz86_1
    try clear hcz86_2
    try clear hcz90_0
    try clear hcz90_1
    try clear hcz90_2
    try clear hfz82_0
    try clear hfz82_1
    try clear hfz82_2
    try clear hfz85_0
    try clear hfz85_1
    try clear hfz85_2
    try clear hfz86_0
    try clear hfz86_1
    try clear hfz86_2
    try clear hfz90_0
    try clear hfz90_1
    try clear hfz90_2
    try clear p2
    obtain ⟨kq, x71_75, rfl, HA, HJ75, HO_761001, HO_761002, BK720, BK721, BK760, HB⟩ := hcut
    cases kq with
    | zero => exact absurd HA.out (by simp [congoulaw04_CurvesMirrors.j1])
    | succ kj75 =>
     have H := HA.out
     clear HA
     simp only [congoulaw04_CurvesMirrors.j1] at H
     by_cases c92 : x71_75 = true
     ·subst c92
      have H1 : ((congoulaw04_own.f t752 t753 t756).bind fun bt797 => ((congoulaw04_same.f kj75 bt797.1 bt797.2.1 bt797.2.2 0 ([] : List Int) ([] : List Int)).bind fun t804 => (if t804 = true then (some (t759 == 2)) else (some false)))) = some r := by rw [if_pos rfl] at H; exact H
      clear H
      have H := H1
      clear H1
      replace H := Option.bind_eq_some_iff.mp H
      obtain ⟨⟨t797, t798, t801⟩, A930, H⟩ := H
      replace H : ((congoulaw04_same.f kj75 t797 t798 t801 0 ([] : List Int) ([] : List Int)).bind fun t804 => (if t804 = true then (some (t759 == 2)) else (some false))) = some r := H
      have A93 := Aside0.mk A930
      clear A930
      replace H := Option.bind_eq_some_iff.mp H
      obtain ⟨t804, A940, H⟩ := H
      replace H : (if t804 = true then (some (t759 == 2)) else (some false)) = some r := H
      have A94 := Aside0.mk A940
      clear A940
      by_cases c95 : t804 = true
      rotate_left
      ·replace c95 := Bool.eq_false_iff.mpr c95
       subst c95
       have H1 : (some false) = some r := by rw [if_neg (show ¬ (false = true) by decide)] at H; exact H
       clear H
       have H := H1
       clear H1
       exact absurd (H.trans (congrArg some HRT.out)) (by simp)
      subst c95
      have H1 : (some (t759 == 2)) = some r := by rw [if_pos rfl] at H; exact H
      clear H
      have H := H1
      clear H1
      obtain rfl := Option.some.inj H
      have hnb96 := NB760_720.out
      have hnc96 := NB720_760.out
      have hnb97 := NB760_721.out
      have hnc97 := NB721_760.out
      have hcz98_0 : wc.cell? ⟨gb760, 0, none⟩ = some (.int .i64 t752) := bc BK760 0
      have hcz98_1 : wc.cell? ⟨gb760, 1, none⟩ = some (.slice Ao37 t753.length co37) := bc BK760 1
      have hcz98_2 : wc.cell? ⟨gb760, 2, none⟩ = some (.slice Ao39 t756.length co39) := bc BK760 2
      have hfz98_0 := fz BK760 0
      have hfz98_1 := fz BK760 1
      have hfz98_2 := fz BK760 2
      go_wp2_with (first | ((with_reducible refine gate_callee (f := 30) rfl ?_); refine gL 73 Try.func30 #[.agg #[.int .i64 t752, .slice Ao37 t753.length co37, .slice Ao39 t756.length co39]] ?_; (with_reducible refine (congoulaw04_own.calls t752 (fun k_ => some k_ = (.slice Ao37 t753.length co37 : Value).ownBlock) (.slice Ao37 t753.length co37) t753 (fun k_ => some k_ = (.slice Ao39 t756.length co39 : Value).ownBlock) (.slice Ao39 t756.length co39) t756 t797 t798 t801 w _ ?side1 ?side2 ?side3 ?side4 ?side5 A93.out).mono ?_); (case side1 => repeat (first | (with_reducible first | exact HB.out | apply below_alloc | apply pw_below_drewN | apply below_drew1 | refine below_set ?_ GE720.out | refine below_set ?_ GE721.out | refine below_set ?_ GE760.out) | exact HB.out)); (case side2 => exact Kd.R_tight rfl HO_761001.out); (case side3 => exact fun k_ e_ => (HO_761001.out.1 k_ e_.symm)); (case side4 => exact Kd.R_tight rfl HO_761002.out); (case side5 => exact fun k_ e_ => (HO_761002.out.1 k_ e_.symm)); rintro e w99 ⟨v799, v802, rfl, ho0, ho1, hb, hkp⟩; refine ⟨_, rfl, ?_⟩; have n0_ := ak (blk_kept (bkC BK720) hkp (fun hs_ => Or.elim hs_ (fun e_ => (fun e_ => (Kd.R_ne HO_761001.out BK720.out (by decide)) e_) e_) (fun e_ => (fun e_ => (Kd.R_ne HO_761002.out BK720.out (by decide)) e_) e_))); have n1_ := ak (blk_kept (bkC BK721) hkp (fun hs_ => Or.elim hs_ (fun e_ => (fun e_ => (Kd.R_ne HO_761001.out BK721.out (by decide)) e_) e_) (fun e_ => (fun e_ => (Kd.R_ne HO_761002.out BK721.out (by decide)) e_) e_))); have n2_ := ak (blk_kept (bkC BK760) hkp (fun hs_ => Or.elim hs_ (fun e_ => (fun e_ => (Kd.R_ne HO_761001.out BK760.out (by decide)) e_) e_) (fun e_ => (fun e_ => (Kd.R_ne HO_761002.out BK760.out (by decide)) e_) e_))); have n3_ := ak (Kd.R_mono (ok' := fun k_ => nb k_ v802) ho0 (fun k_ hk_ => hk_.2)); have n4_ := ak (Kd.R_mono (ok' := fun k_ => nb k_ v799) ho1 (fun k_ hk_ => hk_.2)); have n5_ := ak (hb); clear BK720; clear BK721; clear BK760; clear HB; clear HO_761001; clear HO_761002; have BK720 := n0_; have BK721 := n1_; have BK760 := n2_; have HO800 := n3_; have HO803 := n4_; have HB := n5_; clear n0_ n1_ n2_ n3_ n4_ n5_; (try clear hb); (try clear hkp); (try clear ho0); (try clear ho1); obtain ⟨Ao100, co100, eo100⟩ := Kd.R_slice HO800.out; subst eo100; obtain ⟨Ao101, co101, eo101⟩ := Kd.R_slice HO803.out; subst eo101) | ((with_reducible refine gate_callee (f := 31) rfl ?_); refine gL 75 Try.func31 #[.agg #[.int .i64 t797, .slice Ao100 t798.length co100, .slice Ao101 t801.length co101], .agg #[.int .i64 0, .slice none 0 0, .slice none 0 0]] ?_; (refine (congoulaw04_same.calls kj75 t797 _ _ t798 _ _ t801 0 _ _ ([] : List Int) _ _ ([] : List Int) true _ ?side1 ?side2 ?side3 ?side4 ?side5 ?side6 ?side7 ?side8 A94.out).mono ?_); (case side1 => exact kD (Kd.R_reads' HO800.out).2.2); (case side2 => exact (Kd.R_reads' HO800.out).2.1); (case side3 => exact kD (Kd.R_reads' HO803.out).2.2); (case side4 => exact (Kd.R_reads' HO803.out).2.1); (case side5 => exact Kd.C_nil _ _); (case side6 => exact Nat.le_refl _); (case side7 => exact Kd.C_nil _ _); (case side8 => exact Nat.le_refl _); rintro e w102 ⟨rfl, hb⟩; refine ⟨_, rfl, ?_⟩; replace HO800 := kO HO800 hb; replace HO803 := kO HO803 hb; replace BK720 := kB BK720 hb; replace BK721 := kB BK721 hb; replace BK760 := kB BK760 hb; replace HB := kH _ hb; (try clear hb); (try clear hb2); (try clear hk); (try clear hi)))
      go_ret
      exact ⟨by first | rfl | (simp [errW_none, errW_some] <;> rfl) | (simp [*, errW_none, errW_some] <;> rfl), hbC _⟩
     replace c92 := Bool.eq_false_iff.mpr c92
     subst c92
     have H1 : ((congouref04_Added.f kj75 a0_0 l0_1 l0_2 a1_0 l1_1 l1_2).bind fun bt805 => ((congoulaw04_own.f t752 t753 t756).bind fun bt814 => ((congoulaw04_same.f kj75 bt814.1 bt814.2.1 bt814.2.2 bt805.1 bt805.2.1 bt805.2.2.1).bind fun t821 => (if t821 = true then (some (t759 == bt805.2.2.2)) else (some false))))) = some r := by rw [if_neg (show ¬ (false = true) by decide)] at H; exact H
     clear H
     have H := H1
     clear H1
     replace H := Option.bind_eq_some_iff.mp H
     obtain ⟨⟨t805, t806, t809, t812⟩, A1030, H⟩ := H
     replace H : ((congoulaw04_own.f t752 t753 t756).bind fun bt814 => ((congoulaw04_same.f kj75 bt814.1 bt814.2.1 bt814.2.2 t805 t806 t809).bind fun t821 => (if t821 = true then (some (t759 == t812)) else (some false)))) = some r := H
     have A103 := Aside0.mk A1030
     clear A1030
     replace H := Option.bind_eq_some_iff.mp H
     obtain ⟨⟨t814, t815, t818⟩, A1040, H⟩ := H
     replace H : ((congoulaw04_same.f kj75 t814 t815 t818 t805 t806 t809).bind fun t821 => (if t821 = true then (some (t759 == t812)) else (some false))) = some r := H
     have A104 := Aside0.mk A1040
     clear A1040
     replace H := Option.bind_eq_some_iff.mp H
     obtain ⟨t821, A1050, H⟩ := H
     replace H : (if t821 = true then (some (t759 == t812)) else (some false)) = some r := H
     have A105 := Aside0.mk A1050
     clear A1050
     by_cases c106 : t821 = true
     rotate_left
     ·replace c106 := Bool.eq_false_iff.mpr c106
      subst c106
      have H1 : (some false) = some r := by rw [if_neg (show ¬ (false = true) by decide)] at H; exact H
      clear H
      have H := H1
      clear H1
      exact absurd (H.trans (congrArg some HRT.out)) (by simp)
     subst c106
     have H1 : (some (t759 == t812)) = some r := by rw [if_pos rfl] at H; exact H
     clear H
     have H := H1
     clear H1
     obtain rfl := Option.some.inj H
     have hnb107 := NB720_721.out
     have hnc107 := NB721_720.out
     have hnb108 := NB720_760.out
     have hnc108 := NB760_720.out
     have hcz109_0 : wc.cell? ⟨gb720, 0, none⟩ = some (.int .i64 a0_0) := bc BK720 0
     have hcz109_1 : wc.cell? ⟨gb720, 1, none⟩ = some (.slice A0_1 l0_1.length c0_1) := bc BK720 1
     have hcz109_2 : wc.cell? ⟨gb720, 2, none⟩ = some (.slice A0_2 l0_2.length c0_2) := bc BK720 2
     have hfz109_0 := fz BK720 0
     have hfz109_1 := fz BK720 1
     have hfz109_2 := fz BK720 2
     have hnb110 := NB721_760.out
     have hnc110 := NB760_721.out
     have hcz111_0 : wc.cell? ⟨gb721, 0, none⟩ = some (.int .i64 a1_0) := bc BK721 0
     have hcz111_1 : wc.cell? ⟨gb721, 1, none⟩ = some (.slice A1_1 l1_1.length c1_1) := bc BK721 1
     have hcz111_2 : wc.cell? ⟨gb721, 2, none⟩ = some (.slice A1_2 l1_2.length c1_2) := bc BK721 2
     have hfz111_0 := fz BK721 0
     have hfz111_1 := fz BK721 1
     have hfz111_2 := fz BK721 2
     try go_wp2_with (first | ((with_reducible refine gate_callee (f := 38) rfl ?_); refine gL 83 Try.func38 #[.agg #[.int .i64 a0_0, .slice A0_1 l0_1.length c0_1, .slice A0_2 l0_2.length c0_2], .agg #[.int .i64 a1_0, .slice A1_1 l1_1.length c1_1, .slice A1_2 l1_2.length c1_2]] ?_; (with_reducible refine (congouref04_Added.calls kj75 a0_0 _ _ l0_1 _ _ l0_2 a1_0 _ _ l1_1 _ _ l1_2 t805 t806 t809 t812 _ ?side1 ?side2 ?side3 ?side4 ?side5 ?side6 ?side7 ?side8 A103.out).mono ?_); (case side1 => exact kC HR0_1); (case side2 => exact HC0_1.out); (case side3 => exact kC HR0_2); (case side4 => exact HC0_2.out); (case side5 => exact kC HR1_1); (case side6 => exact HC1_1.out); (case side7 => exact kC HR1_2); (case side8 => exact HC1_2.out); rintro e w112 ⟨v807, v810, rfl, ho0, ho1, hb⟩; refine ⟨_, rfl, ?_⟩; have HO808 := ak (Kd.R_lower (Kd.R_new' (Kd.R_new' ho0 (Kd.R_lt (rC HO_761001))) (Kd.R_lt (rC HO_761002))) (below_size (hbC _))); have HO811 := ak (Kd.R_lower (Kd.R_new' (Kd.R_new' ho1 (Kd.R_lt (rC HO_761001))) (Kd.R_lt (rC HO_761002))) (below_size (hbC _))); replace HO_761001 := kT HO_761001 hb ho0 ho1; replace HO_761002 := kT HO_761002 hb ho0 ho1; replace BK720 := kB BK720 hb; replace BK721 := kB BK721 hb; replace BK760 := kB BK760 hb; replace HB := kH _ hb; (try clear hb); (try clear hb2); (try clear hk); (try clear hi); (try clear ho0); (try clear ho1)) | ((with_reducible refine gate_dst (N := 9) rfl ?_); refine bE 9 #[.int .i64 0, .slice none 0 0, .slice none 0 0] 24 ?_; intro gb813 hg w113 hbox hb; replace HO_761001 := kO HO_761001 hb; replace HO_761002 := kO HO_761002 hb; replace HO808 := kO HO808 hb; replace HO811 := kO HO811 hb; have BK813 := ak (hbox); have GW813 := kG w hg; have GE813 := kG w hg; replace HB := kH _ hb; have NB720_813 := kL BK720 hg; have NB813_720 := kR BK720 hg; replace BK720 := kB BK720 hb; have NB721_813 := kL BK721 hg; have NB813_721 := kR BK721 hg; replace BK721 := kB BK721 hb; have NB760_813 := kL BK760 hg; have NB813_760 := kR BK760 hg; replace BK760 := kB BK760 hb; clear hb hbox hg; have hnb114 := NB813_720.out; have hnc114 := NB720_813.out; have hnb115 := NB813_721.out; have hnc115 := NB721_813.out; have hnb116 := NB813_760.out; have hnc116 := NB760_813.out; have hcz117_0 : w113.cell? ⟨gb813, 0, none⟩ = some (.int .i64 0) := bc BK813 0; have hcz117_1 : w113.cell? ⟨gb813, 1, none⟩ = some (.slice none 0 0) := bc BK813 1; have hcz117_2 : w113.cell? ⟨gb813, 2, none⟩ = some (.slice none 0 0) := bc BK813 2; have hfz117_0 := fz BK813 0; have hfz117_1 := fz BK813 1; have hfz117_2 := fz BK813 2; obtain ⟨Ao118, co118, eo118⟩ := Kd.R_slice HO808.out; subst eo118; obtain ⟨Ao119, co119, eo119⟩ := Kd.R_slice HO811.out; subst eo119))
     have n0_ : Aside0 (Kd.R (Kd.int .i64) 3 (((w113.setCell ⟨gb813, 0, none⟩ (.int .i64 t805)).setCell ⟨gb813, 1, none⟩ (.slice Ao118 t806.length co118)).setCell ⟨gb813, 2, none⟩ (.slice Ao119 t809.length co119)) w.heap.size (fun k_ => nb k_ (.slice Ao39 t756.length co39) ∧ nb k_ (.slice Ao118 t806.length co118) ∧ nb k_ (.slice Ao119 t809.length co119)) (.slice Ao37 t753.length co37) t753) := ⟨rD (Kd.R_mono (Kd.R_far (p := ⟨gb813, 2, none⟩) (Kd.R_far (p := ⟨gb813, 1, none⟩) (Kd.R_far (p := ⟨gb813, 0, none⟩) (Kd.R_types HO_761001.out BK813.out (by decide)) (fun _ hk => hk.2) (.int .i64 t805)) (fun _ hk => hk.2) (.slice Ao118 t806.length co118)) (fun _ hk => hk.2) (.slice Ao119 t809.length co119)) (fun _ hk => ⟨hk.1.1.1, ⟨hk.1.1.2, hk.1.2⟩⟩))⟩
     have n1_ : Aside0 (Kd.R (Kd.int .i64) 3 (((w113.setCell ⟨gb813, 0, none⟩ (.int .i64 t805)).setCell ⟨gb813, 1, none⟩ (.slice Ao118 t806.length co118)).setCell ⟨gb813, 2, none⟩ (.slice Ao119 t809.length co119)) w.heap.size (fun k_ => nb k_ (.slice Ao37 t753.length co37) ∧ nb k_ (.slice Ao118 t806.length co118) ∧ nb k_ (.slice Ao119 t809.length co119)) (.slice Ao39 t756.length co39) t756) := ⟨rD (Kd.R_mono (Kd.R_far (p := ⟨gb813, 2, none⟩) (Kd.R_far (p := ⟨gb813, 1, none⟩) (Kd.R_far (p := ⟨gb813, 0, none⟩) (Kd.R_types HO_761002.out BK813.out (by decide)) (fun _ hk => hk.2) (.int .i64 t805)) (fun _ hk => hk.2) (.slice Ao118 t806.length co118)) (fun _ hk => hk.2) (.slice Ao119 t809.length co119)) (fun _ hk => ⟨hk.1.1.1, ⟨hk.1.1.2, hk.1.2⟩⟩))⟩
     have n2_ : Aside0 (Kd.R (Kd.int .i64) 3 (((w113.setCell ⟨gb813, 0, none⟩ (.int .i64 t805)).setCell ⟨gb813, 1, none⟩ (.slice Ao118 t806.length co118)).setCell ⟨gb813, 2, none⟩ (.slice Ao119 t809.length co119)) w.heap.size (fun k_ => nb k_ (.slice Ao37 t753.length co37) ∧ nb k_ (.slice Ao39 t756.length co39) ∧ nb k_ (.slice Ao119 t809.length co119)) (.slice Ao118 t806.length co118) t806) := ⟨rD (Kd.R_mono (Kd.R_far (p := ⟨gb813, 2, none⟩) (Kd.R_far (p := ⟨gb813, 1, none⟩) (Kd.R_far (p := ⟨gb813, 0, none⟩) (Kd.R_types HO808.out BK813.out (by decide)) (fun _ hk => hk.2) (.int .i64 t805)) (fun _ hk => hk.2) (.slice Ao118 t806.length co118)) (fun _ hk => hk.2) (.slice Ao119 t809.length co119)) (fun _ hk => ⟨hk.1.1.2, ⟨hk.1.2, hk.1.1.1⟩⟩))⟩
     have n3_ : Aside0 (Kd.R (Kd.int .i64) 3 (((w113.setCell ⟨gb813, 0, none⟩ (.int .i64 t805)).setCell ⟨gb813, 1, none⟩ (.slice Ao118 t806.length co118)).setCell ⟨gb813, 2, none⟩ (.slice Ao119 t809.length co119)) w.heap.size (fun k_ => nb k_ (.slice Ao37 t753.length co37) ∧ nb k_ (.slice Ao39 t756.length co39) ∧ nb k_ (.slice Ao118 t806.length co118)) (.slice Ao119 t809.length co119) t809) := ⟨rD (Kd.R_mono (Kd.R_far (p := ⟨gb813, 2, none⟩) (Kd.R_far (p := ⟨gb813, 1, none⟩) (Kd.R_far (p := ⟨gb813, 0, none⟩) (Kd.R_types HO811.out BK813.out (by decide)) (fun _ hk => hk.2) (.int .i64 t805)) (fun _ hk => hk.2) (.slice Ao118 t806.length co118)) (fun _ hk => hk.2) (.slice Ao119 t809.length co119)) (fun _ hk => ⟨hk.1.1.2, ⟨hk.1.2, hk.1.1.1⟩⟩))⟩
     have n4_ : Aside0 ((((w113.setCell ⟨gb813, 0, none⟩ (.int .i64 t805)).setCell ⟨gb813, 1, none⟩ (.slice Ao118 t806.length co118)).setCell ⟨gb813, 2, none⟩ (.slice Ao119 t809.length co119)).heap[gb720]? = some (.cells #[.int .i64 a0_0, .slice A0_1 l0_1.length c0_1, .slice A0_2 l0_2.length c0_2] 24 (0, 0))) := ⟨bF BK720⟩
     have n5_ : Aside0 ((((w113.setCell ⟨gb813, 0, none⟩ (.int .i64 t805)).setCell ⟨gb813, 1, none⟩ (.slice Ao118 t806.length co118)).setCell ⟨gb813, 2, none⟩ (.slice Ao119 t809.length co119)).heap[gb721]? = some (.cells #[.int .i64 a1_0, .slice A1_1 l1_1.length c1_1, .slice A1_2 l1_2.length c1_2] 24 (0, 0))) := ⟨bF BK721⟩
     have n6_ : Aside0 ((((w113.setCell ⟨gb813, 0, none⟩ (.int .i64 t805)).setCell ⟨gb813, 1, none⟩ (.slice Ao118 t806.length co118)).setCell ⟨gb813, 2, none⟩ (.slice Ao119 t809.length co119)).heap[gb760]? = some (.cells #[.int .i64 t752, .slice Ao37 t753.length co37, .slice Ao39 t756.length co39] 30 (0, 0))) := ⟨bF BK760⟩
     have n7_ : Aside0 ((((w113.setCell ⟨gb813, 0, none⟩ (.int .i64 t805)).setCell ⟨gb813, 1, none⟩ (.slice Ao118 t806.length co118)).setCell ⟨gb813, 2, none⟩ (.slice Ao119 t809.length co119)).heap[gb813]? = some (.cells #[.int .i64 t805, .slice Ao118 t806.length co118, .slice Ao119 t809.length co119] 24 (0, 0))) := ⟨by (with_reducible repeat (first | refine blk_drewN ?_ _ | refine blk_drew ?_ | refine blk_alloc ?_ _)); refine blk_put (cs := #[.int .i64 t805, .slice Ao118 t806.length co118, .slice none 0 0]) ?_ 2 _ rfl; (with_reducible repeat (first | refine blk_drewN ?_ _ | refine blk_drew ?_ | refine blk_alloc ?_ _)); refine blk_put (cs := #[.int .i64 t805, .slice none 0 0, .slice none 0 0]) ?_ 1 _ rfl; (with_reducible repeat (first | refine blk_drewN ?_ _ | refine blk_drew ?_ | refine blk_alloc ?_ _)); refine blk_put (cs := #[.int .i64 0, .slice none 0 0, .slice none 0 0]) ?_ 0 _ rfl; (with_reducible repeat (first | refine blk_drewN ?_ _ | refine blk_drew ?_ | refine blk_alloc ?_ _)); exact BK813.out⟩
     have n8_ : Aside0 (Below w.heap.size w (((w113.setCell ⟨gb813, 0, none⟩ (.int .i64 t805)).setCell ⟨gb813, 1, none⟩ (.slice Ao118 t806.length co118)).setCell ⟨gb813, 2, none⟩ (.slice Ao119 t809.length co119))) := ⟨hbC _⟩
     (try clear HO_761001)
     (try clear HO_761002)
     (try clear HO808)
     (try clear HO811)
     (try clear BK720)
     (try clear BK721)
     (try clear BK760)
     (try clear BK813)
     (try clear HB)
     generalize (((w113.setCell ⟨gb813, 0, none⟩ (.int .i64 t805)).setCell ⟨gb813, 1, none⟩ (.slice Ao118 t806.length co118)).setCell ⟨gb813, 2, none⟩ (.slice Ao119 t809.length co119)) = w120 at n0_ n1_ n2_ n3_ n4_ n5_ n6_ n7_ n8_ ⊢
     have HO_761001 := n0_
     have HO_761002 := n1_
     have HO808 := n2_
     have HO811 := n3_
     have BK720 := n4_
     have BK721 := n5_
     have BK760 := n6_
     have BK813 := n7_
     have HB := n8_
     clear n0_ n1_ n2_ n3_ n4_ n5_ n6_ n7_ n8_
     replace HO_761001 := ak (Kd.R_drew HO_761001.out)
     replace HO_761002 := ak (Kd.R_drew HO_761002.out)
     replace HO808 := ak (Kd.R_drew HO808.out)
     replace HO811 := ak (Kd.R_drew HO811.out)
     replace BK720 := kd BK720
     replace BK721 := kd BK721
     replace BK760 := kd BK760
     replace BK813 := kd BK813
     replace HB := ak (below_drew1 HB.out)
     refine sS (n := 10) (S := fun w' => w'.cell? ⟨gb760, 0, none⟩ = some (.int .i64 t752) ∧ w'.cell? ⟨gb760, 1, none⟩ = some (.slice Ao37 t753.length co37) ∧ w'.cell? ⟨gb760, 2, none⟩ = some (.slice Ao39 t756.length co39) ∧ w'.cell? ⟨gb813, 0, none⟩ = some (.int .i64 t805) ∧ w'.cell? ⟨gb813, 1, none⟩ = some (.slice Ao118 t806.length co118) ∧ w'.cell? ⟨gb813, 2, none⟩ = some (.slice Ao119 t809.length co119)) (ds := []) ⟨bc BK760 0, bc BK760 1, bc BK760 2, bc BK813 0, bc BK813 1, bc BK813 2⟩ (fun hHeld => ?_); refine with_tabW congoulaw04_CurvesMirrors.tab10 congoulaw04_CurvesMirrors.bits10 (fun HT_ HW_ => ?_)
     generalize w120.drew = w121 at HO_761001 HO_761002 HO808 HO811 BK720 BK721 BK760 BK813 HB hHeld ⊢
     refine tS 0 86 10 1 ?_
     refine tS 2 88 10 5 ?_
     refine one_ (i := 1) (N := some 87) (ba 10 7) rfl rfl (one_of HT_.out (by kernel_rfl)) (by decide) (fun K hK => ?_)
     refine gC Try.func30 #[.agg #[.int .i64 t752, .slice Ao37 t753.length co37, .slice Ao39 t756.length co39]] ?_
     with_reducible refine (congoulaw04_own.calls t752 (fun k_ => some k_ = (.slice Ao37 t753.length co37 : Value).ownBlock) (.slice Ao37 t753.length co37) t753 (fun k_ => some k_ = (.slice Ao39 t756.length co39 : Value).ownBlock) (.slice Ao39 t756.length co39) t756 t814 t815 t818 w _ ?side1 ?side2 ?side3 ?side4 ?side5 A104.out).mono ?_
     (case side1 => repeat (first | (with_reducible first | exact HB.out | apply below_alloc | apply pw_below_drewN | apply below_drew1 | refine below_set ?_ GE720.out | refine below_set ?_ GE721.out | refine below_set ?_ GE760.out | refine below_set ?_ GE813.out) | exact HB.out))
     (case side2 => exact Kd.R_tight rfl HO_761001.out)
     (case side3 => exact fun k_ e_ => (HO_761001.out.1 k_ e_.symm).1)
     (case side4 => exact Kd.R_tight rfl HO_761002.out)
     (case side5 => exact fun k_ e_ => (HO_761002.out.1 k_ e_.symm).1)
     rintro e w122 ⟨v816, v819, rfl, ho0, ho1, hb, hkp⟩
     refine ⟨_, rfl, ?_⟩
     have n0_ := ak (blk_kept (bkC BK720) hkp (fun hs_ => Or.elim hs_ (fun e_ => (fun e_ => (Kd.R_ne HO_761001.out BK720.out (by decide)) e_) e_) (fun e_ => (fun e_ => (Kd.R_ne HO_761002.out BK720.out (by decide)) e_) e_)))
     have n1_ := ak (blk_kept (bkC BK721) hkp (fun hs_ => Or.elim hs_ (fun e_ => (fun e_ => (Kd.R_ne HO_761001.out BK721.out (by decide)) e_) e_) (fun e_ => (fun e_ => (Kd.R_ne HO_761002.out BK721.out (by decide)) e_) e_)))
     have n2_ := ak (blk_kept (bkC BK760) hkp (fun hs_ => Or.elim hs_ (fun e_ => (fun e_ => (Kd.R_ne HO_761001.out BK760.out (by decide)) e_) e_) (fun e_ => (fun e_ => (Kd.R_ne HO_761002.out BK760.out (by decide)) e_) e_)))
     have n3_ := ak (Kd.R_mono (ok' := fun k_ => nb k_ (.slice Ao119 t809.length co119) ∧ nb k_ v816 ∧ nb k_ v819) (Kd.R_keptB (HO808.out) hkp (fun k_ hk_ hs_ => Or.elim hs_ (fun e_ => (hk_.1) e_) (fun e_ => (hk_.2.1) e_))) (fun k_ hk_ => ⟨hk_.1.2.2, fun e_ => Or.elim (ho0.1 k_ e_.symm).1 (fun hs_ => hk_.2.1 hs_) (fun hn_ => Nat.not_le.2 hk_.2.2 hn_), fun e_ => Or.elim (ho1.1 k_ e_.symm).1 (fun hs_ => hk_.2.1 hs_) (fun hn_ => Nat.not_le.2 hk_.2.2 hn_)⟩))
     have n4_ := ak (Kd.R_mono (ok' := fun k_ => nb k_ (.slice Ao118 t806.length co118) ∧ nb k_ v816 ∧ nb k_ v819) (Kd.R_keptB (HO811.out) hkp (fun k_ hk_ hs_ => Or.elim hs_ (fun e_ => (hk_.1) e_) (fun e_ => (hk_.2.1) e_))) (fun k_ hk_ => ⟨hk_.1.2.2, fun e_ => Or.elim (ho0.1 k_ e_.symm).1 (fun hs_ => hk_.2.1 hs_) (fun hn_ => Nat.not_le.2 hk_.2.2 hn_), fun e_ => Or.elim (ho1.1 k_ e_.symm).1 (fun hs_ => hk_.2.1 hs_) (fun hn_ => Nat.not_le.2 hk_.2.2 hn_)⟩))
     have n5_ := ak (blk_kept (bkC BK813) hkp (fun hs_ => Or.elim hs_ (fun e_ => (fun e_ => (Kd.R_ne HO_761001.out BK813.out (by decide)) e_) e_) (fun e_ => (fun e_ => (Kd.R_ne HO_761002.out BK813.out (by decide)) e_) e_)))
     have n6_ := ak (Kd.R_mono (ok' := fun k_ => nb k_ v819 ∧ nb k_ (.slice Ao118 t806.length co118) ∧ nb k_ (.slice Ao119 t809.length co119)) ho0 (fun k_ hk_ => ⟨hk_.2, Or.elim hk_.1 (fun hs_ => Or.elim hs_ (fun hs_ => fun e_ => (((HO808.out).1 k_ e_.symm).1) hs_) (fun hs_ => fun e_ => (((HO808.out).1 k_ e_.symm).2.1) hs_)) (fun hn_ => (Kd.fresh' (Kd.R_lt (rC HO808)) k_ hn_)), Or.elim hk_.1 (fun hs_ => Or.elim hs_ (fun hs_ => fun e_ => (((HO811.out).1 k_ e_.symm).1) hs_) (fun hs_ => fun e_ => (((HO811.out).1 k_ e_.symm).2.1) hs_)) (fun hn_ => (Kd.fresh' (Kd.R_lt (rC HO811)) k_ hn_))⟩))
     have n7_ := ak (Kd.R_mono (ok' := fun k_ => nb k_ v816 ∧ nb k_ (.slice Ao118 t806.length co118) ∧ nb k_ (.slice Ao119 t809.length co119)) ho1 (fun k_ hk_ => ⟨hk_.2, Or.elim hk_.1 (fun hs_ => Or.elim hs_ (fun hs_ => fun e_ => (((HO808.out).1 k_ e_.symm).1) hs_) (fun hs_ => fun e_ => (((HO808.out).1 k_ e_.symm).2.1) hs_)) (fun hn_ => (Kd.fresh' (Kd.R_lt (rC HO808)) k_ hn_)), Or.elim hk_.1 (fun hs_ => Or.elim hs_ (fun hs_ => fun e_ => (((HO811.out).1 k_ e_.symm).1) hs_) (fun hs_ => fun e_ => (((HO811.out).1 k_ e_.symm).2.1) hs_)) (fun hn_ => (Kd.fresh' (Kd.R_lt (rC HO811)) k_ hn_))⟩))
     have n8_ := ak (hb)
     clear BK720
     clear BK721
     clear BK760
     clear HO808
     clear HO811
     clear BK813
     clear HB
     clear HO_761001
     clear HO_761002
     have BK720 := n0_
     have BK721 := n1_
     have BK760 := n2_
     have HO808 := n3_
     have HO811 := n4_
     have BK813 := n5_
     have HO817 := n6_
     have HO820 := n7_
     have HB := n8_
     clear n0_ n1_ n2_ n3_ n4_ n5_ n6_ n7_ n8_
     (try clear hb)
     (try clear hkp)
     (try clear ho0)
     (try clear ho1)
     obtain ⟨Ao123, co123, eo123⟩ := Kd.R_slice HO817.out
     (first | subst eo123 | (injection eo123 with f1_ f2_ f3_; have f4_ := f1_.symm; have f5_ := f3_.symm; clear f1_ f2_ f3_; subst f4_; subst f5_))
     obtain ⟨Ao124, co124, eo124⟩ := Kd.R_slice HO820.out
     (first | subst eo124 | (injection eo124 with f1_ f2_ f3_; have f4_ := f1_.symm; have f5_ := f3_.symm; clear f1_ f2_ f3_; subst f4_; subst f5_))
     refine hK.out _ _ ⟨bc BK760 0, bc BK760 1, bc BK760 2, bc BK813 0, bc BK813 1, bc BK813 2⟩ (fun hHeld => ?_)
     clear hK K
     refine norm_ (a' := ?_) ?_ ?_
     rotate_left
     ·show Act.put _ (some 87) _ = _
      simp only [Act.put, List.setIfInBounds_toArray, List.set_cons_zero, List.set_cons_succ, i64_w, i32_w]
      rfl
     refine one_ (i := 3) (N := some 89) (ba 10 15) rfl rfl (one_of HT_.out (by kernel_rfl)) (by decide) (fun K hK => ?_)
     refine gC Try.func31 #[.agg #[.int .i64 t814, .slice Ao123 t815.length co123, .slice Ao124 t818.length co124], .agg #[.int .i64 t805, .slice Ao118 t806.length co118, .slice Ao119 t809.length co119]] ?_
     with_reducible refine (congoulaw04_same.calls kj75 t814 _ _ t815 _ _ t818 t805 _ _ t806 _ _ t809 true _ ?side1 ?side2 ?side3 ?side4 ?side5 ?side6 ?side7 ?side8 A105.out).mono ?_
     (case side1 => exact kD (Kd.R_reads' HO817.out).2.2)
     (case side2 => exact (Kd.R_reads' HO817.out).2.1)
     (case side3 => exact kD (Kd.R_reads' HO820.out).2.2)
     (case side4 => exact (Kd.R_reads' HO820.out).2.1)
     (case side5 => exact kD (Kd.R_reads' HO808.out).2.2)
     (case side6 => exact (Kd.R_reads' HO808.out).2.1)
     (case side7 => exact kD (Kd.R_reads' HO811.out).2.2)
     (case side8 => exact (Kd.R_reads' HO811.out).2.1)
     rintro e w125 ⟨rfl, hb⟩
     refine ⟨_, rfl, ?_⟩
     replace HO808 := kO HO808 hb
     replace HO811 := kO HO811 hb
     replace HO817 := kO HO817 hb
     replace HO820 := kO HO820 hb
     replace BK720 := kB BK720 hb
     replace BK721 := kB BK721 hb
     replace BK760 := kB BK760 hb
     replace BK813 := kB BK813 hb
     replace HB := kH _ hb
     (try clear hb)
     (try clear hb2)
     (try clear hk)
     (try clear hi)
     refine hK.out _ _ ⟨bc BK760 0, bc BK760 1, bc BK760 2, bc BK813 0, bc BK813 1, bc BK813 2⟩ (fun hHeld => ?_)
     clear hK K
     refine norm_ (a' := ?_) ?_ ?_
     rotate_left
     ·show Act.put _ (some 89) _ = _
      simp only [Act.put, List.setIfInBounds_toArray, List.set_cons_zero, List.set_cons_succ, i64_w, i32_w]
      rfl
     refine pS 4 90 10 31 ?_
     refine pS 5 91 10 63 ?_
     refine pS 6 92 10 127 ?_
     refine pS 7 93 10 255 ?_
     refine pS 8 94 10 511 ?_
     refine pS 9 4 10 1023 ?_
     refine done_ (done_of HT_.out (by kernel_rfl)) ?_
     try go_wp2
     go_ret
     exact ⟨by first | rfl | (simp [errW_none, errW_some] <;> rfl) | (simp [*, errW_none, errW_some] <;> rfl), hbC _⟩

end Go.Proofs.Ytpnocmkpeogifaa.X
