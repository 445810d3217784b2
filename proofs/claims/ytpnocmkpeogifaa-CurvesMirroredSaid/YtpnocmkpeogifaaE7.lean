/- The walk of the law of mirrored curves: printed without its two changes of a type, which were put in by hand. -/
import Derived.Test.YtpnocmkpeogifaaX0
import Derived.Test.YtpnocmkpeogifaaXG2a
import Derived.Test.YtpnocmkpeogifaaXf14
import Derived.Test.YtpnocmkpeogifaaXf15
import Derived.Test.YtpnocmkpeogifaaXf17
import Derived.Test.YtpnocmkpeogifaaXf29
import Derived.Test.YtpnocmkpeogifaaXf32
import Derived.Test.YtpnocmkpeogifaaXq0
import Derived.Test.YtpnocmkpeogifaaE28
namespace Go.Proofs.Ytpnocmkpeogifaa.X
open Go.RowKit Go.Proofs.YtpnocmkpeogifaaW.PrintWords Go.Proofs.YtpnocmkpeogifaaW.PrintLast Go.Proofs.YtpnocmkpeogifaaW.PrintMore
attribute [local go_sem] max2_int min2_int max_two min_two max_three min_three max_four min_four   -- for this text's walks alone
set_option linter.unusedVariables false
set_option linter.unusedSimpArgs false

attribute [local go_sem high] eqA26
set_option maxHeartbeats 8000000 in
theorem congoulaw04_own.plain (a0_0 : Int) (A1 A2 : Option Addr) (n1 c1 n2 c2 : Nat) (w : World) :
  Calls Try.prog 30 #[.agg #[.int .i64 a0_0, .slice A1 n1 c1, .slice A2 n2 c2]] w fun e w' => e = .returned (.agg #[.int .i64 a0_0, .slice A1 n1 c1, .slice A2 n2 c2]) ∧ Below w.heap.size w w' := by
 have hu30 := Try.underlying30
 have hu24 := Try.underlying24
 have HB := Aside0.mk (Below.refl w.heap.size w)
 go_enter Try.func30, Try.ntmps30
 go_wp2_with (first | ((with_reducible refine gate_dst (N := 1) rfl ?_); refine bE 1 #[.int .i64 a0_0, .slice A1 n1 c1, .slice A2 n2 c2] 30 ?_; intro gb552 hg w4 hbox hb; have BK552 := ak (hbox); have GE552 := kG w hg; replace HB := kH _ hb; clear hb hbox hg) | ((with_reducible refine gate_dst (N := 2) rfl ?_); refine bE 2 #[.int .i64 0, .slice none 0 0, .slice none 0 0] 24 ?_; intro gb553 hg w5 hbox hb; have BK553 := ak (hbox); have GE553 := kG w hg; replace HB := kH _ hb; have NB552_553 := kL BK552 hg; have NB553_552 := kR BK552 hg; replace BK552 := kB BK552 hb; clear hb hbox hg; have hnb6 := NB552_553.out; have hnc6 := NB553_552.out; have hcz7_0 : w5.cell? ⟨gb552, 0, none⟩ = some (.int .i64 a0_0) := bc BK552 0; have hcz7_1 : w5.cell? ⟨gb552, 1, none⟩ = some (.slice A1 n1 c1) := bc BK552 1; have hcz7_2 : w5.cell? ⟨gb552, 2, none⟩ = some (.slice A2 n2 c2) := bc BK552 2; have hfz7_0 := fz BK552 0; have hfz7_1 := fz BK552 1; have hfz7_2 := fz BK552 2; have hcz8_0 : w5.cell? ⟨gb553, 0, none⟩ = some (.int .i64 0) := bc BK553 0; have hcz8_1 : w5.cell? ⟨gb553, 1, none⟩ = some (.slice none 0 0) := bc BK553 1; have hcz8_2 : w5.cell? ⟨gb553, 2, none⟩ = some (.slice none 0 0) := bc BK553 2; have hfz8_0 := fz BK553 0; have hfz8_1 := fz BK553 1; have hfz8_2 := fz BK553 2))
 refine bodyPost_ret (results_cell_row rfl _ _ gb553 24 #[.int .i64 a0_0, .slice A1 n1 c1, .slice A2 n2 c2] (0, 0) _ rfl (by (with_reducible repeat (first | refine blk_drewN ?_ _ | refine blk_drew ?_ | refine blk_alloc ?_ _)); refine blk_put (cs := #[.int .i64 a0_0, .slice A1 n1 c1, .slice none 0 0]) ?_ 2 _ rfl; (with_reducible repeat (first | refine blk_drewN ?_ _ | refine blk_drew ?_ | refine blk_alloc ?_ _)); refine blk_put (cs := #[.int .i64 a0_0, .slice none 0 0, .slice none 0 0]) ?_ 1 _ rfl; (with_reducible repeat (first | refine blk_drewN ?_ _ | refine blk_drew ?_ | refine blk_alloc ?_ _)); refine blk_put (cs := #[.int .i64 0, .slice none 0 0, .slice none 0 0]) ?_ 0 _ rfl; (with_reducible repeat (first | refine blk_drewN ?_ _ | refine blk_drew ?_ | refine blk_alloc ?_ _)); exact BK553.out) Try.underlying24 rfl (by kernel_rfl)) rfl ?_
 exact ⟨rfl, hbC _⟩
/-! ### congoulaw04_CurvesMirrored: function 7 -/
mutual
def congoulaw04_CurvesMirrored.j0 : Nat → Int → Bool → Int → List Int → List Int → Int → Int → Int → List Int → List Int → Option (Bool)
 | 0, _, _, _, _, _, _, _, _, _, _ => none
 | k + 1, x6, x28, x301000, x301001, x301002, x302000, x302001, x318000, x318001, x318002 => if x28 = true then (if x6 = 2 then ((congoulaw04_awake.f k).bind fun t319 => (some t319)) else (some false)) else ((congoulaw04_Of.f x318000 x318001 x318002).bind fun bt320 => ((curves_Mirror.f k bt320.1 bt320.2.1 bt320.2.2).bind fun bt327 => (if bt327.2.2.2 = 0 then ((congoulaw04_same.f k bt327.1 bt327.2.1 bt327.2.2.1 x301000 x301001 x301002).bind fun t336 => (congoulaw04_CurvesMirrored.j1 k (!t336) x301000 x301001 x301002 x302000 x302001 x318000 x318001 x318002)) else (congoulaw04_CurvesMirrored.j1 k true x301000 x301001 x301002 x302000 x302001 x318000 x318001 x318002))))
def congoulaw04_CurvesMirrored.j1 : Nat → Bool → Int → List Int → List Int → Int → Int → Int → List Int → List Int → Option (Bool)
 | 0, _, _, _, _, _, _, _, _, _ => none
 | k + 1, x49, x301000, x301001, x301002, x302000, x302001, x318000, x318001, x318002 => if x49 = true then (some false) else ((congoulaw04_Of.f x301000 x301001 x301002).bind fun bt337 => ((curves_Value.f k bt337.1 bt337.2.1 bt337.2.2 x302000 x302001).bind fun bt344 => (if bt344.2.2 = 0 then ((congouref04_In.f k x301000 x301001 x301002 x302000 x302001).bind fun t348 => (congoulaw04_CurvesMirrored.j2 k bt344.2.2 (!t348) x301000 x301001 x301002 x302000 x302001 x318000 x318001 x318002 bt344.1 bt344.2.1)) else (congoulaw04_CurvesMirrored.j2 k bt344.2.2 true x301000 x301001 x301002 x302000 x302001 x318000 x318001 x318002 bt344.1 bt344.2.1))))
def congoulaw04_CurvesMirrored.j2 : Nat → Int → Bool → Int → List Int → List Int → Int → Int → Int → List Int → List Int → Int → Int → Option (Bool)
 | 0, _, _, _, _, _, _, _, _, _, _, _, _ => none
 | k + 1, x10, x64, x301000, x301001, x301002, x302000, x302001, x318000, x318001, x318002, x348000, x348001 => if x64 = true then (if x10 = 2 then ((congoulaw04_awake.f k).bind fun t349 => (some t349)) else (some false)) else (congoulaw04_CurvesMirrored.l0 k 0 x301001 (x301001.length : Int) 0 x301000 x301001 x301002 x302000 x302001 x318000 x318001 x318002 x348000 x348001)
def congoulaw04_CurvesMirrored.l0 : Nat → Int → List Int → Int → Int → Int → List Int → List Int → Int → Int → Int → List Int → List Int → Int → Int → Option (Bool)
 | 0, _, _, _, _, _, _, _, _, _, _, _, _, _, _ => none
 | k + 1, x11, x71, x72, x73, x301000, x301001, x301002, x302000, x302001, x318000, x318001, x318002, x348000, x348001 => if x73 < x72 then (if 0 ≤ x73 then (if x73 < (x71.length : Int) then (if (wrap64 ((rd x71 x73) * x302001)) = x302000 then (congoulaw04_CurvesMirrored.l0 k (wrap64 (x11 + 1)) x71 x72 (wrap64 (x73 + 1)) x301000 x301001 x301002 x302000 x302001 x318000 x318001 x318002 x348000 x348001) else (congoulaw04_CurvesMirrored.l0 k x11 x71 x72 (wrap64 (x73 + 1)) x301000 x301001 x301002 x302000 x302001 x318000 x318001 x318002 x348000 x348001)) else (none)) else (none)) else ((congouref04_Frac.f k (wrap64 ((wrap64 (12 * x302001)) - x302000)) x302001).bind fun bt351 => ((curves_Value.f k x318000 x318001 x318002 bt351.1 bt351.2).bind fun bt353 => (if bt353.2.2 = 0 then (if (x348000 == bt353.1 && (x348001 == bt353.2.1)) = true then ((congoulaw04_awake.f k).bind fun t357 => (some t357)) else (if x11 > x301000 then ((congoulaw04_awake.f k).bind fun t358 => (some t358)) else (some false))) else (some false))))
end
def congoulaw04_CurvesMirrored.f (k : Nat) (a0_0 : Int) (l0_1 : List Int) (l0_2 : List Int) (a1_0 : Int) (a1_1 : Int) : Option (Bool) := (congoulaw04_Of.f a0_0 l0_1 l0_2).bind fun bt302 => ((curves_Mirror.f k bt302.1 bt302.2.1 bt302.2.2).bind fun bt309 => (if bt309.2.2.2 = 0 then ((congouref04_Valid.f k a0_0 l0_1 l0_2).bind fun t318 => (congoulaw04_CurvesMirrored.j0 k bt309.2.2.2 (!t318) a0_0 l0_1 l0_2 a1_0 a1_1 bt309.1 bt309.2.1 bt309.2.2.1)) else (congoulaw04_CurvesMirrored.j0 k bt309.2.2.2 true a0_0 l0_1 l0_2 a1_0 a1_1 bt309.1 bt309.2.1 bt309.2.2.1)))
theorem congoulaw04_CurvesMirrored.mono_l : ∀ k, (∀ y0 y1 y2 y3 y4 y5 y6 y7 y8 y9, LeO (congoulaw04_CurvesMirrored.j0 k y0 y1 y2 y3 y4 y5 y6 y7 y8 y9) (congoulaw04_CurvesMirrored.j0 (k + 1) y0 y1 y2 y3 y4 y5 y6 y7 y8 y9)) ∧ (∀ y0 y1 y2 y3 y4 y5 y6 y7 y8, LeO (congoulaw04_CurvesMirrored.j1 k y0 y1 y2 y3 y4 y5 y6 y7 y8) (congoulaw04_CurvesMirrored.j1 (k + 1) y0 y1 y2 y3 y4 y5 y6 y7 y8)) ∧ (∀ y0 y1 y2 y3 y4 y5 y6 y7 y8 y9 y10 y11, LeO (congoulaw04_CurvesMirrored.j2 k y0 y1 y2 y3 y4 y5 y6 y7 y8 y9 y10 y11) (congoulaw04_CurvesMirrored.j2 (k + 1) y0 y1 y2 y3 y4 y5 y6 y7 y8 y9 y10 y11)) ∧ (∀ y0 y1 y2 y3 y4 y5 y6 y7 y8 y9 y10 y11 y12 y13, LeO (congoulaw04_CurvesMirrored.l0 k y0 y1 y2 y3 y4 y5 y6 y7 y8 y9 y10 y11 y12 y13) (congoulaw04_CurvesMirrored.l0 (k + 1) y0 y1 y2 y3 y4 y5 y6 y7 y8 y9 y10 y11 y12 y13))
 | 0 => ⟨fun _ _ _ _ _ _ _ _ _ _ r h => by simp [congoulaw04_CurvesMirrored.j0] at h, fun _ _ _ _ _ _ _ _ _ r h => by simp [congoulaw04_CurvesMirrored.j1] at h, fun _ _ _ _ _ _ _ _ _ _ _ _ r h => by simp [congoulaw04_CurvesMirrored.j2] at h, fun _ _ _ _ _ _ _ _ _ _ _ _ _ _ r h => by simp [congoulaw04_CurvesMirrored.l0] at h⟩
 | k + 1 => by
  obtain ⟨ih0, ih1, ih2, ih3⟩ := congoulaw04_CurvesMirrored.mono_l k
  refine ⟨?_, ?_, ?_, ?_⟩
  ·intro y0 y1 y2 y3 y4 y5 y6 y7 y8 y9
   unfold congoulaw04_CurvesMirrored.j0
   repeat' first
   | (with_reducible exact ih0 _ _ _ _ _ _ _ _ _ _)
   | (with_reducible exact ih1 _ _ _ _ _ _ _ _ _)
   | (with_reducible exact ih2 _ _ _ _ _ _ _ _ _ _ _ _)
   | (with_reducible exact ih3 _ _ _ _ _ _ _ _ _ _ _ _ _ _)
   | (with_reducible exact congoulaw04_awake.mono _)
   | (with_reducible exact congoulaw04_same.mono _ _ _ _ _ _ _)
   | (with_reducible exact congouref04_Frac.mono _ _ _)
   | (with_reducible exact congouref04_In.mono _ _ _ _ _ _)
   | (with_reducible exact congouref04_Valid.mono _ _ _ _)
   | (with_reducible exact curves_Mirror.mono _ _ _ _)
   | (with_reducible exact curves_Value.mono _ _ _ _ _ _)
   | (with_reducible exact LeO.refl _)
   | (with_reducible exact LeO.none _)
   | (with_reducible refine LeO.ite ?_ ?_)
   | (with_reducible refine LeO.bind ?_ (fun _ => ?_))
   | exact ih0 _ _ _ _ _ _ _ _ _ _
   | exact ih1 _ _ _ _ _ _ _ _ _
   | exact ih2 _ _ _ _ _ _ _ _ _ _ _ _
   | exact ih3 _ _ _ _ _ _ _ _ _ _ _ _ _ _
   | exact congoulaw04_awake.mono _
   | exact congoulaw04_same.mono _ _ _ _ _ _ _
   | exact congouref04_Frac.mono _ _ _
   | exact congouref04_In.mono _ _ _ _ _ _
   | exact congouref04_Valid.mono _ _ _ _
   | exact curves_Mirror.mono _ _ _ _
   | exact curves_Value.mono _ _ _ _ _ _
   | exact LeO.none _
   | refine LeO.ite ?_ ?_
   | refine LeO.bind ?_ (fun _ => ?_)
  ·intro y0 y1 y2 y3 y4 y5 y6 y7 y8
   unfold congoulaw04_CurvesMirrored.j1
   repeat' first
   | (with_reducible exact ih0 _ _ _ _ _ _ _ _ _ _)
   | (with_reducible exact ih1 _ _ _ _ _ _ _ _ _)
   | (with_reducible exact ih2 _ _ _ _ _ _ _ _ _ _ _ _)
   | (with_reducible exact ih3 _ _ _ _ _ _ _ _ _ _ _ _ _ _)
   | (with_reducible exact congoulaw04_awake.mono _)
   | (with_reducible exact congoulaw04_same.mono _ _ _ _ _ _ _)
   | (with_reducible exact congouref04_Frac.mono _ _ _)
   | (with_reducible exact congouref04_In.mono _ _ _ _ _ _)
   | (with_reducible exact congouref04_Valid.mono _ _ _ _)
   | (with_reducible exact curves_Mirror.mono _ _ _ _)
   | (with_reducible exact curves_Value.mono _ _ _ _ _ _)
   | (with_reducible exact LeO.refl _)
   | (with_reducible exact LeO.none _)
   | (with_reducible refine LeO.ite ?_ ?_)
   | (with_reducible refine LeO.bind ?_ (fun _ => ?_))
   | exact ih0 _ _ _ _ _ _ _ _ _ _
   | exact ih1 _ _ _ _ _ _ _ _ _
   | exact ih2 _ _ _ _ _ _ _ _ _ _ _ _
   | exact ih3 _ _ _ _ _ _ _ _ _ _ _ _ _ _
   | exact congoulaw04_awake.mono _
   | exact congoulaw04_same.mono _ _ _ _ _ _ _
   | exact congouref04_Frac.mono _ _ _
   | exact congouref04_In.mono _ _ _ _ _ _
   | exact congouref04_Valid.mono _ _ _ _
   | exact curves_Mirror.mono _ _ _ _
   | exact curves_Value.mono _ _ _ _ _ _
   | exact LeO.none _
   | refine LeO.ite ?_ ?_
   | refine LeO.bind ?_ (fun _ => ?_)
  ·intro y0 y1 y2 y3 y4 y5 y6 y7 y8 y9 y10 y11
   unfold congoulaw04_CurvesMirrored.j2
   repeat' first
   | (with_reducible exact ih0 _ _ _ _ _ _ _ _ _ _)
   | (with_reducible exact ih1 _ _ _ _ _ _ _ _ _)
   | (with_reducible exact ih2 _ _ _ _ _ _ _ _ _ _ _ _)
   | (with_reducible exact ih3 _ _ _ _ _ _ _ _ _ _ _ _ _ _)
   | (with_reducible exact congoulaw04_awake.mono _)
   | (with_reducible exact congoulaw04_same.mono _ _ _ _ _ _ _)
   | (with_reducible exact congouref04_Frac.mono _ _ _)
   | (with_reducible exact congouref04_In.mono _ _ _ _ _ _)
   | (with_reducible exact congouref04_Valid.mono _ _ _ _)
   | (with_reducible exact curves_Mirror.mono _ _ _ _)
   | (with_reducible exact curves_Value.mono _ _ _ _ _ _)
   | (with_reducible exact LeO.refl _)
   | (with_reducible exact LeO.none _)
   | (with_reducible refine LeO.ite ?_ ?_)
   | (with_reducible refine LeO.bind ?_ (fun _ => ?_))
   | exact ih0 _ _ _ _ _ _ _ _ _ _
   | exact ih1 _ _ _ _ _ _ _ _ _
   | exact ih2 _ _ _ _ _ _ _ _ _ _ _ _
   | exact ih3 _ _ _ _ _ _ _ _ _ _ _ _ _ _
   | exact congoulaw04_awake.mono _
   | exact congoulaw04_same.mono _ _ _ _ _ _ _
   | exact congouref04_Frac.mono _ _ _
   | exact congouref04_In.mono _ _ _ _ _ _
   | exact congouref04_Valid.mono _ _ _ _
   | exact curves_Mirror.mono _ _ _ _
   | exact curves_Value.mono _ _ _ _ _ _
   | exact LeO.none _
   | refine LeO.ite ?_ ?_
   | refine LeO.bind ?_ (fun _ => ?_)
  ·intro y0 y1 y2 y3 y4 y5 y6 y7 y8 y9 y10 y11 y12 y13
   unfold congoulaw04_CurvesMirrored.l0
   repeat' first
   | (with_reducible exact ih0 _ _ _ _ _ _ _ _ _ _)
   | (with_reducible exact ih1 _ _ _ _ _ _ _ _ _)
   | (with_reducible exact ih2 _ _ _ _ _ _ _ _ _ _ _ _)
   | (with_reducible exact ih3 _ _ _ _ _ _ _ _ _ _ _ _ _ _)
   | (with_reducible exact congoulaw04_awake.mono _)
   | (with_reducible exact congoulaw04_same.mono _ _ _ _ _ _ _)
   | (with_reducible exact congouref04_Frac.mono _ _ _)
   | (with_reducible exact congouref04_In.mono _ _ _ _ _ _)
   | (with_reducible exact congouref04_Valid.mono _ _ _ _)
   | (with_reducible exact curves_Mirror.mono _ _ _ _)
   | (with_reducible exact curves_Value.mono _ _ _ _ _ _)
   | (with_reducible exact LeO.refl _)
   | (with_reducible exact LeO.none _)
   | (with_reducible refine LeO.ite ?_ ?_)
   | (with_reducible refine LeO.bind ?_ (fun _ => ?_))
   | exact ih0 _ _ _ _ _ _ _ _ _ _
   | exact ih1 _ _ _ _ _ _ _ _ _
   | exact ih2 _ _ _ _ _ _ _ _ _ _ _ _
   | exact ih3 _ _ _ _ _ _ _ _ _ _ _ _ _ _
   | exact congoulaw04_awake.mono _
   | exact congoulaw04_same.mono _ _ _ _ _ _ _
   | exact congouref04_Frac.mono _ _ _
   | exact congouref04_In.mono _ _ _ _ _ _
   | exact congouref04_Valid.mono _ _ _ _
   | exact curves_Mirror.mono _ _ _ _
   | exact curves_Value.mono _ _ _ _ _ _
   | exact LeO.none _
   | refine LeO.ite ?_ ?_
   | refine LeO.bind ?_ (fun _ => ?_)
theorem congoulaw04_CurvesMirrored.mono : ∀ a0 a1 a2 a3 a4 k, LeO (congoulaw04_CurvesMirrored.f k a0 a1 a2 a3 a4) (congoulaw04_CurvesMirrored.f (k + 1) a0 a1 a2 a3 a4) := by
 intro a0 a1 a2 a3 a4 k
 obtain ⟨ih0, ih1, ih2, ih3⟩ := congoulaw04_CurvesMirrored.mono_l k
 unfold congoulaw04_CurvesMirrored.f
 repeat' first
   | (with_reducible exact ih0 _ _ _ _ _ _ _ _ _ _)
   | (with_reducible exact ih1 _ _ _ _ _ _ _ _ _)
   | (with_reducible exact ih2 _ _ _ _ _ _ _ _ _ _ _ _)
   | (with_reducible exact ih3 _ _ _ _ _ _ _ _ _ _ _ _ _ _)
   | (with_reducible exact congoulaw04_awake.mono _)
   | (with_reducible exact congoulaw04_same.mono _ _ _ _ _ _ _)
   | (with_reducible exact congouref04_Frac.mono _ _ _)
   | (with_reducible exact congouref04_In.mono _ _ _ _ _ _)
   | (with_reducible exact congouref04_Valid.mono _ _ _ _)
   | (with_reducible exact curves_Mirror.mono _ _ _ _)
   | (with_reducible exact curves_Value.mono _ _ _ _ _ _)
   | (with_reducible exact LeO.refl _)
   | (with_reducible exact LeO.none _)
   | (with_reducible refine LeO.ite ?_ ?_)
   | (with_reducible refine LeO.bind ?_ (fun _ => ?_))
   | exact ih0 _ _ _ _ _ _ _ _ _ _
   | exact ih1 _ _ _ _ _ _ _ _ _
   | exact ih2 _ _ _ _ _ _ _ _ _ _ _ _
   | exact ih3 _ _ _ _ _ _ _ _ _ _ _ _ _ _
   | exact congoulaw04_awake.mono _
   | exact congoulaw04_same.mono _ _ _ _ _ _ _
   | exact congouref04_Frac.mono _ _ _
   | exact congouref04_In.mono _ _ _ _ _ _
   | exact congouref04_Valid.mono _ _ _ _
   | exact curves_Mirror.mono _ _ _ _
   | exact curves_Value.mono _ _ _ _ _ _
   | exact LeO.none _
   | refine LeO.ite ?_ ?_
   | refine LeO.bind ?_ (fun _ => ?_)
def congoulaw04_CurvesMirrored.T5 : Bool × List (List Nat × List Nat) := (true, [([], []), ([0], [0]), ([1], [1]), ([2], [2]), ([3, 2, 2], [2, 3]), ([2], [2]), ([4, 5, 4, 2], [2, 4, 5]), ([6, 2], [2, 6]), ([2, 7], [2, 7])])
def congoulaw04_CurvesMirrored.B5 : List Nat := [0, 1, 3, 7, 15, 7, 63, 127, 255]
theorem congoulaw04_CurvesMirrored.tab5 : rtab .any (opsOf Try.f7 5) = congoulaw04_CurvesMirrored.T5 := by kernel_rfl
theorem congoulaw04_CurvesMirrored.bits5 : waitsOk congoulaw04_CurvesMirrored.T5.2 congoulaw04_CurvesMirrored.B5 = true := by kernel_rfl
def congoulaw04_CurvesMirrored.T7 : Bool × List (List Nat × List Nat) := (true, [([], []), ([0], [0]), ([], []), ([1, 2, 1], [1, 2]), ([3], [3]), ([4], [4]), ([4], [4]), ([], []), ([7, 5, 3, 0, 1, 2, 3, 4, 5, 7], [5, 7]), ([6, 8, 0, 1, 2, 3, 4, 5, 6, 7, 8], [6])])
def congoulaw04_CurvesMirrored.B7 : List Nat := [0, 1, 0, 7, 15, 31, 31, 0, 191, 511]
theorem congoulaw04_CurvesMirrored.tab7 : rtab .any (opsOf Try.f7 7) = congoulaw04_CurvesMirrored.T7 := by kernel_rfl
theorem congoulaw04_CurvesMirrored.bits7 : waitsOk congoulaw04_CurvesMirrored.T7.2 congoulaw04_CurvesMirrored.B7 = true := by kernel_rfl
def congoulaw04_CurvesMirrored.T17 : Bool × List (List Nat × List Nat) := (true, [([], []), ([], []), ([1], [1]), ([2], [2]), ([], []), ([4], [4]), ([3, 5], [3, 5]), ([], []), ([7], [7]), ([6, 8], [6, 8]), ([0, 9, 9], [0, 9]), ([10], [10]), ([11], [11]), ([11], [11]), ([], []), ([14, 12, 10, 0, 1, 2, 3, 4, 5, 6, 7, 8, 9, 10, 11, 12, 14], [12, 14]), ([13, 15, 0, 1, 2, 3, 4, 5, 6, 7, 8, 9, 10, 11, 12, 13, 14, 15], [13])])
def congoulaw04_CurvesMirrored.B17 : List Nat := [0, 0, 2, 6, 0, 16, 62, 0, 128, 510, 1023, 2047, 4095, 4095, 0, 24575, 65535]
theorem congoulaw04_CurvesMirrored.tab17 : rtab .any (opsOf Try.f7 17) = congoulaw04_CurvesMirrored.T17 := by kernel_rfl
theorem congoulaw04_CurvesMirrored.bits17 : waitsOk congoulaw04_CurvesMirrored.T17.2 congoulaw04_CurvesMirrored.B17 = true := by kernel_rfl
set_option maxHeartbeats 8000000 in
set_option maxRecDepth 100000 in
theorem congoulaw04_CurvesMirrored.calls (k : Nat) (a0_0 : Int) (A0_1 : Option Addr) (c0_1 : Nat) (l0_1 : List Int) (A0_2 : Option Addr) (c0_2 : Nat) (l0_2 : List Int) (a1_0 : Int) (a1_1 : Int) (r : Bool) (w : World) (hr0_1 : Kd.C (Kd.int .i64) w A0_1 l0_1.length l0_1) (hc0_1 : l0_1.length ≤ c0_1) (hr0_2 : Kd.C (Kd.int .i64) w A0_2 l0_2.length l0_2) (hc0_2 : l0_2.length ≤ c0_2) (hrt : r = true) (h : congoulaw04_CurvesMirrored.f k a0_0 l0_1 l0_2 a1_0 a1_1 = some r) :
  Calls Try.prog 7 #[.agg #[.int .i64 a0_0, .slice A0_1 l0_1.length c0_1, .slice A0_2 l0_2.length c0_2], .agg #[.int .i64 a1_0, .int .i64 a1_1]] w fun e w' => e = .returned (.bool r) ∧ Below w.heap.size w w' := by
 have hu24 := Try.underlying24
 have hu26 := Try.underlying26
 have hu30 := Try.underlying30
 have HR0_1 := Aside0.mk hr0_1
 have HC0_1 := Aside0.mk hc0_1
 clear hr0_1 hc0_1
 have HR0_2 := Aside0.mk hr0_2
 have HC0_2 := Aside0.mk hc0_2
 clear hr0_2 hc0_2
 have HB := ak (Below.refl w.heap.size w)
 have H : ((congoulaw04_Of.f a0_0 l0_1 l0_2).bind fun bt302 => ((curves_Mirror.f k bt302.1 bt302.2.1 bt302.2.2).bind fun bt309 => (if bt309.2.2.2 = 0 then ((congouref04_Valid.f k a0_0 l0_1 l0_2).bind fun t318 => (congoulaw04_CurvesMirrored.j0 k bt309.2.2.2 (!t318) a0_0 l0_1 l0_2 a1_0 a1_1 bt309.1 bt309.2.1 bt309.2.2.1)) else (congoulaw04_CurvesMirrored.j0 k bt309.2.2.2 true a0_0 l0_1 l0_2 a1_0 a1_1 bt309.1 bt309.2.1 bt309.2.2.1)))) = some r := h
 clear h
 have HRT := Aside0.mk hrt
 clear hrt
 replace H := Option.bind_eq_some_iff.mp H
 obtain ⟨⟨t302, t303, t306⟩, A30, H⟩ := H
 replace H : ((curves_Mirror.f k t302 t303 t306).bind fun bt309 => (if bt309.2.2.2 = 0 then ((congouref04_Valid.f k a0_0 l0_1 l0_2).bind fun t318 => (congoulaw04_CurvesMirrored.j0 k bt309.2.2.2 (!t318) a0_0 l0_1 l0_2 a1_0 a1_1 bt309.1 bt309.2.1 bt309.2.2.1)) else (congoulaw04_CurvesMirrored.j0 k bt309.2.2.2 true a0_0 l0_1 l0_2 a1_0 a1_1 bt309.1 bt309.2.1 bt309.2.2.1))) = some r := H
 have A3 := Aside0.mk A30
 clear A30
 replace H := Option.bind_eq_some_iff.mp H
 obtain ⟨⟨t309, t310, t313, t316⟩, A40, H⟩ := H
 replace H : (if t316 = 0 then ((congouref04_Valid.f k a0_0 l0_1 l0_2).bind fun t318 => (congoulaw04_CurvesMirrored.j0 k t316 (!t318) a0_0 l0_1 l0_2 a1_0 a1_1 t309 t310 t313)) else (congoulaw04_CurvesMirrored.j0 k t316 true a0_0 l0_1 l0_2 a1_0 a1_1 t309 t310 t313)) = some r := H
 have A4 := Aside0.mk A40
 clear A40
 have HC5 := Aside0.mk H
 clear H
 go_enter Try.func7, Try.ntmps7
 go_upto_region 2 with (first | ((with_reducible refine gate_dst (N := 2) rfl ?_); refine bE 2 #[.int .i64 a0_0, .slice A0_1 l0_1.length c0_1, .slice A0_2 l0_2.length c0_2] 24 ?_; intro gb300 hg w6 hbox hb; have BK300 := ak (hbox); have GW300 := kG w hg; have GE300 := kG w hg; replace HB := kH _ hb; clear hb hbox hg) | ((with_reducible refine gate_dst (N := 3) rfl ?_); refine bE 3 #[.int .i64 a1_0, .int .i64 a1_1] 26 ?_; intro gb301 hg w7 hbox hb; have BK301 := ak (hbox); have GW301 := kG w hg; have GE301 := kG w hg; replace HB := kH _ hb; have NB300_301 := kL BK300 hg; have NB301_300 := kR BK300 hg; replace BK300 := kB BK300 hb; clear hb hbox hg; have hnb8 := NB300_301.out; have hnc8 := NB301_300.out; have hcz9_0 : w7.cell? ⟨gb300, 0, none⟩ = some (.int .i64 a0_0) := bc BK300 0; have hcz9_1 : w7.cell? ⟨gb300, 1, none⟩ = some (.slice A0_1 l0_1.length c0_1) := bc BK300 1; have hcz9_2 : w7.cell? ⟨gb300, 2, none⟩ = some (.slice A0_2 l0_2.length c0_2) := bc BK300 2; have hfz9_0 := fz BK300 0; have hfz9_1 := fz BK300 1; have hfz9_2 := fz BK300 2) | ((with_reducible refine gate_callee (f := 15) rfl ?_); refine gL 18 Try.func15 #[.agg #[.int .i64 a0_0, .slice A0_1 l0_1.length c0_1, .slice A0_2 l0_2.length c0_2]] ?_; (with_reducible refine (congoulaw04_Of.calls a0_0 _ _ l0_1 _ _ l0_2 t302 t303 t306 _ ?side1 ?side2 ?side3 ?side4 A3.out).mono ?_); (case side1 => exact kC HR0_1); (case side2 => exact HC0_1.out); (case side3 => exact kC HR0_2); (case side4 => exact HC0_2.out); rintro e w10 ⟨v304, v307, rfl, ho0, ho1, hb⟩; refine ⟨_, rfl, ?_⟩; have HO305 := ak (Kd.R_lower ho0 (below_size (hbC _))); have HO308 := ak (Kd.R_lower ho1 (below_size (hbC _))); replace BK300 := kB BK300 hb; replace BK301 := kB BK301 hb; replace HB := kH _ hb; (try clear hb); (try clear hb2); (try clear hk); (try clear hi); (try clear ho0); (try clear ho1); obtain ⟨Ao11, co11, eo11⟩ := Kd.R_slice HO305.out; subst eo11; obtain ⟨Ao12, co12, eo12⟩ := Kd.R_slice HO308.out; subst eo12) | ((with_reducible refine gate_callee (f := 28) rfl ?_); refine gL 19 Try.func28 #[.agg #[.int .i64 t302, .slice Ao11 t303.length co11, .slice Ao12 t306.length co12]] ?_; (with_reducible refine (curves_Mirror.calls k t302 _ _ t303 _ _ t306 t309 t310 t313 t316 _ ?side1 ?side2 ?side3 ?side4 A4.out).mono ?_); (case side1 => exact kD (Kd.R_reads' HO305.out).2.2); (case side2 => exact (Kd.R_reads' HO305.out).2.1); (case side3 => exact kD (Kd.R_reads' HO308.out).2.2); (case side4 => exact (Kd.R_reads' HO308.out).2.1); rintro e w13 ⟨v311, v314, rfl, ho0, ho1, hb⟩; refine ⟨_, rfl, ?_⟩; have HO312 := ak (Kd.R_lower (Kd.R_new' (Kd.R_new' ho0 (Kd.R_lt (rC HO305))) (Kd.R_lt (rC HO308))) (below_size (hbC _))); have HO315 := ak (Kd.R_lower (Kd.R_new' (Kd.R_new' ho1 (Kd.R_lt (rC HO305))) (Kd.R_lt (rC HO308))) (below_size (hbC _))); replace HO305 := kT HO305 hb ho0 ho1; replace HO308 := kT HO308 hb ho0 ho1; replace BK300 := kB BK300 hb; replace BK301 := kB BK301 hb; replace HB := kH _ hb; (try clear hb); (try clear hb2); (try clear hk); (try clear hi); (try clear ho0); (try clear ho1)) | ((with_reducible refine gate_dst (N := 5) rfl ?_); refine bE 5 #[.int .i64 0, .slice none 0 0, .slice none 0 0] 30 ?_; intro gb317 hg w14 hbox hb; replace HO305 := kO HO305 hb; replace HO308 := kO HO308 hb; replace HO312 := kO HO312 hb; replace HO315 := kO HO315 hb; have BK317 := ak (hbox); have GW317 := kG w hg; have GE317 := kG w hg; replace HB := kH _ hb; have NB300_317 := kL BK300 hg; have NB317_300 := kR BK300 hg; replace BK300 := kB BK300 hb; have NB301_317 := kL BK301 hg; have NB317_301 := kR BK301 hg; replace BK301 := kB BK301 hb; clear hb hbox hg; have hnb15 := NB317_300.out; have hnc15 := NB300_317.out; have hnb16 := NB317_301.out; have hnc16 := NB301_317.out; have hcz17_0 : w14.cell? ⟨gb317, 0, none⟩ = some (.int .i64 0) := bc BK317 0; have hcz17_1 : w14.cell? ⟨gb317, 1, none⟩ = some (.slice none 0 0) := bc BK317 1; have hcz17_2 : w14.cell? ⟨gb317, 2, none⟩ = some (.slice none 0 0) := bc BK317 2; have hfz17_0 := fz BK317 0; have hfz17_1 := fz BK317 1; have hfz17_2 := fz BK317 2; obtain ⟨Ao18, co18, eo18⟩ := Kd.R_slice HO312.out; subst eo18; obtain ⟨Ao19, co19, eo19⟩ := Kd.R_slice HO315.out; subst eo19))
 (try simp only [Act.put, List.setIfInBounds_toArray, List.set_cons_zero, List.set_cons_succ])
 go_cut [28] (fun v28 wc => ∃ (kq : Nat) (x28_4 : Bool), v28 = .bool x28_4 ∧ Aside0 (congoulaw04_CurvesMirrored.j0 kq t316 x28_4 a0_0 l0_1 l0_2 a1_0 a1_1 t309 t310 t313 = some r) ∧ Aside0 (kq ≤ k) ∧ Aside0 (Kd.R (Kd.int .i64) 3 wc w.heap.size (fun k_ => some k_ ≠ ((.slice Ao19 t313.length co19) : Value).ownBlock) (.slice Ao18 t310.length co18) t310) ∧ Aside0 (Kd.R (Kd.int .i64) 3 wc w.heap.size (fun k_ => some k_ ≠ ((.slice Ao18 t310.length co18) : Value).ownBlock) (.slice Ao19 t313.length co19) t313) ∧ Aside0 (wc.heap[gb300]? = some (.cells #[.int .i64 a0_0, (.slice A0_1 l0_1.length c0_1), (.slice A0_2 l0_2.length c0_2)] 24 (0, 0))) ∧ Aside0 (wc.heap[gb301]? = some (.cells #[.int .i64 a1_0, .int .i64 a1_1] 26 (0, 0))) ∧ Aside0 (wc.heap[gb317]? = some (.cells #[.int .i64 t309, (.slice Ao18 t310.length co18), (.slice Ao19 t313.length co19)] 30 (0, 0))) ∧ Aside0 (Below w.heap.size w wc))
 case first =>
  have H := HC5.out
  clear HC5
  by_cases c20 : t316 = 0
  rotate_left
  ·rw [if_neg c20] at H
   have c20b0 : (t316 == 0) = false := beq_eq_false_iff_ne.mpr c20
   have c20b1 : (t316 != 0) = true := bne_iff_ne.mpr c20
   (first | rw [c20b0] | (simp only [i64_w, i32_w]; rw [c20b0]) | skip)
   have H' := Aside0.mk H
   clear H
   go_wp2
   go_meet
   case rel => exact ⟨_, (true), (by first | rfl | (simp; done) | (simp [*]; done)), H', ⟨by first | omega | exact Nat.le_refl _⟩, ⟨rD (Kd.R_mono (Kd.R_far (p := ⟨gb317, 2, none⟩) (Kd.R_far (p := ⟨gb317, 1, none⟩) (Kd.R_far (p := ⟨gb317, 0, none⟩) (Kd.R_types HO312.out BK317.out (by decide)) (fun _ hk => hk.2) (.int .i64 t309)) (fun _ hk => hk.2) (.slice Ao18 t310.length co18)) (fun _ hk => hk.2) (.slice Ao19 t313.length co19)) (fun _ hk => hk.1.1.1))⟩, ⟨rD (Kd.R_mono (Kd.R_far (p := ⟨gb317, 2, none⟩) (Kd.R_far (p := ⟨gb317, 1, none⟩) (Kd.R_far (p := ⟨gb317, 0, none⟩) (Kd.R_types HO315.out BK317.out (by decide)) (fun _ hk => hk.2) (.int .i64 t309)) (fun _ hk => hk.2) (.slice Ao18 t310.length co18)) (fun _ hk => hk.2) (.slice Ao19 t313.length co19)) (fun _ hk => hk.1.1.1))⟩, ⟨bF BK300⟩, ⟨bF BK301⟩, ⟨by (with_reducible repeat (first | refine blk_drewN ?_ _ | refine blk_drew ?_ | refine blk_alloc ?_ _)); refine blk_put (cs := #[.int .i64 t309, .slice Ao18 t310.length co18, .slice none 0 0]) ?_ 2 _ rfl; (with_reducible repeat (first | refine blk_drewN ?_ _ | refine blk_drew ?_ | refine blk_alloc ?_ _)); refine blk_put (cs := #[.int .i64 t309, .slice none 0 0, .slice none 0 0]) ?_ 1 _ rfl; (with_reducible repeat (first | refine blk_drewN ?_ _ | refine blk_drew ?_ | refine blk_alloc ?_ _)); refine blk_put (cs := #[.int .i64 0, .slice none 0 0, .slice none 0 0]) ?_ 0 _ rfl; (with_reducible repeat (first | refine blk_drewN ?_ _ | refine blk_drew ?_ | refine blk_alloc ?_ _)); exact BK317.out⟩, ⟨hbC _⟩⟩
  rw [if_pos c20] at H
  have c20b0 : (t316 == 0) = true := beq_iff_eq.mpr c20
  have c20b1 : (t316 != 0) = false := bne_eq_false_iff_eq.mpr c20
  clear c20
  (first | rw [c20b0] | (simp only [i64_w, i32_w]; rw [c20b0]) | skip)
  replace H := Option.bind_eq_some_iff.mp H
  obtain ⟨t318, A210, H⟩ := H
  replace H : (congoulaw04_CurvesMirrored.j0 k t316 (!t318) a0_0 l0_1 l0_2 a1_0 a1_1 t309 t310 t313) = some r := H
  have A21 := Aside0.mk A210
  clear A210
  have H' := Aside0.mk H
  clear H
  have hnb22 := NB300_301.out
  have hnc22 := NB301_300.out
  have hnb23 := NB300_317.out
  have hnc23 := NB317_300.out
  have hcz24_0 : w14.cell? ⟨gb300, 0, none⟩ = some (.int .i64 a0_0) := bc BK300 0
  have hcz24_1 : w14.cell? ⟨gb300, 1, none⟩ = some (.slice A0_1 l0_1.length c0_1) := bc BK300 1
  have hcz24_2 : w14.cell? ⟨gb300, 2, none⟩ = some (.slice A0_2 l0_2.length c0_2) := bc BK300 2
  have hfz24_0 := fz BK300 0
  have hfz24_1 := fz BK300 1
  have hfz24_2 := fz BK300 2
  go_wp2_with (first | (go_at_call 29; (with_reducible refine (congouref04_Valid.calls k a0_0 _ _ l0_1 _ _ l0_2 t318 _ ?side1 ?side2 ?side3 ?side4 A21.out).mono ?_); (case side1 => exact Kd.C_below HR0_1.out (hbC _)); (case side2 => exact HC0_1.out); (case side3 => exact Kd.C_below HR0_2.out (hbC _)); (case side4 => exact HC0_2.out); rintro e w25 ⟨rfl, hb⟩; replace HO305 := ak (Kd.R_below (rD ((Kd.R_mono (Kd.R_far (p := ⟨gb317, 2, none⟩) (Kd.R_far (p := ⟨gb317, 1, none⟩) (Kd.R_far (p := ⟨gb317, 0, none⟩) (Kd.R_types HO305.out BK317.out (by decide)) (fun _ hk => hk.2) (.int .i64 t309)) (fun _ hk => hk.2) (.slice Ao18 t310.length co18)) (fun _ hk => hk.2) (.slice Ao19 t313.length co19)) (fun _ h_ => h_.1)))) hb); replace HO308 := ak (Kd.R_below (rD ((Kd.R_mono (Kd.R_far (p := ⟨gb317, 2, none⟩) (Kd.R_far (p := ⟨gb317, 1, none⟩) (Kd.R_far (p := ⟨gb317, 0, none⟩) (Kd.R_types HO308.out BK317.out (by decide)) (fun _ hk => hk.2) (.int .i64 t309)) (fun _ hk => hk.2) (.slice Ao18 t310.length co18)) (fun _ hk => hk.2) (.slice Ao19 t313.length co19)) (fun _ h_ => h_.1)))) hb); replace HO312 := ak (Kd.R_below (rD ((Kd.R_mono (Kd.R_far (p := ⟨gb317, 2, none⟩) (Kd.R_far (p := ⟨gb317, 1, none⟩) (Kd.R_far (p := ⟨gb317, 0, none⟩) (Kd.R_types HO312.out BK317.out (by decide)) (fun _ hk => hk.2) (.int .i64 t309)) (fun _ hk => hk.2) (.slice Ao18 t310.length co18)) (fun _ hk => hk.2) (.slice Ao19 t313.length co19)) (fun _ h_ => h_.1)))) hb); replace HO315 := ak (Kd.R_below (rD ((Kd.R_mono (Kd.R_far (p := ⟨gb317, 2, none⟩) (Kd.R_far (p := ⟨gb317, 1, none⟩) (Kd.R_far (p := ⟨gb317, 0, none⟩) (Kd.R_types HO315.out BK317.out (by decide)) (fun _ hk => hk.2) (.int .i64 t309)) (fun _ hk => hk.2) (.slice Ao18 t310.length co18)) (fun _ hk => hk.2) (.slice Ao19 t313.length co19)) (fun _ h_ => h_.1)))) hb); replace BK300 := ak (blk_below (g := gb300) (o := .cells #[.int .i64 a0_0, .slice A0_1 l0_1.length c0_1, .slice A0_2 l0_2.length c0_2] 24 (0, 0)) (bF BK300) hb); replace BK301 := ak (blk_below (g := gb301) (o := .cells #[.int .i64 a1_0, .int .i64 a1_1] 26 (0, 0)) (bF BK301) hb); replace BK317 := ak (blk_below (g := gb317) (o := .cells #[.int .i64 t309, .slice Ao18 t310.length co18, .slice Ao19 t313.length co19] 30 (0, 0)) (by (with_reducible repeat (first | refine blk_drewN ?_ _ | refine blk_drew ?_ | refine blk_alloc ?_ _)); refine blk_put (cs := #[.int .i64 t309, .slice Ao18 t310.length co18, .slice none 0 0]) ?_ 2 _ rfl; (with_reducible repeat (first | refine blk_drewN ?_ _ | refine blk_drew ?_ | refine blk_alloc ?_ _)); refine blk_put (cs := #[.int .i64 t309, .slice none 0 0, .slice none 0 0]) ?_ 1 _ rfl; (with_reducible repeat (first | refine blk_drewN ?_ _ | refine blk_drew ?_ | refine blk_alloc ?_ _)); refine blk_put (cs := #[.int .i64 0, .slice none 0 0, .slice none 0 0]) ?_ 0 _ rfl; (with_reducible repeat (first | refine blk_drewN ?_ _ | refine blk_drew ?_ | refine blk_alloc ?_ _)); exact BK317.out) hb); replace HB := kH _ hb; (try clear hb); (try clear hb2); (try clear hk); (try clear hi)))
  go_meet
  case rel => exact ⟨_, (!t318), (by first | rfl | (simp; done) | (simp [*]; done)), H', ⟨by first | omega | exact Nat.le_refl _⟩, ⟨rD (Kd.R_mono HO312.out (fun _ hk => hk.1.1))⟩, ⟨rD (Kd.R_mono HO315.out (fun _ hk => hk.1.1))⟩, ⟨bkC BK300⟩, ⟨bkC BK301⟩, ⟨bkC BK317⟩, ⟨hbC _⟩⟩
 case rest =>
  clear HC5
  try clear c1
  try clear c2
  try clear p2
  try clear c7
  try clear c8
  try clear c15
  try clear c16
  try clear c20
  try clear c20b0
  try clear c20b1
  try clear c22
  try clear c23
  try clear hcz17_0
  try clear hcz17_1
  try clear hcz17_2
  try clear hcz24_0
  try clear hcz24_1
  try clear hcz24_2
  try clear hcz9_0
  try clear hcz9_1
  try clear hcz9_2
  try clear hfz17_0
  try clear hfz17_1
  try clear hfz17_2
  try clear hfz24_0
  try clear hfz24_1
  try clear hfz24_2
  try clear hfz9_0
  try clear hfz9_1
  try clear hfz9_2
  obtain ⟨kq, x28_4, rfl, HA, HJ4, HO_318001, HO_318002, BK300, BK301, BK317, HB⟩ := hcut
  cases kq with
  | zero => exact absurd HA.out (by simp [congoulaw04_CurvesMirrored.j0])
  | succ kj4 =>
   have H := HA.out
   clear HA
   simp only [congoulaw04_CurvesMirrored.j0] at H
   by_cases c26 : x28_4 = true
   ·subst c26
    have H1 : (if t316 = 2 then ((congoulaw04_awake.f kj4).bind fun t319 => (some t319)) else (some false)) = some r := by rw [if_pos rfl] at H; exact H
    clear H
    have H := H1
    clear H1
    by_cases c27 : t316 = 2
    rotate_left
    ·rw [if_neg c27] at H
     have c27b0 : (t316 == 2) = false := beq_eq_false_iff_ne.mpr c27
     have c27b1 : (t316 != 2) = true := bne_iff_ne.mpr c27
     exact absurd (H.trans (congrArg some HRT.out)) (by simp)
    rw [if_pos c27] at H
    have c27b0 : (t316 == 2) = true := beq_iff_eq.mpr c27
    have c27b1 : (t316 != 2) = false := bne_eq_false_iff_eq.mpr c27
    clear c27
    replace H := Option.bind_eq_some_iff.mp H
    obtain ⟨t319, A280, H⟩ := H
    replace H : (some t319) = some r := H
    have A28 := Aside0.mk A280
    clear A280
    obtain rfl := Option.some.inj H
    go_wp2_with (first | (go_at_call 17; (with_reducible refine (congoulaw04_awake.calls kj4  t319 _ A28.out).mono ?_); rintro e w29 ⟨rfl, hb⟩; replace HO_318001 := kO HO_318001 hb; replace HO_318002 := kO HO_318002 hb; replace BK300 := kB BK300 hb; replace BK301 := kB BK301 hb; replace BK317 := kB BK317 hb; replace HB := kH _ hb; (try clear hb); (try clear hb2); (try clear hk); (try clear hi)))
    go_ret
    exact ⟨by first | rfl | (simp [errW_none, errW_some] <;> rfl) | (simp [*, errW_none, errW_some] <;> rfl), hbC _⟩
   replace c26 := Bool.eq_false_iff.mpr c26
   subst c26
   have H1 : ((congoulaw04_Of.f t309 t310 t313).bind fun bt320 => ((curves_Mirror.f kj4 bt320.1 bt320.2.1 bt320.2.2).bind fun bt327 => (if bt327.2.2.2 = 0 then ((congoulaw04_same.f kj4 bt327.1 bt327.2.1 bt327.2.2.1 a0_0 l0_1 l0_2).bind fun t336 => (congoulaw04_CurvesMirrored.j1 kj4 (!t336) a0_0 l0_1 l0_2 a1_0 a1_1 t309 t310 t313)) else (congoulaw04_CurvesMirrored.j1 kj4 true a0_0 l0_1 l0_2 a1_0 a1_1 t309 t310 t313)))) = some r := by rw [if_neg (show ¬ (false = true) by decide)] at H; exact H
   clear H
   have H := H1
   clear H1
   replace H := Option.bind_eq_some_iff.mp H
   obtain ⟨⟨t320, t321, t324⟩, A300, H⟩ := H
   replace H : ((curves_Mirror.f kj4 t320 t321 t324).bind fun bt327 => (if bt327.2.2.2 = 0 then ((congoulaw04_same.f kj4 bt327.1 bt327.2.1 bt327.2.2.1 a0_0 l0_1 l0_2).bind fun t336 => (congoulaw04_CurvesMirrored.j1 kj4 (!t336) a0_0 l0_1 l0_2 a1_0 a1_1 t309 t310 t313)) else (congoulaw04_CurvesMirrored.j1 kj4 true a0_0 l0_1 l0_2 a1_0 a1_1 t309 t310 t313))) = some r := H
   have A30 := Aside0.mk A300
   clear A300
   replace H := Option.bind_eq_some_iff.mp H
   obtain ⟨⟨t327, t328, t331, t334⟩, A310, H⟩ := H
   replace H : (if t334 = 0 then ((congoulaw04_same.f kj4 t327 t328 t331 a0_0 l0_1 l0_2).bind fun t336 => (congoulaw04_CurvesMirrored.j1 kj4 (!t336) a0_0 l0_1 l0_2 a1_0 a1_1 t309 t310 t313)) else (congoulaw04_CurvesMirrored.j1 kj4 true a0_0 l0_1 l0_2 a1_0 a1_1 t309 t310 t313)) = some r := H
   have A31 := Aside0.mk A310
   clear A310
   have HC32 := Aside0.mk H
   clear H
   have hnb33 := NB317_300.out
   have hnc33 := NB300_317.out
   have hnb34 := NB317_301.out
   have hnc34 := NB301_317.out
   have hcz35_0 : wc.cell? ⟨gb317, 0, none⟩ = some (.int .i64 t309) := bc BK317 0
   have hcz35_1 : wc.cell? ⟨gb317, 1, none⟩ = some (.slice Ao18 t310.length co18) := bc BK317 1
   have hcz35_2 : wc.cell? ⟨gb317, 2, none⟩ = some (.slice Ao19 t313.length co19) := bc BK317 2
   have hfz35_0 := fz BK317 0
   have hfz35_1 := fz BK317 1
   have hfz35_2 := fz BK317 2
   go_upto_region 5 with (first | ((with_reducible refine gate_callee (f := 30) rfl ?_); refine gL 36 Try.func30 #[.agg #[.int .i64 t309, .slice Ao18 t310.length co18, .slice Ao19 t313.length co19]] ?_; (with_reducible refine (congoulaw04_own.plain t309 _ _ _ _ _ _ _).mono ?_); rintro e w36_ ⟨rfl, hb⟩; refine ⟨_, rfl, ?_⟩; replace HO_318001 := kO HO_318001 hb; replace HO_318002 := kO HO_318002 hb; replace BK300 := kB BK300 hb; replace BK301 := kB BK301 hb; replace BK317 := kB BK317 hb; replace HB := kH _ hb; (try clear hb)) | ((with_reducible refine gate_callee (f := 15) rfl ?_); refine gL 37 Try.func15 #[.agg #[.int .i64 t309, .slice Ao18 t310.length co18, .slice Ao19 t313.length co19]] ?_; (with_reducible refine (congoulaw04_Of.calls t309 _ _ t310 _ _ t313 t320 t321 t324 _ ?side1 ?side2 ?side3 ?side4 A30.out).mono ?_); (case side1 => exact kD (Kd.R_reads' HO_318001.out).2.2); (case side2 => exact (Kd.R_reads' HO_318001.out).2.1); (case side3 => exact kD (Kd.R_reads' HO_318002.out).2.2); (case side4 => exact (Kd.R_reads' HO_318002.out).2.1); rintro e w36 ⟨v322, v325, rfl, ho0, ho1, hb⟩; refine ⟨_, rfl, ?_⟩; have HO323 := ak (Kd.R_lower (Kd.R_new' (Kd.R_new' ho0 (Kd.R_lt (rC HO_318001))) (Kd.R_lt (rC HO_318002))) (below_size (hbC _))); have HO326 := ak (Kd.R_lower (Kd.R_new' (Kd.R_new' ho1 (Kd.R_lt (rC HO_318001))) (Kd.R_lt (rC HO_318002))) (below_size (hbC _))); replace HO_318001 := kT HO_318001 hb ho0 ho1; replace HO_318002 := kT HO_318002 hb ho0 ho1; replace BK300 := kB BK300 hb; replace BK301 := kB BK301 hb; replace BK317 := kB BK317 hb; replace HB := kH _ hb; (try clear hb); (try clear hb2); (try clear hk); (try clear hi); (try clear ho0); (try clear ho1); obtain ⟨Ao37, co37, eo37⟩ := Kd.R_slice HO323.out; subst eo37; obtain ⟨Ao38, co38, eo38⟩ := Kd.R_slice HO326.out; subst eo38) | ((with_reducible refine gate_callee (f := 28) rfl ?_); refine gL 38 Try.func28 #[.agg #[.int .i64 t320, .slice Ao37 t321.length co37, .slice Ao38 t324.length co38]] ?_; (with_reducible refine (curves_Mirror.calls kj4 t320 _ _ t321 _ _ t324 t327 t328 t331 t334 _ ?side1 ?side2 ?side3 ?side4 A31.out).mono ?_); (case side1 => exact kD (Kd.R_reads' HO323.out).2.2); (case side2 => exact (Kd.R_reads' HO323.out).2.1); (case side3 => exact kD (Kd.R_reads' HO326.out).2.2); (case side4 => exact (Kd.R_reads' HO326.out).2.1); rintro e w39 ⟨v329, v332, rfl, ho0, ho1, hb⟩; refine ⟨_, rfl, ?_⟩; have HO330 := ak (Kd.R_lower (Kd.R_new' (Kd.R_new' (Kd.R_new' (Kd.R_new' ho0 (Kd.R_lt (rC HO_318001))) (Kd.R_lt (rC HO_318002))) (Kd.R_lt (rC HO323))) (Kd.R_lt (rC HO326))) (below_size (hbC _))); have HO333 := ak (Kd.R_lower (Kd.R_new' (Kd.R_new' (Kd.R_new' (Kd.R_new' ho1 (Kd.R_lt (rC HO_318001))) (Kd.R_lt (rC HO_318002))) (Kd.R_lt (rC HO323))) (Kd.R_lt (rC HO326))) (below_size (hbC _))); replace HO_318001 := kT HO_318001 hb ho0 ho1; replace HO_318002 := kT HO_318002 hb ho0 ho1; replace HO323 := kT HO323 hb ho0 ho1; replace HO326 := kT HO326 hb ho0 ho1; replace BK300 := kB BK300 hb; replace BK301 := kB BK301 hb; replace BK317 := kB BK317 hb; replace HB := kH _ hb; (try clear hb); (try clear hb2); (try clear hk); (try clear hi); (try clear ho0); (try clear ho1)) | ((with_reducible refine gate_dst (N := 7) rfl ?_); refine bE 7 #[.int .i64 0, .slice none 0 0, .slice none 0 0] 30 ?_; intro gb335 hg w40 hbox hb; replace HO_318001 := kO HO_318001 hb; replace HO_318002 := kO HO_318002 hb; replace HO323 := kO HO323 hb; replace HO326 := kO HO326 hb; replace HO330 := kO HO330 hb; replace HO333 := kO HO333 hb; have BK335 := ak (hbox); have GW335 := kG w hg; have GE335 := kG w hg; replace HB := kH _ hb; have NB300_335 := kL BK300 hg; have NB335_300 := kR BK300 hg; replace BK300 := kB BK300 hb; have NB301_335 := kL BK301 hg; have NB335_301 := kR BK301 hg; replace BK301 := kB BK301 hb; have NB317_335 := kL BK317 hg; have NB335_317 := kR BK317 hg; replace BK317 := kB BK317 hb; clear hb hbox hg; have hnb41 := NB335_300.out; have hnc41 := NB300_335.out; have hnb42 := NB335_301.out; have hnc42 := NB301_335.out; have hnb43 := NB335_317.out; have hnc43 := NB317_335.out; have hcz44_0 : w40.cell? ⟨gb335, 0, none⟩ = some (.int .i64 0) := bc BK335 0; have hcz44_1 : w40.cell? ⟨gb335, 1, none⟩ = some (.slice none 0 0) := bc BK335 1; have hcz44_2 : w40.cell? ⟨gb335, 2, none⟩ = some (.slice none 0 0) := bc BK335 2; have hfz44_0 := fz BK335 0; have hfz44_1 := fz BK335 1; have hfz44_2 := fz BK335 2; obtain ⟨Ao45, co45, eo45⟩ := Kd.R_slice HO330.out; subst eo45; obtain ⟨Ao46, co46, eo46⟩ := Kd.R_slice HO333.out; subst eo46))
   (try simp only [Act.put, List.setIfInBounds_toArray, List.set_cons_zero, List.set_cons_succ])
   go_cut [49] (fun v49 wc => ∃ (kq : Nat) (x49_31 : Bool), v49 = .bool x49_31 ∧ Aside0 (congoulaw04_CurvesMirrored.j1 kq x49_31 a0_0 l0_1 l0_2 a1_0 a1_1 t309 t310 t313 = some r) ∧ Aside0 (kq ≤ kj4) ∧ Aside0 (Kd.R (Kd.int .i64) 3 wc w.heap.size (fun k_ => some k_ ≠ ((.slice Ao19 t313.length co19) : Value).ownBlock ∧ some k_ ≠ ((.slice Ao45 t328.length co45) : Value).ownBlock ∧ some k_ ≠ ((.slice Ao46 t331.length co46) : Value).ownBlock) (.slice Ao18 t310.length co18) t310) ∧ Aside0 (Kd.R (Kd.int .i64) 3 wc w.heap.size (fun k_ => some k_ ≠ ((.slice Ao18 t310.length co18) : Value).ownBlock ∧ some k_ ≠ ((.slice Ao45 t328.length co45) : Value).ownBlock ∧ some k_ ≠ ((.slice Ao46 t331.length co46) : Value).ownBlock) (.slice Ao19 t313.length co19) t313) ∧ Aside0 (Kd.R (Kd.int .i64) 3 wc w.heap.size (fun k_ => some k_ ≠ ((.slice Ao18 t310.length co18) : Value).ownBlock ∧ some k_ ≠ ((.slice Ao19 t313.length co19) : Value).ownBlock ∧ some k_ ≠ ((.slice Ao46 t331.length co46) : Value).ownBlock) (.slice Ao45 t328.length co45) t328) ∧ Aside0 (Kd.R (Kd.int .i64) 3 wc w.heap.size (fun k_ => some k_ ≠ ((.slice Ao18 t310.length co18) : Value).ownBlock ∧ some k_ ≠ ((.slice Ao19 t313.length co19) : Value).ownBlock ∧ some k_ ≠ ((.slice Ao45 t328.length co45) : Value).ownBlock) (.slice Ao46 t331.length co46) t331) ∧ Aside0 (wc.heap[gb300]? = some (.cells #[.int .i64 a0_0, (.slice A0_1 l0_1.length c0_1), (.slice A0_2 l0_2.length c0_2)] 24 (0, 0))) ∧ Aside0 (wc.heap[gb301]? = some (.cells #[.int .i64 a1_0, .int .i64 a1_1] 26 (0, 0))) ∧ Aside0 (wc.heap[gb317]? = some (.cells #[.int .i64 t309, (.slice Ao18 t310.length co18), (.slice Ao19 t313.length co19)] 30 (0, 0))) ∧ Aside0 (wc.heap[gb335]? = some (.cells #[.int .i64 t327, (.slice Ao45 t328.length co45), (.slice Ao46 t331.length co46)] 30 (0, 0))) ∧ Aside0 (Below w.heap.size w wc))
   case first =>
    have H := HC32.out
    clear HC32
    by_cases c47 : t334 = 0
    rotate_left
    ·rw [if_neg c47] at H
     have c47b0 : (t334 == 0) = false := beq_eq_false_iff_ne.mpr c47
     have c47b1 : (t334 != 0) = true := bne_iff_ne.mpr c47
     (first | rw [c47b0] | (simp only [i64_w, i32_w]; rw [c47b0]) | skip)
     have H' := Aside0.mk H
     clear H
     try go_wp2
     have n0_ : Aside0 (Kd.R (Kd.int .i64) 3 (((w40.setCell ⟨gb335, 0, none⟩ (.int .i64 t327)).setCell ⟨gb335, 1, none⟩ (.slice Ao45 t328.length co45)).setCell ⟨gb335, 2, none⟩ (.slice Ao46 t331.length co46)) w.heap.size (fun k_ => nb k_ (.slice Ao19 t313.length co19) ∧ nb k_ (.slice Ao37 t321.length co37) ∧ nb k_ (.slice Ao38 t324.length co38) ∧ nb k_ (.slice Ao45 t328.length co45) ∧ nb k_ (.slice Ao46 t331.length co46)) (.slice Ao18 t310.length co18) t310) := ⟨rD (Kd.R_mono (Kd.R_far (p := ⟨gb335, 2, none⟩) (Kd.R_far (p := ⟨gb335, 1, none⟩) (Kd.R_far (p := ⟨gb335, 0, none⟩) (Kd.R_types HO_318001.out BK335.out (by decide)) (fun _ hk => hk.2) (.int .i64 t327)) (fun _ hk => hk.2) (.slice Ao45 t328.length co45)) (fun _ hk => hk.2) (.slice Ao46 t331.length co46)) (fun _ hk => ⟨hk.1.1.1.1.1, ⟨hk.1.1.1.1.2, ⟨hk.1.1.1.2, ⟨hk.1.1.2, hk.1.2⟩⟩⟩⟩))⟩
     have n1_ : Aside0 (Kd.R (Kd.int .i64) 3 (((w40.setCell ⟨gb335, 0, none⟩ (.int .i64 t327)).setCell ⟨gb335, 1, none⟩ (.slice Ao45 t328.length co45)).setCell ⟨gb335, 2, none⟩ (.slice Ao46 t331.length co46)) w.heap.size (fun k_ => nb k_ (.slice Ao18 t310.length co18) ∧ nb k_ (.slice Ao37 t321.length co37) ∧ nb k_ (.slice Ao38 t324.length co38) ∧ nb k_ (.slice Ao45 t328.length co45) ∧ nb k_ (.slice Ao46 t331.length co46)) (.slice Ao19 t313.length co19) t313) := ⟨rD (Kd.R_mono (Kd.R_far (p := ⟨gb335, 2, none⟩) (Kd.R_far (p := ⟨gb335, 1, none⟩) (Kd.R_far (p := ⟨gb335, 0, none⟩) (Kd.R_types HO_318002.out BK335.out (by decide)) (fun _ hk => hk.2) (.int .i64 t327)) (fun _ hk => hk.2) (.slice Ao45 t328.length co45)) (fun _ hk => hk.2) (.slice Ao46 t331.length co46)) (fun _ hk => ⟨hk.1.1.1.1.1, ⟨hk.1.1.1.1.2, ⟨hk.1.1.1.2, ⟨hk.1.1.2, hk.1.2⟩⟩⟩⟩))⟩
     have n2_ : Aside0 (Kd.R (Kd.int .i64) 3 (((w40.setCell ⟨gb335, 0, none⟩ (.int .i64 t327)).setCell ⟨gb335, 1, none⟩ (.slice Ao45 t328.length co45)).setCell ⟨gb335, 2, none⟩ (.slice Ao46 t331.length co46)) w.heap.size (fun k_ => nb k_ (.slice Ao18 t310.length co18) ∧ nb k_ (.slice Ao19 t313.length co19) ∧ nb k_ (.slice Ao38 t324.length co38) ∧ nb k_ (.slice Ao45 t328.length co45) ∧ nb k_ (.slice Ao46 t331.length co46)) (.slice Ao37 t321.length co37) t321) := ⟨rD (Kd.R_mono (Kd.R_far (p := ⟨gb335, 2, none⟩) (Kd.R_far (p := ⟨gb335, 1, none⟩) (Kd.R_far (p := ⟨gb335, 0, none⟩) (Kd.R_types HO323.out BK335.out (by decide)) (fun _ hk => hk.2) (.int .i64 t327)) (fun _ hk => hk.2) (.slice Ao45 t328.length co45)) (fun _ hk => hk.2) (.slice Ao46 t331.length co46)) (fun _ hk => ⟨hk.1.1.1.1.2, ⟨hk.1.1.1.2, ⟨hk.1.1.1.1.1, ⟨hk.1.1.2, hk.1.2⟩⟩⟩⟩))⟩
     have n3_ : Aside0 (Kd.R (Kd.int .i64) 3 (((w40.setCell ⟨gb335, 0, none⟩ (.int .i64 t327)).setCell ⟨gb335, 1, none⟩ (.slice Ao45 t328.length co45)).setCell ⟨gb335, 2, none⟩ (.slice Ao46 t331.length co46)) w.heap.size (fun k_ => nb k_ (.slice Ao18 t310.length co18) ∧ nb k_ (.slice Ao19 t313.length co19) ∧ nb k_ (.slice Ao37 t321.length co37) ∧ nb k_ (.slice Ao45 t328.length co45) ∧ nb k_ (.slice Ao46 t331.length co46)) (.slice Ao38 t324.length co38) t324) := ⟨rD (Kd.R_mono (Kd.R_far (p := ⟨gb335, 2, none⟩) (Kd.R_far (p := ⟨gb335, 1, none⟩) (Kd.R_far (p := ⟨gb335, 0, none⟩) (Kd.R_types HO326.out BK335.out (by decide)) (fun _ hk => hk.2) (.int .i64 t327)) (fun _ hk => hk.2) (.slice Ao45 t328.length co45)) (fun _ hk => hk.2) (.slice Ao46 t331.length co46)) (fun _ hk => ⟨hk.1.1.1.1.2, ⟨hk.1.1.1.2, ⟨hk.1.1.1.1.1, ⟨hk.1.1.2, hk.1.2⟩⟩⟩⟩))⟩
     have n4_ : Aside0 (Kd.R (Kd.int .i64) 3 (((w40.setCell ⟨gb335, 0, none⟩ (.int .i64 t327)).setCell ⟨gb335, 1, none⟩ (.slice Ao45 t328.length co45)).setCell ⟨gb335, 2, none⟩ (.slice Ao46 t331.length co46)) w.heap.size (fun k_ => nb k_ (.slice Ao18 t310.length co18) ∧ nb k_ (.slice Ao19 t313.length co19) ∧ nb k_ (.slice Ao37 t321.length co37) ∧ nb k_ (.slice Ao38 t324.length co38) ∧ nb k_ (.slice Ao46 t331.length co46)) (.slice Ao45 t328.length co45) t328) := ⟨rD (Kd.R_mono (Kd.R_far (p := ⟨gb335, 2, none⟩) (Kd.R_far (p := ⟨gb335, 1, none⟩) (Kd.R_far (p := ⟨gb335, 0, none⟩) (Kd.R_types HO330.out BK335.out (by decide)) (fun _ hk => hk.2) (.int .i64 t327)) (fun _ hk => hk.2) (.slice Ao45 t328.length co45)) (fun _ hk => hk.2) (.slice Ao46 t331.length co46)) (fun _ hk => ⟨hk.1.1.1.1.2, ⟨hk.1.1.1.2, ⟨hk.1.1.2, ⟨hk.1.2, hk.1.1.1.1.1⟩⟩⟩⟩))⟩
     have n5_ : Aside0 (Kd.R (Kd.int .i64) 3 (((w40.setCell ⟨gb335, 0, none⟩ (.int .i64 t327)).setCell ⟨gb335, 1, none⟩ (.slice Ao45 t328.length co45)).setCell ⟨gb335, 2, none⟩ (.slice Ao46 t331.length co46)) w.heap.size (fun k_ => nb k_ (.slice Ao18 t310.length co18) ∧ nb k_ (.slice Ao19 t313.length co19) ∧ nb k_ (.slice Ao37 t321.length co37) ∧ nb k_ (.slice Ao38 t324.length co38) ∧ nb k_ (.slice Ao45 t328.length co45)) (.slice Ao46 t331.length co46) t331) := ⟨rD (Kd.R_mono (Kd.R_far (p := ⟨gb335, 2, none⟩) (Kd.R_far (p := ⟨gb335, 1, none⟩) (Kd.R_far (p := ⟨gb335, 0, none⟩) (Kd.R_types HO333.out BK335.out (by decide)) (fun _ hk => hk.2) (.int .i64 t327)) (fun _ hk => hk.2) (.slice Ao45 t328.length co45)) (fun _ hk => hk.2) (.slice Ao46 t331.length co46)) (fun _ hk => ⟨hk.1.1.1.1.2, ⟨hk.1.1.1.2, ⟨hk.1.1.2, ⟨hk.1.2, hk.1.1.1.1.1⟩⟩⟩⟩))⟩
     have n6_ : Aside0 ((((w40.setCell ⟨gb335, 0, none⟩ (.int .i64 t327)).setCell ⟨gb335, 1, none⟩ (.slice Ao45 t328.length co45)).setCell ⟨gb335, 2, none⟩ (.slice Ao46 t331.length co46)).heap[gb300]? = some (.cells #[.int .i64 a0_0, .slice A0_1 l0_1.length c0_1, .slice A0_2 l0_2.length c0_2] 24 (0, 0))) := ⟨bF BK300⟩
     have n7_ : Aside0 ((((w40.setCell ⟨gb335, 0, none⟩ (.int .i64 t327)).setCell ⟨gb335, 1, none⟩ (.slice Ao45 t328.length co45)).setCell ⟨gb335, 2, none⟩ (.slice Ao46 t331.length co46)).heap[gb301]? = some (.cells #[.int .i64 a1_0, .int .i64 a1_1] 26 (0, 0))) := ⟨bF BK301⟩
     have n8_ : Aside0 ((((w40.setCell ⟨gb335, 0, none⟩ (.int .i64 t327)).setCell ⟨gb335, 1, none⟩ (.slice Ao45 t328.length co45)).setCell ⟨gb335, 2, none⟩ (.slice Ao46 t331.length co46)).heap[gb317]? = some (.cells #[.int .i64 t309, .slice Ao18 t310.length co18, .slice Ao19 t313.length co19] 30 (0, 0))) := ⟨bF BK317⟩
     have n9_ : Aside0 ((((w40.setCell ⟨gb335, 0, none⟩ (.int .i64 t327)).setCell ⟨gb335, 1, none⟩ (.slice Ao45 t328.length co45)).setCell ⟨gb335, 2, none⟩ (.slice Ao46 t331.length co46)).heap[gb335]? = some (.cells #[.int .i64 t327, .slice Ao45 t328.length co45, .slice Ao46 t331.length co46] 30 (0, 0))) := ⟨by (with_reducible repeat (first | refine blk_drewN ?_ _ | refine blk_drew ?_ | refine blk_alloc ?_ _)); refine blk_put (cs := #[.int .i64 t327, .slice Ao45 t328.length co45, .slice none 0 0]) ?_ 2 _ rfl; (with_reducible repeat (first | refine blk_drewN ?_ _ | refine blk_drew ?_ | refine blk_alloc ?_ _)); refine blk_put (cs := #[.int .i64 t327, .slice none 0 0, .slice none 0 0]) ?_ 1 _ rfl; (with_reducible repeat (first | refine blk_drewN ?_ _ | refine blk_drew ?_ | refine blk_alloc ?_ _)); refine blk_put (cs := #[.int .i64 0, .slice none 0 0, .slice none 0 0]) ?_ 0 _ rfl; (with_reducible repeat (first | refine blk_drewN ?_ _ | refine blk_drew ?_ | refine blk_alloc ?_ _)); exact BK335.out⟩
     have n10_ : Aside0 (Below w.heap.size w (((w40.setCell ⟨gb335, 0, none⟩ (.int .i64 t327)).setCell ⟨gb335, 1, none⟩ (.slice Ao45 t328.length co45)).setCell ⟨gb335, 2, none⟩ (.slice Ao46 t331.length co46))) := ⟨hbC _⟩
     (try clear HO_318001)
     (try clear HO_318002)
     (try clear HO323)
     (try clear HO326)
     (try clear HO330)
     (try clear HO333)
     (try clear BK300)
     (try clear BK301)
     (try clear BK317)
     (try clear BK335)
     (try clear HB)
     generalize (((w40.setCell ⟨gb335, 0, none⟩ (.int .i64 t327)).setCell ⟨gb335, 1, none⟩ (.slice Ao45 t328.length co45)).setCell ⟨gb335, 2, none⟩ (.slice Ao46 t331.length co46)) = w52 at n0_ n1_ n2_ n3_ n4_ n5_ n6_ n7_ n8_ n9_ n10_ ⊢
     have HO_318001 := n0_
     have HO_318002 := n1_
     have HO323 := n2_
     have HO326 := n3_
     have HO330 := n4_
     have HO333 := n5_
     have BK300 := n6_
     have BK301 := n7_
     have BK317 := n8_
     have BK335 := n9_
     have HB := n10_
     clear n0_ n1_ n2_ n3_ n4_ n5_ n6_ n7_ n8_ n9_ n10_
     replace HO_318001 := ak (Kd.R_drew HO_318001.out)
     replace HO_318002 := ak (Kd.R_drew HO_318002.out)
     replace HO323 := ak (Kd.R_drew HO323.out)
     replace HO326 := ak (Kd.R_drew HO326.out)
     replace HO330 := ak (Kd.R_drew HO330.out)
     replace HO333 := ak (Kd.R_drew HO333.out)
     replace BK300 := kd BK300
     replace BK301 := kd BK301
     replace BK317 := kd BK317
     replace BK335 := kd BK335
     replace HB := ak (below_drew1 HB.out)
     refine sS (n := 9) (S := fun w' => True) (ds := []) trivial (fun hHeld => ?_); refine with_tabW congoulaw04_CurvesMirrored.tab5 congoulaw04_CurvesMirrored.bits5 (fun HT_ HW_ => ?_)
     generalize w52.drew = w53 at HO_318001 HO_318002 HO323 HO326 HO330 HO333 BK300 BK301 BK317 BK335 HB hHeld ⊢
     refine pS 0 41 9 1 ?_
     refine pS 1 42 9 3 ?_
     refine pS 2 43 9 7 ?_
     refine uS 3 44 9 15 ?_
     refine uS 4 45 9 31 ?_
     refine uS 5 46 9 63 ?_
     refine uS 6 47 9 127 ?_
     refine uS 7 48 9 255 ?_
     refine pS 8 49 9 511 ?_
     refine done_ (done_of HT_.out (by kernel_rfl)) ?_
     try go_wp2
     go_meet
     case rel => exact ⟨_, (true), (by first | rfl | (simp; done) | (simp [*]; done)), H', ⟨by have := HJ4.out; first | omega | exact Nat.le_refl _⟩, ⟨rD (Kd.R_mono HO_318001.out (fun _ hk => ⟨hk.1, ⟨hk.2.2.2.1, hk.2.2.2.2⟩⟩))⟩, ⟨rD (Kd.R_mono HO_318002.out (fun _ hk => ⟨hk.1, ⟨hk.2.2.2.1, hk.2.2.2.2⟩⟩))⟩, ⟨rD (Kd.R_mono HO330.out (fun _ hk => ⟨hk.1, ⟨hk.2.1, hk.2.2.2.2⟩⟩))⟩, ⟨rD (Kd.R_mono HO333.out (fun _ hk => ⟨hk.1, ⟨hk.2.1, hk.2.2.2.2⟩⟩))⟩, ⟨bkC BK300⟩, ⟨bkC BK301⟩, ⟨bkC BK317⟩, ⟨bkC BK335⟩, ⟨hbC _⟩⟩
    rw [if_pos c47] at H
    have c47b0 : (t334 == 0) = true := beq_iff_eq.mpr c47
    have c47b1 : (t334 != 0) = false := bne_eq_false_iff_eq.mpr c47
    clear c47
    (first | rw [c47b0] | (simp only [i64_w, i32_w]; rw [c47b0]) | skip)
    replace H := Option.bind_eq_some_iff.mp H
    obtain ⟨t336, A480, H⟩ := H
    replace H : (congoulaw04_CurvesMirrored.j1 kj4 (!t336) a0_0 l0_1 l0_2 a1_0 a1_1 t309 t310 t313) = some r := H
    have A48 := Aside0.mk A480
    clear A480
    have H' := Aside0.mk H
    clear H
    try go_wp2
    have n0_ : Aside0 (Kd.R (Kd.int .i64) 3 (((w40.setCell ⟨gb335, 0, none⟩ (.int .i64 t327)).setCell ⟨gb335, 1, none⟩ (.slice Ao45 t328.length co45)).setCell ⟨gb335, 2, none⟩ (.slice Ao46 t331.length co46)) w.heap.size (fun k_ => nb k_ (.slice Ao19 t313.length co19) ∧ nb k_ (.slice Ao37 t321.length co37) ∧ nb k_ (.slice Ao38 t324.length co38) ∧ nb k_ (.slice Ao45 t328.length co45) ∧ nb k_ (.slice Ao46 t331.length co46)) (.slice Ao18 t310.length co18) t310) := ⟨rD (Kd.R_mono (Kd.R_far (p := ⟨gb335, 2, none⟩) (Kd.R_far (p := ⟨gb335, 1, none⟩) (Kd.R_far (p := ⟨gb335, 0, none⟩) (Kd.R_types HO_318001.out BK335.out (by decide)) (fun _ hk => hk.2) (.int .i64 t327)) (fun _ hk => hk.2) (.slice Ao45 t328.length co45)) (fun _ hk => hk.2) (.slice Ao46 t331.length co46)) (fun _ hk => ⟨hk.1.1.1.1.1, ⟨hk.1.1.1.1.2, ⟨hk.1.1.1.2, ⟨hk.1.1.2, hk.1.2⟩⟩⟩⟩))⟩
    have n1_ : Aside0 (Kd.R (Kd.int .i64) 3 (((w40.setCell ⟨gb335, 0, none⟩ (.int .i64 t327)).setCell ⟨gb335, 1, none⟩ (.slice Ao45 t328.length co45)).setCell ⟨gb335, 2, none⟩ (.slice Ao46 t331.length co46)) w.heap.size (fun k_ => nb k_ (.slice Ao18 t310.length co18) ∧ nb k_ (.slice Ao37 t321.length co37) ∧ nb k_ (.slice Ao38 t324.length co38) ∧ nb k_ (.slice Ao45 t328.length co45) ∧ nb k_ (.slice Ao46 t331.length co46)) (.slice Ao19 t313.length co19) t313) := ⟨rD (Kd.R_mono (Kd.R_far (p := ⟨gb335, 2, none⟩) (Kd.R_far (p := ⟨gb335, 1, none⟩) (Kd.R_far (p := ⟨gb335, 0, none⟩) (Kd.R_types HO_318002.out BK335.out (by decide)) (fun _ hk => hk.2) (.int .i64 t327)) (fun _ hk => hk.2) (.slice Ao45 t328.length co45)) (fun _ hk => hk.2) (.slice Ao46 t331.length co46)) (fun _ hk => ⟨hk.1.1.1.1.1, ⟨hk.1.1.1.1.2, ⟨hk.1.1.1.2, ⟨hk.1.1.2, hk.1.2⟩⟩⟩⟩))⟩
    have n2_ : Aside0 (Kd.R (Kd.int .i64) 3 (((w40.setCell ⟨gb335, 0, none⟩ (.int .i64 t327)).setCell ⟨gb335, 1, none⟩ (.slice Ao45 t328.length co45)).setCell ⟨gb335, 2, none⟩ (.slice Ao46 t331.length co46)) w.heap.size (fun k_ => nb k_ (.slice Ao18 t310.length co18) ∧ nb k_ (.slice Ao19 t313.length co19) ∧ nb k_ (.slice Ao38 t324.length co38) ∧ nb k_ (.slice Ao45 t328.length co45) ∧ nb k_ (.slice Ao46 t331.length co46)) (.slice Ao37 t321.length co37) t321) := ⟨rD (Kd.R_mono (Kd.R_far (p := ⟨gb335, 2, none⟩) (Kd.R_far (p := ⟨gb335, 1, none⟩) (Kd.R_far (p := ⟨gb335, 0, none⟩) (Kd.R_types HO323.out BK335.out (by decide)) (fun _ hk => hk.2) (.int .i64 t327)) (fun _ hk => hk.2) (.slice Ao45 t328.length co45)) (fun _ hk => hk.2) (.slice Ao46 t331.length co46)) (fun _ hk => ⟨hk.1.1.1.1.2, ⟨hk.1.1.1.2, ⟨hk.1.1.1.1.1, ⟨hk.1.1.2, hk.1.2⟩⟩⟩⟩))⟩
    have n3_ : Aside0 (Kd.R (Kd.int .i64) 3 (((w40.setCell ⟨gb335, 0, none⟩ (.int .i64 t327)).setCell ⟨gb335, 1, none⟩ (.slice Ao45 t328.length co45)).setCell ⟨gb335, 2, none⟩ (.slice Ao46 t331.length co46)) w.heap.size (fun k_ => nb k_ (.slice Ao18 t310.length co18) ∧ nb k_ (.slice Ao19 t313.length co19) ∧ nb k_ (.slice Ao37 t321.length co37) ∧ nb k_ (.slice Ao45 t328.length co45) ∧ nb k_ (.slice Ao46 t331.length co46)) (.slice Ao38 t324.length co38) t324) := ⟨rD (Kd.R_mono (Kd.R_far (p := ⟨gb335, 2, none⟩) (Kd.R_far (p := ⟨gb335, 1, none⟩) (Kd.R_far (p := ⟨gb335, 0, none⟩) (Kd.R_types HO326.out BK335.out (by decide)) (fun _ hk => hk.2) (.int .i64 t327)) (fun _ hk => hk.2) (.slice Ao45 t328.length co45)) (fun _ hk => hk.2) (.slice Ao46 t331.length co46)) (fun _ hk => ⟨hk.1.1.1.1.2, ⟨hk.1.1.1.2, ⟨hk.1.1.1.1.1, ⟨hk.1.1.2, hk.1.2⟩⟩⟩⟩))⟩
    have n4_ : Aside0 (Kd.R (Kd.int .i64) 3 (((w40.setCell ⟨gb335, 0, none⟩ (.int .i64 t327)).setCell ⟨gb335, 1, none⟩ (.slice Ao45 t328.length co45)).setCell ⟨gb335, 2, none⟩ (.slice Ao46 t331.length co46)) w.heap.size (fun k_ => nb k_ (.slice Ao18 t310.length co18) ∧ nb k_ (.slice Ao19 t313.length co19) ∧ nb k_ (.slice Ao37 t321.length co37) ∧ nb k_ (.slice Ao38 t324.length co38) ∧ nb k_ (.slice Ao46 t331.length co46)) (.slice Ao45 t328.length co45) t328) := ⟨rD (Kd.R_mono (Kd.R_far (p := ⟨gb335, 2, none⟩) (Kd.R_far (p := ⟨gb335, 1, none⟩) (Kd.R_far (p := ⟨gb335, 0, none⟩) (Kd.R_types HO330.out BK335.out (by decide)) (fun _ hk => hk.2) (.int .i64 t327)) (fun _ hk => hk.2) (.slice Ao45 t328.length co45)) (fun _ hk => hk.2) (.slice Ao46 t331.length co46)) (fun _ hk => ⟨hk.1.1.1.1.2, ⟨hk.1.1.1.2, ⟨hk.1.1.2, ⟨hk.1.2, hk.1.1.1.1.1⟩⟩⟩⟩))⟩
    have n5_ : Aside0 (Kd.R (Kd.int .i64) 3 (((w40.setCell ⟨gb335, 0, none⟩ (.int .i64 t327)).setCell ⟨gb335, 1, none⟩ (.slice Ao45 t328.length co45)).setCell ⟨gb335, 2, none⟩ (.slice Ao46 t331.length co46)) w.heap.size (fun k_ => nb k_ (.slice Ao18 t310.length co18) ∧ nb k_ (.slice Ao19 t313.length co19) ∧ nb k_ (.slice Ao37 t321.length co37) ∧ nb k_ (.slice Ao38 t324.length co38) ∧ nb k_ (.slice Ao45 t328.length co45)) (.slice Ao46 t331.length co46) t331) := ⟨rD (Kd.R_mono (Kd.R_far (p := ⟨gb335, 2, none⟩) (Kd.R_far (p := ⟨gb335, 1, none⟩) (Kd.R_far (p := ⟨gb335, 0, none⟩) (Kd.R_types HO333.out BK335.out (by decide)) (fun _ hk => hk.2) (.int .i64 t327)) (fun _ hk => hk.2) (.slice Ao45 t328.length co45)) (fun _ hk => hk.2) (.slice Ao46 t331.length co46)) (fun _ hk => ⟨hk.1.1.1.1.2, ⟨hk.1.1.1.2, ⟨hk.1.1.2, ⟨hk.1.2, hk.1.1.1.1.1⟩⟩⟩⟩))⟩
    have n6_ : Aside0 ((((w40.setCell ⟨gb335, 0, none⟩ (.int .i64 t327)).setCell ⟨gb335, 1, none⟩ (.slice Ao45 t328.length co45)).setCell ⟨gb335, 2, none⟩ (.slice Ao46 t331.length co46)).heap[gb300]? = some (.cells #[.int .i64 a0_0, .slice A0_1 l0_1.length c0_1, .slice A0_2 l0_2.length c0_2] 24 (0, 0))) := ⟨bF BK300⟩
    have n7_ : Aside0 ((((w40.setCell ⟨gb335, 0, none⟩ (.int .i64 t327)).setCell ⟨gb335, 1, none⟩ (.slice Ao45 t328.length co45)).setCell ⟨gb335, 2, none⟩ (.slice Ao46 t331.length co46)).heap[gb301]? = some (.cells #[.int .i64 a1_0, .int .i64 a1_1] 26 (0, 0))) := ⟨bF BK301⟩
    have n8_ : Aside0 ((((w40.setCell ⟨gb335, 0, none⟩ (.int .i64 t327)).setCell ⟨gb335, 1, none⟩ (.slice Ao45 t328.length co45)).setCell ⟨gb335, 2, none⟩ (.slice Ao46 t331.length co46)).heap[gb317]? = some (.cells #[.int .i64 t309, .slice Ao18 t310.length co18, .slice Ao19 t313.length co19] 30 (0, 0))) := ⟨bF BK317⟩
    have n9_ : Aside0 ((((w40.setCell ⟨gb335, 0, none⟩ (.int .i64 t327)).setCell ⟨gb335, 1, none⟩ (.slice Ao45 t328.length co45)).setCell ⟨gb335, 2, none⟩ (.slice Ao46 t331.length co46)).heap[gb335]? = some (.cells #[.int .i64 t327, .slice Ao45 t328.length co45, .slice Ao46 t331.length co46] 30 (0, 0))) := ⟨by (with_reducible repeat (first | refine blk_drewN ?_ _ | refine blk_drew ?_ | refine blk_alloc ?_ _)); refine blk_put (cs := #[.int .i64 t327, .slice Ao45 t328.length co45, .slice none 0 0]) ?_ 2 _ rfl; (with_reducible repeat (first | refine blk_drewN ?_ _ | refine blk_drew ?_ | refine blk_alloc ?_ _)); refine blk_put (cs := #[.int .i64 t327, .slice none 0 0, .slice none 0 0]) ?_ 1 _ rfl; (with_reducible repeat (first | refine blk_drewN ?_ _ | refine blk_drew ?_ | refine blk_alloc ?_ _)); refine blk_put (cs := #[.int .i64 0, .slice none 0 0, .slice none 0 0]) ?_ 0 _ rfl; (with_reducible repeat (first | refine blk_drewN ?_ _ | refine blk_drew ?_ | refine blk_alloc ?_ _)); exact BK335.out⟩
    have n10_ : Aside0 (Below w.heap.size w (((w40.setCell ⟨gb335, 0, none⟩ (.int .i64 t327)).setCell ⟨gb335, 1, none⟩ (.slice Ao45 t328.length co45)).setCell ⟨gb335, 2, none⟩ (.slice Ao46 t331.length co46))) := ⟨hbC _⟩
    (try clear HO_318001)
    (try clear HO_318002)
    (try clear HO323)
    (try clear HO326)
    (try clear HO330)
    (try clear HO333)
    (try clear BK300)
    (try clear BK301)
    (try clear BK317)
    (try clear BK335)
    (try clear HB)
    generalize (((w40.setCell ⟨gb335, 0, none⟩ (.int .i64 t327)).setCell ⟨gb335, 1, none⟩ (.slice Ao45 t328.length co45)).setCell ⟨gb335, 2, none⟩ (.slice Ao46 t331.length co46)) = w49 at n0_ n1_ n2_ n3_ n4_ n5_ n6_ n7_ n8_ n9_ n10_ ⊢
    have HO_318001 := n0_
    have HO_318002 := n1_
    have HO323 := n2_
    have HO326 := n3_
    have HO330 := n4_
    have HO333 := n5_
    have BK300 := n6_
    have BK301 := n7_
    have BK317 := n8_
    have BK335 := n9_
    have HB := n10_
    clear n0_ n1_ n2_ n3_ n4_ n5_ n6_ n7_ n8_ n9_ n10_
    replace HO_318001 := ak (Kd.R_drew HO_318001.out)
    replace HO_318002 := ak (Kd.R_drew HO_318002.out)
    replace HO323 := ak (Kd.R_drew HO323.out)
    replace HO326 := ak (Kd.R_drew HO326.out)
    replace HO330 := ak (Kd.R_drew HO330.out)
    replace HO333 := ak (Kd.R_drew HO333.out)
    replace BK300 := kd BK300
    replace BK301 := kd BK301
    replace BK317 := kd BK317
    replace BK335 := kd BK335
    replace HB := ak (below_drew1 HB.out)
    refine sS (n := 9) (S := fun w' => w'.cell? ⟨gb335, 0, none⟩ = some (.int .i64 t327) ∧ w'.cell? ⟨gb335, 1, none⟩ = some (.slice Ao45 t328.length co45) ∧ w'.cell? ⟨gb335, 2, none⟩ = some (.slice Ao46 t331.length co46) ∧ w'.cell? ⟨gb300, 0, none⟩ = some (.int .i64 a0_0) ∧ w'.cell? ⟨gb300, 1, none⟩ = some (.slice A0_1 l0_1.length c0_1) ∧ w'.cell? ⟨gb300, 2, none⟩ = some (.slice A0_2 l0_2.length c0_2)) (ds := []) ⟨bc BK335 0, bc BK335 1, bc BK335 2, bc BK300 0, bc BK300 1, bc BK300 2⟩ (fun hHeld => ?_); refine with_tabW congoulaw04_CurvesMirrored.tab5 congoulaw04_CurvesMirrored.bits5 (fun HT_ HW_ => ?_)
    generalize w49.drew = w50 at HO_318001 HO_318002 HO323 HO326 HO330 HO333 BK300 BK301 BK317 BK335 HB hHeld ⊢
    refine pS 0 41 9 1 ?_
    refine pS 1 42 9 3 ?_
    refine pS 2 43 9 7 ?_
    refine tS 3 44 9 15 ?_
    refine tS 5 46 9 47 ?_
    refine one_ (i := 4) (N := some 45) (ba 9 63) rfl rfl (one_of HT_.out (by kernel_rfl)) (by decide) (fun K hK => ?_)
    refine gC Try.func30 #[.agg #[.int .i64 t327, .slice Ao45 t328.length co45, .slice Ao46 t331.length co46]] ?_
    with_reducible refine (congoulaw04_own.plain t327 _ _ _ _ _ _ _).mono ?_
    rintro e w51_ ⟨rfl, hb⟩
    refine ⟨_, rfl, ?_⟩
    replace HO_318001 := kO HO_318001 hb
    replace HO_318002 := kO HO_318002 hb
    replace HO323 := kO HO323 hb
    replace HO326 := kO HO326 hb
    replace HO330 := kO HO330 hb
    replace HO333 := kO HO333 hb
    replace BK300 := kB BK300 hb
    replace BK301 := kB BK301 hb
    replace BK317 := kB BK317 hb
    replace BK335 := kB BK335 hb
    replace HB := kH _ hb
    (try clear hb)
    refine hK.out _ _ ⟨bc BK335 0, bc BK335 1, bc BK335 2, bc BK300 0, bc BK300 1, bc BK300 2⟩ (fun hHeld => ?_)
    clear hK K
    refine norm_ (a' := ?_) ?_ ?_
    rotate_left
    ·show Act.put _ (some 45) _ = _
     simp only [Act.put, List.setIfInBounds_toArray, List.set_cons_zero, List.set_cons_succ, i64_w, i32_w]
     rfl
    refine one_ (i := 6) (N := some 47) (ba 9 127) rfl rfl (one_of HT_.out (by kernel_rfl)) (by decide) (fun K hK => ?_)
    refine gC Try.func31 #[.agg #[.int .i64 t327, .slice Ao45 t328.length co45, .slice Ao46 t331.length co46], .agg #[.int .i64 a0_0, .slice A0_1 l0_1.length c0_1, .slice A0_2 l0_2.length c0_2]] ?_
    with_reducible refine (congoulaw04_same.calls kj4 t327 _ _ t328 _ _ t331 a0_0 _ _ l0_1 _ _ l0_2 t336 _ ?side1 ?side2 ?side3 ?side4 ?side5 ?side6 ?side7 ?side8 A48.out).mono ?_
    (case side1 => exact kD (Kd.R_reads' HO330.out).2.2)
    (case side2 => exact (Kd.R_reads' HO330.out).2.1)
    (case side3 => exact kD (Kd.R_reads' HO333.out).2.2)
    (case side4 => exact (Kd.R_reads' HO333.out).2.1)
    (case side5 => exact kC HR0_1)
    (case side6 => exact HC0_1.out)
    (case side7 => exact kC HR0_2)
    (case side8 => exact HC0_2.out)
    rintro e w51 ⟨rfl, hb⟩
    refine ⟨_, rfl, ?_⟩
    replace HO_318001 := kO HO_318001 hb
    replace HO_318002 := kO HO_318002 hb
    replace HO323 := kO HO323 hb
    replace HO326 := kO HO326 hb
    replace HO330 := kO HO330 hb
    replace HO333 := kO HO333 hb
    replace BK300 := kB BK300 hb
    replace BK301 := kB BK301 hb
    replace BK317 := kB BK317 hb
    replace BK335 := kB BK335 hb
    replace HB := kH _ hb
    (try clear hb)
    (try clear hb2)
    (try clear hk)
    (try clear hi)
    refine hK.out _ _ ⟨bc BK335 0, bc BK335 1, bc BK335 2, bc BK300 0, bc BK300 1, bc BK300 2⟩ (fun hHeld => ?_)
    clear hK K
    refine norm_ (a' := ?_) ?_ ?_
    rotate_left
    ·show Act.put _ (some 47) _ = _
     simp only [Act.put, List.setIfInBounds_toArray, List.set_cons_zero, List.set_cons_succ, i64_w, i32_w]
     rfl
    refine pS 7 48 9 255 ?_
    refine pS 8 49 9 511 ?_
    refine done_ (done_of HT_.out (by kernel_rfl)) ?_
    try go_wp2
    go_meet
    case rel => exact ⟨_, (!t336), (by first | rfl | (simp; done) | (simp [*]; done)), H', ⟨by have := HJ4.out; first | omega | exact Nat.le_refl _⟩, ⟨rD (Kd.R_mono HO_318001.out (fun _ hk => ⟨hk.1, ⟨hk.2.2.2.1, hk.2.2.2.2⟩⟩))⟩, ⟨rD (Kd.R_mono HO_318002.out (fun _ hk => ⟨hk.1, ⟨hk.2.2.2.1, hk.2.2.2.2⟩⟩))⟩, ⟨rD (Kd.R_mono HO330.out (fun _ hk => ⟨hk.1, ⟨hk.2.1, hk.2.2.2.2⟩⟩))⟩, ⟨rD (Kd.R_mono HO333.out (fun _ hk => ⟨hk.1, ⟨hk.2.1, hk.2.2.2.2⟩⟩))⟩, ⟨bkC BK300⟩, ⟨bkC BK301⟩, ⟨bkC BK317⟩, ⟨bkC BK335⟩, ⟨hbC _⟩⟩
   case rest =>
    clear HC32
    try clear c1
    try clear c2
    try clear p2
    try clear c3
    try clear c4
    try clear c7
    try clear c8
    try clear c15
    try clear c16
    try clear c20
    try clear c20b0
    try clear c20b1
    try clear c22
    try clear c23
    try clear c26
    try clear c27
    try clear c27b0
    try clear c27b1
    try clear c28
    try clear c31
    try clear c33
    try clear c34
    try clear c41
    try clear c42
    try clear c43
    try clear c47
    try clear c47b0
    try clear c47b1
    try clear hcz17_0
    try clear hcz17_1
    try clear hcz17_2
    try clear hcz24_0
    try clear hcz24_1
    try clear hcz24_2
    try clear hcz35_0
    try clear hcz35_1
    try clear hcz35_2
    try clear hcz44_0
    try clear hcz44_1
    try clear hcz44_2
    try clear hcz9_0
    try clear hcz9_1
    try clear hcz9_2
    try clear hfz17_0
    try clear hfz17_1
    try clear hfz17_2
    try clear hfz24_0
    try clear hfz24_1
    try clear hfz24_2
    try clear hfz35_0
    try clear hfz35_1
    try clear hfz35_2
    try clear hfz44_0
    try clear hfz44_1
    try clear hfz44_2
    try clear hfz9_0
    try clear hfz9_1
    try clear hfz9_2
    try clear p2
    obtain ⟨kq, x49_31, rfl, HA, HJ31, HO_318001, HO_318002, HO_336001, HO_336002, BK300, BK301, BK317, BK335, HB⟩ := hcut
    cases kq with
    | zero => exact absurd HA.out (by simp [congoulaw04_CurvesMirrored.j1])
    | succ kj31 =>
     have H := HA.out
     clear HA
     simp only [congoulaw04_CurvesMirrored.j1] at H
     by_cases c54 : x49_31 = true
     ·subst c54
      have H1 : (some false) = some r := by rw [if_pos rfl] at H; exact H
      clear H
      have H := H1
      clear H1
      exact absurd (H.trans (congrArg some HRT.out)) (by simp)
     replace c54 := Bool.eq_false_iff.mpr c54
     subst c54
     have H1 : ((congoulaw04_Of.f a0_0 l0_1 l0_2).bind fun bt337 => ((curves_Value.f kj31 bt337.1 bt337.2.1 bt337.2.2 a1_0 a1_1).bind fun bt344 => (if bt344.2.2 = 0 then ((congouref04_In.f kj31 a0_0 l0_1 l0_2 a1_0 a1_1).bind fun t348 => (congoulaw04_CurvesMirrored.j2 kj31 bt344.2.2 (!t348) a0_0 l0_1 l0_2 a1_0 a1_1 t309 t310 t313 bt344.1 bt344.2.1)) else (congoulaw04_CurvesMirrored.j2 kj31 bt344.2.2 true a0_0 l0_1 l0_2 a1_0 a1_1 t309 t310 t313 bt344.1 bt344.2.1)))) = some r := by rw [if_neg (show ¬ (false = true) by decide)] at H; exact H
     clear H
     have H := H1
     clear H1
     replace H := Option.bind_eq_some_iff.mp H
     obtain ⟨⟨t337, t338, t341⟩, A550, H⟩ := H
     replace H : ((curves_Value.f kj31 t337 t338 t341 a1_0 a1_1).bind fun bt344 => (if bt344.2.2 = 0 then ((congouref04_In.f kj31 a0_0 l0_1 l0_2 a1_0 a1_1).bind fun t348 => (congoulaw04_CurvesMirrored.j2 kj31 bt344.2.2 (!t348) a0_0 l0_1 l0_2 a1_0 a1_1 t309 t310 t313 bt344.1 bt344.2.1)) else (congoulaw04_CurvesMirrored.j2 kj31 bt344.2.2 true a0_0 l0_1 l0_2 a1_0 a1_1 t309 t310 t313 bt344.1 bt344.2.1))) = some r := H
     have A55 := Aside0.mk A550
     clear A550
     replace H := Option.bind_eq_some_iff.mp H
     obtain ⟨⟨t344, t345, t346⟩, A560, H⟩ := H
     replace H : (if t346 = 0 then ((congouref04_In.f kj31 a0_0 l0_1 l0_2 a1_0 a1_1).bind fun t348 => (congoulaw04_CurvesMirrored.j2 kj31 t346 (!t348) a0_0 l0_1 l0_2 a1_0 a1_1 t309 t310 t313 t344 t345)) else (congoulaw04_CurvesMirrored.j2 kj31 t346 true a0_0 l0_1 l0_2 a1_0 a1_1 t309 t310 t313 t344 t345)) = some r := H
     have A56 := Aside0.mk A560
     clear A560
     have HC57 := Aside0.mk H
     clear H
     try go_wp2
     replace HO_318001 := ak (Kd.R_drew HO_318001.out)
     replace HO_318002 := ak (Kd.R_drew HO_318002.out)
     replace HO_336001 := ak (Kd.R_drew HO_336001.out)
     replace HO_336002 := ak (Kd.R_drew HO_336002.out)
     replace BK300 := kd BK300
     replace BK301 := kd BK301
     replace BK317 := kd BK317
     replace BK335 := kd BK335
     replace HB := ak (below_drew1 HB.out)
     refine sS (n := 10) (S := fun w' => w'.cell? ⟨gb300, 0, none⟩ = some (.int .i64 a0_0) ∧ w'.cell? ⟨gb300, 1, none⟩ = some (.slice A0_1 l0_1.length c0_1) ∧ w'.cell? ⟨gb300, 2, none⟩ = some (.slice A0_2 l0_2.length c0_2) ∧ w'.cell? ⟨gb301, 0, none⟩ = some (.int .i64 a1_0) ∧ w'.cell? ⟨gb301, 1, none⟩ = some (.int .i64 a1_1)) (ds := []) ⟨bc BK300 0, bc BK300 1, bc BK300 2, bc BK301 0, bc BK301 1⟩ (fun hHeld => ?_); refine with_tabW congoulaw04_CurvesMirrored.tab7 congoulaw04_CurvesMirrored.bits7 (fun HT_ HW_ => ?_)
     generalize wc.drew = w58 at HO_318001 HO_318002 HO_336001 HO_336002 BK300 BK301 BK317 BK335 HB hHeld ⊢
     refine tS 0 51 10 1 ?_
     refine tS 2 53 10 5 ?_
     refine join_ (σ := Value × Value × Nat) 2 (ba 10 255) (fun s_ => [(52, .agg #[.int .i64 t337, s_.1, s_.2.1]), (54, .tuple #[.agg #[.int .i64 t344, .int .i64 t345], .int .i64 t346]), (9, .pointer (some ⟨s_.2.2, 0, none⟩)), (50, .tuple #[.agg #[.int .i64 t344, .int .i64 t345], .int .i64 t346]), (55, .agg #[.int .i64 t344, .int .i64 t345]), (56, .int .i64 t346)]) (fun s_ w' => (w'.cell? ⟨gb300, 0, none⟩ = some (.int .i64 a0_0) ∧ w'.cell? ⟨gb300, 1, none⟩ = some (.slice A0_1 l0_1.length c0_1) ∧ w'.cell? ⟨gb300, 2, none⟩ = some (.slice A0_2 l0_2.length c0_2) ∧ w'.cell? ⟨gb301, 0, none⟩ = some (.int .i64 a1_0) ∧ w'.cell? ⟨gb301, 1, none⟩ = some (.int .i64 a1_1)) ∧ (Kd.R (Kd.int .i64) 3 w' w.heap.size (fun k_ => some k_ ≠ (s_.2.1 : Value).ownBlock ∧ nb k_ (.slice Ao18 t310.length co18) ∧ nb k_ (.slice Ao19 t313.length co19) ∧ nb k_ (.slice Ao45 t328.length co45) ∧ nb k_ (.slice Ao46 t331.length co46)) s_.1 t338) ∧ (Kd.R (Kd.int .i64) 3 w' w.heap.size (fun k_ => some k_ ≠ (s_.1 : Value).ownBlock ∧ nb k_ (.slice Ao18 t310.length co18) ∧ nb k_ (.slice Ao19 t313.length co19) ∧ nb k_ (.slice Ao45 t328.length co45) ∧ nb k_ (.slice Ao46 t331.length co46)) s_.2.1 t341) ∧ (Kd.R (Kd.int .i64) 3 w' w.heap.size (fun k_ => some k_ ≠ (s_.1 : Value).ownBlock ∧ some k_ ≠ (s_.2.1 : Value).ownBlock ∧ nb k_ (.slice Ao19 t313.length co19) ∧ nb k_ (.slice Ao45 t328.length co45) ∧ nb k_ (.slice Ao46 t331.length co46)) (.slice Ao18 t310.length co18) t310) ∧ (Kd.R (Kd.int .i64) 3 w' w.heap.size (fun k_ => some k_ ≠ (s_.1 : Value).ownBlock ∧ some k_ ≠ (s_.2.1 : Value).ownBlock ∧ nb k_ (.slice Ao18 t310.length co18) ∧ nb k_ (.slice Ao45 t328.length co45) ∧ nb k_ (.slice Ao46 t331.length co46)) (.slice Ao19 t313.length co19) t313) ∧ (Kd.R (Kd.int .i64) 3 w' w.heap.size (fun k_ => some k_ ≠ (s_.1 : Value).ownBlock ∧ some k_ ≠ (s_.2.1 : Value).ownBlock ∧ nb k_ (.slice Ao18 t310.length co18) ∧ nb k_ (.slice Ao19 t313.length co19) ∧ nb k_ (.slice Ao46 t331.length co46)) (.slice Ao45 t328.length co45) t328) ∧ (Kd.R (Kd.int .i64) 3 w' w.heap.size (fun k_ => some k_ ≠ (s_.1 : Value).ownBlock ∧ some k_ ≠ (s_.2.1 : Value).ownBlock ∧ nb k_ (.slice Ao18 t310.length co18) ∧ nb k_ (.slice Ao19 t313.length co19) ∧ nb k_ (.slice Ao45 t328.length co45)) (.slice Ao46 t331.length co46) t331) ∧ (w'.heap[gb300]? = some (.cells #[.int .i64 a0_0, .slice A0_1 l0_1.length c0_1, .slice A0_2 l0_2.length c0_2] 24 (0, 0))) ∧ (w'.heap[gb301]? = some (.cells #[.int .i64 a1_0, .int .i64 a1_1] 26 (0, 0))) ∧ (w'.heap[gb317]? = some (.cells #[.int .i64 t309, .slice Ao18 t310.length co18, .slice Ao19 t313.length co19] 30 (0, 0))) ∧ (w'.heap[gb335]? = some (.cells #[.int .i64 t327, .slice Ao45 t328.length co45, .slice Ao46 t331.length co46] 30 (0, 0))) ∧ (w'.heap[s_.2.2]? = some (.cells #[.int .i64 0, .int .i64 0] 26 (0, 0))) ∧ (w.heap.size ≤ s_.2.2) ∧ (w.heap.size ≤ s_.2.2) ∧ (gb300 ≠ s_.2.2) ∧ (s_.2.2 ≠ gb300) ∧ (gb301 ≠ s_.2.2) ∧ (s_.2.2 ≠ gb301) ∧ (gb317 ≠ s_.2.2) ∧ (s_.2.2 ≠ gb317) ∧ (gb335 ≠ s_.2.2) ∧ (s_.2.2 ≠ gb335) ∧ (Below w.heap.size w w')) ?_ ?_
     rotate_left
     ·intro hCont
      refine two_ (i := 1) (j := 7) (Ni := some 52) (Nj := some 9) (ba 10 7) (ba 10 133) rfl rfl rfl rfl (two_of HT_.out (by kernel_rfl)) (by decide) (by decide) (fun K hK => ?_) (fun K hK => ?_)
      ·skip
       refine gC Try.func15 #[.agg #[.int .i64 a0_0, .slice A0_1 l0_1.length c0_1, .slice A0_2 l0_2.length c0_2]] ?_
       with_reducible refine (congoulaw04_Of.calls a0_0 _ _ l0_1 _ _ l0_2 t337 t338 t341 _ ?side1 ?side2 ?side3 ?side4 A55.out).mono ?_
       (case side1 => exact kC HR0_1)
       (case side2 => exact HC0_1.out)
       (case side3 => exact kC HR0_2)
       (case side4 => exact HC0_2.out)
       rintro e w59 ⟨v339, v342, rfl, ho0, ho1, hb⟩
       refine ⟨_, rfl, ?_⟩
       have HO340 := ak (Kd.R_lower (Kd.R_new' (Kd.R_new' (Kd.R_new' (Kd.R_new' ho0 (Kd.R_lt (rC HO_318001))) (Kd.R_lt (rC HO_318002))) (Kd.R_lt (rC HO_336001))) (Kd.R_lt (rC HO_336002))) (below_size (hbC _)))
       have HO343 := ak (Kd.R_lower (Kd.R_new' (Kd.R_new' (Kd.R_new' (Kd.R_new' ho1 (Kd.R_lt (rC HO_318001))) (Kd.R_lt (rC HO_318002))) (Kd.R_lt (rC HO_336001))) (Kd.R_lt (rC HO_336002))) (below_size (hbC _)))
       replace HO_318001 := kT HO_318001 hb ho0 ho1
       replace HO_318002 := kT HO_318002 hb ho0 ho1
       replace HO_336001 := kT HO_336001 hb ho0 ho1
       replace HO_336002 := kT HO_336002 hb ho0 ho1
       replace BK300 := kB BK300 hb
       replace BK301 := kB BK301 hb
       replace BK317 := kB BK317 hb
       replace BK335 := kB BK335 hb
       replace HB := kH _ hb
       (try clear hb)
       (try clear hb2)
       (try clear hk)
       (try clear hi)
       (try clear ho0)
       (try clear ho1)
       obtain ⟨Ao60, co60, eo60⟩ := Kd.R_slice HO340.out
       (first | subst eo60 | (injection eo60 with f1_ f2_ f3_; have f4_ := f1_.symm; have f5_ := f3_.symm; clear f1_ f2_ f3_; subst f4_; subst f5_))
       obtain ⟨Ao61, co61, eo61⟩ := Kd.R_slice HO343.out
       (first | subst eo61 | (injection eo61 with f1_ f2_ f3_; have f4_ := f1_.symm; have f5_ := f3_.symm; clear f1_ f2_ f3_; subst f4_; subst f5_))
       refine hK.out _ _ ⟨bc BK300 0, bc BK300 1, bc BK300 2, bc BK301 0, bc BK301 1⟩ (fun hHeld => ?_)
       clear hK K
       refine norm_ (a' := ?_) ?_ ?_
       rotate_left
       ·show Act.put _ (some 52) _ = _
        simp only [Act.put, List.setIfInBounds_toArray, List.set_cons_zero, List.set_cons_succ, i64_w, i32_w]
        rfl
       refine two_ (i := 3) (j := 7) (Ni := some 54) (Nj := some 9) (ba 10 15) (ba 10 135) rfl rfl rfl rfl (two_of HT_.out (by kernel_rfl)) (by decide) (by decide) (fun K hK => ?_) (fun K hK => ?_)
       ·skip
        refine gC Try.func14 #[.agg #[.int .i64 t337, .slice Ao60 t338.length co60, .slice Ao61 t341.length co61], .agg #[.int .i64 a1_0, .int .i64 a1_1]] ?_
        with_reducible refine (curves_Value.calls kj31 t337 _ _ t338 _ _ t341 a1_0 a1_1 t344 t345 t346 _ ?side1 ?side2 ?side3 ?side4 A56.out).mono ?_
        (case side1 => exact kD (Kd.R_reads' HO340.out).2.2)
        (case side2 => exact (Kd.R_reads' HO340.out).2.1)
        (case side3 => exact kD (Kd.R_reads' HO343.out).2.2)
        (case side4 => exact (Kd.R_reads' HO343.out).2.1)
        rintro e w62 ⟨rfl, hb⟩
        refine ⟨_, rfl, ?_⟩
        replace HO_318001 := kO HO_318001 hb
        replace HO_318002 := kO HO_318002 hb
        replace HO_336001 := kO HO_336001 hb
        replace HO_336002 := kO HO_336002 hb
        replace HO340 := kO HO340 hb
        replace HO343 := kO HO343 hb
        replace BK300 := kB BK300 hb
        replace BK301 := kB BK301 hb
        replace BK317 := kB BK317 hb
        replace BK335 := kB BK335 hb
        replace HB := kH _ hb
        (try clear hb)
        (try clear hb2)
        (try clear hk)
        (try clear hi)
        refine hK.out _ _ ⟨bc BK300 0, bc BK300 1, bc BK300 2, bc BK301 0, bc BK301 1⟩ (fun hHeld => ?_)
        clear hK K
        refine norm_ (a' := ?_) ?_ ?_
        rotate_left
        ·show Act.put _ (some 54) _ = _
         simp only [Act.put, List.setIfInBounds_toArray, List.set_cons_zero, List.set_cons_succ, i64_w, i32_w]
         rfl
        refine pS 4 50 10 31 ?_
        refine pS 5 55 10 63 ?_
        refine pS 6 56 10 127 ?_
        refine one_ (i := 7) (N := some 9) (ba 10 255) rfl rfl (one_of HT_.out (by kernel_rfl)) (by decide) (fun K hK => ?_)
        refine box_step ?hg (N := 9) ?hd (cs := #[.int .i64 0, .int .i64 0]) (t := 26) ?hr ?_; (case hd => rfl); (case hg => rfl); (case hr => first | (go_simp; done) | (go_simp; rfl))
        intro gb347 hg w63 hbox hb
        replace HO_318001 := kO HO_318001 hb
        replace HO_318002 := kO HO_318002 hb
        replace HO_336001 := kO HO_336001 hb
        replace HO_336002 := kO HO_336002 hb
        replace HO340 := kO HO340 hb
        replace HO343 := kO HO343 hb
        have BK347 := ak (hbox)
        have GW347 := kG w hg
        have GE347 := kG w hg
        replace HB := kH _ hb
        have NB300_347 := kL BK300 hg
        have NB347_300 := kR BK300 hg
        replace BK300 := kB BK300 hb
        have NB301_347 := kL BK301 hg
        have NB347_301 := kR BK301 hg
        replace BK301 := kB BK301 hb
        have NB317_347 := kL BK317 hg
        have NB347_317 := kR BK317 hg
        replace BK317 := kB BK317 hb
        have NB335_347 := kL BK335 hg
        have NB347_335 := kR BK335 hg
        replace BK335 := kB BK335 hb
        clear hb hbox hg
        refine hK.out _ _ ⟨bc BK300 0, bc BK300 1, bc BK300 2, bc BK301 0, bc BK301 1⟩ (fun hHeld => ?_)
        clear hK K
        refine norm_ (a' := ?_) ?_ ?_
        rotate_left
        ·show Act.put _ (some 9) _ = _
         simp only [Act.put, List.setIfInBounds_toArray, List.set_cons_zero, List.set_cons_succ, i64_w, i32_w]
         rfl
        exact norm_ (by simp only [putAll, Act.put, List.setIfInBounds_toArray, List.set_cons_zero, List.set_cons_succ]) (hCont (.slice Ao60 t338.length co60, .slice Ao61 t341.length co61, gb347) _ ⟨hHeld, (rD (kM HO340)), (rD (kM HO343)), (rD (Kd.R_mono HO_318001.out (fun _ hk => ⟨hk.1.2, ⟨hk.2, ⟨hk.1.1.1, ⟨hk.1.1.2.1, hk.1.1.2.2⟩⟩⟩⟩))), (rD (Kd.R_mono HO_318002.out (fun _ hk => ⟨hk.1.2, ⟨hk.2, ⟨hk.1.1.1, ⟨hk.1.1.2.1, hk.1.1.2.2⟩⟩⟩⟩))), (rD (Kd.R_mono HO_336001.out (fun _ hk => ⟨hk.1.2, ⟨hk.2, ⟨hk.1.1.1, ⟨hk.1.1.2.1, hk.1.1.2.2⟩⟩⟩⟩))), (rD (Kd.R_mono HO_336002.out (fun _ hk => ⟨hk.1.2, ⟨hk.2, ⟨hk.1.1.1, ⟨hk.1.1.2.1, hk.1.1.2.2⟩⟩⟩⟩))), (bkC BK300), (bkC BK301), (bkC BK317), (bkC BK335), (bkC BK347), GW347.out, GE347.out, NB300_347.out, NB347_300.out, NB301_347.out, NB347_301.out, NB317_347.out, NB347_317.out, NB335_347.out, NB347_335.out, (hbC _)⟩)
       ·skip
        refine box_step ?hg (N := 9) ?hd (cs := #[.int .i64 0, .int .i64 0]) (t := 26) ?hr ?_; (case hd => rfl); (case hg => rfl); (case hr => first | (go_simp; done) | (go_simp; rfl))
        intro gb347 hg w60 hbox hb
        replace HO_318001 := kO HO_318001 hb
        replace HO_318002 := kO HO_318002 hb
        replace HO_336001 := kO HO_336001 hb
        replace HO_336002 := kO HO_336002 hb
        replace HO340 := kO HO340 hb
        replace HO343 := kO HO343 hb
        have BK347 := ak (hbox)
        have GW347 := kG w hg
        have GE347 := kG w hg
        replace HB := kH _ hb
        have NB300_347 := kL BK300 hg
        have NB347_300 := kR BK300 hg
        replace BK300 := kB BK300 hb
        have NB301_347 := kL BK301 hg
        have NB347_301 := kR BK301 hg
        replace BK301 := kB BK301 hb
        have NB317_347 := kL BK317 hg
        have NB347_317 := kR BK317 hg
        replace BK317 := kB BK317 hb
        have NB335_347 := kL BK335 hg
        have NB347_335 := kR BK335 hg
        replace BK335 := kB BK335 hb
        clear hb hbox hg
        obtain ⟨Ao61, co61, eo61⟩ := Kd.R_slice HO340.out
        (first | subst eo61 | (injection eo61 with f1_ f2_ f3_; have f4_ := f1_.symm; have f5_ := f3_.symm; clear f1_ f2_ f3_; subst f4_; subst f5_))
        obtain ⟨Ao62, co62, eo62⟩ := Kd.R_slice HO343.out
        (first | subst eo62 | (injection eo62 with f1_ f2_ f3_; have f4_ := f1_.symm; have f5_ := f3_.symm; clear f1_ f2_ f3_; subst f4_; subst f5_))
        refine hK.out _ _ ⟨bc BK300 0, bc BK300 1, bc BK300 2, bc BK301 0, bc BK301 1⟩ (fun hHeld => ?_)
        clear hK K
        refine norm_ (a' := ?_) ?_ ?_
        rotate_left
        ·show Act.put _ (some 9) _ = _
         simp only [Act.put, List.setIfInBounds_toArray, List.set_cons_zero, List.set_cons_succ, i64_w, i32_w]
         rfl
        refine one_ (i := 3) (N := some 54) (ba 10 143) rfl rfl (one_of HT_.out (by kernel_rfl)) (by decide) (fun K hK => ?_)
        refine gC Try.func14 #[.agg #[.int .i64 t337, .slice Ao61 t338.length co61, .slice Ao62 t341.length co62], .agg #[.int .i64 a1_0, .int .i64 a1_1]] ?_
        with_reducible refine (curves_Value.calls kj31 t337 _ _ t338 _ _ t341 a1_0 a1_1 t344 t345 t346 _ ?side1 ?side2 ?side3 ?side4 A56.out).mono ?_
        (case side1 => exact kD (Kd.R_reads' HO340.out).2.2)
        (case side2 => exact (Kd.R_reads' HO340.out).2.1)
        (case side3 => exact kD (Kd.R_reads' HO343.out).2.2)
        (case side4 => exact (Kd.R_reads' HO343.out).2.1)
        rintro e w63 ⟨rfl, hb⟩
        refine ⟨_, rfl, ?_⟩
        replace HO_318001 := kO HO_318001 hb
        replace HO_318002 := kO HO_318002 hb
        replace HO_336001 := kO HO_336001 hb
        replace HO_336002 := kO HO_336002 hb
        replace HO340 := kO HO340 hb
        replace HO343 := kO HO343 hb
        replace BK300 := kB BK300 hb
        replace BK301 := kB BK301 hb
        replace BK317 := kB BK317 hb
        replace BK335 := kB BK335 hb
        replace BK347 := kB BK347 hb
        replace HB := kH _ hb
        (try clear hb)
        (try clear hb2)
        (try clear hk)
        (try clear hi)
        refine hK.out _ _ ⟨bc BK300 0, bc BK300 1, bc BK300 2, bc BK301 0, bc BK301 1⟩ (fun hHeld => ?_)
        clear hK K
        refine norm_ (a' := ?_) ?_ ?_
        rotate_left
        ·show Act.put _ (some 54) _ = _
         simp only [Act.put, List.setIfInBounds_toArray, List.set_cons_zero, List.set_cons_succ, i64_w, i32_w]
         rfl
        refine pS 4 50 10 159 ?_
        refine pS 5 55 10 191 ?_
        refine pS 6 56 10 255 ?_
        exact norm_ (by simp only [putAll, Act.put, List.setIfInBounds_toArray, List.set_cons_zero, List.set_cons_succ]) (hCont (.slice Ao61 t338.length co61, .slice Ao62 t341.length co62, gb347) _ ⟨hHeld, (rD (kM HO340)), (rD (kM HO343)), (rD (Kd.R_mono HO_318001.out (fun _ hk => ⟨hk.1.2, ⟨hk.2, ⟨hk.1.1.1, ⟨hk.1.1.2.1, hk.1.1.2.2⟩⟩⟩⟩))), (rD (Kd.R_mono HO_318002.out (fun _ hk => ⟨hk.1.2, ⟨hk.2, ⟨hk.1.1.1, ⟨hk.1.1.2.1, hk.1.1.2.2⟩⟩⟩⟩))), (rD (Kd.R_mono HO_336001.out (fun _ hk => ⟨hk.1.2, ⟨hk.2, ⟨hk.1.1.1, ⟨hk.1.1.2.1, hk.1.1.2.2⟩⟩⟩⟩))), (rD (Kd.R_mono HO_336002.out (fun _ hk => ⟨hk.1.2, ⟨hk.2, ⟨hk.1.1.1, ⟨hk.1.1.2.1, hk.1.1.2.2⟩⟩⟩⟩))), (bkC BK300), (bkC BK301), (bkC BK317), (bkC BK335), (bkC BK347), GW347.out, GE347.out, NB300_347.out, NB347_300.out, NB301_347.out, NB347_301.out, NB317_347.out, NB347_317.out, NB335_347.out, NB347_335.out, (hbC _)⟩)
      ·skip
       refine box_step ?hg (N := 9) ?hd (cs := #[.int .i64 0, .int .i64 0]) (t := 26) ?hr ?_; (case hd => rfl); (case hg => rfl); (case hr => first | (go_simp; done) | (go_simp; rfl))
       intro gb347 hg w59 hbox hb
       replace HO_318001 := kO HO_318001 hb
       replace HO_318002 := kO HO_318002 hb
       replace HO_336001 := kO HO_336001 hb
       replace HO_336002 := kO HO_336002 hb
       have BK347 := ak (hbox)
       have GW347 := kG w hg
       have GE347 := kG w hg
       replace HB := kH _ hb
       have NB300_347 := kL BK300 hg
       have NB347_300 := kR BK300 hg
       replace BK300 := kB BK300 hb
       have NB301_347 := kL BK301 hg
       have NB347_301 := kR BK301 hg
       replace BK301 := kB BK301 hb
       have NB317_347 := kL BK317 hg
       have NB347_317 := kR BK317 hg
       replace BK317 := kB BK317 hb
       have NB335_347 := kL BK335 hg
       have NB347_335 := kR BK335 hg
       replace BK335 := kB BK335 hb
       clear hb hbox hg
       refine hK.out _ _ ⟨bc BK300 0, bc BK300 1, bc BK300 2, bc BK301 0, bc BK301 1⟩ (fun hHeld => ?_)
       clear hK K
       refine norm_ (a' := ?_) ?_ ?_
       rotate_left
       ·show Act.put _ (some 9) _ = _
        simp only [Act.put, List.setIfInBounds_toArray, List.set_cons_zero, List.set_cons_succ, i64_w, i32_w]
        rfl
       refine one_ (i := 1) (N := some 52) (ba 10 135) rfl rfl (one_of HT_.out (by kernel_rfl)) (by decide) (fun K hK => ?_)
       refine gC Try.func15 #[.agg #[.int .i64 a0_0, .slice A0_1 l0_1.length c0_1, .slice A0_2 l0_2.length c0_2]] ?_
       with_reducible refine (congoulaw04_Of.calls a0_0 _ _ l0_1 _ _ l0_2 t337 t338 t341 _ ?side1 ?side2 ?side3 ?side4 A55.out).mono ?_
       (case side1 => exact kC HR0_1)
       (case side2 => exact HC0_1.out)
       (case side3 => exact kC HR0_2)
       (case side4 => exact HC0_2.out)
       rintro e w60 ⟨v339, v342, rfl, ho0, ho1, hb⟩
       refine ⟨_, rfl, ?_⟩
       have HO340 := ak (Kd.R_lower (Kd.R_new' (Kd.R_new' (Kd.R_new' (Kd.R_new' ho0 (Kd.R_lt (rC HO_318001))) (Kd.R_lt (rC HO_318002))) (Kd.R_lt (rC HO_336001))) (Kd.R_lt (rC HO_336002))) (below_size (hbC _)))
       have HO343 := ak (Kd.R_lower (Kd.R_new' (Kd.R_new' (Kd.R_new' (Kd.R_new' ho1 (Kd.R_lt (rC HO_318001))) (Kd.R_lt (rC HO_318002))) (Kd.R_lt (rC HO_336001))) (Kd.R_lt (rC HO_336002))) (below_size (hbC _)))
       replace HO_318001 := kT HO_318001 hb ho0 ho1
       replace HO_318002 := kT HO_318002 hb ho0 ho1
       replace HO_336001 := kT HO_336001 hb ho0 ho1
       replace HO_336002 := kT HO_336002 hb ho0 ho1
       replace BK300 := kB BK300 hb
       replace BK301 := kB BK301 hb
       replace BK317 := kB BK317 hb
       replace BK335 := kB BK335 hb
       replace BK347 := kB BK347 hb
       replace HB := kH _ hb
       (try clear hb)
       (try clear hb2)
       (try clear hk)
       (try clear hi)
       (try clear ho0)
       (try clear ho1)
       obtain ⟨Ao61, co61, eo61⟩ := Kd.R_slice HO340.out
       (first | subst eo61 | (injection eo61 with f1_ f2_ f3_; have f4_ := f1_.symm; have f5_ := f3_.symm; clear f1_ f2_ f3_; subst f4_; subst f5_))
       obtain ⟨Ao62, co62, eo62⟩ := Kd.R_slice HO343.out
       (first | subst eo62 | (injection eo62 with f1_ f2_ f3_; have f4_ := f1_.symm; have f5_ := f3_.symm; clear f1_ f2_ f3_; subst f4_; subst f5_))
       refine hK.out _ _ ⟨bc BK300 0, bc BK300 1, bc BK300 2, bc BK301 0, bc BK301 1⟩ (fun hHeld => ?_)
       clear hK K
       refine norm_ (a' := ?_) ?_ ?_
       rotate_left
       ·show Act.put _ (some 52) _ = _
        simp only [Act.put, List.setIfInBounds_toArray, List.set_cons_zero, List.set_cons_succ, i64_w, i32_w]
        rfl
       refine one_ (i := 3) (N := some 54) (ba 10 143) rfl rfl (one_of HT_.out (by kernel_rfl)) (by decide) (fun K hK => ?_)
       refine gC Try.func14 #[.agg #[.int .i64 t337, .slice Ao61 t338.length co61, .slice Ao62 t341.length co62], .agg #[.int .i64 a1_0, .int .i64 a1_1]] ?_
       with_reducible refine (curves_Value.calls kj31 t337 _ _ t338 _ _ t341 a1_0 a1_1 t344 t345 t346 _ ?side1 ?side2 ?side3 ?side4 A56.out).mono ?_
       (case side1 => exact kD (Kd.R_reads' HO340.out).2.2)
       (case side2 => exact (Kd.R_reads' HO340.out).2.1)
       (case side3 => exact kD (Kd.R_reads' HO343.out).2.2)
       (case side4 => exact (Kd.R_reads' HO343.out).2.1)
       rintro e w63 ⟨rfl, hb⟩
       refine ⟨_, rfl, ?_⟩
       replace HO_318001 := kO HO_318001 hb
       replace HO_318002 := kO HO_318002 hb
       replace HO_336001 := kO HO_336001 hb
       replace HO_336002 := kO HO_336002 hb
       replace HO340 := kO HO340 hb
       replace HO343 := kO HO343 hb
       replace BK300 := kB BK300 hb
       replace BK301 := kB BK301 hb
       replace BK317 := kB BK317 hb
       replace BK335 := kB BK335 hb
       replace BK347 := kB BK347 hb
       replace HB := kH _ hb
       (try clear hb)
       (try clear hb2)
       (try clear hk)
       (try clear hi)
       refine hK.out _ _ ⟨bc BK300 0, bc BK300 1, bc BK300 2, bc BK301 0, bc BK301 1⟩ (fun hHeld => ?_)
       clear hK K
       refine norm_ (a' := ?_) ?_ ?_
       rotate_left
       ·show Act.put _ (some 54) _ = _
        simp only [Act.put, List.setIfInBounds_toArray, List.set_cons_zero, List.set_cons_succ, i64_w, i32_w]
        rfl
       refine pS 4 50 10 159 ?_
       refine pS 5 55 10 191 ?_
       refine pS 6 56 10 255 ?_
       exact norm_ (by simp only [putAll, Act.put, List.setIfInBounds_toArray, List.set_cons_zero, List.set_cons_succ]) (hCont (.slice Ao61 t338.length co61, .slice Ao62 t341.length co62, gb347) _ ⟨hHeld, (rD (kM HO340)), (rD (kM HO343)), (rD (Kd.R_mono HO_318001.out (fun _ hk => ⟨hk.1.2, ⟨hk.2, ⟨hk.1.1.1, ⟨hk.1.1.2.1, hk.1.1.2.2⟩⟩⟩⟩))), (rD (Kd.R_mono HO_318002.out (fun _ hk => ⟨hk.1.2, ⟨hk.2, ⟨hk.1.1.1, ⟨hk.1.1.2.1, hk.1.1.2.2⟩⟩⟩⟩))), (rD (Kd.R_mono HO_336001.out (fun _ hk => ⟨hk.1.2, ⟨hk.2, ⟨hk.1.1.1, ⟨hk.1.1.2.1, hk.1.1.2.2⟩⟩⟩⟩))), (rD (Kd.R_mono HO_336002.out (fun _ hk => ⟨hk.1.2, ⟨hk.2, ⟨hk.1.1.1, ⟨hk.1.1.2.1, hk.1.1.2.2⟩⟩⟩⟩))), (bkC BK300), (bkC BK301), (bkC BK317), (bkC BK335), (bkC BK347), GW347.out, GE347.out, NB300_347.out, NB347_300.out, NB301_347.out, NB347_301.out, NB317_347.out, NB347_317.out, NB335_347.out, NB347_335.out, (hbC _)⟩)
     rintro ⟨v339, v342, gb347⟩ w64 ⟨hS_, h0_, h1_, h2_, h3_, h4_, h5_, h6_, h7_, h8_, h9_, h10_, h11_, h12_, h13_, h14_, h15_, h16_, h17_, h18_, h19_, h20_, h21_⟩
     have n0_ : Aside0 (Kd.R (Kd.int .i64) 3 w64 w.heap.size (fun k_ => nb k_ v342 ∧ nb k_ (.slice Ao18 t310.length co18) ∧ nb k_ (.slice Ao19 t313.length co19) ∧ nb k_ (.slice Ao45 t328.length co45) ∧ nb k_ (.slice Ao46 t331.length co46)) v339 t338) := ⟨h0_⟩
     have n1_ : Aside0 (Kd.R (Kd.int .i64) 3 w64 w.heap.size (fun k_ => nb k_ v339 ∧ nb k_ (.slice Ao18 t310.length co18) ∧ nb k_ (.slice Ao19 t313.length co19) ∧ nb k_ (.slice Ao45 t328.length co45) ∧ nb k_ (.slice Ao46 t331.length co46)) v342 t341) := ⟨h1_⟩
     have n2_ : Aside0 (Kd.R (Kd.int .i64) 3 w64 w.heap.size (fun k_ => nb k_ v339 ∧ nb k_ v342 ∧ nb k_ (.slice Ao19 t313.length co19) ∧ nb k_ (.slice Ao45 t328.length co45) ∧ nb k_ (.slice Ao46 t331.length co46)) (.slice Ao18 t310.length co18) t310) := ⟨h2_⟩
     have n3_ : Aside0 (Kd.R (Kd.int .i64) 3 w64 w.heap.size (fun k_ => nb k_ v339 ∧ nb k_ v342 ∧ nb k_ (.slice Ao18 t310.length co18) ∧ nb k_ (.slice Ao45 t328.length co45) ∧ nb k_ (.slice Ao46 t331.length co46)) (.slice Ao19 t313.length co19) t313) := ⟨h3_⟩
     have n4_ : Aside0 (Kd.R (Kd.int .i64) 3 w64 w.heap.size (fun k_ => nb k_ v339 ∧ nb k_ v342 ∧ nb k_ (.slice Ao18 t310.length co18) ∧ nb k_ (.slice Ao19 t313.length co19) ∧ nb k_ (.slice Ao46 t331.length co46)) (.slice Ao45 t328.length co45) t328) := ⟨h4_⟩
     have n5_ : Aside0 (Kd.R (Kd.int .i64) 3 w64 w.heap.size (fun k_ => nb k_ v339 ∧ nb k_ v342 ∧ nb k_ (.slice Ao18 t310.length co18) ∧ nb k_ (.slice Ao19 t313.length co19) ∧ nb k_ (.slice Ao45 t328.length co45)) (.slice Ao46 t331.length co46) t331) := ⟨h5_⟩
     have n6_ : Aside0 (w64.heap[gb300]? = some (.cells #[.int .i64 a0_0, .slice A0_1 l0_1.length c0_1, .slice A0_2 l0_2.length c0_2] 24 (0, 0))) := ⟨h6_⟩
     have n7_ : Aside0 (w64.heap[gb301]? = some (.cells #[.int .i64 a1_0, .int .i64 a1_1] 26 (0, 0))) := ⟨h7_⟩
     have n8_ : Aside0 (w64.heap[gb317]? = some (.cells #[.int .i64 t309, .slice Ao18 t310.length co18, .slice Ao19 t313.length co19] 30 (0, 0))) := ⟨h8_⟩
     have n9_ : Aside0 (w64.heap[gb335]? = some (.cells #[.int .i64 t327, .slice Ao45 t328.length co45, .slice Ao46 t331.length co46] 30 (0, 0))) := ⟨h9_⟩
     have n10_ : Aside0 (w64.heap[gb347]? = some (.cells #[.int .i64 0, .int .i64 0] 26 (0, 0))) := ⟨h10_⟩
     have n11_ : Aside0 (w.heap.size ≤ gb347) := ⟨h11_⟩
     have n12_ : Aside0 (w.heap.size ≤ gb347) := ⟨h12_⟩
     have n13_ : Aside0 (gb300 ≠ gb347) := ⟨h13_⟩
     have n14_ : Aside0 (gb347 ≠ gb300) := ⟨h14_⟩
     have n15_ : Aside0 (gb301 ≠ gb347) := ⟨h15_⟩
     have n16_ : Aside0 (gb347 ≠ gb301) := ⟨h16_⟩
     have n17_ : Aside0 (gb317 ≠ gb347) := ⟨h17_⟩
     have n18_ : Aside0 (gb347 ≠ gb317) := ⟨h18_⟩
     have n19_ : Aside0 (gb335 ≠ gb347) := ⟨h19_⟩
     have n20_ : Aside0 (gb347 ≠ gb335) := ⟨h20_⟩
     have n21_ : Aside0 (Below w.heap.size w w64) := ⟨h21_⟩
     clear HO_318001
     clear HO_318002
     clear HO_336001
     clear HO_336002
     clear BK300
     clear BK301
     clear BK317
     clear BK335
     clear HB
     clear h0_ h1_ h2_ h3_ h4_ h5_ h6_ h7_ h8_ h9_ h10_ h11_ h12_ h13_ h14_ h15_ h16_ h17_ h18_ h19_ h20_ h21_
     have HO340 := n0_
     have HO343 := n1_
     have HO_318001 := n2_
     have HO_318002 := n3_
     have HO_336001 := n4_
     have HO_336002 := n5_
     have BK300 := n6_
     have BK301 := n7_
     have BK317 := n8_
     have BK335 := n9_
     have BK347 := n10_
     have GW347 := n11_
     have GE347 := n12_
     have NB300_347 := n13_
     have NB347_300 := n14_
     have NB301_347 := n15_
     have NB347_301 := n16_
     have NB317_347 := n17_
     have NB347_317 := n18_
     have NB335_347 := n19_
     have NB347_335 := n20_
     have HB := n21_
     clear n0_ n1_ n2_ n3_ n4_ n5_ n6_ n7_ n8_ n9_ n10_ n11_ n12_ n13_ n14_ n15_ n16_ n17_ n18_ n19_ n20_ n21_
     have hHeld : w64.cell? ⟨gb300, 0, none⟩ = some (.int .i64 a0_0) ∧ w64.cell? ⟨gb300, 1, none⟩ = some (.slice A0_1 l0_1.length c0_1) ∧ w64.cell? ⟨gb300, 2, none⟩ = some (.slice A0_2 l0_2.length c0_2) ∧ w64.cell? ⟨gb301, 0, none⟩ = some (.int .i64 a1_0) ∧ w64.cell? ⟨gb301, 1, none⟩ = some (.int .i64 a1_1) := hS_
     refine norm_ (a' := ?_) ?_ ?_
     rotate_left
     ·simp only [putAll, Act.put, List.setIfInBounds_toArray, List.set_cons_zero, List.set_cons_succ]
      rfl
     refine one_ (i := 8) (N := none) (ba 10 511) rfl rfl (one_of HT_.out (by kernel_rfl)) (by decide) (fun K hK => ?_)
     have hs65 : w64.cell? ⟨gb347, 0, none⟩ = some (.int .i64 0) := bc BK347 0
     have hfs65 := fz BK347 0
     have hns65_0 := NB300_347.out
     have hns65_1 := NB301_347.out
     have hns65_2 := NB317_347.out
     have hns65_3 := NB335_347.out
     have hms65_0 := NB347_300.out
     have hms65_1 := NB347_301.out
     have hms65_2 := NB347_317.out
     have hms65_3 := NB347_335.out
     have hs66 : w64.cell? ⟨gb347, 1, none⟩ = some (.int .i64 0) := bc BK347 1
     have hfs66 := fz BK347 1
     have hns66_0 := NB300_347.out
     have hns66_1 := NB301_347.out
     have hns66_2 := NB317_347.out
     have hns66_3 := NB335_347.out
     have hms66_0 := NB347_300.out
     have hms66_1 := NB347_301.out
     have hms66_2 := NB347_317.out
     have hms66_3 := NB347_335.out
     refine skip_ (w1 := ?_) (by rfl) rfl ?_ ?_
     rotate_left
     ·go_simp
      rfl
     refine hK.out _ _ ⟨((cell_far (p := ⟨gb347, _, none⟩) NB300_347.out _).trans (((cell_far (p := ⟨gb347, _, none⟩) NB300_347.out _).trans (hHeld.1)))), ((cell_far (p := ⟨gb347, _, none⟩) NB300_347.out _).trans (((cell_far (p := ⟨gb347, _, none⟩) NB300_347.out _).trans (hHeld.2.1)))), ((cell_far (p := ⟨gb347, _, none⟩) NB300_347.out _).trans (((cell_far (p := ⟨gb347, _, none⟩) NB300_347.out _).trans (hHeld.2.2.1)))), ((cell_far (p := ⟨gb347, _, none⟩) NB301_347.out _).trans (((cell_far (p := ⟨gb347, _, none⟩) NB301_347.out _).trans (hHeld.2.2.2.1)))), ((cell_far (p := ⟨gb347, _, none⟩) NB301_347.out _).trans (((cell_far (p := ⟨gb347, _, none⟩) NB301_347.out _).trans (hHeld.2.2.2.2))))⟩ (fun hHeld => ?_)
     clear hK K
     refine pS 9 10 10 1023 ?_
     refine done_ (done_of HT_.out (by kernel_rfl)) ?_
     go_upto_region 8 with (fail)
     go_cut [64] (fun v64 wc => ∃ (kq : Nat) (x64_56 : Bool), v64 = .bool x64_56 ∧ Aside0 (congoulaw04_CurvesMirrored.j2 kq t346 x64_56 a0_0 l0_1 l0_2 a1_0 a1_1 t309 t310 t313 t344 t345 = some r) ∧ Aside0 (kq ≤ kj31) ∧ Aside0 (Kd.R (Kd.int .i64) 3 wc w.heap.size (fun k_ => some k_ ≠ ((.slice Ao19 t313.length co19) : Value).ownBlock ∧ some k_ ≠ ((.slice Ao45 t328.length co45) : Value).ownBlock ∧ some k_ ≠ ((.slice Ao46 t331.length co46) : Value).ownBlock) (.slice Ao18 t310.length co18) t310) ∧ Aside0 (Kd.R (Kd.int .i64) 3 wc w.heap.size (fun k_ => some k_ ≠ ((.slice Ao18 t310.length co18) : Value).ownBlock ∧ some k_ ≠ ((.slice Ao45 t328.length co45) : Value).ownBlock ∧ some k_ ≠ ((.slice Ao46 t331.length co46) : Value).ownBlock) (.slice Ao19 t313.length co19) t313) ∧ Aside0 (Kd.R (Kd.int .i64) 3 wc w.heap.size (fun k_ => some k_ ≠ ((.slice Ao18 t310.length co18) : Value).ownBlock ∧ some k_ ≠ ((.slice Ao19 t313.length co19) : Value).ownBlock ∧ some k_ ≠ ((.slice Ao46 t331.length co46) : Value).ownBlock) (.slice Ao45 t328.length co45) t328) ∧ Aside0 (Kd.R (Kd.int .i64) 3 wc w.heap.size (fun k_ => some k_ ≠ ((.slice Ao18 t310.length co18) : Value).ownBlock ∧ some k_ ≠ ((.slice Ao19 t313.length co19) : Value).ownBlock ∧ some k_ ≠ ((.slice Ao45 t328.length co45) : Value).ownBlock) (.slice Ao46 t331.length co46) t331) ∧ Aside0 (wc.heap[gb300]? = some (.cells #[.int .i64 a0_0, (.slice A0_1 l0_1.length c0_1), (.slice A0_2 l0_2.length c0_2)] 24 (0, 0))) ∧ Aside0 (wc.heap[gb301]? = some (.cells #[.int .i64 a1_0, .int .i64 a1_1] 26 (0, 0))) ∧ Aside0 (wc.heap[gb317]? = some (.cells #[.int .i64 t309, (.slice Ao18 t310.length co18), (.slice Ao19 t313.length co19)] 30 (0, 0))) ∧ Aside0 (wc.heap[gb335]? = some (.cells #[.int .i64 t327, (.slice Ao45 t328.length co45), (.slice Ao46 t331.length co46)] 30 (0, 0))) ∧ Aside0 (wc.heap[gb347]? = some (.cells #[.int .i64 t344, .int .i64 t345] 26 (0, 0))) ∧ Aside0 (Below w.heap.size w wc))
     case first =>
      have H := HC57.out
      clear HC57
      by_cases c67 : t346 = 0
      rotate_left
      ·rw [if_neg c67] at H
       have c67b0 : (t346 == 0) = false := beq_eq_false_iff_ne.mpr c67
       have c67b1 : (t346 != 0) = true := bne_iff_ne.mpr c67
       (first | rw [c67b0] | (simp only [i64_w, i32_w]; rw [c67b0]) | skip)
       have H' := Aside0.mk H
       clear H
       go_wp2
       go_meet
       case rel => exact ⟨_, (true), (by first | rfl | (simp; done) | (simp [*]; done)), H', ⟨by have := HJ4.out; have := HJ31.out; first | omega | exact Nat.le_refl _⟩, ⟨rD (Kd.R_mono (Kd.R_far (p := ⟨gb347, 1, none⟩) (Kd.R_far (p := ⟨gb347, 0, none⟩) (Kd.R_types HO_318001.out BK347.out (by decide)) (fun _ hk => hk.2) (.int .i64 t344)) (fun _ hk => hk.2) (.int .i64 t345)) (fun _ hk => ⟨hk.1.2.2.1, ⟨hk.1.2.2.2.1, hk.1.2.2.2.2⟩⟩))⟩, ⟨rD (Kd.R_mono (Kd.R_far (p := ⟨gb347, 1, none⟩) (Kd.R_far (p := ⟨gb347, 0, none⟩) (Kd.R_types HO_318002.out BK347.out (by decide)) (fun _ hk => hk.2) (.int .i64 t344)) (fun _ hk => hk.2) (.int .i64 t345)) (fun _ hk => ⟨hk.1.2.2.1, ⟨hk.1.2.2.2.1, hk.1.2.2.2.2⟩⟩))⟩, ⟨rD (Kd.R_mono (Kd.R_far (p := ⟨gb347, 1, none⟩) (Kd.R_far (p := ⟨gb347, 0, none⟩) (Kd.R_types HO_336001.out BK347.out (by decide)) (fun _ hk => hk.2) (.int .i64 t344)) (fun _ hk => hk.2) (.int .i64 t345)) (fun _ hk => ⟨hk.1.2.2.1, ⟨hk.1.2.2.2.1, hk.1.2.2.2.2⟩⟩))⟩, ⟨rD (Kd.R_mono (Kd.R_far (p := ⟨gb347, 1, none⟩) (Kd.R_far (p := ⟨gb347, 0, none⟩) (Kd.R_types HO_336002.out BK347.out (by decide)) (fun _ hk => hk.2) (.int .i64 t344)) (fun _ hk => hk.2) (.int .i64 t345)) (fun _ hk => ⟨hk.1.2.2.1, ⟨hk.1.2.2.2.1, hk.1.2.2.2.2⟩⟩))⟩, ⟨bF BK300⟩, ⟨bF BK301⟩, ⟨bF BK317⟩, ⟨bF BK335⟩, ⟨by (with_reducible repeat (first | refine blk_drewN ?_ _ | refine blk_drew ?_ | refine blk_alloc ?_ _)); refine blk_put (cs := #[.int .i64 t344, .int .i64 0]) ?_ 1 _ rfl; (with_reducible repeat (first | refine blk_drewN ?_ _ | refine blk_drew ?_ | refine blk_alloc ?_ _)); refine blk_put (cs := #[.int .i64 0, .int .i64 0]) ?_ 0 _ rfl; (with_reducible repeat (first | refine blk_drewN ?_ _ | refine blk_drew ?_ | refine blk_alloc ?_ _)); exact BK347.out⟩, ⟨hbC _⟩⟩
      rw [if_pos c67] at H
      have c67b0 : (t346 == 0) = true := beq_iff_eq.mpr c67
      have c67b1 : (t346 != 0) = false := bne_eq_false_iff_eq.mpr c67
      clear c67
      (first | rw [c67b0] | (simp only [i64_w, i32_w]; rw [c67b0]) | skip)
      replace H := Option.bind_eq_some_iff.mp H
      obtain ⟨t348, A680, H⟩ := H
      replace H : (congoulaw04_CurvesMirrored.j2 kj31 t346 (!t348) a0_0 l0_1 l0_2 a1_0 a1_1 t309 t310 t313 t344 t345) = some r := H
      have A68 := Aside0.mk A680
      clear A680
      have H' := Aside0.mk H
      clear H
      have hnb69 := NB300_301.out
      have hnc69 := NB301_300.out
      have hnb70 := NB300_317.out
      have hnc70 := NB317_300.out
      have hnb71 := NB300_335.out
      have hnc71 := NB335_300.out
      have hnb72 := NB300_347.out
      have hnc72 := NB347_300.out
      have hcz73_0 : w64.cell? ⟨gb300, 0, none⟩ = some (.int .i64 a0_0) := bc BK300 0
      have hcz73_1 : w64.cell? ⟨gb300, 1, none⟩ = some (.slice A0_1 l0_1.length c0_1) := bc BK300 1
      have hcz73_2 : w64.cell? ⟨gb300, 2, none⟩ = some (.slice A0_2 l0_2.length c0_2) := bc BK300 2
      have hfz73_0 := fz BK300 0
      have hfz73_1 := fz BK300 1
      have hfz73_2 := fz BK300 2
      have hnb74 := NB301_317.out
      have hnc74 := NB317_301.out
      have hnb75 := NB301_335.out
      have hnc75 := NB335_301.out
      have hnb76 := NB301_347.out
      have hnc76 := NB347_301.out
      have hcz77_0 : w64.cell? ⟨gb301, 0, none⟩ = some (.int .i64 a1_0) := bc BK301 0
      have hcz77_1 : w64.cell? ⟨gb301, 1, none⟩ = some (.int .i64 a1_1) := bc BK301 1
      have hfz77_0 := fz BK301 0
      have hfz77_1 := fz BK301 1
      go_wp2_with (first | (go_at_call 32; (with_reducible refine (congouref04_In.calls kj31 a0_0 _ _ l0_1 _ _ l0_2 a1_0 a1_1 t348 _ ?side1 ?side2 ?side3 ?side4 A68.out).mono ?_); (case side1 => exact Kd.C_below HR0_1.out (hbC _)); (case side2 => exact HC0_1.out); (case side3 => exact Kd.C_below HR0_2.out (hbC _)); (case side4 => exact HC0_2.out); rintro e w78 ⟨rfl, hb⟩; replace HO_318001 := ak (Kd.R_below (rD ((Kd.R_mono (Kd.R_far (p := ⟨gb347, 1, none⟩) (Kd.R_far (p := ⟨gb347, 0, none⟩) (Kd.R_types HO_318001.out BK347.out (by decide)) (fun _ hk => hk.2) (.int .i64 t344)) (fun _ hk => hk.2) (.int .i64 t345)) (fun _ h_ => h_.1)))) hb); replace HO_318002 := ak (Kd.R_below (rD ((Kd.R_mono (Kd.R_far (p := ⟨gb347, 1, none⟩) (Kd.R_far (p := ⟨gb347, 0, none⟩) (Kd.R_types HO_318002.out BK347.out (by decide)) (fun _ hk => hk.2) (.int .i64 t344)) (fun _ hk => hk.2) (.int .i64 t345)) (fun _ h_ => h_.1)))) hb); replace HO_336001 := ak (Kd.R_below (rD ((Kd.R_mono (Kd.R_far (p := ⟨gb347, 1, none⟩) (Kd.R_far (p := ⟨gb347, 0, none⟩) (Kd.R_types HO_336001.out BK347.out (by decide)) (fun _ hk => hk.2) (.int .i64 t344)) (fun _ hk => hk.2) (.int .i64 t345)) (fun _ h_ => h_.1)))) hb); replace HO_336002 := ak (Kd.R_below (rD ((Kd.R_mono (Kd.R_far (p := ⟨gb347, 1, none⟩) (Kd.R_far (p := ⟨gb347, 0, none⟩) (Kd.R_types HO_336002.out BK347.out (by decide)) (fun _ hk => hk.2) (.int .i64 t344)) (fun _ hk => hk.2) (.int .i64 t345)) (fun _ h_ => h_.1)))) hb); replace HO340 := ak (Kd.R_below (rD ((Kd.R_mono (Kd.R_far (p := ⟨gb347, 1, none⟩) (Kd.R_far (p := ⟨gb347, 0, none⟩) (Kd.R_types HO340.out BK347.out (by decide)) (fun _ hk => hk.2) (.int .i64 t344)) (fun _ hk => hk.2) (.int .i64 t345)) (fun _ h_ => h_.1)))) hb); replace HO343 := ak (Kd.R_below (rD ((Kd.R_mono (Kd.R_far (p := ⟨gb347, 1, none⟩) (Kd.R_far (p := ⟨gb347, 0, none⟩) (Kd.R_types HO343.out BK347.out (by decide)) (fun _ hk => hk.2) (.int .i64 t344)) (fun _ hk => hk.2) (.int .i64 t345)) (fun _ h_ => h_.1)))) hb); replace BK300 := ak (blk_below (g := gb300) (o := .cells #[.int .i64 a0_0, .slice A0_1 l0_1.length c0_1, .slice A0_2 l0_2.length c0_2] 24 (0, 0)) (bF BK300) hb); replace BK301 := ak (blk_below (g := gb301) (o := .cells #[.int .i64 a1_0, .int .i64 a1_1] 26 (0, 0)) (bF BK301) hb); replace BK317 := ak (blk_below (g := gb317) (o := .cells #[.int .i64 t309, .slice Ao18 t310.length co18, .slice Ao19 t313.length co19] 30 (0, 0)) (bF BK317) hb); replace BK335 := ak (blk_below (g := gb335) (o := .cells #[.int .i64 t327, .slice Ao45 t328.length co45, .slice Ao46 t331.length co46] 30 (0, 0)) (bF BK335) hb); replace BK347 := ak (blk_below (g := gb347) (o := .cells #[.int .i64 t344, .int .i64 t345] 26 (0, 0)) (by (with_reducible repeat (first | refine blk_drewN ?_ _ | refine blk_drew ?_ | refine blk_alloc ?_ _)); refine blk_put (cs := #[.int .i64 t344, .int .i64 0]) ?_ 1 _ rfl; (with_reducible repeat (first | refine blk_drewN ?_ _ | refine blk_drew ?_ | refine blk_alloc ?_ _)); refine blk_put (cs := #[.int .i64 0, .int .i64 0]) ?_ 0 _ rfl; (with_reducible repeat (first | refine blk_drewN ?_ _ | refine blk_drew ?_ | refine blk_alloc ?_ _)); exact BK347.out) hb); replace HB := kH _ hb; (try clear hb); (try clear hb2); (try clear hk); (try clear hi)))
      go_meet
      case rel => exact ⟨_, (!t348), (by first | rfl | (simp; done) | (simp [*]; done)), H', ⟨by have := HJ4.out; have := HJ31.out; first | omega | exact Nat.le_refl _⟩, ⟨rD (Kd.R_mono HO_318001.out (fun _ hk => ⟨hk.2.2.1, ⟨hk.2.2.2.1, hk.2.2.2.2⟩⟩))⟩, ⟨rD (Kd.R_mono HO_318002.out (fun _ hk => ⟨hk.2.2.1, ⟨hk.2.2.2.1, hk.2.2.2.2⟩⟩))⟩, ⟨rD (Kd.R_mono HO_336001.out (fun _ hk => ⟨hk.2.2.1, ⟨hk.2.2.2.1, hk.2.2.2.2⟩⟩))⟩, ⟨rD (Kd.R_mono HO_336002.out (fun _ hk => ⟨hk.2.2.1, ⟨hk.2.2.2.1, hk.2.2.2.2⟩⟩))⟩, ⟨bkC BK300⟩, ⟨bkC BK301⟩, ⟨bkC BK317⟩, ⟨bkC BK335⟩, ⟨bkC BK347⟩, ⟨hbC _⟩⟩
     case rest =>
      clear HC57
      try clear c1
      try clear p2
      try clear c6
      try clear c7
      try clear c14
      try clear c15
      try clear c67
      try clear c67b0
      try clear c67b1
      try clear c69
      try clear c70
      try clear c71
      try clear c72
      try clear c74
      try clear c75
      try clear c76
      try clear hcz73_0
      try clear hcz73_1
      try clear hcz73_2
      try clear hcz77_0
      try clear hcz77_1
      try clear hfz73_0
      try clear hfz73_1
      try clear hfz73_2
      try clear hfz77_0
      try clear hfz77_1
      obtain ⟨kq, x64_56, rfl, HA, HJ56, HO_318001, HO_318002, HO_336001, HO_336002, BK300, BK301, BK317, BK335, BK347, HB⟩ := hcut
      cases kq with
      | zero => exact absurd HA.out (by simp [congoulaw04_CurvesMirrored.j2])
      | succ kj56 =>
       have H := HA.out
       clear HA
       simp only [congoulaw04_CurvesMirrored.j2] at H
       by_cases c79 : x64_56 = true
       ·subst c79
        have H1 : (if t346 = 2 then ((congoulaw04_awake.f kj56).bind fun t349 => (some t349)) else (some false)) = some r := by rw [if_pos rfl] at H; exact H
        clear H
        have H := H1
        clear H1
        by_cases c80 : t346 = 2
        rotate_left
        ·rw [if_neg c80] at H
         have c80b0 : (t346 == 2) = false := beq_eq_false_iff_ne.mpr c80
         have c80b1 : (t346 != 2) = true := bne_iff_ne.mpr c80
         exact absurd (H.trans (congrArg some HRT.out)) (by simp)
        rw [if_pos c80] at H
        have c80b0 : (t346 == 2) = true := beq_iff_eq.mpr c80
        have c80b1 : (t346 != 2) = false := bne_eq_false_iff_eq.mpr c80
        clear c80
        replace H := Option.bind_eq_some_iff.mp H
        obtain ⟨t349, A810, H⟩ := H
        replace H : (some t349) = some r := H
        have A81 := Aside0.mk A810
        clear A810
        obtain rfl := Option.some.inj H
        go_wp2_with (first | (go_at_call 17; (with_reducible refine (congoulaw04_awake.calls kj56  t349 _ A81.out).mono ?_); rintro e w82 ⟨rfl, hb⟩; replace HO_318001 := kO HO_318001 hb; replace HO_318002 := kO HO_318002 hb; replace HO_336001 := kO HO_336001 hb; replace HO_336002 := kO HO_336002 hb; replace BK300 := kB BK300 hb; replace BK301 := kB BK301 hb; replace BK317 := kB BK317 hb; replace BK335 := kB BK335 hb; replace BK347 := kB BK347 hb; replace HB := kH _ hb; (try clear hb); (try clear hb2); (try clear hk); (try clear hi)))
        go_ret
        exact ⟨by first | rfl | (simp [errW_none, errW_some] <;> rfl) | (simp [*, errW_none, errW_some] <;> rfl), hbC _⟩
       replace c79 := Bool.eq_false_iff.mpr c79
       subst c79
       have H1 : (congoulaw04_CurvesMirrored.l0 kj56 0 l0_1 (l0_1.length : Int) 0 a0_0 l0_1 l0_2 a1_0 a1_1 t309 t310 t313 t344 t345) = some r := by rw [if_neg (show ¬ (false = true) by decide)] at H; exact H
       clear H
       have H := H1
       clear H1
       have H' := Aside0.mk H
       clear H
       have hnb83 := NB300_301.out
       have hnc83 := NB301_300.out
       have hnb84 := NB300_317.out
       have hnc84 := NB317_300.out
       have hnb85 := NB300_335.out
       have hnc85 := NB335_300.out
       have hnb86 := NB300_347.out
       have hnc86 := NB347_300.out
       have hcz87_0 : wc.cell? ⟨gb300, 0, none⟩ = some (.int .i64 a0_0) := bc BK300 0
       have hcz87_1 : wc.cell? ⟨gb300, 1, none⟩ = some (.slice A0_1 l0_1.length c0_1) := bc BK300 1
       have hcz87_2 : wc.cell? ⟨gb300, 2, none⟩ = some (.slice A0_2 l0_2.length c0_2) := bc BK300 2
       have hfz87_0 := fz BK300 0
       have hfz87_1 := fz BK300 1
       have hfz87_2 := fz BK300 2
       go_wp2
       go_loopg [11, 73] kj56 (fun kq v11 v73 w' => ∃ (x11_4 : Int) (x73_4 : Int), v11 = .int .i64 x11_4 ∧ v73 = .int .i64 x73_4 ∧ Aside0 (congoulaw04_CurvesMirrored.l0 kq x11_4 l0_1 (l0_1.length : Int) x73_4 a0_0 l0_1 l0_2 a1_0 a1_1 t309 t310 t313 t344 t345 = some r) ∧ Aside0 (kq ≤ kj56) ∧ Aside0 (Kd.R (Kd.int .i64) 3 w' w.heap.size (fun k_ => some k_ ≠ ((.slice Ao19 t313.length co19) : Value).ownBlock ∧ some k_ ≠ ((.slice Ao45 t328.length co45) : Value).ownBlock ∧ some k_ ≠ ((.slice Ao46 t331.length co46) : Value).ownBlock) (.slice Ao18 t310.length co18) t310) ∧ Aside0 (Kd.R (Kd.int .i64) 3 w' w.heap.size (fun k_ => some k_ ≠ ((.slice Ao18 t310.length co18) : Value).ownBlock ∧ some k_ ≠ ((.slice Ao45 t328.length co45) : Value).ownBlock ∧ some k_ ≠ ((.slice Ao46 t331.length co46) : Value).ownBlock) (.slice Ao19 t313.length co19) t313) ∧ Aside0 (Kd.R (Kd.int .i64) 3 w' w.heap.size (fun k_ => some k_ ≠ ((.slice Ao18 t310.length co18) : Value).ownBlock ∧ some k_ ≠ ((.slice Ao19 t313.length co19) : Value).ownBlock ∧ some k_ ≠ ((.slice Ao46 t331.length co46) : Value).ownBlock) (.slice Ao45 t328.length co45) t328) ∧ Aside0 (Kd.R (Kd.int .i64) 3 w' w.heap.size (fun k_ => some k_ ≠ ((.slice Ao18 t310.length co18) : Value).ownBlock ∧ some k_ ≠ ((.slice Ao19 t313.length co19) : Value).ownBlock ∧ some k_ ≠ ((.slice Ao45 t328.length co45) : Value).ownBlock) (.slice Ao46 t331.length co46) t331) ∧ Aside0 (w'.heap[gb300]? = some (.cells #[.int .i64 a0_0, (.slice A0_1 l0_1.length c0_1), (.slice A0_2 l0_2.length c0_2)] 24 (0, 0))) ∧ Aside0 (w'.heap[gb301]? = some (.cells #[.int .i64 a1_0, .int .i64 a1_1] 26 (0, 0))) ∧ Aside0 (w'.heap[gb317]? = some (.cells #[.int .i64 t309, (.slice Ao18 t310.length co18), (.slice Ao19 t313.length co19)] 30 (0, 0))) ∧ Aside0 (w'.heap[gb335]? = some (.cells #[.int .i64 t327, (.slice Ao45 t328.length co45), (.slice Ao46 t331.length co46)] 30 (0, 0))) ∧ Aside0 (w'.heap[gb347]? = some (.cells #[.int .i64 t344, .int .i64 t345] 26 (0, 0))) ∧ Aside0 (Below w.heap.size w w'))
       case atStart => exact ⟨(0), (0), (by first | rfl | (simp; done) | (simp [*]; done)), (by first | rfl | (simp; done) | (simp [*]; done)), H', ⟨Nat.le_refl _⟩, ⟨rC HO_318001⟩, ⟨rC HO_318002⟩, ⟨rC HO_336001⟩, ⟨rC HO_336002⟩, ⟨bkC BK300⟩, ⟨bkC BK301⟩, ⟨bkC BK317⟩, ⟨bkC BK335⟩, ⟨bkC BK347⟩, ⟨hbC _⟩⟩
       case round =>
        clear H'
        try clear c1
        try clear p2
        try clear c6
        try clear c7
        try clear c8
        try clear c14
        try clear c15
        try clear c67
        try clear c67b0
        try clear c67b1
        try clear c69
        try clear c70
        try clear c71
        try clear c72
        try clear c74
        try clear c75
        try clear c76
        try clear c79
        try clear c80
        try clear c80b0
        try clear c80b1
        try clear c83
        try clear c84
        try clear c85
        try clear c86
        try clear hcz73_0
        try clear hcz73_1
        try clear hcz73_2
        try clear hcz77_0
        try clear hcz77_1
        try clear hcz87_0
        try clear hcz87_1
        try clear hcz87_2
        try clear hfz73_0
        try clear hfz73_1
        try clear hfz73_2
        try clear hfz77_0
        try clear hfz77_1
        try clear hfz87_0
        try clear hfz87_1
        try clear hfz87_2
        try clear p2
        obtain ⟨x11_4, x73_4, rfl, rfl, HA, HK4, HO_318001, HO_318002, HO_336001, HO_336002, BK300, BK301, BK317, BK335, BK347, HB⟩ := hrel
        cases gk with
        | zero => exact absurd HA.out (by simp [congoulaw04_CurvesMirrored.l0])
        | succ k4 =>
         have H := HA.out
         clear HA
         simp only [congoulaw04_CurvesMirrored.l0] at H
         by_cases c88 : x73_4 < (l0_1.length : Int)
         ·rw [if_pos c88] at H
          have c88b0 : decide (x73_4 < (l0_1.length : Int)) = true := decide_eq_true c88
          clear c88
          by_cases c89 : 0 ≤ x73_4
          rotate_left
          ·rw [if_neg c89] at H
           exact absurd H (by simp)
          rw [if_pos c89] at H
          have c89b0 : decide (0 ≤ x73_4) = true := decide_eq_true c89
          clear c89
          by_cases c90 : x73_4 < (l0_1.length : Int)
          rotate_left
          ·rw [if_neg c90] at H
           exact absurd H (by simp)
          rw [if_pos c90] at H
          have c90b0 : decide (x73_4 < (l0_1.length : Int)) = true := decide_eq_true c90
          clear c90
          by_cases c91 : (wrap64 ((rd l0_1 x73_4) * a1_1)) = a1_0
          rotate_left
          ·rw [if_neg c91] at H
           have c91b0 : ((wrap64 ((rd l0_1 x73_4) * a1_1)) == a1_0) = false := beq_eq_false_iff_ne.mpr c91
           have c91b1 : ((wrap64 ((rd l0_1 x73_4) * a1_1)) != a1_0) = true := bne_iff_ne.mpr c91
           have H' := Aside0.mk H
           clear H
           have p350 : 0 ≤ (x73_4 : Int) := dA
           have q350 : x73_4 < (l0_1.length : Int) := dA
           obtain ⟨ad350, e350, hx350_0⟩ := Kd.at_int HR0_1.out x73_4 p350 q350
           cases e350
           try replace hx350_0 := (HB.out.cell (World.block_lt_of_cell? w _ hx350_0)).trans hx350_0
           replace p350 := eq_true p350
           replace q350 := eq_true q350
           have hnb97 := NB301_300.out
           have hnc97 := NB300_301.out
           have hnb98 := NB301_317.out
           have hnc98 := NB317_301.out
           have hnb99 := NB301_335.out
           have hnc99 := NB335_301.out
           have hnb100 := NB301_347.out
           have hnc100 := NB347_301.out
           have hcz101_0 : wr.cell? ⟨gb301, 0, none⟩ = some (.int .i64 a1_0) := bc BK301 0
           have hcz101_1 : wr.cell? ⟨gb301, 1, none⟩ = some (.int .i64 a1_1) := bc BK301 1
           have hfz101_0 := fz BK301 0
           have hfz101_1 := fz BK301 1
           go_wp2
           go_roundg k4
           case measure => have := HJ4.out; have := HJ31.out; have := HJ56.out; have := HK4.out; omega
           case rel => exact ⟨(x11_4), (wrap64 (x73_4 + 1)), (by first | rfl | (simp; done) | (simp [*]; done)), (by first | rfl | (simp; done) | (simp [*]; done)), H', ⟨by have := HJ4.out; have := HJ31.out; have := HJ56.out; have := HK4.out; omega⟩, ⟨rC HO_318001⟩, ⟨rC HO_318002⟩, ⟨rC HO_336001⟩, ⟨rC HO_336002⟩, ⟨bkC BK300⟩, ⟨bkC BK301⟩, ⟨bkC BK317⟩, ⟨bkC BK335⟩, ⟨bkC BK347⟩, ⟨hbC _⟩⟩
          rw [if_pos c91] at H
          have c91b0 : ((wrap64 ((rd l0_1 x73_4) * a1_1)) == a1_0) = true := beq_iff_eq.mpr c91
          have c91b1 : ((wrap64 ((rd l0_1 x73_4) * a1_1)) != a1_0) = false := bne_eq_false_iff_eq.mpr c91
          clear c91
          have H' := Aside0.mk H
          clear H
          have p350 : 0 ≤ (x73_4 : Int) := dA
          have q350 : x73_4 < (l0_1.length : Int) := dA
          obtain ⟨ad350, e350, hx350_0⟩ := Kd.at_int HR0_1.out x73_4 p350 q350
          cases e350
          try replace hx350_0 := (HB.out.cell (World.block_lt_of_cell? w _ hx350_0)).trans hx350_0
          replace p350 := eq_true p350
          replace q350 := eq_true q350
          have hnb92 := NB301_300.out
          have hnc92 := NB300_301.out
          have hnb93 := NB301_317.out
          have hnc93 := NB317_301.out
          have hnb94 := NB301_335.out
          have hnc94 := NB335_301.out
          have hnb95 := NB301_347.out
          have hnc95 := NB347_301.out
          have hcz96_0 : wr.cell? ⟨gb301, 0, none⟩ = some (.int .i64 a1_0) := bc BK301 0
          have hcz96_1 : wr.cell? ⟨gb301, 1, none⟩ = some (.int .i64 a1_1) := bc BK301 1
          have hfz96_0 := fz BK301 0
          have hfz96_1 := fz BK301 1
          go_wp2
          go_roundg k4
          case measure => have := HJ4.out; have := HJ31.out; have := HJ56.out; have := HK4.out; omega
          case rel => exact ⟨(wrap64 (x11_4 + 1)), (wrap64 (x73_4 + 1)), (by first | rfl | (simp; done) | (simp [*]; done)), (by first | rfl | (simp; done) | (simp [*]; done)), H', ⟨by have := HJ4.out; have := HJ31.out; have := HJ56.out; have := HK4.out; omega⟩, ⟨rC HO_318001⟩, ⟨rC HO_318002⟩, ⟨rC HO_336001⟩, ⟨rC HO_336002⟩, ⟨bkC BK300⟩, ⟨bkC BK301⟩, ⟨bkC BK317⟩, ⟨bkC BK335⟩, ⟨bkC BK347⟩, ⟨hbC _⟩⟩
         rw [if_neg c88] at H
         have c88b0 : decide (x73_4 < (l0_1.length : Int)) = false := decide_eq_false c88
         clear c88
         replace H := Option.bind_eq_some_iff.mp H
         obtain ⟨⟨t351, t352⟩, A1020, H⟩ := H
         replace H : ((curves_Value.f k4 t309 t310 t313 t351 t352).bind fun bt353 => (if bt353.2.2 = 0 then (if (t344 == bt353.1 && (t345 == bt353.2.1)) = true then ((congoulaw04_awake.f k4).bind fun t357 => (some t357)) else (if x11_4 > a0_0 then ((congoulaw04_awake.f k4).bind fun t358 => (some t358)) else (some false))) else (some false))) = some r := H
         have A102 := Aside0.mk A1020
         clear A1020
         replace H := Option.bind_eq_some_iff.mp H
         obtain ⟨⟨t353, t354, t355⟩, A1030, H⟩ := H
         replace H : (if t355 = 0 then (if (t344 == t353 && (t345 == t354)) = true then ((congoulaw04_awake.f k4).bind fun t357 => (some t357)) else (if x11_4 > a0_0 then ((congoulaw04_awake.f k4).bind fun t358 => (some t358)) else (some false))) else (some false)) = some r := H
         have A103 := Aside0.mk A1030
         clear A1030
         by_cases c104 : t355 = 0
         rotate_left
         ·rw [if_neg c104] at H
          have c104b0 : (t355 == 0) = false := beq_eq_false_iff_ne.mpr c104
          have c104b1 : (t355 != 0) = true := bne_iff_ne.mpr c104
          exact absurd (H.trans (congrArg some HRT.out)) (by simp)
         rw [if_pos c104] at H
         have c104b0 : (t355 == 0) = true := beq_iff_eq.mpr c104
         have c104b1 : (t355 != 0) = false := bne_eq_false_iff_eq.mpr c104
         clear c104
         by_cases c105 : (t344 == t353 && (t345 == t354)) = true
         ·rw [if_pos c105] at H
          have c105b0 : (t344 == t353 && (t345 == t354)) = true := c105
          (try (have c105b1 : decide (t344 = t353 && (t345 == t354)) = true := by simpa using c105))
          (try (have c105b2 : (t344 == t353 && (t345 == t354)) = true := by simpa using c105))
          clear c105
          replace H := Option.bind_eq_some_iff.mp H
          obtain ⟨t357, A1060, H⟩ := H
          replace H : (some t357) = some r := H
          have A106 := Aside0.mk A1060
          clear A1060
          obtain rfl := Option.some.inj H
          try go_wp2
          replace HO_318001 := ak (Kd.R_drew HO_318001.out)
          replace HO_318002 := ak (Kd.R_drew HO_318002.out)
          replace HO_336001 := ak (Kd.R_drew HO_336001.out)
          replace HO_336002 := ak (Kd.R_drew HO_336002.out)
          replace BK300 := kd BK300
          replace BK301 := kd BK301
          replace BK317 := kd BK317
          replace BK335 := kd BK335
          replace BK347 := kd BK347
          replace HB := ak (below_drew1 HB.out)
          refine sS (n := 17) (S := fun w' => w'.cell? ⟨gb317, 0, none⟩ = some (.int .i64 t309) ∧ w'.cell? ⟨gb317, 1, none⟩ = some (.slice Ao18 t310.length co18) ∧ w'.cell? ⟨gb317, 2, none⟩ = some (.slice Ao19 t313.length co19) ∧ w'.cell? ⟨gb301, 0, none⟩ = some (.int .i64 a1_0) ∧ w'.cell? ⟨gb301, 1, none⟩ = some (.int .i64 a1_1)) (ds := []) ⟨bc BK317 0, bc BK317 1, bc BK317 2, bc BK301 0, bc BK301 1⟩ (fun hHeld => ?_); refine with_tabW congoulaw04_CurvesMirrored.tab17 congoulaw04_CurvesMirrored.bits17 (fun HT_ HW_ => ?_)
          generalize wr.drew = w107 at HO_318001 HO_318002 HO_336001 HO_336002 BK300 BK301 BK317 BK335 BK347 HB hHeld ⊢
          refine pS 1 89 17 2 ?_
          refine pS 4 92 17 18 ?_
          refine pS 7 95 17 146 ?_
          refine tS 0 88 17 147 ?_
          refine tS 2 90 17 151 ?_
          refine pS 3 91 17 159 ?_
          refine tS 5 93 17 191 ?_
          refine pS 6 94 17 255 ?_
          refine tS 8 96 17 511 ?_
          refine join_ (σ := Nat) 2 (ba 17 32767) (fun s_ => [(97, .agg #[.int .i64 t351, .int .i64 t352]), (98, .tuple #[.agg #[.int .i64 t353, .int .i64 t354], .int .i64 t355]), (14, .pointer (some ⟨s_, 0, none⟩)), (87, .tuple #[.agg #[.int .i64 t353, .int .i64 t354], .int .i64 t355]), (99, .agg #[.int .i64 t353, .int .i64 t354]), (100, .int .i64 t355)]) (fun s_ w' => (w'.cell? ⟨gb317, 0, none⟩ = some (.int .i64 t309) ∧ w'.cell? ⟨gb317, 1, none⟩ = some (.slice Ao18 t310.length co18) ∧ w'.cell? ⟨gb317, 2, none⟩ = some (.slice Ao19 t313.length co19) ∧ w'.cell? ⟨gb301, 0, none⟩ = some (.int .i64 a1_0) ∧ w'.cell? ⟨gb301, 1, none⟩ = some (.int .i64 a1_1)) ∧ (Kd.R (Kd.int .i64) 3 w' w.heap.size (fun k_ => nb k_ (.slice Ao19 t313.length co19) ∧ nb k_ (.slice Ao45 t328.length co45) ∧ nb k_ (.slice Ao46 t331.length co46)) (.slice Ao18 t310.length co18) t310) ∧ (Kd.R (Kd.int .i64) 3 w' w.heap.size (fun k_ => nb k_ (.slice Ao18 t310.length co18) ∧ nb k_ (.slice Ao45 t328.length co45) ∧ nb k_ (.slice Ao46 t331.length co46)) (.slice Ao19 t313.length co19) t313) ∧ (Kd.R (Kd.int .i64) 3 w' w.heap.size (fun k_ => nb k_ (.slice Ao18 t310.length co18) ∧ nb k_ (.slice Ao19 t313.length co19) ∧ nb k_ (.slice Ao46 t331.length co46)) (.slice Ao45 t328.length co45) t328) ∧ (Kd.R (Kd.int .i64) 3 w' w.heap.size (fun k_ => nb k_ (.slice Ao18 t310.length co18) ∧ nb k_ (.slice Ao19 t313.length co19) ∧ nb k_ (.slice Ao45 t328.length co45)) (.slice Ao46 t331.length co46) t331) ∧ (w'.heap[gb300]? = some (.cells #[.int .i64 a0_0, .slice A0_1 l0_1.length c0_1, .slice A0_2 l0_2.length c0_2] 24 (0, 0))) ∧ (w'.heap[gb301]? = some (.cells #[.int .i64 a1_0, .int .i64 a1_1] 26 (0, 0))) ∧ (w'.heap[gb317]? = some (.cells #[.int .i64 t309, .slice Ao18 t310.length co18, .slice Ao19 t313.length co19] 30 (0, 0))) ∧ (w'.heap[gb335]? = some (.cells #[.int .i64 t327, .slice Ao45 t328.length co45, .slice Ao46 t331.length co46] 30 (0, 0))) ∧ (w'.heap[gb347]? = some (.cells #[.int .i64 t344, .int .i64 t345] 26 (0, 0))) ∧ (w'.heap[s_]? = some (.cells #[.int .i64 0, .int .i64 0] 26 (0, 0))) ∧ (w.heap.size ≤ s_) ∧ (w.heap.size ≤ s_) ∧ (gb300 ≠ s_) ∧ (s_ ≠ gb300) ∧ (gb301 ≠ s_) ∧ (s_ ≠ gb301) ∧ (gb317 ≠ s_) ∧ (s_ ≠ gb317) ∧ (gb335 ≠ s_) ∧ (s_ ≠ gb335) ∧ (gb347 ≠ s_) ∧ (s_ ≠ gb347) ∧ (Below w.heap.size w w')) ?_ ?_
          rotate_left
          ·intro hCont
           refine two_ (i := 9) (j := 14) (Ni := some 97) (Nj := some 14) (ba 17 1023) (ba 17 16895) rfl rfl rfl rfl (two_of HT_.out (by kernel_rfl)) (by decide) (by decide) (fun K hK => ?_) (fun K hK => ?_)
           ·skip
            refine gC Try.func33 #[.int .i64 (wrap64 ((wrap64 (12 * a1_1)) - a1_0)), .int .i64 a1_1] ?_
            with_reducible refine (congouref04_Frac.calls k4 (wrap64 ((wrap64 (12 * a1_1)) - a1_0)) a1_1 t351 t352 _ A102.out).mono ?_
            rintro e w108 ⟨rfl, hb⟩
            refine ⟨_, rfl, ?_⟩
            replace HO_318001 := kO HO_318001 hb
            replace HO_318002 := kO HO_318002 hb
            replace HO_336001 := kO HO_336001 hb
            replace HO_336002 := kO HO_336002 hb
            replace BK300 := kB BK300 hb
            replace BK301 := kB BK301 hb
            replace BK317 := kB BK317 hb
            replace BK335 := kB BK335 hb
            replace BK347 := kB BK347 hb
            replace HB := kH _ hb
            (try clear hb)
            (try clear hb2)
            (try clear hk)
            (try clear hi)
            refine hK.out _ _ ⟨bc BK317 0, bc BK317 1, bc BK317 2, bc BK301 0, bc BK301 1⟩ (fun hHeld => ?_)
            clear hK K
            refine norm_ (a' := ?_) ?_ ?_
            rotate_left
            ·show Act.put _ (some 97) _ = _
             simp only [Act.put, List.setIfInBounds_toArray, List.set_cons_zero, List.set_cons_succ, i64_w, i32_w]
             rfl
            refine two_ (i := 10) (j := 14) (Ni := some 98) (Nj := some 14) (ba 17 2047) (ba 17 17407) rfl rfl rfl rfl (two_of HT_.out (by kernel_rfl)) (by decide) (by decide) (fun K hK => ?_) (fun K hK => ?_)
            ·skip
             refine gC Try.func14 #[.agg #[.int .i64 t309, .slice Ao18 t310.length co18, .slice Ao19 t313.length co19], .agg #[.int .i64 t351, .int .i64 t352]] ?_
             with_reducible refine (curves_Value.calls k4 t309 _ _ t310 _ _ t313 t351 t352 t353 t354 t355 _ ?side1 ?side2 ?side3 ?side4 A103.out).mono ?_
             (case side1 => exact kD (Kd.R_reads' HO_318001.out).2.2)
             (case side2 => exact (Kd.R_reads' HO_318001.out).2.1)
             (case side3 => exact kD (Kd.R_reads' HO_318002.out).2.2)
             (case side4 => exact (Kd.R_reads' HO_318002.out).2.1)
             rintro e w109 ⟨rfl, hb⟩
             refine ⟨_, rfl, ?_⟩
             replace HO_318001 := kO HO_318001 hb
             replace HO_318002 := kO HO_318002 hb
             replace HO_336001 := kO HO_336001 hb
             replace HO_336002 := kO HO_336002 hb
             replace BK300 := kB BK300 hb
             replace BK301 := kB BK301 hb
             replace BK317 := kB BK317 hb
             replace BK335 := kB BK335 hb
             replace BK347 := kB BK347 hb
             replace HB := kH _ hb
             (try clear hb)
             (try clear hb2)
             (try clear hk)
             (try clear hi)
             refine hK.out _ _ ⟨bc BK317 0, bc BK317 1, bc BK317 2, bc BK301 0, bc BK301 1⟩ (fun hHeld => ?_)
             clear hK K
             refine norm_ (a' := ?_) ?_ ?_
             rotate_left
             ·show Act.put _ (some 98) _ = _
              simp only [Act.put, List.setIfInBounds_toArray, List.set_cons_zero, List.set_cons_succ, i64_w, i32_w]
              rfl
             refine pS 11 87 17 4095 ?_
             refine pS 12 99 17 8191 ?_
             refine pS 13 100 17 16383 ?_
             refine one_ (i := 14) (N := some 14) (ba 17 32767) rfl rfl (one_of HT_.out (by kernel_rfl)) (by decide) (fun K hK => ?_)
             refine box_step ?hg (N := 14) ?hd (cs := #[.int .i64 0, .int .i64 0]) (t := 26) ?hr ?_; (case hd => rfl); (case hg => rfl); (case hr => first | (go_simp; done) | (go_simp; rfl))
             intro gb356 hg w110 hbox hb
             replace HO_318001 := kO HO_318001 hb
             replace HO_318002 := kO HO_318002 hb
             replace HO_336001 := kO HO_336001 hb
             replace HO_336002 := kO HO_336002 hb
             have BK356 := ak (hbox)
             have GW356 := kG w hg
             have GE356 := kG w hg
             replace HB := kH _ hb
             have NB300_356 := kL BK300 hg
             have NB356_300 := kR BK300 hg
             replace BK300 := kB BK300 hb
             have NB301_356 := kL BK301 hg
             have NB356_301 := kR BK301 hg
             replace BK301 := kB BK301 hb
             have NB317_356 := kL BK317 hg
             have NB356_317 := kR BK317 hg
             replace BK317 := kB BK317 hb
             have NB335_356 := kL BK335 hg
             have NB356_335 := kR BK335 hg
             replace BK335 := kB BK335 hb
             have NB347_356 := kL BK347 hg
             have NB356_347 := kR BK347 hg
             replace BK347 := kB BK347 hb
             clear hb hbox hg
             refine hK.out _ _ ⟨bc BK317 0, bc BK317 1, bc BK317 2, bc BK301 0, bc BK301 1⟩ (fun hHeld => ?_)
             clear hK K
             refine norm_ (a' := ?_) ?_ ?_
             rotate_left
             ·show Act.put _ (some 14) _ = _
              simp only [Act.put, List.setIfInBounds_toArray, List.set_cons_zero, List.set_cons_succ, i64_w, i32_w]
              rfl
             exact norm_ (by simp only [putAll, Act.put, List.setIfInBounds_toArray, List.set_cons_zero, List.set_cons_succ]) (hCont (gb356) _ ⟨hHeld, (rC HO_318001), (rC HO_318002), (rC HO_336001), (rC HO_336002), (bkC BK300), (bkC BK301), (bkC BK317), (bkC BK335), (bkC BK347), (bkC BK356), GW356.out, GE356.out, NB300_356.out, NB356_300.out, NB301_356.out, NB356_301.out, NB317_356.out, NB356_317.out, NB335_356.out, NB356_335.out, NB347_356.out, NB356_347.out, (hbC _)⟩)
            ·skip
             refine box_step ?hg (N := 14) ?hd (cs := #[.int .i64 0, .int .i64 0]) (t := 26) ?hr ?_; (case hd => rfl); (case hg => rfl); (case hr => first | (go_simp; done) | (go_simp; rfl))
             intro gb356 hg w109 hbox hb
             replace HO_318001 := kO HO_318001 hb
             replace HO_318002 := kO HO_318002 hb
             replace HO_336001 := kO HO_336001 hb
             replace HO_336002 := kO HO_336002 hb
             have BK356 := ak (hbox)
             have GW356 := kG w hg
             have GE356 := kG w hg
             replace HB := kH _ hb
             have NB300_356 := kL BK300 hg
             have NB356_300 := kR BK300 hg
             replace BK300 := kB BK300 hb
             have NB301_356 := kL BK301 hg
             have NB356_301 := kR BK301 hg
             replace BK301 := kB BK301 hb
             have NB317_356 := kL BK317 hg
             have NB356_317 := kR BK317 hg
             replace BK317 := kB BK317 hb
             have NB335_356 := kL BK335 hg
             have NB356_335 := kR BK335 hg
             replace BK335 := kB BK335 hb
             have NB347_356 := kL BK347 hg
             have NB356_347 := kR BK347 hg
             replace BK347 := kB BK347 hb
             clear hb hbox hg
             refine hK.out _ _ ⟨bc BK317 0, bc BK317 1, bc BK317 2, bc BK301 0, bc BK301 1⟩ (fun hHeld => ?_)
             clear hK K
             refine norm_ (a' := ?_) ?_ ?_
             rotate_left
             ·show Act.put _ (some 14) _ = _
              simp only [Act.put, List.setIfInBounds_toArray, List.set_cons_zero, List.set_cons_succ, i64_w, i32_w]
              rfl
             refine one_ (i := 10) (N := some 98) (ba 17 18431) rfl rfl (one_of HT_.out (by kernel_rfl)) (by decide) (fun K hK => ?_)
             refine gC Try.func14 #[.agg #[.int .i64 t309, .slice Ao18 t310.length co18, .slice Ao19 t313.length co19], .agg #[.int .i64 t351, .int .i64 t352]] ?_
             with_reducible refine (curves_Value.calls k4 t309 _ _ t310 _ _ t313 t351 t352 t353 t354 t355 _ ?side1 ?side2 ?side3 ?side4 A103.out).mono ?_
             (case side1 => exact kD (Kd.R_reads' HO_318001.out).2.2)
             (case side2 => exact (Kd.R_reads' HO_318001.out).2.1)
             (case side3 => exact kD (Kd.R_reads' HO_318002.out).2.2)
             (case side4 => exact (Kd.R_reads' HO_318002.out).2.1)
             rintro e w110 ⟨rfl, hb⟩
             refine ⟨_, rfl, ?_⟩
             replace HO_318001 := kO HO_318001 hb
             replace HO_318002 := kO HO_318002 hb
             replace HO_336001 := kO HO_336001 hb
             replace HO_336002 := kO HO_336002 hb
             replace BK300 := kB BK300 hb
             replace BK301 := kB BK301 hb
             replace BK317 := kB BK317 hb
             replace BK335 := kB BK335 hb
             replace BK347 := kB BK347 hb
             replace BK356 := kB BK356 hb
             replace HB := kH _ hb
             (try clear hb)
             (try clear hb2)
             (try clear hk)
             (try clear hi)
             refine hK.out _ _ ⟨bc BK317 0, bc BK317 1, bc BK317 2, bc BK301 0, bc BK301 1⟩ (fun hHeld => ?_)
             clear hK K
             refine norm_ (a' := ?_) ?_ ?_
             rotate_left
             ·show Act.put _ (some 98) _ = _
              simp only [Act.put, List.setIfInBounds_toArray, List.set_cons_zero, List.set_cons_succ, i64_w, i32_w]
              rfl
             refine pS 11 87 17 20479 ?_
             refine pS 12 99 17 24575 ?_
             refine pS 13 100 17 32767 ?_
             exact norm_ (by simp only [putAll, Act.put, List.setIfInBounds_toArray, List.set_cons_zero, List.set_cons_succ]) (hCont (gb356) _ ⟨hHeld, (rC HO_318001), (rC HO_318002), (rC HO_336001), (rC HO_336002), (bkC BK300), (bkC BK301), (bkC BK317), (bkC BK335), (bkC BK347), (bkC BK356), GW356.out, GE356.out, NB300_356.out, NB356_300.out, NB301_356.out, NB356_301.out, NB317_356.out, NB356_317.out, NB335_356.out, NB356_335.out, NB347_356.out, NB356_347.out, (hbC _)⟩)
           ·skip
            refine box_step ?hg (N := 14) ?hd (cs := #[.int .i64 0, .int .i64 0]) (t := 26) ?hr ?_; (case hd => rfl); (case hg => rfl); (case hr => first | (go_simp; done) | (go_simp; rfl))
            intro gb356 hg w108 hbox hb
            replace HO_318001 := kO HO_318001 hb
            replace HO_318002 := kO HO_318002 hb
            replace HO_336001 := kO HO_336001 hb
            replace HO_336002 := kO HO_336002 hb
            have BK356 := ak (hbox)
            have GW356 := kG w hg
            have GE356 := kG w hg
            replace HB := kH _ hb
            have NB300_356 := kL BK300 hg
            have NB356_300 := kR BK300 hg
            replace BK300 := kB BK300 hb
            have NB301_356 := kL BK301 hg
            have NB356_301 := kR BK301 hg
            replace BK301 := kB BK301 hb
            have NB317_356 := kL BK317 hg
            have NB356_317 := kR BK317 hg
            replace BK317 := kB BK317 hb
            have NB335_356 := kL BK335 hg
            have NB356_335 := kR BK335 hg
            replace BK335 := kB BK335 hb
            have NB347_356 := kL BK347 hg
            have NB356_347 := kR BK347 hg
            replace BK347 := kB BK347 hb
            clear hb hbox hg
            refine hK.out _ _ ⟨bc BK317 0, bc BK317 1, bc BK317 2, bc BK301 0, bc BK301 1⟩ (fun hHeld => ?_)
            clear hK K
            refine norm_ (a' := ?_) ?_ ?_
            rotate_left
            ·show Act.put _ (some 14) _ = _
             simp only [Act.put, List.setIfInBounds_toArray, List.set_cons_zero, List.set_cons_succ, i64_w, i32_w]
             rfl
            refine one_ (i := 9) (N := some 97) (ba 17 17407) rfl rfl (one_of HT_.out (by kernel_rfl)) (by decide) (fun K hK => ?_)
            refine gC Try.func33 #[.int .i64 (wrap64 ((wrap64 (12 * a1_1)) - a1_0)), .int .i64 a1_1] ?_
            with_reducible refine (congouref04_Frac.calls k4 (wrap64 ((wrap64 (12 * a1_1)) - a1_0)) a1_1 t351 t352 _ A102.out).mono ?_
            rintro e w109 ⟨rfl, hb⟩
            refine ⟨_, rfl, ?_⟩
            replace HO_318001 := kO HO_318001 hb
            replace HO_318002 := kO HO_318002 hb
            replace HO_336001 := kO HO_336001 hb
            replace HO_336002 := kO HO_336002 hb
            replace BK300 := kB BK300 hb
            replace BK301 := kB BK301 hb
            replace BK317 := kB BK317 hb
            replace BK335 := kB BK335 hb
            replace BK347 := kB BK347 hb
            replace BK356 := kB BK356 hb
            replace HB := kH _ hb
            (try clear hb)
            (try clear hb2)
            (try clear hk)
            (try clear hi)
            refine hK.out _ _ ⟨bc BK317 0, bc BK317 1, bc BK317 2, bc BK301 0, bc BK301 1⟩ (fun hHeld => ?_)
            clear hK K
            refine norm_ (a' := ?_) ?_ ?_
            rotate_left
            ·show Act.put _ (some 97) _ = _
             simp only [Act.put, List.setIfInBounds_toArray, List.set_cons_zero, List.set_cons_succ, i64_w, i32_w]
             rfl
            refine one_ (i := 10) (N := some 98) (ba 17 18431) rfl rfl (one_of HT_.out (by kernel_rfl)) (by decide) (fun K hK => ?_)
            refine gC Try.func14 #[.agg #[.int .i64 t309, .slice Ao18 t310.length co18, .slice Ao19 t313.length co19], .agg #[.int .i64 t351, .int .i64 t352]] ?_
            with_reducible refine (curves_Value.calls k4 t309 _ _ t310 _ _ t313 t351 t352 t353 t354 t355 _ ?side1 ?side2 ?side3 ?side4 A103.out).mono ?_
            (case side1 => exact kD (Kd.R_reads' HO_318001.out).2.2)
            (case side2 => exact (Kd.R_reads' HO_318001.out).2.1)
            (case side3 => exact kD (Kd.R_reads' HO_318002.out).2.2)
            (case side4 => exact (Kd.R_reads' HO_318002.out).2.1)
            rintro e w110 ⟨rfl, hb⟩
            refine ⟨_, rfl, ?_⟩
            replace HO_318001 := kO HO_318001 hb
            replace HO_318002 := kO HO_318002 hb
            replace HO_336001 := kO HO_336001 hb
            replace HO_336002 := kO HO_336002 hb
            replace BK300 := kB BK300 hb
            replace BK301 := kB BK301 hb
            replace BK317 := kB BK317 hb
            replace BK335 := kB BK335 hb
            replace BK347 := kB BK347 hb
            replace BK356 := kB BK356 hb
            replace HB := kH _ hb
            (try clear hb)
            (try clear hb2)
            (try clear hk)
            (try clear hi)
            refine hK.out _ _ ⟨bc BK317 0, bc BK317 1, bc BK317 2, bc BK301 0, bc BK301 1⟩ (fun hHeld => ?_)
            clear hK K
            refine norm_ (a' := ?_) ?_ ?_
            rotate_left
            ·show Act.put _ (some 98) _ = _
             simp only [Act.put, List.setIfInBounds_toArray, List.set_cons_zero, List.set_cons_succ, i64_w, i32_w]
             rfl
            refine pS 11 87 17 20479 ?_
            refine pS 12 99 17 24575 ?_
            refine pS 13 100 17 32767 ?_
            exact norm_ (by simp only [putAll, Act.put, List.setIfInBounds_toArray, List.set_cons_zero, List.set_cons_succ]) (hCont (gb356) _ ⟨hHeld, (rC HO_318001), (rC HO_318002), (rC HO_336001), (rC HO_336002), (bkC BK300), (bkC BK301), (bkC BK317), (bkC BK335), (bkC BK347), (bkC BK356), GW356.out, GE356.out, NB300_356.out, NB356_300.out, NB301_356.out, NB356_301.out, NB317_356.out, NB356_317.out, NB335_356.out, NB356_335.out, NB347_356.out, NB356_347.out, (hbC _)⟩)
          rintro gb356 w111 ⟨hS_, h0_, h1_, h2_, h3_, h4_, h5_, h6_, h7_, h8_, h9_, h10_, h11_, h12_, h13_, h14_, h15_, h16_, h17_, h18_, h19_, h20_, h21_, h22_⟩
          have n0_ : Aside0 (Kd.R (Kd.int .i64) 3 w111 w.heap.size (fun k_ => nb k_ (.slice Ao19 t313.length co19) ∧ nb k_ (.slice Ao45 t328.length co45) ∧ nb k_ (.slice Ao46 t331.length co46)) (.slice Ao18 t310.length co18) t310) := ⟨h0_⟩
          have n1_ : Aside0 (Kd.R (Kd.int .i64) 3 w111 w.heap.size (fun k_ => nb k_ (.slice Ao18 t310.length co18) ∧ nb k_ (.slice Ao45 t328.length co45) ∧ nb k_ (.slice Ao46 t331.length co46)) (.slice Ao19 t313.length co19) t313) := ⟨h1_⟩
          have n2_ : Aside0 (Kd.R (Kd.int .i64) 3 w111 w.heap.size (fun k_ => nb k_ (.slice Ao18 t310.length co18) ∧ nb k_ (.slice Ao19 t313.length co19) ∧ nb k_ (.slice Ao46 t331.length co46)) (.slice Ao45 t328.length co45) t328) := ⟨h2_⟩
          have n3_ : Aside0 (Kd.R (Kd.int .i64) 3 w111 w.heap.size (fun k_ => nb k_ (.slice Ao18 t310.length co18) ∧ nb k_ (.slice Ao19 t313.length co19) ∧ nb k_ (.slice Ao45 t328.length co45)) (.slice Ao46 t331.length co46) t331) := ⟨h3_⟩
          have n4_ : Aside0 (w111.heap[gb300]? = some (.cells #[.int .i64 a0_0, .slice A0_1 l0_1.length c0_1, .slice A0_2 l0_2.length c0_2] 24 (0, 0))) := ⟨h4_⟩
          have n5_ : Aside0 (w111.heap[gb301]? = some (.cells #[.int .i64 a1_0, .int .i64 a1_1] 26 (0, 0))) := ⟨h5_⟩
          have n6_ : Aside0 (w111.heap[gb317]? = some (.cells #[.int .i64 t309, .slice Ao18 t310.length co18, .slice Ao19 t313.length co19] 30 (0, 0))) := ⟨h6_⟩
          have n7_ : Aside0 (w111.heap[gb335]? = some (.cells #[.int .i64 t327, .slice Ao45 t328.length co45, .slice Ao46 t331.length co46] 30 (0, 0))) := ⟨h7_⟩
          have n8_ : Aside0 (w111.heap[gb347]? = some (.cells #[.int .i64 t344, .int .i64 t345] 26 (0, 0))) := ⟨h8_⟩
          have n9_ : Aside0 (w111.heap[gb356]? = some (.cells #[.int .i64 0, .int .i64 0] 26 (0, 0))) := ⟨h9_⟩
          have n10_ : Aside0 (w.heap.size ≤ gb356) := ⟨h10_⟩
          have n11_ : Aside0 (w.heap.size ≤ gb356) := ⟨h11_⟩
          have n12_ : Aside0 (gb300 ≠ gb356) := ⟨h12_⟩
          have n13_ : Aside0 (gb356 ≠ gb300) := ⟨h13_⟩
          have n14_ : Aside0 (gb301 ≠ gb356) := ⟨h14_⟩
          have n15_ : Aside0 (gb356 ≠ gb301) := ⟨h15_⟩
          have n16_ : Aside0 (gb317 ≠ gb356) := ⟨h16_⟩
          have n17_ : Aside0 (gb356 ≠ gb317) := ⟨h17_⟩
          have n18_ : Aside0 (gb335 ≠ gb356) := ⟨h18_⟩
          have n19_ : Aside0 (gb356 ≠ gb335) := ⟨h19_⟩
          have n20_ : Aside0 (gb347 ≠ gb356) := ⟨h20_⟩
          have n21_ : Aside0 (gb356 ≠ gb347) := ⟨h21_⟩
          have n22_ : Aside0 (Below w.heap.size w w111) := ⟨h22_⟩
          clear HO_318001
          clear HO_318002
          clear HO_336001
          clear HO_336002
          clear BK300
          clear BK301
          clear BK317
          clear BK335
          clear BK347
          clear HB
          clear h0_ h1_ h2_ h3_ h4_ h5_ h6_ h7_ h8_ h9_ h10_ h11_ h12_ h13_ h14_ h15_ h16_ h17_ h18_ h19_ h20_ h21_ h22_
          have HO_318001 := n0_
          have HO_318002 := n1_
          have HO_336001 := n2_
          have HO_336002 := n3_
          have BK300 := n4_
          have BK301 := n5_
          have BK317 := n6_
          have BK335 := n7_
          have BK347 := n8_
          have BK356 := n9_
          have GW356 := n10_
          have GE356 := n11_
          have NB300_356 := n12_
          have NB356_300 := n13_
          have NB301_356 := n14_
          have NB356_301 := n15_
          have NB317_356 := n16_
          have NB356_317 := n17_
          have NB335_356 := n18_
          have NB356_335 := n19_
          have NB347_356 := n20_
          have NB356_347 := n21_
          have HB := n22_
          clear n0_ n1_ n2_ n3_ n4_ n5_ n6_ n7_ n8_ n9_ n10_ n11_ n12_ n13_ n14_ n15_ n16_ n17_ n18_ n19_ n20_ n21_ n22_
          have hHeld : w111.cell? ⟨gb317, 0, none⟩ = some (.int .i64 t309) ∧ w111.cell? ⟨gb317, 1, none⟩ = some (.slice Ao18 t310.length co18) ∧ w111.cell? ⟨gb317, 2, none⟩ = some (.slice Ao19 t313.length co19) ∧ w111.cell? ⟨gb301, 0, none⟩ = some (.int .i64 a1_0) ∧ w111.cell? ⟨gb301, 1, none⟩ = some (.int .i64 a1_1) := hS_
          refine norm_ (a' := ?_) ?_ ?_
          rotate_left
          ·simp only [putAll, Act.put, List.setIfInBounds_toArray, List.set_cons_zero, List.set_cons_succ]
           rfl
          refine one_ (i := 15) (N := none) (ba 17 65535) rfl rfl (one_of HT_.out (by kernel_rfl)) (by decide) (fun K hK => ?_)
          have hs112 : w111.cell? ⟨gb356, 0, none⟩ = some (.int .i64 0) := bc BK356 0
          have hfs112 := fz BK356 0
          have hns112_0 := NB300_356.out
          have hns112_1 := NB301_356.out
          have hns112_2 := NB317_356.out
          have hns112_3 := NB335_356.out
          have hns112_4 := NB347_356.out
          have hms112_0 := NB356_300.out
          have hms112_1 := NB356_301.out
          have hms112_2 := NB356_317.out
          have hms112_3 := NB356_335.out
          have hms112_4 := NB356_347.out
          have hs113 : w111.cell? ⟨gb356, 1, none⟩ = some (.int .i64 0) := bc BK356 1
          have hfs113 := fz BK356 1
          have hns113_0 := NB300_356.out
          have hns113_1 := NB301_356.out
          have hns113_2 := NB317_356.out
          have hns113_3 := NB335_356.out
          have hns113_4 := NB347_356.out
          have hms113_0 := NB356_300.out
          have hms113_1 := NB356_301.out
          have hms113_2 := NB356_317.out
          have hms113_3 := NB356_335.out
          have hms113_4 := NB356_347.out
          refine skip_ (w1 := ?_) (by rfl) rfl ?_ ?_
          rotate_left
          ·go_simp
           rfl
          refine hK.out _ _ ⟨((cell_far (p := ⟨gb356, _, none⟩) NB317_356.out _).trans (((cell_far (p := ⟨gb356, _, none⟩) NB317_356.out _).trans (hHeld.1)))), ((cell_far (p := ⟨gb356, _, none⟩) NB317_356.out _).trans (((cell_far (p := ⟨gb356, _, none⟩) NB317_356.out _).trans (hHeld.2.1)))), ((cell_far (p := ⟨gb356, _, none⟩) NB317_356.out _).trans (((cell_far (p := ⟨gb356, _, none⟩) NB317_356.out _).trans (hHeld.2.2.1)))), ((cell_far (p := ⟨gb356, _, none⟩) NB301_356.out _).trans (((cell_far (p := ⟨gb356, _, none⟩) NB301_356.out _).trans (hHeld.2.2.2.1)))), ((cell_far (p := ⟨gb356, _, none⟩) NB301_356.out _).trans (((cell_far (p := ⟨gb356, _, none⟩) NB301_356.out _).trans (hHeld.2.2.2.2))))⟩ (fun hHeld => ?_)
          clear hK K
          refine pS 16 15 17 131071 ?_
          refine done_ (done_of HT_.out (by kernel_rfl)) ?_
          have hnb114 := NB347_300.out
          have hnc114 := NB300_347.out
          have hnb115 := NB347_301.out
          have hnc115 := NB301_347.out
          have hnb116 := NB347_317.out
          have hnc116 := NB317_347.out
          have hnb117 := NB347_335.out
          have hnc117 := NB335_347.out
          have hnb118 := NB347_356.out
          have hnc118 := NB356_347.out
          have hcz119_0 : w111.cell? ⟨gb347, 0, none⟩ = some (.int .i64 t344) := bc BK347 0
          have hcz119_1 : w111.cell? ⟨gb347, 1, none⟩ = some (.int .i64 t345) := bc BK347 1
          have hfz119_0 := fz BK347 0
          have hfz119_1 := fz BK347 1
          have hnb120 := NB356_300.out
          have hnc120 := NB300_356.out
          have hnb121 := NB356_301.out
          have hnc121 := NB301_356.out
          have hnb122 := NB356_317.out
          have hnc122 := NB317_356.out
          have hnb123 := NB356_335.out
          have hnc123 := NB335_356.out
          have hcz124_0 : w111.cell? ⟨gb356, 0, none⟩ = some (.int .i64 0) := bc BK356 0
          have hcz124_1 : w111.cell? ⟨gb356, 1, none⟩ = some (.int .i64 0) := bc BK356 1
          have hfz124_0 := fz BK356 0
          have hfz124_1 := fz BK356 1
          try go_wp2_with (first | (go_at_call 17; (with_reducible refine (congoulaw04_awake.calls k4  t357 _ A106.out).mono ?_); rintro e w125 ⟨rfl, hb⟩; replace HO_318001 := ak (Kd.R_below (rD ((Kd.R_mono (Kd.R_far (p := ⟨gb356, 1, none⟩) (Kd.R_far (p := ⟨gb356, 0, none⟩) (Kd.R_types HO_318001.out BK356.out (by decide)) (fun _ hk => hk.2) (.int .i64 t353)) (fun _ hk => hk.2) (.int .i64 t354)) (fun _ h_ => h_.1)))) hb); replace HO_318002 := ak (Kd.R_below (rD ((Kd.R_mono (Kd.R_far (p := ⟨gb356, 1, none⟩) (Kd.R_far (p := ⟨gb356, 0, none⟩) (Kd.R_types HO_318002.out BK356.out (by decide)) (fun _ hk => hk.2) (.int .i64 t353)) (fun _ hk => hk.2) (.int .i64 t354)) (fun _ h_ => h_.1)))) hb); replace HO_336001 := ak (Kd.R_below (rD ((Kd.R_mono (Kd.R_far (p := ⟨gb356, 1, none⟩) (Kd.R_far (p := ⟨gb356, 0, none⟩) (Kd.R_types HO_336001.out BK356.out (by decide)) (fun _ hk => hk.2) (.int .i64 t353)) (fun _ hk => hk.2) (.int .i64 t354)) (fun _ h_ => h_.1)))) hb); replace HO_336002 := ak (Kd.R_below (rD ((Kd.R_mono (Kd.R_far (p := ⟨gb356, 1, none⟩) (Kd.R_far (p := ⟨gb356, 0, none⟩) (Kd.R_types HO_336002.out BK356.out (by decide)) (fun _ hk => hk.2) (.int .i64 t353)) (fun _ hk => hk.2) (.int .i64 t354)) (fun _ h_ => h_.1)))) hb); replace BK300 := ak (blk_below (g := gb300) (o := .cells #[.int .i64 a0_0, .slice A0_1 l0_1.length c0_1, .slice A0_2 l0_2.length c0_2] 24 (0, 0)) (bF BK300) hb); replace BK301 := ak (blk_below (g := gb301) (o := .cells #[.int .i64 a1_0, .int .i64 a1_1] 26 (0, 0)) (bF BK301) hb); replace BK317 := ak (blk_below (g := gb317) (o := .cells #[.int .i64 t309, .slice Ao18 t310.length co18, .slice Ao19 t313.length co19] 30 (0, 0)) (bF BK317) hb); replace BK335 := ak (blk_below (g := gb335) (o := .cells #[.int .i64 t327, .slice Ao45 t328.length co45, .slice Ao46 t331.length co46] 30 (0, 0)) (bF BK335) hb); replace BK347 := ak (blk_below (g := gb347) (o := .cells #[.int .i64 t344, .int .i64 t345] 26 (0, 0)) (bF BK347) hb); replace BK356 := ak (blk_below (g := gb356) (o := .cells #[.int .i64 t353, .int .i64 t354] 26 (0, 0)) (by (with_reducible repeat (first | refine blk_drewN ?_ _ | refine blk_drew ?_ | refine blk_alloc ?_ _)); refine blk_put (cs := #[.int .i64 t353, .int .i64 0]) ?_ 1 _ rfl; (with_reducible repeat (first | refine blk_drewN ?_ _ | refine blk_drew ?_ | refine blk_alloc ?_ _)); refine blk_put (cs := #[.int .i64 0, .int .i64 0]) ?_ 0 _ rfl; (with_reducible repeat (first | refine blk_drewN ?_ _ | refine blk_drew ?_ | refine blk_alloc ?_ _)); exact BK356.out) hb); replace HB := kH _ hb; (try clear hb); (try clear hb2); (try clear hk); (try clear hi)))
          go_ret
          exact ⟨by first | rfl | (simp [errW_none, errW_some] <;> rfl) | (simp [*, errW_none, errW_some] <;> rfl), hbC _⟩
         rw [if_neg c105] at H
         have c105b0 : (t344 == t353 && (t345 == t354)) = false := by simpa using c105
         (try (have c105b1 : decide (t344 = t353 && (t345 == t354)) = false := by simpa using c105))
         (try (have c105b2 : (t344 == t353 && (t345 == t354)) = false := by simpa using c105))
         (try (have c105b3 : ¬ (t344 = t353 && (t345 == t354)) := by simpa using c105))
         clear c105
         by_cases c126 : x11_4 > a0_0
         rotate_left
         ·rw [if_neg c126] at H
          have c126b0 : decide (a0_0 < x11_4) = false := decide_eq_false c126
          clear c126
          exact absurd (H.trans (congrArg some HRT.out)) (by simp)
         rw [if_pos c126] at H
         have c126b0 : decide (a0_0 < x11_4) = true := decide_eq_true c126
         clear c126
         replace H := Option.bind_eq_some_iff.mp H
         obtain ⟨t358, A1270, H⟩ := H
         replace H : (some t358) = some r := H
         have A127 := Aside0.mk A1270
         clear A1270
         obtain rfl := Option.some.inj H
         try go_wp2
         replace HO_318001 := ak (Kd.R_drew HO_318001.out)
         replace HO_318002 := ak (Kd.R_drew HO_318002.out)
         replace HO_336001 := ak (Kd.R_drew HO_336001.out)
         replace HO_336002 := ak (Kd.R_drew HO_336002.out)
         replace BK300 := kd BK300
         replace BK301 := kd BK301
         replace BK317 := kd BK317
         replace BK335 := kd BK335
         replace BK347 := kd BK347
         replace HB := ak (below_drew1 HB.out)
         refine sS (n := 17) (S := fun w' => w'.cell? ⟨gb317, 0, none⟩ = some (.int .i64 t309) ∧ w'.cell? ⟨gb317, 1, none⟩ = some (.slice Ao18 t310.length co18) ∧ w'.cell? ⟨gb317, 2, none⟩ = some (.slice Ao19 t313.length co19) ∧ w'.cell? ⟨gb301, 0, none⟩ = some (.int .i64 a1_0) ∧ w'.cell? ⟨gb301, 1, none⟩ = some (.int .i64 a1_1)) (ds := []) ⟨bc BK317 0, bc BK317 1, bc BK317 2, bc BK301 0, bc BK301 1⟩ (fun hHeld => ?_); refine with_tabW congoulaw04_CurvesMirrored.tab17 congoulaw04_CurvesMirrored.bits17 (fun HT_ HW_ => ?_)
         generalize wr.drew = w128 at HO_318001 HO_318002 HO_336001 HO_336002 BK300 BK301 BK317 BK335 BK347 HB hHeld ⊢
         refine pS 1 89 17 2 ?_
         refine pS 4 92 17 18 ?_
         refine pS 7 95 17 146 ?_
         refine tS 0 88 17 147 ?_
         refine tS 2 90 17 151 ?_
         refine pS 3 91 17 159 ?_
         refine tS 5 93 17 191 ?_
         refine pS 6 94 17 255 ?_
         refine tS 8 96 17 511 ?_
         refine join_ (σ := Nat) 2 (ba 17 32767) (fun s_ => [(97, .agg #[.int .i64 t351, .int .i64 t352]), (98, .tuple #[.agg #[.int .i64 t353, .int .i64 t354], .int .i64 t355]), (14, .pointer (some ⟨s_, 0, none⟩)), (87, .tuple #[.agg #[.int .i64 t353, .int .i64 t354], .int .i64 t355]), (99, .agg #[.int .i64 t353, .int .i64 t354]), (100, .int .i64 t355)]) (fun s_ w' => (w'.cell? ⟨gb317, 0, none⟩ = some (.int .i64 t309) ∧ w'.cell? ⟨gb317, 1, none⟩ = some (.slice Ao18 t310.length co18) ∧ w'.cell? ⟨gb317, 2, none⟩ = some (.slice Ao19 t313.length co19) ∧ w'.cell? ⟨gb301, 0, none⟩ = some (.int .i64 a1_0) ∧ w'.cell? ⟨gb301, 1, none⟩ = some (.int .i64 a1_1)) ∧ (Kd.R (Kd.int .i64) 3 w' w.heap.size (fun k_ => nb k_ (.slice Ao19 t313.length co19) ∧ nb k_ (.slice Ao45 t328.length co45) ∧ nb k_ (.slice Ao46 t331.length co46)) (.slice Ao18 t310.length co18) t310) ∧ (Kd.R (Kd.int .i64) 3 w' w.heap.size (fun k_ => nb k_ (.slice Ao18 t310.length co18) ∧ nb k_ (.slice Ao45 t328.length co45) ∧ nb k_ (.slice Ao46 t331.length co46)) (.slice Ao19 t313.length co19) t313) ∧ (Kd.R (Kd.int .i64) 3 w' w.heap.size (fun k_ => nb k_ (.slice Ao18 t310.length co18) ∧ nb k_ (.slice Ao19 t313.length co19) ∧ nb k_ (.slice Ao46 t331.length co46)) (.slice Ao45 t328.length co45) t328) ∧ (Kd.R (Kd.int .i64) 3 w' w.heap.size (fun k_ => nb k_ (.slice Ao18 t310.length co18) ∧ nb k_ (.slice Ao19 t313.length co19) ∧ nb k_ (.slice Ao45 t328.length co45)) (.slice Ao46 t331.length co46) t331) ∧ (w'.heap[gb300]? = some (.cells #[.int .i64 a0_0, .slice A0_1 l0_1.length c0_1, .slice A0_2 l0_2.length c0_2] 24 (0, 0))) ∧ (w'.heap[gb301]? = some (.cells #[.int .i64 a1_0, .int .i64 a1_1] 26 (0, 0))) ∧ (w'.heap[gb317]? = some (.cells #[.int .i64 t309, .slice Ao18 t310.length co18, .slice Ao19 t313.length co19] 30 (0, 0))) ∧ (w'.heap[gb335]? = some (.cells #[.int .i64 t327, .slice Ao45 t328.length co45, .slice Ao46 t331.length co46] 30 (0, 0))) ∧ (w'.heap[gb347]? = some (.cells #[.int .i64 t344, .int .i64 t345] 26 (0, 0))) ∧ (w'.heap[s_]? = some (.cells #[.int .i64 0, .int .i64 0] 26 (0, 0))) ∧ (w.heap.size ≤ s_) ∧ (w.heap.size ≤ s_) ∧ (gb300 ≠ s_) ∧ (s_ ≠ gb300) ∧ (gb301 ≠ s_) ∧ (s_ ≠ gb301) ∧ (gb317 ≠ s_) ∧ (s_ ≠ gb317) ∧ (gb335 ≠ s_) ∧ (s_ ≠ gb335) ∧ (gb347 ≠ s_) ∧ (s_ ≠ gb347) ∧ (Below w.heap.size w w')) ?_ ?_
         rotate_left
         ·intro hCont
          refine two_ (i := 9) (j := 14) (Ni := some 97) (Nj := some 14) (ba 17 1023) (ba 17 16895) rfl rfl rfl rfl (two_of HT_.out (by kernel_rfl)) (by decide) (by decide) (fun K hK => ?_) (fun K hK => ?_)
          ·skip
           refine gC Try.func33 #[.int .i64 (wrap64 ((wrap64 (12 * a1_1)) - a1_0)), .int .i64 a1_1] ?_
           with_reducible refine (congouref04_Frac.calls k4 (wrap64 ((wrap64 (12 * a1_1)) - a1_0)) a1_1 t351 t352 _ A102.out).mono ?_
           rintro e w129 ⟨rfl, hb⟩
           refine ⟨_, rfl, ?_⟩
           replace HO_318001 := kO HO_318001 hb
           replace HO_318002 := kO HO_318002 hb
           replace HO_336001 := kO HO_336001 hb
           replace HO_336002 := kO HO_336002 hb
           replace BK300 := kB BK300 hb
           replace BK301 := kB BK301 hb
           replace BK317 := kB BK317 hb
           replace BK335 := kB BK335 hb
           replace BK347 := kB BK347 hb
           replace HB := kH _ hb
           (try clear hb)
           (try clear hb2)
           (try clear hk)
           (try clear hi)
           refine hK.out _ _ ⟨bc BK317 0, bc BK317 1, bc BK317 2, bc BK301 0, bc BK301 1⟩ (fun hHeld => ?_)
           clear hK K
           refine norm_ (a' := ?_) ?_ ?_
           rotate_left
           ·show Act.put _ (some 97) _ = _
            simp only [Act.put, List.setIfInBounds_toArray, List.set_cons_zero, List.set_cons_succ, i64_w, i32_w]
            rfl
           refine two_ (i := 10) (j := 14) (Ni := some 98) (Nj := some 14) (ba 17 2047) (ba 17 17407) rfl rfl rfl rfl (two_of HT_.out (by kernel_rfl)) (by decide) (by decide) (fun K hK => ?_) (fun K hK => ?_)
           ·skip
            refine gC Try.func14 #[.agg #[.int .i64 t309, .slice Ao18 t310.length co18, .slice Ao19 t313.length co19], .agg #[.int .i64 t351, .int .i64 t352]] ?_
            with_reducible refine (curves_Value.calls k4 t309 _ _ t310 _ _ t313 t351 t352 t353 t354 t355 _ ?side1 ?side2 ?side3 ?side4 A103.out).mono ?_
            (case side1 => exact kD (Kd.R_reads' HO_318001.out).2.2)
            (case side2 => exact (Kd.R_reads' HO_318001.out).2.1)
            (case side3 => exact kD (Kd.R_reads' HO_318002.out).2.2)
            (case side4 => exact (Kd.R_reads' HO_318002.out).2.1)
            rintro e w130 ⟨rfl, hb⟩
            refine ⟨_, rfl, ?_⟩
            replace HO_318001 := kO HO_318001 hb
            replace HO_318002 := kO HO_318002 hb
            replace HO_336001 := kO HO_336001 hb
            replace HO_336002 := kO HO_336002 hb
            replace BK300 := kB BK300 hb
            replace BK301 := kB BK301 hb
            replace BK317 := kB BK317 hb
            replace BK335 := kB BK335 hb
            replace BK347 := kB BK347 hb
            replace HB := kH _ hb
            (try clear hb)
            (try clear hb2)
            (try clear hk)
            (try clear hi)
            refine hK.out _ _ ⟨bc BK317 0, bc BK317 1, bc BK317 2, bc BK301 0, bc BK301 1⟩ (fun hHeld => ?_)
            clear hK K
            refine norm_ (a' := ?_) ?_ ?_
            rotate_left
            ·show Act.put _ (some 98) _ = _
             simp only [Act.put, List.setIfInBounds_toArray, List.set_cons_zero, List.set_cons_succ, i64_w, i32_w]
             rfl
            refine pS 11 87 17 4095 ?_
            refine pS 12 99 17 8191 ?_
            refine pS 13 100 17 16383 ?_
            refine one_ (i := 14) (N := some 14) (ba 17 32767) rfl rfl (one_of HT_.out (by kernel_rfl)) (by decide) (fun K hK => ?_)
            refine box_step ?hg (N := 14) ?hd (cs := #[.int .i64 0, .int .i64 0]) (t := 26) ?hr ?_; (case hd => rfl); (case hg => rfl); (case hr => first | (go_simp; done) | (go_simp; rfl))
            intro gb356 hg w131 hbox hb
            replace HO_318001 := kO HO_318001 hb
            replace HO_318002 := kO HO_318002 hb
            replace HO_336001 := kO HO_336001 hb
            replace HO_336002 := kO HO_336002 hb
            have BK356 := ak (hbox)
            have GW356 := kG w hg
            have GE356 := kG w hg
            replace HB := kH _ hb
            have NB300_356 := kL BK300 hg
            have NB356_300 := kR BK300 hg
            replace BK300 := kB BK300 hb
            have NB301_356 := kL BK301 hg
            have NB356_301 := kR BK301 hg
            replace BK301 := kB BK301 hb
            have NB317_356 := kL BK317 hg
            have NB356_317 := kR BK317 hg
            replace BK317 := kB BK317 hb
            have NB335_356 := kL BK335 hg
            have NB356_335 := kR BK335 hg
            replace BK335 := kB BK335 hb
            have NB347_356 := kL BK347 hg
            have NB356_347 := kR BK347 hg
            replace BK347 := kB BK347 hb
            clear hb hbox hg
            refine hK.out _ _ ⟨bc BK317 0, bc BK317 1, bc BK317 2, bc BK301 0, bc BK301 1⟩ (fun hHeld => ?_)
            clear hK K
            refine norm_ (a' := ?_) ?_ ?_
            rotate_left
            ·show Act.put _ (some 14) _ = _
             simp only [Act.put, List.setIfInBounds_toArray, List.set_cons_zero, List.set_cons_succ, i64_w, i32_w]
             rfl
            exact norm_ (by simp only [putAll, Act.put, List.setIfInBounds_toArray, List.set_cons_zero, List.set_cons_succ]) (hCont (gb356) _ ⟨hHeld, (rC HO_318001), (rC HO_318002), (rC HO_336001), (rC HO_336002), (bkC BK300), (bkC BK301), (bkC BK317), (bkC BK335), (bkC BK347), (bkC BK356), GW356.out, GE356.out, NB300_356.out, NB356_300.out, NB301_356.out, NB356_301.out, NB317_356.out, NB356_317.out, NB335_356.out, NB356_335.out, NB347_356.out, NB356_347.out, (hbC _)⟩)
           ·skip
            refine box_step ?hg (N := 14) ?hd (cs := #[.int .i64 0, .int .i64 0]) (t := 26) ?hr ?_; (case hd => rfl); (case hg => rfl); (case hr => first | (go_simp; done) | (go_simp; rfl))
            intro gb356 hg w130 hbox hb
            replace HO_318001 := kO HO_318001 hb
            replace HO_318002 := kO HO_318002 hb
            replace HO_336001 := kO HO_336001 hb
            replace HO_336002 := kO HO_336002 hb
            have BK356 := ak (hbox)
            have GW356 := kG w hg
            have GE356 := kG w hg
            replace HB := kH _ hb
            have NB300_356 := kL BK300 hg
            have NB356_300 := kR BK300 hg
            replace BK300 := kB BK300 hb
            have NB301_356 := kL BK301 hg
            have NB356_301 := kR BK301 hg
            replace BK301 := kB BK301 hb
            have NB317_356 := kL BK317 hg
            have NB356_317 := kR BK317 hg
            replace BK317 := kB BK317 hb
            have NB335_356 := kL BK335 hg
            have NB356_335 := kR BK335 hg
            replace BK335 := kB BK335 hb
            have NB347_356 := kL BK347 hg
            have NB356_347 := kR BK347 hg
            replace BK347 := kB BK347 hb
            clear hb hbox hg
            refine hK.out _ _ ⟨bc BK317 0, bc BK317 1, bc BK317 2, bc BK301 0, bc BK301 1⟩ (fun hHeld => ?_)
            clear hK K
            refine norm_ (a' := ?_) ?_ ?_
            rotate_left
            ·show Act.put _ (some 14) _ = _
             simp only [Act.put, List.setIfInBounds_toArray, List.set_cons_zero, List.set_cons_succ, i64_w, i32_w]
             rfl
            refine one_ (i := 10) (N := some 98) (ba 17 18431) rfl rfl (one_of HT_.out (by kernel_rfl)) (by decide) (fun K hK => ?_)
            refine gC Try.func14 #[.agg #[.int .i64 t309, .slice Ao18 t310.length co18, .slice Ao19 t313.length co19], .agg #[.int .i64 t351, .int .i64 t352]] ?_
            with_reducible refine (curves_Value.calls k4 t309 _ _ t310 _ _ t313 t351 t352 t353 t354 t355 _ ?side1 ?side2 ?side3 ?side4 A103.out).mono ?_
            (case side1 => exact kD (Kd.R_reads' HO_318001.out).2.2)
            (case side2 => exact (Kd.R_reads' HO_318001.out).2.1)
            (case side3 => exact kD (Kd.R_reads' HO_318002.out).2.2)
            (case side4 => exact (Kd.R_reads' HO_318002.out).2.1)
            rintro e w131 ⟨rfl, hb⟩
            refine ⟨_, rfl, ?_⟩
            replace HO_318001 := kO HO_318001 hb
            replace HO_318002 := kO HO_318002 hb
            replace HO_336001 := kO HO_336001 hb
            replace HO_336002 := kO HO_336002 hb
            replace BK300 := kB BK300 hb
            replace BK301 := kB BK301 hb
            replace BK317 := kB BK317 hb
            replace BK335 := kB BK335 hb
            replace BK347 := kB BK347 hb
            replace BK356 := kB BK356 hb
            replace HB := kH _ hb
            (try clear hb)
            (try clear hb2)
            (try clear hk)
            (try clear hi)
            refine hK.out _ _ ⟨bc BK317 0, bc BK317 1, bc BK317 2, bc BK301 0, bc BK301 1⟩ (fun hHeld => ?_)
            clear hK K
            refine norm_ (a' := ?_) ?_ ?_
            rotate_left
            ·show Act.put _ (some 98) _ = _
             simp only [Act.put, List.setIfInBounds_toArray, List.set_cons_zero, List.set_cons_succ, i64_w, i32_w]
             rfl
            refine pS 11 87 17 20479 ?_
            refine pS 12 99 17 24575 ?_
            refine pS 13 100 17 32767 ?_
            exact norm_ (by simp only [putAll, Act.put, List.setIfInBounds_toArray, List.set_cons_zero, List.set_cons_succ]) (hCont (gb356) _ ⟨hHeld, (rC HO_318001), (rC HO_318002), (rC HO_336001), (rC HO_336002), (bkC BK300), (bkC BK301), (bkC BK317), (bkC BK335), (bkC BK347), (bkC BK356), GW356.out, GE356.out, NB300_356.out, NB356_300.out, NB301_356.out, NB356_301.out, NB317_356.out, NB356_317.out, NB335_356.out, NB356_335.out, NB347_356.out, NB356_347.out, (hbC _)⟩)
          ·skip
           refine box_step ?hg (N := 14) ?hd (cs := #[.int .i64 0, .int .i64 0]) (t := 26) ?hr ?_; (case hd => rfl); (case hg => rfl); (case hr => first | (go_simp; done) | (go_simp; rfl))
           intro gb356 hg w129 hbox hb
           replace HO_318001 := kO HO_318001 hb
           replace HO_318002 := kO HO_318002 hb
           replace HO_336001 := kO HO_336001 hb
           replace HO_336002 := kO HO_336002 hb
           have BK356 := ak (hbox)
           have GW356 := kG w hg
           have GE356 := kG w hg
           replace HB := kH _ hb
           have NB300_356 := kL BK300 hg
           have NB356_300 := kR BK300 hg
           replace BK300 := kB BK300 hb
           have NB301_356 := kL BK301 hg
           have NB356_301 := kR BK301 hg
           replace BK301 := kB BK301 hb
           have NB317_356 := kL BK317 hg
           have NB356_317 := kR BK317 hg
           replace BK317 := kB BK317 hb
           have NB335_356 := kL BK335 hg
           have NB356_335 := kR BK335 hg
           replace BK335 := kB BK335 hb
           have NB347_356 := kL BK347 hg
           have NB356_347 := kR BK347 hg
           replace BK347 := kB BK347 hb
           clear hb hbox hg
           refine hK.out _ _ ⟨bc BK317 0, bc BK317 1, bc BK317 2, bc BK301 0, bc BK301 1⟩ (fun hHeld => ?_)
           clear hK K
           refine norm_ (a' := ?_) ?_ ?_
           rotate_left
           ·show Act.put _ (some 14) _ = _
            simp only [Act.put, List.setIfInBounds_toArray, List.set_cons_zero, List.set_cons_succ, i64_w, i32_w]
            rfl
           refine one_ (i := 9) (N := some 97) (ba 17 17407) rfl rfl (one_of HT_.out (by kernel_rfl)) (by decide) (fun K hK => ?_)
           refine gC Try.func33 #[.int .i64 (wrap64 ((wrap64 (12 * a1_1)) - a1_0)), .int .i64 a1_1] ?_
           with_reducible refine (congouref04_Frac.calls k4 (wrap64 ((wrap64 (12 * a1_1)) - a1_0)) a1_1 t351 t352 _ A102.out).mono ?_
           rintro e w130 ⟨rfl, hb⟩
           refine ⟨_, rfl, ?_⟩
           replace HO_318001 := kO HO_318001 hb
           replace HO_318002 := kO HO_318002 hb
           replace HO_336001 := kO HO_336001 hb
           replace HO_336002 := kO HO_336002 hb
           replace BK300 := kB BK300 hb
           replace BK301 := kB BK301 hb
           replace BK317 := kB BK317 hb
           replace BK335 := kB BK335 hb
           replace BK347 := kB BK347 hb
           replace BK356 := kB BK356 hb
           replace HB := kH _ hb
           (try clear hb)
           (try clear hb2)
           (try clear hk)
           (try clear hi)
           refine hK.out _ _ ⟨bc BK317 0, bc BK317 1, bc BK317 2, bc BK301 0, bc BK301 1⟩ (fun hHeld => ?_)
           clear hK K
           refine norm_ (a' := ?_) ?_ ?_
           rotate_left
           ·show Act.put _ (some 97) _ = _
            simp only [Act.put, List.setIfInBounds_toArray, List.set_cons_zero, List.set_cons_succ, i64_w, i32_w]
            rfl
           refine one_ (i := 10) (N := some 98) (ba 17 18431) rfl rfl (one_of HT_.out (by kernel_rfl)) (by decide) (fun K hK => ?_)
           refine gC Try.func14 #[.agg #[.int .i64 t309, .slice Ao18 t310.length co18, .slice Ao19 t313.length co19], .agg #[.int .i64 t351, .int .i64 t352]] ?_
           with_reducible refine (curves_Value.calls k4 t309 _ _ t310 _ _ t313 t351 t352 t353 t354 t355 _ ?side1 ?side2 ?side3 ?side4 A103.out).mono ?_
           (case side1 => exact kD (Kd.R_reads' HO_318001.out).2.2)
           (case side2 => exact (Kd.R_reads' HO_318001.out).2.1)
           (case side3 => exact kD (Kd.R_reads' HO_318002.out).2.2)
           (case side4 => exact (Kd.R_reads' HO_318002.out).2.1)
           rintro e w131 ⟨rfl, hb⟩
           refine ⟨_, rfl, ?_⟩
           replace HO_318001 := kO HO_318001 hb
           replace HO_318002 := kO HO_318002 hb
           replace HO_336001 := kO HO_336001 hb
           replace HO_336002 := kO HO_336002 hb
           replace BK300 := kB BK300 hb
           replace BK301 := kB BK301 hb
           replace BK317 := kB BK317 hb
           replace BK335 := kB BK335 hb
           replace BK347 := kB BK347 hb
           replace BK356 := kB BK356 hb
           replace HB := kH _ hb
           (try clear hb)
           (try clear hb2)
           (try clear hk)
           (try clear hi)
           refine hK.out _ _ ⟨bc BK317 0, bc BK317 1, bc BK317 2, bc BK301 0, bc BK301 1⟩ (fun hHeld => ?_)
           clear hK K
           refine norm_ (a' := ?_) ?_ ?_
           rotate_left
           ·show Act.put _ (some 98) _ = _
            simp only [Act.put, List.setIfInBounds_toArray, List.set_cons_zero, List.set_cons_succ, i64_w, i32_w]
            rfl
           refine pS 11 87 17 20479 ?_
           refine pS 12 99 17 24575 ?_
           refine pS 13 100 17 32767 ?_
           exact norm_ (by simp only [putAll, Act.put, List.setIfInBounds_toArray, List.set_cons_zero, List.set_cons_succ]) (hCont (gb356) _ ⟨hHeld, (rC HO_318001), (rC HO_318002), (rC HO_336001), (rC HO_336002), (bkC BK300), (bkC BK301), (bkC BK317), (bkC BK335), (bkC BK347), (bkC BK356), GW356.out, GE356.out, NB300_356.out, NB356_300.out, NB301_356.out, NB356_301.out, NB317_356.out, NB356_317.out, NB335_356.out, NB356_335.out, NB347_356.out, NB356_347.out, (hbC _)⟩)
         rintro gb356 w132 ⟨hS_, h0_, h1_, h2_, h3_, h4_, h5_, h6_, h7_, h8_, h9_, h10_, h11_, h12_, h13_, h14_, h15_, h16_, h17_, h18_, h19_, h20_, h21_, h22_⟩
         have n0_ : Aside0 (Kd.R (Kd.int .i64) 3 w132 w.heap.size (fun k_ => nb k_ (.slice Ao19 t313.length co19) ∧ nb k_ (.slice Ao45 t328.length co45) ∧ nb k_ (.slice Ao46 t331.length co46)) (.slice Ao18 t310.length co18) t310) := ⟨h0_⟩
         have n1_ : Aside0 (Kd.R (Kd.int .i64) 3 w132 w.heap.size (fun k_ => nb k_ (.slice Ao18 t310.length co18) ∧ nb k_ (.slice Ao45 t328.length co45) ∧ nb k_ (.slice Ao46 t331.length co46)) (.slice Ao19 t313.length co19) t313) := ⟨h1_⟩
         have n2_ : Aside0 (Kd.R (Kd.int .i64) 3 w132 w.heap.size (fun k_ => nb k_ (.slice Ao18 t310.length co18) ∧ nb k_ (.slice Ao19 t313.length co19) ∧ nb k_ (.slice Ao46 t331.length co46)) (.slice Ao45 t328.length co45) t328) := ⟨h2_⟩
         have n3_ : Aside0 (Kd.R (Kd.int .i64) 3 w132 w.heap.size (fun k_ => nb k_ (.slice Ao18 t310.length co18) ∧ nb k_ (.slice Ao19 t313.length co19) ∧ nb k_ (.slice Ao45 t328.length co45)) (.slice Ao46 t331.length co46) t331) := ⟨h3_⟩
         have n4_ : Aside0 (w132.heap[gb300]? = some (.cells #[.int .i64 a0_0, .slice A0_1 l0_1.length c0_1, .slice A0_2 l0_2.length c0_2] 24 (0, 0))) := ⟨h4_⟩
         have n5_ : Aside0 (w132.heap[gb301]? = some (.cells #[.int .i64 a1_0, .int .i64 a1_1] 26 (0, 0))) := ⟨h5_⟩
         have n6_ : Aside0 (w132.heap[gb317]? = some (.cells #[.int .i64 t309, .slice Ao18 t310.length co18, .slice Ao19 t313.length co19] 30 (0, 0))) := ⟨h6_⟩
         have n7_ : Aside0 (w132.heap[gb335]? = some (.cells #[.int .i64 t327, .slice Ao45 t328.length co45, .slice Ao46 t331.length co46] 30 (0, 0))) := ⟨h7_⟩
         have n8_ : Aside0 (w132.heap[gb347]? = some (.cells #[.int .i64 t344, .int .i64 t345] 26 (0, 0))) := ⟨h8_⟩
         have n9_ : Aside0 (w132.heap[gb356]? = some (.cells #[.int .i64 0, .int .i64 0] 26 (0, 0))) := ⟨h9_⟩
         have n10_ : Aside0 (w.heap.size ≤ gb356) := ⟨h10_⟩
         have n11_ : Aside0 (w.heap.size ≤ gb356) := ⟨h11_⟩
         have n12_ : Aside0 (gb300 ≠ gb356) := ⟨h12_⟩
         have n13_ : Aside0 (gb356 ≠ gb300) := ⟨h13_⟩
         have n14_ : Aside0 (gb301 ≠ gb356) := ⟨h14_⟩
         have n15_ : Aside0 (gb356 ≠ gb301) := ⟨h15_⟩
         have n16_ : Aside0 (gb317 ≠ gb356) := ⟨h16_⟩
         have n17_ : Aside0 (gb356 ≠ gb317) := ⟨h17_⟩
         have n18_ : Aside0 (gb335 ≠ gb356) := ⟨h18_⟩
         have n19_ : Aside0 (gb356 ≠ gb335) := ⟨h19_⟩
         have n20_ : Aside0 (gb347 ≠ gb356) := ⟨h20_⟩
         have n21_ : Aside0 (gb356 ≠ gb347) := ⟨h21_⟩
         have n22_ : Aside0 (Below w.heap.size w w132) := ⟨h22_⟩
         clear HO_318001
         clear HO_318002
         clear HO_336001
         clear HO_336002
         clear BK300
         clear BK301
         clear BK317
         clear BK335
         clear BK347
         clear HB
         clear h0_ h1_ h2_ h3_ h4_ h5_ h6_ h7_ h8_ h9_ h10_ h11_ h12_ h13_ h14_ h15_ h16_ h17_ h18_ h19_ h20_ h21_ h22_
         have HO_318001 := n0_
         have HO_318002 := n1_
         have HO_336001 := n2_
         have HO_336002 := n3_
         have BK300 := n4_
         have BK301 := n5_
         have BK317 := n6_
         have BK335 := n7_
         have BK347 := n8_
         have BK356 := n9_
         have GW356 := n10_
         have GE356 := n11_
         have NB300_356 := n12_
         have NB356_300 := n13_
         have NB301_356 := n14_
         have NB356_301 := n15_
         have NB317_356 := n16_
         have NB356_317 := n17_
         have NB335_356 := n18_
         have NB356_335 := n19_
         have NB347_356 := n20_
         have NB356_347 := n21_
         have HB := n22_
         clear n0_ n1_ n2_ n3_ n4_ n5_ n6_ n7_ n8_ n9_ n10_ n11_ n12_ n13_ n14_ n15_ n16_ n17_ n18_ n19_ n20_ n21_ n22_
         have hHeld : w132.cell? ⟨gb317, 0, none⟩ = some (.int .i64 t309) ∧ w132.cell? ⟨gb317, 1, none⟩ = some (.slice Ao18 t310.length co18) ∧ w132.cell? ⟨gb317, 2, none⟩ = some (.slice Ao19 t313.length co19) ∧ w132.cell? ⟨gb301, 0, none⟩ = some (.int .i64 a1_0) ∧ w132.cell? ⟨gb301, 1, none⟩ = some (.int .i64 a1_1) := hS_
         refine norm_ (a' := ?_) ?_ ?_
         rotate_left
         ·simp only [putAll, Act.put, List.setIfInBounds_toArray, List.set_cons_zero, List.set_cons_succ]
          rfl
         refine one_ (i := 15) (N := none) (ba 17 65535) rfl rfl (one_of HT_.out (by kernel_rfl)) (by decide) (fun K hK => ?_)
         have hs133 : w132.cell? ⟨gb356, 0, none⟩ = some (.int .i64 0) := bc BK356 0
         have hfs133 := fz BK356 0
         have hns133_0 := NB300_356.out
         have hns133_1 := NB301_356.out
         have hns133_2 := NB317_356.out
         have hns133_3 := NB335_356.out
         have hns133_4 := NB347_356.out
         have hms133_0 := NB356_300.out
         have hms133_1 := NB356_301.out
         have hms133_2 := NB356_317.out
         have hms133_3 := NB356_335.out
         have hms133_4 := NB356_347.out
         have hs134 : w132.cell? ⟨gb356, 1, none⟩ = some (.int .i64 0) := bc BK356 1
         have hfs134 := fz BK356 1
         have hns134_0 := NB300_356.out
         have hns134_1 := NB301_356.out
         have hns134_2 := NB317_356.out
         have hns134_3 := NB335_356.out
         have hns134_4 := NB347_356.out
         have hms134_0 := NB356_300.out
         have hms134_1 := NB356_301.out
         have hms134_2 := NB356_317.out
         have hms134_3 := NB356_335.out
         have hms134_4 := NB356_347.out
         refine skip_ (w1 := ?_) (by rfl) rfl ?_ ?_
         rotate_left
         ·go_simp
          rfl
         refine hK.out _ _ ⟨((cell_far (p := ⟨gb356, _, none⟩) NB317_356.out _).trans (((cell_far (p := ⟨gb356, _, none⟩) NB317_356.out _).trans (hHeld.1)))), ((cell_far (p := ⟨gb356, _, none⟩) NB317_356.out _).trans (((cell_far (p := ⟨gb356, _, none⟩) NB317_356.out _).trans (hHeld.2.1)))), ((cell_far (p := ⟨gb356, _, none⟩) NB317_356.out _).trans (((cell_far (p := ⟨gb356, _, none⟩) NB317_356.out _).trans (hHeld.2.2.1)))), ((cell_far (p := ⟨gb356, _, none⟩) NB301_356.out _).trans (((cell_far (p := ⟨gb356, _, none⟩) NB301_356.out _).trans (hHeld.2.2.2.1)))), ((cell_far (p := ⟨gb356, _, none⟩) NB301_356.out _).trans (((cell_far (p := ⟨gb356, _, none⟩) NB301_356.out _).trans (hHeld.2.2.2.2))))⟩ (fun hHeld => ?_)
         clear hK K
         refine pS 16 15 17 131071 ?_
         refine done_ (done_of HT_.out (by kernel_rfl)) ?_
         have hnb135 := NB347_300.out
         have hnc135 := NB300_347.out
         have hnb136 := NB347_301.out
         have hnc136 := NB301_347.out
         have hnb137 := NB347_317.out
         have hnc137 := NB317_347.out
         have hnb138 := NB347_335.out
         have hnc138 := NB335_347.out
         have hnb139 := NB347_356.out
         have hnc139 := NB356_347.out
         have hcz140_0 : w132.cell? ⟨gb347, 0, none⟩ = some (.int .i64 t344) := bc BK347 0
         have hcz140_1 : w132.cell? ⟨gb347, 1, none⟩ = some (.int .i64 t345) := bc BK347 1
         have hfz140_0 := fz BK347 0
         have hfz140_1 := fz BK347 1
         have hnb141 := NB356_300.out
         have hnc141 := NB300_356.out
         have hnb142 := NB356_301.out
         have hnc142 := NB301_356.out
         have hnb143 := NB356_317.out
         have hnc143 := NB317_356.out
         have hnb144 := NB356_335.out
         have hnc144 := NB335_356.out
         have hcz145_0 : w132.cell? ⟨gb356, 0, none⟩ = some (.int .i64 0) := bc BK356 0
         have hcz145_1 : w132.cell? ⟨gb356, 1, none⟩ = some (.int .i64 0) := bc BK356 1
         have hfz145_0 := fz BK356 0
         have hfz145_1 := fz BK356 1
         have hnb146 := NB300_301.out
         have hnc146 := NB301_300.out
         have hnb147 := NB300_317.out
         have hnc147 := NB317_300.out
         have hnb148 := NB300_335.out
         have hnc148 := NB335_300.out
         have hcz149_0 : w132.cell? ⟨gb300, 0, none⟩ = some (.int .i64 a0_0) := bc BK300 0
         have hcz149_1 : w132.cell? ⟨gb300, 1, none⟩ = some (.slice A0_1 l0_1.length c0_1) := bc BK300 1
         have hcz149_2 : w132.cell? ⟨gb300, 2, none⟩ = some (.slice A0_2 l0_2.length c0_2) := bc BK300 2
         have hfz149_0 := fz BK300 0
         have hfz149_1 := fz BK300 1
         have hfz149_2 := fz BK300 2
         try go_wp2_with (first | (go_at_call 17; (with_reducible refine (congoulaw04_awake.calls k4  t358 _ A127.out).mono ?_); rintro e w150 ⟨rfl, hb⟩; replace HO_318001 := ak (Kd.R_below (rD ((Kd.R_mono (Kd.R_far (p := ⟨gb356, 1, none⟩) (Kd.R_far (p := ⟨gb356, 0, none⟩) (Kd.R_types HO_318001.out BK356.out (by decide)) (fun _ hk => hk.2) (.int .i64 t353)) (fun _ hk => hk.2) (.int .i64 t354)) (fun _ h_ => h_.1)))) hb); replace HO_318002 := ak (Kd.R_below (rD ((Kd.R_mono (Kd.R_far (p := ⟨gb356, 1, none⟩) (Kd.R_far (p := ⟨gb356, 0, none⟩) (Kd.R_types HO_318002.out BK356.out (by decide)) (fun _ hk => hk.2) (.int .i64 t353)) (fun _ hk => hk.2) (.int .i64 t354)) (fun _ h_ => h_.1)))) hb); replace HO_336001 := ak (Kd.R_below (rD ((Kd.R_mono (Kd.R_far (p := ⟨gb356, 1, none⟩) (Kd.R_far (p := ⟨gb356, 0, none⟩) (Kd.R_types HO_336001.out BK356.out (by decide)) (fun _ hk => hk.2) (.int .i64 t353)) (fun _ hk => hk.2) (.int .i64 t354)) (fun _ h_ => h_.1)))) hb); replace HO_336002 := ak (Kd.R_below (rD ((Kd.R_mono (Kd.R_far (p := ⟨gb356, 1, none⟩) (Kd.R_far (p := ⟨gb356, 0, none⟩) (Kd.R_types HO_336002.out BK356.out (by decide)) (fun _ hk => hk.2) (.int .i64 t353)) (fun _ hk => hk.2) (.int .i64 t354)) (fun _ h_ => h_.1)))) hb); replace BK300 := ak (blk_below (g := gb300) (o := .cells #[.int .i64 a0_0, .slice A0_1 l0_1.length c0_1, .slice A0_2 l0_2.length c0_2] 24 (0, 0)) (bF BK300) hb); replace BK301 := ak (blk_below (g := gb301) (o := .cells #[.int .i64 a1_0, .int .i64 a1_1] 26 (0, 0)) (bF BK301) hb); replace BK317 := ak (blk_below (g := gb317) (o := .cells #[.int .i64 t309, .slice Ao18 t310.length co18, .slice Ao19 t313.length co19] 30 (0, 0)) (bF BK317) hb); replace BK335 := ak (blk_below (g := gb335) (o := .cells #[.int .i64 t327, .slice Ao45 t328.length co45, .slice Ao46 t331.length co46] 30 (0, 0)) (bF BK335) hb); replace BK347 := ak (blk_below (g := gb347) (o := .cells #[.int .i64 t344, .int .i64 t345] 26 (0, 0)) (bF BK347) hb); replace BK356 := ak (blk_below (g := gb356) (o := .cells #[.int .i64 t353, .int .i64 t354] 26 (0, 0)) (by (with_reducible repeat (first | refine blk_drewN ?_ _ | refine blk_drew ?_ | refine blk_alloc ?_ _)); refine blk_put (cs := #[.int .i64 t353, .int .i64 0]) ?_ 1 _ rfl; (with_reducible repeat (first | refine blk_drewN ?_ _ | refine blk_drew ?_ | refine blk_alloc ?_ _)); refine blk_put (cs := #[.int .i64 0, .int .i64 0]) ?_ 0 _ rfl; (with_reducible repeat (first | refine blk_drewN ?_ _ | refine blk_drew ?_ | refine blk_alloc ?_ _)); exact BK356.out) hb); replace HB := kH _ hb; (try clear hb); (try clear hb2); (try clear hk); (try clear hi)))
         go_ret
         exact ⟨by first | rfl | (simp [errW_none, errW_some] <;> rfl) | (simp [*, errW_none, errW_some] <;> rfl), hbC _⟩

end Go.Proofs.Ytpnocmkpeogifaa.X
