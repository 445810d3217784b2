-- Written by a program of this work (wip/xprint.py, over the kit's printer) out of the translation.
import Derived.Test.YtpnocmkpeogifaaDoorX0
import Derived.Test.YtpnocmkpeogifaaDoorXG1a
import Derived.Test.YtpnocmkpeogifaaDoorXG3a
namespace Go.Proofs.YtpnocmkpeogifaaDoor.X
open Go.RowKit Go.Proofs.YtpnocmkpeogifaaDoorW.PrintWords Go.Proofs.YtpnocmkpeogifaaDoorW.PrintLast Go.Proofs.YtpnocmkpeogifaaDoorW.PrintMore
attribute [local go_sem] max2_int min2_int max_two min_two max_three min_three max_four min_four   -- for this text's walks alone
set_option linter.unusedVariables false
set_option linter.unusedSimpArgs false

/-! ### curves_Curve_valid: function 23 -/
mutual
def curves_Curve_valid.j0 : Nat → Int → Int → Bool → Int → List Int → List Int → Option (Bool)
 | 0, _, _, _, _, _, _ => none
 | k + 1, x3, x4, x36, x129000, x129001, x129002 => if x36 = true then (some false) else ((slices_Min_int_int.f k x129002).bind fun t129 => (if t129 < (-50) then (curves_Curve_valid.j1 k x3 x4 true x129000 x129001 x129002) else ((slices_Max_int_int.f k x129002).bind fun t130 => (if t130 > 50 then (curves_Curve_valid.j1 k x3 x4 true x129000 x129001 x129002) else ((slices_IsSorted_int_int.f k x129001).bind fun t131 => (if t131 = true then (if 0 < (x129001.length : Int) then (if (rd x129001 0) < 0 then (curves_Curve_valid.j1 k x3 x4 true x129000 x129001 x129002) else (if 0 ≤ (wrap64 (x3 + x4)) then (if (wrap64 (x3 + x4)) < (x129001.length : Int) then (curves_Curve_valid.j1 k x3 x4 (decide ((rd x129001 (wrap64 (x3 + x4))) > 12)) x129000 x129001 x129002) else (none)) else (none))) else (none)) else (curves_Curve_valid.j1 k x3 x4 true x129000 x129001 x129002)))))))
def curves_Curve_valid.j1 : Nat → Int → Int → Bool → Int → List Int → List Int → Option (Bool)
 | 0, _, _, _, _, _, _ => none
 | k + 1, x3, x4, x69, x129000, x129001, x129002 => if x69 = true then (some false) else (curves_Curve_valid.l0 k x3 x4 x3 0 x129000 x129001 x129002)
def curves_Curve_valid.l0 : Nat → Int → Int → Int → Int → Int → List Int → List Int → Option (Bool)
 | 0, _, _, _, _, _, _, _ => none
 | k + 1, x3, x4, x70, x71, x129000, x129001, x129002 => if x71 < x70 then (if (wrap64 ((wrap64 (x71 + x4)) + 1)) < (x129001.length : Int) then (if 0 ≤ x71 then (if x71 < (x129001.length : Int) then (if 0 ≤ (wrap64 ((wrap64 (x71 + x4)) + 1)) then (if (rd x129001 x71) = (rd x129001 (wrap64 ((wrap64 (x71 + x4)) + 1))) then (some false) else (curves_Curve_valid.l0 k x3 x4 x70 (wrap64 (x71 + 1)) x129000 x129001 x129002)) else (none)) else (none)) else (none)) else (curves_Curve_valid.l0 k x3 x4 x70 (wrap64 (x71 + 1)) x129000 x129001 x129002)) else (if 0 ≤ x4 then (if x4 < (x129001.length : Int) then (if 0 ≤ x3 then (if x3 < (x129001.length : Int) then (some (decide ((rd x129001 x4) < (rd x129001 x3)))) else (none)) else (none)) else (none)) else (none))
end
def curves_Curve_valid.f (k : Nat) (a0_0 : Int) (l0_1 : List Int) (l0_2 : List Int) : Option (Bool) := if a0_0 < 0 then (curves_Curve_valid.j0 k (l0_2.length : Int) a0_0 true a0_0 l0_1 l0_2) else (if a0_0 > 3 then (curves_Curve_valid.j0 k (l0_2.length : Int) a0_0 true a0_0 l0_1 l0_2) else (if (l0_2.length : Int) < (wrap64 (a0_0 + 1)) then (curves_Curve_valid.j0 k (l0_2.length : Int) a0_0 true a0_0 l0_1 l0_2) else (if (l0_2.length : Int) > 8 then (curves_Curve_valid.j0 k (l0_2.length : Int) a0_0 true a0_0 l0_1 l0_2) else (curves_Curve_valid.j0 k (l0_2.length : Int) a0_0 ((l0_1.length : Int) != (wrap64 ((wrap64 ((l0_2.length : Int) + a0_0)) + 1))) a0_0 l0_1 l0_2))))
theorem curves_Curve_valid.mono_l : ∀ k, (∀ y0 y1 y2 y3 y4 y5, LeO (curves_Curve_valid.j0 k y0 y1 y2 y3 y4 y5) (curves_Curve_valid.j0 (k + 1) y0 y1 y2 y3 y4 y5)) ∧ (∀ y0 y1 y2 y3 y4 y5, LeO (curves_Curve_valid.j1 k y0 y1 y2 y3 y4 y5) (curves_Curve_valid.j1 (k + 1) y0 y1 y2 y3 y4 y5)) ∧ (∀ y0 y1 y2 y3 y4 y5 y6, LeO (curves_Curve_valid.l0 k y0 y1 y2 y3 y4 y5 y6) (curves_Curve_valid.l0 (k + 1) y0 y1 y2 y3 y4 y5 y6))
 | 0 => ⟨fun _ _ _ _ _ _ r h => by simp [curves_Curve_valid.j0] at h, fun _ _ _ _ _ _ r h => by simp [curves_Curve_valid.j1] at h, fun _ _ _ _ _ _ _ r h => by simp [curves_Curve_valid.l0] at h⟩
 | k + 1 => by
  obtain ⟨ih0, ih1, ih2⟩ := curves_Curve_valid.mono_l k
  refine ⟨?_, ?_, ?_⟩
  ·intro y0 y1 y2 y3 y4 y5
   unfold curves_Curve_valid.j0
   repeat' first
   | (with_reducible exact ih0 _ _ _ _ _ _)
   | (with_reducible exact ih1 _ _ _ _ _ _)
   | (with_reducible exact ih2 _ _ _ _ _ _ _)
   | (with_reducible exact slices_IsSorted_int_int.mono _ _)
   | (with_reducible exact slices_Max_int_int.mono _ _)
   | (with_reducible exact slices_Min_int_int.mono _ _)
   | (with_reducible exact LeO.refl _)
   | (with_reducible exact LeO.none _)
   | (with_reducible refine LeO.ite ?_ ?_)
   | (with_reducible refine LeO.bind ?_ (fun _ => ?_))
   | exact ih0 _ _ _ _ _ _
   | exact ih1 _ _ _ _ _ _
   | exact ih2 _ _ _ _ _ _ _
   | exact slices_IsSorted_int_int.mono _ _
   | exact slices_Max_int_int.mono _ _
   | exact slices_Min_int_int.mono _ _
   | exact LeO.none _
   | refine LeO.ite ?_ ?_
   | refine LeO.bind ?_ (fun _ => ?_)
  ·intro y0 y1 y2 y3 y4 y5
   unfold curves_Curve_valid.j1
   repeat' first
   | (with_reducible exact ih0 _ _ _ _ _ _)
   | (with_reducible exact ih1 _ _ _ _ _ _)
   | (with_reducible exact ih2 _ _ _ _ _ _ _)
   | (with_reducible exact slices_IsSorted_int_int.mono _ _)
   | (with_reducible exact slices_Max_int_int.mono _ _)
   | (with_reducible exact slices_Min_int_int.mono _ _)
   | (with_reducible exact LeO.refl _)
   | (with_reducible exact LeO.none _)
   | (with_reducible refine LeO.ite ?_ ?_)
   | (with_reducible refine LeO.bind ?_ (fun _ => ?_))
   | exact ih0 _ _ _ _ _ _
   | exact ih1 _ _ _ _ _ _
   | exact ih2 _ _ _ _ _ _ _
   | exact slices_IsSorted_int_int.mono _ _
   | exact slices_Max_int_int.mono _ _
   | exact slices_Min_int_int.mono _ _
   | exact LeO.none _
   | refine LeO.ite ?_ ?_
   | refine LeO.bind ?_ (fun _ => ?_)
  ·intro y0 y1 y2 y3 y4 y5 y6
   unfold curves_Curve_valid.l0
   repeat' first
   | (with_reducible exact ih0 _ _ _ _ _ _)
   | (with_reducible exact ih1 _ _ _ _ _ _)
   | (with_reducible exact ih2 _ _ _ _ _ _ _)
   | (with_reducible exact slices_IsSorted_int_int.mono _ _)
   | (with_reducible exact slices_Max_int_int.mono _ _)
   | (with_reducible exact slices_Min_int_int.mono _ _)
   | (with_reducible exact LeO.refl _)
   | (with_reducible exact LeO.none _)
   | (with_reducible refine LeO.ite ?_ ?_)
   | (with_reducible refine LeO.bind ?_ (fun _ => ?_))
   | exact ih0 _ _ _ _ _ _
   | exact ih1 _ _ _ _ _ _
   | exact ih2 _ _ _ _ _ _ _
   | exact slices_IsSorted_int_int.mono _ _
   | exact slices_Max_int_int.mono _ _
   | exact slices_Min_int_int.mono _ _
   | exact LeO.none _
   | refine LeO.ite ?_ ?_
   | refine LeO.bind ?_ (fun _ => ?_)
theorem curves_Curve_valid.mono : ∀ a0 a1 a2 k, LeO (curves_Curve_valid.f k a0 a1 a2) (curves_Curve_valid.f (k + 1) a0 a1 a2) := by
 intro a0 a1 a2 k
 obtain ⟨ih0, ih1, ih2⟩ := curves_Curve_valid.mono_l k
 unfold curves_Curve_valid.f
 repeat' first
   | (with_reducible exact ih0 _ _ _ _ _ _)
   | (with_reducible exact ih1 _ _ _ _ _ _)
   | (with_reducible exact ih2 _ _ _ _ _ _ _)
   | (with_reducible exact slices_IsSorted_int_int.mono _ _)
   | (with_reducible exact slices_Max_int_int.mono _ _)
   | (with_reducible exact slices_Min_int_int.mono _ _)
   | (with_reducible exact LeO.refl _)
   | (with_reducible exact LeO.none _)
   | (with_reducible refine LeO.ite ?_ ?_)
   | (with_reducible refine LeO.bind ?_ (fun _ => ?_))
   | exact ih0 _ _ _ _ _ _
   | exact ih1 _ _ _ _ _ _
   | exact ih2 _ _ _ _ _ _ _
   | exact slices_IsSorted_int_int.mono _ _
   | exact slices_Max_int_int.mono _ _
   | exact slices_Min_int_int.mono _ _
   | exact LeO.none _
   | refine LeO.ite ?_ ?_
   | refine LeO.bind ?_ (fun _ => ?_)
set_option maxHeartbeats 8000000 in
set_option maxRecDepth 100000 in
theorem curves_Curve_valid.calls (k : Nat) (a0_0 : Int) (A0_1 : Option Addr) (c0_1 : Nat) (l0_1 : List Int) (A0_2 : Option Addr) (c0_2 : Nat) (l0_2 : List Int) (r : Bool) (w : World) (hr0_1 : Kd.C (Kd.int .i64) w A0_1 l0_1.length l0_1) (hc0_1 : l0_1.length ≤ c0_1) (hr0_2 : Kd.C (Kd.int .i64) w A0_2 l0_2.length l0_2) (hc0_2 : l0_2.length ≤ c0_2) (h : curves_Curve_valid.f k a0_0 l0_1 l0_2 = some r) :
  Calls Tryd.prog 23 #[.agg #[.int .i64 a0_0, .slice A0_1 l0_1.length c0_1, .slice A0_2 l0_2.length c0_2]] w fun e w' => e = .returned (.bool r) ∧ Below w.heap.size w w' := by
 have hu31 := Tryd.underlying31
 have HR0_1 := Aside0.mk hr0_1
 have HC0_1 := Aside0.mk hc0_1
 clear hr0_1 hc0_1
 have HR0_2 := Aside0.mk hr0_2
 have HC0_2 := Aside0.mk hc0_2
 clear hr0_2 hc0_2
 have HB := ak (Below.refl w.heap.size w)
 have H : (if a0_0 < 0 then (curves_Curve_valid.j0 k (l0_2.length : Int) a0_0 true a0_0 l0_1 l0_2) else (if a0_0 > 3 then (curves_Curve_valid.j0 k (l0_2.length : Int) a0_0 true a0_0 l0_1 l0_2) else (if (l0_2.length : Int) < (wrap64 (a0_0 + 1)) then (curves_Curve_valid.j0 k (l0_2.length : Int) a0_0 true a0_0 l0_1 l0_2) else (if (l0_2.length : Int) > 8 then (curves_Curve_valid.j0 k (l0_2.length : Int) a0_0 true a0_0 l0_1 l0_2) else (curves_Curve_valid.j0 k (l0_2.length : Int) a0_0 ((l0_1.length : Int) != (wrap64 ((wrap64 ((l0_2.length : Int) + a0_0)) + 1))) a0_0 l0_1 l0_2))))) = some r := h
 clear h
 have HC2 := Aside0.mk H
 clear H
 go_enter Tryd.func23, Tryd.ntmps23
 go_upto_region 2 with (first | ((with_reducible refine gate_dst (N := 1) rfl ?_); (try (refine gate_guard (by rfl) ?_; dsimp only)); refine bE 1 #[.int .i64 a0_0, .slice A0_1 l0_1.length c0_1, .slice A0_2 l0_2.length c0_2] 31 ?_; intro gb128 hg w3 hbox hb; have BK128 := ak (hbox); have GW128 := kG w hg; have GE128 := kG w hg; replace HB := kH _ hb; clear hb hbox hg; have hcz4_0 : w3.cell? ⟨gb128, 0, none⟩ = some (.int .i64 a0_0) := bc BK128 0; have hcz4_1 : w3.cell? ⟨gb128, 1, none⟩ = some (.slice A0_1 l0_1.length c0_1) := bc BK128 1; have hcz4_2 : w3.cell? ⟨gb128, 2, none⟩ = some (.slice A0_2 l0_2.length c0_2) := bc BK128 2; have hfz4_0 := fz BK128 0; have hfz4_1 := fz BK128 1; have hfz4_2 := fz BK128 2))
 repeat (go_quiet (first | ((with_reducible refine gate_dst (N := 1) rfl ?_); (try (refine gate_guard (by rfl) ?_; dsimp only)); refine bE 1 #[.int .i64 a0_0, .slice A0_1 l0_1.length c0_1, .slice A0_2 l0_2.length c0_2] 31 ?_; intro gb128 hg w3 hbox hb; have BK128 := ak (hbox); have GW128 := kG w hg; have GE128 := kG w hg; replace HB := kH _ hb; clear hb hbox hg; have hcz4_0 : w3.cell? ⟨gb128, 0, none⟩ = some (.int .i64 a0_0) := bc BK128 0; have hcz4_1 : w3.cell? ⟨gb128, 1, none⟩ = some (.slice A0_1 l0_1.length c0_1) := bc BK128 1; have hcz4_2 : w3.cell? ⟨gb128, 2, none⟩ = some (.slice A0_2 l0_2.length c0_2) := bc BK128 2; have hfz4_0 := fz BK128 0; have hfz4_1 := fz BK128 1; have hfz4_2 := fz BK128 2)); go_upto_region 2 with (first | ((with_reducible refine gate_dst (N := 1) rfl ?_); (try (refine gate_guard (by rfl) ?_; dsimp only)); refine bE 1 #[.int .i64 a0_0, .slice A0_1 l0_1.length c0_1, .slice A0_2 l0_2.length c0_2] 31 ?_; intro gb128 hg w3 hbox hb; have BK128 := ak (hbox); have GW128 := kG w hg; have GE128 := kG w hg; replace HB := kH _ hb; clear hb hbox hg; have hcz4_0 : w3.cell? ⟨gb128, 0, none⟩ = some (.int .i64 a0_0) := bc BK128 0; have hcz4_1 : w3.cell? ⟨gb128, 1, none⟩ = some (.slice A0_1 l0_1.length c0_1) := bc BK128 1; have hcz4_2 : w3.cell? ⟨gb128, 2, none⟩ = some (.slice A0_2 l0_2.length c0_2) := bc BK128 2; have hfz4_0 := fz BK128 0; have hfz4_1 := fz BK128 1; have hfz4_2 := fz BK128 2)))
 (try simp only [Act.put, List.setIfInBounds_toArray, List.set_cons_zero, List.set_cons_succ])
 go_cut [36] (fun v36 wc => ∃ (kq : Nat) (x36_1 : Bool), v36 = .bool x36_1 ∧ Aside0 (curves_Curve_valid.j0 kq (l0_2.length : Int) a0_0 x36_1 a0_0 l0_1 l0_2 = some r) ∧ Aside0 (kq ≤ k) ∧ Aside0 (wc.heap[gb128]? = some (.cells #[.int .i64 a0_0, (.slice A0_1 l0_1.length c0_1), (.slice A0_2 l0_2.length c0_2)] 31 (0, 0))) ∧ Aside0 (Below w.heap.size w wc))
 case first =>
  have H := HC2.out
  clear HC2
  by_cases c5 : a0_0 < 0
  ·rw [if_pos c5] at H
   have c5b0 : decide (a0_0 < 0) = true := decide_eq_true c5
   clear c5
   (first | rw [c5b0] | (simp only [i64_w, i32_w]; rw [c5b0]) | skip)
   have H' := Aside0.mk H
   clear H
   go_wp2
   repeat (go_quiet (fail); try go_wp2)
   go_meet
   case rel => exact ⟨_, (true), (by first | rfl | (simp; done) | (simp [*]; done)), H', ⟨by first | omega | exact Nat.le_refl _⟩, ⟨bkC BK128⟩, ⟨hbC _⟩⟩
  rw [if_neg c5] at H
  have c5b0 : decide (a0_0 < 0) = false := decide_eq_false c5
  clear c5
  (first | rw [c5b0] | (simp only [i64_w, i32_w]; rw [c5b0]) | skip)
  by_cases c6 : a0_0 > 3
  ·rw [if_pos c6] at H
   have c6b0 : decide (3 < a0_0) = true := decide_eq_true c6
   clear c6
   have H' := Aside0.mk H
   clear H
   go_wp2
   repeat (go_quiet (fail); try go_wp2)
   go_meet
   case rel => exact ⟨_, (true), (by first | rfl | (simp; done) | (simp [*]; done)), H', ⟨by first | omega | exact Nat.le_refl _⟩, ⟨bkC BK128⟩, ⟨hbC _⟩⟩
  rw [if_neg c6] at H
  have c6b0 : decide (3 < a0_0) = false := decide_eq_false c6
  clear c6
  by_cases c7 : (l0_2.length : Int) < (wrap64 (a0_0 + 1))
  ·rw [if_pos c7] at H
   have c7b0 : decide ((l0_2.length : Int) < (wrap64 (a0_0 + 1))) = true := decide_eq_true c7
   clear c7
   have H' := Aside0.mk H
   clear H
   go_wp2
   repeat (go_quiet (fail); try go_wp2)
   go_meet
   case rel => exact ⟨_, (true), (by first | rfl | (simp; done) | (simp [*]; done)), H', ⟨by first | omega | exact Nat.le_refl _⟩, ⟨bkC BK128⟩, ⟨hbC _⟩⟩
  rw [if_neg c7] at H
  have c7b0 : decide ((l0_2.length : Int) < (wrap64 (a0_0 + 1))) = false := decide_eq_false c7
  clear c7
  by_cases c8 : (l0_2.length : Int) > 8
  ·rw [if_pos c8] at H
   have c8b0 : decide (8 < (l0_2.length : Int)) = true := decide_eq_true c8
   have c8b1 : decide (8 < l0_2.length) = true := decide_eq_true (by omega)
   clear c8
   have H' := Aside0.mk H
   clear H
   go_wp2
   repeat (go_quiet (fail); try go_wp2)
   go_meet
   case rel => exact ⟨_, (true), (by first | rfl | (simp; done) | (simp [*]; done)), H', ⟨by first | omega | exact Nat.le_refl _⟩, ⟨bkC BK128⟩, ⟨hbC _⟩⟩
  rw [if_neg c8] at H
  have c8b0 : decide (8 < (l0_2.length : Int)) = false := decide_eq_false c8
  have c8b1 : decide (8 < l0_2.length) = false := decide_eq_false (by omega)
  clear c8
  have H' := Aside0.mk H
  clear H
  have hcz9_0 : w3.cell? ⟨gb128, 0, none⟩ = some (.int .i64 a0_0) := bc BK128 0
  have hcz9_1 : w3.cell? ⟨gb128, 1, none⟩ = some (.slice A0_1 l0_1.length c0_1) := bc BK128 1
  have hcz9_2 : w3.cell? ⟨gb128, 2, none⟩ = some (.slice A0_2 l0_2.length c0_2) := bc BK128 2
  have hfz9_0 := fz BK128 0
  have hfz9_1 := fz BK128 1
  have hfz9_2 := fz BK128 2
  go_wp2
  repeat (go_quiet (fail); try go_wp2)
  go_meet
  case rel => exact ⟨_, (((l0_1.length : Int) != (wrap64 ((wrap64 ((l0_2.length : Int) + a0_0)) + 1)))), (by first | rfl | (simp; done) | (simp [*]; done)), H', ⟨by first | omega | exact Nat.le_refl _⟩, ⟨bkC BK128⟩, ⟨hbC _⟩⟩
 case rest =>
  clear HC2
  try clear c2
  try clear p2
  try clear c5
  try clear c5b0
  try clear c6
  try clear c6b0
  try clear p6
  try clear c7
  try clear c7b0
  try clear c8
  try clear c8b0
  try clear c8b1
  try clear hcz4_0
  try clear hcz4_1
  try clear hcz4_2
  try clear hcz9_0
  try clear hcz9_1
  try clear hcz9_2
  try clear hfz4_0
  try clear hfz4_1
  try clear hfz4_2
  try clear hfz9_0
  try clear hfz9_1
  try clear hfz9_2
  obtain ⟨kq, x36_1, rfl, HA, HJ1, BK128, HB⟩ := hcut
  cases kq with
  | zero => exact absurd HA.out (by simp [curves_Curve_valid.j0])
  | succ kj1 =>
   have H := HA.out
   clear HA
   simp only [curves_Curve_valid.j0] at H
   by_cases c10 : x36_1 = true
   ·subst c10
    have H1 : (some false) = some r := by rw [if_pos rfl] at H; exact H
    clear H
    have H := H1
    clear H1
    obtain rfl := Option.some.inj H
    go_wp2
    repeat (go_quiet (fail); try go_wp2)
    go_ret
    exact ⟨by first | rfl | (simp [errW_none, errW_some] <;> rfl) | (simp [*, errW_none, errW_some] <;> rfl), hbC _⟩
   replace c10 := Bool.eq_false_iff.mpr c10
   subst c10
   have H1 : ((slices_Min_int_int.f kj1 l0_2).bind fun t129 => (if t129 < (-50) then (curves_Curve_valid.j1 kj1 (l0_2.length : Int) a0_0 true a0_0 l0_1 l0_2) else ((slices_Max_int_int.f kj1 l0_2).bind fun t130 => (if t130 > 50 then (curves_Curve_valid.j1 kj1 (l0_2.length : Int) a0_0 true a0_0 l0_1 l0_2) else ((slices_IsSorted_int_int.f kj1 l0_1).bind fun t131 => (if t131 = true then (if 0 < (l0_1.length : Int) then (if (rd l0_1 0) < 0 then (curves_Curve_valid.j1 kj1 (l0_2.length : Int) a0_0 true a0_0 l0_1 l0_2) else (if 0 ≤ (wrap64 ((l0_2.length : Int) + a0_0)) then (if (wrap64 ((l0_2.length : Int) + a0_0)) < (l0_1.length : Int) then (curves_Curve_valid.j1 kj1 (l0_2.length : Int) a0_0 (decide ((rd l0_1 (wrap64 ((l0_2.length : Int) + a0_0))) > 12)) a0_0 l0_1 l0_2) else (none)) else (none))) else (none)) else (curves_Curve_valid.j1 kj1 (l0_2.length : Int) a0_0 true a0_0 l0_1 l0_2))))))) = some r := by rw [if_neg (show ¬ (false = true) by decide)] at H; exact H
   clear H
   have H := H1
   clear H1
   have HC11 := Aside0.mk H
   clear H
   go_upto_region 4 with (fail)
   repeat (go_quiet (fail); go_upto_region 4 with (fail))
   go_cut [69] (fun v69 wc => ∃ (kq : Nat) (x69_10 : Bool), v69 = .bool x69_10 ∧ Aside0 (curves_Curve_valid.j1 kq (l0_2.length : Int) a0_0 x69_10 a0_0 l0_1 l0_2 = some r) ∧ Aside0 (kq ≤ kj1) ∧ Aside0 (wc.heap[gb128]? = some (.cells #[.int .i64 a0_0, (.slice A0_1 l0_1.length c0_1), (.slice A0_2 l0_2.length c0_2)] 31 (0, 0))) ∧ Aside0 (Below w.heap.size w wc))
   case first =>
    have H := HC11.out
    clear HC11
    replace H := Option.bind_eq_some_iff.mp H
    obtain ⟨t129, A120, H⟩ := H
    replace H : (if t129 < (-50) then (curves_Curve_valid.j1 kj1 (l0_2.length : Int) a0_0 true a0_0 l0_1 l0_2) else ((slices_Max_int_int.f kj1 l0_2).bind fun t130 => (if t130 > 50 then (curves_Curve_valid.j1 kj1 (l0_2.length : Int) a0_0 true a0_0 l0_1 l0_2) else ((slices_IsSorted_int_int.f kj1 l0_1).bind fun t131 => (if t131 = true then (if 0 < (l0_1.length : Int) then (if (rd l0_1 0) < 0 then (curves_Curve_valid.j1 kj1 (l0_2.length : Int) a0_0 true a0_0 l0_1 l0_2) else (if 0 ≤ (wrap64 ((l0_2.length : Int) + a0_0)) then (if (wrap64 ((l0_2.length : Int) + a0_0)) < (l0_1.length : Int) then (curves_Curve_valid.j1 kj1 (l0_2.length : Int) a0_0 (decide ((rd l0_1 (wrap64 ((l0_2.length : Int) + a0_0))) > 12)) a0_0 l0_1 l0_2) else (none)) else (none))) else (none)) else (curves_Curve_valid.j1 kj1 (l0_2.length : Int) a0_0 true a0_0 l0_1 l0_2)))))) = some r := H
    have A12 := Aside0.mk A120
    clear A120
    by_cases c13 : t129 < (-50)
    ·rw [if_pos c13] at H
     have c13b0 : decide (t129 < (-50)) = true := decide_eq_true c13
     clear c13
     (first | rw [c13b0] | (simp only [i64_w, i32_w]; rw [c13b0]) | skip)
     have H' := Aside0.mk H
     clear H
     have hcz14_0 : wc.cell? ⟨gb128, 0, none⟩ = some (.int .i64 a0_0) := bc BK128 0
     have hcz14_1 : wc.cell? ⟨gb128, 1, none⟩ = some (.slice A0_1 l0_1.length c0_1) := bc BK128 1
     have hcz14_2 : wc.cell? ⟨gb128, 2, none⟩ = some (.slice A0_2 l0_2.length c0_2) := bc BK128 2
     have hfz14_0 := fz BK128 0
     have hfz14_1 := fz BK128 1
     have hfz14_2 := fz BK128 2
     go_wp2_with (first | (go_at_call 37; (with_reducible refine (slices_Min_int_int.calls kj1 _ _ l0_2 t129 _ ?side1 ?side2 A12.out).mono ?_); (case side1 => exact kC HR0_2); (case side2 => exact HC0_2.out); rintro e w15 ⟨rfl, hb⟩; replace BK128 := kB BK128 hb; replace HB := kH _ hb; (try clear hb); (try clear hb2); (try clear hk); (try clear hi)))
     repeat (go_quiet (first | (go_at_call 37; (with_reducible refine (slices_Min_int_int.calls kj1 _ _ l0_2 t129 _ ?side1 ?side2 A12.out).mono ?_); (case side1 => exact kC HR0_2); (case side2 => exact HC0_2.out); rintro e w15 ⟨rfl, hb⟩; replace BK128 := kB BK128 hb; replace HB := kH _ hb; (try clear hb); (try clear hb2); (try clear hk); (try clear hi))); try go_wp2_with (first | (go_at_call 37; (with_reducible refine (slices_Min_int_int.calls kj1 _ _ l0_2 t129 _ ?side1 ?side2 A12.out).mono ?_); (case side1 => exact kC HR0_2); (case side2 => exact HC0_2.out); rintro e w15 ⟨rfl, hb⟩; replace BK128 := kB BK128 hb; replace HB := kH _ hb; (try clear hb); (try clear hb2); (try clear hk); (try clear hi))))
     go_meet
     case rel => exact ⟨_, (true), (by first | rfl | (simp; done) | (simp [*]; done)), H', ⟨by have := HJ1.out; first | omega | exact Nat.le_refl _⟩, ⟨bkC BK128⟩, ⟨hbC _⟩⟩
    rw [if_neg c13] at H
    have c13b0 : decide (t129 < (-50)) = false := decide_eq_false c13
    clear c13
    (first | rw [c13b0] | (simp only [i64_w, i32_w]; rw [c13b0]) | skip)
    replace H := Option.bind_eq_some_iff.mp H
    obtain ⟨t130, A160, H⟩ := H
    replace H : (if t130 > 50 then (curves_Curve_valid.j1 kj1 (l0_2.length : Int) a0_0 true a0_0 l0_1 l0_2) else ((slices_IsSorted_int_int.f kj1 l0_1).bind fun t131 => (if t131 = true then (if 0 < (l0_1.length : Int) then (if (rd l0_1 0) < 0 then (curves_Curve_valid.j1 kj1 (l0_2.length : Int) a0_0 true a0_0 l0_1 l0_2) else (if 0 ≤ (wrap64 ((l0_2.length : Int) + a0_0)) then (if (wrap64 ((l0_2.length : Int) + a0_0)) < (l0_1.length : Int) then (curves_Curve_valid.j1 kj1 (l0_2.length : Int) a0_0 (decide ((rd l0_1 (wrap64 ((l0_2.length : Int) + a0_0))) > 12)) a0_0 l0_1 l0_2) else (none)) else (none))) else (none)) else (curves_Curve_valid.j1 kj1 (l0_2.length : Int) a0_0 true a0_0 l0_1 l0_2)))) = some r := H
    have A16 := Aside0.mk A160
    clear A160
    by_cases c17 : t130 > 50
    ·rw [if_pos c17] at H
     have c17b0 : decide (50 < t130) = true := decide_eq_true c17
     clear c17
     have H' := Aside0.mk H
     clear H
     have hcz18_0 : wc.cell? ⟨gb128, 0, none⟩ = some (.int .i64 a0_0) := bc BK128 0
     have hcz18_1 : wc.cell? ⟨gb128, 1, none⟩ = some (.slice A0_1 l0_1.length c0_1) := bc BK128 1
     have hcz18_2 : wc.cell? ⟨gb128, 2, none⟩ = some (.slice A0_2 l0_2.length c0_2) := bc BK128 2
     have hfz18_0 := fz BK128 0
     have hfz18_1 := fz BK128 1
     have hfz18_2 := fz BK128 2
     go_wp2_with (first | (go_at_call 37; (with_reducible refine (slices_Min_int_int.calls kj1 _ _ l0_2 t129 _ ?side1 ?side2 A12.out).mono ?_); (case side1 => exact kC HR0_2); (case side2 => exact HC0_2.out); rintro e w19 ⟨rfl, hb⟩; replace BK128 := kB BK128 hb; replace HB := kH _ hb; (try clear hb); (try clear hb2); (try clear hk); (try clear hi); have hcz20_0 : w19.cell? ⟨gb128, 0, none⟩ = some (.int .i64 a0_0) := bc BK128 0; have hcz20_1 : w19.cell? ⟨gb128, 1, none⟩ = some (.slice A0_1 l0_1.length c0_1) := bc BK128 1; have hcz20_2 : w19.cell? ⟨gb128, 2, none⟩ = some (.slice A0_2 l0_2.length c0_2) := bc BK128 2; have hfz20_0 := fz BK128 0; have hfz20_1 := fz BK128 1; have hfz20_2 := fz BK128 2) | (go_at_call 38; (with_reducible refine (slices_Max_int_int.calls kj1 _ _ l0_2 t130 _ ?side1 ?side2 A16.out).mono ?_); (case side1 => exact kC HR0_2); (case side2 => exact HC0_2.out); rintro e w21 ⟨rfl, hb⟩; replace BK128 := kB BK128 hb; replace HB := kH _ hb; (try clear hb); (try clear hb2); (try clear hk); (try clear hi)))
     repeat (go_quiet (first | (go_at_call 37; (with_reducible refine (slices_Min_int_int.calls kj1 _ _ l0_2 t129 _ ?side1 ?side2 A12.out).mono ?_); (case side1 => exact kC HR0_2); (case side2 => exact HC0_2.out); rintro e w19 ⟨rfl, hb⟩; replace BK128 := kB BK128 hb; replace HB := kH _ hb; (try clear hb); (try clear hb2); (try clear hk); (try clear hi); have hcz20_0 : w19.cell? ⟨gb128, 0, none⟩ = some (.int .i64 a0_0) := bc BK128 0; have hcz20_1 : w19.cell? ⟨gb128, 1, none⟩ = some (.slice A0_1 l0_1.length c0_1) := bc BK128 1; have hcz20_2 : w19.cell? ⟨gb128, 2, none⟩ = some (.slice A0_2 l0_2.length c0_2) := bc BK128 2; have hfz20_0 := fz BK128 0; have hfz20_1 := fz BK128 1; have hfz20_2 := fz BK128 2) | (go_at_call 38; (with_reducible refine (slices_Max_int_int.calls kj1 _ _ l0_2 t130 _ ?side1 ?side2 A16.out).mono ?_); (case side1 => exact kC HR0_2); (case side2 => exact HC0_2.out); rintro e w21 ⟨rfl, hb⟩; replace BK128 := kB BK128 hb; replace HB := kH _ hb; (try clear hb); (try clear hb2); (try clear hk); (try clear hi))); try go_wp2_with (first | (go_at_call 37; (with_reducible refine (slices_Min_int_int.calls kj1 _ _ l0_2 t129 _ ?side1 ?side2 A12.out).mono ?_); (case side1 => exact kC HR0_2); (case side2 => exact HC0_2.out); rintro e w19 ⟨rfl, hb⟩; replace BK128 := kB BK128 hb; replace HB := kH _ hb; (try clear hb); (try clear hb2); (try clear hk); (try clear hi); have hcz20_0 : w19.cell? ⟨gb128, 0, none⟩ = some (.int .i64 a0_0) := bc BK128 0; have hcz20_1 : w19.cell? ⟨gb128, 1, none⟩ = some (.slice A0_1 l0_1.length c0_1) := bc BK128 1; have hcz20_2 : w19.cell? ⟨gb128, 2, none⟩ = some (.slice A0_2 l0_2.length c0_2) := bc BK128 2; have hfz20_0 := fz BK128 0; have hfz20_1 := fz BK128 1; have hfz20_2 := fz BK128 2) | (go_at_call 38; (with_reducible refine (slices_Max_int_int.calls kj1 _ _ l0_2 t130 _ ?side1 ?side2 A16.out).mono ?_); (case side1 => exact kC HR0_2); (case side2 => exact HC0_2.out); rintro e w21 ⟨rfl, hb⟩; replace BK128 := kB BK128 hb; replace HB := kH _ hb; (try clear hb); (try clear hb2); (try clear hk); (try clear hi))))
     go_meet
     case rel => exact ⟨_, (true), (by first | rfl | (simp; done) | (simp [*]; done)), H', ⟨by have := HJ1.out; first | omega | exact Nat.le_refl _⟩, ⟨bkC BK128⟩, ⟨hbC _⟩⟩
    rw [if_neg c17] at H
    have c17b0 : decide (50 < t130) = false := decide_eq_false c17
    clear c17
    replace H := Option.bind_eq_some_iff.mp H
    obtain ⟨t131, A220, H⟩ := H
    replace H : (if t131 = true then (if 0 < (l0_1.length : Int) then (if (rd l0_1 0) < 0 then (curves_Curve_valid.j1 kj1 (l0_2.length : Int) a0_0 true a0_0 l0_1 l0_2) else (if 0 ≤ (wrap64 ((l0_2.length : Int) + a0_0)) then (if (wrap64 ((l0_2.length : Int) + a0_0)) < (l0_1.length : Int) then (curves_Curve_valid.j1 kj1 (l0_2.length : Int) a0_0 (decide ((rd l0_1 (wrap64 ((l0_2.length : Int) + a0_0))) > 12)) a0_0 l0_1 l0_2) else (none)) else (none))) else (none)) else (curves_Curve_valid.j1 kj1 (l0_2.length : Int) a0_0 true a0_0 l0_1 l0_2)) = some r := H
    have A22 := Aside0.mk A220
    clear A220
    by_cases c23 : t131 = true
    rotate_left
    ·replace c23 := Bool.eq_false_iff.mpr c23
     subst c23
     have H1 : (curves_Curve_valid.j1 kj1 (l0_2.length : Int) a0_0 true a0_0 l0_1 l0_2) = some r := by rw [if_neg (show ¬ (false = true) by decide)] at H; exact H
     clear H
     have H := H1
     clear H1
     have H' := Aside0.mk H
     clear H
     have hcz39_0 : wc.cell? ⟨gb128, 0, none⟩ = some (.int .i64 a0_0) := bc BK128 0
     have hcz39_1 : wc.cell? ⟨gb128, 1, none⟩ = some (.slice A0_1 l0_1.length c0_1) := bc BK128 1
     have hcz39_2 : wc.cell? ⟨gb128, 2, none⟩ = some (.slice A0_2 l0_2.length c0_2) := bc BK128 2
     have hfz39_0 := fz BK128 0
     have hfz39_1 := fz BK128 1
     have hfz39_2 := fz BK128 2
     go_wp2_with (first | (go_at_call 37; (with_reducible refine (slices_Min_int_int.calls kj1 _ _ l0_2 t129 _ ?side1 ?side2 A12.out).mono ?_); (case side1 => exact kC HR0_2); (case side2 => exact HC0_2.out); rintro e w40 ⟨rfl, hb⟩; replace BK128 := kB BK128 hb; replace HB := kH _ hb; (try clear hb); (try clear hb2); (try clear hk); (try clear hi); have hcz41_0 : w40.cell? ⟨gb128, 0, none⟩ = some (.int .i64 a0_0) := bc BK128 0; have hcz41_1 : w40.cell? ⟨gb128, 1, none⟩ = some (.slice A0_1 l0_1.length c0_1) := bc BK128 1; have hcz41_2 : w40.cell? ⟨gb128, 2, none⟩ = some (.slice A0_2 l0_2.length c0_2) := bc BK128 2; have hfz41_0 := fz BK128 0; have hfz41_1 := fz BK128 1; have hfz41_2 := fz BK128 2) | (go_at_call 38; (with_reducible refine (slices_Max_int_int.calls kj1 _ _ l0_2 t130 _ ?side1 ?side2 A16.out).mono ?_); (case side1 => exact kC HR0_2); (case side2 => exact HC0_2.out); rintro e w42 ⟨rfl, hb⟩; replace BK128 := kB BK128 hb; replace HB := kH _ hb; (try clear hb); (try clear hb2); (try clear hk); (try clear hi); have hcz43_0 : w42.cell? ⟨gb128, 0, none⟩ = some (.int .i64 a0_0) := bc BK128 0; have hcz43_1 : w42.cell? ⟨gb128, 1, none⟩ = some (.slice A0_1 l0_1.length c0_1) := bc BK128 1; have hcz43_2 : w42.cell? ⟨gb128, 2, none⟩ = some (.slice A0_2 l0_2.length c0_2) := bc BK128 2; have hfz43_0 := fz BK128 0; have hfz43_1 := fz BK128 1; have hfz43_2 := fz BK128 2) | (go_at_call 39; (with_reducible refine (slices_IsSorted_int_int.calls kj1 _ _ l0_1 false _ ?side1 ?side2 A22.out).mono ?_); (case side1 => exact kC HR0_1); (case side2 => exact HC0_1.out); rintro e w' ⟨rfl, ⟨nd, rfl⟩⟩; (try first | exact ⟨rfl, _, World.drewN_drewN _ _ _⟩ | exact ⟨rfl, _, Eq.trans (World.drewN_drewN _ _ _) (congrArg (World.drewN _) (Nat.add_assoc _ _ _))⟩)))
     repeat (go_quiet (first | (go_at_call 37; (with_reducible refine (slices_Min_int_int.calls kj1 _ _ l0_2 t129 _ ?side1 ?side2 A12.out).mono ?_); (case side1 => exact kC HR0_2); (case side2 => exact HC0_2.out); rintro e w40 ⟨rfl, hb⟩; replace BK128 := kB BK128 hb; replace HB := kH _ hb; (try clear hb); (try clear hb2); (try clear hk); (try clear hi); have hcz41_0 : w40.cell? ⟨gb128, 0, none⟩ = some (.int .i64 a0_0) := bc BK128 0; have hcz41_1 : w40.cell? ⟨gb128, 1, none⟩ = some (.slice A0_1 l0_1.length c0_1) := bc BK128 1; have hcz41_2 : w40.cell? ⟨gb128, 2, none⟩ = some (.slice A0_2 l0_2.length c0_2) := bc BK128 2; have hfz41_0 := fz BK128 0; have hfz41_1 := fz BK128 1; have hfz41_2 := fz BK128 2) | (go_at_call 38; (with_reducible refine (slices_Max_int_int.calls kj1 _ _ l0_2 t130 _ ?side1 ?side2 A16.out).mono ?_); (case side1 => exact kC HR0_2); (case side2 => exact HC0_2.out); rintro e w42 ⟨rfl, hb⟩; replace BK128 := kB BK128 hb; replace HB := kH _ hb; (try clear hb); (try clear hb2); (try clear hk); (try clear hi); have hcz43_0 : w42.cell? ⟨gb128, 0, none⟩ = some (.int .i64 a0_0) := bc BK128 0; have hcz43_1 : w42.cell? ⟨gb128, 1, none⟩ = some (.slice A0_1 l0_1.length c0_1) := bc BK128 1; have hcz43_2 : w42.cell? ⟨gb128, 2, none⟩ = some (.slice A0_2 l0_2.length c0_2) := bc BK128 2; have hfz43_0 := fz BK128 0; have hfz43_1 := fz BK128 1; have hfz43_2 := fz BK128 2) | (go_at_call 39; (with_reducible refine (slices_IsSorted_int_int.calls kj1 _ _ l0_1 false _ ?side1 ?side2 A22.out).mono ?_); (case side1 => exact kC HR0_1); (case side2 => exact HC0_1.out); rintro e w' ⟨rfl, ⟨nd, rfl⟩⟩; (try first | exact ⟨rfl, _, World.drewN_drewN _ _ _⟩ | exact ⟨rfl, _, Eq.trans (World.drewN_drewN _ _ _) (congrArg (World.drewN _) (Nat.add_assoc _ _ _))⟩))); try go_wp2_with (first | (go_at_call 37; (with_reducible refine (slices_Min_int_int.calls kj1 _ _ l0_2 t129 _ ?side1 ?side2 A12.out).mono ?_); (case side1 => exact kC HR0_2); (case side2 => exact HC0_2.out); rintro e w40 ⟨rfl, hb⟩; replace BK128 := kB BK128 hb; replace HB := kH _ hb; (try clear hb); (try clear hb2); (try clear hk); (try clear hi); have hcz41_0 : w40.cell? ⟨gb128, 0, none⟩ = some (.int .i64 a0_0) := bc BK128 0; have hcz41_1 : w40.cell? ⟨gb128, 1, none⟩ = some (.slice A0_1 l0_1.length c0_1) := bc BK128 1; have hcz41_2 : w40.cell? ⟨gb128, 2, none⟩ = some (.slice A0_2 l0_2.length c0_2) := bc BK128 2; have hfz41_0 := fz BK128 0; have hfz41_1 := fz BK128 1; have hfz41_2 := fz BK128 2) | (go_at_call 38; (with_reducible refine (slices_Max_int_int.calls kj1 _ _ l0_2 t130 _ ?side1 ?side2 A16.out).mono ?_); (case side1 => exact kC HR0_2); (case side2 => exact HC0_2.out); rintro e w42 ⟨rfl, hb⟩; replace BK128 := kB BK128 hb; replace HB := kH _ hb; (try clear hb); (try clear hb2); (try clear hk); (try clear hi); have hcz43_0 : w42.cell? ⟨gb128, 0, none⟩ = some (.int .i64 a0_0) := bc BK128 0; have hcz43_1 : w42.cell? ⟨gb128, 1, none⟩ = some (.slice A0_1 l0_1.length c0_1) := bc BK128 1; have hcz43_2 : w42.cell? ⟨gb128, 2, none⟩ = some (.slice A0_2 l0_2.length c0_2) := bc BK128 2; have hfz43_0 := fz BK128 0; have hfz43_1 := fz BK128 1; have hfz43_2 := fz BK128 2) | (go_at_call 39; (with_reducible refine (slices_IsSorted_int_int.calls kj1 _ _ l0_1 false _ ?side1 ?side2 A22.out).mono ?_); (case side1 => exact kC HR0_1); (case side2 => exact HC0_1.out); rintro e w' ⟨rfl, ⟨nd, rfl⟩⟩; (try first | exact ⟨rfl, _, World.drewN_drewN _ _ _⟩ | exact ⟨rfl, _, Eq.trans (World.drewN_drewN _ _ _) (congrArg (World.drewN _) (Nat.add_assoc _ _ _))⟩))))
     go_meet
     case rel => exact ⟨_, (true), (by first | rfl | (simp; done) | (simp [*]; done)), H', ⟨by have := HJ1.out; first | omega | exact Nat.le_refl _⟩, ⟨bkC BK128⟩, ⟨hbC _⟩⟩
    subst c23
    have H1 : (if 0 < (l0_1.length : Int) then (if (rd l0_1 0) < 0 then (curves_Curve_valid.j1 kj1 (l0_2.length : Int) a0_0 true a0_0 l0_1 l0_2) else (if 0 ≤ (wrap64 ((l0_2.length : Int) + a0_0)) then (if (wrap64 ((l0_2.length : Int) + a0_0)) < (l0_1.length : Int) then (curves_Curve_valid.j1 kj1 (l0_2.length : Int) a0_0 (decide ((rd l0_1 (wrap64 ((l0_2.length : Int) + a0_0))) > 12)) a0_0 l0_1 l0_2) else (none)) else (none))) else (none)) = some r := by rw [if_pos rfl] at H; exact H
    clear H
    have H := H1
    clear H1
    by_cases c24 : 0 < (l0_1.length : Int)
    rotate_left
    ·rw [if_neg c24] at H
     exact absurd H (by simp)
    rw [if_pos c24] at H
    have c24b0 : decide (0 < (l0_1.length : Int)) = true := decide_eq_true c24
    have c24b1 : decide (0 < l0_1.length) = true := decide_eq_true (by omega)
    clear c24
    by_cases c25 : (rd l0_1 0) < 0
    ·rw [if_pos c25] at H
     have c25b0 : decide ((rd l0_1 0) < 0) = true := decide_eq_true c25
     clear c25
     have H' := Aside0.mk H
     clear H
     have hcz26_0 : wc.cell? ⟨gb128, 0, none⟩ = some (.int .i64 a0_0) := bc BK128 0
     have hcz26_1 : wc.cell? ⟨gb128, 1, none⟩ = some (.slice A0_1 l0_1.length c0_1) := bc BK128 1
     have hcz26_2 : wc.cell? ⟨gb128, 2, none⟩ = some (.slice A0_2 l0_2.length c0_2) := bc BK128 2
     have hfz26_0 := fz BK128 0
     have hfz26_1 := fz BK128 1
     have hfz26_2 := fz BK128 2
     go_wp2_with (first | (go_at_call 37; (with_reducible refine (slices_Min_int_int.calls kj1 _ _ l0_2 t129 _ ?side1 ?side2 A12.out).mono ?_); (case side1 => exact kC HR0_2); (case side2 => exact HC0_2.out); rintro e w27 ⟨rfl, hb⟩; replace BK128 := kB BK128 hb; replace HB := kH _ hb; (try clear hb); (try clear hb2); (try clear hk); (try clear hi); have hcz28_0 : w27.cell? ⟨gb128, 0, none⟩ = some (.int .i64 a0_0) := bc BK128 0; have hcz28_1 : w27.cell? ⟨gb128, 1, none⟩ = some (.slice A0_1 l0_1.length c0_1) := bc BK128 1; have hcz28_2 : w27.cell? ⟨gb128, 2, none⟩ = some (.slice A0_2 l0_2.length c0_2) := bc BK128 2; have hfz28_0 := fz BK128 0; have hfz28_1 := fz BK128 1; have hfz28_2 := fz BK128 2) | (go_at_call 38; (with_reducible refine (slices_Max_int_int.calls kj1 _ _ l0_2 t130 _ ?side1 ?side2 A16.out).mono ?_); (case side1 => exact kC HR0_2); (case side2 => exact HC0_2.out); rintro e w29 ⟨rfl, hb⟩; replace BK128 := kB BK128 hb; replace HB := kH _ hb; (try clear hb); (try clear hb2); (try clear hk); (try clear hi); have hcz30_0 : w29.cell? ⟨gb128, 0, none⟩ = some (.int .i64 a0_0) := bc BK128 0; have hcz30_1 : w29.cell? ⟨gb128, 1, none⟩ = some (.slice A0_1 l0_1.length c0_1) := bc BK128 1; have hcz30_2 : w29.cell? ⟨gb128, 2, none⟩ = some (.slice A0_2 l0_2.length c0_2) := bc BK128 2; have hfz30_0 := fz BK128 0; have hfz30_1 := fz BK128 1; have hfz30_2 := fz BK128 2) | (go_at_call 39; (with_reducible refine (slices_IsSorted_int_int.calls kj1 _ _ l0_1 true _ ?side1 ?side2 A22.out).mono ?_); (case side1 => exact kC HR0_1); (case side2 => exact HC0_1.out); rintro e w' ⟨rfl, ⟨nd, rfl⟩⟩; (try first | exact ⟨rfl, _, World.drewN_drewN _ _ _⟩ | exact ⟨rfl, _, Eq.trans (World.drewN_drewN _ _ _) (congrArg (World.drewN _) (Nat.add_assoc _ _ _))⟩); have p132 : 0 ≤ (0 : Int) := (by omega); have q132 : 0 < (l0_1.length : Int) := dA; obtain ⟨ad132, e132, hx132_0⟩ := Kd.at_int HR0_1.out 0 p132 q132; cases e132; have qi132 : (0 < l0_1.length) = True := eq_true (by omega); (try rw [show ((0 : Int)).toNat = 0 from rfl] at hx132_0); (try rw [Addr.add_zero'] at hx132_0); replace hx132_0 := (HB.out.cell (World.block_lt_of_cell? w _ hx132_0)).trans hx132_0; replace p132 := eq_true p132; replace q132 := eq_true q132))
     repeat (go_quiet (first | (go_at_call 37; (with_reducible refine (slices_Min_int_int.calls kj1 _ _ l0_2 t129 _ ?side1 ?side2 A12.out).mono ?_); (case side1 => exact kC HR0_2); (case side2 => exact HC0_2.out); rintro e w27 ⟨rfl, hb⟩; replace BK128 := kB BK128 hb; replace HB := kH _ hb; (try clear hb); (try clear hb2); (try clear hk); (try clear hi); have hcz28_0 : w27.cell? ⟨gb128, 0, none⟩ = some (.int .i64 a0_0) := bc BK128 0; have hcz28_1 : w27.cell? ⟨gb128, 1, none⟩ = some (.slice A0_1 l0_1.length c0_1) := bc BK128 1; have hcz28_2 : w27.cell? ⟨gb128, 2, none⟩ = some (.slice A0_2 l0_2.length c0_2) := bc BK128 2; have hfz28_0 := fz BK128 0; have hfz28_1 := fz BK128 1; have hfz28_2 := fz BK128 2) | (go_at_call 38; (with_reducible refine (slices_Max_int_int.calls kj1 _ _ l0_2 t130 _ ?side1 ?side2 A16.out).mono ?_); (case side1 => exact kC HR0_2); (case side2 => exact HC0_2.out); rintro e w29 ⟨rfl, hb⟩; replace BK128 := kB BK128 hb; replace HB := kH _ hb; (try clear hb); (try clear hb2); (try clear hk); (try clear hi); have hcz30_0 : w29.cell? ⟨gb128, 0, none⟩ = some (.int .i64 a0_0) := bc BK128 0; have hcz30_1 : w29.cell? ⟨gb128, 1, none⟩ = some (.slice A0_1 l0_1.length c0_1) := bc BK128 1; have hcz30_2 : w29.cell? ⟨gb128, 2, none⟩ = some (.slice A0_2 l0_2.length c0_2) := bc BK128 2; have hfz30_0 := fz BK128 0; have hfz30_1 := fz BK128 1; have hfz30_2 := fz BK128 2) | (go_at_call 39; (with_reducible refine (slices_IsSorted_int_int.calls kj1 _ _ l0_1 true _ ?side1 ?side2 A22.out).mono ?_); (case side1 => exact kC HR0_1); (case side2 => exact HC0_1.out); rintro e w' ⟨rfl, ⟨nd, rfl⟩⟩; (try first | exact ⟨rfl, _, World.drewN_drewN _ _ _⟩ | exact ⟨rfl, _, Eq.trans (World.drewN_drewN _ _ _) (congrArg (World.drewN _) (Nat.add_assoc _ _ _))⟩); have p132 : 0 ≤ (0 : Int) := (by omega); have q132 : 0 < (l0_1.length : Int) := dA; obtain ⟨ad132, e132, hx132_0⟩ := Kd.at_int HR0_1.out 0 p132 q132; cases e132; have qi132 : (0 < l0_1.length) = True := eq_true (by omega); (try rw [show ((0 : Int)).toNat = 0 from rfl] at hx132_0); (try rw [Addr.add_zero'] at hx132_0); replace hx132_0 := (HB.out.cell (World.block_lt_of_cell? w _ hx132_0)).trans hx132_0; replace p132 := eq_true p132; replace q132 := eq_true q132)); try go_wp2_with (first | (go_at_call 37; (with_reducible refine (slices_Min_int_int.calls kj1 _ _ l0_2 t129 _ ?side1 ?side2 A12.out).mono ?_); (case side1 => exact kC HR0_2); (case side2 => exact HC0_2.out); rintro e w27 ⟨rfl, hb⟩; replace BK128 := kB BK128 hb; replace HB := kH _ hb; (try clear hb); (try clear hb2); (try clear hk); (try clear hi); have hcz28_0 : w27.cell? ⟨gb128, 0, none⟩ = some (.int .i64 a0_0) := bc BK128 0; have hcz28_1 : w27.cell? ⟨gb128, 1, none⟩ = some (.slice A0_1 l0_1.length c0_1) := bc BK128 1; have hcz28_2 : w27.cell? ⟨gb128, 2, none⟩ = some (.slice A0_2 l0_2.length c0_2) := bc BK128 2; have hfz28_0 := fz BK128 0; have hfz28_1 := fz BK128 1; have hfz28_2 := fz BK128 2) | (go_at_call 38; (with_reducible refine (slices_Max_int_int.calls kj1 _ _ l0_2 t130 _ ?side1 ?side2 A16.out).mono ?_); (case side1 => exact kC HR0_2); (case side2 => exact HC0_2.out); rintro e w29 ⟨rfl, hb⟩; replace BK128 := kB BK128 hb; replace HB := kH _ hb; (try clear hb); (try clear hb2); (try clear hk); (try clear hi); have hcz30_0 : w29.cell? ⟨gb128, 0, none⟩ = some (.int .i64 a0_0) := bc BK128 0; have hcz30_1 : w29.cell? ⟨gb128, 1, none⟩ = some (.slice A0_1 l0_1.length c0_1) := bc BK128 1; have hcz30_2 : w29.cell? ⟨gb128, 2, none⟩ = some (.slice A0_2 l0_2.length c0_2) := bc BK128 2; have hfz30_0 := fz BK128 0; have hfz30_1 := fz BK128 1; have hfz30_2 := fz BK128 2) | (go_at_call 39; (with_reducible refine (slices_IsSorted_int_int.calls kj1 _ _ l0_1 true _ ?side1 ?side2 A22.out).mono ?_); (case side1 => exact kC HR0_1); (case side2 => exact HC0_1.out); rintro e w' ⟨rfl, ⟨nd, rfl⟩⟩; (try first | exact ⟨rfl, _, World.drewN_drewN _ _ _⟩ | exact ⟨rfl, _, Eq.trans (World.drewN_drewN _ _ _) (congrArg (World.drewN _) (Nat.add_assoc _ _ _))⟩); have p132 : 0 ≤ (0 : Int) := (by omega); have q132 : 0 < (l0_1.length : Int) := dA; obtain ⟨ad132, e132, hx132_0⟩ := Kd.at_int HR0_1.out 0 p132 q132; cases e132; have qi132 : (0 < l0_1.length) = True := eq_true (by omega); (try rw [show ((0 : Int)).toNat = 0 from rfl] at hx132_0); (try rw [Addr.add_zero'] at hx132_0); replace hx132_0 := (HB.out.cell (World.block_lt_of_cell? w _ hx132_0)).trans hx132_0; replace p132 := eq_true p132; replace q132 := eq_true q132)))
     go_meet
     case rel => exact ⟨_, (true), (by first | rfl | (simp; done) | (simp [*]; done)), H', ⟨by have := HJ1.out; first | omega | exact Nat.le_refl _⟩, ⟨bkC BK128⟩, ⟨hbC _⟩⟩
    rw [if_neg c25] at H
    have c25b0 : decide ((rd l0_1 0) < 0) = false := decide_eq_false c25
    clear c25
    obtain ⟨ji31, hji31⟩ : ∃ j_ : Int, (wrap64 ((l0_2.length : Int) + a0_0)) = j_ := ⟨_, rfl⟩
    replace H : (if 0 ≤ (ji31) then (if (ji31) < (l0_1.length : Int) then (curves_Curve_valid.j1 kj1 (l0_2.length : Int) a0_0 (decide ((rd l0_1 (ji31)) > 12)) a0_0 l0_1 l0_2) else (none)) else (none)) = some r := by first | (rw [hji31] at H; exact H) | (simp only [hji31] at H ⊢; exact H)
    (try rw [hji31] at A12)
    (try rw [hji31] at A16)
    (try rw [hji31] at A22)
    have hji31w : (IntKind.i64.wrap ((l0_2.length : Int) + a0_0)) = ji31 := (i64_w _).trans hji31
    by_cases c32 : 0 ≤ (ji31)
    rotate_left
    ·rw [if_neg c32] at H
     exact absurd H (by simp)
    rw [if_pos c32] at H
    have c32b0 : decide (0 ≤ (ji31)) = true := decide_eq_true c32
    clear c32
    by_cases c33 : (ji31) < (l0_1.length : Int)
    rotate_left
    ·rw [if_neg c33] at H
     exact absurd H (by simp)
    rw [if_pos c33] at H
    have c33b0 : decide ((ji31) < (l0_1.length : Int)) = true := decide_eq_true c33
    clear c33
    have H' := Aside0.mk H
    clear H
    have hcz34_0 : wc.cell? ⟨gb128, 0, none⟩ = some (.int .i64 a0_0) := bc BK128 0
    have hcz34_1 : wc.cell? ⟨gb128, 1, none⟩ = some (.slice A0_1 l0_1.length c0_1) := bc BK128 1
    have hcz34_2 : wc.cell? ⟨gb128, 2, none⟩ = some (.slice A0_2 l0_2.length c0_2) := bc BK128 2
    have hfz34_0 := fz BK128 0
    have hfz34_1 := fz BK128 1
    have hfz34_2 := fz BK128 2
    go_wp2_with (first | (go_at_call 37; (with_reducible refine (slices_Min_int_int.calls kj1 _ _ l0_2 t129 _ ?side1 ?side2 A12.out).mono ?_); (case side1 => exact kC HR0_2); (case side2 => exact HC0_2.out); rintro e w35 ⟨rfl, hb⟩; replace BK128 := kB BK128 hb; replace HB := kH _ hb; (try clear hb); (try clear hb2); (try clear hk); (try clear hi); have hcz36_0 : w35.cell? ⟨gb128, 0, none⟩ = some (.int .i64 a0_0) := bc BK128 0; have hcz36_1 : w35.cell? ⟨gb128, 1, none⟩ = some (.slice A0_1 l0_1.length c0_1) := bc BK128 1; have hcz36_2 : w35.cell? ⟨gb128, 2, none⟩ = some (.slice A0_2 l0_2.length c0_2) := bc BK128 2; have hfz36_0 := fz BK128 0; have hfz36_1 := fz BK128 1; have hfz36_2 := fz BK128 2) | (go_at_call 38; (with_reducible refine (slices_Max_int_int.calls kj1 _ _ l0_2 t130 _ ?side1 ?side2 A16.out).mono ?_); (case side1 => exact kC HR0_2); (case side2 => exact HC0_2.out); rintro e w37 ⟨rfl, hb⟩; replace BK128 := kB BK128 hb; replace HB := kH _ hb; (try clear hb); (try clear hb2); (try clear hk); (try clear hi); have hcz38_0 : w37.cell? ⟨gb128, 0, none⟩ = some (.int .i64 a0_0) := bc BK128 0; have hcz38_1 : w37.cell? ⟨gb128, 1, none⟩ = some (.slice A0_1 l0_1.length c0_1) := bc BK128 1; have hcz38_2 : w37.cell? ⟨gb128, 2, none⟩ = some (.slice A0_2 l0_2.length c0_2) := bc BK128 2; have hfz38_0 := fz BK128 0; have hfz38_1 := fz BK128 1; have hfz38_2 := fz BK128 2) | (go_at_call 39; (with_reducible refine (slices_IsSorted_int_int.calls kj1 _ _ l0_1 true _ ?side1 ?side2 A22.out).mono ?_); (case side1 => exact kC HR0_1); (case side2 => exact HC0_1.out); rintro e w' ⟨rfl, ⟨nd, rfl⟩⟩; (try first | exact ⟨rfl, _, World.drewN_drewN _ _ _⟩ | exact ⟨rfl, _, Eq.trans (World.drewN_drewN _ _ _) (congrArg (World.drewN _) (Nat.add_assoc _ _ _))⟩); have p132 : 0 ≤ (0 : Int) := (by omega); have q132 : 0 < (l0_1.length : Int) := dA; obtain ⟨ad132, e132, hx132_0⟩ := Kd.at_int HR0_1.out 0 p132 q132; cases e132; have qi132 : (0 < l0_1.length) = True := eq_true (by omega); (try rw [show ((0 : Int)).toNat = 0 from rfl] at hx132_0); (try rw [Addr.add_zero'] at hx132_0); replace hx132_0 := (HB.out.cell (World.block_lt_of_cell? w _ hx132_0)).trans hx132_0; replace p132 := eq_true p132; replace q132 := eq_true q132; have p133 : 0 ≤ ((ji31) : Int) := dA; have q133 : (ji31) < (l0_1.length : Int) := dA; obtain ⟨ad133, e133, hx133_0⟩ := Kd.at_int HR0_1.out (ji31) p133 q133; obtain rfl : ad132 = ad133 := (by injection e133); replace hx133_0 := (HB.out.cell (World.block_lt_of_cell? w _ hx133_0)).trans hx133_0; replace p133 := eq_true p133; replace q133 := eq_true q133))
    repeat (go_quiet (first | (go_at_call 37; (with_reducible refine (slices_Min_int_int.calls kj1 _ _ l0_2 t129 _ ?side1 ?side2 A12.out).mono ?_); (case side1 => exact kC HR0_2); (case side2 => exact HC0_2.out); rintro e w35 ⟨rfl, hb⟩; replace BK128 := kB BK128 hb; replace HB := kH _ hb; (try clear hb); (try clear hb2); (try clear hk); (try clear hi); have hcz36_0 : w35.cell? ⟨gb128, 0, none⟩ = some (.int .i64 a0_0) := bc BK128 0; have hcz36_1 : w35.cell? ⟨gb128, 1, none⟩ = some (.slice A0_1 l0_1.length c0_1) := bc BK128 1; have hcz36_2 : w35.cell? ⟨gb128, 2, none⟩ = some (.slice A0_2 l0_2.length c0_2) := bc BK128 2; have hfz36_0 := fz BK128 0; have hfz36_1 := fz BK128 1; have hfz36_2 := fz BK128 2) | (go_at_call 38; (with_reducible refine (slices_Max_int_int.calls kj1 _ _ l0_2 t130 _ ?side1 ?side2 A16.out).mono ?_); (case side1 => exact kC HR0_2); (case side2 => exact HC0_2.out); rintro e w37 ⟨rfl, hb⟩; replace BK128 := kB BK128 hb; replace HB := kH _ hb; (try clear hb); (try clear hb2); (try clear hk); (try clear hi); have hcz38_0 : w37.cell? ⟨gb128, 0, none⟩ = some (.int .i64 a0_0) := bc BK128 0; have hcz38_1 : w37.cell? ⟨gb128, 1, none⟩ = some (.slice A0_1 l0_1.length c0_1) := bc BK128 1; have hcz38_2 : w37.cell? ⟨gb128, 2, none⟩ = some (.slice A0_2 l0_2.length c0_2) := bc BK128 2; have hfz38_0 := fz BK128 0; have hfz38_1 := fz BK128 1; have hfz38_2 := fz BK128 2) | (go_at_call 39; (with_reducible refine (slices_IsSorted_int_int.calls kj1 _ _ l0_1 true _ ?side1 ?side2 A22.out).mono ?_); (case side1 => exact kC HR0_1); (case side2 => exact HC0_1.out); rintro e w' ⟨rfl, ⟨nd, rfl⟩⟩; (try first | exact ⟨rfl, _, World.drewN_drewN _ _ _⟩ | exact ⟨rfl, _, Eq.trans (World.drewN_drewN _ _ _) (congrArg (World.drewN _) (Nat.add_assoc _ _ _))⟩); have p132 : 0 ≤ (0 : Int) := (by omega); have q132 : 0 < (l0_1.length : Int) := dA; obtain ⟨ad132, e132, hx132_0⟩ := Kd.at_int HR0_1.out 0 p132 q132; cases e132; have qi132 : (0 < l0_1.length) = True := eq_true (by omega); (try rw [show ((0 : Int)).toNat = 0 from rfl] at hx132_0); (try rw [Addr.add_zero'] at hx132_0); replace hx132_0 := (HB.out.cell (World.block_lt_of_cell? w _ hx132_0)).trans hx132_0; replace p132 := eq_true p132; replace q132 := eq_true q132; have p133 : 0 ≤ ((ji31) : Int) := dA; have q133 : (ji31) < (l0_1.length : Int) := dA; obtain ⟨ad133, e133, hx133_0⟩ := Kd.at_int HR0_1.out (ji31) p133 q133; obtain rfl : ad132 = ad133 := (by injection e133); replace hx133_0 := (HB.out.cell (World.block_lt_of_cell? w _ hx133_0)).trans hx133_0; replace p133 := eq_true p133; replace q133 := eq_true q133)); try go_wp2_with (first | (go_at_call 37; (with_reducible refine (slices_Min_int_int.calls kj1 _ _ l0_2 t129 _ ?side1 ?side2 A12.out).mono ?_); (case side1 => exact kC HR0_2); (case side2 => exact HC0_2.out); rintro e w35 ⟨rfl, hb⟩; replace BK128 := kB BK128 hb; replace HB := kH _ hb; (try clear hb); (try clear hb2); (try clear hk); (try clear hi); have hcz36_0 : w35.cell? ⟨gb128, 0, none⟩ = some (.int .i64 a0_0) := bc BK128 0; have hcz36_1 : w35.cell? ⟨gb128, 1, none⟩ = some (.slice A0_1 l0_1.length c0_1) := bc BK128 1; have hcz36_2 : w35.cell? ⟨gb128, 2, none⟩ = some (.slice A0_2 l0_2.length c0_2) := bc BK128 2; have hfz36_0 := fz BK128 0; have hfz36_1 := fz BK128 1; have hfz36_2 := fz BK128 2) | (go_at_call 38; (with_reducible refine (slices_Max_int_int.calls kj1 _ _ l0_2 t130 _ ?side1 ?side2 A16.out).mono ?_); (case side1 => exact kC HR0_2); (case side2 => exact HC0_2.out); rintro e w37 ⟨rfl, hb⟩; replace BK128 := kB BK128 hb; replace HB := kH _ hb; (try clear hb); (try clear hb2); (try clear hk); (try clear hi); have hcz38_0 : w37.cell? ⟨gb128, 0, none⟩ = some (.int .i64 a0_0) := bc BK128 0; have hcz38_1 : w37.cell? ⟨gb128, 1, none⟩ = some (.slice A0_1 l0_1.length c0_1) := bc BK128 1; have hcz38_2 : w37.cell? ⟨gb128, 2, none⟩ = some (.slice A0_2 l0_2.length c0_2) := bc BK128 2; have hfz38_0 := fz BK128 0; have hfz38_1 := fz BK128 1; have hfz38_2 := fz BK128 2) | (go_at_call 39; (with_reducible refine (slices_IsSorted_int_int.calls kj1 _ _ l0_1 true _ ?side1 ?side2 A22.out).mono ?_); (case side1 => exact kC HR0_1); (case side2 => exact HC0_1.out); rintro e w' ⟨rfl, ⟨nd, rfl⟩⟩; (try first | exact ⟨rfl, _, World.drewN_drewN _ _ _⟩ | exact ⟨rfl, _, Eq.trans (World.drewN_drewN _ _ _) (congrArg (World.drewN _) (Nat.add_assoc _ _ _))⟩); have p132 : 0 ≤ (0 : Int) := (by omega); have q132 : 0 < (l0_1.length : Int) := dA; obtain ⟨ad132, e132, hx132_0⟩ := Kd.at_int HR0_1.out 0 p132 q132; cases e132; have qi132 : (0 < l0_1.length) = True := eq_true (by omega); (try rw [show ((0 : Int)).toNat = 0 from rfl] at hx132_0); (try rw [Addr.add_zero'] at hx132_0); replace hx132_0 := (HB.out.cell (World.block_lt_of_cell? w _ hx132_0)).trans hx132_0; replace p132 := eq_true p132; replace q132 := eq_true q132; have p133 : 0 ≤ ((ji31) : Int) := dA; have q133 : (ji31) < (l0_1.length : Int) := dA; obtain ⟨ad133, e133, hx133_0⟩ := Kd.at_int HR0_1.out (ji31) p133 q133; obtain rfl : ad132 = ad133 := (by injection e133); replace hx133_0 := (HB.out.cell (World.block_lt_of_cell? w _ hx133_0)).trans hx133_0; replace p133 := eq_true p133; replace q133 := eq_true q133)))
    go_meet
    case rel => exact ⟨_, (decide ((rd l0_1 (ji31)) > 12)), (by first | rfl | (simp; done) | (simp only [← hji31] <;> (first | rfl | simp)) | (simp [*]; done)), H', ⟨by have := HJ1.out; first | omega | exact Nat.le_refl _⟩, ⟨bkC BK128⟩, ⟨hbC _⟩⟩
   case rest =>
    clear HC11
    try clear c1
    try clear p1
    try clear q1
    try clear hx1
    try clear qi1
    try clear c2
    try clear p2
    try clear c3
    try clear c5
    try clear c5b0
    try clear c6
    try clear c6b0
    try clear p6
    try clear c7
    try clear c7b0
    try clear c8
    try clear c8b0
    try clear c8b1
    try clear c10
    try clear c13
    try clear c13b0
    try clear p13
    try clear q13
    try clear hx13
    try clear qi13
    try clear c17
    try clear c17b0
    try clear c23
    try clear c24
    try clear c24b0
    try clear c24b1
    try clear c25
    try clear c25b0
    try clear c32
    try clear c32b0
    try clear c33
    try clear c33b0
    try clear hcz14_0
    try clear hcz14_1
    try clear hcz14_2
    try clear hcz18_0
    try clear hcz18_1
    try clear hcz18_2
    try clear hcz20_0
    try clear hcz20_1
    try clear hcz20_2
    try clear hcz26_0
    try clear hcz26_1
    try clear hcz26_2
    try clear hcz28_0
    try clear hcz28_1
    try clear hcz28_2
    try clear hcz30_0
    try clear hcz30_1
    try clear hcz30_2
    try clear hcz34_0
    try clear hcz34_1
    try clear hcz34_2
    try clear hcz36_0
    try clear hcz36_1
    try clear hcz36_2
    try clear hcz38_0
    try clear hcz38_1
    try clear hcz38_2
    try clear hcz39_0
    try clear hcz39_1
    try clear hcz39_2
    try clear hcz41_0
    try clear hcz41_1
    try clear hcz41_2
    try clear hcz43_0
    try clear hcz43_1
    try clear hcz43_2
    try clear hcz4_0
    try clear hcz4_1
    try clear hcz4_2
    try clear hcz9_0
    try clear hcz9_1
    try clear hcz9_2
    try clear hfz14_0
    try clear hfz14_1
    try clear hfz14_2
    try clear hfz18_0
    try clear hfz18_1
    try clear hfz18_2
    try clear hfz20_0
    try clear hfz20_1
    try clear hfz20_2
    try clear hfz26_0
    try clear hfz26_1
    try clear hfz26_2
    try clear hfz28_0
    try clear hfz28_1
    try clear hfz28_2
    try clear hfz30_0
    try clear hfz30_1
    try clear hfz30_2
    try clear hfz34_0
    try clear hfz34_1
    try clear hfz34_2
    try clear hfz36_0
    try clear hfz36_1
    try clear hfz36_2
    try clear hfz38_0
    try clear hfz38_1
    try clear hfz38_2
    try clear hfz39_0
    try clear hfz39_1
    try clear hfz39_2
    try clear hfz41_0
    try clear hfz41_1
    try clear hfz41_2
    try clear hfz43_0
    try clear hfz43_1
    try clear hfz43_2
    try clear hfz4_0
    try clear hfz4_1
    try clear hfz4_2
    try clear hfz9_0
    try clear hfz9_1
    try clear hfz9_2
    try clear hx132_0
    try clear hx133_0
    try clear p132
    try clear p133
    try clear p2
    try clear p6
    try clear q132
    try clear q133
    obtain ⟨kq, x69_10, rfl, HA, HJ10, BK128, HB⟩ := hcut
    cases kq with
    | zero => exact absurd HA.out (by simp [curves_Curve_valid.j1])
    | succ kj10 =>
     have H := HA.out
     clear HA
     simp only [curves_Curve_valid.j1] at H
     by_cases c44 : x69_10 = true
     ·subst c44
      have H1 : (some false) = some r := by rw [if_pos rfl] at H; exact H
      clear H
      have H := H1
      clear H1
      obtain rfl := Option.some.inj H
      go_wp2
      repeat (go_quiet (fail); try go_wp2)
      go_ret
      exact ⟨by first | rfl | (simp [errW_none, errW_some] <;> rfl) | (simp [*, errW_none, errW_some] <;> rfl), hbC _⟩
     replace c44 := Bool.eq_false_iff.mpr c44
     subst c44
     have H1 : (curves_Curve_valid.l0 kj10 (l0_2.length : Int) a0_0 (l0_2.length : Int) 0 a0_0 l0_1 l0_2) = some r := by rw [if_neg (show ¬ (false = true) by decide)] at H; exact H
     clear H
     have H := H1
     clear H1
     have H' := Aside0.mk H
     clear H
     go_wp2
     repeat (go_quiet (fail); try go_wp2)
     go_loopg [71] kj10 (fun kq v71 w' => ∃ (x71_3 : Int), v71 = .int .i64 x71_3 ∧ Aside0 (curves_Curve_valid.l0 kq (l0_2.length : Int) a0_0 (l0_2.length : Int) x71_3 a0_0 l0_1 l0_2 = some r) ∧ Aside0 (kq ≤ kj10) ∧ Aside0 (w'.heap[gb128]? = some (.cells #[.int .i64 a0_0, (.slice A0_1 l0_1.length c0_1), (.slice A0_2 l0_2.length c0_2)] 31 (0, 0))) ∧ Aside0 (Below w.heap.size w w'))
     case atStart => exact ⟨(0), (by first | rfl | (simp; done) | (simp [*]; done)), H', ⟨Nat.le_refl _⟩, ⟨bkC BK128⟩, ⟨hbC _⟩⟩
     case round =>
      clear H'
      try clear c1
      try clear p1
      try clear q1
      try clear hx1
      try clear qi1
      try clear c2
      try clear p2
      try clear c3
      try clear c4
      try clear c5
      try clear c5b0
      try clear c6
      try clear c6b0
      try clear p6
      try clear c7
      try clear c7b0
      try clear c8
      try clear c8b0
      try clear c8b1
      try clear c10
      try clear c13
      try clear c13b0
      try clear p13
      try clear q13
      try clear hx13
      try clear qi13
      try clear c17
      try clear c17b0
      try clear c23
      try clear c24
      try clear c24b0
      try clear c24b1
      try clear c25
      try clear c25b0
      try clear c32
      try clear c32b0
      try clear c33
      try clear c33b0
      try clear c44
      try clear hcz14_0
      try clear hcz14_1
      try clear hcz14_2
      try clear hcz18_0
      try clear hcz18_1
      try clear hcz18_2
      try clear hcz20_0
      try clear hcz20_1
      try clear hcz20_2
      try clear hcz26_0
      try clear hcz26_1
      try clear hcz26_2
      try clear hcz28_0
      try clear hcz28_1
      try clear hcz28_2
      try clear hcz30_0
      try clear hcz30_1
      try clear hcz30_2
      try clear hcz34_0
      try clear hcz34_1
      try clear hcz34_2
      try clear hcz36_0
      try clear hcz36_1
      try clear hcz36_2
      try clear hcz38_0
      try clear hcz38_1
      try clear hcz38_2
      try clear hcz39_0
      try clear hcz39_1
      try clear hcz39_2
      try clear hcz41_0
      try clear hcz41_1
      try clear hcz41_2
      try clear hcz43_0
      try clear hcz43_1
      try clear hcz43_2
      try clear hcz4_0
      try clear hcz4_1
      try clear hcz4_2
      try clear hcz9_0
      try clear hcz9_1
      try clear hcz9_2
      try clear hfz14_0
      try clear hfz14_1
      try clear hfz14_2
      try clear hfz18_0
      try clear hfz18_1
      try clear hfz18_2
      try clear hfz20_0
      try clear hfz20_1
      try clear hfz20_2
      try clear hfz26_0
      try clear hfz26_1
      try clear hfz26_2
      try clear hfz28_0
      try clear hfz28_1
      try clear hfz28_2
      try clear hfz30_0
      try clear hfz30_1
      try clear hfz30_2
      try clear hfz34_0
      try clear hfz34_1
      try clear hfz34_2
      try clear hfz36_0
      try clear hfz36_1
      try clear hfz36_2
      try clear hfz38_0
      try clear hfz38_1
      try clear hfz38_2
      try clear hfz39_0
      try clear hfz39_1
      try clear hfz39_2
      try clear hfz41_0
      try clear hfz41_1
      try clear hfz41_2
      try clear hfz43_0
      try clear hfz43_1
      try clear hfz43_2
      try clear hfz4_0
      try clear hfz4_1
      try clear hfz4_2
      try clear hfz9_0
      try clear hfz9_1
      try clear hfz9_2
      try clear hx132_0
      try clear hx133_0
      try clear p1
      try clear p13
      try clear p132
      try clear p133
      try clear p2
      try clear p6
      try clear q1
      try clear q13
      try clear q132
      try clear q133
      obtain ⟨x71_3, rfl, HA, HK3, BK128, HB⟩ := hrel
      cases gk with
      | zero => exact absurd HA.out (by simp [curves_Curve_valid.l0])
      | succ k3 =>
       have H := HA.out
       clear HA
       simp only [curves_Curve_valid.l0] at H
       by_cases c45 : x71_3 < (l0_2.length : Int)
       rotate_left
       ·rw [if_neg c45] at H
        have c45b0 : decide (x71_3 < (l0_2.length : Int)) = false := decide_eq_false c45
        clear c45
        by_cases c55 : 0 ≤ a0_0
        rotate_left
        ·rw [if_neg c55] at H
         exact absurd H (by simp)
        rw [if_pos c55] at H
        have c55b0 : decide (0 ≤ a0_0) = true := decide_eq_true c55
        clear c55
        by_cases c56 : a0_0 < (l0_1.length : Int)
        rotate_left
        ·rw [if_neg c56] at H
         exact absurd H (by simp)
        rw [if_pos c56] at H
        have c56b0 : decide (a0_0 < (l0_1.length : Int)) = true := decide_eq_true c56
        clear c56
        by_cases c57 : 0 ≤ (l0_2.length : Int)
        rotate_left
        ·rw [if_neg c57] at H
         exact absurd H (by simp)
        rw [if_pos c57] at H
        have c57b0 : decide (0 ≤ (l0_2.length : Int)) = true := decide_eq_true c57
        have c57b1 : decide (0 ≤ l0_2.length) = true := decide_eq_true (by omega)
        clear c57
        by_cases c58 : (l0_2.length : Int) < (l0_1.length : Int)
        rotate_left
        ·rw [if_neg c58] at H
         exact absurd H (by simp)
        rw [if_pos c58] at H
        have c58b0 : decide ((l0_2.length : Int) < (l0_1.length : Int)) = true := decide_eq_true c58
        have c58b1 : decide (l0_2.length < l0_1.length) = true := decide_eq_true (Int.ofNat_lt.mp c58)
        clear c58
        obtain rfl := Option.some.inj H
        have hcz59_0 : wr.cell? ⟨gb128, 0, none⟩ = some (.int .i64 a0_0) := bc BK128 0
        have hcz59_1 : wr.cell? ⟨gb128, 1, none⟩ = some (.slice A0_1 l0_1.length c0_1) := bc BK128 1
        have hcz59_2 : wr.cell? ⟨gb128, 2, none⟩ = some (.slice A0_2 l0_2.length c0_2) := bc BK128 2
        have hfz59_0 := fz BK128 0
        have hfz59_1 := fz BK128 1
        have hfz59_2 := fz BK128 2
        have p136 : 0 ≤ (a0_0 : Int) := dA
        have q136 : a0_0 < (l0_1.length : Int) := dA
        obtain ⟨ad136, e136, hx136_0⟩ := Kd.at_int HR0_1.out a0_0 p136 q136
        cases e136
        try replace hx136_0 := (HB.out.cell (World.block_lt_of_cell? w _ hx136_0)).trans hx136_0
        replace p136 := eq_true p136
        replace q136 := eq_true q136
        have p137 : 0 ≤ ((l0_2.length : Int) : Int) := dA
        have q137 : (l0_2.length : Int) < (l0_1.length : Int) := dA
        obtain ⟨ad137, e137, hx137_0⟩ := Kd.at_int HR0_1.out (l0_2.length : Int) p137 q137
        obtain rfl : ad136 = ad137 := (by injection e137)
        try replace hx137_0 := (HB.out.cell (World.block_lt_of_cell? w _ hx137_0)).trans hx137_0
        (try simp only [Go.IntWalk.toNatUp] at hx137_0)
        replace p137 := eq_true p137
        replace q137 := eq_true q137
        go_wp2
        repeat (go_quiet (fail); try go_wp2)
        go_ret
        exact ⟨by first | rfl | (simp [errW_none, errW_some] <;> rfl) | (simp [*, errW_none, errW_some] <;> rfl), hbC _⟩
       rw [if_pos c45] at H
       have c45b0 : decide (x71_3 < (l0_2.length : Int)) = true := decide_eq_true c45
       clear c45
       by_cases c46 : (wrap64 ((wrap64 (x71_3 + a0_0)) + 1)) < (l0_1.length : Int)
       rotate_left
       ·rw [if_neg c46] at H
        have c46b0 : decide ((wrap64 ((wrap64 (x71_3 + a0_0)) + 1)) < (l0_1.length : Int)) = false := decide_eq_false c46
        clear c46
        have H' := Aside0.mk H
        clear H
        have hcz54_0 : wr.cell? ⟨gb128, 0, none⟩ = some (.int .i64 a0_0) := bc BK128 0
        have hcz54_1 : wr.cell? ⟨gb128, 1, none⟩ = some (.slice A0_1 l0_1.length c0_1) := bc BK128 1
        have hcz54_2 : wr.cell? ⟨gb128, 2, none⟩ = some (.slice A0_2 l0_2.length c0_2) := bc BK128 2
        have hfz54_0 := fz BK128 0
        have hfz54_1 := fz BK128 1
        have hfz54_2 := fz BK128 2
        go_wp2
        repeat (go_quiet (fail); try go_wp2)
        go_roundg k3
        case measure => have := HJ1.out; have := HJ10.out; have := HK3.out; omega
        case rel => exact ⟨(wrap64 (x71_3 + 1)), (by first | rfl | (simp; done) | (simp [*]; done)), H', ⟨by have := HJ1.out; have := HJ10.out; have := HK3.out; omega⟩, ⟨bkC BK128⟩, ⟨hbC _⟩⟩
       rw [if_pos c46] at H
       have c46b0 : decide ((wrap64 ((wrap64 (x71_3 + a0_0)) + 1)) < (l0_1.length : Int)) = true := decide_eq_true c46
       clear c46
       by_cases c47 : 0 ≤ x71_3
       rotate_left
       ·rw [if_neg c47] at H
        exact absurd H (by simp)
       rw [if_pos c47] at H
       have c47b0 : decide (0 ≤ x71_3) = true := decide_eq_true c47
       clear c47
       by_cases c48 : x71_3 < (l0_1.length : Int)
       rotate_left
       ·rw [if_neg c48] at H
        exact absurd H (by simp)
       rw [if_pos c48] at H
       have c48b0 : decide (x71_3 < (l0_1.length : Int)) = true := decide_eq_true c48
       clear c48
       obtain ⟨ji49, hji49⟩ : ∃ j_ : Int, (wrap64 ((wrap64 (x71_3 + a0_0)) + 1)) = j_ := ⟨_, rfl⟩
       replace H : (if 0 ≤ (ji49) then (if (rd l0_1 x71_3) = (rd l0_1 (ji49)) then (some false) else (curves_Curve_valid.l0 k3 (l0_2.length : Int) a0_0 (l0_2.length : Int) (wrap64 (x71_3 + 1)) a0_0 l0_1 l0_2)) else (none)) = some r := by first | (rw [hji49] at H; exact H) | (simp only [hji49] at H ⊢; exact H)
       (try rw [hji49] at c46b0)
       have hji49w : (IntKind.i64.wrap ((wrap64 (x71_3 + a0_0)) + 1)) = ji49 := (i64_w _).trans hji49
       by_cases c50 : 0 ≤ (ji49)
       rotate_left
       ·rw [if_neg c50] at H
        exact absurd H (by simp)
       rw [if_pos c50] at H
       have c50b0 : decide (0 ≤ (ji49)) = true := decide_eq_true c50
       clear c50
       by_cases c51 : (rd l0_1 x71_3) = (rd l0_1 (ji49))
       ·rw [if_pos c51] at H
        have c51b0 : ((rd l0_1 x71_3) == (rd l0_1 (ji49))) = true := beq_iff_eq.mpr c51
        have c51b1 : ((rd l0_1 x71_3) != (rd l0_1 (ji49))) = false := bne_eq_false_iff_eq.mpr c51
        clear c51
        obtain rfl := Option.some.inj H
        have hcz52_0 : wr.cell? ⟨gb128, 0, none⟩ = some (.int .i64 a0_0) := bc BK128 0
        have hcz52_1 : wr.cell? ⟨gb128, 1, none⟩ = some (.slice A0_1 l0_1.length c0_1) := bc BK128 1
        have hcz52_2 : wr.cell? ⟨gb128, 2, none⟩ = some (.slice A0_2 l0_2.length c0_2) := bc BK128 2
        have hfz52_0 := fz BK128 0
        have hfz52_1 := fz BK128 1
        have hfz52_2 := fz BK128 2
        have p134 : 0 ≤ (x71_3 : Int) := dA
        have q134 : x71_3 < (l0_1.length : Int) := dA
        obtain ⟨ad134, e134, hx134_0⟩ := Kd.at_int HR0_1.out x71_3 p134 q134
        cases e134
        try replace hx134_0 := (HB.out.cell (World.block_lt_of_cell? w _ hx134_0)).trans hx134_0
        replace p134 := eq_true p134
        replace q134 := eq_true q134
        have p135 : 0 ≤ ((ji49) : Int) := dA
        have q135 : (ji49) < (l0_1.length : Int) := dA
        obtain ⟨ad135, e135, hx135_0⟩ := Kd.at_int HR0_1.out (ji49) p135 q135
        obtain rfl : ad134 = ad135 := (by injection e135)
        try replace hx135_0 := (HB.out.cell (World.block_lt_of_cell? w _ hx135_0)).trans hx135_0
        replace p135 := eq_true p135
        replace q135 := eq_true q135
        go_wp2
        repeat (go_quiet (fail); try go_wp2)
        go_ret
        exact ⟨by first | rfl | (simp [errW_none, errW_some] <;> rfl) | (simp only [← hji49]; first | rfl | (simp [errW_none, errW_some] <;> rfl)) | (simp [*, errW_none, errW_some] <;> rfl), hbC _⟩
       rw [if_neg c51] at H
       have c51b0 : ((rd l0_1 x71_3) == (rd l0_1 (ji49))) = false := beq_eq_false_iff_ne.mpr c51
       have c51b1 : ((rd l0_1 x71_3) != (rd l0_1 (ji49))) = true := bne_iff_ne.mpr c51
       have H' := Aside0.mk H
       clear H
       have hcz53_0 : wr.cell? ⟨gb128, 0, none⟩ = some (.int .i64 a0_0) := bc BK128 0
       have hcz53_1 : wr.cell? ⟨gb128, 1, none⟩ = some (.slice A0_1 l0_1.length c0_1) := bc BK128 1
       have hcz53_2 : wr.cell? ⟨gb128, 2, none⟩ = some (.slice A0_2 l0_2.length c0_2) := bc BK128 2
       have hfz53_0 := fz BK128 0
       have hfz53_1 := fz BK128 1
       have hfz53_2 := fz BK128 2
       have p134 : 0 ≤ (x71_3 : Int) := dA
       have q134 : x71_3 < (l0_1.length : Int) := dA
       obtain ⟨ad134, e134, hx134_0⟩ := Kd.at_int HR0_1.out x71_3 p134 q134
       cases e134
       try replace hx134_0 := (HB.out.cell (World.block_lt_of_cell? w _ hx134_0)).trans hx134_0
       replace p134 := eq_true p134
       replace q134 := eq_true q134
       have p135 : 0 ≤ ((ji49) : Int) := dA
       have q135 : (ji49) < (l0_1.length : Int) := dA
       obtain ⟨ad135, e135, hx135_0⟩ := Kd.at_int HR0_1.out (ji49) p135 q135
       obtain rfl : ad134 = ad135 := (by injection e135)
       try replace hx135_0 := (HB.out.cell (World.block_lt_of_cell? w _ hx135_0)).trans hx135_0
       replace p135 := eq_true p135
       replace q135 := eq_true q135
       go_wp2
       repeat (go_quiet (fail); try go_wp2)
       go_roundg k3
       case measure => have := HJ1.out; have := HJ10.out; have := HK3.out; omega
       case rel => exact ⟨(wrap64 (x71_3 + 1)), (by first | rfl | (simp; done) | (simp [*]; done)), H', ⟨by have := HJ1.out; have := HJ10.out; have := HK3.out; omega⟩, ⟨bkC BK128⟩, ⟨hbC _⟩⟩

end Go.Proofs.YtpnocmkpeogifaaDoor.X
