-- Written by a program of this work (wip/xprint.py, over the kit's printer) out of the translation.
import Derived.Test.YtpnocmkpeogifaaX0
import Derived.Test.YtpnocmkpeogifaaXG1a
import Derived.Test.YtpnocmkpeogifaaXG2a
import Derived.Test.YtpnocmkpeogifaaXG3a
import Derived.Test.YtpnocmkpeogifaaXf57
namespace Go.Proofs.Ytpnocmkpeogifaa.X
open Go.RowKit Go.Proofs.YtpnocmkpeogifaaW.PrintWords Go.Proofs.YtpnocmkpeogifaaW.PrintLast Go.Proofs.YtpnocmkpeogifaaW.PrintMore
attribute [local go_sem] max2_int min2_int max_two min_two max_three min_three max_four min_four   -- for this text's walks alone
set_option linter.unusedVariables false
set_option linter.unusedSimpArgs false

/-! ### congouref04_Insert: function 46 -/
mutual
def congouref04_Insert.l0 : Nat → Int → Int → Int → List Int → Int → Int → Int → List Int → List Int → Option ((List (S26)) × Int)
 | 0, _, _, _, _, _, _, _, _, _ => none
 | k + 1, x1, x6, x7, x18, x19, x20, x1103000, x1103001, x1103002 => if x20 < x19 then (if 0 ≤ x20 then (if x20 < (x18.length : Int) then (if (rd x18 x20) = x1 then (if (rd x18 x20) ≤ x1 then (congouref04_Insert.l0 k x1 (wrap64 (x6 + 1)) x20 x18 x19 (wrap64 (x20 + 1)) x1103000 x1103001 x1103002) else (congouref04_Insert.l0 k x1 (wrap64 (x6 + 1)) x7 x18 x19 (wrap64 (x20 + 1)) x1103000 x1103001 x1103002)) else (if (rd x18 x20) ≤ x1 then (congouref04_Insert.l0 k x1 x6 x20 x18 x19 (wrap64 (x20 + 1)) x1103000 x1103001 x1103002) else (congouref04_Insert.l0 k x1 x6 x7 x18 x19 (wrap64 (x20 + 1)) x1103000 x1103001 x1103002))) else (none)) else (none)) else (if x6 > x1103000 then (some (([] : List (S26)), 4)) else (congouref04_Insert.l1 k x1 x7 ([] : List (S26)) (wrap64 ((x1103002.length : Int) + 1)) 0 x1103000 x1103001 x1103002))
def congouref04_Insert.l1 : Nat → Int → Int → List (S26) → Int → Int → Int → List Int → List Int → Option ((List (S26)) × Int)
 | 0, _, _, _, _, _, _, _, _ => none
 | k + 1, x1, x7, x10, x42, x43, x1103000, x1103001, x1103002 => if x43 < x42 then (if x43 ≤ (wrap64 (x7 - x1103000)) then (if 0 ≤ x43 then (if x43 < (x1103002.length : Int) then ((congouref04_whole.f (rd x1103002 x43)).bind fun bt1105 => (if x10.length < 8796093022208 then (congouref04_Insert.l1 k x1 x7 (x10 ++ [(⟨bt1105.1, bt1105.2⟩ : S26)]) x42 (wrap64 (x43 + 1)) x1103000 x1103001 x1103002) else (none))) else (none)) else (none)) else (if x43 > x7 then (if 0 ≤ (wrap64 (x43 - 1)) then (if (wrap64 (x43 - 1)) < (x1103002.length : Int) then ((congouref04_whole.f (rd x1103002 (wrap64 (x43 - 1)))).bind fun bt1111 => (if x10.length < 8796093022208 then (congouref04_Insert.l1 k x1 x7 (x10 ++ [(⟨bt1111.1, bt1111.2⟩ : S26)]) x42 (wrap64 (x43 + 1)) x1103000 x1103001 x1103002) else (none))) else (none)) else (none)) else (if 0 ≤ x43 then (if x43 < (x1103001.length : Int) then (if 0 ≤ (wrap64 (x43 + x1103000)) then (if (wrap64 (x43 + x1103000)) < (x1103001.length : Int) then ((congouref04_Frac.f k (wrap64 (x1 - (rd x1103001 x43))) (wrap64 ((rd x1103001 (wrap64 (x43 + x1103000))) - (rd x1103001 x43)))).bind fun bt1119 => (if x43 < (x1103002.length : Int) then ((congouref04_whole.f (rd x1103002 x43)).bind fun bt1123 => ((congouref04_Times.f k bt1119.1 bt1119.2 bt1123.1 bt1123.2).bind fun bt1125 => ((congouref04_Frac.f k (wrap64 (bt1119.2 - bt1119.1)) bt1119.2).bind fun bt1127 => (if 0 ≤ (wrap64 (x43 - 1)) then (if (wrap64 (x43 - 1)) < (x1103002.length : Int) then ((congouref04_whole.f (rd x1103002 (wrap64 (x43 - 1)))).bind fun bt1130 => ((congouref04_Times.f k bt1127.1 bt1127.2 bt1130.1 bt1130.2).bind fun bt1132 => ((congouref04_Plus.f k bt1125.1 bt1125.2 bt1132.1 bt1132.2).bind fun bt1134 => (if x10.length < 8796093022208 then (congouref04_Insert.l1 k x1 x7 (x10 ++ [(⟨bt1134.1, bt1134.2⟩ : S26)]) x42 (wrap64 (x43 + 1)) x1103000 x1103001 x1103002) else (none))))) else (none)) else (none))))) else (none))) else (none)) else (none)) else (none)) else (none)))) else (some (x10, 0))
end
def congouref04_Insert.f (k : Nat) (a0_0 : Int) (l0_1 : List Int) (l0_2 : List Int) (a1 : Int) : Option ((List (S26)) × Int) := if (l0_2.length : Int) ≥ 8 then (some (([] : List (S26)), 6)) else (congouref04_Insert.l0 k a1 0 0 l0_1 (l0_1.length : Int) 0 a0_0 l0_1 l0_2)
theorem congouref04_Insert.mono_l : ∀ k, (∀ y0 y1 y2 y3 y4 y5 y6 y7 y8, LeO (congouref04_Insert.l0 k y0 y1 y2 y3 y4 y5 y6 y7 y8) (congouref04_Insert.l0 (k + 1) y0 y1 y2 y3 y4 y5 y6 y7 y8)) ∧ (∀ y0 y1 y2 y3 y4 y5 y6 y7, LeO (congouref04_Insert.l1 k y0 y1 y2 y3 y4 y5 y6 y7) (congouref04_Insert.l1 (k + 1) y0 y1 y2 y3 y4 y5 y6 y7))
 | 0 => ⟨fun _ _ _ _ _ _ _ _ _ r h => by simp [congouref04_Insert.l0] at h, fun _ _ _ _ _ _ _ _ r h => by simp [congouref04_Insert.l1] at h⟩
 | k + 1 => by
  obtain ⟨ih0, ih1⟩ := congouref04_Insert.mono_l k
  refine ⟨?_, ?_⟩
  ·intro y0 y1 y2 y3 y4 y5 y6 y7 y8
   unfold congouref04_Insert.l0
   repeat' first
   | (with_reducible exact ih0 _ _ _ _ _ _ _ _ _)
   | (with_reducible exact ih1 _ _ _ _ _ _ _ _)
   | (with_reducible exact congouref04_Frac.mono _ _ _)
   | (with_reducible exact congouref04_Plus.mono _ _ _ _ _)
   | (with_reducible exact congouref04_Times.mono _ _ _ _ _)
   | (with_reducible exact LeO.refl _)
   | (with_reducible exact LeO.none _)
   | (with_reducible refine LeO.ite ?_ ?_)
   | (with_reducible refine LeO.bind ?_ (fun _ => ?_))
   | exact ih0 _ _ _ _ _ _ _ _ _
   | exact ih1 _ _ _ _ _ _ _ _
   | exact congouref04_Frac.mono _ _ _
   | exact congouref04_Plus.mono _ _ _ _ _
   | exact congouref04_Times.mono _ _ _ _ _
   | exact LeO.none _
   | refine LeO.ite ?_ ?_
   | refine LeO.bind ?_ (fun _ => ?_)
  ·intro y0 y1 y2 y3 y4 y5 y6 y7
   unfold congouref04_Insert.l1
   repeat' first
   | (with_reducible exact ih0 _ _ _ _ _ _ _ _ _)
   | (with_reducible exact ih1 _ _ _ _ _ _ _ _)
   | (with_reducible exact congouref04_Frac.mono _ _ _)
   | (with_reducible exact congouref04_Plus.mono _ _ _ _ _)
   | (with_reducible exact congouref04_Times.mono _ _ _ _ _)
   | (with_reducible exact LeO.refl _)
   | (with_reducible exact LeO.none _)
   | (with_reducible refine LeO.ite ?_ ?_)
   | (with_reducible refine LeO.bind ?_ (fun _ => ?_))
   | exact ih0 _ _ _ _ _ _ _ _ _
   | exact ih1 _ _ _ _ _ _ _ _
   | exact congouref04_Frac.mono _ _ _
   | exact congouref04_Plus.mono _ _ _ _ _
   | exact congouref04_Times.mono _ _ _ _ _
   | exact LeO.none _
   | refine LeO.ite ?_ ?_
   | refine LeO.bind ?_ (fun _ => ?_)
theorem congouref04_Insert.mono : ∀ a0 a1 a2 a3 k, LeO (congouref04_Insert.f k a0 a1 a2 a3) (congouref04_Insert.f (k + 1) a0 a1 a2 a3) := by
 intro a0 a1 a2 a3 k
 obtain ⟨ih0, ih1⟩ := congouref04_Insert.mono_l k
 unfold congouref04_Insert.f
 repeat' first
   | (with_reducible exact ih0 _ _ _ _ _ _ _ _ _)
   | (with_reducible exact ih1 _ _ _ _ _ _ _ _)
   | (with_reducible exact congouref04_Frac.mono _ _ _)
   | (with_reducible exact congouref04_Plus.mono _ _ _ _ _)
   | (with_reducible exact congouref04_Times.mono _ _ _ _ _)
   | (with_reducible exact LeO.refl _)
   | (with_reducible exact LeO.none _)
   | (with_reducible refine LeO.ite ?_ ?_)
   | (with_reducible refine LeO.bind ?_ (fun _ => ?_))
   | exact ih0 _ _ _ _ _ _ _ _ _
   | exact ih1 _ _ _ _ _ _ _ _
   | exact congouref04_Frac.mono _ _ _
   | exact congouref04_Plus.mono _ _ _ _ _
   | exact congouref04_Times.mono _ _ _ _ _
   | exact LeO.none _
   | refine LeO.ite ?_ ?_
   | refine LeO.bind ?_ (fun _ => ?_)
def congouref04_Insert.T18 : Bool × List (List Nat × List Nat) := (true, [([], []), ([], []), ([1], [1]), ([], []), ([2, 3], [2, 3]), ([4], [4]), ([0, 5], [0, 5]), ([], []), ([7], [7]), ([], []), ([], []), ([10], [10]), ([9, 11], [9, 11]), ([8, 12], [8, 12]), ([13], [13]), ([], []), ([15], [15]), ([], []), ([16, 17], [16, 17]), ([18], [18]), ([14, 19], [14, 19]), ([6, 20], [6, 20]), ([], []), ([22, 21, 21, 0, 1, 2, 3, 4, 5, 6, 7, 8, 9, 10, 11, 12, 13, 14, 15, 16, 17, 18, 19, 20, 21, 22], [21, 22])])
def congouref04_Insert.B18 : List Nat := [0, 0, 2, 0, 14, 30, 63, 0, 128, 0, 0, 1024, 3584, 8064, 16256, 0, 32768, 0, 229376, 491520, 1048448, 2097151, 0, 8388607]
theorem congouref04_Insert.tab18 : rtab .any (opsOf Try.f46 18) = congouref04_Insert.T18 := by kernel_rfl
theorem congouref04_Insert.bits18 : waitsOk congouref04_Insert.T18.2 congouref04_Insert.B18 = true := by kernel_rfl
def congouref04_Insert.T19 : Bool × List (List Nat × List Nat) := (true, [([], []), ([], []), ([], []), ([2], [2]), ([], []), ([3, 4], [3, 4]), ([5], [5]), ([6], [6]), ([1, 7, 7], [1, 7]), ([], []), ([9], [9]), ([], []), ([11], [11]), ([10, 12], [10, 12]), ([], []), ([14], [14]), ([13, 15, 8], [13, 15]), ([], []), ([17], [17]), ([], []), ([19], [19]), ([18, 20], [18, 20]), ([21], [21]), ([22, 16], [22]), ([16, 23, 23], [16, 23]), ([8, 24, 24], [8, 24]), ([25], [25]), ([0, 26, 25], [0, 26]), ([27, 27, 0, 1, 2, 3, 4, 5, 6, 7, 8, 9, 10, 11, 12, 13, 14, 15, 16, 17, 18, 19, 20, 21, 22, 23, 24, 25, 26, 27], [0, 27])])
def congouref04_Insert.B19 : List Nat := [0, 0, 0, 4, 0, 28, 60, 124, 254, 0, 512, 0, 2048, 7680, 0, 16384, 65534, 0, 131072, 0, 524288, 1966080, 4063232, 8388606, 16777214, 33554430, 67108862, 134217727, 268435455]
theorem congouref04_Insert.tab19 : rtab .any (opsOf Try.f46 19) = congouref04_Insert.T19 := by kernel_rfl
theorem congouref04_Insert.bits19 : waitsOk congouref04_Insert.T19.2 congouref04_Insert.B19 = true := by kernel_rfl
set_option maxHeartbeats 8000000 in
set_option maxRecDepth 100000 in
theorem congouref04_Insert.calls (k : Nat) (a0_0 : Int) (A0_1 : Option Addr) (c0_1 : Nat) (l0_1 : List Int) (A0_2 : Option Addr) (c0_2 : Nat) (l0_2 : List Int) (a1 : Int) (r1 : List (S26)) (r2 : Int) (w : World) (hr0_1 : Kd.C (Kd.int .i64) w A0_1 l0_1.length l0_1) (hc0_1 : l0_1.length ≤ c0_1) (hr0_2 : Kd.C (Kd.int .i64) w A0_2 l0_2.length l0_2) (hc0_2 : l0_2.length ≤ c0_2) (h : congouref04_Insert.f k a0_0 l0_1 l0_2 a1 = some (r1, r2)) :
  Calls Try.prog 46 #[.agg #[.int .i64 a0_0, .slice A0_1 l0_1.length c0_1, .slice A0_2 l0_2.length c0_2], .int .i64 a1] w fun e w' => ∃ v0_ : Value, e = .returned (.tuple #[v0_, .int .i64 r2]) ∧ Kd.R k26 26 w' w.heap.size (fun _ => True) v0_ r1 ∧ Below w.heap.size w w' := by
 have hu24 := Try.underlying24
 have hu26 := Try.underlying26
 have HR0_1 := Aside0.mk hr0_1
 have HC0_1 := Aside0.mk hc0_1
 clear hr0_1 hc0_1
 have HR0_2 := Aside0.mk hr0_2
 have HC0_2 := Aside0.mk hc0_2
 clear hr0_2 hc0_2
 have HB := ak (Below.refl w.heap.size w)
 have H : (if (l0_2.length : Int) ≥ 8 then (some (([] : List (S26)), 6)) else (congouref04_Insert.l0 k a1 0 0 l0_1 (l0_1.length : Int) 0 a0_0 l0_1 l0_2)) = some (r1, r2) := h
 clear h
 by_cases c3 : (l0_2.length : Int) ≥ 8
 ·rw [if_pos c3] at H
  have c3b0 : decide (8 ≤ (l0_2.length : Int)) = true := decide_eq_true c3
  have c3b1 : decide (8 ≤ l0_2.length) = true := decide_eq_true (by omega)
  clear c3
  simp only [Option.some.injEq, Prod.mk.injEq] at H
  obtain ⟨rfl, rfl⟩ := H
  go_enter Try.func46, Try.ntmps46
  go_wp2_with (first | ((with_reducible refine gate_dst (N := 2) rfl ?_); refine bE 2 #[.int .i64 a0_0, .slice A0_1 l0_1.length c0_1, .slice A0_2 l0_2.length c0_2] 24 ?_; intro gb1102 hg w4 hbox hb; have BK1102 := ak (hbox); have GW1102 := kG w hg; have GE1102 := kG w hg; replace HB := kH _ hb; clear hb hbox hg; have hcz5_0 : w4.cell? ⟨gb1102, 0, none⟩ = some (.int .i64 a0_0) := bc BK1102 0; have hcz5_1 : w4.cell? ⟨gb1102, 1, none⟩ = some (.slice A0_1 l0_1.length c0_1) := bc BK1102 1; have hcz5_2 : w4.cell? ⟨gb1102, 2, none⟩ = some (.slice A0_2 l0_2.length c0_2) := bc BK1102 2; have hfz5_0 := fz BK1102 0; have hfz5_1 := fz BK1102 1; have hfz5_2 := fz BK1102 2))
  go_ret2
  exact ⟨_, by first | rfl | (simp [errW_none, errW_some] <;> rfl) | (simp [*, errW_none, errW_some] <;> rfl), by first | exact Kd.R_nil _ _ _ _ _ | exact Kd.N_nil _ _ _ _ _ | exact Kd.V_nil _ _ _ _ _ | exact Kd.Q_nil _ _ _ _ _ | exact Kd.S_nil _ _ _ _ _, hbC _⟩
 rw [if_neg c3] at H
 have c3b0 : decide (8 ≤ (l0_2.length : Int)) = false := decide_eq_false c3
 have c3b1 : decide (8 ≤ l0_2.length) = false := decide_eq_false (by omega)
 clear c3
 have H' := Aside0.mk H
 clear H
 go_enter Try.func46, Try.ntmps46
 go_wp2_with (first | ((with_reducible refine gate_dst (N := 2) rfl ?_); refine bE 2 #[.int .i64 a0_0, .slice A0_1 l0_1.length c0_1, .slice A0_2 l0_2.length c0_2] 24 ?_; intro gb1102 hg w6 hbox hb; have BK1102 := ak (hbox); have GW1102 := kG w hg; have GE1102 := kG w hg; replace HB := kH _ hb; clear hb hbox hg; have hcz7_0 : w6.cell? ⟨gb1102, 0, none⟩ = some (.int .i64 a0_0) := bc BK1102 0; have hcz7_1 : w6.cell? ⟨gb1102, 1, none⟩ = some (.slice A0_1 l0_1.length c0_1) := bc BK1102 1; have hcz7_2 : w6.cell? ⟨gb1102, 2, none⟩ = some (.slice A0_2 l0_2.length c0_2) := bc BK1102 2; have hfz7_0 := fz BK1102 0; have hfz7_1 := fz BK1102 1; have hfz7_2 := fz BK1102 2))
 go_loopg [6, 7, 20] k (fun kq v6 v7 v20 w' => ∃ (x6_1 : Int) (x7_1 : Int) (x20_1 : Int), v6 = .int .i64 x6_1 ∧ v7 = .int .i64 x7_1 ∧ v20 = .int .i64 x20_1 ∧ Aside0 (congouref04_Insert.l0 kq a1 x6_1 x7_1 l0_1 (l0_1.length : Int) x20_1 a0_0 l0_1 l0_2 = some (r1, r2)) ∧ Aside0 (kq ≤ k) ∧ Aside0 (w'.heap[gb1102]? = some (.cells #[.int .i64 a0_0, (.slice A0_1 l0_1.length c0_1), (.slice A0_2 l0_2.length c0_2)] 24 (0, 0))) ∧ Aside0 (Below w.heap.size w w'))
 case atStart => exact ⟨(0), (0), (0), (by first | rfl | (simp; done) | (simp [*]; done)), (by first | rfl | (simp; done) | (simp [*]; done)), (by first | rfl | (simp; done) | (simp [*]; done)), H', ⟨Nat.le_refl _⟩, ⟨bkC BK1102⟩, ⟨hbC _⟩⟩
 case round =>
  clear H'
  try clear p2
  try clear c3
  try clear c3b0
  try clear c3b1
  try clear c4
  try clear hcz5_0
  try clear hcz5_1
  try clear hcz5_2
  try clear hcz7_0
  try clear hcz7_1
  try clear hcz7_2
  try clear hfz5_0
  try clear hfz5_1
  try clear hfz5_2
  try clear hfz7_0
  try clear hfz7_1
  try clear hfz7_2
  obtain ⟨x6_1, x7_1, x20_1, rfl, rfl, rfl, HA, HK1, BK1102, HB⟩ := hrel
  cases gk with
  | zero => exact absurd HA.out (by simp [congouref04_Insert.l0])
  | succ k1 =>
   have H := HA.out
   clear HA
   simp only [congouref04_Insert.l0] at H
   by_cases c8 : x20_1 < (l0_1.length : Int)
   ·rw [if_pos c8] at H
    have c8b0 : decide (x20_1 < (l0_1.length : Int)) = true := decide_eq_true c8
    clear c8
    by_cases c9 : 0 ≤ x20_1
    rotate_left
    ·rw [if_neg c9] at H
     exact absurd H (by simp)
    rw [if_pos c9] at H
    have c9b0 : decide (0 ≤ x20_1) = true := decide_eq_true c9
    clear c9
    by_cases c10 : x20_1 < (l0_1.length : Int)
    rotate_left
    ·rw [if_neg c10] at H
     exact absurd H (by simp)
    rw [if_pos c10] at H
    have c10b0 : decide (x20_1 < (l0_1.length : Int)) = true := decide_eq_true c10
    clear c10
    by_cases c11 : (rd l0_1 x20_1) = a1
    rotate_left
    ·rw [if_neg c11] at H
     have c11b0 : ((rd l0_1 x20_1) == a1) = false := beq_eq_false_iff_ne.mpr c11
     have c11b1 : ((rd l0_1 x20_1) != a1) = true := bne_iff_ne.mpr c11
     by_cases c13 : (rd l0_1 x20_1) ≤ a1
     ·rw [if_pos c13] at H
      have c13b0 : decide ((rd l0_1 x20_1) ≤ a1) = true := decide_eq_true c13
      clear c13
      have H' := Aside0.mk H
      clear H
      have p1103 : 0 ≤ (x20_1 : Int) := dA
      have q1103 : x20_1 < (l0_1.length : Int) := dA
      obtain ⟨ad1103, e1103, hx1103_0⟩ := Kd.at_int HR0_1.out x20_1 p1103 q1103
      cases e1103
      try replace hx1103_0 := (HB.out.cell (World.block_lt_of_cell? w _ hx1103_0)).trans hx1103_0
      replace p1103 := eq_true p1103
      replace q1103 := eq_true q1103
      go_wp2
      go_roundg k1
      case measure => have := HK1.out; omega
      case rel => exact ⟨(x6_1), (x20_1), (wrap64 (x20_1 + 1)), (by first | rfl | (simp; done) | (simp [*]; done)), (by first | rfl | (simp; done) | (simp [*]; done)), (by first | rfl | (simp; done) | (simp [*]; done)), H', ⟨by have := HK1.out; omega⟩, ⟨bkC BK1102⟩, ⟨hbC _⟩⟩
     rw [if_neg c13] at H
     have c13b0 : decide ((rd l0_1 x20_1) ≤ a1) = false := decide_eq_false c13
     clear c13
     have H' := Aside0.mk H
     clear H
     have p1103 : 0 ≤ (x20_1 : Int) := dA
     have q1103 : x20_1 < (l0_1.length : Int) := dA
     obtain ⟨ad1103, e1103, hx1103_0⟩ := Kd.at_int HR0_1.out x20_1 p1103 q1103
     cases e1103
     try replace hx1103_0 := (HB.out.cell (World.block_lt_of_cell? w _ hx1103_0)).trans hx1103_0
     replace p1103 := eq_true p1103
     replace q1103 := eq_true q1103
     go_wp2
     go_roundg k1
     case measure => have := HK1.out; omega
     case rel => exact ⟨(x6_1), (x7_1), (wrap64 (x20_1 + 1)), (by first | rfl | (simp; done) | (simp [*]; done)), (by first | rfl | (simp; done) | (simp [*]; done)), (by first | rfl | (simp; done) | (simp [*]; done)), H', ⟨by have := HK1.out; omega⟩, ⟨bkC BK1102⟩, ⟨hbC _⟩⟩
    rw [if_pos c11] at H
    have c11b0 : ((rd l0_1 x20_1) == a1) = true := beq_iff_eq.mpr c11
    have c11b1 : ((rd l0_1 x20_1) != a1) = false := bne_eq_false_iff_eq.mpr c11
    clear c11
    by_cases c12 : (rd l0_1 x20_1) ≤ a1
    ·rw [if_pos c12] at H
     have c12b0 : decide ((rd l0_1 x20_1) ≤ a1) = true := decide_eq_true c12
     clear c12
     have H' := Aside0.mk H
     clear H
     have p1103 : 0 ≤ (x20_1 : Int) := dA
     have q1103 : x20_1 < (l0_1.length : Int) := dA
     obtain ⟨ad1103, e1103, hx1103_0⟩ := Kd.at_int HR0_1.out x20_1 p1103 q1103
     cases e1103
     try replace hx1103_0 := (HB.out.cell (World.block_lt_of_cell? w _ hx1103_0)).trans hx1103_0
     replace p1103 := eq_true p1103
     replace q1103 := eq_true q1103
     go_wp2
     go_roundg k1
     case measure => have := HK1.out; omega
     case rel => exact ⟨(wrap64 (x6_1 + 1)), (x20_1), (wrap64 (x20_1 + 1)), (by first | rfl | (simp; done) | (simp [*]; done)), (by first | rfl | (simp; done) | (simp [*]; done)), (by first | rfl | (simp; done) | (simp [*]; done)), H', ⟨by have := HK1.out; omega⟩, ⟨bkC BK1102⟩, ⟨hbC _⟩⟩
    rw [if_neg c12] at H
    have c12b0 : decide ((rd l0_1 x20_1) ≤ a1) = false := decide_eq_false c12
    clear c12
    have H' := Aside0.mk H
    clear H
    have p1103 : 0 ≤ (x20_1 : Int) := dA
    have q1103 : x20_1 < (l0_1.length : Int) := dA
    obtain ⟨ad1103, e1103, hx1103_0⟩ := Kd.at_int HR0_1.out x20_1 p1103 q1103
    cases e1103
    try replace hx1103_0 := (HB.out.cell (World.block_lt_of_cell? w _ hx1103_0)).trans hx1103_0
    replace p1103 := eq_true p1103
    replace q1103 := eq_true q1103
    go_wp2
    go_roundg k1
    case measure => have := HK1.out; omega
    case rel => exact ⟨(wrap64 (x6_1 + 1)), (x7_1), (wrap64 (x20_1 + 1)), (by first | rfl | (simp; done) | (simp [*]; done)), (by first | rfl | (simp; done) | (simp [*]; done)), (by first | rfl | (simp; done) | (simp [*]; done)), H', ⟨by have := HK1.out; omega⟩, ⟨bkC BK1102⟩, ⟨hbC _⟩⟩
   rw [if_neg c8] at H
   have c8b0 : decide (x20_1 < (l0_1.length : Int)) = false := decide_eq_false c8
   clear c8
   by_cases c14 : x6_1 > a0_0
   ·rw [if_pos c14] at H
    have c14b0 : decide (a0_0 < x6_1) = true := decide_eq_true c14
    clear c14
    simp only [Option.some.injEq, Prod.mk.injEq] at H
    obtain ⟨rfl, rfl⟩ := H
    have hcz15_0 : wr.cell? ⟨gb1102, 0, none⟩ = some (.int .i64 a0_0) := bc BK1102 0
    have hcz15_1 : wr.cell? ⟨gb1102, 1, none⟩ = some (.slice A0_1 l0_1.length c0_1) := bc BK1102 1
    have hcz15_2 : wr.cell? ⟨gb1102, 2, none⟩ = some (.slice A0_2 l0_2.length c0_2) := bc BK1102 2
    have hfz15_0 := fz BK1102 0
    have hfz15_1 := fz BK1102 1
    have hfz15_2 := fz BK1102 2
    go_wp2
    go_ret2
    exact ⟨_, by first | rfl | (simp [errW_none, errW_some] <;> rfl) | (simp [*, errW_none, errW_some] <;> rfl), by first | exact Kd.R_nil _ _ _ _ _ | exact Kd.N_nil _ _ _ _ _ | exact Kd.V_nil _ _ _ _ _ | exact Kd.Q_nil _ _ _ _ _ | exact Kd.S_nil _ _ _ _ _, hbC _⟩
   rw [if_neg c14] at H
   have c14b0 : decide (a0_0 < x6_1) = false := decide_eq_false c14
   clear c14
   have H' := Aside0.mk H
   clear H
   have hcz16_0 : wr.cell? ⟨gb1102, 0, none⟩ = some (.int .i64 a0_0) := bc BK1102 0
   have hcz16_1 : wr.cell? ⟨gb1102, 1, none⟩ = some (.slice A0_1 l0_1.length c0_1) := bc BK1102 1
   have hcz16_2 : wr.cell? ⟨gb1102, 2, none⟩ = some (.slice A0_2 l0_2.length c0_2) := bc BK1102 2
   have hfz16_0 := fz BK1102 0
   have hfz16_1 := fz BK1102 1
   have hfz16_2 := fz BK1102 2
   go_wp2
   go_loopg [10, 43] k1 (fun kq v10 v43 w' => ∃ (x10_2 : List (S26)) (x43_2 : Int), v43 = .int .i64 x43_2 ∧ Aside0 (congouref04_Insert.l1 kq a1 x7_1 x10_2 (wrap64 ((l0_2.length : Int) + 1)) x43_2 a0_0 l0_1 l0_2 = some (r1, r2)) ∧ Aside0 (kq ≤ k1) ∧ Aside0 (Kd.R k26 26 w' w.heap.size (fun _ => True) v10 x10_2) ∧ Aside0 (w'.heap[gb1102]? = some (.cells #[.int .i64 a0_0, (.slice A0_1 l0_1.length c0_1), (.slice A0_2 l0_2.length c0_2)] 24 (0, 0))) ∧ Aside0 (Below w.heap.size w w'))
   case atStart => exact ⟨(([] : List (S26))), (0), (by first | rfl | (simp; done) | (simp [*]; done)), H', ⟨Nat.le_refl _⟩, ⟨by first | exact Kd.R_nil _ _ _ _ _ | exact Kd.N_nil _ _ _ _ _ | exact Kd.V_nil _ _ _ _ _ | exact Kd.Q_nil _ _ _ _ _ | exact Kd.S_nil _ _ _ _ _⟩, ⟨bkC BK1102⟩, ⟨hbC _⟩⟩
   case round =>
    clear H'
    try clear c1
    try clear p1
    try clear q1
    try clear hx1
    try clear p2
    try clear c3
    try clear c3b0
    try clear c3b1
    try clear c4
    try clear p6
    try clear c8
    try clear c8b0
    try clear c9
    try clear c9b0
    try clear c10
    try clear c10b0
    try clear c11
    try clear c11b0
    try clear c11b1
    try clear p11
    try clear q11
    try clear hx11
    try clear c12
    try clear c12b0
    try clear c13
    try clear c13b0
    try clear c14
    try clear c14b0
    try clear hcz15_0
    try clear hcz15_1
    try clear hcz15_2
    try clear hcz16_0
    try clear hcz16_1
    try clear hcz16_2
    try clear hcz5_0
    try clear hcz5_1
    try clear hcz5_2
    try clear hcz7_0
    try clear hcz7_1
    try clear hcz7_2
    try clear hfz15_0
    try clear hfz15_1
    try clear hfz15_2
    try clear hfz16_0
    try clear hfz16_1
    try clear hfz16_2
    try clear hfz5_0
    try clear hfz5_1
    try clear hfz5_2
    try clear hfz7_0
    try clear hfz7_1
    try clear hfz7_2
    try clear hx1103_0
    try clear p1103
    try clear p2
    try clear q1103
    obtain ⟨x10_2, x43_2, rfl, HA, HK2, HO_10, BK1102, HB⟩ := hrel
    cases gk with
    | zero => exact absurd HA.out (by simp [congouref04_Insert.l1])
    | succ k2 =>
     have H := HA.out
     clear HA
     simp only [congouref04_Insert.l1] at H
     by_cases c17 : x43_2 < (wrap64 ((l0_2.length : Int) + 1))
     rotate_left
     ·rw [if_neg c17] at H
      have c17b0 : decide (x43_2 < (wrap64 ((l0_2.length : Int) + 1))) = false := decide_eq_false c17
      clear c17
      simp only [Option.some.injEq, Prod.mk.injEq] at H
      obtain ⟨rfl, rfl⟩ := H
      go_wp2
      go_ret2
      exact ⟨_, by first | rfl | (simp [errW_none, errW_some] <;> rfl) | (simp [*, errW_none, errW_some] <;> rfl), rC HO_10, hbC _⟩
     rw [if_pos c17] at H
     have c17b0 : decide (x43_2 < (wrap64 ((l0_2.length : Int) + 1))) = true := decide_eq_true c17
     clear c17
     by_cases c18 : x43_2 ≤ (wrap64 (x7_1 - a0_0))
     ·rw [if_pos c18] at H
      have c18b0 : decide (x43_2 ≤ (wrap64 (x7_1 - a0_0))) = true := decide_eq_true c18
      clear c18
      by_cases c19 : 0 ≤ x43_2
      rotate_left
      ·rw [if_neg c19] at H
       exact absurd H (by simp)
      rw [if_pos c19] at H
      have c19b0 : decide (0 ≤ x43_2) = true := decide_eq_true c19
      clear c19
      by_cases c20 : x43_2 < (l0_2.length : Int)
      rotate_left
      ·rw [if_neg c20] at H
       exact absurd H (by simp)
      rw [if_pos c20] at H
      have c20b0 : decide (x43_2 < (l0_2.length : Int)) = true := decide_eq_true c20
      clear c20
      replace H := Option.bind_eq_some_iff.mp H
      obtain ⟨⟨t1105, t1106⟩, A210, H⟩ := H
      replace H : (if x10_2.length < 8796093022208 then (congouref04_Insert.l1 k2 a1 x7_1 (x10_2 ++ [(⟨t1105, t1106⟩ : S26)]) (wrap64 ((l0_2.length : Int) + 1)) (wrap64 (x43_2 + 1)) a0_0 l0_1 l0_2) else (none)) = some (r1, r2) := H
      have A21 := Aside0.mk A210
      clear A210
      by_cases c22 : x10_2.length < 8796093022208
      rotate_left
      ·rw [if_neg c22] at H
       exact absurd H (by simp)
      rw [if_pos c22] at H
      have LMc22 := Aside0.mk c22
      clear c22
      obtain ⟨y1107, hy1107⟩ : ∃ y_ : List (S26), y_ = (x10_2 ++ [(⟨t1105, t1106⟩ : S26)]) := ⟨_, rfl⟩
      replace H : (congouref04_Insert.l1 k2 a1 x7_1 y1107 (wrap64 ((l0_2.length : Int) + 1)) (wrap64 (x43_2 + 1)) a0_0 l0_1 l0_2) = some (r1, r2) := by first | (rw [hy1107]; with_reducible exact H) | (have H2_ := (Option.bind_some _ _).symm.trans H; rw [hy1107]; with_reducible exact H2_) | (have H2_ := (Option.bind_some _ _).symm.trans H; with_reducible exact H2_) | with_reducible exact H | (rw [hy1107]; exact H) | exact H
      have Ny1107 := Aside0.mk hy1107
      clear hy1107
      have H' := Aside0.mk H
      clear H
      have hcz23_0 : wr.cell? ⟨gb1102, 0, none⟩ = some (.int .i64 a0_0) := bc BK1102 0
      have hcz23_1 : wr.cell? ⟨gb1102, 1, none⟩ = some (.slice A0_1 l0_1.length c0_1) := bc BK1102 1
      have hcz23_2 : wr.cell? ⟨gb1102, 2, none⟩ = some (.slice A0_2 l0_2.length c0_2) := bc BK1102 2
      have hfz23_0 := fz BK1102 0
      have hfz23_1 := fz BK1102 1
      have hfz23_2 := fz BK1102 2
      have p1104 : 0 ≤ (x43_2 : Int) := dA
      have q1104 : x43_2 < (l0_2.length : Int) := dA
      obtain ⟨ad1104, e1104, hx1104_0⟩ := Kd.at_int HR0_2.out x43_2 p1104 q1104
      cases e1104
      try replace hx1104_0 := (HB.out.cell (World.block_lt_of_cell? w _ hx1104_0)).trans hx1104_0
      replace p1104 := eq_true p1104
      replace q1104 := eq_true q1104
      go_wp2_with (first | ((with_reducible refine gate_callee (f := 56) rfl ?_); refine gL 109 Try.func56 #[.int .i64 (rd l0_2 x43_2)] ?_; (with_reducible refine (congouref04_whole.calls (rd l0_2 x43_2) t1105 t1106 _ A21.out).mono ?_); rintro e w24 ⟨rfl, hb⟩; refine ⟨_, rfl, ?_⟩; replace HO_10 := kO HO_10 hb; replace BK1102 := kB BK1102 hb; replace HB := kH _ hb; (try clear hb); (try clear hb2); (try clear hk); (try clear hi)) | ((with_reducible refine gate_builtin (b := .append) (xs := #[.tmp 103, .tmp 110]) rfl ?_); at_builtin; refine Kd.R_append k26 (w0 := w) w.heap.size rfl (.tmp 103) (.tmp 110) 34 26 (.agg #[(.int .i64 0), (.int .i64 0)]) 16 rfl Try.underlying34 info26 rfl (by decide) (by omega) u10 x10_2 (⟨t1105, t1106⟩ : S26) [.int .i64 t1105, .int .i64 t1106] (fun _ => True) (fun _ => False) rfl rfl ?aP (fun _ hk => hk.elim) ?aF ?aO ?aB ?aS ?aL ?_; (case aP => exact k26_mkM _ _ _ (⟨t1105, t1106⟩ : S26)); (case aB => exact (hbC _)); (case aF => exact (fun _ _ => trivial)); (case aO => exact (rC HO_10)); (case aS => exact (below_size (hbC _))); (case aL => have := LMc22.out; omega); intro v1108 w25 ho hb hg hat; rw [← Ny1107.out] at ho; have n0_ := ak (blk_grown (g := gb1102) (o := .cells #[.int .i64 a0_0, .slice A0_1 l0_1.length c0_1, .slice (some ad1104) l0_2.length c0_2] 24 (0, 0)) (bkC BK1102) hg (Kd.R_ne HO_10.out BK1102.out (by decide))); have n1_ := ak (hb); have n2_ := ak (ho); clear BK1102; clear HB; clear HO_10; have BK1102 := n0_; have HB := n1_; have HO1109 := n2_; clear n0_ n1_ n2_; clear ho hb hg hat))
      go_roundg k2
      case measure => have := HK1.out; have := HK2.out; omega
      case rel => exact ⟨(y1107), (wrap64 (x43_2 + 1)), (by first | rfl | (simp; done) | (simp [*]; done)), H', ⟨by have := HK1.out; have := HK2.out; omega⟩, ⟨rC HO1109⟩, ⟨bkC BK1102⟩, ⟨hbC _⟩⟩
     rw [if_neg c18] at H
     have c18b0 : decide (x43_2 ≤ (wrap64 (x7_1 - a0_0))) = false := decide_eq_false c18
     clear c18
     by_cases c26 : x43_2 > x7_1
     ·rw [if_pos c26] at H
      have c26b0 : decide (x7_1 < x43_2) = true := decide_eq_true c26
      clear c26
      obtain ⟨ji27, hji27⟩ : ∃ j_ : Int, (wrap64 (x43_2 - 1)) = j_ := ⟨_, rfl⟩
      replace H : (if 0 ≤ (ji27) then (if (ji27) < (l0_2.length : Int) then ((congouref04_whole.f (rd l0_2 (ji27))).bind fun bt1111 => (if x10_2.length < 8796093022208 then (congouref04_Insert.l1 k2 a1 x7_1 (x10_2 ++ [(⟨bt1111.1, bt1111.2⟩ : S26)]) (wrap64 ((l0_2.length : Int) + 1)) (wrap64 (x43_2 + 1)) a0_0 l0_1 l0_2) else (none))) else (none)) else (none)) = some (r1, r2) := by first | (rw [hji27] at H; exact H) | (simp only [hji27] at H ⊢; exact H)
      have hji27w : (IntKind.i64.wrap (x43_2 - 1)) = ji27 := (i64_w _).trans hji27
      by_cases c28 : 0 ≤ (ji27)
      rotate_left
      ·rw [if_neg c28] at H
       exact absurd H (by simp)
      rw [if_pos c28] at H
      have c28b0 : decide (0 ≤ (ji27)) = true := decide_eq_true c28
      clear c28
      by_cases c29 : (ji27) < (l0_2.length : Int)
      rotate_left
      ·rw [if_neg c29] at H
       exact absurd H (by simp)
      rw [if_pos c29] at H
      have c29b0 : decide ((ji27) < (l0_2.length : Int)) = true := decide_eq_true c29
      clear c29
      replace H := Option.bind_eq_some_iff.mp H
      obtain ⟨⟨t1111, t1112⟩, A300, H⟩ := H
      replace H : (if x10_2.length < 8796093022208 then (congouref04_Insert.l1 k2 a1 x7_1 (x10_2 ++ [(⟨t1111, t1112⟩ : S26)]) (wrap64 ((l0_2.length : Int) + 1)) (wrap64 (x43_2 + 1)) a0_0 l0_1 l0_2) else (none)) = some (r1, r2) := H
      have A30 := Aside0.mk A300
      clear A300
      by_cases c31 : x10_2.length < 8796093022208
      rotate_left
      ·rw [if_neg c31] at H
       exact absurd H (by simp)
      rw [if_pos c31] at H
      have LMc31 := Aside0.mk c31
      clear c31
      obtain ⟨y1113, hy1113⟩ : ∃ y_ : List (S26), y_ = (x10_2 ++ [(⟨t1111, t1112⟩ : S26)]) := ⟨_, rfl⟩
      replace H : (congouref04_Insert.l1 k2 a1 x7_1 y1113 (wrap64 ((l0_2.length : Int) + 1)) (wrap64 (x43_2 + 1)) a0_0 l0_1 l0_2) = some (r1, r2) := by first | (rw [hy1113]; with_reducible exact H) | (have H2_ := (Option.bind_some _ _).symm.trans H; rw [hy1113]; with_reducible exact H2_) | (have H2_ := (Option.bind_some _ _).symm.trans H; with_reducible exact H2_) | with_reducible exact H | (rw [hy1113]; exact H) | exact H
      have Ny1113 := Aside0.mk hy1113
      clear hy1113
      have H' := Aside0.mk H
      clear H
      have hcz32_0 : wr.cell? ⟨gb1102, 0, none⟩ = some (.int .i64 a0_0) := bc BK1102 0
      have hcz32_1 : wr.cell? ⟨gb1102, 1, none⟩ = some (.slice A0_1 l0_1.length c0_1) := bc BK1102 1
      have hcz32_2 : wr.cell? ⟨gb1102, 2, none⟩ = some (.slice A0_2 l0_2.length c0_2) := bc BK1102 2
      have hfz32_0 := fz BK1102 0
      have hfz32_1 := fz BK1102 1
      have hfz32_2 := fz BK1102 2
      have p1110 : 0 ≤ ((ji27) : Int) := dA
      have q1110 : (ji27) < (l0_2.length : Int) := dA
      obtain ⟨ad1110, e1110, hx1110_0⟩ := Kd.at_int HR0_2.out (ji27) p1110 q1110
      cases e1110
      try replace hx1110_0 := (HB.out.cell (World.block_lt_of_cell? w _ hx1110_0)).trans hx1110_0
      replace p1110 := eq_true p1110
      replace q1110 := eq_true q1110
      go_wp2_with (first | ((with_reducible refine gate_callee (f := 56) rfl ?_); refine goesL_ (some 123) rfl rfl Try.func56 (by kernel_rfl) rfl #[.int .i64 (rd l0_2 (ji27))] rfl (by (try simp only [List.map_toArray, List.map_cons, List.map_nil]); first | done | (simp only [hji27]; rfl) | rfl | (simp only [List.length_drop, List.length_take]; rfl)) ?_; (with_reducible refine (congouref04_whole.calls (rd l0_2 (ji27)) t1111 t1112 _ A30.out).mono ?_); rintro e w33 ⟨rfl, hb⟩; refine ⟨_, rfl, ?_⟩; replace HO_10 := kO HO_10 hb; replace BK1102 := kB BK1102 hb; replace HB := kH _ hb; (try clear hb); (try clear hb2); (try clear hk); (try clear hi)) | ((with_reducible refine gate_builtin (b := .append) (xs := #[.tmp 116, .tmp 124]) rfl ?_); at_builtin; refine Kd.R_append k26 (w0 := w) w.heap.size rfl (.tmp 116) (.tmp 124) 34 26 (.agg #[(.int .i64 0), (.int .i64 0)]) 16 rfl Try.underlying34 info26 rfl (by decide) (by omega) u10 x10_2 (⟨t1111, t1112⟩ : S26) [.int .i64 t1111, .int .i64 t1112] (fun _ => True) (fun _ => False) rfl rfl ?aP (fun _ hk => hk.elim) ?aF ?aO ?aB ?aS ?aL ?_; (case aP => exact k26_mkM _ _ _ (⟨t1111, t1112⟩ : S26)); (case aB => exact (hbC _)); (case aF => exact (fun _ _ => trivial)); (case aO => exact (rC HO_10)); (case aS => exact (below_size (hbC _))); (case aL => have := LMc31.out; omega); intro v1114 w34 ho hb hg hat; rw [← Ny1113.out] at ho; have n0_ := ak (blk_grown (g := gb1102) (o := .cells #[.int .i64 a0_0, .slice A0_1 l0_1.length c0_1, .slice (some ad1110) l0_2.length c0_2] 24 (0, 0)) (bkC BK1102) hg (Kd.R_ne HO_10.out BK1102.out (by decide))); have n1_ := ak (hb); have n2_ := ak (ho); clear BK1102; clear HB; clear HO_10; have BK1102 := n0_; have HB := n1_; have HO1115 := n2_; clear n0_ n1_ n2_; clear ho hb hg hat))
      go_roundg k2
      case measure => have := HK1.out; have := HK2.out; omega
      case rel => exact ⟨(y1113), (wrap64 (x43_2 + 1)), (by first | rfl | (simp; done) | (simp [*]; done)), H', ⟨by have := HK1.out; have := HK2.out; omega⟩, ⟨rC HO1115⟩, ⟨bkC BK1102⟩, ⟨hbC _⟩⟩
     rw [if_neg c26] at H
     have c26b0 : decide (x7_1 < x43_2) = false := decide_eq_false c26
     clear c26
     by_cases c35 : 0 ≤ x43_2
     rotate_left
     ·rw [if_neg c35] at H
      exact absurd H (by simp)
     rw [if_pos c35] at H
     have c35b0 : decide (0 ≤ x43_2) = true := decide_eq_true c35
     clear c35
     by_cases c36 : x43_2 < (l0_1.length : Int)
     rotate_left
     ·rw [if_neg c36] at H
      exact absurd H (by simp)
     rw [if_pos c36] at H
     have c36b0 : decide (x43_2 < (l0_1.length : Int)) = true := decide_eq_true c36
     clear c36
     obtain ⟨ji37, hji37⟩ : ∃ j_ : Int, (wrap64 (x43_2 + a0_0)) = j_ := ⟨_, rfl⟩
     replace H : (if 0 ≤ (ji37) then (if (ji37) < (l0_1.length : Int) then ((congouref04_Frac.f k2 (wrap64 (a1 - (rd l0_1 x43_2))) (wrap64 ((rd l0_1 (ji37)) - (rd l0_1 x43_2)))).bind fun bt1119 => (if x43_2 < (l0_2.length : Int) then ((congouref04_whole.f (rd l0_2 x43_2)).bind fun bt1123 => ((congouref04_Times.f k2 bt1119.1 bt1119.2 bt1123.1 bt1123.2).bind fun bt1125 => ((congouref04_Frac.f k2 (wrap64 (bt1119.2 - bt1119.1)) bt1119.2).bind fun bt1127 => (if 0 ≤ (wrap64 (x43_2 - 1)) then (if (wrap64 (x43_2 - 1)) < (l0_2.length : Int) then ((congouref04_whole.f (rd l0_2 (wrap64 (x43_2 - 1)))).bind fun bt1130 => ((congouref04_Times.f k2 bt1127.1 bt1127.2 bt1130.1 bt1130.2).bind fun bt1132 => ((congouref04_Plus.f k2 bt1125.1 bt1125.2 bt1132.1 bt1132.2).bind fun bt1134 => (if x10_2.length < 8796093022208 then (congouref04_Insert.l1 k2 a1 x7_1 (x10_2 ++ [(⟨bt1134.1, bt1134.2⟩ : S26)]) (wrap64 ((l0_2.length : Int) + 1)) (wrap64 (x43_2 + 1)) a0_0 l0_1 l0_2) else (none))))) else (none)) else (none))))) else (none))) else (none)) else (none)) = some (r1, r2) := by first | (rw [hji37] at H; exact H) | (simp only [hji37] at H ⊢; exact H)
     have hji37w : (IntKind.i64.wrap (x43_2 + a0_0)) = ji37 := (i64_w _).trans hji37
     by_cases c38 : 0 ≤ (ji37)
     rotate_left
     ·rw [if_neg c38] at H
      exact absurd H (by simp)
     rw [if_pos c38] at H
     have c38b0 : decide (0 ≤ (ji37)) = true := decide_eq_true c38
     clear c38
     by_cases c39 : (ji37) < (l0_1.length : Int)
     rotate_left
     ·rw [if_neg c39] at H
      exact absurd H (by simp)
     rw [if_pos c39] at H
     have c39b0 : decide ((ji37) < (l0_1.length : Int)) = true := decide_eq_true c39
     clear c39
     replace H := Option.bind_eq_some_iff.mp H
     obtain ⟨⟨t1119, t1120⟩, A400, H⟩ := H
     replace H : (if x43_2 < (l0_2.length : Int) then ((congouref04_whole.f (rd l0_2 x43_2)).bind fun bt1123 => ((congouref04_Times.f k2 t1119 t1120 bt1123.1 bt1123.2).bind fun bt1125 => ((congouref04_Frac.f k2 (wrap64 (t1120 - t1119)) t1120).bind fun bt1127 => (if 0 ≤ (wrap64 (x43_2 - 1)) then (if (wrap64 (x43_2 - 1)) < (l0_2.length : Int) then ((congouref04_whole.f (rd l0_2 (wrap64 (x43_2 - 1)))).bind fun bt1130 => ((congouref04_Times.f k2 bt1127.1 bt1127.2 bt1130.1 bt1130.2).bind fun bt1132 => ((congouref04_Plus.f k2 bt1125.1 bt1125.2 bt1132.1 bt1132.2).bind fun bt1134 => (if x10_2.length < 8796093022208 then (congouref04_Insert.l1 k2 a1 x7_1 (x10_2 ++ [(⟨bt1134.1, bt1134.2⟩ : S26)]) (wrap64 ((l0_2.length : Int) + 1)) (wrap64 (x43_2 + 1)) a0_0 l0_1 l0_2) else (none))))) else (none)) else (none))))) else (none)) = some (r1, r2) := H
     have A40 := Aside0.mk A400
     clear A400
     by_cases c41 : x43_2 < (l0_2.length : Int)
     rotate_left
     ·rw [if_neg c41] at H
      exact absurd H (by simp)
     rw [if_pos c41] at H
     have c41b0 : decide (x43_2 < (l0_2.length : Int)) = true := decide_eq_true c41
     clear c41
     replace H := Option.bind_eq_some_iff.mp H
     obtain ⟨⟨t1123, t1124⟩, A420, H⟩ := H
     replace H : ((congouref04_Times.f k2 t1119 t1120 t1123 t1124).bind fun bt1125 => ((congouref04_Frac.f k2 (wrap64 (t1120 - t1119)) t1120).bind fun bt1127 => (if 0 ≤ (wrap64 (x43_2 - 1)) then (if (wrap64 (x43_2 - 1)) < (l0_2.length : Int) then ((congouref04_whole.f (rd l0_2 (wrap64 (x43_2 - 1)))).bind fun bt1130 => ((congouref04_Times.f k2 bt1127.1 bt1127.2 bt1130.1 bt1130.2).bind fun bt1132 => ((congouref04_Plus.f k2 bt1125.1 bt1125.2 bt1132.1 bt1132.2).bind fun bt1134 => (if x10_2.length < 8796093022208 then (congouref04_Insert.l1 k2 a1 x7_1 (x10_2 ++ [(⟨bt1134.1, bt1134.2⟩ : S26)]) (wrap64 ((l0_2.length : Int) + 1)) (wrap64 (x43_2 + 1)) a0_0 l0_1 l0_2) else (none))))) else (none)) else (none)))) = some (r1, r2) := H
     have A42 := Aside0.mk A420
     clear A420
     replace H := Option.bind_eq_some_iff.mp H
     obtain ⟨⟨t1125, t1126⟩, A430, H⟩ := H
     replace H : ((congouref04_Frac.f k2 (wrap64 (t1120 - t1119)) t1120).bind fun bt1127 => (if 0 ≤ (wrap64 (x43_2 - 1)) then (if (wrap64 (x43_2 - 1)) < (l0_2.length : Int) then ((congouref04_whole.f (rd l0_2 (wrap64 (x43_2 - 1)))).bind fun bt1130 => ((congouref04_Times.f k2 bt1127.1 bt1127.2 bt1130.1 bt1130.2).bind fun bt1132 => ((congouref04_Plus.f k2 t1125 t1126 bt1132.1 bt1132.2).bind fun bt1134 => (if x10_2.length < 8796093022208 then (congouref04_Insert.l1 k2 a1 x7_1 (x10_2 ++ [(⟨bt1134.1, bt1134.2⟩ : S26)]) (wrap64 ((l0_2.length : Int) + 1)) (wrap64 (x43_2 + 1)) a0_0 l0_1 l0_2) else (none))))) else (none)) else (none))) = some (r1, r2) := H
     have A43 := Aside0.mk A430
     clear A430
     replace H := Option.bind_eq_some_iff.mp H
     obtain ⟨⟨t1127, t1128⟩, A440, H⟩ := H
     replace H : (if 0 ≤ (wrap64 (x43_2 - 1)) then (if (wrap64 (x43_2 - 1)) < (l0_2.length : Int) then ((congouref04_whole.f (rd l0_2 (wrap64 (x43_2 - 1)))).bind fun bt1130 => ((congouref04_Times.f k2 t1127 t1128 bt1130.1 bt1130.2).bind fun bt1132 => ((congouref04_Plus.f k2 t1125 t1126 bt1132.1 bt1132.2).bind fun bt1134 => (if x10_2.length < 8796093022208 then (congouref04_Insert.l1 k2 a1 x7_1 (x10_2 ++ [(⟨bt1134.1, bt1134.2⟩ : S26)]) (wrap64 ((l0_2.length : Int) + 1)) (wrap64 (x43_2 + 1)) a0_0 l0_1 l0_2) else (none))))) else (none)) else (none)) = some (r1, r2) := H
     have A44 := Aside0.mk A440
     clear A440
     obtain ⟨ji45, hji45⟩ : ∃ j_ : Int, (wrap64 (x43_2 - 1)) = j_ := ⟨_, rfl⟩
     replace H : (if 0 ≤ (ji45) then (if (ji45) < (l0_2.length : Int) then ((congouref04_whole.f (rd l0_2 (ji45))).bind fun bt1130 => ((congouref04_Times.f k2 t1127 t1128 bt1130.1 bt1130.2).bind fun bt1132 => ((congouref04_Plus.f k2 t1125 t1126 bt1132.1 bt1132.2).bind fun bt1134 => (if x10_2.length < 8796093022208 then (congouref04_Insert.l1 k2 a1 x7_1 (x10_2 ++ [(⟨bt1134.1, bt1134.2⟩ : S26)]) (wrap64 ((l0_2.length : Int) + 1)) (wrap64 (x43_2 + 1)) a0_0 l0_1 l0_2) else (none))))) else (none)) else (none)) = some (r1, r2) := by first | (rw [hji45] at H; exact H) | (simp only [hji45] at H ⊢; exact H)
     (try rw [hji45] at A40)
     (try rw [hji45] at A42)
     (try rw [hji45] at A43)
     (try rw [hji45] at A44)
     have hji45w : (IntKind.i64.wrap (x43_2 - 1)) = ji45 := (i64_w _).trans hji45
     by_cases c46 : 0 ≤ (ji45)
     rotate_left
     ·rw [if_neg c46] at H
      exact absurd H (by simp)
     rw [if_pos c46] at H
     have c46b0 : decide (0 ≤ (ji45)) = true := decide_eq_true c46
     clear c46
     by_cases c47 : (ji45) < (l0_2.length : Int)
     rotate_left
     ·rw [if_neg c47] at H
      exact absurd H (by simp)
     rw [if_pos c47] at H
     have c47b0 : decide ((ji45) < (l0_2.length : Int)) = true := decide_eq_true c47
     clear c47
     replace H := Option.bind_eq_some_iff.mp H
     obtain ⟨⟨t1130, t1131⟩, A480, H⟩ := H
     replace H : ((congouref04_Times.f k2 t1127 t1128 t1130 t1131).bind fun bt1132 => ((congouref04_Plus.f k2 t1125 t1126 bt1132.1 bt1132.2).bind fun bt1134 => (if x10_2.length < 8796093022208 then (congouref04_Insert.l1 k2 a1 x7_1 (x10_2 ++ [(⟨bt1134.1, bt1134.2⟩ : S26)]) (wrap64 ((l0_2.length : Int) + 1)) (wrap64 (x43_2 + 1)) a0_0 l0_1 l0_2) else (none)))) = some (r1, r2) := H
     have A48 := Aside0.mk A480
     clear A480
     replace H := Option.bind_eq_some_iff.mp H
     obtain ⟨⟨t1132, t1133⟩, A490, H⟩ := H
     replace H : ((congouref04_Plus.f k2 t1125 t1126 t1132 t1133).bind fun bt1134 => (if x10_2.length < 8796093022208 then (congouref04_Insert.l1 k2 a1 x7_1 (x10_2 ++ [(⟨bt1134.1, bt1134.2⟩ : S26)]) (wrap64 ((l0_2.length : Int) + 1)) (wrap64 (x43_2 + 1)) a0_0 l0_1 l0_2) else (none))) = some (r1, r2) := H
     have A49 := Aside0.mk A490
     clear A490
     replace H := Option.bind_eq_some_iff.mp H
     obtain ⟨⟨t1134, t1135⟩, A500, H⟩ := H
     replace H : (if x10_2.length < 8796093022208 then (congouref04_Insert.l1 k2 a1 x7_1 (x10_2 ++ [(⟨t1134, t1135⟩ : S26)]) (wrap64 ((l0_2.length : Int) + 1)) (wrap64 (x43_2 + 1)) a0_0 l0_1 l0_2) else (none)) = some (r1, r2) := H
     have A50 := Aside0.mk A500
     clear A500
     by_cases c51 : x10_2.length < 8796093022208
     rotate_left
     ·rw [if_neg c51] at H
      exact absurd H (by simp)
     rw [if_pos c51] at H
     have LMc51 := Aside0.mk c51
     clear c51
     obtain ⟨y1136, hy1136⟩ : ∃ y_ : List (S26), y_ = (x10_2 ++ [(⟨t1134, t1135⟩ : S26)]) := ⟨_, rfl⟩
     replace H : (congouref04_Insert.l1 k2 a1 x7_1 y1136 (wrap64 ((l0_2.length : Int) + 1)) (wrap64 (x43_2 + 1)) a0_0 l0_1 l0_2) = some (r1, r2) := by first | (rw [hy1136]; with_reducible exact H) | (have H2_ := (Option.bind_some _ _).symm.trans H; rw [hy1136]; with_reducible exact H2_) | (have H2_ := (Option.bind_some _ _).symm.trans H; with_reducible exact H2_) | with_reducible exact H | (rw [hy1136]; exact H) | exact H
     have Ny1136 := Aside0.mk hy1136
     clear hy1136
     have H' := Aside0.mk H
     clear H
     have hcz52_0 : wr.cell? ⟨gb1102, 0, none⟩ = some (.int .i64 a0_0) := bc BK1102 0
     have hcz52_1 : wr.cell? ⟨gb1102, 1, none⟩ = some (.slice A0_1 l0_1.length c0_1) := bc BK1102 1
     have hcz52_2 : wr.cell? ⟨gb1102, 2, none⟩ = some (.slice A0_2 l0_2.length c0_2) := bc BK1102 2
     have hfz52_0 := fz BK1102 0
     have hfz52_1 := fz BK1102 1
     have hfz52_2 := fz BK1102 2
     try go_wp2
     replace HO_10 := ak (Kd.R_drew HO_10.out)
     replace BK1102 := kd BK1102
     replace HB := ak (below_drew1 HB.out)
     have p1116 : 0 ≤ (x43_2 : Int) := dA
     have q1116 : x43_2 < (l0_1.length : Int) := dA
     obtain ⟨ad1116, e1116, hx1116_0⟩ := Kd.at_int HR0_1.out x43_2 p1116 q1116
     have hw1116_0 := hx1116_0
     cases e1116
     try replace hx1116_0 := (HB.out.cell (World.block_lt_of_cell? w _ hx1116_0)).trans hx1116_0
     replace p1116 := eq_true p1116
     replace q1116 := eq_true q1116
     have p1117 : 0 ≤ ((ji37) : Int) := dA
     have q1117 : (ji37) < (l0_1.length : Int) := dA
     obtain ⟨ad1117, e1117, hx1117_0⟩ := Kd.at_int HR0_1.out (ji37) p1117 q1117
     have hw1117_0 := hx1117_0
     obtain rfl : ad1116 = ad1117 := (by injection e1117)
     try replace hx1117_0 := (HB.out.cell (World.block_lt_of_cell? w _ hx1117_0)).trans hx1117_0
     replace p1117 := eq_true p1117
     replace q1117 := eq_true q1117
     have p1118 : 0 ≤ (x43_2 : Int) := dA
     have q1118 : x43_2 < (l0_1.length : Int) := dA
     obtain ⟨ad1118, e1118, hx1118_0⟩ := Kd.at_int HR0_1.out x43_2 p1118 q1118
     have hw1118_0 := hx1118_0
     obtain rfl : ad1116 = ad1118 := (by injection e1118)
     try replace hx1118_0 := (HB.out.cell (World.block_lt_of_cell? w _ hx1118_0)).trans hx1118_0
     replace p1118 := eq_true p1118
     replace q1118 := eq_true q1118
     refine sS (n := 24) (S := fun w' => w'.cell? ⟨gb1102, 0, none⟩ = some (.int .i64 a0_0) ∧ w'.cell? ⟨gb1102, 1, none⟩ = some (.slice (some ad1116) l0_1.length c0_1) ∧ w'.cell? ⟨gb1102, 2, none⟩ = some (.slice A0_2 l0_2.length c0_2) ∧ w'.cell? (ad1116.add (x43_2).toNat) = some (.int .i64 (rd l0_1 x43_2)) ∧ w'.cell? (ad1116.add ((ji37)).toNat) = some (.int .i64 (rd l0_1 (ji37))) ∧ w'.cell? (ad1116.add (x43_2).toNat) = some (.int .i64 (rd l0_1 x43_2))) (ds := []) ⟨bc BK1102 0, bc BK1102 1, bc BK1102 2, ((HB.out.cell (World.block_lt_of_cell? w _ hw1116_0)).trans hw1116_0), ((HB.out.cell (World.block_lt_of_cell? w _ hw1117_0)).trans hw1117_0), ((HB.out.cell (World.block_lt_of_cell? w _ hw1118_0)).trans hw1118_0)⟩ (fun hHeld => ?_); refine with_tabW congouref04_Insert.tab18 congouref04_Insert.bits18 (fun HT_ HW_ => ?_)
     generalize wr.drew = w53 at HO_10 BK1102 HB hx1116_0 hx1117_0 hx1118_0 hHeld ⊢
     refine pS 0 46 24 1 ?_
     refine pS 1 47 24 3 ?_
     refine pS 3 49 24 11 ?_
     refine pS 7 53 24 139 ?_
     refine pS 9 55 24 651 ?_
     refine pS 10 56 24 1675 ?_
     refine pS 15 61 24 34443 ?_
     refine pS 17 63 24 165515 ?_
     refine tS 2 48 24 165519 ?_
     refine pS 4 50 24 165535 ?_
     refine tS 5 51 24 165567 ?_
     refine pS 6 52 24 165631 ?_
     refine tS 8 54 24 165887 ?_
     refine tS 11 57 24 167935 ?_
     refine pS 12 58 24 172031 ?_
     refine pS 13 59 24 180223 ?_
     refine tS 14 60 24 196607 ?_
     refine tS 16 62 24 262143 ?_
     refine pS 18 64 24 524287 ?_
     refine tS 19 65 24 1048575 ?_
     refine pS 20 66 24 2097151 ?_
     refine join_ (σ := Nat) 1 (ba 24 8388607) (fun s_ => [(67, .agg #[.int .i64 t1119, .int .i64 t1120]), (12, .pointer (some ⟨s_, 0, none⟩))]) (fun s_ w' => (w'.cell? ⟨gb1102, 0, none⟩ = some (.int .i64 a0_0) ∧ w'.cell? ⟨gb1102, 1, none⟩ = some (.slice (some ad1116) l0_1.length c0_1) ∧ w'.cell? ⟨gb1102, 2, none⟩ = some (.slice A0_2 l0_2.length c0_2) ∧ w'.cell? (ad1116.add (x43_2).toNat) = some (.int .i64 (rd l0_1 x43_2)) ∧ w'.cell? (ad1116.add ((ji37)).toNat) = some (.int .i64 (rd l0_1 (ji37))) ∧ w'.cell? (ad1116.add (x43_2).toNat) = some (.int .i64 (rd l0_1 x43_2))) ∧ (Kd.R k26 26 w' w.heap.size (fun k_ => k_ ≠ s_) u10 x10_2) ∧ (w'.heap[gb1102]? = some (.cells #[.int .i64 a0_0, .slice (some ad1116) l0_1.length c0_1, .slice A0_2 l0_2.length c0_2] 24 (0, 0))) ∧ (w'.heap[s_]? = some (.cells #[.int .i64 0, .int .i64 0] 26 (0, 0))) ∧ (w.heap.size ≤ s_) ∧ (w.heap.size ≤ s_) ∧ (gb1102 ≠ s_) ∧ (s_ ≠ gb1102) ∧ (Below w.heap.size w w')) ?_ ?_
     rotate_left
     ·intro hCont
      refine two_ (i := 21) (j := 22) (Ni := some 67) (Nj := some 12) (ba 24 4194303) (ba 24 6291455) rfl rfl rfl rfl (two_of HT_.out (by kernel_rfl)) (by decide) (by decide) (fun K hK => ?_) (fun K hK => ?_)
      ·skip
       refine goes_ Try.func33 (by kernel_rfl) rfl #[.int .i64 (wrap64 (a1 - (rd l0_1 x43_2))), .int .i64 (wrap64 ((rd l0_1 (ji37)) - (rd l0_1 x43_2)))] (by rfl) rfl rfl (by (try simp only [List.map_toArray, List.map_cons, List.map_nil]); first | done | (simp only [hji37]; rfl) | rfl | (simp only [List.length_drop, List.length_take]; rfl)) ?_
       with_reducible refine (congouref04_Frac.calls k2 (wrap64 (a1 - (rd l0_1 x43_2))) (wrap64 ((rd l0_1 (ji37)) - (rd l0_1 x43_2))) t1119 t1120 _ A40.out).mono ?_
       rintro e w54 ⟨rfl, hb⟩
       refine ⟨_, rfl, ?_⟩
       replace HO_10 := kO HO_10 hb
       replace BK1102 := kB BK1102 hb
       replace HB := kH _ hb
       (try clear hb)
       (try clear hb2)
       (try clear hk)
       (try clear hi)
       refine hK.out _ _ ⟨bc BK1102 0, bc BK1102 1, bc BK1102 2, ((HB.out.cell (World.block_lt_of_cell? w _ hw1116_0)).trans hw1116_0), ((HB.out.cell (World.block_lt_of_cell? w _ hw1117_0)).trans hw1117_0), ((HB.out.cell (World.block_lt_of_cell? w _ hw1118_0)).trans hw1118_0)⟩ (fun hHeld => ?_)
       clear hK K
       refine norm_ (a' := ?_) ?_ ?_
       rotate_left
       ·show Act.put _ (some 67) _ = _
        simp only [Act.put, List.setIfInBounds_toArray, List.set_cons_zero, List.set_cons_succ, i64_w, i32_w]
        rfl
       refine one_ (i := 22) (N := some 12) (ba 24 8388607) rfl rfl (one_of HT_.out (by kernel_rfl)) (by decide) (fun K hK => ?_)
       refine box_step ?hg (N := 12) ?hd (cs := #[.int .i64 0, .int .i64 0]) (t := 26) ?hr ?_; (case hd => rfl); (case hg => rfl); (case hr => first | (go_simp; done) | (go_simp; rfl))
       intro gb1121 hg w55 hbox hb
       replace HO_10 := ak (Kd.R_below (Kd.R_elderB (rC HO_10) gb1121 (Nat.le_of_eq hg.symm)) hb)
       have BK1121 := ak (hbox)
       have GW1121 := kG w hg
       have GE1121 := kG w hg
       replace HB := kH _ hb
       have NB1102_1121 := kL BK1102 hg
       have NB1121_1102 := kR BK1102 hg
       replace BK1102 := kB BK1102 hb
       clear hb hbox hg
       refine hK.out _ _ ⟨bc BK1102 0, bc BK1102 1, bc BK1102 2, ((HB.out.cell (World.block_lt_of_cell? w _ hw1116_0)).trans hw1116_0), ((HB.out.cell (World.block_lt_of_cell? w _ hw1117_0)).trans hw1117_0), ((HB.out.cell (World.block_lt_of_cell? w _ hw1118_0)).trans hw1118_0)⟩ (fun hHeld => ?_)
       clear hK K
       refine norm_ (a' := ?_) ?_ ?_
       rotate_left
       ·show Act.put _ (some 12) _ = _
        simp only [Act.put, List.setIfInBounds_toArray, List.set_cons_zero, List.set_cons_succ, i64_w, i32_w]
        rfl
       exact norm_ (by simp only [putAll, Act.put, List.setIfInBounds_toArray, List.set_cons_zero, List.set_cons_succ]) (hCont (gb1121) _ ⟨hHeld, (rD (Kd.R_mono HO_10.out (fun _ hk => hk.2))), (bkC BK1102), (bkC BK1121), GW1121.out, GE1121.out, NB1102_1121.out, NB1121_1102.out, (hbC _)⟩)
      ·skip
       refine box_step ?hg (N := 12) ?hd (cs := #[.int .i64 0, .int .i64 0]) (t := 26) ?hr ?_; (case hd => rfl); (case hg => rfl); (case hr => first | (go_simp; done) | (go_simp; rfl))
       intro gb1121 hg w54 hbox hb
       replace HO_10 := ak (Kd.R_below (Kd.R_elderB (rC HO_10) gb1121 (Nat.le_of_eq hg.symm)) hb)
       have BK1121 := ak (hbox)
       have GW1121 := kG w hg
       have GE1121 := kG w hg
       replace HB := kH _ hb
       have NB1102_1121 := kL BK1102 hg
       have NB1121_1102 := kR BK1102 hg
       replace BK1102 := kB BK1102 hb
       clear hb hbox hg
       refine hK.out _ _ ⟨bc BK1102 0, bc BK1102 1, bc BK1102 2, ((HB.out.cell (World.block_lt_of_cell? w _ hw1116_0)).trans hw1116_0), ((HB.out.cell (World.block_lt_of_cell? w _ hw1117_0)).trans hw1117_0), ((HB.out.cell (World.block_lt_of_cell? w _ hw1118_0)).trans hw1118_0)⟩ (fun hHeld => ?_)
       clear hK K
       refine norm_ (a' := ?_) ?_ ?_
       rotate_left
       ·show Act.put _ (some 12) _ = _
        simp only [Act.put, List.setIfInBounds_toArray, List.set_cons_zero, List.set_cons_succ, i64_w, i32_w]
        rfl
       refine one_ (i := 21) (N := some 67) (ba 24 8388607) rfl rfl (one_of HT_.out (by kernel_rfl)) (by decide) (fun K hK => ?_)
       refine goes_ Try.func33 (by kernel_rfl) rfl #[.int .i64 (wrap64 (a1 - (rd l0_1 x43_2))), .int .i64 (wrap64 ((rd l0_1 (ji37)) - (rd l0_1 x43_2)))] (by rfl) rfl rfl (by (try simp only [List.map_toArray, List.map_cons, List.map_nil]); first | done | (simp only [hji37]; rfl) | rfl | (simp only [List.length_drop, List.length_take]; rfl)) ?_
       with_reducible refine (congouref04_Frac.calls k2 (wrap64 (a1 - (rd l0_1 x43_2))) (wrap64 ((rd l0_1 (ji37)) - (rd l0_1 x43_2))) t1119 t1120 _ A40.out).mono ?_
       rintro e w55 ⟨rfl, hb⟩
       refine ⟨_, rfl, ?_⟩
       replace HO_10 := kO HO_10 hb
       replace BK1102 := kB BK1102 hb
       replace BK1121 := kB BK1121 hb
       replace HB := kH _ hb
       (try clear hb)
       (try clear hb2)
       (try clear hk)
       (try clear hi)
       refine hK.out _ _ ⟨bc BK1102 0, bc BK1102 1, bc BK1102 2, ((HB.out.cell (World.block_lt_of_cell? w _ hw1116_0)).trans hw1116_0), ((HB.out.cell (World.block_lt_of_cell? w _ hw1117_0)).trans hw1117_0), ((HB.out.cell (World.block_lt_of_cell? w _ hw1118_0)).trans hw1118_0)⟩ (fun hHeld => ?_)
       clear hK K
       refine norm_ (a' := ?_) ?_ ?_
       rotate_left
       ·show Act.put _ (some 67) _ = _
        simp only [Act.put, List.setIfInBounds_toArray, List.set_cons_zero, List.set_cons_succ, i64_w, i32_w]
        rfl
       exact norm_ (by simp only [putAll, Act.put, List.setIfInBounds_toArray, List.set_cons_zero, List.set_cons_succ]) (hCont (gb1121) _ ⟨hHeld, (rD (Kd.R_mono HO_10.out (fun _ hk => hk.2))), (bkC BK1102), (bkC BK1121), GW1121.out, GE1121.out, NB1102_1121.out, NB1121_1102.out, (hbC _)⟩)
     rintro gb1121 w56 ⟨hS_, h0_, h1_, h2_, h3_, h4_, h5_, h6_, h7_⟩
     have n0_ : Aside0 (Kd.R k26 26 w56 w.heap.size (fun k_ => k_ ≠ gb1121) u10 x10_2) := ⟨h0_⟩
     have n1_ : Aside0 (w56.heap[gb1102]? = some (.cells #[.int .i64 a0_0, .slice (some ad1116) l0_1.length c0_1, .slice A0_2 l0_2.length c0_2] 24 (0, 0))) := ⟨h1_⟩
     have n2_ : Aside0 (w56.heap[gb1121]? = some (.cells #[.int .i64 0, .int .i64 0] 26 (0, 0))) := ⟨h2_⟩
     have n3_ : Aside0 (w.heap.size ≤ gb1121) := ⟨h3_⟩
     have n4_ : Aside0 (w.heap.size ≤ gb1121) := ⟨h4_⟩
     have n5_ : Aside0 (gb1102 ≠ gb1121) := ⟨h5_⟩
     have n6_ : Aside0 (gb1121 ≠ gb1102) := ⟨h6_⟩
     have n7_ : Aside0 (Below w.heap.size w w56) := ⟨h7_⟩
     clear HO_10
     clear BK1102
     clear HB
     clear h0_ h1_ h2_ h3_ h4_ h5_ h6_ h7_
     have HO_10 := n0_
     have BK1102 := n1_
     have BK1121 := n2_
     have GW1121 := n3_
     have GE1121 := n4_
     have NB1102_1121 := n5_
     have NB1121_1102 := n6_
     have HB := n7_
     clear n0_ n1_ n2_ n3_ n4_ n5_ n6_ n7_
     have hHeld : w56.cell? ⟨gb1102, 0, none⟩ = some (.int .i64 a0_0) ∧ w56.cell? ⟨gb1102, 1, none⟩ = some (.slice (some ad1116) l0_1.length c0_1) ∧ w56.cell? ⟨gb1102, 2, none⟩ = some (.slice A0_2 l0_2.length c0_2) ∧ w56.cell? (ad1116.add (x43_2).toNat) = some (.int .i64 (rd l0_1 x43_2)) ∧ w56.cell? (ad1116.add ((ji37)).toNat) = some (.int .i64 (rd l0_1 (ji37))) ∧ w56.cell? (ad1116.add (x43_2).toNat) = some (.int .i64 (rd l0_1 x43_2)) := hS_
     refine norm_ (a' := ?_) ?_ ?_
     rotate_left
     ·simp only [putAll, Act.put, List.setIfInBounds_toArray, List.set_cons_zero, List.set_cons_succ]
      rfl
     refine one_ (i := 23) (N := none) (ba 24 16777215) rfl rfl (one_of HT_.out (by kernel_rfl)) (by decide) (fun K hK => ?_)
     have hs57 : w56.cell? ⟨gb1121, 0, none⟩ = some (.int .i64 0) := bc BK1121 0
     have hfs57 := fz BK1121 0
     have hns57_0 := NB1102_1121.out
     have hms57_0 := NB1121_1102.out
     have hs58 : w56.cell? ⟨gb1121, 1, none⟩ = some (.int .i64 0) := bc BK1121 1
     have hfs58 := fz BK1121 1
     have hns58_0 := NB1102_1121.out
     have hms58_0 := NB1121_1102.out
     refine skip_ (w1 := ?_) (by rfl) rfl ?_ ?_
     rotate_left
     ·go_simp
      rfl
     refine hK.out _ _ ⟨((cell_far (p := ⟨gb1121, _, none⟩) NB1102_1121.out _).trans (((cell_far (p := ⟨gb1121, _, none⟩) NB1102_1121.out _).trans (hHeld.1)))), ((cell_far (p := ⟨gb1121, _, none⟩) NB1102_1121.out _).trans (((cell_far (p := ⟨gb1121, _, none⟩) NB1102_1121.out _).trans (hHeld.2.1)))), ((cell_far (p := ⟨gb1121, _, none⟩) NB1102_1121.out _).trans (((cell_far (p := ⟨gb1121, _, none⟩) NB1102_1121.out _).trans (hHeld.2.2.1)))), ((cell_far (p := ⟨gb1121, _, none⟩) (by first | exact Nat.ne_of_lt (Nat.lt_of_lt_of_le (by have := World.block_lt_of_cell? _ _ hw1116_0; first | rwa [add_block] at this | exact this) GW1121.out) | (rw [add_block]; exact Nat.ne_of_lt (Nat.lt_of_lt_of_le (by have := World.block_lt_of_cell? _ _ hw1116_0; first | rwa [add_block] at this | exact this) GW1121.out)) | (show (Addr.add _ _).block ≠ _; rw [add_block]; exact Nat.ne_of_lt (Nat.lt_of_lt_of_le (by have := World.block_lt_of_cell? _ _ hw1116_0; first | rwa [add_block] at this | exact this) GW1121.out)) | (dsimp only; exact Nat.ne_of_lt (Nat.lt_of_lt_of_le (by have := World.block_lt_of_cell? _ _ hw1116_0; first | rwa [add_block] at this | exact this) GW1121.out))) _).trans (((cell_far (p := ⟨gb1121, _, none⟩) (by first | exact Nat.ne_of_lt (Nat.lt_of_lt_of_le (by have := World.block_lt_of_cell? _ _ hw1116_0; first | rwa [add_block] at this | exact this) GW1121.out) | (rw [add_block]; exact Nat.ne_of_lt (Nat.lt_of_lt_of_le (by have := World.block_lt_of_cell? _ _ hw1116_0; first | rwa [add_block] at this | exact this) GW1121.out)) | (show (Addr.add _ _).block ≠ _; rw [add_block]; exact Nat.ne_of_lt (Nat.lt_of_lt_of_le (by have := World.block_lt_of_cell? _ _ hw1116_0; first | rwa [add_block] at this | exact this) GW1121.out)) | (dsimp only; exact Nat.ne_of_lt (Nat.lt_of_lt_of_le (by have := World.block_lt_of_cell? _ _ hw1116_0; first | rwa [add_block] at this | exact this) GW1121.out))) _).trans (hHeld.2.2.2.1)))), ((cell_far (p := ⟨gb1121, _, none⟩) (by first | exact Nat.ne_of_lt (Nat.lt_of_lt_of_le (by have := World.block_lt_of_cell? _ _ hw1117_0; first | rwa [add_block] at this | exact this) GW1121.out) | (rw [add_block]; exact Nat.ne_of_lt (Nat.lt_of_lt_of_le (by have := World.block_lt_of_cell? _ _ hw1117_0; first | rwa [add_block] at this | exact this) GW1121.out)) | (show (Addr.add _ _).block ≠ _; rw [add_block]; exact Nat.ne_of_lt (Nat.lt_of_lt_of_le (by have := World.block_lt_of_cell? _ _ hw1117_0; first | rwa [add_block] at this | exact this) GW1121.out)) | (dsimp only; exact Nat.ne_of_lt (Nat.lt_of_lt_of_le (by have := World.block_lt_of_cell? _ _ hw1117_0; first | rwa [add_block] at this | exact this) GW1121.out))) _).trans (((cell_far (p := ⟨gb1121, _, none⟩) (by first | exact Nat.ne_of_lt (Nat.lt_of_lt_of_le (by have := World.block_lt_of_cell? _ _ hw1117_0; first | rwa [add_block] at this | exact this) GW1121.out) | (rw [add_block]; exact Nat.ne_of_lt (Nat.lt_of_lt_of_le (by have := World.block_lt_of_cell? _ _ hw1117_0; first | rwa [add_block] at this | exact this) GW1121.out)) | (show (Addr.add _ _).block ≠ _; rw [add_block]; exact Nat.ne_of_lt (Nat.lt_of_lt_of_le (by have := World.block_lt_of_cell? _ _ hw1117_0; first | rwa [add_block] at this | exact this) GW1121.out)) | (dsimp only; exact Nat.ne_of_lt (Nat.lt_of_lt_of_le (by have := World.block_lt_of_cell? _ _ hw1117_0; first | rwa [add_block] at this | exact this) GW1121.out))) _).trans (hHeld.2.2.2.2.1)))), ((cell_far (p := ⟨gb1121, _, none⟩) (by first | exact Nat.ne_of_lt (Nat.lt_of_lt_of_le (by have := World.block_lt_of_cell? _ _ hw1118_0; first | rwa [add_block] at this | exact this) GW1121.out) | (rw [add_block]; exact Nat.ne_of_lt (Nat.lt_of_lt_of_le (by have := World.block_lt_of_cell? _ _ hw1118_0; first | rwa [add_block] at this | exact this) GW1121.out)) | (show (Addr.add _ _).block ≠ _; rw [add_block]; exact Nat.ne_of_lt (Nat.lt_of_lt_of_le (by have := World.block_lt_of_cell? _ _ hw1118_0; first | rwa [add_block] at this | exact this) GW1121.out)) | (dsimp only; exact Nat.ne_of_lt (Nat.lt_of_lt_of_le (by have := World.block_lt_of_cell? _ _ hw1118_0; first | rwa [add_block] at this | exact this) GW1121.out))) _).trans (((cell_far (p := ⟨gb1121, _, none⟩) (by first | exact Nat.ne_of_lt (Nat.lt_of_lt_of_le (by have := World.block_lt_of_cell? _ _ hw1118_0; first | rwa [add_block] at this | exact this) GW1121.out) | (rw [add_block]; exact Nat.ne_of_lt (Nat.lt_of_lt_of_le (by have := World.block_lt_of_cell? _ _ hw1118_0; first | rwa [add_block] at this | exact this) GW1121.out)) | (show (Addr.add _ _).block ≠ _; rw [add_block]; exact Nat.ne_of_lt (Nat.lt_of_lt_of_le (by have := World.block_lt_of_cell? _ _ hw1118_0; first | rwa [add_block] at this | exact this) GW1121.out)) | (dsimp only; exact Nat.ne_of_lt (Nat.lt_of_lt_of_le (by have := World.block_lt_of_cell? _ _ hw1118_0; first | rwa [add_block] at this | exact this) GW1121.out))) _).trans (hHeld.2.2.2.2.2))))⟩ (fun hHeld => ?_)
     clear hK K
     refine done_ (done_of HT_.out (by kernel_rfl)) ?_
     try go_wp2
     have n0_ : Aside0 (Kd.R k26 26 ((w56.setCell ⟨gb1121, 0, none⟩ (.int .i64 t1119)).setCell ⟨gb1121, 1, none⟩ (.int .i64 t1120)) w.heap.size (fun k_ => k_ ≠ gb1121) u10 x10_2) := ⟨rD (Kd.R_mono (Kd.R_far (p := ⟨gb1121, 1, none⟩) (Kd.R_far (p := ⟨gb1121, 0, none⟩) (Kd.R_mono HO_10.out (fun k_ hk => (⟨hk, hk⟩ : _ ∧ k_ ≠ gb1121))) (fun _ hk => hk.2) (.int .i64 t1119)) (fun _ hk => hk.2) (.int .i64 t1120)) (fun _ hk => hk.1))⟩
     have n1_ : Aside0 (((w56.setCell ⟨gb1121, 0, none⟩ (.int .i64 t1119)).setCell ⟨gb1121, 1, none⟩ (.int .i64 t1120)).heap[gb1102]? = some (.cells #[.int .i64 a0_0, .slice (some ad1116) l0_1.length c0_1, .slice A0_2 l0_2.length c0_2] 24 (0, 0))) := ⟨bF BK1102⟩
     have n2_ : Aside0 (((w56.setCell ⟨gb1121, 0, none⟩ (.int .i64 t1119)).setCell ⟨gb1121, 1, none⟩ (.int .i64 t1120)).heap[gb1121]? = some (.cells #[.int .i64 t1119, .int .i64 t1120] 26 (0, 0))) := ⟨by (with_reducible repeat (first | refine blk_drewN ?_ _ | refine blk_drew ?_ | refine blk_alloc ?_ _)); refine blk_put (cs := #[.int .i64 t1119, .int .i64 0]) ?_ 1 _ rfl; (with_reducible repeat (first | refine blk_drewN ?_ _ | refine blk_drew ?_ | refine blk_alloc ?_ _)); refine blk_put (cs := #[.int .i64 0, .int .i64 0]) ?_ 0 _ rfl; (with_reducible repeat (first | refine blk_drewN ?_ _ | refine blk_drew ?_ | refine blk_alloc ?_ _)); exact BK1121.out⟩
     have n3_ : Aside0 (Below w.heap.size w ((w56.setCell ⟨gb1121, 0, none⟩ (.int .i64 t1119)).setCell ⟨gb1121, 1, none⟩ (.int .i64 t1120))) := ⟨hbC _⟩
     (try clear HO_10)
     (try clear BK1102)
     (try clear BK1121)
     (try clear HB)
     generalize ((w56.setCell ⟨gb1121, 0, none⟩ (.int .i64 t1119)).setCell ⟨gb1121, 1, none⟩ (.int .i64 t1120)) = w59 at n0_ n1_ n2_ n3_ ⊢
     have HO_10 := n0_
     have BK1102 := n1_
     have BK1121 := n2_
     have HB := n3_
     clear n0_ n1_ n2_ n3_
     replace HO_10 := ak (Kd.R_drew HO_10.out)
     replace BK1102 := kd BK1102
     replace BK1121 := kd BK1121
     replace HB := ak (below_drew1 HB.out)
     have p1122 : 0 ≤ (x43_2 : Int) := dA
     have q1122 : x43_2 < (l0_2.length : Int) := dA
     obtain ⟨ad1122, e1122, hx1122_0⟩ := Kd.at_int HR0_2.out x43_2 p1122 q1122
     have hw1122_0 := hx1122_0
     cases e1122
     try replace hx1122_0 := (HB.out.cell (World.block_lt_of_cell? w _ hx1122_0)).trans hx1122_0
     replace p1122 := eq_true p1122
     replace q1122 := eq_true q1122
     have p1129 : 0 ≤ ((ji45) : Int) := dA
     have q1129 : (ji45) < (l0_2.length : Int) := dA
     obtain ⟨ad1129, e1129, hx1129_0⟩ := Kd.at_int HR0_2.out (ji45) p1129 q1129
     have hw1129_0 := hx1129_0
     obtain rfl : ad1122 = ad1129 := (by injection e1129)
     try replace hx1129_0 := (HB.out.cell (World.block_lt_of_cell? w _ hx1129_0)).trans hx1129_0
     replace p1129 := eq_true p1129
     replace q1129 := eq_true q1129
     refine sS (n := 29) (S := fun w' => w'.cell? ⟨gb1121, 0, none⟩ = some (.int .i64 t1119) ∧ w'.cell? ⟨gb1121, 1, none⟩ = some (.int .i64 t1120) ∧ w'.cell? ⟨gb1102, 0, none⟩ = some (.int .i64 a0_0) ∧ w'.cell? ⟨gb1102, 1, none⟩ = some (.slice (some ad1116) l0_1.length c0_1) ∧ w'.cell? ⟨gb1102, 2, none⟩ = some (.slice (some ad1122) l0_2.length c0_2) ∧ w'.cell? (ad1122.add (x43_2).toNat) = some (.int .i64 (rd l0_2 x43_2)) ∧ w'.cell? (ad1122.add ((ji45)).toNat) = some (.int .i64 (rd l0_2 (ji45)))) (ds := []) ⟨bc BK1121 0, bc BK1121 1, bc BK1102 0, bc BK1102 1, bc BK1102 2, ((HB.out.cell (World.block_lt_of_cell? w _ hw1122_0)).trans hw1122_0), ((HB.out.cell (World.block_lt_of_cell? w _ hw1129_0)).trans hw1129_0)⟩ (fun hHeld => ?_); refine with_tabW congouref04_Insert.tab19 congouref04_Insert.bits19 (fun HT_ HW_ => ?_)
     generalize w59.drew = w60 at HO_10 BK1102 BK1121 HB hx1122_0 hx1129_0 hHeld ⊢
     refine pS 0 68 29 1 ?_
     refine pS 2 70 29 5 ?_
     refine pS 4 72 29 21 ?_
     refine pS 9 77 29 533 ?_
     refine pS 11 79 29 2581 ?_
     refine pS 14 82 29 18965 ?_
     refine pS 17 85 29 150037 ?_
     refine pS 19 87 29 674325 ?_
     refine pS 20 88 29 1722901 ?_
     refine tS 1 69 29 1722903 ?_
     refine tS 3 71 29 1722911 ?_
     refine pS 5 73 29 1722943 ?_
     refine tS 6 74 29 1723007 ?_
     refine tS 10 78 29 1724031 ?_
     refine tS 12 80 29 1728127 ?_
     refine pS 13 81 29 1736319 ?_
     refine tS 15 83 29 1769087 ?_
     refine tS 18 86 29 2031231 ?_
     refine pS 21 89 29 4128383 ?_
     refine tS 22 90 29 8322687 ?_
     refine one_ (i := 7) (N := some 75) (ba 29 8322815) rfl rfl (one_of HT_.out (by kernel_rfl)) (by decide) (fun K hK => ?_)
     refine gC Try.func56 #[.int .i64 (rd l0_2 x43_2)] ?_
     with_reducible refine (congouref04_whole.calls (rd l0_2 x43_2) t1123 t1124 _ A42.out).mono ?_
     rintro e w61 ⟨rfl, hb⟩
     refine ⟨_, rfl, ?_⟩
     replace HO_10 := kO HO_10 hb
     replace BK1102 := kB BK1102 hb
     replace BK1121 := kB BK1121 hb
     replace HB := kH _ hb
     (try clear hb)
     (try clear hb2)
     (try clear hk)
     (try clear hi)
     refine hK.out _ _ ⟨bc BK1121 0, bc BK1121 1, bc BK1102 0, bc BK1102 1, bc BK1102 2, ((HB.out.cell (World.block_lt_of_cell? w _ hw1122_0)).trans hw1122_0), ((HB.out.cell (World.block_lt_of_cell? w _ hw1129_0)).trans hw1129_0)⟩ (fun hHeld => ?_)
     clear hK K
     refine norm_ (a' := ?_) ?_ ?_
     rotate_left
     ·show Act.put _ (some 75) _ = _
      simp only [Act.put, List.setIfInBounds_toArray, List.set_cons_zero, List.set_cons_succ, i64_w, i32_w]
      rfl
     refine one_ (i := 8) (N := some 76) (ba 29 8323071) rfl rfl (one_of HT_.out (by kernel_rfl)) (by decide) (fun K hK => ?_)
     refine gC Try.func58 #[.agg #[.int .i64 t1119, .int .i64 t1120], .agg #[.int .i64 t1123, .int .i64 t1124]] ?_
     with_reducible refine (congouref04_Times.calls k2 t1119 t1120 t1123 t1124 t1125 t1126 _ A43.out).mono ?_
     rintro e w62 ⟨rfl, hb⟩
     refine ⟨_, rfl, ?_⟩
     replace HO_10 := kO HO_10 hb
     replace BK1102 := kB BK1102 hb
     replace BK1121 := kB BK1121 hb
     replace HB := kH _ hb
     (try clear hb)
     (try clear hb2)
     (try clear hk)
     (try clear hi)
     refine hK.out _ _ ⟨bc BK1121 0, bc BK1121 1, bc BK1102 0, bc BK1102 1, bc BK1102 2, ((HB.out.cell (World.block_lt_of_cell? w _ hw1122_0)).trans hw1122_0), ((HB.out.cell (World.block_lt_of_cell? w _ hw1129_0)).trans hw1129_0)⟩ (fun hHeld => ?_)
     clear hK K
     refine norm_ (a' := ?_) ?_ ?_
     rotate_left
     ·show Act.put _ (some 76) _ = _
      simp only [Act.put, List.setIfInBounds_toArray, List.set_cons_zero, List.set_cons_succ, i64_w, i32_w]
      rfl
     refine one_ (i := 16) (N := some 84) (ba 29 8388607) rfl rfl (one_of HT_.out (by kernel_rfl)) (by decide) (fun K hK => ?_)
     refine gC Try.func33 #[.int .i64 (wrap64 (t1120 - t1119)), .int .i64 t1120] ?_
     with_reducible refine (congouref04_Frac.calls k2 (wrap64 (t1120 - t1119)) t1120 t1127 t1128 _ A44.out).mono ?_
     rintro e w63 ⟨rfl, hb⟩
     refine ⟨_, rfl, ?_⟩
     replace HO_10 := kO HO_10 hb
     replace BK1102 := kB BK1102 hb
     replace BK1121 := kB BK1121 hb
     replace HB := kH _ hb
     (try clear hb)
     (try clear hb2)
     (try clear hk)
     (try clear hi)
     refine hK.out _ _ ⟨bc BK1121 0, bc BK1121 1, bc BK1102 0, bc BK1102 1, bc BK1102 2, ((HB.out.cell (World.block_lt_of_cell? w _ hw1122_0)).trans hw1122_0), ((HB.out.cell (World.block_lt_of_cell? w _ hw1129_0)).trans hw1129_0)⟩ (fun hHeld => ?_)
     clear hK K
     refine norm_ (a' := ?_) ?_ ?_
     rotate_left
     ·show Act.put _ (some 84) _ = _
      simp only [Act.put, List.setIfInBounds_toArray, List.set_cons_zero, List.set_cons_succ, i64_w, i32_w]
      rfl
     refine one_ (i := 23) (N := some 91) (ba 29 16777215) rfl rfl (one_of HT_.out (by kernel_rfl)) (by decide) (fun K hK => ?_)
     refine goes_ Try.func56 (by kernel_rfl) rfl #[.int .i64 (rd l0_2 (ji45))] (by rfl) rfl rfl (by (try simp only [List.map_toArray, List.map_cons, List.map_nil]); first | done | (simp only [hji45]; rfl) | rfl | (simp only [List.length_drop, List.length_take]; rfl)) ?_
     with_reducible refine (congouref04_whole.calls (rd l0_2 (ji45)) t1130 t1131 _ A48.out).mono ?_
     rintro e w64 ⟨rfl, hb⟩
     refine ⟨_, rfl, ?_⟩
     replace HO_10 := kO HO_10 hb
     replace BK1102 := kB BK1102 hb
     replace BK1121 := kB BK1121 hb
     replace HB := kH _ hb
     (try clear hb)
     (try clear hb2)
     (try clear hk)
     (try clear hi)
     refine hK.out _ _ ⟨bc BK1121 0, bc BK1121 1, bc BK1102 0, bc BK1102 1, bc BK1102 2, ((HB.out.cell (World.block_lt_of_cell? w _ hw1122_0)).trans hw1122_0), ((HB.out.cell (World.block_lt_of_cell? w _ hw1129_0)).trans hw1129_0)⟩ (fun hHeld => ?_)
     clear hK K
     refine norm_ (a' := ?_) ?_ ?_
     rotate_left
     ·show Act.put _ (some 91) _ = _
      simp only [Act.put, List.setIfInBounds_toArray, List.set_cons_zero, List.set_cons_succ, i64_w, i32_w]
      rfl
     refine one_ (i := 24) (N := some 92) (ba 29 33554431) rfl rfl (one_of HT_.out (by kernel_rfl)) (by decide) (fun K hK => ?_)
     refine gC Try.func58 #[.agg #[.int .i64 t1127, .int .i64 t1128], .agg #[.int .i64 t1130, .int .i64 t1131]] ?_
     with_reducible refine (congouref04_Times.calls k2 t1127 t1128 t1130 t1131 t1132 t1133 _ A49.out).mono ?_
     rintro e w65 ⟨rfl, hb⟩
     refine ⟨_, rfl, ?_⟩
     replace HO_10 := kO HO_10 hb
     replace BK1102 := kB BK1102 hb
     replace BK1121 := kB BK1121 hb
     replace HB := kH _ hb
     (try clear hb)
     (try clear hb2)
     (try clear hk)
     (try clear hi)
     refine hK.out _ _ ⟨bc BK1121 0, bc BK1121 1, bc BK1102 0, bc BK1102 1, bc BK1102 2, ((HB.out.cell (World.block_lt_of_cell? w _ hw1122_0)).trans hw1122_0), ((HB.out.cell (World.block_lt_of_cell? w _ hw1129_0)).trans hw1129_0)⟩ (fun hHeld => ?_)
     clear hK K
     refine norm_ (a' := ?_) ?_ ?_
     rotate_left
     ·show Act.put _ (some 92) _ = _
      simp only [Act.put, List.setIfInBounds_toArray, List.set_cons_zero, List.set_cons_succ, i64_w, i32_w]
      rfl
     refine one_ (i := 25) (N := some 93) (ba 29 67108863) rfl rfl (one_of HT_.out (by kernel_rfl)) (by decide) (fun K hK => ?_)
     refine gC Try.func57 #[.agg #[.int .i64 t1125, .int .i64 t1126], .agg #[.int .i64 t1132, .int .i64 t1133]] ?_
     with_reducible refine (congouref04_Plus.calls k2 t1125 t1126 t1132 t1133 t1134 t1135 _ A50.out).mono ?_
     rintro e w66 ⟨rfl, hb⟩
     refine ⟨_, rfl, ?_⟩
     replace HO_10 := kO HO_10 hb
     replace BK1102 := kB BK1102 hb
     replace BK1121 := kB BK1121 hb
     replace HB := kH _ hb
     (try clear hb)
     (try clear hb2)
     (try clear hk)
     (try clear hi)
     refine hK.out _ _ ⟨bc BK1121 0, bc BK1121 1, bc BK1102 0, bc BK1102 1, bc BK1102 2, ((HB.out.cell (World.block_lt_of_cell? w _ hw1122_0)).trans hw1122_0), ((HB.out.cell (World.block_lt_of_cell? w _ hw1129_0)).trans hw1129_0)⟩ (fun hHeld => ?_)
     clear hK K
     refine norm_ (a' := ?_) ?_ ?_
     rotate_left
     ·show Act.put _ (some 93) _ = _
      simp only [Act.put, List.setIfInBounds_toArray, List.set_cons_zero, List.set_cons_succ, i64_w, i32_w]
      rfl
     refine one_ (i := 26) (N := some 94) (ba 29 134217727) rfl rfl (one_of HT_.out (by kernel_rfl)) (by decide) (fun K hK => ?_)
     refine value_ (w1 := ?_) (v := ?_) (by rfl) rfl ?_ ?_
     rotate_left 2
     ·go_simp
      constructor
      ·rfl
      ·rfl
     refine hK.out _ _ ⟨(blk_cell (blk_alloc BK1121.out _) 0).trans rfl, (blk_cell (blk_alloc BK1121.out _) 1).trans rfl, (blk_cell (blk_alloc BK1102.out _) 0).trans rfl, (blk_cell (blk_alloc BK1102.out _) 1).trans rfl, (blk_cell (blk_alloc BK1102.out _) 2).trans rfl, (World.cell?_alloc_lt _ _ _ (World.block_lt_of_cell? _ _ (((HB.out.cell (World.block_lt_of_cell? w _ hw1122_0)).trans hw1122_0)))).trans (((HB.out.cell (World.block_lt_of_cell? w _ hw1122_0)).trans hw1122_0)), (World.cell?_alloc_lt _ _ _ (World.block_lt_of_cell? _ _ (((HB.out.cell (World.block_lt_of_cell? w _ hw1129_0)).trans hw1129_0)))).trans (((HB.out.cell (World.block_lt_of_cell? w _ hw1129_0)).trans hw1129_0))⟩ (fun hHeld => ?_)
     clear hK K
     refine norm_ (a' := ?_) ?_ ?_
     rotate_left
     ·show Act.put _ (some 94) _ = _
      simp only [Act.put, List.setIfInBounds_toArray, List.set_cons_zero, List.set_cons_succ, i64_w, i32_w]
      rfl
     refine one_ (i := 27) (N := some 95) (ba 29 268435455) rfl rfl (one_of HT_.out (by kernel_rfl)) (by decide) (fun K hK => ?_)
     refine Kd.R_append_step k26 (w0 := w) w.heap.size (by rfl) (.tmp 68) (.tmp 94) 34 26 (.agg #[(.int .i64 0), (.int .i64 0)]) 16 rfl Try.underlying34 info26 rfl (by decide) (by omega) u10 x10_2 (⟨t1134, t1135⟩ : S26) [.int .i64 t1134, .int .i64 t1135] (fun k_ => k_ ≠ gb1121) (fun _ => False) rfl rfl ?aP (fun _ hk => hk.elim) ?aF ?aO ?aB ?aS ?aL ?_
     (case aP => exact k26_mkM _ _ _ (⟨t1134, t1135⟩ : S26))
     (case aB => exact (hbC _))
     (case aF => exact (fun k_ hk => Kd.freshB (g := gb1121) (o := .cells #[.int .i64 t1119, .int .i64 t1120] 26 (0, 0)) (bkC BK1121) k_ hk))
     (case aO => exact (rC HO_10))
     (case aS => exact (below_size (hbC _)))
     (case aL => have := LMc51.out; omega)
     intro v1137 w67 ho hb hg hat
     rw [← Ny1136.out] at ho
     have n0_ := ak (blk_grown (g := gb1102) (o := .cells #[.int .i64 a0_0, .slice (some ad1116) l0_1.length c0_1, .slice (some ad1122) l0_2.length c0_2] 24 (0, 0)) (bkC BK1102) hg (Kd.R_ne HO_10.out BK1102.out (by decide)))
     have n1_ := ak (blk_grown (g := gb1121) (o := .cells #[.int .i64 t1119, .int .i64 t1120] 26 (0, 0)) (bkC BK1121) hg (Kd.R_away HO_10.out (fun _ hk => hk)))
     have n2_ := ak (hb)
     have n3_ := ak (ho)
     clear BK1102
     clear BK1121
     clear HB
     clear HO_10
     have BK1102 := n0_
     have BK1121 := n1_
     have HB := n2_
     have HO1138 := n3_
     clear n0_ n1_ n2_ n3_
     clear ho hb hg hat
     refine hK.out _ _ ⟨bc BK1121 0, bc BK1121 1, bc BK1102 0, bc BK1102 1, bc BK1102 2, ((HB.out.cell (World.block_lt_of_cell? w _ hw1122_0)).trans hw1122_0), ((HB.out.cell (World.block_lt_of_cell? w _ hw1129_0)).trans hw1129_0)⟩ (fun hHeld => ?_)
     clear hK K
     refine norm_ (a' := ?_) ?_ ?_
     rotate_left
     ·show Act.put _ (some 95) _ = _
      simp only [Act.put, List.setIfInBounds_toArray, List.set_cons_zero, List.set_cons_succ, i64_w, i32_w]
      rfl
     refine pS 28 10 29 536870911 ?_
     refine done_ (done_of HT_.out (by kernel_rfl)) ?_
     try go_wp2
     go_roundg k2
     case measure => have := HK1.out; have := HK2.out; omega
     case rel => exact ⟨(y1136), (wrap64 (x43_2 + 1)), (by first | rfl | (simp; done) | (simp [*]; done)), H', ⟨by have := HK1.out; have := HK2.out; omega⟩, ⟨rD (Kd.R_mono HO1138.out (fun _ hk => trivial))⟩, ⟨bkC BK1102⟩, ⟨hbC _⟩⟩

end Go.Proofs.Ytpnocmkpeogifaa.X
