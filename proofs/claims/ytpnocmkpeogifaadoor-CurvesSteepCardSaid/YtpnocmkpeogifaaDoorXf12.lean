-- Written by a program of this work (wip/xprint.py, over the kit's printer) out of the translation.
import Derived.Test.YtpnocmkpeogifaaDoorX0
namespace Go.Proofs.YtpnocmkpeogifaaDoor.X
open Go.RowKit Go.Proofs.YtpnocmkpeogifaaDoorW.PrintWords Go.Proofs.YtpnocmkpeogifaaDoorW.PrintLast Go.Proofs.YtpnocmkpeogifaaDoorW.PrintMore
attribute [local go_sem] max2_int min2_int max_two min_two max_three min_three max_four min_four   -- for this text's walks alone
set_option linter.unusedVariables false
set_option linter.unusedSimpArgs false

/-! ### congouref04_Valid: function 12 -/
mutual
def congouref04_Valid.j0 : Nat → Int → Bool → Int → List Int → List Int → Option (Bool)
 | 0, _, _, _, _, _ => none
 | k + 1, x3, x40, x260000, x260001, x260002 => if x40 = true then (some false) else (congouref04_Valid.l0 k x3 x260002 (x260002.length : Int) 0 x260000 x260001 x260002)
def congouref04_Valid.l0 : Nat → Int → List Int → Int → Int → Int → List Int → List Int → Option (Bool)
 | 0, _, _, _, _, _, _, _ => none
 | k + 1, x3, x42, x43, x44, x260000, x260001, x260002 => if x44 < x43 then (if 0 ≤ x44 then (if x44 < (x42.length : Int) then (if (rd x42 x44) < (-50) then (some false) else (if (rd x42 x44) > 50 then (some false) else (congouref04_Valid.l0 k x3 x42 x43 (wrap64 (x44 + 1)) x260000 x260001 x260002))) else (none)) else (none)) else (congouref04_Valid.l1 k x3 x260001 (x260001.length : Int) 0 x260000 x260001 x260002)
def congouref04_Valid.l1 : Nat → Int → List Int → Int → Int → Int → List Int → List Int → Option (Bool)
 | 0, _, _, _, _, _, _, _ => none
 | k + 1, x3, x56, x57, x58, x260000, x260001, x260002 => if x58 < x57 then (if 0 ≤ x58 then (if x58 < (x56.length : Int) then (if (rd x56 x58) < 0 then (some false) else (if (rd x56 x58) > 12 then (some false) else (if x58 > 0 then (if 0 ≤ (wrap64 (x58 - 1)) then (if (wrap64 (x58 - 1)) < (x260001.length : Int) then (if (rd x56 x58) < (rd x260001 (wrap64 (x58 - 1))) then (some false) else (if x58 > x260000 then (if 0 ≤ (wrap64 ((wrap64 (x58 - x260000)) - 1)) then (if (wrap64 ((wrap64 (x58 - x260000)) - 1)) < (x260001.length : Int) then (if (rd x56 x58) = (rd x260001 (wrap64 ((wrap64 (x58 - x260000)) - 1))) then (some false) else (congouref04_Valid.l1 k x3 x56 x57 (wrap64 (x58 + 1)) x260000 x260001 x260002)) else (none)) else (none)) else (congouref04_Valid.l1 k x3 x56 x57 (wrap64 (x58 + 1)) x260000 x260001 x260002))) else (none)) else (none)) else (if x58 > x260000 then (if 0 ≤ (wrap64 ((wrap64 (x58 - x260000)) - 1)) then (if (wrap64 ((wrap64 (x58 - x260000)) - 1)) < (x260001.length : Int) then (if (rd x56 x58) = (rd x260001 (wrap64 ((wrap64 (x58 - x260000)) - 1))) then (some false) else (congouref04_Valid.l1 k x3 x56 x57 (wrap64 (x58 + 1)) x260000 x260001 x260002)) else (none)) else (none)) else (congouref04_Valid.l1 k x3 x56 x57 (wrap64 (x58 + 1)) x260000 x260001 x260002))))) else (none)) else (none)) else (if 0 ≤ x260000 then (if x260000 < (x260001.length : Int) then (if 0 ≤ x3 then (if x3 < (x260001.length : Int) then (some (decide ((rd x260001 x260000) < (rd x260001 x3)))) else (none)) else (none)) else (none)) else (none))
end
def congouref04_Valid.f (k : Nat) (a0_0 : Int) (l0_1 : List Int) (l0_2 : List Int) : Option (Bool) := if a0_0 < 0 then (congouref04_Valid.j0 k (l0_2.length : Int) true a0_0 l0_1 l0_2) else (if a0_0 > 3 then (congouref04_Valid.j0 k (l0_2.length : Int) true a0_0 l0_1 l0_2) else (if (l0_2.length : Int) < (wrap64 (a0_0 + 1)) then (congouref04_Valid.j0 k (l0_2.length : Int) true a0_0 l0_1 l0_2) else (if (l0_2.length : Int) > 8 then (congouref04_Valid.j0 k (l0_2.length : Int) true a0_0 l0_1 l0_2) else (congouref04_Valid.j0 k (l0_2.length : Int) ((l0_1.length : Int) != (wrap64 ((wrap64 ((l0_2.length : Int) + a0_0)) + 1))) a0_0 l0_1 l0_2))))
theorem congouref04_Valid.mono_l : ∀ k, (∀ y0 y1 y2 y3 y4, LeO (congouref04_Valid.j0 k y0 y1 y2 y3 y4) (congouref04_Valid.j0 (k + 1) y0 y1 y2 y3 y4)) ∧ (∀ y0 y1 y2 y3 y4 y5 y6, LeO (congouref04_Valid.l0 k y0 y1 y2 y3 y4 y5 y6) (congouref04_Valid.l0 (k + 1) y0 y1 y2 y3 y4 y5 y6)) ∧ (∀ y0 y1 y2 y3 y4 y5 y6, LeO (congouref04_Valid.l1 k y0 y1 y2 y3 y4 y5 y6) (congouref04_Valid.l1 (k + 1) y0 y1 y2 y3 y4 y5 y6))
 | 0 => ⟨fun _ _ _ _ _ r h => by simp [congouref04_Valid.j0] at h, fun _ _ _ _ _ _ _ r h => by simp [congouref04_Valid.l0] at h, fun _ _ _ _ _ _ _ r h => by simp [congouref04_Valid.l1] at h⟩
 | k + 1 => by
  obtain ⟨ih0, ih1, ih2⟩ := congouref04_Valid.mono_l k
  refine ⟨?_, ?_, ?_⟩
  ·intro y0 y1 y2 y3 y4
   unfold congouref04_Valid.j0
   repeat' first
   | (with_reducible exact ih0 _ _ _ _ _)
   | (with_reducible exact ih1 _ _ _ _ _ _ _)
   | (with_reducible exact ih2 _ _ _ _ _ _ _)
   | (with_reducible exact LeO.refl _)
   | (with_reducible exact LeO.none _)
   | (with_reducible refine LeO.ite ?_ ?_)
   | (with_reducible refine LeO.bind ?_ (fun _ => ?_))
   | exact ih0 _ _ _ _ _
   | exact ih1 _ _ _ _ _ _ _
   | exact ih2 _ _ _ _ _ _ _
   | exact LeO.none _
   | refine LeO.ite ?_ ?_
   | refine LeO.bind ?_ (fun _ => ?_)
  ·intro y0 y1 y2 y3 y4 y5 y6
   unfold congouref04_Valid.l0
   repeat' first
   | (with_reducible exact ih0 _ _ _ _ _)
   | (with_reducible exact ih1 _ _ _ _ _ _ _)
   | (with_reducible exact ih2 _ _ _ _ _ _ _)
   | (with_reducible exact LeO.refl _)
   | (with_reducible exact LeO.none _)
   | (with_reducible refine LeO.ite ?_ ?_)
   | (with_reducible refine LeO.bind ?_ (fun _ => ?_))
   | exact ih0 _ _ _ _ _
   | exact ih1 _ _ _ _ _ _ _
   | exact ih2 _ _ _ _ _ _ _
   | exact LeO.none _
   | refine LeO.ite ?_ ?_
   | refine LeO.bind ?_ (fun _ => ?_)
  ·intro y0 y1 y2 y3 y4 y5 y6
   unfold congouref04_Valid.l1
   repeat' first
   | (with_reducible exact ih0 _ _ _ _ _)
   | (with_reducible exact ih1 _ _ _ _ _ _ _)
   | (with_reducible exact ih2 _ _ _ _ _ _ _)
   | (with_reducible exact LeO.refl _)
   | (with_reducible exact LeO.none _)
   | (with_reducible refine LeO.ite ?_ ?_)
   | (with_reducible refine LeO.bind ?_ (fun _ => ?_))
   | exact ih0 _ _ _ _ _
   | exact ih1 _ _ _ _ _ _ _
   | exact ih2 _ _ _ _ _ _ _
   | exact LeO.none _
   | refine LeO.ite ?_ ?_
   | refine LeO.bind ?_ (fun _ => ?_)
theorem congouref04_Valid.mono : ∀ a0 a1 a2 k, LeO (congouref04_Valid.f k a0 a1 a2) (congouref04_Valid.f (k + 1) a0 a1 a2) := by
 intro a0 a1 a2 k
 obtain ⟨ih0, ih1, ih2⟩ := congouref04_Valid.mono_l k
 unfold congouref04_Valid.f
 repeat' first
   | (with_reducible exact ih0 _ _ _ _ _)
   | (with_reducible exact ih1 _ _ _ _ _ _ _)
   | (with_reducible exact ih2 _ _ _ _ _ _ _)
   | (with_reducible exact LeO.refl _)
   | (with_reducible exact LeO.none _)
   | (with_reducible refine LeO.ite ?_ ?_)
   | (with_reducible refine LeO.bind ?_ (fun _ => ?_))
   | exact ih0 _ _ _ _ _
   | exact ih1 _ _ _ _ _ _ _
   | exact ih2 _ _ _ _ _ _ _
   | exact LeO.none _
   | refine LeO.ite ?_ ?_
   | refine LeO.bind ?_ (fun _ => ?_)
set_option maxHeartbeats 8000000 in
set_option maxRecDepth 100000 in
theorem congouref04_Valid.calls (k : Nat) (a0_0 : Int) (A0_1 : Option Addr) (c0_1 : Nat) (l0_1 : List Int) (A0_2 : Option Addr) (c0_2 : Nat) (l0_2 : List Int) (r : Bool) (w : World) (hr0_1 : Kd.C (Kd.int .i64) w A0_1 l0_1.length l0_1) (hc0_1 : l0_1.length ≤ c0_1) (hr0_2 : Kd.C (Kd.int .i64) w A0_2 l0_2.length l0_2) (hc0_2 : l0_2.length ≤ c0_2) (h : congouref04_Valid.f k a0_0 l0_1 l0_2 = some r) :
  Calls Tryd.prog 12 #[.agg #[.int .i64 a0_0, .slice A0_1 l0_1.length c0_1, .slice A0_2 l0_2.length c0_2]] w fun e w' => e = .returned (.bool r) ∧ Below w.heap.size w w' := by
 have hu24 := Tryd.underlying24
 have HR0_1 := Aside0.mk hr0_1
 have HC0_1 := Aside0.mk hc0_1
 clear hr0_1 hc0_1
 have HR0_2 := Aside0.mk hr0_2
 have HC0_2 := Aside0.mk hc0_2
 clear hr0_2 hc0_2
 have HB := ak (Below.refl w.heap.size w)
 have H : (if a0_0 < 0 then (congouref04_Valid.j0 k (l0_2.length : Int) true a0_0 l0_1 l0_2) else (if a0_0 > 3 then (congouref04_Valid.j0 k (l0_2.length : Int) true a0_0 l0_1 l0_2) else (if (l0_2.length : Int) < (wrap64 (a0_0 + 1)) then (congouref04_Valid.j0 k (l0_2.length : Int) true a0_0 l0_1 l0_2) else (if (l0_2.length : Int) > 8 then (congouref04_Valid.j0 k (l0_2.length : Int) true a0_0 l0_1 l0_2) else (congouref04_Valid.j0 k (l0_2.length : Int) ((l0_1.length : Int) != (wrap64 ((wrap64 ((l0_2.length : Int) + a0_0)) + 1))) a0_0 l0_1 l0_2))))) = some r := h
 clear h
 have HC2 := Aside0.mk H
 clear H
 go_enter Tryd.func12, Tryd.ntmps12
 go_upto_region 2 with (first | ((with_reducible refine gate_dst (N := 1) rfl ?_); (try (refine gate_guard (by rfl) ?_; dsimp only)); refine bE 1 #[.int .i64 a0_0, .slice A0_1 l0_1.length c0_1, .slice A0_2 l0_2.length c0_2] 24 ?_; intro gb259 hg w3 hbox hb; have BK259 := ak (hbox); have GW259 := kG w hg; have GE259 := kG w hg; replace HB := kH _ hb; clear hb hbox hg; have hcz4_0 : w3.cell? ⟨gb259, 0, none⟩ = some (.int .i64 a0_0) := bc BK259 0; have hcz4_1 : w3.cell? ⟨gb259, 1, none⟩ = some (.slice A0_1 l0_1.length c0_1) := bc BK259 1; have hcz4_2 : w3.cell? ⟨gb259, 2, none⟩ = some (.slice A0_2 l0_2.length c0_2) := bc BK259 2; have hfz4_0 := fz BK259 0; have hfz4_1 := fz BK259 1; have hfz4_2 := fz BK259 2))
 repeat (go_quiet (first | ((with_reducible refine gate_dst (N := 1) rfl ?_); (try (refine gate_guard (by rfl) ?_; dsimp only)); refine bE 1 #[.int .i64 a0_0, .slice A0_1 l0_1.length c0_1, .slice A0_2 l0_2.length c0_2] 24 ?_; intro gb259 hg w3 hbox hb; have BK259 := ak (hbox); have GW259 := kG w hg; have GE259 := kG w hg; replace HB := kH _ hb; clear hb hbox hg; have hcz4_0 : w3.cell? ⟨gb259, 0, none⟩ = some (.int .i64 a0_0) := bc BK259 0; have hcz4_1 : w3.cell? ⟨gb259, 1, none⟩ = some (.slice A0_1 l0_1.length c0_1) := bc BK259 1; have hcz4_2 : w3.cell? ⟨gb259, 2, none⟩ = some (.slice A0_2 l0_2.length c0_2) := bc BK259 2; have hfz4_0 := fz BK259 0; have hfz4_1 := fz BK259 1; have hfz4_2 := fz BK259 2)); go_upto_region 2 with (first | ((with_reducible refine gate_dst (N := 1) rfl ?_); (try (refine gate_guard (by rfl) ?_; dsimp only)); refine bE 1 #[.int .i64 a0_0, .slice A0_1 l0_1.length c0_1, .slice A0_2 l0_2.length c0_2] 24 ?_; intro gb259 hg w3 hbox hb; have BK259 := ak (hbox); have GW259 := kG w hg; have GE259 := kG w hg; replace HB := kH _ hb; clear hb hbox hg; have hcz4_0 : w3.cell? ⟨gb259, 0, none⟩ = some (.int .i64 a0_0) := bc BK259 0; have hcz4_1 : w3.cell? ⟨gb259, 1, none⟩ = some (.slice A0_1 l0_1.length c0_1) := bc BK259 1; have hcz4_2 : w3.cell? ⟨gb259, 2, none⟩ = some (.slice A0_2 l0_2.length c0_2) := bc BK259 2; have hfz4_0 := fz BK259 0; have hfz4_1 := fz BK259 1; have hfz4_2 := fz BK259 2)))
 (try simp only [Act.put, List.setIfInBounds_toArray, List.set_cons_zero, List.set_cons_succ])
 go_cut [40] (fun v40 wc => ∃ (kq : Nat) (x40_1 : Bool), v40 = .bool x40_1 ∧ Aside0 (congouref04_Valid.j0 kq (l0_2.length : Int) x40_1 a0_0 l0_1 l0_2 = some r) ∧ Aside0 (kq ≤ k) ∧ Aside0 (wc.heap[gb259]? = some (.cells #[.int .i64 a0_0, (.slice A0_1 l0_1.length c0_1), (.slice A0_2 l0_2.length c0_2)] 24 (0, 0))) ∧ Aside0 (Below w.heap.size w wc))
 case first =>
  have H := HC2.out
  clear HC2
  by_cases c5 : a0_0 < 0
  ·rw [if_pos c5] at H
   have c5b0 : decide (a0_0 < 0) = true := decide_eq_true c5
   clear c5
   (first | rw [c5b0] | (simp only [i64_w, i32_w]; rw [c5b0]) | skip)
   have H' := Aside0.mk H
   clear H
   have hcz6_0 : w3.cell? ⟨gb259, 0, none⟩ = some (.int .i64 a0_0) := bc BK259 0
   have hcz6_1 : w3.cell? ⟨gb259, 1, none⟩ = some (.slice A0_1 l0_1.length c0_1) := bc BK259 1
   have hcz6_2 : w3.cell? ⟨gb259, 2, none⟩ = some (.slice A0_2 l0_2.length c0_2) := bc BK259 2
   have hfz6_0 := fz BK259 0
   have hfz6_1 := fz BK259 1
   have hfz6_2 := fz BK259 2
   go_wp2
   repeat (go_quiet (fail); try go_wp2)
   go_meet
   case rel => exact ⟨_, (true), (by first | rfl | (simp; done) | (simp [*]; done)), H', ⟨by first | omega | exact Nat.le_refl _⟩, ⟨bkC BK259⟩, ⟨hbC _⟩⟩
  rw [if_neg c5] at H
  have c5b0 : decide (a0_0 < 0) = false := decide_eq_false c5
  clear c5
  (first | rw [c5b0] | (simp only [i64_w, i32_w]; rw [c5b0]) | skip)
  by_cases c7 : a0_0 > 3
  ·rw [if_pos c7] at H
   have c7b0 : decide (3 < a0_0) = true := decide_eq_true c7
   clear c7
   have H' := Aside0.mk H
   clear H
   have hcz8_0 : w3.cell? ⟨gb259, 0, none⟩ = some (.int .i64 a0_0) := bc BK259 0
   have hcz8_1 : w3.cell? ⟨gb259, 1, none⟩ = some (.slice A0_1 l0_1.length c0_1) := bc BK259 1
   have hcz8_2 : w3.cell? ⟨gb259, 2, none⟩ = some (.slice A0_2 l0_2.length c0_2) := bc BK259 2
   have hfz8_0 := fz BK259 0
   have hfz8_1 := fz BK259 1
   have hfz8_2 := fz BK259 2
   go_wp2
   repeat (go_quiet (fail); try go_wp2)
   go_meet
   case rel => exact ⟨_, (true), (by first | rfl | (simp; done) | (simp [*]; done)), H', ⟨by first | omega | exact Nat.le_refl _⟩, ⟨bkC BK259⟩, ⟨hbC _⟩⟩
  rw [if_neg c7] at H
  have c7b0 : decide (3 < a0_0) = false := decide_eq_false c7
  clear c7
  by_cases c9 : (l0_2.length : Int) < (wrap64 (a0_0 + 1))
  ·rw [if_pos c9] at H
   have c9b0 : decide ((l0_2.length : Int) < (wrap64 (a0_0 + 1))) = true := decide_eq_true c9
   clear c9
   have H' := Aside0.mk H
   clear H
   have hcz10_0 : w3.cell? ⟨gb259, 0, none⟩ = some (.int .i64 a0_0) := bc BK259 0
   have hcz10_1 : w3.cell? ⟨gb259, 1, none⟩ = some (.slice A0_1 l0_1.length c0_1) := bc BK259 1
   have hcz10_2 : w3.cell? ⟨gb259, 2, none⟩ = some (.slice A0_2 l0_2.length c0_2) := bc BK259 2
   have hfz10_0 := fz BK259 0
   have hfz10_1 := fz BK259 1
   have hfz10_2 := fz BK259 2
   go_wp2
   repeat (go_quiet (fail); try go_wp2)
   go_meet
   case rel => exact ⟨_, (true), (by first | rfl | (simp; done) | (simp [*]; done)), H', ⟨by first | omega | exact Nat.le_refl _⟩, ⟨bkC BK259⟩, ⟨hbC _⟩⟩
  rw [if_neg c9] at H
  have c9b0 : decide ((l0_2.length : Int) < (wrap64 (a0_0 + 1))) = false := decide_eq_false c9
  clear c9
  by_cases c11 : (l0_2.length : Int) > 8
  ·rw [if_pos c11] at H
   have c11b0 : decide (8 < (l0_2.length : Int)) = true := decide_eq_true c11
   have c11b1 : decide (8 < l0_2.length) = true := decide_eq_true (by omega)
   clear c11
   have H' := Aside0.mk H
   clear H
   have hcz12_0 : w3.cell? ⟨gb259, 0, none⟩ = some (.int .i64 a0_0) := bc BK259 0
   have hcz12_1 : w3.cell? ⟨gb259, 1, none⟩ = some (.slice A0_1 l0_1.length c0_1) := bc BK259 1
   have hcz12_2 : w3.cell? ⟨gb259, 2, none⟩ = some (.slice A0_2 l0_2.length c0_2) := bc BK259 2
   have hfz12_0 := fz BK259 0
   have hfz12_1 := fz BK259 1
   have hfz12_2 := fz BK259 2
   go_wp2
   repeat (go_quiet (fail); try go_wp2)
   go_meet
   case rel => exact ⟨_, (true), (by first | rfl | (simp; done) | (simp [*]; done)), H', ⟨by first | omega | exact Nat.le_refl _⟩, ⟨bkC BK259⟩, ⟨hbC _⟩⟩
  rw [if_neg c11] at H
  have c11b0 : decide (8 < (l0_2.length : Int)) = false := decide_eq_false c11
  have c11b1 : decide (8 < l0_2.length) = false := decide_eq_false (by omega)
  clear c11
  have H' := Aside0.mk H
  clear H
  have hcz13_0 : w3.cell? ⟨gb259, 0, none⟩ = some (.int .i64 a0_0) := bc BK259 0
  have hcz13_1 : w3.cell? ⟨gb259, 1, none⟩ = some (.slice A0_1 l0_1.length c0_1) := bc BK259 1
  have hcz13_2 : w3.cell? ⟨gb259, 2, none⟩ = some (.slice A0_2 l0_2.length c0_2) := bc BK259 2
  have hfz13_0 := fz BK259 0
  have hfz13_1 := fz BK259 1
  have hfz13_2 := fz BK259 2
  go_wp2
  repeat (go_quiet (fail); try go_wp2)
  go_meet
  case rel => exact ⟨_, (((l0_1.length : Int) != (wrap64 ((wrap64 ((l0_2.length : Int) + a0_0)) + 1)))), (by first | rfl | (simp; done) | (simp [*]; done)), H', ⟨by first | omega | exact Nat.le_refl _⟩, ⟨bkC BK259⟩, ⟨hbC _⟩⟩
 case rest =>
  clear HC2
  try clear c1
  try clear p2
  try clear c5
  try clear c5b0
  try clear p6
  try clear c7
  try clear c7b0
  try clear c9
  try clear c9b0
  try clear c11
  try clear c11b0
  try clear c11b1
  try clear c12
  try clear hcz10_0
  try clear hcz10_1
  try clear hcz10_2
  try clear hcz12_0
  try clear hcz12_1
  try clear hcz12_2
  try clear hcz13_0
  try clear hcz13_1
  try clear hcz13_2
  try clear hcz4_0
  try clear hcz4_1
  try clear hcz4_2
  try clear hcz6_0
  try clear hcz6_1
  try clear hcz6_2
  try clear hcz8_0
  try clear hcz8_1
  try clear hcz8_2
  try clear hfz10_0
  try clear hfz10_1
  try clear hfz10_2
  try clear hfz12_0
  try clear hfz12_1
  try clear hfz12_2
  try clear hfz13_0
  try clear hfz13_1
  try clear hfz13_2
  try clear hfz4_0
  try clear hfz4_1
  try clear hfz4_2
  try clear hfz6_0
  try clear hfz6_1
  try clear hfz6_2
  try clear hfz8_0
  try clear hfz8_1
  try clear hfz8_2
  obtain ⟨kq, x40_1, rfl, HA, HJ1, BK259, HB⟩ := hcut
  cases kq with
  | zero => exact absurd HA.out (by simp [congouref04_Valid.j0])
  | succ kj1 =>
   have H := HA.out
   clear HA
   simp only [congouref04_Valid.j0] at H
   by_cases c14 : x40_1 = true
   ·subst c14
    have H1 : (some false) = some r := by rw [if_pos rfl] at H; exact H
    clear H
    have H := H1
    clear H1
    obtain rfl := Option.some.inj H
    go_wp2
    repeat (go_quiet (fail); try go_wp2)
    go_ret
    exact ⟨by first | rfl | (simp [errW_none, errW_some] <;> rfl) | (simp [*, errW_none, errW_some] <;> rfl), hbC _⟩
   replace c14 := Bool.eq_false_iff.mpr c14
   subst c14
   have H1 : (congouref04_Valid.l0 kj1 (l0_2.length : Int) l0_2 (l0_2.length : Int) 0 a0_0 l0_1 l0_2) = some r := by rw [if_neg (show ¬ (false = true) by decide)] at H; exact H
   clear H
   have H := H1
   clear H1
   have H' := Aside0.mk H
   clear H
   have hcz15_0 : wc.cell? ⟨gb259, 0, none⟩ = some (.int .i64 a0_0) := bc BK259 0
   have hcz15_1 : wc.cell? ⟨gb259, 1, none⟩ = some (.slice A0_1 l0_1.length c0_1) := bc BK259 1
   have hcz15_2 : wc.cell? ⟨gb259, 2, none⟩ = some (.slice A0_2 l0_2.length c0_2) := bc BK259 2
   have hfz15_0 := fz BK259 0
   have hfz15_1 := fz BK259 1
   have hfz15_2 := fz BK259 2
   go_wp2
   repeat (go_quiet (fail); try go_wp2)
   go_loopg [44] kj1 (fun kq v44 w' => ∃ (x44_2 : Int), v44 = .int .i64 x44_2 ∧ Aside0 (congouref04_Valid.l0 kq (l0_2.length : Int) l0_2 (l0_2.length : Int) x44_2 a0_0 l0_1 l0_2 = some r) ∧ Aside0 (kq ≤ kj1) ∧ Aside0 (w'.heap[gb259]? = some (.cells #[.int .i64 a0_0, (.slice A0_1 l0_1.length c0_1), (.slice A0_2 l0_2.length c0_2)] 24 (0, 0))) ∧ Aside0 (Below w.heap.size w w'))
   case atStart => exact ⟨(0), (by first | rfl | (simp; done) | (simp [*]; done)), H', ⟨Nat.le_refl _⟩, ⟨bkC BK259⟩, ⟨hbC _⟩⟩
   case round =>
    clear H'
    try clear c1
    try clear p2
    try clear c5
    try clear c5b0
    try clear p6
    try clear c7
    try clear c7b0
    try clear c9
    try clear c9b0
    try clear c11
    try clear c11b0
    try clear c11b1
    try clear c12
    try clear c14
    try clear hcz10_0
    try clear hcz10_1
    try clear hcz10_2
    try clear hcz12_0
    try clear hcz12_1
    try clear hcz12_2
    try clear hcz13_0
    try clear hcz13_1
    try clear hcz13_2
    try clear hcz15_0
    try clear hcz15_1
    try clear hcz15_2
    try clear hcz4_0
    try clear hcz4_1
    try clear hcz4_2
    try clear hcz6_0
    try clear hcz6_1
    try clear hcz6_2
    try clear hcz8_0
    try clear hcz8_1
    try clear hcz8_2
    try clear hfz10_0
    try clear hfz10_1
    try clear hfz10_2
    try clear hfz12_0
    try clear hfz12_1
    try clear hfz12_2
    try clear hfz13_0
    try clear hfz13_1
    try clear hfz13_2
    try clear hfz15_0
    try clear hfz15_1
    try clear hfz15_2
    try clear hfz4_0
    try clear hfz4_1
    try clear hfz4_2
    try clear hfz6_0
    try clear hfz6_1
    try clear hfz6_2
    try clear hfz8_0
    try clear hfz8_1
    try clear hfz8_2
    try clear p2
    try clear p6
    obtain ⟨x44_2, rfl, HA, HK2, BK259, HB⟩ := hrel
    cases gk with
    | zero => exact absurd HA.out (by simp [congouref04_Valid.l0])
    | succ k2 =>
     have H := HA.out
     clear HA
     simp only [congouref04_Valid.l0] at H
     by_cases c16 : x44_2 < (l0_2.length : Int)
     ·rw [if_pos c16] at H
      have c16b0 : decide (x44_2 < (l0_2.length : Int)) = true := decide_eq_true c16
      clear c16
      by_cases c17 : 0 ≤ x44_2
      rotate_left
      ·rw [if_neg c17] at H
       exact absurd H (by simp)
      rw [if_pos c17] at H
      have c17b0 : decide (0 ≤ x44_2) = true := decide_eq_true c17
      clear c17
      by_cases c18 : x44_2 < (l0_2.length : Int)
      rotate_left
      ·rw [if_neg c18] at H
       exact absurd H (by simp)
      rw [if_pos c18] at H
      have c18b0 : decide (x44_2 < (l0_2.length : Int)) = true := decide_eq_true c18
      clear c18
      by_cases c19 : (rd l0_2 x44_2) < (-50)
      ·rw [if_pos c19] at H
       have c19b0 : decide ((rd l0_2 x44_2) < (-50)) = true := decide_eq_true c19
       clear c19
       obtain rfl := Option.some.inj H
       have p260 : 0 ≤ (x44_2 : Int) := dA
       have q260 : x44_2 < (l0_2.length : Int) := dA
       obtain ⟨ad260, e260, hx260_0⟩ := Kd.at_int HR0_2.out x44_2 p260 q260
       cases e260
       try replace hx260_0 := (HB.out.cell (World.block_lt_of_cell? w _ hx260_0)).trans hx260_0
       replace p260 := eq_true p260
       replace q260 := eq_true q260
       go_wp2
       repeat (go_quiet (fail); try go_wp2)
       go_ret
       exact ⟨by first | rfl | (simp [errW_none, errW_some] <;> rfl) | (simp [*, errW_none, errW_some] <;> rfl), hbC _⟩
      rw [if_neg c19] at H
      have c19b0 : decide ((rd l0_2 x44_2) < (-50)) = false := decide_eq_false c19
      clear c19
      by_cases c20 : (rd l0_2 x44_2) > 50
      ·rw [if_pos c20] at H
       have c20b0 : decide (50 < (rd l0_2 x44_2)) = true := decide_eq_true c20
       clear c20
       obtain rfl := Option.some.inj H
       have p260 : 0 ≤ (x44_2 : Int) := dA
       have q260 : x44_2 < (l0_2.length : Int) := dA
       obtain ⟨ad260, e260, hx260_0⟩ := Kd.at_int HR0_2.out x44_2 p260 q260
       cases e260
       try replace hx260_0 := (HB.out.cell (World.block_lt_of_cell? w _ hx260_0)).trans hx260_0
       replace p260 := eq_true p260
       replace q260 := eq_true q260
       go_wp2
       repeat (go_quiet (fail); try go_wp2)
       go_ret
       exact ⟨by first | rfl | (simp [errW_none, errW_some] <;> rfl) | (simp [*, errW_none, errW_some] <;> rfl), hbC _⟩
      rw [if_neg c20] at H
      have c20b0 : decide (50 < (rd l0_2 x44_2)) = false := decide_eq_false c20
      clear c20
      have H' := Aside0.mk H
      clear H
      have p260 : 0 ≤ (x44_2 : Int) := dA
      have q260 : x44_2 < (l0_2.length : Int) := dA
      obtain ⟨ad260, e260, hx260_0⟩ := Kd.at_int HR0_2.out x44_2 p260 q260
      cases e260
      try replace hx260_0 := (HB.out.cell (World.block_lt_of_cell? w _ hx260_0)).trans hx260_0
      replace p260 := eq_true p260
      replace q260 := eq_true q260
      go_wp2
      repeat (go_quiet (fail); try go_wp2)
      go_roundg k2
      case measure => have := HJ1.out; have := HK2.out; omega
      case rel => exact ⟨(wrap64 (x44_2 + 1)), (by first | rfl | (simp; done) | (simp [*]; done)), H', ⟨by have := HJ1.out; have := HK2.out; omega⟩, ⟨bkC BK259⟩, ⟨hbC _⟩⟩
     rw [if_neg c16] at H
     have c16b0 : decide (x44_2 < (l0_2.length : Int)) = false := decide_eq_false c16
     clear c16
     have H' := Aside0.mk H
     clear H
     have hcz21_0 : wr.cell? ⟨gb259, 0, none⟩ = some (.int .i64 a0_0) := bc BK259 0
     have hcz21_1 : wr.cell? ⟨gb259, 1, none⟩ = some (.slice A0_1 l0_1.length c0_1) := bc BK259 1
     have hcz21_2 : wr.cell? ⟨gb259, 2, none⟩ = some (.slice A0_2 l0_2.length c0_2) := bc BK259 2
     have hfz21_0 := fz BK259 0
     have hfz21_1 := fz BK259 1
     have hfz21_2 := fz BK259 2
     go_wp2
     repeat (go_quiet (fail); try go_wp2)
     go_loopg [58] k2 (fun kq v58 w' => ∃ (x58_3 : Int), v58 = .int .i64 x58_3 ∧ Aside0 (congouref04_Valid.l1 kq (l0_2.length : Int) l0_1 (l0_1.length : Int) x58_3 a0_0 l0_1 l0_2 = some r) ∧ Aside0 (kq ≤ k2) ∧ Aside0 (w'.heap[gb259]? = some (.cells #[.int .i64 a0_0, (.slice A0_1 l0_1.length c0_1), (.slice A0_2 l0_2.length c0_2)] 24 (0, 0))) ∧ Aside0 (Below w.heap.size w w'))
     case atStart => exact ⟨(0), (by first | rfl | (simp; done) | (simp [*]; done)), H', ⟨Nat.le_refl _⟩, ⟨bkC BK259⟩, ⟨hbC _⟩⟩
     case round =>
      clear H'
      try clear c1
      try clear c2
      try clear p2
      try clear q2
      try clear hx2
      try clear c5
      try clear c5b0
      try clear p6
      try clear c7
      try clear c7b0
      try clear c9
      try clear c9b0
      try clear c11
      try clear c11b0
      try clear c11b1
      try clear c12
      try clear c14
      try clear c16
      try clear c16b0
      try clear c17
      try clear c17b0
      try clear c18
      try clear c18b0
      try clear c19
      try clear c19b0
      try clear c20
      try clear c20b0
      try clear hcz10_0
      try clear hcz10_1
      try clear hcz10_2
      try clear hcz12_0
      try clear hcz12_1
      try clear hcz12_2
      try clear hcz13_0
      try clear hcz13_1
      try clear hcz13_2
      try clear hcz15_0
      try clear hcz15_1
      try clear hcz15_2
      try clear hcz21_0
      try clear hcz21_1
      try clear hcz21_2
      try clear hcz4_0
      try clear hcz4_1
      try clear hcz4_2
      try clear hcz6_0
      try clear hcz6_1
      try clear hcz6_2
      try clear hcz8_0
      try clear hcz8_1
      try clear hcz8_2
      try clear hfz10_0
      try clear hfz10_1
      try clear hfz10_2
      try clear hfz12_0
      try clear hfz12_1
      try clear hfz12_2
      try clear hfz13_0
      try clear hfz13_1
      try clear hfz13_2
      try clear hfz15_0
      try clear hfz15_1
      try clear hfz15_2
      try clear hfz21_0
      try clear hfz21_1
      try clear hfz21_2
      try clear hfz4_0
      try clear hfz4_1
      try clear hfz4_2
      try clear hfz6_0
      try clear hfz6_1
      try clear hfz6_2
      try clear hfz8_0
      try clear hfz8_1
      try clear hfz8_2
      try clear hx260_0
      try clear p2
      try clear p260
      try clear p6
      try clear q260
      obtain ⟨x58_3, rfl, HA, HK3, BK259, HB⟩ := hrel
      cases gk with
      | zero => exact absurd HA.out (by simp [congouref04_Valid.l1])
      | succ k3 =>
       have H := HA.out
       clear HA
       simp only [congouref04_Valid.l1] at H
       by_cases c22 : x58_3 < (l0_1.length : Int)
       rotate_left
       ·rw [if_neg c22] at H
        have c22b0 : decide (x58_3 < (l0_1.length : Int)) = false := decide_eq_false c22
        clear c22
        by_cases c49 : 0 ≤ a0_0
        rotate_left
        ·rw [if_neg c49] at H
         exact absurd H (by simp)
        rw [if_pos c49] at H
        have c49b0 : decide (0 ≤ a0_0) = true := decide_eq_true c49
        clear c49
        by_cases c50 : a0_0 < (l0_1.length : Int)
        rotate_left
        ·rw [if_neg c50] at H
         exact absurd H (by simp)
        rw [if_pos c50] at H
        have c50b0 : decide (a0_0 < (l0_1.length : Int)) = true := decide_eq_true c50
        clear c50
        by_cases c51 : 0 ≤ (l0_2.length : Int)
        rotate_left
        ·rw [if_neg c51] at H
         exact absurd H (by simp)
        rw [if_pos c51] at H
        have c51b0 : decide (0 ≤ (l0_2.length : Int)) = true := decide_eq_true c51
        have c51b1 : decide (0 ≤ l0_2.length) = true := decide_eq_true (by omega)
        clear c51
        by_cases c52 : (l0_2.length : Int) < (l0_1.length : Int)
        rotate_left
        ·rw [if_neg c52] at H
         exact absurd H (by simp)
        rw [if_pos c52] at H
        have c52b0 : decide ((l0_2.length : Int) < (l0_1.length : Int)) = true := decide_eq_true c52
        have c52b1 : decide (l0_2.length < l0_1.length) = true := decide_eq_true (Int.ofNat_lt.mp c52)
        clear c52
        obtain rfl := Option.some.inj H
        have hcz53_0 : wr.cell? ⟨gb259, 0, none⟩ = some (.int .i64 a0_0) := bc BK259 0
        have hcz53_1 : wr.cell? ⟨gb259, 1, none⟩ = some (.slice A0_1 l0_1.length c0_1) := bc BK259 1
        have hcz53_2 : wr.cell? ⟨gb259, 2, none⟩ = some (.slice A0_2 l0_2.length c0_2) := bc BK259 2
        have hfz53_0 := fz BK259 0
        have hfz53_1 := fz BK259 1
        have hfz53_2 := fz BK259 2
        have p265 : 0 ≤ (a0_0 : Int) := dA
        have q265 : a0_0 < (l0_1.length : Int) := dA
        obtain ⟨ad265, e265, hx265_0⟩ := Kd.at_int HR0_1.out a0_0 p265 q265
        cases e265
        try replace hx265_0 := (HB.out.cell (World.block_lt_of_cell? w _ hx265_0)).trans hx265_0
        replace p265 := eq_true p265
        replace q265 := eq_true q265
        have p266 : 0 ≤ ((l0_2.length : Int) : Int) := dA
        have q266 : (l0_2.length : Int) < (l0_1.length : Int) := dA
        obtain ⟨ad266, e266, hx266_0⟩ := Kd.at_int HR0_1.out (l0_2.length : Int) p266 q266
        obtain rfl : ad265 = ad266 := (by injection e266)
        try replace hx266_0 := (HB.out.cell (World.block_lt_of_cell? w _ hx266_0)).trans hx266_0
        (try simp only [Go.IntWalk.toNatUp] at hx266_0)
        replace p266 := eq_true p266
        replace q266 := eq_true q266
        go_wp2
        repeat (go_quiet (fail); try go_wp2)
        go_ret
        exact ⟨by first | rfl | (simp [errW_none, errW_some] <;> rfl) | (simp [*, errW_none, errW_some] <;> rfl), hbC _⟩
       rw [if_pos c22] at H
       have c22b0 : decide (x58_3 < (l0_1.length : Int)) = true := decide_eq_true c22
       clear c22
       by_cases c23 : 0 ≤ x58_3
       rotate_left
       ·rw [if_neg c23] at H
        exact absurd H (by simp)
       rw [if_pos c23] at H
       have c23b0 : decide (0 ≤ x58_3) = true := decide_eq_true c23
       clear c23
       by_cases c24 : x58_3 < (l0_1.length : Int)
       rotate_left
       ·rw [if_neg c24] at H
        exact absurd H (by simp)
       rw [if_pos c24] at H
       have c24b0 : decide (x58_3 < (l0_1.length : Int)) = true := decide_eq_true c24
       clear c24
       by_cases c25 : (rd l0_1 x58_3) < 0
       ·rw [if_pos c25] at H
        have c25b0 : decide ((rd l0_1 x58_3) < 0) = true := decide_eq_true c25
        clear c25
        obtain rfl := Option.some.inj H
        have p261 : 0 ≤ (x58_3 : Int) := dA
        have q261 : x58_3 < (l0_1.length : Int) := dA
        obtain ⟨ad261, e261, hx261_0⟩ := Kd.at_int HR0_1.out x58_3 p261 q261
        cases e261
        try replace hx261_0 := (HB.out.cell (World.block_lt_of_cell? w _ hx261_0)).trans hx261_0
        replace p261 := eq_true p261
        replace q261 := eq_true q261
        go_wp2
        repeat (go_quiet (fail); try go_wp2)
        go_ret
        exact ⟨by first | rfl | (simp [errW_none, errW_some] <;> rfl) | (simp [*, errW_none, errW_some] <;> rfl), hbC _⟩
       rw [if_neg c25] at H
       have c25b0 : decide ((rd l0_1 x58_3) < 0) = false := decide_eq_false c25
       clear c25
       by_cases c26 : (rd l0_1 x58_3) > 12
       ·rw [if_pos c26] at H
        have c26b0 : decide (12 < (rd l0_1 x58_3)) = true := decide_eq_true c26
        clear c26
        obtain rfl := Option.some.inj H
        have p261 : 0 ≤ (x58_3 : Int) := dA
        have q261 : x58_3 < (l0_1.length : Int) := dA
        obtain ⟨ad261, e261, hx261_0⟩ := Kd.at_int HR0_1.out x58_3 p261 q261
        cases e261
        try replace hx261_0 := (HB.out.cell (World.block_lt_of_cell? w _ hx261_0)).trans hx261_0
        replace p261 := eq_true p261
        replace q261 := eq_true q261
        go_wp2
        repeat (go_quiet (fail); try go_wp2)
        go_ret
        exact ⟨by first | rfl | (simp [errW_none, errW_some] <;> rfl) | (simp [*, errW_none, errW_some] <;> rfl), hbC _⟩
       rw [if_neg c26] at H
       have c26b0 : decide (12 < (rd l0_1 x58_3)) = false := decide_eq_false c26
       clear c26
       by_cases c27 : x58_3 > 0
       rotate_left
       ·rw [if_neg c27] at H
        have c27b0 : decide (0 < x58_3) = false := decide_eq_false c27
        clear c27
        by_cases c41 : x58_3 > a0_0
        rotate_left
        ·rw [if_neg c41] at H
         have c41b0 : decide (a0_0 < x58_3) = false := decide_eq_false c41
         clear c41
         have H' := Aside0.mk H
         clear H
         have p261 : 0 ≤ (x58_3 : Int) := dA
         have q261 : x58_3 < (l0_1.length : Int) := dA
         obtain ⟨ad261, e261, hx261_0⟩ := Kd.at_int HR0_1.out x58_3 p261 q261
         cases e261
         try replace hx261_0 := (HB.out.cell (World.block_lt_of_cell? w _ hx261_0)).trans hx261_0
         replace p261 := eq_true p261
         replace q261 := eq_true q261
         have hcz48_0 : wr.cell? ⟨gb259, 0, none⟩ = some (.int .i64 a0_0) := bc BK259 0
         have hcz48_1 : wr.cell? ⟨gb259, 1, none⟩ = some (.slice (some ad261) l0_1.length c0_1) := bc BK259 1
         have hcz48_2 : wr.cell? ⟨gb259, 2, none⟩ = some (.slice A0_2 l0_2.length c0_2) := bc BK259 2
         have hfz48_0 := fz BK259 0
         have hfz48_1 := fz BK259 1
         have hfz48_2 := fz BK259 2
         go_wp2
         repeat (go_quiet (fail); try go_wp2)
         go_roundg k3
         case measure => have := HJ1.out; have := HK2.out; have := HK3.out; omega
         case rel => exact ⟨(wrap64 (x58_3 + 1)), (by first | rfl | (simp; done) | (simp [*]; done)), H', ⟨by have := HJ1.out; have := HK2.out; have := HK3.out; omega⟩, ⟨bkC BK259⟩, ⟨hbC _⟩⟩
        rw [if_pos c41] at H
        have c41b0 : decide (a0_0 < x58_3) = true := decide_eq_true c41
        clear c41
        obtain ⟨ji42, hji42⟩ : ∃ j_ : Int, (wrap64 ((wrap64 (x58_3 - a0_0)) - 1)) = j_ := ⟨_, rfl⟩
        replace H : (if 0 ≤ (ji42) then (if (ji42) < (l0_1.length : Int) then (if (rd l0_1 x58_3) = (rd l0_1 (ji42)) then (some false) else (congouref04_Valid.l1 k3 (l0_2.length : Int) l0_1 (l0_1.length : Int) (wrap64 (x58_3 + 1)) a0_0 l0_1 l0_2)) else (none)) else (none)) = some r := by first | (rw [hji42] at H; exact H) | (simp only [hji42] at H ⊢; exact H)
        have hji42w : (IntKind.i64.wrap ((wrap64 (x58_3 - a0_0)) - 1)) = ji42 := (i64_w _).trans hji42
        by_cases c43 : 0 ≤ (ji42)
        rotate_left
        ·rw [if_neg c43] at H
         exact absurd H (by simp)
        rw [if_pos c43] at H
        have c43b0 : decide (0 ≤ (ji42)) = true := decide_eq_true c43
        clear c43
        by_cases c44 : (ji42) < (l0_1.length : Int)
        rotate_left
        ·rw [if_neg c44] at H
         exact absurd H (by simp)
        rw [if_pos c44] at H
        have c44b0 : decide ((ji42) < (l0_1.length : Int)) = true := decide_eq_true c44
        clear c44
        by_cases c45 : (rd l0_1 x58_3) = (rd l0_1 (ji42))
        ·rw [if_pos c45] at H
         have c45b0 : ((rd l0_1 x58_3) == (rd l0_1 (ji42))) = true := beq_iff_eq.mpr c45
         have c45b1 : ((rd l0_1 x58_3) != (rd l0_1 (ji42))) = false := bne_eq_false_iff_eq.mpr c45
         clear c45
         obtain rfl := Option.some.inj H
         have p261 : 0 ≤ (x58_3 : Int) := dA
         have q261 : x58_3 < (l0_1.length : Int) := dA
         obtain ⟨ad261, e261, hx261_0⟩ := Kd.at_int HR0_1.out x58_3 p261 q261
         cases e261
         try replace hx261_0 := (HB.out.cell (World.block_lt_of_cell? w _ hx261_0)).trans hx261_0
         replace p261 := eq_true p261
         replace q261 := eq_true q261
         have hcz46_0 : wr.cell? ⟨gb259, 0, none⟩ = some (.int .i64 a0_0) := bc BK259 0
         have hcz46_1 : wr.cell? ⟨gb259, 1, none⟩ = some (.slice (some ad261) l0_1.length c0_1) := bc BK259 1
         have hcz46_2 : wr.cell? ⟨gb259, 2, none⟩ = some (.slice A0_2 l0_2.length c0_2) := bc BK259 2
         have hfz46_0 := fz BK259 0
         have hfz46_1 := fz BK259 1
         have hfz46_2 := fz BK259 2
         have p264 : 0 ≤ ((ji42) : Int) := dA
         have q264 : (ji42) < (l0_1.length : Int) := dA
         obtain ⟨ad264, e264, hx264_0⟩ := Kd.at_int HR0_1.out (ji42) p264 q264
         obtain rfl : ad261 = ad264 := (by injection e264)
         try replace hx264_0 := (HB.out.cell (World.block_lt_of_cell? w _ hx264_0)).trans hx264_0
         replace p264 := eq_true p264
         replace q264 := eq_true q264
         go_wp2
         repeat (go_quiet (fail); try go_wp2)
         go_ret
         exact ⟨by first | rfl | (simp [errW_none, errW_some] <;> rfl) | (simp only [← hji42]; first | rfl | (simp [errW_none, errW_some] <;> rfl)) | (simp [*, errW_none, errW_some] <;> rfl), hbC _⟩
        rw [if_neg c45] at H
        have c45b0 : ((rd l0_1 x58_3) == (rd l0_1 (ji42))) = false := beq_eq_false_iff_ne.mpr c45
        have c45b1 : ((rd l0_1 x58_3) != (rd l0_1 (ji42))) = true := bne_iff_ne.mpr c45
        have H' := Aside0.mk H
        clear H
        have p261 : 0 ≤ (x58_3 : Int) := dA
        have q261 : x58_3 < (l0_1.length : Int) := dA
        obtain ⟨ad261, e261, hx261_0⟩ := Kd.at_int HR0_1.out x58_3 p261 q261
        cases e261
        try replace hx261_0 := (HB.out.cell (World.block_lt_of_cell? w _ hx261_0)).trans hx261_0
        replace p261 := eq_true p261
        replace q261 := eq_true q261
        have hcz47_0 : wr.cell? ⟨gb259, 0, none⟩ = some (.int .i64 a0_0) := bc BK259 0
        have hcz47_1 : wr.cell? ⟨gb259, 1, none⟩ = some (.slice (some ad261) l0_1.length c0_1) := bc BK259 1
        have hcz47_2 : wr.cell? ⟨gb259, 2, none⟩ = some (.slice A0_2 l0_2.length c0_2) := bc BK259 2
        have hfz47_0 := fz BK259 0
        have hfz47_1 := fz BK259 1
        have hfz47_2 := fz BK259 2
        have p264 : 0 ≤ ((ji42) : Int) := dA
        have q264 : (ji42) < (l0_1.length : Int) := dA
        obtain ⟨ad264, e264, hx264_0⟩ := Kd.at_int HR0_1.out (ji42) p264 q264
        obtain rfl : ad261 = ad264 := (by injection e264)
        try replace hx264_0 := (HB.out.cell (World.block_lt_of_cell? w _ hx264_0)).trans hx264_0
        replace p264 := eq_true p264
        replace q264 := eq_true q264
        go_wp2
        repeat (go_quiet (fail); try go_wp2)
        go_roundg k3
        case measure => have := HJ1.out; have := HK2.out; have := HK3.out; omega
        case rel => exact ⟨(wrap64 (x58_3 + 1)), (by first | rfl | (simp; done) | (simp [*]; done)), H', ⟨by have := HJ1.out; have := HK2.out; have := HK3.out; omega⟩, ⟨bkC BK259⟩, ⟨hbC _⟩⟩
       rw [if_pos c27] at H
       have c27b0 : decide (0 < x58_3) = true := decide_eq_true c27
       clear c27
       obtain ⟨ji28, hji28⟩ : ∃ j_ : Int, (wrap64 (x58_3 - 1)) = j_ := ⟨_, rfl⟩
       replace H : (if 0 ≤ (ji28) then (if (ji28) < (l0_1.length : Int) then (if (rd l0_1 x58_3) < (rd l0_1 (ji28)) then (some false) else (if x58_3 > a0_0 then (if 0 ≤ (wrap64 ((wrap64 (x58_3 - a0_0)) - 1)) then (if (wrap64 ((wrap64 (x58_3 - a0_0)) - 1)) < (l0_1.length : Int) then (if (rd l0_1 x58_3) = (rd l0_1 (wrap64 ((wrap64 (x58_3 - a0_0)) - 1))) then (some false) else (congouref04_Valid.l1 k3 (l0_2.length : Int) l0_1 (l0_1.length : Int) (wrap64 (x58_3 + 1)) a0_0 l0_1 l0_2)) else (none)) else (none)) else (congouref04_Valid.l1 k3 (l0_2.length : Int) l0_1 (l0_1.length : Int) (wrap64 (x58_3 + 1)) a0_0 l0_1 l0_2))) else (none)) else (none)) = some r := by first | (rw [hji28] at H; exact H) | (simp only [hji28] at H ⊢; exact H)
       have hji28w : (IntKind.i64.wrap (x58_3 - 1)) = ji28 := (i64_w _).trans hji28
       by_cases c29 : 0 ≤ (ji28)
       rotate_left
       ·rw [if_neg c29] at H
        exact absurd H (by simp)
       rw [if_pos c29] at H
       have c29b0 : decide (0 ≤ (ji28)) = true := decide_eq_true c29
       clear c29
       by_cases c30 : (ji28) < (l0_1.length : Int)
       rotate_left
       ·rw [if_neg c30] at H
        exact absurd H (by simp)
       rw [if_pos c30] at H
       have c30b0 : decide ((ji28) < (l0_1.length : Int)) = true := decide_eq_true c30
       clear c30
       by_cases c31 : (rd l0_1 x58_3) < (rd l0_1 (ji28))
       ·rw [if_pos c31] at H
        have c31b0 : decide ((rd l0_1 x58_3) < (rd l0_1 (ji28))) = true := decide_eq_true c31
        clear c31
        obtain rfl := Option.some.inj H
        have p261 : 0 ≤ (x58_3 : Int) := dA
        have q261 : x58_3 < (l0_1.length : Int) := dA
        obtain ⟨ad261, e261, hx261_0⟩ := Kd.at_int HR0_1.out x58_3 p261 q261
        cases e261
        try replace hx261_0 := (HB.out.cell (World.block_lt_of_cell? w _ hx261_0)).trans hx261_0
        replace p261 := eq_true p261
        replace q261 := eq_true q261
        have hcz32_0 : wr.cell? ⟨gb259, 0, none⟩ = some (.int .i64 a0_0) := bc BK259 0
        have hcz32_1 : wr.cell? ⟨gb259, 1, none⟩ = some (.slice (some ad261) l0_1.length c0_1) := bc BK259 1
        have hcz32_2 : wr.cell? ⟨gb259, 2, none⟩ = some (.slice A0_2 l0_2.length c0_2) := bc BK259 2
        have hfz32_0 := fz BK259 0
        have hfz32_1 := fz BK259 1
        have hfz32_2 := fz BK259 2
        have p262 : 0 ≤ ((ji28) : Int) := dA
        have q262 : (ji28) < (l0_1.length : Int) := dA
        obtain ⟨ad262, e262, hx262_0⟩ := Kd.at_int HR0_1.out (ji28) p262 q262
        obtain rfl : ad261 = ad262 := (by injection e262)
        try replace hx262_0 := (HB.out.cell (World.block_lt_of_cell? w _ hx262_0)).trans hx262_0
        replace p262 := eq_true p262
        replace q262 := eq_true q262
        go_wp2
        repeat (go_quiet (fail); try go_wp2)
        go_ret
        exact ⟨by first | rfl | (simp [errW_none, errW_some] <;> rfl) | (simp only [← hji28]; first | rfl | (simp [errW_none, errW_some] <;> rfl)) | (simp [*, errW_none, errW_some] <;> rfl), hbC _⟩
       rw [if_neg c31] at H
       have c31b0 : decide ((rd l0_1 x58_3) < (rd l0_1 (ji28))) = false := decide_eq_false c31
       clear c31
       by_cases c33 : x58_3 > a0_0
       rotate_left
       ·rw [if_neg c33] at H
        have c33b0 : decide (a0_0 < x58_3) = false := decide_eq_false c33
        clear c33
        have H' := Aside0.mk H
        clear H
        have p261 : 0 ≤ (x58_3 : Int) := dA
        have q261 : x58_3 < (l0_1.length : Int) := dA
        obtain ⟨ad261, e261, hx261_0⟩ := Kd.at_int HR0_1.out x58_3 p261 q261
        cases e261
        try replace hx261_0 := (HB.out.cell (World.block_lt_of_cell? w _ hx261_0)).trans hx261_0
        replace p261 := eq_true p261
        replace q261 := eq_true q261
        have hcz40_0 : wr.cell? ⟨gb259, 0, none⟩ = some (.int .i64 a0_0) := bc BK259 0
        have hcz40_1 : wr.cell? ⟨gb259, 1, none⟩ = some (.slice (some ad261) l0_1.length c0_1) := bc BK259 1
        have hcz40_2 : wr.cell? ⟨gb259, 2, none⟩ = some (.slice A0_2 l0_2.length c0_2) := bc BK259 2
        have hfz40_0 := fz BK259 0
        have hfz40_1 := fz BK259 1
        have hfz40_2 := fz BK259 2
        have p262 : 0 ≤ ((ji28) : Int) := dA
        have q262 : (ji28) < (l0_1.length : Int) := dA
        obtain ⟨ad262, e262, hx262_0⟩ := Kd.at_int HR0_1.out (ji28) p262 q262
        obtain rfl : ad261 = ad262 := (by injection e262)
        try replace hx262_0 := (HB.out.cell (World.block_lt_of_cell? w _ hx262_0)).trans hx262_0
        replace p262 := eq_true p262
        replace q262 := eq_true q262
        go_wp2
        repeat (go_quiet (fail); try go_wp2)
        go_roundg k3
        case measure => have := HJ1.out; have := HK2.out; have := HK3.out; omega
        case rel => exact ⟨(wrap64 (x58_3 + 1)), (by first | rfl | (simp; done) | (simp [*]; done)), H', ⟨by have := HJ1.out; have := HK2.out; have := HK3.out; omega⟩, ⟨bkC BK259⟩, ⟨hbC _⟩⟩
       rw [if_pos c33] at H
       have c33b0 : decide (a0_0 < x58_3) = true := decide_eq_true c33
       clear c33
       obtain ⟨ji34, hji34⟩ : ∃ j_ : Int, (wrap64 ((wrap64 (x58_3 - a0_0)) - 1)) = j_ := ⟨_, rfl⟩
       replace H : (if 0 ≤ (ji34) then (if (ji34) < (l0_1.length : Int) then (if (rd l0_1 x58_3) = (rd l0_1 (ji34)) then (some false) else (congouref04_Valid.l1 k3 (l0_2.length : Int) l0_1 (l0_1.length : Int) (wrap64 (x58_3 + 1)) a0_0 l0_1 l0_2)) else (none)) else (none)) = some r := by first | (rw [hji34] at H; exact H) | (simp only [hji34] at H ⊢; exact H)
       have hji34w : (IntKind.i64.wrap ((wrap64 (x58_3 - a0_0)) - 1)) = ji34 := (i64_w _).trans hji34
       by_cases c35 : 0 ≤ (ji34)
       rotate_left
       ·rw [if_neg c35] at H
        exact absurd H (by simp)
       rw [if_pos c35] at H
       have c35b0 : decide (0 ≤ (ji34)) = true := decide_eq_true c35
       clear c35
       by_cases c36 : (ji34) < (l0_1.length : Int)
       rotate_left
       ·rw [if_neg c36] at H
        exact absurd H (by simp)
       rw [if_pos c36] at H
       have c36b0 : decide ((ji34) < (l0_1.length : Int)) = true := decide_eq_true c36
       clear c36
       by_cases c37 : (rd l0_1 x58_3) = (rd l0_1 (ji34))
       ·rw [if_pos c37] at H
        have c37b0 : ((rd l0_1 x58_3) == (rd l0_1 (ji34))) = true := beq_iff_eq.mpr c37
        have c37b1 : ((rd l0_1 x58_3) != (rd l0_1 (ji34))) = false := bne_eq_false_iff_eq.mpr c37
        clear c37
        obtain rfl := Option.some.inj H
        have p261 : 0 ≤ (x58_3 : Int) := dA
        have q261 : x58_3 < (l0_1.length : Int) := dA
        obtain ⟨ad261, e261, hx261_0⟩ := Kd.at_int HR0_1.out x58_3 p261 q261
        cases e261
        try replace hx261_0 := (HB.out.cell (World.block_lt_of_cell? w _ hx261_0)).trans hx261_0
        replace p261 := eq_true p261
        replace q261 := eq_true q261
        have hcz38_0 : wr.cell? ⟨gb259, 0, none⟩ = some (.int .i64 a0_0) := bc BK259 0
        have hcz38_1 : wr.cell? ⟨gb259, 1, none⟩ = some (.slice (some ad261) l0_1.length c0_1) := bc BK259 1
        have hcz38_2 : wr.cell? ⟨gb259, 2, none⟩ = some (.slice A0_2 l0_2.length c0_2) := bc BK259 2
        have hfz38_0 := fz BK259 0
        have hfz38_1 := fz BK259 1
        have hfz38_2 := fz BK259 2
        have p262 : 0 ≤ ((ji28) : Int) := dA
        have q262 : (ji28) < (l0_1.length : Int) := dA
        obtain ⟨ad262, e262, hx262_0⟩ := Kd.at_int HR0_1.out (ji28) p262 q262
        obtain rfl : ad261 = ad262 := (by injection e262)
        try replace hx262_0 := (HB.out.cell (World.block_lt_of_cell? w _ hx262_0)).trans hx262_0
        replace p262 := eq_true p262
        replace q262 := eq_true q262
        have p263 : 0 ≤ ((ji34) : Int) := dA
        have q263 : (ji34) < (l0_1.length : Int) := dA
        obtain ⟨ad263, e263, hx263_0⟩ := Kd.at_int HR0_1.out (ji34) p263 q263
        obtain rfl : ad261 = ad263 := (by injection e263)
        try replace hx263_0 := (HB.out.cell (World.block_lt_of_cell? w _ hx263_0)).trans hx263_0
        replace p263 := eq_true p263
        replace q263 := eq_true q263
        go_wp2
        repeat (go_quiet (fail); try go_wp2)
        go_ret
        exact ⟨by first | rfl | (simp [errW_none, errW_some] <;> rfl) | (simp only [← hji28, ← hji34]; first | rfl | (simp [errW_none, errW_some] <;> rfl)) | (simp [*, errW_none, errW_some] <;> rfl), hbC _⟩
       rw [if_neg c37] at H
       have c37b0 : ((rd l0_1 x58_3) == (rd l0_1 (ji34))) = false := beq_eq_false_iff_ne.mpr c37
       have c37b1 : ((rd l0_1 x58_3) != (rd l0_1 (ji34))) = true := bne_iff_ne.mpr c37
       have H' := Aside0.mk H
       clear H
       have p261 : 0 ≤ (x58_3 : Int) := dA
       have q261 : x58_3 < (l0_1.length : Int) := dA
       obtain ⟨ad261, e261, hx261_0⟩ := Kd.at_int HR0_1.out x58_3 p261 q261
       cases e261
       try replace hx261_0 := (HB.out.cell (World.block_lt_of_cell? w _ hx261_0)).trans hx261_0
       replace p261 := eq_true p261
       replace q261 := eq_true q261
       have hcz39_0 : wr.cell? ⟨gb259, 0, none⟩ = some (.int .i64 a0_0) := bc BK259 0
       have hcz39_1 : wr.cell? ⟨gb259, 1, none⟩ = some (.slice (some ad261) l0_1.length c0_1) := bc BK259 1
       have hcz39_2 : wr.cell? ⟨gb259, 2, none⟩ = some (.slice A0_2 l0_2.length c0_2) := bc BK259 2
       have hfz39_0 := fz BK259 0
       have hfz39_1 := fz BK259 1
       have hfz39_2 := fz BK259 2
       have p262 : 0 ≤ ((ji28) : Int) := dA
       have q262 : (ji28) < (l0_1.length : Int) := dA
       obtain ⟨ad262, e262, hx262_0⟩ := Kd.at_int HR0_1.out (ji28) p262 q262
       obtain rfl : ad261 = ad262 := (by injection e262)
       try replace hx262_0 := (HB.out.cell (World.block_lt_of_cell? w _ hx262_0)).trans hx262_0
       replace p262 := eq_true p262
       replace q262 := eq_true q262
       have p263 : 0 ≤ ((ji34) : Int) := dA
       have q263 : (ji34) < (l0_1.length : Int) := dA
       obtain ⟨ad263, e263, hx263_0⟩ := Kd.at_int HR0_1.out (ji34) p263 q263
       obtain rfl : ad261 = ad263 := (by injection e263)
       try replace hx263_0 := (HB.out.cell (World.block_lt_of_cell? w _ hx263_0)).trans hx263_0
       replace p263 := eq_true p263
       replace q263 := eq_true q263
       go_wp2
       repeat (go_quiet (fail); try go_wp2)
       go_roundg k3
       case measure => have := HJ1.out; have := HK2.out; have := HK3.out; omega
       case rel => exact ⟨(wrap64 (x58_3 + 1)), (by first | rfl | (simp; done) | (simp [*]; done)), H', ⟨by have := HJ1.out; have := HK2.out; have := HK3.out; omega⟩, ⟨bkC BK259⟩, ⟨hbC _⟩⟩

end Go.Proofs.YtpnocmkpeogifaaDoor.X
