-- Written by a program of this work (wip/xprint.py, over the kit's printer) out of the translation.
import Derived.Test.YtpnocmkpeogifaaX0
import Derived.Test.YtpnocmkpeogifaaXG3a
import Derived.Test.YtpnocmkpeogifaaXf29
import Derived.Test.YtpnocmkpeogifaaXf32
namespace Go.Proofs.Ytpnocmkpeogifaa.X
open Go.RowKit Go.Proofs.YtpnocmkpeogifaaW.PrintWords Go.Proofs.YtpnocmkpeogifaaW.PrintLast Go.Proofs.YtpnocmkpeogifaaW.PrintMore
attribute [local go_sem] max2_int min2_int max_two min_two max_three min_three max_four min_four   -- for this text's walks alone
set_option linter.unusedVariables false
set_option linter.unusedSimpArgs false

/-! ### congoulaw04_fine: function 16 -/
def congoulaw04_fine.f (k : Nat) (a0_0 : Int) (l0_1 : List Int) (l0_2 : List Int) (a1_0 : Int) (a1_1 : Int) : Option (Bool) := (congouref04_Valid.f k a0_0 l0_1 l0_2).bind fun t282 => (if t282 = true then ((congouref04_In.f k a0_0 l0_1 l0_2 a1_0 a1_1).bind fun t283 => (some t283)) else (some false))
theorem congoulaw04_fine.mono : ∀ a0 a1 a2 a3 a4 k, LeO (congoulaw04_fine.f k a0 a1 a2 a3 a4) (congoulaw04_fine.f (k + 1) a0 a1 a2 a3 a4) := by
 intro a0 a1 a2 a3 a4 k
 unfold congoulaw04_fine.f
 repeat' first
   | (with_reducible exact congouref04_In.mono _ _ _ _ _ _)
   | (with_reducible exact congouref04_Valid.mono _ _ _ _)
   | (with_reducible exact LeO.refl _)
   | (with_reducible exact LeO.none _)
   | (with_reducible refine LeO.ite ?_ ?_)
   | (with_reducible refine LeO.bind ?_ (fun _ => ?_))
   | exact congouref04_In.mono _ _ _ _ _ _
   | exact congouref04_Valid.mono _ _ _ _
   | exact LeO.none _
   | refine LeO.ite ?_ ?_
   | refine LeO.bind ?_ (fun _ => ?_)
set_option maxHeartbeats 8000000 in
set_option maxRecDepth 100000 in
theorem congoulaw04_fine.calls (k : Nat) (a0_0 : Int) (A0_1 : Option Addr) (c0_1 : Nat) (l0_1 : List Int) (A0_2 : Option Addr) (c0_2 : Nat) (l0_2 : List Int) (a1_0 : Int) (a1_1 : Int) (r : Bool) (w : World) (hr0_1 : Kd.C (Kd.int .i64) w A0_1 l0_1.length l0_1) (hc0_1 : l0_1.length ≤ c0_1) (hr0_2 : Kd.C (Kd.int .i64) w A0_2 l0_2.length l0_2) (hc0_2 : l0_2.length ≤ c0_2) (h : congoulaw04_fine.f k a0_0 l0_1 l0_2 a1_0 a1_1 = some r) :
  Calls Try.prog 16 #[.agg #[.int .i64 a0_0, .slice A0_1 l0_1.length c0_1, .slice A0_2 l0_2.length c0_2], .agg #[.int .i64 a1_0, .int .i64 a1_1]] w fun e w' => e = .returned (.bool r) ∧ Below w.heap.size w w' := by
 have hu24 := Try.underlying24
 have hu26 := Try.underlying26
 have HR0_1 := Aside0.mk hr0_1
 have HC0_1 := Aside0.mk hc0_1
 clear hr0_1 hc0_1
 have HR0_2 := Aside0.mk hr0_2
 have HC0_2 := Aside0.mk hc0_2
 clear hr0_2 hc0_2
 have HB := ak (Below.refl w.heap.size w)
 have H : ((congouref04_Valid.f k a0_0 l0_1 l0_2).bind fun t282 => (if t282 = true then ((congouref04_In.f k a0_0 l0_1 l0_2 a1_0 a1_1).bind fun t283 => (some t283)) else (some false))) = some r := h
 clear h
 replace H := Option.bind_eq_some_iff.mp H
 obtain ⟨t282, A30, H⟩ := H
 replace H : (if t282 = true then ((congouref04_In.f k a0_0 l0_1 l0_2 a1_0 a1_1).bind fun t283 => (some t283)) else (some false)) = some r := H
 have A3 := Aside0.mk A30
 clear A30
 by_cases c4 : t282 = true
 rotate_left
 ·replace c4 := Bool.eq_false_iff.mpr c4
  subst c4
  have H1 : (some false) = some r := by rw [if_neg (show ¬ (false = true) by decide)] at H; exact H
  clear H
  have H := H1
  clear H1
  obtain rfl := Option.some.inj H
  go_enter Try.func16, Try.ntmps16
  go_wp2_with (first | ((with_reducible refine gate_dst (N := 2) rfl ?_); refine bE 2 #[.int .i64 a0_0, .slice A0_1 l0_1.length c0_1, .slice A0_2 l0_2.length c0_2] 24 ?_; intro gb280 hg w14 hbox hb; have BK280 := ak (hbox); have GW280 := kG w hg; have GE280 := kG w hg; replace HB := kH _ hb; clear hb hbox hg) | ((with_reducible refine gate_dst (N := 3) rfl ?_); refine bE 3 #[.int .i64 a1_0, .int .i64 a1_1] 26 ?_; intro gb281 hg w15 hbox hb; have BK281 := ak (hbox); have GW281 := kG w hg; have GE281 := kG w hg; replace HB := kH _ hb; have NB280_281 := kL BK280 hg; have NB281_280 := kR BK280 hg; replace BK280 := kB BK280 hb; clear hb hbox hg; have hnb16 := NB280_281.out; have hnc16 := NB281_280.out; have hcz17_0 : w15.cell? ⟨gb280, 0, none⟩ = some (.int .i64 a0_0) := bc BK280 0; have hcz17_1 : w15.cell? ⟨gb280, 1, none⟩ = some (.slice A0_1 l0_1.length c0_1) := bc BK280 1; have hcz17_2 : w15.cell? ⟨gb280, 2, none⟩ = some (.slice A0_2 l0_2.length c0_2) := bc BK280 2; have hfz17_0 := fz BK280 0; have hfz17_1 := fz BK280 1; have hfz17_2 := fz BK280 2) | ((with_reducible refine gate_callee (f := 29) rfl ?_); refine gL 6 Try.func29 #[.agg #[.int .i64 a0_0, .slice A0_1 l0_1.length c0_1, .slice A0_2 l0_2.length c0_2]] ?_; (with_reducible refine (congouref04_Valid.calls k a0_0 _ _ l0_1 _ _ l0_2 false _ ?side1 ?side2 ?side3 ?side4 A3.out).mono ?_); (case side1 => exact kC HR0_1); (case side2 => exact HC0_1.out); (case side3 => exact kC HR0_2); (case side4 => exact HC0_2.out); rintro e w18 ⟨rfl, hb⟩; refine ⟨_, rfl, ?_⟩; replace BK280 := kB BK280 hb; replace BK281 := kB BK281 hb; replace HB := kH _ hb; (try clear hb); (try clear hb2); (try clear hk); (try clear hi)))
  go_ret
  exact ⟨by first | rfl | (simp [errW_none, errW_some] <;> rfl) | (simp [*, errW_none, errW_some] <;> rfl), hbC _⟩
 subst c4
 have H1 : ((congouref04_In.f k a0_0 l0_1 l0_2 a1_0 a1_1).bind fun t283 => (some t283)) = some r := by rw [if_pos rfl] at H; exact H
 clear H
 have H := H1
 clear H1
 replace H := Option.bind_eq_some_iff.mp H
 obtain ⟨t283, A50, H⟩ := H
 replace H : (some t283) = some r := H
 have A5 := Aside0.mk A50
 clear A50
 obtain rfl := Option.some.inj H
 go_enter Try.func16, Try.ntmps16
 go_wp2_with (first | ((with_reducible refine gate_dst (N := 2) rfl ?_); refine bE 2 #[.int .i64 a0_0, .slice A0_1 l0_1.length c0_1, .slice A0_2 l0_2.length c0_2] 24 ?_; intro gb280 hg w6 hbox hb; have BK280 := ak (hbox); have GW280 := kG w hg; have GE280 := kG w hg; replace HB := kH _ hb; clear hb hbox hg) | ((with_reducible refine gate_dst (N := 3) rfl ?_); refine bE 3 #[.int .i64 a1_0, .int .i64 a1_1] 26 ?_; intro gb281 hg w7 hbox hb; have BK281 := ak (hbox); have GW281 := kG w hg; have GE281 := kG w hg; replace HB := kH _ hb; have NB280_281 := kL BK280 hg; have NB281_280 := kR BK280 hg; replace BK280 := kB BK280 hb; clear hb hbox hg; have hnb8 := NB280_281.out; have hnc8 := NB281_280.out; have hcz9_0 : w7.cell? ⟨gb280, 0, none⟩ = some (.int .i64 a0_0) := bc BK280 0; have hcz9_1 : w7.cell? ⟨gb280, 1, none⟩ = some (.slice A0_1 l0_1.length c0_1) := bc BK280 1; have hcz9_2 : w7.cell? ⟨gb280, 2, none⟩ = some (.slice A0_2 l0_2.length c0_2) := bc BK280 2; have hfz9_0 := fz BK280 0; have hfz9_1 := fz BK280 1; have hfz9_2 := fz BK280 2) | ((with_reducible refine gate_callee (f := 29) rfl ?_); refine gL 6 Try.func29 #[.agg #[.int .i64 a0_0, .slice A0_1 l0_1.length c0_1, .slice A0_2 l0_2.length c0_2]] ?_; (with_reducible refine (congouref04_Valid.calls k a0_0 _ _ l0_1 _ _ l0_2 true _ ?side1 ?side2 ?side3 ?side4 A3.out).mono ?_); (case side1 => exact kC HR0_1); (case side2 => exact HC0_1.out); (case side3 => exact kC HR0_2); (case side4 => exact HC0_2.out); rintro e w10 ⟨rfl, hb⟩; refine ⟨_, rfl, ?_⟩; replace BK280 := kB BK280 hb; replace BK281 := kB BK281 hb; replace HB := kH _ hb; (try clear hb); (try clear hb2); (try clear hk); (try clear hi); have hcz11_0 : w10.cell? ⟨gb280, 0, none⟩ = some (.int .i64 a0_0) := bc BK280 0; have hcz11_1 : w10.cell? ⟨gb280, 1, none⟩ = some (.slice A0_1 l0_1.length c0_1) := bc BK280 1; have hcz11_2 : w10.cell? ⟨gb280, 2, none⟩ = some (.slice A0_2 l0_2.length c0_2) := bc BK280 2; have hfz11_0 := fz BK280 0; have hfz11_1 := fz BK280 1; have hfz11_2 := fz BK280 2; have hcz12_0 : w10.cell? ⟨gb281, 0, none⟩ = some (.int .i64 a1_0) := bc BK281 0; have hcz12_1 : w10.cell? ⟨gb281, 1, none⟩ = some (.int .i64 a1_1) := bc BK281 1; have hfz12_0 := fz BK281 0; have hfz12_1 := fz BK281 1) | (go_at_call 32; (with_reducible refine (congouref04_In.calls k a0_0 _ _ l0_1 _ _ l0_2 a1_0 a1_1 t283 _ ?side1 ?side2 ?side3 ?side4 A5.out).mono ?_); (case side1 => exact kC HR0_1); (case side2 => exact HC0_1.out); (case side3 => exact kC HR0_2); (case side4 => exact HC0_2.out); rintro e w13 ⟨rfl, hb⟩; replace BK280 := kB BK280 hb; replace BK281 := kB BK281 hb; replace HB := kH _ hb; (try clear hb); (try clear hb2); (try clear hk); (try clear hi)))
 go_ret
 exact ⟨by first | rfl | (simp [errW_none, errW_some] <;> rfl) | (simp [*, errW_none, errW_some] <;> rfl), hbC _⟩

/-! ### curves_Changes: function 26 -/
mutual
def curves_Changes.j0 : Nat → List Int → Bool → Option (Int × Int)
 | 0, _, _ => none
 | k + 1, x0, x14 => if x14 = true then (some (0, 2)) else (curves_Changes.l0 k 0 0 x0 (x0.length : Int) 0)
def curves_Changes.l0 : Nat → Int → Int → List Int → Int → Int → Option (Int × Int)
 | 0, _, _, _, _, _ => none
 | k + 1, x4, x5, x15, x16, x17 => if x17 < x16 then (if 0 ≤ x17 then (if x17 < (x15.length : Int) then (if (wrap64 ((rd x15 x17) * x5)) < 0 then (if (rd x15 x17) = 0 then (curves_Changes.l0 k (wrap64 (x4 + 1)) x5 x15 x16 (wrap64 (x17 + 1))) else (curves_Changes.l0 k (wrap64 (x4 + 1)) (rd x15 x17) x15 x16 (wrap64 (x17 + 1)))) else (if (rd x15 x17) = 0 then (curves_Changes.l0 k x4 x5 x15 x16 (wrap64 (x17 + 1))) else (curves_Changes.l0 k x4 (rd x15 x17) x15 x16 (wrap64 (x17 + 1))))) else (none)) else (none)) else (some (x4, 0))
end
def curves_Changes.f (k : Nat) (l0 : List Int) : Option (Int × Int) := if (l0.length : Int) > 20 then (curves_Changes.j0 k l0 true) else ((slices_ContainsFunc_int_int_with60.f k l0).bind fun t538 => (curves_Changes.j0 k l0 t538))
theorem curves_Changes.mono_l : ∀ k, (∀ y0 y1, LeO (curves_Changes.j0 k y0 y1) (curves_Changes.j0 (k + 1) y0 y1)) ∧ (∀ y0 y1 y2 y3 y4, LeO (curves_Changes.l0 k y0 y1 y2 y3 y4) (curves_Changes.l0 (k + 1) y0 y1 y2 y3 y4))
 | 0 => ⟨fun _ _ r h => by simp [curves_Changes.j0] at h, fun _ _ _ _ _ r h => by simp [curves_Changes.l0] at h⟩
 | k + 1 => by
  obtain ⟨ih0, ih1⟩ := curves_Changes.mono_l k
  refine ⟨?_, ?_⟩
  ·intro y0 y1
   unfold curves_Changes.j0
   repeat' first
   | (with_reducible exact ih0 _ _)
   | (with_reducible exact ih1 _ _ _ _ _)
   | (with_reducible exact slices_ContainsFunc_int_int_with60.mono _ _)
   | (with_reducible exact LeO.refl _)
   | (with_reducible exact LeO.none _)
   | (with_reducible refine LeO.ite ?_ ?_)
   | (with_reducible refine LeO.bind ?_ (fun _ => ?_))
   | exact ih0 _ _
   | exact ih1 _ _ _ _ _
   | exact slices_ContainsFunc_int_int_with60.mono _ _
   | exact LeO.none _
   | refine LeO.ite ?_ ?_
   | refine LeO.bind ?_ (fun _ => ?_)
  ·intro y0 y1 y2 y3 y4
   unfold curves_Changes.l0
   repeat' first
   | (with_reducible exact ih0 _ _)
   | (with_reducible exact ih1 _ _ _ _ _)
   | (with_reducible exact slices_ContainsFunc_int_int_with60.mono _ _)
   | (with_reducible exact LeO.refl _)
   | (with_reducible exact LeO.none _)
   | (with_reducible refine LeO.ite ?_ ?_)
   | (with_reducible refine LeO.bind ?_ (fun _ => ?_))
   | exact ih0 _ _
   | exact ih1 _ _ _ _ _
   | exact slices_ContainsFunc_int_int_with60.mono _ _
   | exact LeO.none _
   | refine LeO.ite ?_ ?_
   | refine LeO.bind ?_ (fun _ => ?_)
theorem curves_Changes.mono : ∀ a0 k, LeO (curves_Changes.f k a0) (curves_Changes.f (k + 1) a0) := by
 intro a0 k
 obtain ⟨ih0, ih1⟩ := curves_Changes.mono_l k
 unfold curves_Changes.f
 repeat' first
   | (with_reducible exact ih0 _ _)
   | (with_reducible exact ih1 _ _ _ _ _)
   | (with_reducible exact slices_ContainsFunc_int_int_with60.mono _ _)
   | (with_reducible exact LeO.refl _)
   | (with_reducible exact LeO.none _)
   | (with_reducible refine LeO.ite ?_ ?_)
   | (with_reducible refine LeO.bind ?_ (fun _ => ?_))
   | exact ih0 _ _
   | exact ih1 _ _ _ _ _
   | exact slices_ContainsFunc_int_int_with60.mono _ _
   | exact LeO.none _
   | refine LeO.ite ?_ ?_
   | refine LeO.bind ?_ (fun _ => ?_)
set_option maxHeartbeats 8000000 in
set_option maxRecDepth 100000 in
theorem curves_Changes.calls (k : Nat) (A0 : Option Addr) (c0 : Nat) (l0 : List Int) (r1 : Int) (r2 : Int) (w : World) (hr0 : Kd.C (Kd.int .i64) w A0 l0.length l0) (hc0 : l0.length ≤ c0) (h : curves_Changes.f k l0 = some (r1, r2)) :
  Calls Try.prog 26 #[.slice A0 l0.length c0] w fun e w' => e = .returned (.tuple #[.int .i64 r1, .int .i64 r2]) ∧ Drawn0 w w' := by
 have HR0 := Aside0.mk hr0
 have HC0 := Aside0.mk hc0
 clear hr0 hc0
 have H : (if (l0.length : Int) > 20 then (curves_Changes.j0 k l0 true) else ((slices_ContainsFunc_int_int_with60.f k l0).bind fun t538 => (curves_Changes.j0 k l0 t538))) = some (r1, r2) := h
 clear h
 have HC2 := Aside0.mk H
 clear H
 go_enter Try.func26, Try.ntmps26
 go_upto_region 1 with (fail)
 go_cut [14] (fun v14 wc => ∃ (kq : Nat) (x14_1 : Bool), v14 = .bool x14_1 ∧ Aside0 (curves_Changes.j0 kq l0 x14_1 = some (r1, r2)) ∧ Aside0 (kq ≤ k) ∧ Drawn0 w wc)
 case first =>
  have H := HC2.out
  clear HC2
  by_cases c3 : (l0.length : Int) > 20
  ·rw [if_pos c3] at H
   have c3b0 : decide (20 < (l0.length : Int)) = true := decide_eq_true c3
   have c3b1 : decide (20 < l0.length) = true := decide_eq_true (by omega)
   clear c3
   (first | rw [c3b0] | (simp only [i64_w, i32_w]; rw [c3b0]) | skip)
   have H' := Aside0.mk H
   clear H
   go_wp2
   go_meet
   case rel => exact ⟨_, (true), (by first | rfl | (simp; done) | (simp [*]; done)), H', ⟨by first | omega | exact Nat.le_refl _⟩, by repeat (first | exact Drawn0.refl _ | apply Drawn0.step)⟩
  rw [if_neg c3] at H
  have c3b0 : decide (20 < (l0.length : Int)) = false := decide_eq_false c3
  have c3b1 : decide (20 < l0.length) = false := decide_eq_false (by omega)
  clear c3
  (first | rw [c3b0] | (simp only [i64_w, i32_w]; rw [c3b0]) | skip)
  replace H := Option.bind_eq_some_iff.mp H
  obtain ⟨t538, A40, H⟩ := H
  replace H : (curves_Changes.j0 k l0 t538) = some (r1, r2) := H
  have A4 := Aside0.mk A40
  clear A40
  have H' := Aside0.mk H
  clear H
  go_wp2_with (first | (go_at_call 59; (with_reducible refine (slices_ContainsFunc_int_int_with60.calls k _ _ l0 t538 _ ?side1 ?side2 A4.out).mono ?_); (case side1 => repeat (first | exact HR0.out | (with_reducible refine Kd.C_alloc ?_ _) | (with_reducible refine Kd.C_drewN ?_ _) | (with_reducible refine Kd.C_drew ?_))); (case side2 => exact HC0.out); rintro e w' ⟨rfl, ⟨nd, rfl⟩⟩))
  go_meet
  case rel => exact ⟨_, (t538), (by first | rfl | (simp; done) | (simp [*]; done)), H', ⟨by first | omega | exact Nat.le_refl _⟩, by repeat (first | exact Drawn0.refl _ | apply Drawn0.step)⟩
 case rest =>
  clear HC2
  try clear c2
  try clear p2
  try clear c3
  try clear c3b0
  try clear c3b1
  obtain ⟨kq, x14_1, rfl, HA, HJ1, ⟨mc1, rfl⟩⟩ := hcut
  cases kq with
  | zero => exact absurd HA.out (by simp [curves_Changes.j0])
  | succ kj1 =>
   have H := HA.out
   clear HA
   simp only [curves_Changes.j0] at H
   by_cases c5 : x14_1 = true
   ·subst c5
    have H1 : (some (0, 2)) = some (r1, r2) := by rw [if_pos rfl] at H; exact H
    clear H
    have H := H1
    clear H1
    simp only [Option.some.injEq, Prod.mk.injEq] at H
    obtain ⟨rfl, rfl⟩ := H
    go_wp2
    go_ret2
    exact ⟨by first | rfl | (simp; done) | (simp [*]; done), by repeat (first | exact Drawn0.refl _ | apply Drawn0.step)⟩
   replace c5 := Bool.eq_false_iff.mpr c5
   subst c5
   have H1 : (curves_Changes.l0 kj1 0 0 l0 (l0.length : Int) 0) = some (r1, r2) := by rw [if_neg (show ¬ (false = true) by decide)] at H; exact H
   clear H
   have H := H1
   clear H1
   have H' := Aside0.mk H
   clear H
   go_wp2
   go_loopg [4, 5, 17] kj1 (fun kq v4 v5 v17 w' => ∃ (x4_2 : Int) (x5_2 : Int) (x17_2 : Int), v4 = .int .i64 x4_2 ∧ v5 = .int .i64 x5_2 ∧ v17 = .int .i64 x17_2 ∧ Aside0 (curves_Changes.l0 kq x4_2 x5_2 l0 (l0.length : Int) x17_2 = some (r1, r2)) ∧ Aside0 (kq ≤ kj1) ∧ Drawn0 w w')
   case atStart => exact ⟨(0), (0), (0), (by first | rfl | (simp; done) | (simp [*]; done)), (by first | rfl | (simp; done) | (simp [*]; done)), (by first | rfl | (simp; done) | (simp [*]; done)), H', ⟨Nat.le_refl _⟩, by repeat (first | exact Drawn0.refl _ | apply Drawn0.step)⟩
   case round =>
    clear H'
    try clear c1
    try clear c2
    try clear p2
    try clear c3
    try clear c3b0
    try clear c3b1
    try clear c5
    try clear p2
    obtain ⟨x4_2, x5_2, x17_2, rfl, rfl, rfl, HA, HK2, ⟨m2, rfl⟩⟩ := hrel
    cases gk with
    | zero => exact absurd HA.out (by simp [curves_Changes.l0])
    | succ k2 =>
     have H := HA.out
     clear HA
     simp only [curves_Changes.l0] at H
     by_cases c6 : x17_2 < (l0.length : Int)
     rotate_left
     ·rw [if_neg c6] at H
      have c6b0 : decide (x17_2 < (l0.length : Int)) = false := decide_eq_false c6
      clear c6
      simp only [Option.some.injEq, Prod.mk.injEq] at H
      obtain ⟨rfl, rfl⟩ := H
      go_wp2
      go_ret2
      exact ⟨by first | rfl | (simp; done) | (simp [*]; done), by repeat (first | exact Drawn0.refl _ | apply Drawn0.step)⟩
     rw [if_pos c6] at H
     have c6b0 : decide (x17_2 < (l0.length : Int)) = true := decide_eq_true c6
     clear c6
     by_cases c7 : 0 ≤ x17_2
     rotate_left
     ·rw [if_neg c7] at H
      exact absurd H (by simp)
     rw [if_pos c7] at H
     have c7b0 : decide (0 ≤ x17_2) = true := decide_eq_true c7
     clear c7
     by_cases c8 : x17_2 < (l0.length : Int)
     rotate_left
     ·rw [if_neg c8] at H
      exact absurd H (by simp)
     rw [if_pos c8] at H
     have c8b0 : decide (x17_2 < (l0.length : Int)) = true := decide_eq_true c8
     clear c8
     by_cases c9 : (wrap64 ((rd l0 x17_2) * x5_2)) < 0
     rotate_left
     ·rw [if_neg c9] at H
      have c9b0 : decide ((wrap64 ((rd l0 x17_2) * x5_2)) < 0) = false := decide_eq_false c9
      clear c9
      by_cases c11 : (rd l0 x17_2) = 0
      rotate_left
      ·rw [if_neg c11] at H
       have c11b0 : ((rd l0 x17_2) == 0) = false := beq_eq_false_iff_ne.mpr c11
       have c11b1 : ((rd l0 x17_2) != 0) = true := bne_iff_ne.mpr c11
       have H' := Aside0.mk H
       clear H
       have p539 : 0 ≤ (x17_2 : Int) := dA
       have q539 : x17_2 < (l0.length : Int) := dA
       obtain ⟨ad539, e539, hx539_0⟩ := Kd.at_int HR0.out x17_2 p539 q539
       cases e539
       replace p539 := eq_true p539
       replace q539 := eq_true q539
       go_wp2
       go_roundg k2
       case measure => have := HJ1.out; have := HK2.out; omega
       case rel => exact ⟨(x4_2), (rd l0 x17_2), (wrap64 (x17_2 + 1)), (by first | rfl | (simp; done) | (simp [*]; done)), (by first | rfl | (simp; done) | (simp [*]; done)), (by first | rfl | (simp; done) | (simp [*]; done)), H', ⟨by have := HJ1.out; have := HK2.out; omega⟩, by repeat (first | exact Drawn0.refl _ | apply Drawn0.step)⟩
      rw [if_pos c11] at H
      have c11b0 : ((rd l0 x17_2) == 0) = true := beq_iff_eq.mpr c11
      have c11b1 : ((rd l0 x17_2) != 0) = false := bne_eq_false_iff_eq.mpr c11
      clear c11
      have H' := Aside0.mk H
      clear H
      have p539 : 0 ≤ (x17_2 : Int) := dA
      have q539 : x17_2 < (l0.length : Int) := dA
      obtain ⟨ad539, e539, hx539_0⟩ := Kd.at_int HR0.out x17_2 p539 q539
      cases e539
      replace p539 := eq_true p539
      replace q539 := eq_true q539
      go_wp2
      go_roundg k2
      case measure => have := HJ1.out; have := HK2.out; omega
      case rel => exact ⟨(x4_2), (x5_2), (wrap64 (x17_2 + 1)), (by first | rfl | (simp; done) | (simp [*]; done)), (by first | rfl | (simp; done) | (simp [*]; done)), (by first | rfl | (simp; done) | (simp [*]; done)), H', ⟨by have := HJ1.out; have := HK2.out; omega⟩, by repeat (first | exact Drawn0.refl _ | apply Drawn0.step)⟩
     rw [if_pos c9] at H
     have c9b0 : decide ((wrap64 ((rd l0 x17_2) * x5_2)) < 0) = true := decide_eq_true c9
     clear c9
     by_cases c10 : (rd l0 x17_2) = 0
     rotate_left
     ·rw [if_neg c10] at H
      have c10b0 : ((rd l0 x17_2) == 0) = false := beq_eq_false_iff_ne.mpr c10
      have c10b1 : ((rd l0 x17_2) != 0) = true := bne_iff_ne.mpr c10
      have H' := Aside0.mk H
      clear H
      have p539 : 0 ≤ (x17_2 : Int) := dA
      have q539 : x17_2 < (l0.length : Int) := dA
      obtain ⟨ad539, e539, hx539_0⟩ := Kd.at_int HR0.out x17_2 p539 q539
      cases e539
      replace p539 := eq_true p539
      replace q539 := eq_true q539
      go_wp2
      go_roundg k2
      case measure => have := HJ1.out; have := HK2.out; omega
      case rel => exact ⟨(wrap64 (x4_2 + 1)), (rd l0 x17_2), (wrap64 (x17_2 + 1)), (by first | rfl | (simp; done) | (simp [*]; done)), (by first | rfl | (simp; done) | (simp [*]; done)), (by first | rfl | (simp; done) | (simp [*]; done)), H', ⟨by have := HJ1.out; have := HK2.out; omega⟩, by repeat (first | exact Drawn0.refl _ | apply Drawn0.step)⟩
     rw [if_pos c10] at H
     have c10b0 : ((rd l0 x17_2) == 0) = true := beq_iff_eq.mpr c10
     have c10b1 : ((rd l0 x17_2) != 0) = false := bne_eq_false_iff_eq.mpr c10
     clear c10
     have H' := Aside0.mk H
     clear H
     have p539 : 0 ≤ (x17_2 : Int) := dA
     have q539 : x17_2 < (l0.length : Int) := dA
     obtain ⟨ad539, e539, hx539_0⟩ := Kd.at_int HR0.out x17_2 p539 q539
     cases e539
     replace p539 := eq_true p539
     replace q539 := eq_true q539
     go_wp2
     go_roundg k2
     case measure => have := HJ1.out; have := HK2.out; omega
     case rel => exact ⟨(wrap64 (x4_2 + 1)), (x5_2), (wrap64 (x17_2 + 1)), (by first | rfl | (simp; done) | (simp [*]; done)), (by first | rfl | (simp; done) | (simp [*]; done)), (by first | rfl | (simp; done) | (simp [*]; done)), H', ⟨by have := HJ1.out; have := HK2.out; omega⟩, by repeat (first | exact Drawn0.refl _ | apply Drawn0.step)⟩

end Go.Proofs.Ytpnocmkpeogifaa.X
