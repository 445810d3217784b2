-- Written by a program of this work (wip/xprint.py, over the kit's printer) out of the translation.
import Derived.Test.YtpnocmkpeogifaaX0
import Derived.Test.YtpnocmkpeogifaaXG2a
namespace Go.Proofs.Ytpnocmkpeogifaa.X
open Go.RowKit Go.Proofs.YtpnocmkpeogifaaW.PrintWords Go.Proofs.YtpnocmkpeogifaaW.PrintLast Go.Proofs.YtpnocmkpeogifaaW.PrintMore
attribute [local go_sem] max2_int min2_int max_two min_two max_three min_three max_four min_four   -- for this text's walks alone
set_option linter.unusedVariables false
set_option linter.unusedSimpArgs false

/-! ### slices_IsSorted_int_int: function 76 -/
def slices_IsSorted_int_int.l0 : Nat → List Int → Int → Option (Bool)
 | 0, _, _ => none
 | k + 1, x0, x3 => if x3 > 0 then (if 0 ≤ x3 then (if x3 < (x0.length : Int) then (if 0 ≤ (wrap64 (x3 - 1)) then (if (wrap64 (x3 - 1)) < (x0.length : Int) then ((cmp_Less_int.f (rd x0 x3) (rd x0 (wrap64 (x3 - 1)))).bind fun t127 => (if t127 = true then (some false) else (slices_IsSorted_int_int.l0 k x0 (wrap64 (x3 - 1))))) else (none)) else (none)) else (none)) else (none)) else (some true)
def slices_IsSorted_int_int.f (k : Nat) (l0 : List Int) : Option (Bool) := slices_IsSorted_int_int.l0 k l0 (wrap64 ((l0.length : Int) - 1))
theorem slices_IsSorted_int_int.mono_l : ∀ k, (∀ y0 y1, LeO (slices_IsSorted_int_int.l0 k y0 y1) (slices_IsSorted_int_int.l0 (k + 1) y0 y1))
 | 0 => fun _ _ r h => by simp [slices_IsSorted_int_int.l0] at h
 | k + 1 => by
  have ih0 := slices_IsSorted_int_int.mono_l k
  ·intro y0 y1
   unfold slices_IsSorted_int_int.l0
   repeat' first
   | (with_reducible exact ih0 _ _)
   | (with_reducible exact LeO.refl _)
   | (with_reducible exact LeO.none _)
   | (with_reducible refine LeO.ite ?_ ?_)
   | (with_reducible refine LeO.bind ?_ (fun _ => ?_))
   | exact ih0 _ _
   | exact LeO.none _
   | refine LeO.ite ?_ ?_
   | refine LeO.bind ?_ (fun _ => ?_)
theorem slices_IsSorted_int_int.mono : ∀ a0 k, LeO (slices_IsSorted_int_int.f k a0) (slices_IsSorted_int_int.f (k + 1) a0) := by
 intro a0 k
 have ih0 := slices_IsSorted_int_int.mono_l k
 unfold slices_IsSorted_int_int.f
 repeat' first
   | (with_reducible exact ih0 _ _)
   | (with_reducible exact LeO.refl _)
   | (with_reducible exact LeO.none _)
   | (with_reducible refine LeO.ite ?_ ?_)
   | (with_reducible refine LeO.bind ?_ (fun _ => ?_))
   | exact ih0 _ _
   | exact LeO.none _
   | refine LeO.ite ?_ ?_
   | refine LeO.bind ?_ (fun _ => ?_)
set_option maxHeartbeats 8000000 in
set_option maxRecDepth 100000 in
theorem slices_IsSorted_int_int.calls (k : Nat) (A0 : Option Addr) (c0 : Nat) (l0 : List Int) (r : Bool) (w : World) (hr0 : Kd.C (Kd.int .i64) w A0 l0.length l0) (hc0 : l0.length ≤ c0) (h : slices_IsSorted_int_int.f k l0 = some r) :
  Calls Try.prog 76 #[.slice A0 l0.length c0] w fun e w' => e = .returned (.bool r) ∧ Drawn0 w w' := by
 have HR0 := Aside0.mk hr0
 have HC0 := Aside0.mk hc0
 clear hr0 hc0
 have H : (slices_IsSorted_int_int.l0 k l0 (wrap64 ((l0.length : Int) - 1))) = some r := h
 clear h
 have H' := Aside0.mk H
 clear H
 go_enter Try.func76, Try.ntmps76
 go_wp2
 repeat (go_quiet (fail); try go_wp2)
 go_loopg [3] k (fun kq v3 w' => ∃ (x3_1 : Int), v3 = .int .i64 x3_1 ∧ Aside0 (slices_IsSorted_int_int.l0 kq l0 x3_1 = some r) ∧ Aside0 (kq ≤ k) ∧ Drawn0 w w')
 case atStart => exact ⟨(wrap64 ((l0.length : Int) - 1)), (by first | rfl | (simp; done) | (simp [*]; done)), H', ⟨Nat.le_refl _⟩, by repeat (first | exact Drawn0.refl _ | apply Drawn0.step)⟩
 case round =>
  clear H'
  obtain ⟨x3_1, rfl, HA, HK1, ⟨m1, rfl⟩⟩ := hrel
  cases gk with
  | zero => exact absurd HA.out (by simp [slices_IsSorted_int_int.l0])
  | succ k1 =>
   have H := HA.out
   clear HA
   simp only [slices_IsSorted_int_int.l0] at H
   by_cases c2 : x3_1 > 0
   rotate_left
   ·rw [if_neg c2] at H
    have c2b0 : decide (0 < x3_1) = false := decide_eq_false c2
    clear c2
    obtain rfl := Option.some.inj H
    go_wp2
    repeat (go_quiet (fail); try go_wp2)
    go_ret
    exact ⟨by first | rfl | (simp; done) | (simp [*]; done), by repeat (first | exact Drawn0.refl _ | apply Drawn0.step)⟩
   rw [if_pos c2] at H
   have c2b0 : decide (0 < x3_1) = true := decide_eq_true c2
   clear c2
   by_cases c3 : 0 ≤ x3_1
   rotate_left
   ·rw [if_neg c3] at H
    exact absurd H (by simp)
   rw [if_pos c3] at H
   have c3b0 : decide (0 ≤ x3_1) = true := decide_eq_true c3
   clear c3
   by_cases c4 : x3_1 < (l0.length : Int)
   rotate_left
   ·rw [if_neg c4] at H
    exact absurd H (by simp)
   rw [if_pos c4] at H
   have c4b0 : decide (x3_1 < (l0.length : Int)) = true := decide_eq_true c4
   clear c4
   obtain ⟨ji5, hji5⟩ : ∃ j_ : Int, (wrap64 (x3_1 - 1)) = j_ := ⟨_, rfl⟩
   replace H : (if 0 ≤ (ji5) then (if (ji5) < (l0.length : Int) then ((cmp_Less_int.f (rd l0 x3_1) (rd l0 (ji5))).bind fun t127 => (if t127 = true then (some false) else (slices_IsSorted_int_int.l0 k1 l0 ji5))) else (none)) else (none)) = some r := by first | (rw [hji5] at H; exact H) | (simp only [hji5] at H ⊢; exact H)
   have hji5w : (IntKind.i64.wrap (x3_1 - 1)) = ji5 := (i64_w _).trans hji5
   by_cases c6 : 0 ≤ (ji5)
   rotate_left
   ·rw [if_neg c6] at H
    exact absurd H (by simp)
   rw [if_pos c6] at H
   have c6b0 : decide (0 ≤ (ji5)) = true := decide_eq_true c6
   clear c6
   by_cases c7 : (ji5) < (l0.length : Int)
   rotate_left
   ·rw [if_neg c7] at H
    exact absurd H (by simp)
   rw [if_pos c7] at H
   have c7b0 : decide ((ji5) < (l0.length : Int)) = true := decide_eq_true c7
   clear c7
   replace H := Option.bind_eq_some_iff.mp H
   obtain ⟨t127, A80, H⟩ := H
   replace H : (if t127 = true then (some false) else (slices_IsSorted_int_int.l0 k1 l0 ji5)) = some r := H
   have A8 := Aside0.mk A80
   clear A80
   by_cases c9 : t127 = true
   ·subst c9
    have H1 : (some false) = some r := by rw [if_pos rfl] at H; exact H
    clear H
    have H := H1
    clear H1
    obtain rfl := Option.some.inj H
    have p125 : 0 ≤ (x3_1 : Int) := dA
    have q125 : x3_1 < (l0.length : Int) := dA
    obtain ⟨ad125, e125, hx125_0⟩ := Kd.at_int HR0.out x3_1 p125 q125
    cases e125
    replace p125 := eq_true p125
    replace q125 := eq_true q125
    have p126 : 0 ≤ ((ji5) : Int) := dA
    have q126 : (ji5) < (l0.length : Int) := dA
    obtain ⟨ad126, e126, hx126_0⟩ := Kd.at_int HR0.out (ji5) p126 q126
    obtain rfl : ad125 = ad126 := (by injection e126)
    replace p126 := eq_true p126
    replace q126 := eq_true q126
    go_wp2_with (first | (go_at_call 78; (with_reducible refine (cmp_Less_int.calls (rd l0 x3_1) (rd l0 (ji5)) true _ A8.out).mono ?_); rintro e w' ⟨rfl, ⟨nd, rfl⟩⟩; (try first | exact ⟨rfl, _, World.drewN_drewN _ _ _⟩ | exact ⟨rfl, _, Eq.trans (World.drewN_drewN _ _ _) (congrArg (World.drewN _) (Nat.add_assoc _ _ _))⟩)))
    repeat (go_quiet (first | (go_at_call 78; (with_reducible refine (cmp_Less_int.calls (rd l0 x3_1) (rd l0 (ji5)) true _ A8.out).mono ?_); rintro e w' ⟨rfl, ⟨nd, rfl⟩⟩; (try first | exact ⟨rfl, _, World.drewN_drewN _ _ _⟩ | exact ⟨rfl, _, Eq.trans (World.drewN_drewN _ _ _) (congrArg (World.drewN _) (Nat.add_assoc _ _ _))⟩))); try go_wp2_with (first | (go_at_call 78; (with_reducible refine (cmp_Less_int.calls (rd l0 x3_1) (rd l0 (ji5)) true _ A8.out).mono ?_); rintro e w' ⟨rfl, ⟨nd, rfl⟩⟩; (try first | exact ⟨rfl, _, World.drewN_drewN _ _ _⟩ | exact ⟨rfl, _, Eq.trans (World.drewN_drewN _ _ _) (congrArg (World.drewN _) (Nat.add_assoc _ _ _))⟩))))
    go_ret
    exact ⟨by first | rfl | (simp; done) | (simp only [← hji5] <;> (first | rfl | simp)) | (simp [*]; done), by repeat (first | exact Drawn0.refl _ | apply Drawn0.step)⟩
   replace c9 := Bool.eq_false_iff.mpr c9
   subst c9
   have H1 : (slices_IsSorted_int_int.l0 k1 l0 ji5) = some r := by rw [if_neg (show ¬ (false = true) by decide)] at H; exact H
   clear H
   have H := H1
   clear H1
   have H' := Aside0.mk H
   clear H
   have p125 : 0 ≤ (x3_1 : Int) := dA
   have q125 : x3_1 < (l0.length : Int) := dA
   obtain ⟨ad125, e125, hx125_0⟩ := Kd.at_int HR0.out x3_1 p125 q125
   cases e125
   replace p125 := eq_true p125
   replace q125 := eq_true q125
   have p126 : 0 ≤ ((ji5) : Int) := dA
   have q126 : (ji5) < (l0.length : Int) := dA
   obtain ⟨ad126, e126, hx126_0⟩ := Kd.at_int HR0.out (ji5) p126 q126
   obtain rfl : ad125 = ad126 := (by injection e126)
   replace p126 := eq_true p126
   replace q126 := eq_true q126
   go_wp2_with (first | (go_at_call 78; (with_reducible refine (cmp_Less_int.calls (rd l0 x3_1) (rd l0 (ji5)) false _ A8.out).mono ?_); rintro e w' ⟨rfl, ⟨nd, rfl⟩⟩; (try first | exact ⟨rfl, _, World.drewN_drewN _ _ _⟩ | exact ⟨rfl, _, Eq.trans (World.drewN_drewN _ _ _) (congrArg (World.drewN _) (Nat.add_assoc _ _ _))⟩)))
   repeat (go_quiet (first | (go_at_call 78; (with_reducible refine (cmp_Less_int.calls (rd l0 x3_1) (rd l0 (ji5)) false _ A8.out).mono ?_); rintro e w' ⟨rfl, ⟨nd, rfl⟩⟩; (try first | exact ⟨rfl, _, World.drewN_drewN _ _ _⟩ | exact ⟨rfl, _, Eq.trans (World.drewN_drewN _ _ _) (congrArg (World.drewN _) (Nat.add_assoc _ _ _))⟩))); try go_wp2_with (first | (go_at_call 78; (with_reducible refine (cmp_Less_int.calls (rd l0 x3_1) (rd l0 (ji5)) false _ A8.out).mono ?_); rintro e w' ⟨rfl, ⟨nd, rfl⟩⟩; (try first | exact ⟨rfl, _, World.drewN_drewN _ _ _⟩ | exact ⟨rfl, _, Eq.trans (World.drewN_drewN _ _ _) (congrArg (World.drewN _) (Nat.add_assoc _ _ _))⟩))))
   go_roundg k1
   case measure => have := HK1.out; omega
   case rel => exact ⟨(ji5), (by first | rfl | (simp; done) | (simp only [← hji5] <;> (first | rfl | simp)) | (simp [*]; done)), H', ⟨by have := HK1.out; omega⟩, by repeat (first | exact Drawn0.refl _ | apply Drawn0.step)⟩

/-! ### curves_ratio_less: function 72 -/
def curves_ratio_less.f (k : Nat) (a0_0 : Int) (a0_1 : Int) (a1 : Int) : Option (Int × Int) := (curves_of.f k (wrap64 (a0_0 - (wrap64 (a1 * a0_1)))) a0_1).bind fun bt165 => (some (bt165.1, bt165.2))
theorem curves_ratio_less.mono : ∀ a0 a1 a2 k, LeO (curves_ratio_less.f k a0 a1 a2) (curves_ratio_less.f (k + 1) a0 a1 a2) := by
 intro a0 a1 a2 k
 unfold curves_ratio_less.f
 repeat' first
   | (with_reducible exact curves_of.mono _ _ _)
   | (with_reducible exact LeO.refl _)
   | (with_reducible exact LeO.none _)
   | (with_reducible refine LeO.ite ?_ ?_)
   | (with_reducible refine LeO.bind ?_ (fun _ => ?_))
   | exact curves_of.mono _ _ _
   | exact LeO.none _
   | refine LeO.ite ?_ ?_
   | refine LeO.bind ?_ (fun _ => ?_)
set_option maxHeartbeats 8000000 in
set_option maxRecDepth 100000 in
theorem curves_ratio_less.calls (k : Nat) (a0_0 : Int) (a0_1 : Int) (a1 : Int) (r1 : Int) (r2 : Int) (w : World) (h : curves_ratio_less.f k a0_0 a0_1 a1 = some (r1, r2)) :
  Calls Try.prog 72 #[.agg #[.int .i64 a0_0, .int .i64 a0_1], .int .i64 a1] w fun e w' => e = .returned (.agg #[.int .i64 r1, .int .i64 r2]) ∧ Below w.heap.size w w' := by
 have hu76 := Try.underlying76
 have HB := ak (Below.refl w.heap.size w)
 have H : ((curves_of.f k (wrap64 (a0_0 - (wrap64 (a1 * a0_1)))) a0_1).bind fun bt165 => (some (bt165.1, bt165.2))) = some (r1, r2) := h
 clear h
 replace H := Option.bind_eq_some_iff.mp H
 obtain ⟨⟨t165, t166⟩, A30, H⟩ := H
 replace H : (some (t165, t166)) = some (r1, r2) := H
 have A3 := Aside0.mk A30
 clear A30
 simp only [Option.some.injEq, Prod.mk.injEq] at H
 obtain ⟨rfl, rfl⟩ := H
 go_enter Try.func72, Try.ntmps72
 go_wp2_with (first | ((with_reducible refine gate_dst (N := 2) rfl ?_); refine bE 2 #[.int .i64 a0_0, .int .i64 a0_1] 76 ?_; intro gb163 hg w4 hbox hb; have BK163 := ak (hbox); have GW163 := kG w hg; have GE163 := kG w hg; replace HB := kH _ hb; clear hb hbox hg) | ((with_reducible refine gate_dst (N := 4) rfl ?_); refine bE 4 #[.int .i64 0, .int .i64 0] 76 ?_; intro gb164 hg w5 hbox hb; have BK164 := ak (hbox); have GW164 := kG w hg; have GE164 := kG w hg; replace HB := kH _ hb; have NB163_164 := kL BK163 hg; have NB164_163 := kR BK163 hg; replace BK163 := kB BK163 hb; clear hb hbox hg; have hnb6 := NB163_164.out; have hnc6 := NB164_163.out; have hcz7_0 : w5.cell? ⟨gb163, 0, none⟩ = some (.int .i64 a0_0) := bc BK163 0; have hcz7_1 : w5.cell? ⟨gb163, 1, none⟩ = some (.int .i64 a0_1) := bc BK163 1; have hfz7_0 := fz BK163 0; have hfz7_1 := fz BK163 1) | ((with_reducible refine gate_callee (f := 48) rfl ?_); refine gL 17 Try.func48 #[.int .i64 (wrap64 (a0_0 - (wrap64 (a1 * a0_1)))), .int .i64 a0_1] ?_; (with_reducible refine (curves_of.calls k (wrap64 (a0_0 - (wrap64 (a1 * a0_1)))) a0_1 t165 t166 _ A3.out).mono ?_); rintro e w8 ⟨rfl, hb⟩; refine ⟨_, rfl, ?_⟩; replace BK163 := kB BK163 hb; replace BK164 := kB BK164 hb; replace HB := kH _ hb; (try clear hb); (try clear hb2); (try clear hk); (try clear hi); have hcz9_0 : w8.cell? ⟨gb164, 0, none⟩ = some (.int .i64 0) := bc BK164 0; have hcz9_1 : w8.cell? ⟨gb164, 1, none⟩ = some (.int .i64 0) := bc BK164 1; have hfz9_0 := fz BK164 0; have hfz9_1 := fz BK164 1))
 refine bodyPost_ret (results_cell_row rfl _ _ gb164 76 #[.int .i64 t165, .int .i64 t166] (0, 0) _ rfl (by (with_reducible repeat (first | refine blk_drewN ?_ _ | refine blk_drew ?_ | refine blk_alloc ?_ _)); refine blk_put (cs := #[.int .i64 t165, .int .i64 0]) ?_ 1 _ rfl; (with_reducible repeat (first | refine blk_drewN ?_ _ | refine blk_drew ?_ | refine blk_alloc ?_ _)); refine blk_put (cs := #[.int .i64 0, .int .i64 0]) ?_ 0 _ rfl; (with_reducible repeat (first | refine blk_drewN ?_ _ | refine blk_drew ?_ | refine blk_alloc ?_ _)); exact BK164.out) Try.underlying76 rfl (by kernel_rfl)) rfl ?_
 exact ⟨by first | rfl | (simp [errW_none, errW_some] <;> rfl) | (simp [*, errW_none, errW_some] <;> rfl), hbC _⟩

/-! ### curves_ratio_from: function 67 -/
def curves_ratio_from.f (k : Nat) (a0_0 : Int) (a0_1 : Int) (a1 : Int) : Option (Int × Int) := (curves_of.f k (wrap64 ((wrap64 (a1 * a0_1)) - a0_0)) a0_1).bind fun bt186 => (some (bt186.1, bt186.2))
theorem curves_ratio_from.mono : ∀ a0 a1 a2 k, LeO (curves_ratio_from.f k a0 a1 a2) (curves_ratio_from.f (k + 1) a0 a1 a2) := by
 intro a0 a1 a2 k
 unfold curves_ratio_from.f
 repeat' first
   | (with_reducible exact curves_of.mono _ _ _)
   | (with_reducible exact LeO.refl _)
   | (with_reducible exact LeO.none _)
   | (with_reducible refine LeO.ite ?_ ?_)
   | (with_reducible refine LeO.bind ?_ (fun _ => ?_))
   | exact curves_of.mono _ _ _
   | exact LeO.none _
   | refine LeO.ite ?_ ?_
   | refine LeO.bind ?_ (fun _ => ?_)
set_option maxHeartbeats 8000000 in
set_option maxRecDepth 100000 in
theorem curves_ratio_from.calls (k : Nat) (a0_0 : Int) (a0_1 : Int) (a1 : Int) (r1 : Int) (r2 : Int) (w : World) (h : curves_ratio_from.f k a0_0 a0_1 a1 = some (r1, r2)) :
  Calls Try.prog 67 #[.agg #[.int .i64 a0_0, .int .i64 a0_1], .int .i64 a1] w fun e w' => e = .returned (.agg #[.int .i64 r1, .int .i64 r2]) ∧ Below w.heap.size w w' := by
 have hu76 := Try.underlying76
 have HB := ak (Below.refl w.heap.size w)
 have H : ((curves_of.f k (wrap64 ((wrap64 (a1 * a0_1)) - a0_0)) a0_1).bind fun bt186 => (some (bt186.1, bt186.2))) = some (r1, r2) := h
 clear h
 replace H := Option.bind_eq_some_iff.mp H
 obtain ⟨⟨t186, t187⟩, A30, H⟩ := H
 replace H : (some (t186, t187)) = some (r1, r2) := H
 have A3 := Aside0.mk A30
 clear A30
 simp only [Option.some.injEq, Prod.mk.injEq] at H
 obtain ⟨rfl, rfl⟩ := H
 go_enter Try.func67, Try.ntmps67
 go_wp2_with (first | ((with_reducible refine gate_dst (N := 2) rfl ?_); refine bE 2 #[.int .i64 a0_0, .int .i64 a0_1] 76 ?_; intro gb184 hg w4 hbox hb; have BK184 := ak (hbox); have GW184 := kG w hg; have GE184 := kG w hg; replace HB := kH _ hb; clear hb hbox hg) | ((with_reducible refine gate_dst (N := 4) rfl ?_); refine bE 4 #[.int .i64 0, .int .i64 0] 76 ?_; intro gb185 hg w5 hbox hb; have BK185 := ak (hbox); have GW185 := kG w hg; have GE185 := kG w hg; replace HB := kH _ hb; have NB184_185 := kL BK184 hg; have NB185_184 := kR BK184 hg; replace BK184 := kB BK184 hb; clear hb hbox hg; have hnb6 := NB184_185.out; have hnc6 := NB185_184.out; have hcz7_0 : w5.cell? ⟨gb184, 0, none⟩ = some (.int .i64 a0_0) := bc BK184 0; have hcz7_1 : w5.cell? ⟨gb184, 1, none⟩ = some (.int .i64 a0_1) := bc BK184 1; have hfz7_0 := fz BK184 0; have hfz7_1 := fz BK184 1) | ((with_reducible refine gate_callee (f := 48) rfl ?_); refine gL 17 Try.func48 #[.int .i64 (wrap64 ((wrap64 (a1 * a0_1)) - a0_0)), .int .i64 a0_1] ?_; (with_reducible refine (curves_of.calls k (wrap64 ((wrap64 (a1 * a0_1)) - a0_0)) a0_1 t186 t187 _ A3.out).mono ?_); rintro e w8 ⟨rfl, hb⟩; refine ⟨_, rfl, ?_⟩; replace BK184 := kB BK184 hb; replace BK185 := kB BK185 hb; replace HB := kH _ hb; (try clear hb); (try clear hb2); (try clear hk); (try clear hi); have hcz9_0 : w8.cell? ⟨gb185, 0, none⟩ = some (.int .i64 0) := bc BK185 0; have hcz9_1 : w8.cell? ⟨gb185, 1, none⟩ = some (.int .i64 0) := bc BK185 1; have hfz9_0 := fz BK185 0; have hfz9_1 := fz BK185 1))
 refine bodyPost_ret (results_cell_row rfl _ _ gb185 76 #[.int .i64 t186, .int .i64 t187] (0, 0) _ rfl (by (with_reducible repeat (first | refine blk_drewN ?_ _ | refine blk_drew ?_ | refine blk_alloc ?_ _)); refine blk_put (cs := #[.int .i64 t186, .int .i64 0]) ?_ 1 _ rfl; (with_reducible repeat (first | refine blk_drewN ?_ _ | refine blk_drew ?_ | refine blk_alloc ?_ _)); refine blk_put (cs := #[.int .i64 0, .int .i64 0]) ?_ 0 _ rfl; (with_reducible repeat (first | refine blk_drewN ?_ _ | refine blk_drew ?_ | refine blk_alloc ?_ _)); exact BK185.out) Try.underlying76 rfl (by kernel_rfl)) rfl ?_
 exact ⟨by first | rfl | (simp [errW_none, errW_some] <;> rfl) | (simp [*, errW_none, errW_some] <;> rfl), hbC _⟩

/-! ### congouref04_Times: function 58 -/
def congouref04_Times.f (k : Nat) (a0_0 : Int) (a0_1 : Int) (a1_0 : Int) (a1_1 : Int) : Option (Int × Int) := (congouref04_Frac.f k (wrap64 (a0_0 * a1_0)) (wrap64 (a0_1 * a1_1))).bind fun bt423 => (some (bt423.1, bt423.2))
theorem congouref04_Times.mono : ∀ a0 a1 a2 a3 k, LeO (congouref04_Times.f k a0 a1 a2 a3) (congouref04_Times.f (k + 1) a0 a1 a2 a3) := by
 intro a0 a1 a2 a3 k
 unfold congouref04_Times.f
 repeat' first
   | (with_reducible exact congouref04_Frac.mono _ _ _)
   | (with_reducible exact LeO.refl _)
   | (with_reducible exact LeO.none _)
   | (with_reducible refine LeO.ite ?_ ?_)
   | (with_reducible refine LeO.bind ?_ (fun _ => ?_))
   | exact congouref04_Frac.mono _ _ _
   | exact LeO.none _
   | refine LeO.ite ?_ ?_
   | refine LeO.bind ?_ (fun _ => ?_)
set_option maxHeartbeats 8000000 in
set_option maxRecDepth 100000 in
theorem congouref04_Times.calls (k : Nat) (a0_0 : Int) (a0_1 : Int) (a1_0 : Int) (a1_1 : Int) (r1 : Int) (r2 : Int) (w : World) (h : congouref04_Times.f k a0_0 a0_1 a1_0 a1_1 = some (r1, r2)) :
  Calls Try.prog 58 #[.agg #[.int .i64 a0_0, .int .i64 a0_1], .agg #[.int .i64 a1_0, .int .i64 a1_1]] w fun e w' => e = .returned (.agg #[.int .i64 r1, .int .i64 r2]) ∧ Below w.heap.size w w' := by
 have hu26 := Try.underlying26
 have HB := ak (Below.refl w.heap.size w)
 have H : ((congouref04_Frac.f k (wrap64 (a0_0 * a1_0)) (wrap64 (a0_1 * a1_1))).bind fun bt423 => (some (bt423.1, bt423.2))) = some (r1, r2) := h
 clear h
 replace H := Option.bind_eq_some_iff.mp H
 obtain ⟨⟨t423, t424⟩, A30, H⟩ := H
 replace H : (some (t423, t424)) = some (r1, r2) := H
 have A3 := Aside0.mk A30
 clear A30
 simp only [Option.some.injEq, Prod.mk.injEq] at H
 obtain ⟨rfl, rfl⟩ := H
 go_enter Try.func58, Try.ntmps58
 go_wp2_with (first | ((with_reducible refine gate_dst (N := 2) rfl ?_); refine bE 2 #[.int .i64 a0_0, .int .i64 a0_1] 26 ?_; intro gb420 hg w4 hbox hb; have BK420 := ak (hbox); have GW420 := kG w hg; have GE420 := kG w hg; replace HB := kH _ hb; clear hb hbox hg) | ((with_reducible refine gate_dst (N := 3) rfl ?_); refine bE 3 #[.int .i64 a1_0, .int .i64 a1_1] 26 ?_; intro gb421 hg w5 hbox hb; have BK421 := ak (hbox); have GW421 := kG w hg; have GE421 := kG w hg; replace HB := kH _ hb; have NB420_421 := kL BK420 hg; have NB421_420 := kR BK420 hg; replace BK420 := kB BK420 hb; clear hb hbox hg) | ((with_reducible refine gate_dst (N := 4) rfl ?_); refine bE 4 #[.int .i64 0, .int .i64 0] 26 ?_; intro gb422 hg w6 hbox hb; have BK422 := ak (hbox); have GW422 := kG w hg; have GE422 := kG w hg; replace HB := kH _ hb; have NB420_422 := kL BK420 hg; have NB422_420 := kR BK420 hg; replace BK420 := kB BK420 hb; have NB421_422 := kL BK421 hg; have NB422_421 := kR BK421 hg; replace BK421 := kB BK421 hb; clear hb hbox hg; have hnb7 := NB420_421.out; have hnc7 := NB421_420.out; have hnb8 := NB420_422.out; have hnc8 := NB422_420.out; have hcz9_0 : w6.cell? ⟨gb420, 0, none⟩ = some (.int .i64 a0_0) := bc BK420 0; have hcz9_1 : w6.cell? ⟨gb420, 1, none⟩ = some (.int .i64 a0_1) := bc BK420 1; have hfz9_0 := fz BK420 0; have hfz9_1 := fz BK420 1; have hnb10 := NB421_422.out; have hnc10 := NB422_421.out; have hcz11_0 : w6.cell? ⟨gb421, 0, none⟩ = some (.int .i64 a1_0) := bc BK421 0; have hcz11_1 : w6.cell? ⟨gb421, 1, none⟩ = some (.int .i64 a1_1) := bc BK421 1; have hfz11_0 := fz BK421 0; have hfz11_1 := fz BK421 1) | ((with_reducible refine gate_callee (f := 33) rfl ?_); refine gL 15 Try.func33 #[.int .i64 (wrap64 (a0_0 * a1_0)), .int .i64 (wrap64 (a0_1 * a1_1))] ?_; (with_reducible refine (congouref04_Frac.calls k (wrap64 (a0_0 * a1_0)) (wrap64 (a0_1 * a1_1)) t423 t424 _ A3.out).mono ?_); rintro e w12 ⟨rfl, hb⟩; refine ⟨_, rfl, ?_⟩; replace BK420 := kB BK420 hb; replace BK421 := kB BK421 hb; replace BK422 := kB BK422 hb; replace HB := kH _ hb; (try clear hb); (try clear hb2); (try clear hk); (try clear hi); have hcz13_0 : w12.cell? ⟨gb422, 0, none⟩ = some (.int .i64 0) := bc BK422 0; have hcz13_1 : w12.cell? ⟨gb422, 1, none⟩ = some (.int .i64 0) := bc BK422 1; have hfz13_0 := fz BK422 0; have hfz13_1 := fz BK422 1))
 refine bodyPost_ret (results_cell_row rfl _ _ gb422 26 #[.int .i64 t423, .int .i64 t424] (0, 0) _ rfl (by (with_reducible repeat (first | refine blk_drewN ?_ _ | refine blk_drew ?_ | refine blk_alloc ?_ _)); refine blk_put (cs := #[.int .i64 t423, .int .i64 0]) ?_ 1 _ rfl; (with_reducible repeat (first | refine blk_drewN ?_ _ | refine blk_drew ?_ | refine blk_alloc ?_ _)); refine blk_put (cs := #[.int .i64 0, .int .i64 0]) ?_ 0 _ rfl; (with_reducible repeat (first | refine blk_drewN ?_ _ | refine blk_drew ?_ | refine blk_alloc ?_ _)); exact BK422.out) Try.underlying26 rfl (by kernel_rfl)) rfl ?_
 exact ⟨by first | rfl | (simp [errW_none, errW_some] <;> rfl) | (simp [*, errW_none, errW_some] <;> rfl), hbC _⟩

/-! ### slices_ContainsFunc_int_int_with60: function 59 -/
def slices_ContainsFunc_int_int_with60.f (k : Nat) (l0 : List Int)  : Option (Bool) := (slices_IndexFunc_int_int_with60.f k l0).bind fun t537 => (some (decide (t537 ≥ 0)))
theorem slices_ContainsFunc_int_int_with60.mono : ∀ a0 k, LeO (slices_ContainsFunc_int_int_with60.f k a0) (slices_ContainsFunc_int_int_with60.f (k + 1) a0) := by
 intro a0 k
 unfold slices_ContainsFunc_int_int_with60.f
 repeat' first
   | (with_reducible exact slices_IndexFunc_int_int_with60.mono _ _)
   | (with_reducible exact LeO.refl _)
   | (with_reducible exact LeO.none _)
   | (with_reducible refine LeO.ite ?_ ?_)
   | (with_reducible refine LeO.bind ?_ (fun _ => ?_))
   | exact slices_IndexFunc_int_int_with60.mono _ _
   | exact LeO.none _
   | refine LeO.ite ?_ ?_
   | refine LeO.bind ?_ (fun _ => ?_)
set_option maxHeartbeats 8000000 in
set_option maxRecDepth 100000 in
theorem slices_ContainsFunc_int_int_with60.calls (k : Nat) (A0 : Option Addr) (c0 : Nat) (l0 : List Int)  (r : Bool) (w : World) (hr0 : Kd.C (Kd.int .i64) w A0 l0.length l0) (hc0 : l0.length ≤ c0) (h : slices_ContainsFunc_int_int_with60.f k l0 = some r) :
  Calls Try.prog 59 #[.slice A0 l0.length c0, .func (.func 60) #[] #[]] w fun e w' => e = .returned (.bool r) ∧ Drawn0 w w' := by
 have HR0 := Aside0.mk hr0
 have HC0 := Aside0.mk hc0
 clear hr0 hc0
 have H : ((slices_IndexFunc_int_int_with60.f k l0).bind fun t537 => (some (decide (t537 ≥ 0)))) = some r := h
 clear h
 replace H := Option.bind_eq_some_iff.mp H
 obtain ⟨t537, A30, H⟩ := H
 replace H : (some (decide (t537 ≥ 0))) = some r := H
 have A3 := Aside0.mk A30
 clear A30
 obtain rfl := Option.some.inj H
 go_enter Try.func59, Try.ntmps59
 go_wp2_with (first | ((with_reducible refine gate_callee (f := 73) rfl ?_); refine gL 7 Try.func73 #[.slice A0 l0.length c0, .func (.func 60) #[] #[]] ?_; (with_reducible refine (slices_IndexFunc_int_int_with60.calls k _ _ l0 t537 _ ?side1 ?side2 A3.out).mono ?_); (case side1 => repeat (first | exact HR0.out | (with_reducible refine Kd.C_alloc ?_ _) | (with_reducible refine Kd.C_drewN ?_ _) | (with_reducible refine Kd.C_drew ?_))); (case side2 => exact HC0.out); rintro e w' ⟨rfl, ⟨nd, rfl⟩⟩; refine ⟨_, rfl, ?_⟩))
 go_ret
 exact ⟨by first | rfl | (simp; done) | (simp [*]; done), by repeat (first | exact Drawn0.refl _ | apply Drawn0.step)⟩

/-! ### congouref04_Means: function 43 -/
mutual
def congouref04_Means.l0 : Nat → List (S26) → Int → Int → Int → List Int → List Int → Option ((List (S26)))
 | 0, _, _, _, _, _, _ => none
 | k + 1, x3, x10, x11, x914000, x914001, x914002 => if x11 < x10 then (if 0 ≤ (wrap64 (x11 + 1)) then (if (wrap64 (x11 + 1)) ≤ (wrap64 ((wrap64 (x11 + 1)) + x914000)) then (if (wrap64 ((wrap64 (x11 + 1)) + x914000)) ≤ (x914001.length : Int) then (congouref04_Means.l1 k x3 0 x10 x11 ((x914001.take ((wrap64 ((wrap64 (x11 + 1)) + x914000)) : Int).toNat).drop ((wrap64 (x11 + 1)) : Int).toNat) (((x914001.take ((wrap64 ((wrap64 (x11 + 1)) + x914000)) : Int).toNat).drop ((wrap64 (x11 + 1)) : Int).toNat).length : Int) 0 x914000 x914001 x914002) else (none)) else (none)) else (none)) else (some x3)
def congouref04_Means.l1 : Nat → List (S26) → Int → Int → Int → List Int → Int → Int → Int → List Int → List Int → Option ((List (S26)))
 | 0, _, _, _, _, _, _, _, _, _, _ => none
 | k + 1, x3, x5, x10, x11, x23, x24, x25, x914000, x914001, x914002 => if x25 < x24 then (if 0 ≤ x25 then (if x25 < (x23.length : Int) then (congouref04_Means.l1 k x3 (wrap64 (x5 + (rd x23 x25))) x10 x11 x23 x24 (wrap64 (x25 + 1)) x914000 x914001 x914002) else (none)) else (none)) else ((congouref04_Frac.f k x5 x914000).bind fun bt916 => (if x3.length < 8796093022208 then (congouref04_Means.l0 k (x3 ++ [(⟨bt916.1, bt916.2⟩ : S26)]) x10 (wrap64 (x11 + 1)) x914000 x914001 x914002) else (none)))
end
def congouref04_Means.f (k : Nat) (a0_0 : Int) (l0_1 : List Int) (l0_2 : List Int) : Option ((List (S26))) := congouref04_Means.l0 k ([] : List (S26)) (l0_2.length : Int) 0 a0_0 l0_1 l0_2
theorem congouref04_Means.mono_l : ∀ k, (∀ y0 y1 y2 y3 y4 y5, LeO (congouref04_Means.l0 k y0 y1 y2 y3 y4 y5) (congouref04_Means.l0 (k + 1) y0 y1 y2 y3 y4 y5)) ∧ (∀ y0 y1 y2 y3 y4 y5 y6 y7 y8 y9, LeO (congouref04_Means.l1 k y0 y1 y2 y3 y4 y5 y6 y7 y8 y9) (congouref04_Means.l1 (k + 1) y0 y1 y2 y3 y4 y5 y6 y7 y8 y9))
 | 0 => ⟨fun _ _ _ _ _ _ r h => by simp [congouref04_Means.l0] at h, fun _ _ _ _ _ _ _ _ _ _ r h => by simp [congouref04_Means.l1] at h⟩
 | k + 1 => by
  obtain ⟨ih0, ih1⟩ := congouref04_Means.mono_l k
  refine ⟨?_, ?_⟩
  ·intro y0 y1 y2 y3 y4 y5
   unfold congouref04_Means.l0
   repeat' first
   | (with_reducible exact ih0 _ _ _ _ _ _)
   | (with_reducible exact ih1 _ _ _ _ _ _ _ _ _ _)
   | (with_reducible exact congouref04_Frac.mono _ _ _)
   | (with_reducible exact LeO.refl _)
   | (with_reducible exact LeO.none _)
   | (with_reducible refine LeO.ite ?_ ?_)
   | (with_reducible refine LeO.bind ?_ (fun _ => ?_))
   | exact ih0 _ _ _ _ _ _
   | exact ih1 _ _ _ _ _ _ _ _ _ _
   | exact congouref04_Frac.mono _ _ _
   | exact LeO.none _
   | refine LeO.ite ?_ ?_
   | refine LeO.bind ?_ (fun _ => ?_)
  ·intro y0 y1 y2 y3 y4 y5 y6 y7 y8 y9
   unfold congouref04_Means.l1
   repeat' first
   | (with_reducible exact ih0 _ _ _ _ _ _)
   | (with_reducible exact ih1 _ _ _ _ _ _ _ _ _ _)
   | (with_reducible exact congouref04_Frac.mono _ _ _)
   | (with_reducible exact LeO.refl _)
   | (with_reducible exact LeO.none _)
   | (with_reducible refine LeO.ite ?_ ?_)
   | (with_reducible refine LeO.bind ?_ (fun _ => ?_))
   | exact ih0 _ _ _ _ _ _
   | exact ih1 _ _ _ _ _ _ _ _ _ _
   | exact congouref04_Frac.mono _ _ _
   | exact LeO.none _
   | refine LeO.ite ?_ ?_
   | refine LeO.bind ?_ (fun _ => ?_)
theorem congouref04_Means.mono : ∀ a0 a1 a2 k, LeO (congouref04_Means.f k a0 a1 a2) (congouref04_Means.f (k + 1) a0 a1 a2) := by
 intro a0 a1 a2 k
 obtain ⟨ih0, ih1⟩ := congouref04_Means.mono_l k
 unfold congouref04_Means.f
 repeat' first
   | (with_reducible exact ih0 _ _ _ _ _ _)
   | (with_reducible exact ih1 _ _ _ _ _ _ _ _ _ _)
   | (with_reducible exact congouref04_Frac.mono _ _ _)
   | (with_reducible exact LeO.refl _)
   | (with_reducible exact LeO.none _)
   | (with_reducible refine LeO.ite ?_ ?_)
   | (with_reducible refine LeO.bind ?_ (fun _ => ?_))
   | exact ih0 _ _ _ _ _ _
   | exact ih1 _ _ _ _ _ _ _ _ _ _
   | exact congouref04_Frac.mono _ _ _
   | exact LeO.none _
   | refine LeO.ite ?_ ?_
   | refine LeO.bind ?_ (fun _ => ?_)
set_option maxHeartbeats 8000000 in
set_option maxRecDepth 100000 in
theorem congouref04_Means.calls (k : Nat) (a0_0 : Int) (A0_1 : Option Addr) (c0_1 : Nat) (l0_1 : List Int) (A0_2 : Option Addr) (c0_2 : Nat) (l0_2 : List Int) (r : List (S26)) (w : World) (hr0_1 : Kd.C (Kd.int .i64) w A0_1 l0_1.length l0_1) (hc0_1 : l0_1.length ≤ c0_1) (hr0_2 : Kd.C (Kd.int .i64) w A0_2 l0_2.length l0_2) (hc0_2 : l0_2.length ≤ c0_2) (h : congouref04_Means.f k a0_0 l0_1 l0_2 = some r) :
  Calls Try.prog 43 #[.agg #[.int .i64 a0_0, .slice A0_1 l0_1.length c0_1, .slice A0_2 l0_2.length c0_2]] w fun e w' => ∃ v0_ : Value, e = .returned (v0_) ∧ Kd.R k26 26 w' w.heap.size (fun _ => True) v0_ r ∧ Below w.heap.size w w' := by
 have hu24 := Try.underlying24
 have HR0_1 := Aside0.mk hr0_1
 have HC0_1 := Aside0.mk hc0_1
 clear hr0_1 hc0_1
 have HR0_2 := Aside0.mk hr0_2
 have HC0_2 := Aside0.mk hc0_2
 clear hr0_2 hc0_2
 have HB := ak (Below.refl w.heap.size w)
 have H : (congouref04_Means.l0 k ([] : List (S26)) (l0_2.length : Int) 0 a0_0 l0_1 l0_2) = some r := h
 clear h
 have H' := Aside0.mk H
 clear H
 go_enter Try.func43, Try.ntmps43
 go_wp2_with (first | ((with_reducible refine gate_dst (N := 1) rfl ?_); refine bE 1 #[.int .i64 a0_0, .slice A0_1 l0_1.length c0_1, .slice A0_2 l0_2.length c0_2] 24 ?_; intro gb913 hg w2 hbox hb; have BK913 := ak (hbox); have GW913 := kG w hg; have GE913 := kG w hg; replace HB := kH _ hb; clear hb hbox hg; have hcz3_0 : w2.cell? ⟨gb913, 0, none⟩ = some (.int .i64 a0_0) := bc BK913 0; have hcz3_1 : w2.cell? ⟨gb913, 1, none⟩ = some (.slice A0_1 l0_1.length c0_1) := bc BK913 1; have hcz3_2 : w2.cell? ⟨gb913, 2, none⟩ = some (.slice A0_2 l0_2.length c0_2) := bc BK913 2; have hfz3_0 := fz BK913 0; have hfz3_1 := fz BK913 1; have hfz3_2 := fz BK913 2))
 go_loopg [3, 11] k (fun kq v3 v11 w' => ∃ (x3_1 : List (S26)) (x11_1 : Int), v11 = .int .i64 x11_1 ∧ Aside0 (congouref04_Means.l0 kq x3_1 (l0_2.length : Int) x11_1 a0_0 l0_1 l0_2 = some r) ∧ Aside0 (kq ≤ k) ∧ Aside0 (Kd.R k26 26 w' w.heap.size (fun _ => True) v3 x3_1) ∧ Aside0 (w'.heap[gb913]? = some (.cells #[.int .i64 a0_0, (.slice A0_1 l0_1.length c0_1), (.slice A0_2 l0_2.length c0_2)] 24 (0, 0))) ∧ Aside0 (Below w.heap.size w w'))
 case atStart => exact ⟨(([] : List (S26))), (0), (by first | rfl | (simp; done) | (simp [*]; done)), H', ⟨Nat.le_refl _⟩, ⟨by first | exact Kd.R_nil _ _ _ _ _ | exact Kd.N_nil _ _ _ _ _ | exact Kd.V_nil _ _ _ _ _ | exact Kd.Q_nil _ _ _ _ _ | exact Kd.S_nil _ _ _ _ _⟩, ⟨bkC BK913⟩, ⟨hbC _⟩⟩
 case round =>
  clear H'
  try clear p2
  try clear hcz3_0
  try clear hcz3_1
  try clear hcz3_2
  try clear hfz3_0
  try clear hfz3_1
  try clear hfz3_2
  obtain ⟨x3_1, x11_1, rfl, HA, HK1, HO_3, BK913, HB⟩ := hrel
  cases gk with
  | zero => exact absurd HA.out (by simp [congouref04_Means.l0])
  | succ k1 =>
   have H := HA.out
   clear HA
   simp only [congouref04_Means.l0] at H
   by_cases c4 : x11_1 < (l0_2.length : Int)
   rotate_left
   ·rw [if_neg c4] at H
    have c4b0 : decide (x11_1 < (l0_2.length : Int)) = false := decide_eq_false c4
    clear c4
    obtain rfl := Option.some.inj H
    go_wp2
    go_ret
    exact ⟨_, by first | rfl | (simp [errW_none, errW_some] <;> rfl) | (simp [*, errW_none, errW_some] <;> rfl), rC HO_3, hbC _⟩
   rw [if_pos c4] at H
   have c4b0 : decide (x11_1 < (l0_2.length : Int)) = true := decide_eq_true c4
   clear c4
   obtain ⟨ji5, hji5⟩ : ∃ j_ : Int, (wrap64 (x11_1 + 1)) = j_ := ⟨_, rfl⟩
   replace H : (if 0 ≤ (ji5) then (if (ji5) ≤ (wrap64 ((ji5) + a0_0)) then (if (wrap64 ((ji5) + a0_0)) ≤ (l0_1.length : Int) then (congouref04_Means.l1 k1 x3_1 0 (l0_2.length : Int) x11_1 ((l0_1.take ((wrap64 ((ji5) + a0_0)) : Int).toNat).drop ((ji5) : Int).toNat) (((l0_1.take ((wrap64 ((ji5) + a0_0)) : Int).toNat).drop ((ji5) : Int).toNat).length : Int) 0 a0_0 l0_1 l0_2) else (none)) else (none)) else (none)) = some r := by first | (rw [hji5] at H; exact H) | (simp only [hji5] at H ⊢; exact H)
   have hji5w : (IntKind.i64.wrap (x11_1 + 1)) = ji5 := (i64_w _).trans hji5
   by_cases c6 : 0 ≤ (ji5)
   rotate_left
   ·rw [if_neg c6] at H
    exact absurd H (by simp)
   rw [if_pos c6] at H
   have c6b0 := eq_true c6
   have c6b1 : decide (0 ≤ (ji5)) = true := decide_eq_true c6
   clear c6
   by_cases c7 : (ji5) ≤ (wrap64 ((ji5) + a0_0))
   rotate_left
   ·rw [if_neg c7] at H
    exact absurd H (by simp)
   rw [if_pos c7] at H
   have c7b0 := eq_true c7
   have c7b1 : decide ((ji5) ≤ (wrap64 ((ji5) + a0_0))) = true := decide_eq_true c7
   by_cases c8 : (wrap64 ((ji5) + a0_0)) ≤ (l0_1.length : Int)
   rotate_left
   ·rw [if_neg c8] at H
    exact absurd H (by simp)
   rw [if_pos c8] at H
   have c8b0 := eq_true c8
   have c8b1 : decide ((wrap64 ((ji5) + a0_0)) ≤ (l0_1.length : Int)) = true := decide_eq_true c8
   have H' := Aside0.mk H
   clear H
   have hcz9_0 : wr.cell? ⟨gb913, 0, none⟩ = some (.int .i64 a0_0) := bc BK913 0
   have hcz9_1 : wr.cell? ⟨gb913, 1, none⟩ = some (.slice A0_1 l0_1.length c0_1) := bc BK913 1
   have hcz9_2 : wr.cell? ⟨gb913, 2, none⟩ = some (.slice A0_2 l0_2.length c0_2) := bc BK913 2
   have hfz9_0 := fz BK913 0
   have hfz9_1 := fz BK913 1
   have hfz9_2 := fz BK913 2
   obtain ⟨i010, hi010, _, hsz10, _⟩ := info_parts info3
   obtain ⟨A10, hcut10, hA10, hC10⟩ := print_mid_of (P := Try.prog) (Value.int .i64) 0 22 3 .i64 .i64 Try.underlying22 hi010 hsz10 A0_1 c0_1 l0_1 (ji5) (wrap64 ((ji5) + a0_0)) (dA) (by first | omega | exact dA) (dA) HC0_1.out
   have HR914 := ak (Kd.C_of_reads (h1 := fun _ => rfl) (hA10 _ (Kd.reads_of_C HR0_1.out)))
   have HC914 := Aside0.mk hC10
   clear hA10 hC10 hi010 hsz10
   go_wp2
   have hmin9_ : (wrap64 ((ji5) + a0_0) : Int).toNat ≤ l0_1.length := by omega
   go_loopg [5, 25] k1 (fun kq v5 v25 w' => ∃ (x5_2 : Int) (x25_2 : Int), v5 = .int .i64 x5_2 ∧ v25 = .int .i64 x25_2 ∧ Aside0 (congouref04_Means.l1 kq x3_1 x5_2 (l0_2.length : Int) x11_1 ((l0_1.take ((wrap64 ((ji5) + a0_0)) : Int).toNat).drop ((ji5) : Int).toNat) (((l0_1.take ((wrap64 ((ji5) + a0_0)) : Int).toNat).drop ((ji5) : Int).toNat).length : Int) x25_2 a0_0 l0_1 l0_2 = some r) ∧ Aside0 (kq ≤ k1) ∧ Aside0 (Kd.R k26 26 w' w.heap.size (fun _ => True) u3 x3_1) ∧ Aside0 (w'.heap[gb913]? = some (.cells #[.int .i64 a0_0, (.slice A0_1 l0_1.length c0_1), (.slice A0_2 l0_2.length c0_2)] 24 (0, 0))) ∧ Aside0 (Below w.heap.size w w'))
   case atStart => exact ⟨(0), (0), (by first | rfl | (simp; done) | (simp [*]; done)), (by first | rfl | (simp; done) | (simp [*]; done)), H', ⟨Nat.le_refl _⟩, ⟨rC HO_3⟩, ⟨bkC BK913⟩, ⟨hbC _⟩⟩
   case round =>
    clear H'
    try clear p2
    try clear c4
    try clear c4b0
    try clear c6
    try clear c6b0
    try clear c6b1
    try clear p6
    try clear c7
    try clear c7b0
    try clear c7b1
    try clear c8
    try clear c8b0
    try clear c8b1
    try clear hcz3_0
    try clear hcz3_1
    try clear hcz3_2
    try clear hcz9_0
    try clear hcz9_1
    try clear hcz9_2
    try clear hfz3_0
    try clear hfz3_1
    try clear hfz3_2
    try clear hfz9_0
    try clear hfz9_1
    try clear hfz9_2
    try clear p2
    obtain ⟨x5_2, x25_2, rfl, rfl, HA, HK2, HO_3, BK913, HB⟩ := hrel
    cases gk with
    | zero => exact absurd HA.out (by simp [congouref04_Means.l1])
    | succ k2 =>
     have H := HA.out
     clear HA
     simp only [congouref04_Means.l1] at H
     by_cases c11 : x25_2 < (((l0_1.take ((wrap64 ((ji5) + a0_0)) : Int).toNat).drop ((ji5) : Int).toNat).length : Int)
     ·rw [if_pos c11] at H
      have c11b0 : decide (x25_2 < (((l0_1.take ((wrap64 ((ji5) + a0_0)) : Int).toNat).drop ((ji5) : Int).toNat).length : Int)) = true := decide_eq_true c11
      have c11b0z := c11b0
      rw [List.length_drop, List.length_take, Nat.min_eq_left hmin9_] at c11b0z
      clear c11
      by_cases c12 : 0 ≤ x25_2
      rotate_left
      ·rw [if_neg c12] at H
       exact absurd H (by simp)
      rw [if_pos c12] at H
      have c12b0 : decide (0 ≤ x25_2) = true := decide_eq_true c12
      clear c12
      by_cases c13 : x25_2 < (((l0_1.take ((wrap64 ((ji5) + a0_0)) : Int).toNat).drop ((ji5) : Int).toNat).length : Int)
      rotate_left
      ·rw [if_neg c13] at H
       exact absurd H (by simp)
      rw [if_pos c13] at H
      have c13b0 : decide (x25_2 < (((l0_1.take ((wrap64 ((ji5) + a0_0)) : Int).toNat).drop ((ji5) : Int).toNat).length : Int)) = true := decide_eq_true c13
      have c13b0z := c13b0
      rw [List.length_drop, List.length_take, Nat.min_eq_left hmin9_] at c13b0z
      clear c13
      have H' := Aside0.mk H
      clear H
      have p915 : 0 ≤ (x25_2 : Int) := dA
      have q915 : x25_2 < (((l0_1.take ((wrap64 ((ji5) + a0_0)) : Int).toNat).drop ((ji5) : Int).toNat).length : Int) := dA
      have q915z := q915
      rw [List.length_drop, List.length_take, Nat.min_eq_left hmin9_] at q915z
      obtain ⟨ad915, e915, hx915_0⟩ := Kd.at_int HR914.out x25_2 p915 q915
      cases e915
      try replace hx915_0 := (HB.out.cell (World.block_lt_of_cell? w _ hx915_0)).trans hx915_0
      replace p915 := eq_true p915
      replace q915 := eq_true q915
      go_wp2
      go_roundg k2
      case measure => have := HK1.out; have := HK2.out; omega
      case rel => exact ⟨(wrap64 (x5_2 + (rd ((l0_1.take ((wrap64 ((ji5) + a0_0)) : Int).toNat).drop ((ji5) : Int).toNat) x25_2))), (wrap64 (x25_2 + 1)), (by first | rfl | (simp; done) | (simp only [← hji5] <;> (first | rfl | simp)) | (simp [*]; done)), (by first | rfl | (simp; done) | (simp [*]; done)), H', ⟨by have := HK1.out; have := HK2.out; omega⟩, ⟨rC HO_3⟩, ⟨bkC BK913⟩, ⟨hbC _⟩⟩
     rw [if_neg c11] at H
     have c11b0 : decide (x25_2 < (((l0_1.take ((wrap64 ((ji5) + a0_0)) : Int).toNat).drop ((ji5) : Int).toNat).length : Int)) = false := decide_eq_false c11
     have c11b0z := c11b0
     rw [List.length_drop, List.length_take, Nat.min_eq_left hmin9_] at c11b0z
     clear c11
     replace H := Option.bind_eq_some_iff.mp H
     obtain ⟨⟨t916, t917⟩, A140, H⟩ := H
     replace H : (if x3_1.length < 8796093022208 then (congouref04_Means.l0 k2 (x3_1 ++ [(⟨t916, t917⟩ : S26)]) (l0_2.length : Int) (wrap64 (x11_1 + 1)) a0_0 l0_1 l0_2) else (none)) = some r := H
     have A14 := Aside0.mk A140
     clear A140
     by_cases c15 : x3_1.length < 8796093022208
     rotate_left
     ·rw [if_neg c15] at H
      exact absurd H (by simp)
     rw [if_pos c15] at H
     have LMc15 := Aside0.mk c15
     clear c15
     obtain ⟨y918, hy918⟩ : ∃ y_ : List (S26), y_ = (x3_1 ++ [(⟨t916, t917⟩ : S26)]) := ⟨_, rfl⟩
     replace H : (congouref04_Means.l0 k2 y918 (l0_2.length : Int) (wrap64 (x11_1 + 1)) a0_0 l0_1 l0_2) = some r := by first | (rw [hy918]; with_reducible exact H) | (have H2_ := (Option.bind_some _ _).symm.trans H; rw [hy918]; with_reducible exact H2_) | (have H2_ := (Option.bind_some _ _).symm.trans H; with_reducible exact H2_) | with_reducible exact H | (rw [hy918]; exact H) | exact H
     have Ny918 := Aside0.mk hy918
     clear hy918
     have H' := Aside0.mk H
     clear H
     have hcz16_0 : wr.cell? ⟨gb913, 0, none⟩ = some (.int .i64 a0_0) := bc BK913 0
     have hcz16_1 : wr.cell? ⟨gb913, 1, none⟩ = some (.slice A0_1 l0_1.length c0_1) := bc BK913 1
     have hcz16_2 : wr.cell? ⟨gb913, 2, none⟩ = some (.slice A0_2 l0_2.length c0_2) := bc BK913 2
     have hfz16_0 := fz BK913 0
     have hfz16_1 := fz BK913 1
     have hfz16_2 := fz BK913 2
     go_wp2_with (first | ((with_reducible refine gate_callee (f := 33) rfl ?_); refine gL 37 Try.func33 #[.int .i64 x5_2, .int .i64 a0_0] ?_; (with_reducible refine (congouref04_Frac.calls k2 x5_2 a0_0 t916 t917 _ A14.out).mono ?_); rintro e w17 ⟨rfl, hb⟩; refine ⟨_, rfl, ?_⟩; replace HO_3 := kO HO_3 hb; replace BK913 := kB BK913 hb; replace HB := kH _ hb; (try clear hb); (try clear hb2); (try clear hk); (try clear hi)) | ((with_reducible refine gate_builtin (b := .append) (xs := #[.tmp 33, .tmp 38]) rfl ?_); at_builtin; refine Kd.R_append k26 (w0 := w) w.heap.size rfl (.tmp 33) (.tmp 38) 34 26 (.agg #[(.int .i64 0), (.int .i64 0)]) 16 rfl Try.underlying34 info26 rfl (by decide) (by omega) u3 x3_1 (⟨t916, t917⟩ : S26) [.int .i64 t916, .int .i64 t917] (fun _ => True) (fun _ => False) rfl rfl ?aP (fun _ hk => hk.elim) ?aF ?aO ?aB ?aS ?aL ?_; (case aP => exact k26_mkM _ _ _ (⟨t916, t917⟩ : S26)); (case aB => exact (hbC _)); (case aF => exact (fun _ _ => trivial)); (case aO => exact (rC HO_3)); (case aS => exact (below_size (hbC _))); (case aL => have := LMc15.out; omega); intro v919 w18 ho hb hg hat; rw [← Ny918.out] at ho; have n0_ := ak (blk_grown (g := gb913) (o := .cells #[.int .i64 a0_0, .slice A0_1 l0_1.length c0_1, .slice A0_2 l0_2.length c0_2] 24 (0, 0)) (bkC BK913) hg (Kd.R_ne HO_3.out BK913.out (by decide))); have n1_ := ak (hb); have n2_ := ak (ho); clear BK913; clear HB; clear HO_3; have BK913 := n0_; have HB := n1_; have HO920 := n2_; clear n0_ n1_ n2_; clear ho hb hg hat))
     go_roundg k2
     case measure => have := HK1.out; have := HK2.out; omega
     case rel => exact ⟨(y918), (wrap64 (x11_1 + 1)), (by first | rfl | (simp; done) | (simp [*]; done)), H', ⟨by have := HK1.out; have := HK2.out; omega⟩, ⟨rC HO920⟩, ⟨bkC BK913⟩, ⟨hbC _⟩⟩

end Go.Proofs.Ytpnocmkpeogifaa.X
