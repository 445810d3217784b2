-- Written by a program of this work (wip/xprint.py, over the kit's printer) out of the translation.
import Derived.Test.YtpnocmkpeogifaaDoorX0
import Derived.Test.YtpnocmkpeogifaaDoorXG1a
namespace Go.Proofs.YtpnocmkpeogifaaDoor.X
open Go.RowKit Go.Proofs.YtpnocmkpeogifaaDoorW.PrintWords Go.Proofs.YtpnocmkpeogifaaDoorW.PrintLast Go.Proofs.YtpnocmkpeogifaaDoorW.PrintMore
attribute [local go_sem] max2_int min2_int max_two min_two max_three min_three max_four min_four   -- for this text's walks alone
set_option linter.unusedVariables false
set_option linter.unusedSimpArgs false

/-! ### congoulaw04_list: function 20 -/
def congoulaw04_list.f (l0 : List Int) : Option (List Int) := if 0 ≤ (mn (l0.length : Int) 23) then (if (mn (l0.length : Int) 23) ≤ (l0.length : Int) then ((slices_Clone_int_int.f (l0.take ((mn (l0.length : Int) 23) : Int).toNat)).bind fun t108 => (some t108)) else (none)) else (none)
set_option maxHeartbeats 8000000 in
set_option maxRecDepth 100000 in
theorem congoulaw04_list.calls (A0 : Option Addr) (c0 : Nat) (l0 : List Int) (r : List Int) (w : World) (hr0 : Kd.C (Kd.int .i64) w A0 l0.length l0) (hc0 : l0.length ≤ c0) (h : congoulaw04_list.f l0 = some r) :
  Calls Tryd.prog 20 #[.slice A0 l0.length c0] w fun e w' => ∃ v0_ : Value, e = .returned (v0_) ∧ Kd.R (Kd.int .i64) 3 w' w.heap.size (fun _ => True) v0_ r ∧ Below w.heap.size w w' := by
 have HR0 := Aside0.mk hr0
 have HC0 := Aside0.mk hc0
 clear hr0 hc0
 have HB := ak (Below.refl w.heap.size w)
 have H : (if 0 ≤ (mn (l0.length : Int) 23) then (if (mn (l0.length : Int) 23) ≤ (l0.length : Int) then ((slices_Clone_int_int.f (l0.take ((mn (l0.length : Int) 23) : Int).toNat)).bind fun t108 => (some t108)) else (none)) else (none)) = some r := h
 clear h
 obtain ⟨ji2, hji2⟩ : ∃ j_ : Int, (mn (l0.length : Int) 23) = j_ := ⟨_, rfl⟩
 replace H : (if 0 ≤ (ji2) then (if (ji2) ≤ (l0.length : Int) then ((slices_Clone_int_int.f (l0.take ((ji2) : Int).toNat)).bind fun t108 => (some t108)) else (none)) else (none)) = some r := by first | (rw [hji2] at H; exact H) | (simp only [hji2] at H ⊢; exact H)
 (try (have hji2h : ji2 ≤ 23 := by (rw [← hji2]; unfold mn; (repeat' split) <;> omega)))
 (try (have hji2g : ji2 ≤ 64 := by omega))
 (try (have hji2l : 0 ≤ ji2 := by (rw [← hji2]; unfold mn; (repeat' split) <;> omega)))
 (try (have hji2m : 0 ≤ ji2 := by omega))
 have hji2_ : (if 23 < (l0.length : Int) then 23 else (l0.length : Int)) = ji2 := hji2
 by_cases c3 : 0 ≤ (ji2)
 rotate_left
 ·rw [if_neg c3] at H
  exact absurd H (by simp)
 rw [if_pos c3] at H
 have c3b0 := eq_true c3
 have c3b1 : decide (0 ≤ (ji2)) = true := decide_eq_true c3
 clear c3
 by_cases c4 : (ji2) ≤ (l0.length : Int)
 rotate_left
 ·rw [if_neg c4] at H
  exact absurd H (by simp)
 rw [if_pos c4] at H
 have c4b0 := eq_true c4
 have c4b1 : decide ((ji2) ≤ (l0.length : Int)) = true := decide_eq_true c4
 clear c4
 replace H := Option.bind_eq_some_iff.mp H
 obtain ⟨t108, A50, H⟩ := H
 replace H : (some t108) = some r := H
 have A5 := Aside0.mk A50
 clear A50
 obtain rfl := Option.some.inj H
 obtain ⟨i06, hi06, _, hsz6, _⟩ := info_parts info3
 obtain ⟨hcut6, hA6, hC6⟩ := print_take_of (P := Tryd.prog) (Value.int .i64) 0 22 3 .i64 Tryd.underlying22 hi06 hsz6 A0 c0 l0 (ji2) (dA) (dA) HC0.out
 have HR107 := ak (Kd.C_of_reads (h1 := fun _ => rfl) (hA6 _ (Kd.reads_of_C HR0.out)))
 have HC107 := Aside0.mk hC6
 clear hA6 hC6 hi06 hsz6
 go_enter Tryd.func20, Tryd.ntmps20
 go_wp2_with (first | ((with_reducible refine gate_callee (f := 25) rfl ?_); refine goesL_ (some 8) rfl rfl Tryd.func25 (by kernel_rfl) rfl #[.slice A0 (l0.take ((ji2) : Int).toNat).length c0] rfl (by (try simp only [List.map_toArray, List.map_cons, List.map_nil]); first | done | (rw [show (l0.take ((ji2) : Int).toNat).length = (ji2).toNat from (by rw [List.length_take]; have h_ : ((ji2) : Int) ≤ (l0.length : Int) := dA; omega)] <;> rfl) | (simp only [hji2]; rfl) | rfl | (simp only [List.length_drop, List.length_take]; rfl)) ?_; (with_reducible refine (slices_Clone_int_int.calls _ _ (l0.take ((ji2) : Int).toNat) t108 _ ?side1 ?side2 A5.out).mono ?_); (case side1 => repeat (first | exact HR107.out | (with_reducible refine Kd.C_alloc ?_ _) | (with_reducible refine Kd.C_drewN ?_ _) | (with_reducible refine Kd.C_drew ?_))); (case side2 => exact HC107.out); rintro e w7 ⟨v109, rfl, ho0, hb⟩; refine ⟨_, rfl, ?_⟩; have HO110 := ak (Kd.R_lower ho0 (below_size (hbC _))); replace HB := kH _ hb; (try clear hb); (try clear hb2); (try clear hk); (try clear hi); (try clear ho0)))
 go_ret
 exact ⟨_, by first | rfl | (simp [errW_none, errW_some] <;> rfl) | (simp only [← hji2]; first | rfl | (simp [errW_none, errW_some] <;> rfl)) | (simp [*, errW_none, errW_some] <;> rfl), rC HO110, hbC _⟩

/-! ### cmp_Less_int: function 41 -/
def cmp_Less_int.f (a0 : Int) (a1 : Int) : Option (Bool) := (cmp_isNaN_int.f a0).bind fun t123 => (if t123 = true then ((cmp_isNaN_int.f a1).bind fun t124 => (if t124 = true then (some (decide (a0 < a1))) else (some true))) else (some (decide (a0 < a1))))
set_option maxHeartbeats 8000000 in
set_option maxRecDepth 100000 in
theorem cmp_Less_int.calls (a0 : Int) (a1 : Int) (r : Bool) (w : World) (h : cmp_Less_int.f a0 a1 = some r) :
  Calls Tryd.prog 41 #[.int .i64 a0, .int .i64 a1] w fun e w' => e = .returned (.bool r) ∧ Drawn0 w w' := by
 have H : ((cmp_isNaN_int.f a0).bind fun t123 => (if t123 = true then ((cmp_isNaN_int.f a1).bind fun t124 => (if t124 = true then (some (decide (a0 < a1))) else (some true))) else (some (decide (a0 < a1))))) = some r := h
 clear h
 replace H := Option.bind_eq_some_iff.mp H
 obtain ⟨t123, A30, H⟩ := H
 replace H : (if t123 = true then ((cmp_isNaN_int.f a1).bind fun t124 => (if t124 = true then (some (decide (a0 < a1))) else (some true))) else (some (decide (a0 < a1)))) = some r := H
 have A3 := Aside0.mk A30
 clear A30
 by_cases c4 : t123 = true
 rotate_left
 ·replace c4 := Bool.eq_false_iff.mpr c4
  subst c4
  have H1 : (some (decide (a0 < a1))) = some r := by rw [if_neg (show ¬ (false = true) by decide)] at H; exact H
  clear H
  have H := H1
  clear H1
  obtain rfl := Option.some.inj H
  go_enter Tryd.func41, Tryd.ntmps41
  go_wp2_with (first | ((with_reducible refine gate_callee (f := 44) rfl ?_); refine gL 6 Tryd.func44 #[.int .i64 a0] ?_; (with_reducible refine (cmp_isNaN_int.calls a0 false _ A3.out).mono ?_); rintro e w' ⟨rfl, ⟨nd, rfl⟩⟩; refine ⟨_, rfl, ?_⟩))
  go_ret
  exact ⟨by first | rfl | (simp; done) | (simp [*]; done), by repeat (first | exact Drawn0.refl _ | apply Drawn0.step)⟩
 subst c4
 have H1 : ((cmp_isNaN_int.f a1).bind fun t124 => (if t124 = true then (some (decide (a0 < a1))) else (some true))) = some r := by rw [if_pos rfl] at H; exact H
 clear H
 have H := H1
 clear H1
 replace H := Option.bind_eq_some_iff.mp H
 obtain ⟨t124, A50, H⟩ := H
 replace H : (if t124 = true then (some (decide (a0 < a1))) else (some true)) = some r := H
 have A5 := Aside0.mk A50
 clear A50
 by_cases c6 : t124 = true
 ·subst c6
  have H1 : (some (decide (a0 < a1))) = some r := by rw [if_pos rfl] at H; exact H
  clear H
  have H := H1
  clear H1
  obtain rfl := Option.some.inj H
  go_enter Tryd.func41, Tryd.ntmps41
  go_wp2_with (first | ((with_reducible refine gate_callee (f := 44) rfl ?_); refine gL 6 Tryd.func44 #[.int .i64 a0] ?_; (with_reducible refine (cmp_isNaN_int.calls a0 true _ A3.out).mono ?_); rintro e w' ⟨rfl, ⟨nd, rfl⟩⟩; refine ⟨_, rfl, ?_⟩) | (go_at_call 44; (with_reducible refine (cmp_isNaN_int.calls a1 true _ A5.out).mono ?_); rintro e w' ⟨rfl, ⟨nd, rfl⟩⟩))
  go_ret
  exact ⟨by first | rfl | (simp; done) | (simp [*]; done), by repeat (first | exact Drawn0.refl _ | apply Drawn0.step)⟩
 replace c6 := Bool.eq_false_iff.mpr c6
 subst c6
 have H1 : (some true) = some r := by rw [if_neg (show ¬ (false = true) by decide)] at H; exact H
 clear H
 have H := H1
 clear H1
 obtain rfl := Option.some.inj H
 go_enter Tryd.func41, Tryd.ntmps41
 go_wp2_with (first | ((with_reducible refine gate_callee (f := 44) rfl ?_); refine gL 6 Tryd.func44 #[.int .i64 a0] ?_; (with_reducible refine (cmp_isNaN_int.calls a0 true _ A3.out).mono ?_); rintro e w' ⟨rfl, ⟨nd, rfl⟩⟩; refine ⟨_, rfl, ?_⟩) | (go_at_call 44; (with_reducible refine (cmp_isNaN_int.calls a1 false _ A5.out).mono ?_); rintro e w' ⟨rfl, ⟨nd, rfl⟩⟩))
 go_ret
 exact ⟨by first | rfl | (simp; done) | (simp [*]; done), by repeat (first | exact Drawn0.refl _ | apply Drawn0.step)⟩

/-! ### curves_of: function 24 -/
def curves_of.f (k : Nat) (a0 : Int) (a1 : Int) : Option (Int × Int) := if a1 < 0 then ((curves_gcd.f k (wrap64 (-a0)) (wrap64 (-a1))).bind fun t143 => (if t143 = 0 then (none) else (some (wrap64 (Int.tdiv (wrap64 (-a0)) t143), wrap64 (Int.tdiv (wrap64 (-a1)) t143))))) else ((curves_gcd.f k a0 a1).bind fun t144 => (if t144 = 0 then (none) else (some (wrap64 (Int.tdiv a0 t144), wrap64 (Int.tdiv a1 t144)))))
theorem curves_of.mono : ∀ a0 a1 k, LeO (curves_of.f k a0 a1) (curves_of.f (k + 1) a0 a1) := by
 intro a0 a1 k
 unfold curves_of.f
 repeat' first
   | (with_reducible exact curves_gcd.mono _ _ _)
   | (with_reducible exact LeO.refl _)
   | (with_reducible exact LeO.none _)
   | (with_reducible refine LeO.ite ?_ ?_)
   | (with_reducible refine LeO.bind ?_ (fun _ => ?_))
   | exact curves_gcd.mono _ _ _
   | exact LeO.none _
   | refine LeO.ite ?_ ?_
   | refine LeO.bind ?_ (fun _ => ?_)
def curves_of.T4 : Bool × List (List Nat × List Nat) := (true, [([], []), ([], []), ([0, 1], [0, 1]), ([], []), ([], []), ([3, 4], [3, 4]), ([2, 5], [2, 5]), ([6], [6]), ([7, 0, 1, 2, 3, 4, 5, 6, 7], [7])])
def curves_of.B4 : List Nat := [0, 0, 3, 0, 0, 24, 63, 127, 255]
theorem curves_of.tab4 : rtab .any (opsOf Tryd.f24 4) = curves_of.T4 := by kernel_rfl
theorem curves_of.bits4 : waitsOk curves_of.T4.2 curves_of.B4 = true := by kernel_rfl
set_option maxHeartbeats 8000000 in
set_option maxRecDepth 100000 in
theorem curves_of.calls (k : Nat) (a0 : Int) (a1 : Int) (r1 : Int) (r2 : Int) (w : World) (h : curves_of.f k a0 a1 = some (r1, r2)) :
  Calls Tryd.prog 24 #[.int .i64 a0, .int .i64 a1] w fun e w' => e = .returned (.agg #[.int .i64 r1, .int .i64 r2]) ∧ Below w.heap.size w w' := by
 have hu49 := Tryd.underlying49
 have hu26 := Tryd.underlying26
 have HB := ak (Below.refl w.heap.size w)
 have H : (if a1 < 0 then ((curves_gcd.f k (wrap64 (-a0)) (wrap64 (-a1))).bind fun t143 => (if t143 = 0 then (none) else (some (wrap64 (Int.tdiv (wrap64 (-a0)) t143), wrap64 (Int.tdiv (wrap64 (-a1)) t143))))) else ((curves_gcd.f k a0 a1).bind fun t144 => (if t144 = 0 then (none) else (some (wrap64 (Int.tdiv a0 t144), wrap64 (Int.tdiv a1 t144)))))) = some (r1, r2) := h
 clear h
 by_cases c3 : a1 < 0
 rotate_left
 ·rw [if_neg c3] at H
  have c3b0 : decide (a1 < 0) = false := decide_eq_false c3
  clear c3
  replace H := Option.bind_eq_some_iff.mp H
  obtain ⟨t144, A110, H⟩ := H
  replace H : (if t144 = 0 then (none) else (some (wrap64 (Int.tdiv a0 t144), wrap64 (Int.tdiv a1 t144)))) = some (r1, r2) := H
  have A11 := Aside0.mk A110
  clear A110
  by_cases c12 : t144 = 0
  ·rw [if_pos c12] at H
   exact absurd H (by simp)
  rw [if_neg c12] at H
  have c12b0 : (t144 == 0) = false := beq_eq_false_iff_ne.mpr c12
  have c12b1 : (t144 != 0) = true := bne_iff_ne.mpr c12
  simp only [Option.some.injEq, Prod.mk.injEq] at H
  obtain ⟨rfl, rfl⟩ := H
  go_enter Tryd.func24, Tryd.ntmps24
  try go_wp2_with (first | ((with_reducible refine gate_dst (N := 4) rfl ?_); refine bE 4 #[.int .i64 0, .int .i64 0] 49 ?_; intro gb142 hg w13 hbox hb; have BK142 := ak (hbox); have GW142 := kG w hg; have GE142 := kG w hg; replace HB := kH _ hb; clear hb hbox hg) | ((with_reducible refine gate_callee (f := 29) rfl ?_); refine gL 14 Tryd.func29 #[.int .i64 a0, .int .i64 a1] ?_; (with_reducible refine (curves_gcd.calls k a0 a1 t144 _ A11.out).mono ?_); rintro e w14 ⟨rfl, hb⟩; refine ⟨_, rfl, ?_⟩; replace BK142 := kB BK142 hb; replace HB := kH _ hb; (try clear hb); (try clear hb2); (try clear hk); (try clear hi)))
  replace BK142 := kd BK142
  replace HB := ak (below_drew1 HB.out)
  refine sS (n := 9) (S := fun w' => True) (ds := []) trivial (fun hHeld => ?_); refine with_tabW curves_of.tab4 curves_of.bits4 (fun HT_ HW_ => ?_)
  generalize w14.drew = w15 at BK142 HB hHeld ⊢
  refine pS 0 15 9 1 ?_
  refine pS 1 16 9 3 ?_
  refine pS 2 17 9 7 ?_
  refine pS 3 18 9 15 ?_
  refine pS 4 19 9 31 ?_
  refine pS 5 20 9 63 ?_
  refine pS 6 21 9 127 ?_
  refine pS 7 22 9 255 ?_
  refine one_ (i := 8) (N := none) (ba 9 511) rfl rfl (one_of HT_.out (by kernel_rfl)) (by decide) (fun K hK => ?_)
  have hs16 : w15.cell? ⟨gb142, 0, none⟩ = some (.int .i64 0) := bc BK142 0
  have hfs16 := fz BK142 0
  have hs17 : w15.cell? ⟨gb142, 1, none⟩ = some (.int .i64 0) := bc BK142 1
  have hfs17 := fz BK142 1
  refine skip_ (w1 := ?_) (by rfl) rfl ?_ ?_
  rotate_left
  ·go_simp
   rfl
  refine hK.out _ _ trivial (fun hHeld => ?_)
  clear hK K
  refine done_ (done_of HT_.out (by kernel_rfl)) ?_
  try go_wp2
  refine bodyPost_ret (results_cell_row rfl _ _ gb142 49 #[.int .i64 (wrap64 (Int.tdiv a0 t144)), .int .i64 (wrap64 (Int.tdiv a1 t144))] (0, 0) _ rfl (by (with_reducible repeat (first | refine blk_drewN ?_ _ | refine blk_drew ?_ | refine blk_alloc ?_ _)); refine blk_put (cs := #[.int .i64 (wrap64 (Int.tdiv a0 t144)), .int .i64 0]) ?_ 1 _ rfl; (with_reducible repeat (first | refine blk_drewN ?_ _ | refine blk_drew ?_ | refine blk_alloc ?_ _)); refine blk_put (cs := #[.int .i64 0, .int .i64 0]) ?_ 0 _ rfl; (with_reducible repeat (first | refine blk_drewN ?_ _ | refine blk_drew ?_ | refine blk_alloc ?_ _)); exact BK142.out) Tryd.underlying49 rfl (by kernel_rfl)) rfl ?_
  exact ⟨by first | rfl | (simp [errW_none, errW_some] <;> rfl) | (simp [*, errW_none, errW_some] <;> rfl), hbC _⟩
 rw [if_pos c3] at H
 have c3b0 : decide (a1 < 0) = true := decide_eq_true c3
 clear c3
 replace H := Option.bind_eq_some_iff.mp H
 obtain ⟨t143, A40, H⟩ := H
 replace H : (if t143 = 0 then (none) else (some (wrap64 (Int.tdiv (wrap64 (-a0)) t143), wrap64 (Int.tdiv (wrap64 (-a1)) t143)))) = some (r1, r2) := H
 have A4 := Aside0.mk A40
 clear A40
 by_cases c5 : t143 = 0
 ·rw [if_pos c5] at H
  exact absurd H (by simp)
 rw [if_neg c5] at H
 have c5b0 : (t143 == 0) = false := beq_eq_false_iff_ne.mpr c5
 have c5b1 : (t143 != 0) = true := bne_iff_ne.mpr c5
 simp only [Option.some.injEq, Prod.mk.injEq] at H
 obtain ⟨rfl, rfl⟩ := H
 go_enter Tryd.func24, Tryd.ntmps24
 try go_wp2_with (first | ((with_reducible refine gate_dst (N := 4) rfl ?_); refine bE 4 #[.int .i64 0, .int .i64 0] 49 ?_; intro gb142 hg w6 hbox hb; have BK142 := ak (hbox); have GW142 := kG w hg; have GE142 := kG w hg; replace HB := kH _ hb; clear hb hbox hg) | ((with_reducible refine gate_callee (f := 29) rfl ?_); refine gL 14 Tryd.func29 #[.int .i64 (wrap64 (-a0)), .int .i64 (wrap64 (-a1))] ?_; (with_reducible refine (curves_gcd.calls k (wrap64 (-a0)) (wrap64 (-a1)) t143 _ A4.out).mono ?_); rintro e w7 ⟨rfl, hb⟩; refine ⟨_, rfl, ?_⟩; replace BK142 := kB BK142 hb; replace HB := kH _ hb; (try clear hb); (try clear hb2); (try clear hk); (try clear hi)))
 replace BK142 := kd BK142
 replace HB := ak (below_drew1 HB.out)
 refine sS (n := 9) (S := fun w' => True) (ds := []) trivial (fun hHeld => ?_); refine with_tabW curves_of.tab4 curves_of.bits4 (fun HT_ HW_ => ?_)
 generalize w7.drew = w8 at BK142 HB hHeld ⊢
 refine pS 0 15 9 1 ?_
 refine pS 1 16 9 3 ?_
 refine pS 2 17 9 7 ?_
 refine pS 3 18 9 15 ?_
 refine pS 4 19 9 31 ?_
 refine pS 5 20 9 63 ?_
 refine pS 6 21 9 127 ?_
 refine pS 7 22 9 255 ?_
 refine one_ (i := 8) (N := none) (ba 9 511) rfl rfl (one_of HT_.out (by kernel_rfl)) (by decide) (fun K hK => ?_)
 have hs9 : w8.cell? ⟨gb142, 0, none⟩ = some (.int .i64 0) := bc BK142 0
 have hfs9 := fz BK142 0
 have hs10 : w8.cell? ⟨gb142, 1, none⟩ = some (.int .i64 0) := bc BK142 1
 have hfs10 := fz BK142 1
 refine skip_ (w1 := ?_) (by rfl) rfl ?_ ?_
 rotate_left
 ·go_simp
  rfl
 refine hK.out _ _ trivial (fun hHeld => ?_)
 clear hK K
 refine done_ (done_of HT_.out (by kernel_rfl)) ?_
 try go_wp2
 refine bodyPost_ret (results_cell_row rfl _ _ gb142 49 #[.int .i64 (wrap64 (Int.tdiv (wrap64 (-a0)) t143)), .int .i64 (wrap64 (Int.tdiv (wrap64 (-a1)) t143))] (0, 0) _ rfl (by (with_reducible repeat (first | refine blk_drewN ?_ _ | refine blk_drew ?_ | refine blk_alloc ?_ _)); refine blk_put (cs := #[.int .i64 (wrap64 (Int.tdiv (wrap64 (-a0)) t143)), .int .i64 0]) ?_ 1 _ rfl; (with_reducible repeat (first | refine blk_drewN ?_ _ | refine blk_drew ?_ | refine blk_alloc ?_ _)); refine blk_put (cs := #[.int .i64 0, .int .i64 0]) ?_ 0 _ rfl; (with_reducible repeat (first | refine blk_drewN ?_ _ | refine blk_drew ?_ | refine blk_alloc ?_ _)); exact BK142.out) Tryd.underlying49 rfl (by kernel_rfl)) rfl ?_
 exact ⟨by first | rfl | (simp [errW_none, errW_some] <;> rfl) | (simp [*, errW_none, errW_some] <;> rfl), hbC _⟩

/-! ### congouref04_Frac: function 22 -/
def congouref04_Frac.f (k : Nat) (a0 : Int) (a1 : Int) : Option (Int × Int) := (congouref04_gcd.f k (mx a0 (wrap64 (-a0))) a1).bind fun t268 => (if t268 = 0 then (none) else (some (wrap64 (Int.tdiv a0 t268), wrap64 (Int.tdiv a1 t268))))
theorem congouref04_Frac.mono : ∀ a0 a1 k, LeO (congouref04_Frac.f k a0 a1) (congouref04_Frac.f (k + 1) a0 a1) := by
 intro a0 a1 k
 unfold congouref04_Frac.f
 repeat' first
   | (with_reducible exact congouref04_gcd.mono _ _ _)
   | (with_reducible exact LeO.refl _)
   | (with_reducible exact LeO.none _)
   | (with_reducible refine LeO.ite ?_ ?_)
   | (with_reducible refine LeO.bind ?_ (fun _ => ?_))
   | exact congouref04_gcd.mono _ _ _
   | exact LeO.none _
   | refine LeO.ite ?_ ?_
   | refine LeO.bind ?_ (fun _ => ?_)
def congouref04_Frac.T2 : Bool × List (List Nat × List Nat) := (true, [([], []), ([], []), ([0, 1], [0, 1]), ([], []), ([], []), ([3, 4], [3, 4]), ([2, 5], [2, 5]), ([6, 0, 1, 2, 3, 4, 5, 6], [6])])
def congouref04_Frac.B2 : List Nat := [0, 0, 3, 0, 0, 24, 63, 127]
theorem congouref04_Frac.tab2 : rtab .any (opsOf Tryd.f22 2) = congouref04_Frac.T2 := by kernel_rfl
theorem congouref04_Frac.bits2 : waitsOk congouref04_Frac.T2.2 congouref04_Frac.B2 = true := by kernel_rfl
set_option maxHeartbeats 8000000 in
set_option maxRecDepth 100000 in
theorem congouref04_Frac.calls (k : Nat) (a0 : Int) (a1 : Int) (r1 : Int) (r2 : Int) (w : World) (h : congouref04_Frac.f k a0 a1 = some (r1, r2)) :
  Calls Tryd.prog 22 #[.int .i64 a0, .int .i64 a1] w fun e w' => e = .returned (.agg #[.int .i64 r1, .int .i64 r2]) ∧ Below w.heap.size w w' := by
 have hu26 := Tryd.underlying26
 have HB := ak (Below.refl w.heap.size w)
 have H : ((congouref04_gcd.f k (mx a0 (wrap64 (-a0))) a1).bind fun t268 => (if t268 = 0 then (none) else (some (wrap64 (Int.tdiv a0 t268), wrap64 (Int.tdiv a1 t268))))) = some (r1, r2) := h
 clear h
 obtain ⟨ji3, hji3⟩ : ∃ j_ : Int, (mx a0 (wrap64 (-a0))) = j_ := ⟨_, rfl⟩
 replace H : ((congouref04_gcd.f k (ji3) a1).bind fun t268 => (if t268 = 0 then (none) else (some (wrap64 (Int.tdiv a0 t268), wrap64 (Int.tdiv a1 t268))))) = some (r1, r2) := by first | (rw [hji3] at H; exact H) | (simp only [hji3] at H ⊢; exact H)
 have hji3_ : (if a0 < (wrap64 (-a0)) then (wrap64 (-a0)) else a0) = ji3 := hji3
 replace H := Option.bind_eq_some_iff.mp H
 obtain ⟨t268, A40, H⟩ := H
 replace H : (if t268 = 0 then (none) else (some (wrap64 (Int.tdiv a0 t268), wrap64 (Int.tdiv a1 t268)))) = some (r1, r2) := H
 have A4 := Aside0.mk A40
 clear A40
 by_cases c5 : t268 = 0
 ·rw [if_pos c5] at H
  exact absurd H (by simp)
 rw [if_neg c5] at H
 have c5b0 : (t268 == 0) = false := beq_eq_false_iff_ne.mpr c5
 have c5b1 : (t268 != 0) = true := bne_iff_ne.mpr c5
 simp only [Option.some.injEq, Prod.mk.injEq] at H
 obtain ⟨rfl, rfl⟩ := H
 go_enter Tryd.func22, Tryd.ntmps22
 try go_wp2_with (first | ((with_reducible refine gate_dst (N := 4) rfl ?_); refine bE 4 #[.int .i64 0, .int .i64 0] 26 ?_; intro gb267 hg w6 hbox hb; have BK267 := ak (hbox); have GW267 := kG w hg; have GE267 := kG w hg; replace HB := kH _ hb; clear hb hbox hg) | ((with_reducible refine gate_callee (f := 36) rfl ?_); refine goesL_ (some 11) rfl rfl Tryd.func36 (by kernel_rfl) rfl #[.int .i64 ji3, .int .i64 a1] rfl (by (try simp only [List.map_toArray, List.map_cons, List.map_nil]); first | done | (simp only [hji3]; rfl) | rfl | (simp only [List.length_drop, List.length_take]; rfl)) ?_; (with_reducible refine (congouref04_gcd.calls k ji3 a1 t268 _ A4.out).mono ?_); rintro e w' ⟨rfl, ⟨nd, rfl⟩⟩; refine ⟨_, rfl, ?_⟩; (try (rw [drewN_self w6]; generalize hq_ : World.drewN w6 _ = w6; have n0_ : Aside0 (w6.heap[gb267]? = some (.cells #[.int .i64 0, .int .i64 0] 26 (0, 0))) := ⟨by rw [← hq_]; exact (bkC BK267)⟩; have n1_ : Aside0 (Below w.heap.size w w6) := ⟨by rw [← hq_]; exact (hbC _)⟩; clear BK267 HB hq_; have BK267 := n0_; have HB := n1_; clear n0_ n1_))))
 replace BK267 := kd BK267
 replace HB := ak (below_drew1 HB.out)
 refine sS (n := 8) (S := fun w' => True) (ds := []) trivial (fun hHeld => ?_); refine with_tabW congouref04_Frac.tab2 congouref04_Frac.bits2 (fun HT_ HW_ => ?_)
 generalize w6.drew = w7 at BK267 HB hHeld ⊢
 refine pS 0 12 8 1 ?_
 refine pS 1 13 8 3 ?_
 refine pS 2 14 8 7 ?_
 refine pS 3 15 8 15 ?_
 refine pS 4 16 8 31 ?_
 refine pS 5 17 8 63 ?_
 refine pS 6 18 8 127 ?_
 refine one_ (i := 7) (N := none) (ba 8 255) rfl rfl (one_of HT_.out (by kernel_rfl)) (by decide) (fun K hK => ?_)
 have hs8 : w7.cell? ⟨gb267, 0, none⟩ = some (.int .i64 0) := bc BK267 0
 have hfs8 := fz BK267 0
 have hs9 : w7.cell? ⟨gb267, 1, none⟩ = some (.int .i64 0) := bc BK267 1
 have hfs9 := fz BK267 1
 refine skip_ (w1 := ?_) (by rfl) rfl ?_ ?_
 rotate_left
 ·go_simp
  rfl
 refine hK.out _ _ trivial (fun hHeld => ?_)
 clear hK K
 refine done_ (done_of HT_.out (by kernel_rfl)) ?_
 try go_wp2
 refine bodyPost_ret (results_cell_row rfl _ _ gb267 26 #[.int .i64 (wrap64 (Int.tdiv a0 t268)), .int .i64 (wrap64 (Int.tdiv a1 t268))] (0, 0) _ rfl (by (with_reducible repeat (first | refine blk_drewN ?_ _ | refine blk_drew ?_ | refine blk_alloc ?_ _)); refine blk_put (cs := #[.int .i64 (wrap64 (Int.tdiv a0 t268)), .int .i64 0]) ?_ 1 _ rfl; (with_reducible repeat (first | refine blk_drewN ?_ _ | refine blk_drew ?_ | refine blk_alloc ?_ _)); refine blk_put (cs := #[.int .i64 0, .int .i64 0]) ?_ 0 _ rfl; (with_reducible repeat (first | refine blk_drewN ?_ _ | refine blk_drew ?_ | refine blk_alloc ?_ _)); exact BK267.out) Tryd.underlying26 rfl (by kernel_rfl)) rfl ?_
 exact ⟨by first | rfl | (simp [errW_none, errW_some] <;> rfl) | (simp only [← hji3]; first | rfl | (simp [errW_none, errW_some] <;> rfl)) | (simp [*, errW_none, errW_some] <;> rfl), hbC _⟩

end Go.Proofs.YtpnocmkpeogifaaDoor.X
