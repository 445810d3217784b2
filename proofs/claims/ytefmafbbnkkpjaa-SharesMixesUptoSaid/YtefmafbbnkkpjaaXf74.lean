-- Written by a program of this work (wip/xprint.py, over the kit's printer) out of the translation.
import Derived.Test.YtefmafbbnkkpjaaX0
namespace Go.Proofs.Ytefmafbbnkkpjaa.X
open Go.RowKit Go.Proofs.YtefmafbbnkkpjaaW.PrintWords Go.Proofs.YtefmafbbnkkpjaaW.PrintLast Go.Proofs.YtefmafbbnkkpjaaW.PrintMore
attribute [local go_sem] max2_int min2_int max_two min_two max_three min_three max_four min_four   -- for this text's walks alone
set_option linter.unusedVariables false
set_option linter.unusedSimpArgs false

/-! ### shares_Give_do: function 74 -/
def shares_Give_do.f (a0_0 : Int) (a0_1 : Int) (a0_2 : Int) (l1 : List Int) : Option (Bool × List Int) := if a0_0 < 0 then (some (false, l1)) else (if a0_0 ≥ (l1.length : Int) then (some (false, l1)) else (if a0_1 < 0 then (some (false, l1)) else (if a0_1 ≥ (l1.length : Int) then (some (false, l1)) else (if a0_0 = a0_1 then (some (false, l1)) else (if a0_2 < 1 then (some (false, l1)) else (if a0_2 > 20 then (some (false, l1)) else (if 0 ≤ a0_0 then (if a0_0 < (l1.length : Int) then (if 0 ≤ a0_1 then (if a0_1 < (l1.length : Int) then (if (wrap64 ((rd l1 a0_0) - (rd l1 a0_1))) < (wrap64 (2 * a0_2)) then (some (false, l1)) else ((some (l1.set (a0_0 : Int).toNat (wrap64 ((rd l1 a0_0) - a0_2)) : List Int)).bind fun y215 => (some (true, (y215.set (a0_1 : Int).toNat (wrap64 ((rd y215 a0_1) + a0_2))))))) else (none)) else (none)) else (none)) else (none))))))))
def shares_Give_do.T2 : Bool × List (List Nat × List Nat) := (true, [([], []), ([0], [0]), ([1], [1]), ([2], [2]), ([3], [3]), ([4, 3], [3, 4]), ([3], [3]), ([5, 6, 3], [3, 5, 6]), ([3, 7], [3, 7]), ([8, 3], [8]), ([9], [9]), ([10, 9], [9, 10]), ([11, 9], [9, 11]), ([9, 12], [9, 12]), ([13, 9], [13]), ([14], [14]), ([15, 14], [14, 15]), ([14], [14]), ([16, 17, 14], [14, 16, 17]), ([14, 18], [14, 18]), ([19, 14], [19]), ([20], [20]), ([21, 20], [20, 21]), ([20], [20]), ([23, 20], [20, 23]), ([22, 24, 20], [20, 22, 24]), ([20, 25], [20, 25]), ([26, 20], [26]), ([27], [27]), ([28, 27], [27, 28]), ([29, 27], [27, 29]), ([27, 30], [27, 30]), ([31, 27], [31]), ([32], [32]), ([33, 32], [32, 33]), ([34, 32], [32, 34]), ([32, 35], [32, 35]), ([36, 32], [36]), ([37], [37]), ([37], [37]), ([39, 37], [37, 39]), ([38, 40, 37], [37, 38, 40]), ([41, 37], [37, 41]), ([37], [37]), ([37], [37]), ([44, 37], [37, 44]), ([43, 45, 37], [37, 43, 45]), ([46, 37], [37, 46]), ([42, 47, 37], [37, 42, 47]), ([37], [37]), ([49, 37], [37, 49]), ([50, 37], [37, 50]), ([48, 51, 37], [37, 48, 51]), ([37, 52], [37, 52])])
def shares_Give_do.B2 : List Nat := [0, 1, 3, 7, 15, 31, 15, 127, 255, 511, 1023, 2047, 4095, 8191, 16383, 32767, 65535, 32767, 262143, 524287, 1048575, 2097151, 4194303, 2097151, 10485759, 33554431, 67108863, 134217727, 268435455, 536870911, 1073741823, 2147483647, 4294967295, 8589934591, 17179869183, 34359738367, 68719476735, 137438953471, 274877906943, 274877906943, 824633720831, 2199023255551, 4398046511103, 274877906943, 274877906943, 17867063951359, 61847529062399, 132216273240063, 281474976710655, 274877906943, 563224831328255, 1689124738170879, 4503599627370495, 9007199254740991]
theorem shares_Give_do.tab2 : rtab .any (opsOf Try.f74 2) = shares_Give_do.T2 := by kernel_rfl
theorem shares_Give_do.bits2 : waitsOk shares_Give_do.T2.2 shares_Give_do.B2 = true := by kernel_rfl
def shares_Give_do.T4 : Bool × List (List Nat × List Nat) := (true, [([], []), ([], []), ([1], [1]), ([0, 2], [0, 2]), ([3], [3]), ([], []), ([5], [5]), ([4, 6], [4, 6]), ([0, 2, 0, 1, 2, 3, 4, 5, 6, 7], [0, 2]), ([8, 7, 0, 1, 2, 3, 4, 5, 6, 7], [7, 8])])
def shares_Give_do.B4 : List Nat := [0, 0, 2, 7, 15, 0, 32, 127, 255, 511]
theorem shares_Give_do.tab4 : rtab .any (opsOf Try.f74 4) = shares_Give_do.T4 := by kernel_rfl
theorem shares_Give_do.bits4 : waitsOk shares_Give_do.T4.2 shares_Give_do.B4 = true := by kernel_rfl
def shares_Give_do.T5 : Bool × List (List Nat × List Nat) := (true, [([], []), ([], []), ([1], [1]), ([0, 2], [0, 2]), ([3], [3]), ([], []), ([5], [5]), ([4, 6], [4, 6]), ([0, 2, 0, 1, 2, 3, 4, 5, 6, 7], [0, 2]), ([8, 7, 0, 1, 2, 3, 4, 5, 6, 7], [7, 8])])
def shares_Give_do.B5 : List Nat := [0, 0, 2, 7, 15, 0, 32, 127, 255, 511]
theorem shares_Give_do.tab5 : rtab .any (opsOf Try.f74 5) = shares_Give_do.T5 := by kernel_rfl
theorem shares_Give_do.bits5 : waitsOk shares_Give_do.T5.2 shares_Give_do.B5 = true := by kernel_rfl
set_option maxHeartbeats 8000000 in
set_option maxRecDepth 100000 in
theorem shares_Give_do.calls (a0_0 : Int) (a0_1 : Int) (a0_2 : Int) (P1_ : Nat → Prop) (u9000_ : Value) (l1 : List Int) (r1 : Bool) (r2 : List Int) (w0 w : World) (hB : Below w0.heap.size w0 w) (ho1 : Kd.R (Kd.int .i64) 3 w w0.heap.size P1_ u9000_ l1) (h : shares_Give_do.f a0_0 a0_1 a0_2 l1 = some (r1, r2)) :
  Calls Try.prog 74 #[.agg #[.int .i64 a0_0, .int .i64 a0_1, .int .i64 a0_2], u9000_] w fun e w' => e = .returned (.bool r1) ∧ Kd.R (Kd.int .i64) 3 w' w0.heap.size (fun k_ => (P1_ k_ ∨ w.heap.size ≤ k_)) u9000_ r2 ∧ Below w0.heap.size w0 w' ∧ Kept w w' (fun k_ => P1_ k_) := by
 have hu77 := Try.underlying77
 have HO1 := ak (show Kd.R (Kd.int .i64) 3 w w0.heap.size (fun k_ => (P1_ k_ ∨ w.heap.size ≤ k_)) u9000_ l1 from Kd.R_mono ho1 (fun k_ hk => (.inl hk)))
 have HK := ak (Kept.refl w (fun k_ => P1_ k_))
 have HW0 := Aside0.mk hB.size
 have HB := Aside0.mk hB
 clear hB
 have H : (if a0_0 < 0 then (some (false, l1)) else (if a0_0 ≥ (l1.length : Int) then (some (false, l1)) else (if a0_1 < 0 then (some (false, l1)) else (if a0_1 ≥ (l1.length : Int) then (some (false, l1)) else (if a0_0 = a0_1 then (some (false, l1)) else (if a0_2 < 1 then (some (false, l1)) else (if a0_2 > 20 then (some (false, l1)) else (if 0 ≤ a0_0 then (if a0_0 < (l1.length : Int) then (if 0 ≤ a0_1 then (if a0_1 < (l1.length : Int) then (if (wrap64 ((rd l1 a0_0) - (rd l1 a0_1))) < (wrap64 (2 * a0_2)) then (some (false, l1)) else ((some (l1.set (a0_0 : Int).toNat (wrap64 ((rd l1 a0_0) - a0_2)) : List Int)).bind fun y215 => (some (true, (y215.set (a0_1 : Int).toNat (wrap64 ((rd y215 a0_1) + a0_2))))))) else (none)) else (none)) else (none)) else (none))))))))) = some (r1, r2) := h
 clear h
 by_cases c3 : a0_0 < 0
 ·rw [if_pos c3] at H
  have c3b0 : decide (a0_0 < 0) = true := decide_eq_true c3
  clear c3
  simp only [Option.some.injEq, Prod.mk.injEq] at H
  obtain ⟨rfl, rfl⟩ := H
  go_enter Try.func74, Try.ntmps74
  try go_wp2_with (first | ((with_reducible refine gate_dst (N := 2) rfl ?_); refine bE 2 #[.int .i64 a0_0, .int .i64 a0_1, .int .i64 a0_2] 77 ?_; intro gb211 hg w4 hbox hb; replace HO1 := kO HO1 hb; have BK211 := ak (hbox); have GW211 := ak ((by rw [hg]; exact (by first | exact HK.out.1 | exact (show Kept w _ (fun k_ => P1_ k_) from by repeat (first | (with_reducible first | exact HK.out | apply Kept.alloc | apply Kept.drewN | apply Kept.drew) | exact HK.out)).1) : w.heap.size ≤ gb211)); replace HK := ak (Kept.below (S := (fun k_ => P1_ k_)) (by repeat (first | (with_reducible first | exact HK.out | apply Kept.alloc | apply Kept.drewN | apply Kept.drew) | exact HK.out)) hb); have GE211 := kG w0 hg; replace HB := kH _ hb; clear hb hbox hg; obtain ⟨Ao5, co5, eo5⟩ := Kd.R_slice HO1.out; subst eo5))
  replace HO1 := ak (Kd.R_drew HO1.out)
  replace BK211 := kd BK211
  replace HK := ak (Kept.drew HK.out)
  replace HB := ak (below_drew1 HB.out)
  refine sS (n := 54) (S := fun w' => w'.cell? ⟨gb211, 0, none⟩ = some (.int .i64 a0_0) ∧ w'.cell? ⟨gb211, 1, none⟩ = some (.int .i64 a0_1) ∧ w'.cell? ⟨gb211, 2, none⟩ = some (.int .i64 a0_2)) (ds := []) ⟨bc BK211 0, bc BK211 1, bc BK211 2⟩ (fun hHeld => ?_); refine with_tabW shares_Give_do.tab2 shares_Give_do.bits2 (fun HT_ HW_ => ?_)
  generalize w4.drew = w6 at HO1 BK211 HK HB hHeld ⊢
  refine pS 0 8 54 1 ?_
  refine tS 1 9 54 3 ?_
  refine pS 2 10 54 7 ?_
  refine pS 3 11 54 15 ?_
  refine uS 4 12 54 31 ?_
  refine uS 5 13 54 63 ?_
  refine uS 6 14 54 127 ?_
  refine uS 7 15 54 255 ?_
  refine pS 8 16 54 511 ?_
  refine pS 9 17 54 1023 ?_
  refine uS 10 18 54 2047 ?_
  refine uS 11 19 54 4095 ?_
  refine uS 12 20 54 8191 ?_
  refine pS 13 21 54 16383 ?_
  refine pS 14 22 54 32767 ?_
  refine uS 15 23 54 65535 ?_
  refine uS 16 24 54 131071 ?_
  refine uS 17 25 54 262143 ?_
  refine uS 18 26 54 524287 ?_
  refine pS 19 27 54 1048575 ?_
  refine pS 20 28 54 2097151 ?_
  refine uS 21 29 54 4194303 ?_
  refine uS 22 30 54 8388607 ?_
  refine uS 23 31 54 16777215 ?_
  refine uS 24 32 54 33554431 ?_
  refine uS 25 33 54 67108863 ?_
  refine pS 26 34 54 134217727 ?_
  refine pS 27 35 54 268435455 ?_
  refine uS 28 36 54 536870911 ?_
  refine uS 29 37 54 1073741823 ?_
  refine uS 30 38 54 2147483647 ?_
  refine pS 31 39 54 4294967295 ?_
  refine pS 32 40 54 8589934591 ?_
  refine uS 33 41 54 17179869183 ?_
  refine uS 34 42 54 34359738367 ?_
  refine uS 35 43 54 68719476735 ?_
  refine pS 36 44 54 137438953471 ?_
  refine pS 37 45 54 274877906943 ?_
  refine uS 38 46 54 549755813887 ?_
  refine uS 39 47 54 1099511627775 ?_
  refine uS 40 48 54 2199023255551 ?_
  refine uS 41 49 54 4398046511103 ?_
  refine uS 42 50 54 8796093022207 ?_
  refine uS 43 51 54 17592186044415 ?_
  refine uS 44 52 54 35184372088831 ?_
  refine uS 45 53 54 70368744177663 ?_
  refine uS 46 54 54 140737488355327 ?_
  refine uS 47 55 54 281474976710655 ?_
  refine uS 48 56 54 562949953421311 ?_
  refine uS 49 57 54 1125899906842623 ?_
  refine uS 50 58 54 2251799813685247 ?_
  refine uS 51 59 54 4503599627370495 ?_
  refine uS 52 60 54 9007199254740991 ?_
  refine pS 53 61 54 18014398509481983 ?_
  refine done_ (done_of HT_.out (by kernel_rfl)) ?_
  try go_wp2
  go_ret
  exact ⟨by first | rfl | (simp [errW_none, errW_some] <;> rfl) | (simp [*, errW_none, errW_some] <;> rfl), rC HO1, hbC _, by repeat (first | (with_reducible first | exact HK.out | apply Kept.alloc | apply Kept.drewN | apply Kept.drew | refine Kept.setCell ?_ (.inr GW211.out) _) | exact HK.out)⟩
 rw [if_neg c3] at H
 have c3b0 : decide (a0_0 < 0) = false := decide_eq_false c3
 clear c3
 by_cases c7 : a0_0 ≥ (l1.length : Int)
 ·rw [if_pos c7] at H
  have c7b0 : decide ((l1.length : Int) ≤ a0_0) = true := decide_eq_true c7
  clear c7
  simp only [Option.some.injEq, Prod.mk.injEq] at H
  obtain ⟨rfl, rfl⟩ := H
  go_enter Try.func74, Try.ntmps74
  try go_wp2_with (first | ((with_reducible refine gate_dst (N := 2) rfl ?_); refine bE 2 #[.int .i64 a0_0, .int .i64 a0_1, .int .i64 a0_2] 77 ?_; intro gb211 hg w8 hbox hb; replace HO1 := kO HO1 hb; have BK211 := ak (hbox); have GW211 := ak ((by rw [hg]; exact (by first | exact HK.out.1 | exact (show Kept w _ (fun k_ => P1_ k_) from by repeat (first | (with_reducible first | exact HK.out | apply Kept.alloc | apply Kept.drewN | apply Kept.drew) | exact HK.out)).1) : w.heap.size ≤ gb211)); replace HK := ak (Kept.below (S := (fun k_ => P1_ k_)) (by repeat (first | (with_reducible first | exact HK.out | apply Kept.alloc | apply Kept.drewN | apply Kept.drew) | exact HK.out)) hb); have GE211 := kG w0 hg; replace HB := kH _ hb; clear hb hbox hg; obtain ⟨Ao9, co9, eo9⟩ := Kd.R_slice HO1.out; subst eo9))
  replace HO1 := ak (Kd.R_drew HO1.out)
  replace BK211 := kd BK211
  replace HK := ak (Kept.drew HK.out)
  replace HB := ak (below_drew1 HB.out)
  refine sS (n := 54) (S := fun w' => w'.cell? ⟨gb211, 0, none⟩ = some (.int .i64 a0_0) ∧ w'.cell? ⟨gb211, 1, none⟩ = some (.int .i64 a0_1) ∧ w'.cell? ⟨gb211, 2, none⟩ = some (.int .i64 a0_2)) (ds := []) ⟨bc BK211 0, bc BK211 1, bc BK211 2⟩ (fun hHeld => ?_); refine with_tabW shares_Give_do.tab2 shares_Give_do.bits2 (fun HT_ HW_ => ?_)
  generalize w8.drew = w10 at HO1 BK211 HK HB hHeld ⊢
  refine pS 0 8 54 1 ?_
  refine tS 1 9 54 3 ?_
  refine pS 2 10 54 7 ?_
  refine pS 3 11 54 15 ?_
  refine pS 4 12 54 31 ?_
  refine pS 6 14 54 95 ?_
  refine tS 5 13 54 127 ?_
  refine pS 7 15 54 255 ?_
  refine pS 8 16 54 511 ?_
  refine pS 9 17 54 1023 ?_
  refine uS 10 18 54 2047 ?_
  refine uS 11 19 54 4095 ?_
  refine uS 12 20 54 8191 ?_
  refine pS 13 21 54 16383 ?_
  refine pS 14 22 54 32767 ?_
  refine uS 15 23 54 65535 ?_
  refine uS 16 24 54 131071 ?_
  refine uS 17 25 54 262143 ?_
  refine uS 18 26 54 524287 ?_
  refine pS 19 27 54 1048575 ?_
  refine pS 20 28 54 2097151 ?_
  refine uS 21 29 54 4194303 ?_
  refine uS 22 30 54 8388607 ?_
  refine uS 23 31 54 16777215 ?_
  refine uS 24 32 54 33554431 ?_
  refine uS 25 33 54 67108863 ?_
  refine pS 26 34 54 134217727 ?_
  refine pS 27 35 54 268435455 ?_
  refine uS 28 36 54 536870911 ?_
  refine uS 29 37 54 1073741823 ?_
  refine uS 30 38 54 2147483647 ?_
  refine pS 31 39 54 4294967295 ?_
  refine pS 32 40 54 8589934591 ?_
  refine uS 33 41 54 17179869183 ?_
  refine uS 34 42 54 34359738367 ?_
  refine uS 35 43 54 68719476735 ?_
  refine pS 36 44 54 137438953471 ?_
  refine pS 37 45 54 274877906943 ?_
  refine uS 38 46 54 549755813887 ?_
  refine uS 39 47 54 1099511627775 ?_
  refine uS 40 48 54 2199023255551 ?_
  refine uS 41 49 54 4398046511103 ?_
  refine uS 42 50 54 8796093022207 ?_
  refine uS 43 51 54 17592186044415 ?_
  refine uS 44 52 54 35184372088831 ?_
  refine uS 45 53 54 70368744177663 ?_
  refine uS 46 54 54 140737488355327 ?_
  refine uS 47 55 54 281474976710655 ?_
  refine uS 48 56 54 562949953421311 ?_
  refine uS 49 57 54 1125899906842623 ?_
  refine uS 50 58 54 2251799813685247 ?_
  refine uS 51 59 54 4503599627370495 ?_
  refine uS 52 60 54 9007199254740991 ?_
  refine pS 53 61 54 18014398509481983 ?_
  refine done_ (done_of HT_.out (by kernel_rfl)) ?_
  try go_wp2
  go_ret
  exact ⟨by first | rfl | (simp [errW_none, errW_some] <;> rfl) | (simp [*, errW_none, errW_some] <;> rfl), rC HO1, hbC _, by repeat (first | (with_reducible first | exact HK.out | apply Kept.alloc | apply Kept.drewN | apply Kept.drew | refine Kept.setCell ?_ (.inr GW211.out) _) | exact HK.out)⟩
 rw [if_neg c7] at H
 have c7b0 : decide ((l1.length : Int) ≤ a0_0) = false := decide_eq_false c7
 clear c7
 by_cases c11 : a0_1 < 0
 ·rw [if_pos c11] at H
  have c11b0 : decide (a0_1 < 0) = true := decide_eq_true c11
  clear c11
  simp only [Option.some.injEq, Prod.mk.injEq] at H
  obtain ⟨rfl, rfl⟩ := H
  go_enter Try.func74, Try.ntmps74
  try go_wp2_with (first | ((with_reducible refine gate_dst (N := 2) rfl ?_); refine bE 2 #[.int .i64 a0_0, .int .i64 a0_1, .int .i64 a0_2] 77 ?_; intro gb211 hg w12 hbox hb; replace HO1 := kO HO1 hb; have BK211 := ak (hbox); have GW211 := ak ((by rw [hg]; exact (by first | exact HK.out.1 | exact (show Kept w _ (fun k_ => P1_ k_) from by repeat (first | (with_reducible first | exact HK.out | apply Kept.alloc | apply Kept.drewN | apply Kept.drew) | exact HK.out)).1) : w.heap.size ≤ gb211)); replace HK := ak (Kept.below (S := (fun k_ => P1_ k_)) (by repeat (first | (with_reducible first | exact HK.out | apply Kept.alloc | apply Kept.drewN | apply Kept.drew) | exact HK.out)) hb); have GE211 := kG w0 hg; replace HB := kH _ hb; clear hb hbox hg; obtain ⟨Ao13, co13, eo13⟩ := Kd.R_slice HO1.out; subst eo13))
  replace HO1 := ak (Kd.R_drew HO1.out)
  replace BK211 := kd BK211
  replace HK := ak (Kept.drew HK.out)
  replace HB := ak (below_drew1 HB.out)
  refine sS (n := 54) (S := fun w' => w'.cell? ⟨gb211, 0, none⟩ = some (.int .i64 a0_0) ∧ w'.cell? ⟨gb211, 1, none⟩ = some (.int .i64 a0_1) ∧ w'.cell? ⟨gb211, 2, none⟩ = some (.int .i64 a0_2)) (ds := []) ⟨bc BK211 0, bc BK211 1, bc BK211 2⟩ (fun hHeld => ?_); refine with_tabW shares_Give_do.tab2 shares_Give_do.bits2 (fun HT_ HW_ => ?_)
  generalize w12.drew = w14 at HO1 BK211 HK HB hHeld ⊢
  refine pS 0 8 54 1 ?_
  refine tS 1 9 54 3 ?_
  refine pS 2 10 54 7 ?_
  refine pS 3 11 54 15 ?_
  refine pS 4 12 54 31 ?_
  refine pS 6 14 54 95 ?_
  refine tS 5 13 54 127 ?_
  refine pS 7 15 54 255 ?_
  refine pS 8 16 54 511 ?_
  refine pS 9 17 54 1023 ?_
  refine pS 10 18 54 2047 ?_
  refine tS 11 19 54 4095 ?_
  refine pS 12 20 54 8191 ?_
  refine pS 13 21 54 16383 ?_
  refine pS 14 22 54 32767 ?_
  refine uS 15 23 54 65535 ?_
  refine uS 16 24 54 131071 ?_
  refine uS 17 25 54 262143 ?_
  refine uS 18 26 54 524287 ?_
  refine pS 19 27 54 1048575 ?_
  refine pS 20 28 54 2097151 ?_
  refine uS 21 29 54 4194303 ?_
  refine uS 22 30 54 8388607 ?_
  refine uS 23 31 54 16777215 ?_
  refine uS 24 32 54 33554431 ?_
  refine uS 25 33 54 67108863 ?_
  refine pS 26 34 54 134217727 ?_
  refine pS 27 35 54 268435455 ?_
  refine uS 28 36 54 536870911 ?_
  refine uS 29 37 54 1073741823 ?_
  refine uS 30 38 54 2147483647 ?_
  refine pS 31 39 54 4294967295 ?_
  refine pS 32 40 54 8589934591 ?_
  refine uS 33 41 54 17179869183 ?_
  refine uS 34 42 54 34359738367 ?_
  refine uS 35 43 54 68719476735 ?_
  refine pS 36 44 54 137438953471 ?_
  refine pS 37 45 54 274877906943 ?_
  refine uS 38 46 54 549755813887 ?_
  refine uS 39 47 54 1099511627775 ?_
  refine uS 40 48 54 2199023255551 ?_
  refine uS 41 49 54 4398046511103 ?_
  refine uS 42 50 54 8796093022207 ?_
  refine uS 43 51 54 17592186044415 ?_
  refine uS 44 52 54 35184372088831 ?_
  refine uS 45 53 54 70368744177663 ?_
  refine uS 46 54 54 140737488355327 ?_
  refine uS 47 55 54 281474976710655 ?_
  refine uS 48 56 54 562949953421311 ?_
  refine uS 49 57 54 1125899906842623 ?_
  refine uS 50 58 54 2251799813685247 ?_
  refine uS 51 59 54 4503599627370495 ?_
  refine uS 52 60 54 9007199254740991 ?_
  refine pS 53 61 54 18014398509481983 ?_
  refine done_ (done_of HT_.out (by kernel_rfl)) ?_
  try go_wp2
  go_ret
  exact ⟨by first | rfl | (simp [errW_none, errW_some] <;> rfl) | (simp [*, errW_none, errW_some] <;> rfl), rC HO1, hbC _, by repeat (first | (with_reducible first | exact HK.out | apply Kept.alloc | apply Kept.drewN | apply Kept.drew | refine Kept.setCell ?_ (.inr GW211.out) _) | exact HK.out)⟩
 rw [if_neg c11] at H
 have c11b0 : decide (a0_1 < 0) = false := decide_eq_false c11
 clear c11
 by_cases c15 : a0_1 ≥ (l1.length : Int)
 ·rw [if_pos c15] at H
  have c15b0 : decide ((l1.length : Int) ≤ a0_1) = true := decide_eq_true c15
  clear c15
  simp only [Option.some.injEq, Prod.mk.injEq] at H
  obtain ⟨rfl, rfl⟩ := H
  go_enter Try.func74, Try.ntmps74
  try go_wp2_with (first | ((with_reducible refine gate_dst (N := 2) rfl ?_); refine bE 2 #[.int .i64 a0_0, .int .i64 a0_1, .int .i64 a0_2] 77 ?_; intro gb211 hg w16 hbox hb; replace HO1 := kO HO1 hb; have BK211 := ak (hbox); have GW211 := ak ((by rw [hg]; exact (by first | exact HK.out.1 | exact (show Kept w _ (fun k_ => P1_ k_) from by repeat (first | (with_reducible first | exact HK.out | apply Kept.alloc | apply Kept.drewN | apply Kept.drew) | exact HK.out)).1) : w.heap.size ≤ gb211)); replace HK := ak (Kept.below (S := (fun k_ => P1_ k_)) (by repeat (first | (with_reducible first | exact HK.out | apply Kept.alloc | apply Kept.drewN | apply Kept.drew) | exact HK.out)) hb); have GE211 := kG w0 hg; replace HB := kH _ hb; clear hb hbox hg; obtain ⟨Ao17, co17, eo17⟩ := Kd.R_slice HO1.out; subst eo17))
  replace HO1 := ak (Kd.R_drew HO1.out)
  replace BK211 := kd BK211
  replace HK := ak (Kept.drew HK.out)
  replace HB := ak (below_drew1 HB.out)
  refine sS (n := 54) (S := fun w' => w'.cell? ⟨gb211, 0, none⟩ = some (.int .i64 a0_0) ∧ w'.cell? ⟨gb211, 1, none⟩ = some (.int .i64 a0_1) ∧ w'.cell? ⟨gb211, 2, none⟩ = some (.int .i64 a0_2)) (ds := []) ⟨bc BK211 0, bc BK211 1, bc BK211 2⟩ (fun hHeld => ?_); refine with_tabW shares_Give_do.tab2 shares_Give_do.bits2 (fun HT_ HW_ => ?_)
  generalize w16.drew = w18 at HO1 BK211 HK HB hHeld ⊢
  refine pS 0 8 54 1 ?_
  refine tS 1 9 54 3 ?_
  refine pS 2 10 54 7 ?_
  refine pS 3 11 54 15 ?_
  refine pS 4 12 54 31 ?_
  refine pS 6 14 54 95 ?_
  refine tS 5 13 54 127 ?_
  refine pS 7 15 54 255 ?_
  refine pS 8 16 54 511 ?_
  refine pS 9 17 54 1023 ?_
  refine pS 10 18 54 2047 ?_
  refine tS 11 19 54 4095 ?_
  refine pS 12 20 54 8191 ?_
  refine pS 13 21 54 16383 ?_
  refine pS 14 22 54 32767 ?_
  refine pS 15 23 54 65535 ?_
  refine pS 17 25 54 196607 ?_
  refine tS 16 24 54 262143 ?_
  refine pS 18 26 54 524287 ?_
  refine pS 19 27 54 1048575 ?_
  refine pS 20 28 54 2097151 ?_
  refine uS 21 29 54 4194303 ?_
  refine uS 22 30 54 8388607 ?_
  refine uS 23 31 54 16777215 ?_
  refine uS 24 32 54 33554431 ?_
  refine uS 25 33 54 67108863 ?_
  refine pS 26 34 54 134217727 ?_
  refine pS 27 35 54 268435455 ?_
  refine uS 28 36 54 536870911 ?_
  refine uS 29 37 54 1073741823 ?_
  refine uS 30 38 54 2147483647 ?_
  refine pS 31 39 54 4294967295 ?_
  refine pS 32 40 54 8589934591 ?_
  refine uS 33 41 54 17179869183 ?_
  refine uS 34 42 54 34359738367 ?_
  refine uS 35 43 54 68719476735 ?_
  refine pS 36 44 54 137438953471 ?_
  refine pS 37 45 54 274877906943 ?_
  refine uS 38 46 54 549755813887 ?_
  refine uS 39 47 54 1099511627775 ?_
  refine uS 40 48 54 2199023255551 ?_
  refine uS 41 49 54 4398046511103 ?_
  refine uS 42 50 54 8796093022207 ?_
  refine uS 43 51 54 17592186044415 ?_
  refine uS 44 52 54 35184372088831 ?_
  refine uS 45 53 54 70368744177663 ?_
  refine uS 46 54 54 140737488355327 ?_
  refine uS 47 55 54 281474976710655 ?_
  refine uS 48 56 54 562949953421311 ?_
  refine uS 49 57 54 1125899906842623 ?_
  refine uS 50 58 54 2251799813685247 ?_
  refine uS 51 59 54 4503599627370495 ?_
  refine uS 52 60 54 9007199254740991 ?_
  refine pS 53 61 54 18014398509481983 ?_
  refine done_ (done_of HT_.out (by kernel_rfl)) ?_
  try go_wp2
  go_ret
  exact ⟨by first | rfl | (simp [errW_none, errW_some] <;> rfl) | (simp [*, errW_none, errW_some] <;> rfl), rC HO1, hbC _, by repeat (first | (with_reducible first | exact HK.out | apply Kept.alloc | apply Kept.drewN | apply Kept.drew | refine Kept.setCell ?_ (.inr GW211.out) _) | exact HK.out)⟩
 rw [if_neg c15] at H
 have c15b0 : decide ((l1.length : Int) ≤ a0_1) = false := decide_eq_false c15
 clear c15
 by_cases c19 : a0_0 = a0_1
 ·rw [if_pos c19] at H
  have c19b0 : (a0_0 == a0_1) = true := beq_iff_eq.mpr c19
  have c19b1 : (a0_0 != a0_1) = false := bne_eq_false_iff_eq.mpr c19
  clear c19
  simp only [Option.some.injEq, Prod.mk.injEq] at H
  obtain ⟨rfl, rfl⟩ := H
  go_enter Try.func74, Try.ntmps74
  try go_wp2_with (first | ((with_reducible refine gate_dst (N := 2) rfl ?_); refine bE 2 #[.int .i64 a0_0, .int .i64 a0_1, .int .i64 a0_2] 77 ?_; intro gb211 hg w20 hbox hb; replace HO1 := kO HO1 hb; have BK211 := ak (hbox); have GW211 := ak ((by rw [hg]; exact (by first | exact HK.out.1 | exact (show Kept w _ (fun k_ => P1_ k_) from by repeat (first | (with_reducible first | exact HK.out | apply Kept.alloc | apply Kept.drewN | apply Kept.drew) | exact HK.out)).1) : w.heap.size ≤ gb211)); replace HK := ak (Kept.below (S := (fun k_ => P1_ k_)) (by repeat (first | (with_reducible first | exact HK.out | apply Kept.alloc | apply Kept.drewN | apply Kept.drew) | exact HK.out)) hb); have GE211 := kG w0 hg; replace HB := kH _ hb; clear hb hbox hg; obtain ⟨Ao21, co21, eo21⟩ := Kd.R_slice HO1.out; subst eo21))
  replace HO1 := ak (Kd.R_drew HO1.out)
  replace BK211 := kd BK211
  replace HK := ak (Kept.drew HK.out)
  replace HB := ak (below_drew1 HB.out)
  refine sS (n := 54) (S := fun w' => w'.cell? ⟨gb211, 0, none⟩ = some (.int .i64 a0_0) ∧ w'.cell? ⟨gb211, 1, none⟩ = some (.int .i64 a0_1) ∧ w'.cell? ⟨gb211, 2, none⟩ = some (.int .i64 a0_2)) (ds := []) ⟨bc BK211 0, bc BK211 1, bc BK211 2⟩ (fun hHeld => ?_); refine with_tabW shares_Give_do.tab2 shares_Give_do.bits2 (fun HT_ HW_ => ?_)
  generalize w20.drew = w22 at HO1 BK211 HK HB hHeld ⊢
  refine pS 0 8 54 1 ?_
  refine tS 1 9 54 3 ?_
  refine pS 2 10 54 7 ?_
  refine pS 3 11 54 15 ?_
  refine pS 4 12 54 31 ?_
  refine pS 6 14 54 95 ?_
  refine tS 5 13 54 127 ?_
  refine pS 7 15 54 255 ?_
  refine pS 8 16 54 511 ?_
  refine pS 9 17 54 1023 ?_
  refine pS 10 18 54 2047 ?_
  refine tS 11 19 54 4095 ?_
  refine pS 12 20 54 8191 ?_
  refine pS 13 21 54 16383 ?_
  refine pS 14 22 54 32767 ?_
  refine pS 15 23 54 65535 ?_
  refine pS 17 25 54 196607 ?_
  refine tS 16 24 54 262143 ?_
  refine pS 18 26 54 524287 ?_
  refine pS 19 27 54 1048575 ?_
  refine pS 20 28 54 2097151 ?_
  refine pS 21 29 54 4194303 ?_
  refine pS 23 31 54 12582911 ?_
  refine tS 22 30 54 16777215 ?_
  refine tS 24 32 54 33554431 ?_
  refine pS 25 33 54 67108863 ?_
  refine pS 26 34 54 134217727 ?_
  refine pS 27 35 54 268435455 ?_
  refine uS 28 36 54 536870911 ?_
  refine uS 29 37 54 1073741823 ?_
  refine uS 30 38 54 2147483647 ?_
  refine pS 31 39 54 4294967295 ?_
  refine pS 32 40 54 8589934591 ?_
  refine uS 33 41 54 17179869183 ?_
  refine uS 34 42 54 34359738367 ?_
  refine uS 35 43 54 68719476735 ?_
  refine pS 36 44 54 137438953471 ?_
  refine pS 37 45 54 274877906943 ?_
  refine uS 38 46 54 549755813887 ?_
  refine uS 39 47 54 1099511627775 ?_
  refine uS 40 48 54 2199023255551 ?_
  refine uS 41 49 54 4398046511103 ?_
  refine uS 42 50 54 8796093022207 ?_
  refine uS 43 51 54 17592186044415 ?_
  refine uS 44 52 54 35184372088831 ?_
  refine uS 45 53 54 70368744177663 ?_
  refine uS 46 54 54 140737488355327 ?_
  refine uS 47 55 54 281474976710655 ?_
  refine uS 48 56 54 562949953421311 ?_
  refine uS 49 57 54 1125899906842623 ?_
  refine uS 50 58 54 2251799813685247 ?_
  refine uS 51 59 54 4503599627370495 ?_
  refine uS 52 60 54 9007199254740991 ?_
  refine pS 53 61 54 18014398509481983 ?_
  refine done_ (done_of HT_.out (by kernel_rfl)) ?_
  try go_wp2
  go_ret
  exact ⟨by first | rfl | (simp [errW_none, errW_some] <;> rfl) | (simp [*, errW_none, errW_some] <;> rfl), rC HO1, hbC _, by repeat (first | (with_reducible first | exact HK.out | apply Kept.alloc | apply Kept.drewN | apply Kept.drew | refine Kept.setCell ?_ (.inr GW211.out) _) | exact HK.out)⟩
 rw [if_neg c19] at H
 have c19b0 : (a0_0 == a0_1) = false := beq_eq_false_iff_ne.mpr c19
 have c19b1 : (a0_0 != a0_1) = true := bne_iff_ne.mpr c19
 by_cases c23 : a0_2 < 1
 ·rw [if_pos c23] at H
  have c23b0 : decide (a0_2 < 1) = true := decide_eq_true c23
  clear c23
  simp only [Option.some.injEq, Prod.mk.injEq] at H
  obtain ⟨rfl, rfl⟩ := H
  go_enter Try.func74, Try.ntmps74
  try go_wp2_with (first | ((with_reducible refine gate_dst (N := 2) rfl ?_); refine bE 2 #[.int .i64 a0_0, .int .i64 a0_1, .int .i64 a0_2] 77 ?_; intro gb211 hg w24 hbox hb; replace HO1 := kO HO1 hb; have BK211 := ak (hbox); have GW211 := ak ((by rw [hg]; exact (by first | exact HK.out.1 | exact (show Kept w _ (fun k_ => P1_ k_) from by repeat (first | (with_reducible first | exact HK.out | apply Kept.alloc | apply Kept.drewN | apply Kept.drew) | exact HK.out)).1) : w.heap.size ≤ gb211)); replace HK := ak (Kept.below (S := (fun k_ => P1_ k_)) (by repeat (first | (with_reducible first | exact HK.out | apply Kept.alloc | apply Kept.drewN | apply Kept.drew) | exact HK.out)) hb); have GE211 := kG w0 hg; replace HB := kH _ hb; clear hb hbox hg; obtain ⟨Ao25, co25, eo25⟩ := Kd.R_slice HO1.out; subst eo25))
  replace HO1 := ak (Kd.R_drew HO1.out)
  replace BK211 := kd BK211
  replace HK := ak (Kept.drew HK.out)
  replace HB := ak (below_drew1 HB.out)
  refine sS (n := 54) (S := fun w' => w'.cell? ⟨gb211, 0, none⟩ = some (.int .i64 a0_0) ∧ w'.cell? ⟨gb211, 1, none⟩ = some (.int .i64 a0_1) ∧ w'.cell? ⟨gb211, 2, none⟩ = some (.int .i64 a0_2)) (ds := []) ⟨bc BK211 0, bc BK211 1, bc BK211 2⟩ (fun hHeld => ?_); refine with_tabW shares_Give_do.tab2 shares_Give_do.bits2 (fun HT_ HW_ => ?_)
  generalize w24.drew = w26 at HO1 BK211 HK HB hHeld ⊢
  refine pS 0 8 54 1 ?_
  refine tS 1 9 54 3 ?_
  refine pS 2 10 54 7 ?_
  refine pS 3 11 54 15 ?_
  refine pS 4 12 54 31 ?_
  refine pS 6 14 54 95 ?_
  refine tS 5 13 54 127 ?_
  refine pS 7 15 54 255 ?_
  refine pS 8 16 54 511 ?_
  refine pS 9 17 54 1023 ?_
  refine pS 10 18 54 2047 ?_
  refine tS 11 19 54 4095 ?_
  refine pS 12 20 54 8191 ?_
  refine pS 13 21 54 16383 ?_
  refine pS 14 22 54 32767 ?_
  refine pS 15 23 54 65535 ?_
  refine pS 17 25 54 196607 ?_
  refine tS 16 24 54 262143 ?_
  refine pS 18 26 54 524287 ?_
  refine pS 19 27 54 1048575 ?_
  refine pS 20 28 54 2097151 ?_
  refine pS 21 29 54 4194303 ?_
  refine pS 23 31 54 12582911 ?_
  refine tS 22 30 54 16777215 ?_
  refine tS 24 32 54 33554431 ?_
  refine pS 25 33 54 67108863 ?_
  refine pS 26 34 54 134217727 ?_
  refine pS 27 35 54 268435455 ?_
  refine pS 28 36 54 536870911 ?_
  refine tS 29 37 54 1073741823 ?_
  refine pS 30 38 54 2147483647 ?_
  refine pS 31 39 54 4294967295 ?_
  refine pS 32 40 54 8589934591 ?_
  refine uS 33 41 54 17179869183 ?_
  refine uS 34 42 54 34359738367 ?_
  refine uS 35 43 54 68719476735 ?_
  refine pS 36 44 54 137438953471 ?_
  refine pS 37 45 54 274877906943 ?_
  refine uS 38 46 54 549755813887 ?_
  refine uS 39 47 54 1099511627775 ?_
  refine uS 40 48 54 2199023255551 ?_
  refine uS 41 49 54 4398046511103 ?_
  refine uS 42 50 54 8796093022207 ?_
  refine uS 43 51 54 17592186044415 ?_
  refine uS 44 52 54 35184372088831 ?_
  refine uS 45 53 54 70368744177663 ?_
  refine uS 46 54 54 140737488355327 ?_
  refine uS 47 55 54 281474976710655 ?_
  refine uS 48 56 54 562949953421311 ?_
  refine uS 49 57 54 1125899906842623 ?_
  refine uS 50 58 54 2251799813685247 ?_
  refine uS 51 59 54 4503599627370495 ?_
  refine uS 52 60 54 9007199254740991 ?_
  refine pS 53 61 54 18014398509481983 ?_
  refine done_ (done_of HT_.out (by kernel_rfl)) ?_
  try go_wp2
  go_ret
  exact ⟨by first | rfl | (simp [errW_none, errW_some] <;> rfl) | (simp [*, errW_none, errW_some] <;> rfl), rC HO1, hbC _, by repeat (first | (with_reducible first | exact HK.out | apply Kept.alloc | apply Kept.drewN | apply Kept.drew | refine Kept.setCell ?_ (.inr GW211.out) _) | exact HK.out)⟩
 rw [if_neg c23] at H
 have c23b0 : decide (a0_2 < 1) = false := decide_eq_false c23
 clear c23
 by_cases c27 : a0_2 > 20
 ·rw [if_pos c27] at H
  have c27b0 : decide (20 < a0_2) = true := decide_eq_true c27
  clear c27
  simp only [Option.some.injEq, Prod.mk.injEq] at H
  obtain ⟨rfl, rfl⟩ := H
  go_enter Try.func74, Try.ntmps74
  try go_wp2_with (first | ((with_reducible refine gate_dst (N := 2) rfl ?_); refine bE 2 #[.int .i64 a0_0, .int .i64 a0_1, .int .i64 a0_2] 77 ?_; intro gb211 hg w28 hbox hb; replace HO1 := kO HO1 hb; have BK211 := ak (hbox); have GW211 := ak ((by rw [hg]; exact (by first | exact HK.out.1 | exact (show Kept w _ (fun k_ => P1_ k_) from by repeat (first | (with_reducible first | exact HK.out | apply Kept.alloc | apply Kept.drewN | apply Kept.drew) | exact HK.out)).1) : w.heap.size ≤ gb211)); replace HK := ak (Kept.below (S := (fun k_ => P1_ k_)) (by repeat (first | (with_reducible first | exact HK.out | apply Kept.alloc | apply Kept.drewN | apply Kept.drew) | exact HK.out)) hb); have GE211 := kG w0 hg; replace HB := kH _ hb; clear hb hbox hg; obtain ⟨Ao29, co29, eo29⟩ := Kd.R_slice HO1.out; subst eo29))
  replace HO1 := ak (Kd.R_drew HO1.out)
  replace BK211 := kd BK211
  replace HK := ak (Kept.drew HK.out)
  replace HB := ak (below_drew1 HB.out)
  refine sS (n := 54) (S := fun w' => w'.cell? ⟨gb211, 0, none⟩ = some (.int .i64 a0_0) ∧ w'.cell? ⟨gb211, 1, none⟩ = some (.int .i64 a0_1) ∧ w'.cell? ⟨gb211, 2, none⟩ = some (.int .i64 a0_2)) (ds := []) ⟨bc BK211 0, bc BK211 1, bc BK211 2⟩ (fun hHeld => ?_); refine with_tabW shares_Give_do.tab2 shares_Give_do.bits2 (fun HT_ HW_ => ?_)
  generalize w28.drew = w30 at HO1 BK211 HK HB hHeld ⊢
  refine pS 0 8 54 1 ?_
  refine tS 1 9 54 3 ?_
  refine pS 2 10 54 7 ?_
  refine pS 3 11 54 15 ?_
  refine pS 4 12 54 31 ?_
  refine pS 6 14 54 95 ?_
  refine tS 5 13 54 127 ?_
  refine pS 7 15 54 255 ?_
  refine pS 8 16 54 511 ?_
  refine pS 9 17 54 1023 ?_
  refine pS 10 18 54 2047 ?_
  refine tS 11 19 54 4095 ?_
  refine pS 12 20 54 8191 ?_
  refine pS 13 21 54 16383 ?_
  refine pS 14 22 54 32767 ?_
  refine pS 15 23 54 65535 ?_
  refine pS 17 25 54 196607 ?_
  refine tS 16 24 54 262143 ?_
  refine pS 18 26 54 524287 ?_
  refine pS 19 27 54 1048575 ?_
  refine pS 20 28 54 2097151 ?_
  refine pS 21 29 54 4194303 ?_
  refine pS 23 31 54 12582911 ?_
  refine tS 22 30 54 16777215 ?_
  refine tS 24 32 54 33554431 ?_
  refine pS 25 33 54 67108863 ?_
  refine pS 26 34 54 134217727 ?_
  refine pS 27 35 54 268435455 ?_
  refine pS 28 36 54 536870911 ?_
  refine tS 29 37 54 1073741823 ?_
  refine pS 30 38 54 2147483647 ?_
  refine pS 31 39 54 4294967295 ?_
  refine pS 32 40 54 8589934591 ?_
  refine pS 33 41 54 17179869183 ?_
  refine tS 34 42 54 34359738367 ?_
  refine pS 35 43 54 68719476735 ?_
  refine pS 36 44 54 137438953471 ?_
  refine pS 37 45 54 274877906943 ?_
  refine uS 38 46 54 549755813887 ?_
  refine uS 39 47 54 1099511627775 ?_
  refine uS 40 48 54 2199023255551 ?_
  refine uS 41 49 54 4398046511103 ?_
  refine uS 42 50 54 8796093022207 ?_
  refine uS 43 51 54 17592186044415 ?_
  refine uS 44 52 54 35184372088831 ?_
  refine uS 45 53 54 70368744177663 ?_
  refine uS 46 54 54 140737488355327 ?_
  refine uS 47 55 54 281474976710655 ?_
  refine uS 48 56 54 562949953421311 ?_
  refine uS 49 57 54 1125899906842623 ?_
  refine uS 50 58 54 2251799813685247 ?_
  refine uS 51 59 54 4503599627370495 ?_
  refine uS 52 60 54 9007199254740991 ?_
  refine pS 53 61 54 18014398509481983 ?_
  refine done_ (done_of HT_.out (by kernel_rfl)) ?_
  try go_wp2
  go_ret
  exact ⟨by first | rfl | (simp [errW_none, errW_some] <;> rfl) | (simp [*, errW_none, errW_some] <;> rfl), rC HO1, hbC _, by repeat (first | (with_reducible first | exact HK.out | apply Kept.alloc | apply Kept.drewN | apply Kept.drew | refine Kept.setCell ?_ (.inr GW211.out) _) | exact HK.out)⟩
 rw [if_neg c27] at H
 have c27b0 : decide (20 < a0_2) = false := decide_eq_false c27
 clear c27
 by_cases c31 : 0 ≤ a0_0
 rotate_left
 ·rw [if_neg c31] at H
  exact absurd H (by simp)
 rw [if_pos c31] at H
 have c31b0 : decide (0 ≤ a0_0) = true := decide_eq_true c31
 clear c31
 by_cases c32 : a0_0 < (l1.length : Int)
 rotate_left
 ·rw [if_neg c32] at H
  exact absurd H (by simp)
 rw [if_pos c32] at H
 have c32b0 : decide (a0_0 < (l1.length : Int)) = true := decide_eq_true c32
 clear c32
 by_cases c33 : 0 ≤ a0_1
 rotate_left
 ·rw [if_neg c33] at H
  exact absurd H (by simp)
 rw [if_pos c33] at H
 have c33b0 : decide (0 ≤ a0_1) = true := decide_eq_true c33
 clear c33
 by_cases c34 : a0_1 < (l1.length : Int)
 rotate_left
 ·rw [if_neg c34] at H
  exact absurd H (by simp)
 rw [if_pos c34] at H
 have c34b0 : decide (a0_1 < (l1.length : Int)) = true := decide_eq_true c34
 clear c34
 by_cases c35 : (wrap64 ((rd l1 a0_0) - (rd l1 a0_1))) < (wrap64 (2 * a0_2))
 ·rw [if_pos c35] at H
  have c35b0 : decide ((wrap64 ((rd l1 a0_0) - (rd l1 a0_1))) < (wrap64 (2 * a0_2))) = true := decide_eq_true c35
  clear c35
  simp only [Option.some.injEq, Prod.mk.injEq] at H
  obtain ⟨rfl, rfl⟩ := H
  go_enter Try.func74, Try.ntmps74
  try go_wp2_with (first | ((with_reducible refine gate_dst (N := 2) rfl ?_); refine bE 2 #[.int .i64 a0_0, .int .i64 a0_1, .int .i64 a0_2] 77 ?_; intro gb211 hg w36 hbox hb; replace HO1 := kO HO1 hb; have BK211 := ak (hbox); have GW211 := ak ((by rw [hg]; exact (by first | exact HK.out.1 | exact (show Kept w _ (fun k_ => P1_ k_) from by repeat (first | (with_reducible first | exact HK.out | apply Kept.alloc | apply Kept.drewN | apply Kept.drew) | exact HK.out)).1) : w.heap.size ≤ gb211)); replace HK := ak (Kept.below (S := (fun k_ => P1_ k_)) (by repeat (first | (with_reducible first | exact HK.out | apply Kept.alloc | apply Kept.drewN | apply Kept.drew) | exact HK.out)) hb); have GE211 := kG w0 hg; replace HB := kH _ hb; clear hb hbox hg; obtain ⟨Ao37, co37, eo37⟩ := Kd.R_slice HO1.out; subst eo37))
  replace HO1 := ak (Kd.R_drew HO1.out)
  replace BK211 := kd BK211
  replace HK := ak (Kept.drew HK.out)
  replace HB := ak (below_drew1 HB.out)
  have p212 : 0 ≤ (a0_0 : Int) := dA
  have q212 : a0_0 < (l1.length : Int) := dA
  obtain ⟨ad212, e212, hx212_0⟩ := Kd.at_int (Kd.R_reads' HO1.out).2.2 a0_0 p212 q212
  cases e212
  replace p212 := eq_true p212
  replace q212 := eq_true q212
  have p213 : 0 ≤ (a0_1 : Int) := dA
  have q213 : a0_1 < (l1.length : Int) := dA
  obtain ⟨ad213, e213, hx213_0⟩ := Kd.at_int (Kd.R_reads' HO1.out).2.2 a0_1 p213 q213
  obtain rfl : ad212 = ad213 := (by injection e213)
  replace p213 := eq_true p213
  replace q213 := eq_true q213
  refine sS (n := 54) (S := fun w' => w'.cell? ⟨gb211, 0, none⟩ = some (.int .i64 a0_0) ∧ w'.cell? ⟨gb211, 1, none⟩ = some (.int .i64 a0_1) ∧ w'.cell? ⟨gb211, 2, none⟩ = some (.int .i64 a0_2) ∧ w'.cell? (ad212.add (a0_0).toNat) = some (.int .i64 (rd l1 a0_0)) ∧ w'.cell? (ad212.add (a0_1).toNat) = some (.int .i64 (rd l1 a0_1))) (ds := []) ⟨bc BK211 0, bc BK211 1, bc BK211 2, hx212_0, hx213_0⟩ (fun hHeld => ?_); refine with_tabW shares_Give_do.tab2 shares_Give_do.bits2 (fun HT_ HW_ => ?_)
  generalize w36.drew = w38 at HO1 BK211 HK HB hx212_0 hx213_0 hHeld ⊢
  refine pS 0 8 54 1 ?_
  refine tS 1 9 54 3 ?_
  refine pS 2 10 54 7 ?_
  refine pS 3 11 54 15 ?_
  refine pS 4 12 54 31 ?_
  refine pS 6 14 54 95 ?_
  refine tS 5 13 54 127 ?_
  refine pS 7 15 54 255 ?_
  refine pS 8 16 54 511 ?_
  refine pS 9 17 54 1023 ?_
  refine pS 10 18 54 2047 ?_
  refine tS 11 19 54 4095 ?_
  refine pS 12 20 54 8191 ?_
  refine pS 13 21 54 16383 ?_
  refine pS 14 22 54 32767 ?_
  refine pS 15 23 54 65535 ?_
  refine pS 17 25 54 196607 ?_
  refine tS 16 24 54 262143 ?_
  refine pS 18 26 54 524287 ?_
  refine pS 19 27 54 1048575 ?_
  refine pS 20 28 54 2097151 ?_
  refine pS 21 29 54 4194303 ?_
  refine pS 23 31 54 12582911 ?_
  refine tS 22 30 54 16777215 ?_
  refine tS 24 32 54 33554431 ?_
  refine pS 25 33 54 67108863 ?_
  refine pS 26 34 54 134217727 ?_
  refine pS 27 35 54 268435455 ?_
  refine pS 28 36 54 536870911 ?_
  refine tS 29 37 54 1073741823 ?_
  refine pS 30 38 54 2147483647 ?_
  refine pS 31 39 54 4294967295 ?_
  refine pS 32 40 54 8589934591 ?_
  refine pS 33 41 54 17179869183 ?_
  refine tS 34 42 54 34359738367 ?_
  refine pS 35 43 54 68719476735 ?_
  refine pS 36 44 54 137438953471 ?_
  refine pS 37 45 54 274877906943 ?_
  refine pS 38 46 54 549755813887 ?_
  refine pS 39 47 54 1099511627775 ?_
  refine pS 43 51 54 9895604649983 ?_
  refine pS 44 52 54 27487790694399 ?_
  refine pS 49 57 54 590437744115711 ?_
  refine tS 40 48 54 591537255743487 ?_
  refine pS 41 49 54 593736278999039 ?_
  refine tS 42 50 54 598134325510143 ?_
  refine tS 45 53 54 633318697598975 ?_
  refine pS 46 54 54 703687441776639 ?_
  refine tS 47 55 54 844424930131967 ?_
  refine pS 48 56 54 1125899906842623 ?_
  refine tS 50 58 54 2251799813685247 ?_
  refine pS 51 59 54 4503599627370495 ?_
  refine pS 52 60 54 9007199254740991 ?_
  refine pS 53 61 54 18014398509481983 ?_
  refine done_ (done_of HT_.out (by kernel_rfl)) ?_
  try go_wp2
  go_ret
  exact ⟨by first | rfl | (simp [errW_none, errW_some] <;> rfl) | (simp [*, errW_none, errW_some] <;> rfl), rC HO1, hbC _, by repeat (first | (with_reducible first | exact HK.out | apply Kept.alloc | apply Kept.drewN | apply Kept.drew | refine Kept.setCell ?_ (.inr GW211.out) _) | exact HK.out)⟩
 rw [if_neg c35] at H
 have c35b0 : decide ((wrap64 ((rd l1 a0_0) - (rd l1 a0_1))) < (wrap64 (2 * a0_2))) = false := decide_eq_false c35
 clear c35
 obtain ⟨y215, hy215⟩ : ∃ y_ : List Int, y_ = (l1.set (a0_0 : Int).toNat (wrap64 ((rd l1 a0_0) - a0_2))) := ⟨_, rfl⟩
 replace H : (some (true, (y215.set (a0_1 : Int).toNat (wrap64 ((rd y215 a0_1) + a0_2))))) = some (r1, r2) := by first | (rw [hy215]; with_reducible exact H) | (have H2_ := (Option.bind_some _ _).symm.trans H; rw [hy215]; with_reducible exact H2_) | (have H2_ := (Option.bind_some _ _).symm.trans H; with_reducible exact H2_) | with_reducible exact H | (rw [hy215]; exact H) | exact H
 have Ny215 := Aside0.mk hy215
 clear hy215
 obtain ⟨y217, hy217⟩ : ∃ y_ : List Int, y_ = (y215.set (a0_1 : Int).toNat (wrap64 ((rd y215 a0_1) + a0_2))) := ⟨_, rfl⟩
 replace H : (some (true, y217)) = some (r1, r2) := by first | (rw [hy217]; with_reducible exact H) | (have H2_ := (Option.bind_some _ _).symm.trans H; rw [hy217]; with_reducible exact H2_) | (have H2_ := (Option.bind_some _ _).symm.trans H; with_reducible exact H2_) | with_reducible exact H | (rw [hy217]; exact H) | exact H
 have Ny217 := Aside0.mk hy217
 clear hy217
 simp only [Option.some.injEq, Prod.mk.injEq] at H
 obtain ⟨rfl, rfl⟩ := H
 go_enter Try.func74, Try.ntmps74
 try go_wp2_with (first | ((with_reducible refine gate_dst (N := 2) rfl ?_); refine bE 2 #[.int .i64 a0_0, .int .i64 a0_1, .int .i64 a0_2] 77 ?_; intro gb211 hg w41 hbox hb; replace HO1 := kO HO1 hb; have BK211 := ak (hbox); have GW211 := ak ((by rw [hg]; exact (by first | exact HK.out.1 | exact (show Kept w _ (fun k_ => P1_ k_) from by repeat (first | (with_reducible first | exact HK.out | apply Kept.alloc | apply Kept.drewN | apply Kept.drew) | exact HK.out)).1) : w.heap.size ≤ gb211)); replace HK := ak (Kept.below (S := (fun k_ => P1_ k_)) (by repeat (first | (with_reducible first | exact HK.out | apply Kept.alloc | apply Kept.drewN | apply Kept.drew) | exact HK.out)) hb); have GE211 := kG w0 hg; replace HB := kH _ hb; clear hb hbox hg; obtain ⟨Ao42, co42, eo42⟩ := Kd.R_slice HO1.out; subst eo42))
 replace HO1 := ak (Kd.R_drew HO1.out)
 replace BK211 := kd BK211
 replace HK := ak (Kept.drew HK.out)
 replace HB := ak (below_drew1 HB.out)
 have p212 : 0 ≤ (a0_0 : Int) := dA
 have q212 : a0_0 < (l1.length : Int) := dA
 obtain ⟨ad212, e212, hx212_0⟩ := Kd.at_int (Kd.R_reads' HO1.out).2.2 a0_0 p212 q212
 cases e212
 replace p212 := eq_true p212
 replace q212 := eq_true q212
 have p213 : 0 ≤ (a0_1 : Int) := dA
 have q213 : a0_1 < (l1.length : Int) := dA
 obtain ⟨ad213, e213, hx213_0⟩ := Kd.at_int (Kd.R_reads' HO1.out).2.2 a0_1 p213 q213
 obtain rfl : ad212 = ad213 := (by injection e213)
 replace p213 := eq_true p213
 replace q213 := eq_true q213
 refine sS (n := 54) (S := fun w' => w'.cell? ⟨gb211, 0, none⟩ = some (.int .i64 a0_0) ∧ w'.cell? ⟨gb211, 1, none⟩ = some (.int .i64 a0_1) ∧ w'.cell? ⟨gb211, 2, none⟩ = some (.int .i64 a0_2) ∧ w'.cell? (ad212.add (a0_0).toNat) = some (.int .i64 (rd l1 a0_0)) ∧ w'.cell? (ad212.add (a0_1).toNat) = some (.int .i64 (rd l1 a0_1))) (ds := []) ⟨bc BK211 0, bc BK211 1, bc BK211 2, hx212_0, hx213_0⟩ (fun hHeld => ?_); refine with_tabW shares_Give_do.tab2 shares_Give_do.bits2 (fun HT_ HW_ => ?_)
 generalize w41.drew = w43 at HO1 BK211 HK HB hx212_0 hx213_0 hHeld ⊢
 refine pS 0 8 54 1 ?_
 refine tS 1 9 54 3 ?_
 refine pS 2 10 54 7 ?_
 refine pS 3 11 54 15 ?_
 refine pS 4 12 54 31 ?_
 refine pS 6 14 54 95 ?_
 refine tS 5 13 54 127 ?_
 refine pS 7 15 54 255 ?_
 refine pS 8 16 54 511 ?_
 refine pS 9 17 54 1023 ?_
 refine pS 10 18 54 2047 ?_
 refine tS 11 19 54 4095 ?_
 refine pS 12 20 54 8191 ?_
 refine pS 13 21 54 16383 ?_
 refine pS 14 22 54 32767 ?_
 refine pS 15 23 54 65535 ?_
 refine pS 17 25 54 196607 ?_
 refine tS 16 24 54 262143 ?_
 refine pS 18 26 54 524287 ?_
 refine pS 19 27 54 1048575 ?_
 refine pS 20 28 54 2097151 ?_
 refine pS 21 29 54 4194303 ?_
 refine pS 23 31 54 12582911 ?_
 refine tS 22 30 54 16777215 ?_
 refine tS 24 32 54 33554431 ?_
 refine pS 25 33 54 67108863 ?_
 refine pS 26 34 54 134217727 ?_
 refine pS 27 35 54 268435455 ?_
 refine pS 28 36 54 536870911 ?_
 refine tS 29 37 54 1073741823 ?_
 refine pS 30 38 54 2147483647 ?_
 refine pS 31 39 54 4294967295 ?_
 refine pS 32 40 54 8589934591 ?_
 refine pS 33 41 54 17179869183 ?_
 refine tS 34 42 54 34359738367 ?_
 refine pS 35 43 54 68719476735 ?_
 refine pS 36 44 54 137438953471 ?_
 refine pS 37 45 54 274877906943 ?_
 refine pS 38 46 54 549755813887 ?_
 refine pS 39 47 54 1099511627775 ?_
 refine pS 43 51 54 9895604649983 ?_
 refine pS 44 52 54 27487790694399 ?_
 refine pS 49 57 54 590437744115711 ?_
 refine tS 40 48 54 591537255743487 ?_
 refine pS 41 49 54 593736278999039 ?_
 refine tS 42 50 54 598134325510143 ?_
 refine tS 45 53 54 633318697598975 ?_
 refine pS 46 54 54 703687441776639 ?_
 refine tS 47 55 54 844424930131967 ?_
 refine pS 48 56 54 1125899906842623 ?_
 refine tS 50 58 54 2251799813685247 ?_
 refine pS 51 59 54 4503599627370495 ?_
 refine pS 52 60 54 9007199254740991 ?_
 refine pS 53 61 54 18014398509481983 ?_
 refine done_ (done_of HT_.out (by kernel_rfl)) ?_
 try go_wp2
 replace HO1 := ak (Kd.R_drew HO1.out)
 replace BK211 := kd BK211
 replace HK := ak (Kept.drew HK.out)
 replace HB := ak (below_drew1 HB.out)
 have p214 : 0 ≤ (a0_0 : Int) := dA
 have q214 : a0_0 < (l1.length : Int) := dA
 obtain ⟨ad214, e214, hx214_0⟩ := Kd.at_int (Kd.R_reads' HO1.out).2.2 a0_0 p214 q214
 obtain rfl : ad212 = ad214 := (by injection e214)
 replace p214 := eq_true p214
 replace q214 := eq_true q214
 have p39 : 0 ≤ (a0_0 : Int) := dA
 have q39 : (a0_0 : Int) < ((l1.length : Int) : Int) := dA
 obtain ⟨go39, co39, eo39, gb39, gl39, cl39, HG39⟩ := Kd.R_form HO1.out (by omega)
 (first | cases eo39 | (injection eo39 with ea_ en_ ec_; (first | subst ea_ | (injection ea_ with ea_; subst ea_)); subst ec_; clear en_))
 have GB39 := Aside0.mk gb39
 have GG39 := Aside0.mk HG39
 clear gb39 gl39 HG39
 have HMgo39 := ak (show (P1_ go39 ∨ w.heap.size ≤ go39) from (HO1.out.1 _ rfl))
 (first | simp only [add_plain] at hx212_0 | skip)
 (first | simp only [add_plain] at hx213_0 | skip)
 (first | simp only [add_plain] at hx214_0 | skip)
 obtain ⟨hx39_0, hf39_0⟩ := Kd.R_celln 0 HO1.out (a0_0 : Int) p39 q39
 replace p39 := eq_true p39
 replace q39 := eq_true q39
 have HP45 := Kd.R_putn HO1.out (a0_0 : Int) (wrap64 ((rd l1 a0_0) - a0_2))
 rw [← Ny215.out] at HP45
 have HQ45 := Aside0.mk HP45
 clear HP45
 refine sS (n := 10) (S := fun w' => w'.cell? ⟨gb211, 0, none⟩ = some (.int .i64 a0_0) ∧ w'.cell? ⟨gb211, 1, none⟩ = some (.int .i64 a0_1) ∧ w'.cell? ⟨gb211, 2, none⟩ = some (.int .i64 a0_2) ∧ w'.cell? ⟨go39, (a0_0).toNat, none⟩ = some (.int .i64 (rd l1 a0_0))) (ds := [9]) ⟨bc BK211 0, bc BK211 1, bc BK211 2, hx214_0⟩ (fun hHeld => ?_); refine with_tabW shares_Give_do.tab4 shares_Give_do.bits4 (fun HT_ HW_ => ?_)
 generalize w43.drew = w44 at HO1 BK211 HK HB GG39 HQ45 hf39_0 hx212_0 hx213_0 hx214_0 hx39_0 hHeld ⊢
 refine pS 0 62 10 1 ?_
 refine pS 1 63 10 3 ?_
 refine pS 5 67 10 35 ?_
 refine tS 2 64 10 39 ?_
 refine pS 3 65 10 47 ?_
 refine tS 4 66 10 63 ?_
 refine tS 6 68 10 127 ?_
 refine pS 7 69 10 255 ?_
 refine pS 8 70 10 511 ?_
 refine last_ (i := 9) (N := none) (ba 10 1023) rfl rfl (one_of HT_.out (by kernel_rfl)) (by decide) (fun K hK => ?_)
 refine skip_ (w1 := ?_) (by rfl) rfl ?_ ?_
 rotate_left
 ·go_simp
  rfl
 refine hK.out _ _ ?_
 clear hK K
 refine done_ (done_of HT_.out (by kernel_rfl)) ?_
 try go_wp2
 have n0_ : Aside0 (Kd.R (Kd.int .i64) 3 (w44.setCell ⟨go39, (a0_0 : Int).toNat, none⟩ (.int .i64 (wrap64 ((rd l1 a0_0) - a0_2)))) w0.heap.size (fun k_ => (P1_ k_ ∨ w.heap.size ≤ k_)) (.slice (some ⟨go39, 0, none⟩) l1.length co42) y215) := ⟨rD (HQ45.out)⟩
 have n1_ : Aside0 ((w44.setCell ⟨go39, (a0_0 : Int).toNat, none⟩ (.int .i64 (wrap64 ((rd l1 a0_0) - a0_2)))).heap[gb211]? = some (.cells #[.int .i64 a0_0, .int .i64 a0_1, .int .i64 a0_2] 77 (0, 0))) := ⟨by (with_reducible repeat (first | refine blk_drewN ?_ _ | refine blk_drew ?_ | refine blk_alloc ?_ _)); refine blk_far ?_ (by have h_ := Kd.R_ne HO1.out BK211.out (by decide); intro e_; exact h_ (by rw [e_]; rfl)) _; (with_reducible repeat (first | refine blk_drewN ?_ _ | refine blk_drew ?_ | refine blk_alloc ?_ _)); exact BK211.out⟩
 have n2_ : Aside0 (Kept w (w44.setCell ⟨go39, (a0_0 : Int).toNat, none⟩ (.int .i64 (wrap64 ((rd l1 a0_0) - a0_2)))) (fun k_ => P1_ k_)) := ⟨by repeat (first | (with_reducible first | exact HK.out | apply Kept.alloc | apply Kept.drewN | apply Kept.drew | refine Kept.setCell ?_ HMgo39.out _ | refine Kept.setCell ?_ (.inr GW211.out) _) | exact HK.out)⟩
 have n3_ : Aside0 (Below w0.heap.size w0 (w44.setCell ⟨go39, (a0_0 : Int).toNat, none⟩ (.int .i64 (wrap64 ((rd l1 a0_0) - a0_2))))) := ⟨by repeat (first | (with_reducible first | exact HB.out | apply below_alloc | apply pw_below_drewN | apply below_drew1 | refine below_set ?_ GB39.out | refine below_set ?_ GE211.out) | exact HB.out)⟩
 (try clear HO1)
 (try clear BK211)
 (try clear HK)
 (try clear HB)
 generalize (w44.setCell ⟨go39, (a0_0 : Int).toNat, none⟩ (.int .i64 (wrap64 ((rd l1 a0_0) - a0_2)))) = w46 at n0_ n1_ n2_ n3_ ⊢
 have HO1 := n0_
 have BK211 := n1_
 have HK := n2_
 have HB := n3_
 clear n0_ n1_ n2_ n3_
 replace HO1 := ak (Kd.R_drew HO1.out)
 replace BK211 := kd BK211
 replace HK := ak (Kept.drew HK.out)
 replace HB := ak (below_drew1 HB.out)
 have p216 : 0 ≤ (a0_1 : Int) := dA
 have q216 : a0_1 < (y215.length : Int) := (by have h_ : (a0_1 : Int) < ((l1.length : Int) : Int) := dA; first | (have e_ := (Kd.R_reads' HO1.out).1; omega) | simpa only [Ny215.out, List.length_set] using h_)
 have ql216 : ((a0_1 : Int) < ((l1.length : Int) : Int)) = True := eq_true (dA)
 obtain ⟨ad216, e216, hx216_0⟩ := Kd.at_int (Kd.R_reads' HO1.out).2.2 a0_1 p216 q216
 obtain rfl : (⟨go39, 0, none⟩ : Addr) = ad216 := (by injection e216)
 (first | simp only [add_plain] at hx216_0 | simp only [add_at] at hx216_0 | simp only [Addr.add, Nat.zero_add] at hx216_0 | skip)
 replace p216 := eq_true p216
 replace q216 := eq_true q216
 have p40 : 0 ≤ (a0_1 : Int) := dA
 have q40 : (a0_1 : Int) < ((l1.length : Int) : Int) := dA
 obtain ⟨hx40_0, hf40_0⟩ := Kd.R_celln 0 HO1.out (a0_1 : Int) p40 q40
 replace p40 := eq_true p40
 replace q40 := eq_true q40
 have HP48 := Kd.R_putn HO1.out (a0_1 : Int) (wrap64 ((rd y215 a0_1) + a0_2))
 rw [← Ny217.out] at HP48
 have HQ48 := Aside0.mk HP48
 clear HP48
 refine sS (n := 10) (S := fun w' => w'.cell? ⟨gb211, 0, none⟩ = some (.int .i64 a0_0) ∧ w'.cell? ⟨gb211, 1, none⟩ = some (.int .i64 a0_1) ∧ w'.cell? ⟨gb211, 2, none⟩ = some (.int .i64 a0_2) ∧ w'.cell? ⟨go39, (a0_1).toNat, none⟩ = some (.int .i64 (rd y215 a0_1))) (ds := [9]) ⟨bc BK211 0, bc BK211 1, bc BK211 2, hx216_0⟩ (fun hHeld => ?_); refine with_tabW shares_Give_do.tab5 shares_Give_do.bits5 (fun HT_ HW_ => ?_)
 generalize w46.drew = w47 at HO1 BK211 HK HB HQ45 HQ48 hf40_0 hx216_0 hx40_0 hHeld ⊢
 refine pS 0 71 10 1 ?_
 refine pS 1 72 10 3 ?_
 refine pS 5 76 10 35 ?_
 refine tS 2 73 10 39 ?_
 refine pS 3 74 10 47 ?_
 refine tS 4 75 10 63 ?_
 refine tS 6 77 10 127 ?_
 refine pS 7 78 10 255 ?_
 refine pS 8 79 10 511 ?_
 refine last_ (i := 9) (N := none) (ba 10 1023) rfl rfl (one_of HT_.out (by kernel_rfl)) (by decide) (fun K hK => ?_)
 refine skip_ (w1 := ?_) (by rfl) rfl ?_ ?_
 rotate_left
 ·go_simp
  rfl
 refine hK.out _ _ ?_
 clear hK K
 refine done_ (done_of HT_.out (by kernel_rfl)) ?_
 try go_wp2
 go_ret
 exact ⟨by first | rfl | (simp [errW_none, errW_some] <;> rfl) | (simp [*, errW_none, errW_some] <;> rfl), rD (HQ48.out), by repeat (first | (with_reducible first | exact HB.out | apply below_alloc | apply pw_below_drewN | apply below_drew1 | refine below_set ?_ GB39.out | refine below_set ?_ GE211.out) | exact HB.out), by repeat (first | (with_reducible first | exact HK.out | apply Kept.alloc | apply Kept.drewN | apply Kept.drew | refine Kept.setCell ?_ HMgo39.out _ | refine Kept.setCell ?_ (.inr GW211.out) _) | exact HK.out)⟩

end Go.Proofs.Ytefmafbbnkkpjaa.X
