-- Written by a program of this work (wip/xprint.py, over the kit's printer) out of the translation.
import Derived.Test.YtkieehjpnjplmaaX0
import Derived.Test.YtkieehjpnjplmaaXG1a
import Derived.Test.YtkieehjpnjplmaaXG2a
import Derived.Test.YtkieehjpnjplmaaXf22
import Derived.Test.YtkieehjpnjplmaaE25
namespace Go.Proofs.Ytkieehjpnjplmaa.X
open Go.RowKit Go.Proofs.YtkieehjpnjplmaaW.PrintWords Go.Proofs.YtkieehjpnjplmaaW.PrintLast Go.Proofs.YtkieehjpnjplmaaW.PrintMore
attribute [local go_sem] max2_int min2_int max_two min_two max_three min_three max_four min_four   -- for this text's walks alone
set_option linter.unusedVariables false
set_option linter.unusedSimpArgs false

/-! ### arrays_Rename: function 5 -/
mutual
def arrays_Rename.j0 : Nat → Int → Bool → Int → List (List Int) → List Int → Option (Int × (List (List Int)) × Int)
 | 0, _, _, _, _, _ => none
 | k + 1, x1, x28, x143000, x143001, x145000 => if x28 = true then (some (0, ([] : List (List Int)), 2)) else (arrays_Rename.l0 k x1 (x145000.length : Int) 0 x143000 x143001 x145000)
def arrays_Rename.l0 : Nat → Int → Int → Int → Int → List (List Int) → List Int → Option (Int × (List (List Int)) × Int)
 | 0, _, _, _, _, _, _ => none
 | k + 1, x1, x31, x32, x143000, x143001, x145000 => if x32 < x31 then ((slices_Contains_int_int.f k x145000 x32).bind fun t148 => (if t148 = true then (arrays_Rename.l0 k x1 x31 (wrap64 (x32 + 1)) x143000 x143001 x145000) else (some (0, ([] : List (List Int)), 2)))) else ((xEach.f x143000 x143001 x145000 x1).bind fun bt149 => (some (bt149.1, bt149.2, 0)))
end
def arrays_Rename.f (k : Nat) (a0_0 : Int) (l0_1 : List (List Int)) (a1 : Int) (l2 : List Int) : Option (Int × (List (List Int)) × Int) := (arrays_Array_valid.f k a0_0 l0_1).bind fun t146 => (if t146 = true then (if a1 < 0 then (arrays_Rename.j0 k a1 true a0_0 l0_1 l2) else ((arrays_Array_columns.f a0_0 l0_1).bind fun t147 => (if a1 ≥ t147 then (arrays_Rename.j0 k a1 true a0_0 l0_1 l2) else (arrays_Rename.j0 k a1 ((l2.length : Int) != a0_0) a0_0 l0_1 l2)))) else (arrays_Rename.j0 k a1 true a0_0 l0_1 l2))
theorem arrays_Rename.mono_l : ∀ k, (∀ y0 y1 y2 y3 y4, LeO (arrays_Rename.j0 k y0 y1 y2 y3 y4) (arrays_Rename.j0 (k + 1) y0 y1 y2 y3 y4)) ∧ (∀ y0 y1 y2 y3 y4 y5, LeO (arrays_Rename.l0 k y0 y1 y2 y3 y4 y5) (arrays_Rename.l0 (k + 1) y0 y1 y2 y3 y4 y5))
 | 0 => ⟨fun _ _ _ _ _ r h => by simp [arrays_Rename.j0] at h, fun _ _ _ _ _ _ r h => by simp [arrays_Rename.l0] at h⟩
 | k + 1 => by
  obtain ⟨ih0, ih1⟩ := arrays_Rename.mono_l k
  refine ⟨?_, ?_⟩
  ·intro y0 y1 y2 y3 y4
   unfold arrays_Rename.j0
   repeat' first
   | (with_reducible exact ih0 _ _ _ _ _)
   | (with_reducible exact ih1 _ _ _ _ _ _)
   | (with_reducible exact arrays_Array_valid.mono _ _ _)
   | (with_reducible exact slices_Contains_int_int.mono _ _ _)
   | (with_reducible exact LeO.refl _)
   | (with_reducible exact LeO.none _)
   | (with_reducible refine LeO.ite ?_ ?_)
   | (with_reducible refine LeO.bind ?_ (fun _ => ?_))
   | exact ih0 _ _ _ _ _
   | exact ih1 _ _ _ _ _ _
   | exact arrays_Array_valid.mono _ _ _
   | exact slices_Contains_int_int.mono _ _ _
   | exact LeO.none _
   | refine LeO.ite ?_ ?_
   | refine LeO.bind ?_ (fun _ => ?_)
  ·intro y0 y1 y2 y3 y4 y5
   unfold arrays_Rename.l0
   repeat' first
   | (with_reducible exact ih0 _ _ _ _ _)
   | (with_reducible exact ih1 _ _ _ _ _ _)
   | (with_reducible exact arrays_Array_valid.mono _ _ _)
   | (with_reducible exact slices_Contains_int_int.mono _ _ _)
   | (with_reducible exact LeO.refl _)
   | (with_reducible exact LeO.none _)
   | (with_reducible refine LeO.ite ?_ ?_)
   | (with_reducible refine LeO.bind ?_ (fun _ => ?_))
   | exact ih0 _ _ _ _ _
   | exact ih1 _ _ _ _ _ _
   | exact arrays_Array_valid.mono _ _ _
   | exact slices_Contains_int_int.mono _ _ _
   | exact LeO.none _
   | refine LeO.ite ?_ ?_
   | refine LeO.bind ?_ (fun _ => ?_)
theorem arrays_Rename.mono : ∀ a0 a1 a2 a3 k, LeO (arrays_Rename.f k a0 a1 a2 a3) (arrays_Rename.f (k + 1) a0 a1 a2 a3) := by
 intro a0 a1 a2 a3 k
 obtain ⟨ih0, ih1⟩ := arrays_Rename.mono_l k
 unfold arrays_Rename.f
 repeat' first
   | (with_reducible exact ih0 _ _ _ _ _)
   | (with_reducible exact ih1 _ _ _ _ _ _)
   | (with_reducible exact arrays_Array_valid.mono _ _ _)
   | (with_reducible exact slices_Contains_int_int.mono _ _ _)
   | (with_reducible exact LeO.refl _)
   | (with_reducible exact LeO.none _)
   | (with_reducible refine LeO.ite ?_ ?_)
   | (with_reducible refine LeO.bind ?_ (fun _ => ?_))
   | exact ih0 _ _ _ _ _
   | exact ih1 _ _ _ _ _ _
   | exact arrays_Array_valid.mono _ _ _
   | exact slices_Contains_int_int.mono _ _ _
   | exact LeO.none _
   | refine LeO.ite ?_ ?_
   | refine LeO.bind ?_ (fun _ => ?_)
def arrays_Rename.T1 : Bool × List (List Nat × List Nat) := (true, [([], []), ([0], [0]), ([1], [1]), ([2, 1], [2]), ([3], [3]), ([4, 3], [3, 4]), ([3, 5], [3, 5]), ([6, 3], [6]), ([7], [7]), ([7], [7]), ([9, 7, 7], [7, 9]), ([8, 10, 7], [7, 8, 10]), ([7, 11], [7, 11]), ([12, 10], [12]), ([13], [13]), ([14, 13], [13, 14]), ([13], [13]), ([16, 13], [13, 16]), ([15, 17, 13], [13, 15, 17]), ([13, 18], [13, 18])])
def arrays_Rename.B1 : List Nat := [0, 1, 3, 7, 15, 31, 63, 127, 255, 255, 767, 2047, 4095, 8191, 16383, 32767, 16383, 81919, 262143, 524287]
theorem arrays_Rename.tab1 : rtab .any (opsOf Try.f5 1) = arrays_Rename.T1 := by kernel_rfl
theorem arrays_Rename.bits1 : waitsOk arrays_Rename.T1.2 arrays_Rename.B1 = true := by kernel_rfl
set_option maxHeartbeats 8000000 in
set_option maxRecDepth 100000 in
theorem arrays_Rename.calls (k : Nat) (a0_0 : Int) (A0_1 : Option Addr) (c0_1 : Nat) (l0_1 : List (List Int)) (a1 : Int) (A2 : Option Addr) (c2 : Nat) (l2 : List Int) (r1 : Int) (r2 : List (List Int)) (r3 : Int) (w : World) (hr0_1 : Kd.C (Kd.slice 3 (Kd.int .i64)) w A0_1 l0_1.length l0_1) (hc0_1 : l0_1.length ≤ c0_1) (hr2 : Kd.C (Kd.int .i64) w A2 l2.length l2) (hc2 : l2.length ≤ c2) (h : arrays_Rename.f k a0_0 l0_1 a1 l2 = some (r1, r2, r3)) :
  Calls Try.prog 5 #[.agg #[.int .i64 a0_0, .slice A0_1 l0_1.length c0_1], .int .i64 a1, .slice A2 l2.length c2] w fun e w' => ∃ v1_ : Value, e = .returned (.tuple #[.agg #[.int .i64 r1, v1_], .int .i64 r3]) ∧ Kd.S (Kd.slice 3 (Kd.int .i64)) 22 w' w.heap.size (fun _ => True) v1_ r2 ∧ Below w.heap.size w w' := by
 have hu25 := Try.underlying25
 have HR0_1 := Aside0.mk hr0_1
 have HC0_1 := Aside0.mk hc0_1
 clear hr0_1 hc0_1
 have HR2 := Aside0.mk hr2
 have HC2 := Aside0.mk hc2
 clear hr2 hc2
 have HB := ak (Below.refl w.heap.size w)
 have H : ((arrays_Array_valid.f k a0_0 l0_1).bind fun t146 => (if t146 = true then (if a1 < 0 then (arrays_Rename.j0 k a1 true a0_0 l0_1 l2) else ((arrays_Array_columns.f a0_0 l0_1).bind fun t147 => (if a1 ≥ t147 then (arrays_Rename.j0 k a1 true a0_0 l0_1 l2) else (arrays_Rename.j0 k a1 ((l2.length : Int) != a0_0) a0_0 l0_1 l2)))) else (arrays_Rename.j0 k a1 true a0_0 l0_1 l2))) = some (r1, r2, r3) := h
 clear h
 have HC4 := Aside0.mk H
 clear H
 have hmf : ∀ (fn : Fn) (first cap : Array Value) (w : World), (Instr.makeFunc fn first cap).run Try.prog w = .ok (.func fn first cap) w := fun _ _ _ _ => rfl
 go_enter Try.func5, Try.ntmps5
 go_upto_region 1 with (first | ((with_reducible refine gate_dst (N := 3) rfl ?_); (try (refine gate_guard (by rfl) ?_; dsimp only)); refine bE 3 #[.int .i64 a0_0, .slice A0_1 l0_1.length c0_1] 25 ?_; intro gb142 hg w5 hbox hb; have BK142 := ak (hbox); have GW142 := kG w hg; have GE142 := kG w hg; replace HB := kH _ hb; clear hb hbox hg) | ((with_reducible refine gate_dst (N := 4) rfl ?_); (try (refine gate_guard (by rfl) ?_; dsimp only)); refine bE 4 #[.int .i64 a1] 3 ?_; intro gb143 hg w6 hbox hb; have BK143 := ak (hbox); have GW143 := kG w hg; have GE143 := kG w hg; replace HB := kH _ hb; have NB142_143 := kL BK142 hg; have NB143_142 := kR BK142 hg; replace BK142 := kB BK142 hb; clear hb hbox hg) | ((with_reducible refine gate_dst (N := 5) rfl ?_); (try (refine gate_guard (by rfl) ?_; dsimp only)); refine bE 5 #[.slice A2 l2.length c2] 22 ?_; intro gb144 hg w7 hbox hb; have BK144 := ak (hbox); have GW144 := kG w hg; have GE144 := kG w hg; replace HB := kH _ hb; have NB142_144 := kL BK142 hg; have NB144_142 := kR BK142 hg; replace BK142 := kB BK142 hb; have NB143_144 := kL BK143 hg; have NB144_143 := kR BK143 hg; replace BK143 := kB BK143 hb; clear hb hbox hg) | ((with_reducible refine gate_dst (N := 6) rfl ?_); (try (refine gate_guard (by rfl) ?_; dsimp only)); refine bE 6 #[.int .i64 0, .slice none 0 0] 25 ?_; intro gb145 hg w8 hbox hb; have BK145 := ak (hbox); have GW145 := kG w hg; have GE145 := kG w hg; replace HB := kH _ hb; have NB142_145 := kL BK142 hg; have NB145_142 := kR BK142 hg; replace BK142 := kB BK142 hb; have NB143_145 := kL BK143 hg; have NB145_143 := kR BK143 hg; replace BK143 := kB BK143 hb; have NB144_145 := kL BK144 hg; have NB145_144 := kR BK144 hg; replace BK144 := kB BK144 hb; clear hb hbox hg))
 (try simp only [Act.put, List.setIfInBounds_toArray, List.set_cons_zero, List.set_cons_succ])
 go_cut [28] (fun v28 wc => ∃ (kq : Nat) (x28_3 : Bool), v28 = .bool x28_3 ∧ Aside0 (arrays_Rename.j0 kq a1 x28_3 a0_0 l0_1 l2 = some (r1, r2, r3)) ∧ Aside0 (kq ≤ k) ∧ Aside0 (wc.heap[gb142]? = some (.cells #[.int .i64 a0_0, (.slice A0_1 l0_1.length c0_1)] 25 (0, 0))) ∧ Aside0 (wc.heap[gb143]? = some (.cells #[.int .i64 a1] 3 (0, 0))) ∧ Aside0 (wc.heap[gb144]? = some (.cells #[(.slice A2 l2.length c2)] 22 (0, 0))) ∧ Aside0 (wc.heap[gb145]? = some (.cells #[.int .i64 0, (.slice none 0 0)] 25 (0, 0))) ∧ Aside0 (Below w.heap.size w wc))
 case first =>
  have H := HC4.out
  clear HC4
  replace H := Option.bind_eq_some_iff.mp H
  obtain ⟨t146, A90, H⟩ := H
  replace H : (if t146 = true then (if a1 < 0 then (arrays_Rename.j0 k a1 true a0_0 l0_1 l2) else ((arrays_Array_columns.f a0_0 l0_1).bind fun t147 => (if a1 ≥ t147 then (arrays_Rename.j0 k a1 true a0_0 l0_1 l2) else (arrays_Rename.j0 k a1 ((l2.length : Int) != a0_0) a0_0 l0_1 l2)))) else (arrays_Rename.j0 k a1 true a0_0 l0_1 l2)) = some (r1, r2, r3) := H
  have A9 := Aside0.mk A90
  clear A90
  by_cases c10 : t146 = true
  rotate_left
  ·replace c10 := Bool.eq_false_iff.mpr c10
   subst c10
   have H1 : (arrays_Rename.j0 k a1 true a0_0 l0_1 l2) = some (r1, r2, r3) := by rw [if_neg (show ¬ (false = true) by decide)] at H; exact H
   clear H
   have H := H1
   clear H1
   have H' := Aside0.mk H
   clear H
   try go_wp2
   replace BK142 := kd BK142
   replace BK143 := kd BK143
   replace BK144 := kd BK144
   replace BK145 := kd BK145
   replace HB := ak (below_drew1 HB.out)
   refine sS (n := 20) (S := fun w' => w'.cell? ⟨gb142, 0, none⟩ = some (.int .i64 a0_0) ∧ w'.cell? ⟨gb142, 1, none⟩ = some (.slice A0_1 l0_1.length c0_1)) (ds := []) ⟨bc BK142 0, bc BK142 1⟩ (fun hHeld => ?_); refine with_tabW arrays_Rename.tab1 arrays_Rename.bits1 (fun HT_ HW_ => ?_)
   generalize w8.drew = w22 at BK142 BK143 BK144 BK145 HB hHeld ⊢
   refine tS 0 9 20 1 ?_
   refine one_ (i := 1) (N := some 10) (ba 20 3) rfl rfl (one_of HT_.out (by kernel_rfl)) (by decide) (fun K hK => ?_)
   refine gC Try.func22 #[.agg #[.int .i64 a0_0, .slice A0_1 l0_1.length c0_1]] ?_
   with_reducible refine (arrays_Array_valid.calls k a0_0 _ _ l0_1 false _ ?side1 ?side2 A9.out).mono ?_
   (case side1 => exact kC HR0_1)
   (case side2 => exact HC0_1.out)
   rintro e w23 ⟨rfl, hb⟩
   refine ⟨_, rfl, ?_⟩
   replace BK142 := kB BK142 hb
   replace BK143 := kB BK143 hb
   replace BK144 := kB BK144 hb
   replace BK145 := kB BK145 hb
   replace HB := kH _ hb
   (try clear hb)
   (try clear hb2)
   (try clear hk)
   (try clear hi)
   refine hK.out _ _ ⟨bc BK142 0, bc BK142 1⟩ (fun hHeld => ?_)
   clear hK K
   refine norm_ (a' := ?_) ?_ ?_
   rotate_left
   ·show Act.put _ (some 10) _ = _
    simp only [Act.put, List.setIfInBounds_toArray, List.set_cons_zero, List.set_cons_succ, i64_w, i32_w]
    rfl
   refine pS 2 11 20 7 ?_
   refine pS 3 12 20 15 ?_
   refine uS 4 13 20 31 ?_
   refine uS 5 14 20 63 ?_
   refine pS 6 15 20 127 ?_
   refine pS 7 16 20 255 ?_
   refine uS 8 17 20 511 ?_
   refine uS 9 18 20 1023 ?_
   refine uS 10 19 20 2047 ?_
   refine uS 11 20 20 4095 ?_
   refine pS 12 21 20 8191 ?_
   refine pS 13 22 20 16383 ?_
   refine uS 14 23 20 32767 ?_
   refine uS 15 24 20 65535 ?_
   refine uS 16 25 20 131071 ?_
   refine uS 17 26 20 262143 ?_
   refine uS 18 27 20 524287 ?_
   refine pS 19 28 20 1048575 ?_
   refine done_ (done_of HT_.out (by kernel_rfl)) ?_
   try go_wp2
   go_meet
   case rel => exact ⟨_, (true), (by first | rfl | (simp; done) | (simp [*]; done)), H', ⟨by first | omega | exact Nat.le_refl _⟩, ⟨bkC BK142⟩, ⟨bkC BK143⟩, ⟨bkC BK144⟩, ⟨bkC BK145⟩, ⟨hbC _⟩⟩
  subst c10
  have H1 : (if a1 < 0 then (arrays_Rename.j0 k a1 true a0_0 l0_1 l2) else ((arrays_Array_columns.f a0_0 l0_1).bind fun t147 => (if a1 ≥ t147 then (arrays_Rename.j0 k a1 true a0_0 l0_1 l2) else (arrays_Rename.j0 k a1 ((l2.length : Int) != a0_0) a0_0 l0_1 l2)))) = some (r1, r2, r3) := by rw [if_pos rfl] at H; exact H
  clear H
  have H := H1
  clear H1
  by_cases c11 : a1 < 0
  ·rw [if_pos c11] at H
   have c11b0 : decide (a1 < 0) = true := decide_eq_true c11
   clear c11
   (first | rw [c11b0] | (simp only [i64_w, i32_w]; rw [c11b0]) | skip)
   have H' := Aside0.mk H
   clear H
   try go_wp2
   replace BK142 := kd BK142
   replace BK143 := kd BK143
   replace BK144 := kd BK144
   replace BK145 := kd BK145
   replace HB := ak (below_drew1 HB.out)
   refine sS (n := 20) (S := fun w' => w'.cell? ⟨gb142, 0, none⟩ = some (.int .i64 a0_0) ∧ w'.cell? ⟨gb142, 1, none⟩ = some (.slice A0_1 l0_1.length c0_1) ∧ w'.cell? ⟨gb143, 0, none⟩ = some (.int .i64 a1)) (ds := []) ⟨bc BK142 0, bc BK142 1, bc BK143 0⟩ (fun hHeld => ?_); refine with_tabW arrays_Rename.tab1 arrays_Rename.bits1 (fun HT_ HW_ => ?_)
   generalize w8.drew = w12 at BK142 BK143 BK144 BK145 HB hHeld ⊢
   refine tS 0 9 20 1 ?_
   refine one_ (i := 1) (N := some 10) (ba 20 3) rfl rfl (one_of HT_.out (by kernel_rfl)) (by decide) (fun K hK => ?_)
   refine gC Try.func22 #[.agg #[.int .i64 a0_0, .slice A0_1 l0_1.length c0_1]] ?_
   with_reducible refine (arrays_Array_valid.calls k a0_0 _ _ l0_1 true _ ?side1 ?side2 A9.out).mono ?_
   (case side1 => exact kC HR0_1)
   (case side2 => exact HC0_1.out)
   rintro e w13 ⟨rfl, hb⟩
   refine ⟨_, rfl, ?_⟩
   replace BK142 := kB BK142 hb
   replace BK143 := kB BK143 hb
   replace BK144 := kB BK144 hb
   replace BK145 := kB BK145 hb
   replace HB := kH _ hb
   (try clear hb)
   (try clear hb2)
   (try clear hk)
   (try clear hi)
   refine hK.out _ _ ⟨bc BK142 0, bc BK142 1, bc BK143 0⟩ (fun hHeld => ?_)
   clear hK K
   refine norm_ (a' := ?_) ?_ ?_
   rotate_left
   ·show Act.put _ (some 10) _ = _
    simp only [Act.put, List.setIfInBounds_toArray, List.set_cons_zero, List.set_cons_succ, i64_w, i32_w]
    rfl
   refine pS 2 11 20 7 ?_
   refine pS 3 12 20 15 ?_
   refine tS 4 13 20 31 ?_
   refine pS 5 14 20 63 ?_
   refine pS 6 15 20 127 ?_
   refine pS 7 16 20 255 ?_
   refine uS 8 17 20 511 ?_
   refine uS 9 18 20 1023 ?_
   refine uS 10 19 20 2047 ?_
   refine uS 11 20 20 4095 ?_
   refine pS 12 21 20 8191 ?_
   refine pS 13 22 20 16383 ?_
   refine uS 14 23 20 32767 ?_
   refine uS 15 24 20 65535 ?_
   refine uS 16 25 20 131071 ?_
   refine uS 17 26 20 262143 ?_
   refine uS 18 27 20 524287 ?_
   refine pS 19 28 20 1048575 ?_
   refine done_ (done_of HT_.out (by kernel_rfl)) ?_
   try go_wp2
   go_meet
   case rel => exact ⟨_, (true), (by first | rfl | (simp; done) | (simp [*]; done)), H', ⟨by first | omega | exact Nat.le_refl _⟩, ⟨bkC BK142⟩, ⟨bkC BK143⟩, ⟨bkC BK144⟩, ⟨bkC BK145⟩, ⟨hbC _⟩⟩
  rw [if_neg c11] at H
  have c11b0 : decide (a1 < 0) = false := decide_eq_false c11
  clear c11
  (first | rw [c11b0] | (simp only [i64_w, i32_w]; rw [c11b0]) | skip)
  replace H := Option.bind_eq_some_iff.mp H
  obtain ⟨t147, A140, H⟩ := H
  replace H : (if a1 ≥ t147 then (arrays_Rename.j0 k a1 true a0_0 l0_1 l2) else (arrays_Rename.j0 k a1 ((l2.length : Int) != a0_0) a0_0 l0_1 l2)) = some (r1, r2, r3) := H
  have A14 := Aside0.mk A140
  clear A140
  by_cases c15 : a1 ≥ t147
  ·rw [if_pos c15] at H
   have c15b0 : decide (t147 ≤ a1) = true := decide_eq_true c15
   clear c15
   have H' := Aside0.mk H
   clear H
   try go_wp2
   replace BK142 := kd BK142
   replace BK143 := kd BK143
   replace BK144 := kd BK144
   replace BK145 := kd BK145
   replace HB := ak (below_drew1 HB.out)
   refine sS (n := 20) (S := fun w' => w'.cell? ⟨gb142, 0, none⟩ = some (.int .i64 a0_0) ∧ w'.cell? ⟨gb142, 1, none⟩ = some (.slice A0_1 l0_1.length c0_1) ∧ w'.cell? ⟨gb143, 0, none⟩ = some (.int .i64 a1)) (ds := []) ⟨bc BK142 0, bc BK142 1, bc BK143 0⟩ (fun hHeld => ?_); refine with_tabW arrays_Rename.tab1 arrays_Rename.bits1 (fun HT_ HW_ => ?_)
   generalize w8.drew = w16 at BK142 BK143 BK144 BK145 HB hHeld ⊢
   refine tS 0 9 20 1 ?_
   refine one_ (i := 1) (N := some 10) (ba 20 3) rfl rfl (one_of HT_.out (by kernel_rfl)) (by decide) (fun K hK => ?_)
   refine gC Try.func22 #[.agg #[.int .i64 a0_0, .slice A0_1 l0_1.length c0_1]] ?_
   with_reducible refine (arrays_Array_valid.calls k a0_0 _ _ l0_1 true _ ?side1 ?side2 A9.out).mono ?_
   (case side1 => exact kC HR0_1)
   (case side2 => exact HC0_1.out)
   rintro e w17 ⟨rfl, hb⟩
   refine ⟨_, rfl, ?_⟩
   replace BK142 := kB BK142 hb
   replace BK143 := kB BK143 hb
   replace BK144 := kB BK144 hb
   replace BK145 := kB BK145 hb
   replace HB := kH _ hb
   (try clear hb)
   (try clear hb2)
   (try clear hk)
   (try clear hi)
   refine hK.out _ _ ⟨bc BK142 0, bc BK142 1, bc BK143 0⟩ (fun hHeld => ?_)
   clear hK K
   refine norm_ (a' := ?_) ?_ ?_
   rotate_left
   ·show Act.put _ (some 10) _ = _
    simp only [Act.put, List.setIfInBounds_toArray, List.set_cons_zero, List.set_cons_succ, i64_w, i32_w]
    rfl
   refine pS 2 11 20 7 ?_
   refine pS 3 12 20 15 ?_
   refine tS 4 13 20 31 ?_
   refine pS 5 14 20 63 ?_
   refine pS 6 15 20 127 ?_
   refine pS 7 16 20 255 ?_
   refine tS 8 17 20 511 ?_
   refine tS 9 18 20 1023 ?_
   refine one_ (i := 10) (N := some 19) (ba 20 2047) rfl rfl (one_of HT_.out (by kernel_rfl)) (by decide) (fun K hK => ?_)
   refine gC Try.func23 #[.agg #[.int .i64 a0_0, .slice A0_1 l0_1.length c0_1]] ?_
   with_reducible refine (arrays_Array_columns.calls a0_0 _ _ l0_1 t147 _ ?side1 ?side2 A14.out).mono ?_
   (case side1 => exact kC HR0_1)
   (case side2 => exact HC0_1.out)
   rintro e w18 ⟨rfl, hb⟩
   refine ⟨_, rfl, ?_⟩
   replace BK142 := kB BK142 hb
   replace BK143 := kB BK143 hb
   replace BK144 := kB BK144 hb
   replace BK145 := kB BK145 hb
   replace HB := kH _ hb
   (try clear hb)
   (try clear hb2)
   (try clear hk)
   (try clear hi)
   refine hK.out _ _ ⟨bc BK142 0, bc BK142 1, bc BK143 0⟩ (fun hHeld => ?_)
   clear hK K
   refine norm_ (a' := ?_) ?_ ?_
   rotate_left
   ·show Act.put _ (some 19) _ = _
    simp only [Act.put, List.setIfInBounds_toArray, List.set_cons_zero, List.set_cons_succ, i64_w, i32_w]
    rfl
   refine pS 11 20 20 4095 ?_
   refine pS 12 21 20 8191 ?_
   refine pS 13 22 20 16383 ?_
   refine uS 14 23 20 32767 ?_
   refine uS 15 24 20 65535 ?_
   refine uS 16 25 20 131071 ?_
   refine uS 17 26 20 262143 ?_
   refine uS 18 27 20 524287 ?_
   refine pS 19 28 20 1048575 ?_
   refine done_ (done_of HT_.out (by kernel_rfl)) ?_
   try go_wp2
   go_meet
   case rel => exact ⟨_, (true), (by first | rfl | (simp; done) | (simp [*]; done)), H', ⟨by first | omega | exact Nat.le_refl _⟩, ⟨bkC BK142⟩, ⟨bkC BK143⟩, ⟨bkC BK144⟩, ⟨bkC BK145⟩, ⟨hbC _⟩⟩
  rw [if_neg c15] at H
  have c15b0 : decide (t147 ≤ a1) = false := decide_eq_false c15
  clear c15
  have H' := Aside0.mk H
  clear H
  try go_wp2
  replace BK142 := kd BK142
  replace BK143 := kd BK143
  replace BK144 := kd BK144
  replace BK145 := kd BK145
  replace HB := ak (below_drew1 HB.out)
  refine sS (n := 20) (S := fun w' => w'.cell? ⟨gb142, 0, none⟩ = some (.int .i64 a0_0) ∧ w'.cell? ⟨gb142, 1, none⟩ = some (.slice A0_1 l0_1.length c0_1) ∧ w'.cell? ⟨gb143, 0, none⟩ = some (.int .i64 a1) ∧ w'.cell? ⟨gb144, 0, none⟩ = some (.slice A2 l2.length c2)) (ds := []) ⟨bc BK142 0, bc BK142 1, bc BK143 0, bc BK144 0⟩ (fun hHeld => ?_); refine with_tabW arrays_Rename.tab1 arrays_Rename.bits1 (fun HT_ HW_ => ?_)
  generalize w8.drew = w19 at BK142 BK143 BK144 BK145 HB hHeld ⊢
  refine tS 0 9 20 1 ?_
  refine one_ (i := 1) (N := some 10) (ba 20 3) rfl rfl (one_of HT_.out (by kernel_rfl)) (by decide) (fun K hK => ?_)
  refine gC Try.func22 #[.agg #[.int .i64 a0_0, .slice A0_1 l0_1.length c0_1]] ?_
  with_reducible refine (arrays_Array_valid.calls k a0_0 _ _ l0_1 true _ ?side1 ?side2 A9.out).mono ?_
  (case side1 => exact kC HR0_1)
  (case side2 => exact HC0_1.out)
  rintro e w20 ⟨rfl, hb⟩
  refine ⟨_, rfl, ?_⟩
  replace BK142 := kB BK142 hb
  replace BK143 := kB BK143 hb
  replace BK144 := kB BK144 hb
  replace BK145 := kB BK145 hb
  replace HB := kH _ hb
  (try clear hb)
  (try clear hb2)
  (try clear hk)
  (try clear hi)
  refine hK.out _ _ ⟨bc BK142 0, bc BK142 1, bc BK143 0, bc BK144 0⟩ (fun hHeld => ?_)
  clear hK K
  refine norm_ (a' := ?_) ?_ ?_
  rotate_left
  ·show Act.put _ (some 10) _ = _
   simp only [Act.put, List.setIfInBounds_toArray, List.set_cons_zero, List.set_cons_succ, i64_w, i32_w]
   rfl
  refine pS 2 11 20 7 ?_
  refine pS 3 12 20 15 ?_
  refine tS 4 13 20 31 ?_
  refine pS 5 14 20 63 ?_
  refine pS 6 15 20 127 ?_
  refine pS 7 16 20 255 ?_
  refine tS 8 17 20 511 ?_
  refine tS 9 18 20 1023 ?_
  refine one_ (i := 10) (N := some 19) (ba 20 2047) rfl rfl (one_of HT_.out (by kernel_rfl)) (by decide) (fun K hK => ?_)
  refine gC Try.func23 #[.agg #[.int .i64 a0_0, .slice A0_1 l0_1.length c0_1]] ?_
  with_reducible refine (arrays_Array_columns.calls a0_0 _ _ l0_1 t147 _ ?side1 ?side2 A14.out).mono ?_
  (case side1 => exact kC HR0_1)
  (case side2 => exact HC0_1.out)
  rintro e w21 ⟨rfl, hb⟩
  refine ⟨_, rfl, ?_⟩
  replace BK142 := kB BK142 hb
  replace BK143 := kB BK143 hb
  replace BK144 := kB BK144 hb
  replace BK145 := kB BK145 hb
  replace HB := kH _ hb
  (try clear hb)
  (try clear hb2)
  (try clear hk)
  (try clear hi)
  refine hK.out _ _ ⟨bc BK142 0, bc BK142 1, bc BK143 0, bc BK144 0⟩ (fun hHeld => ?_)
  clear hK K
  refine norm_ (a' := ?_) ?_ ?_
  rotate_left
  ·show Act.put _ (some 19) _ = _
   simp only [Act.put, List.setIfInBounds_toArray, List.set_cons_zero, List.set_cons_succ, i64_w, i32_w]
   rfl
  refine pS 11 20 20 4095 ?_
  refine pS 12 21 20 8191 ?_
  refine pS 13 22 20 16383 ?_
  refine pS 16 25 20 81919 ?_
  refine tS 14 23 20 98303 ?_
  refine pS 15 24 20 131071 ?_
  refine tS 17 26 20 262143 ?_
  refine pS 18 27 20 524287 ?_
  refine pS 19 28 20 1048575 ?_
  refine done_ (done_of HT_.out (by kernel_rfl)) ?_
  try go_wp2
  go_meet
  case rel => exact ⟨_, (((l2.length : Int) != a0_0)), (by first | rfl | (simp; done) | (simp [*]; done)), H', ⟨by first | omega | exact Nat.le_refl _⟩, ⟨bkC BK142⟩, ⟨bkC BK143⟩, ⟨bkC BK144⟩, ⟨bkC BK145⟩, ⟨hbC _⟩⟩
 case rest =>
  clear HC4
  try clear c1
  try clear c2
  try clear p2
  try clear c10
  try clear c15
  try clear c15b0
  try clear c22
  try clear c23
  obtain ⟨kq, x28_3, rfl, HA, HJ3, BK142, BK143, BK144, BK145, HB⟩ := hcut
  cases kq with
  | zero => exact absurd HA.out (by simp [arrays_Rename.j0])
  | succ kj3 =>
   have H := HA.out
   clear HA
   simp only [arrays_Rename.j0] at H
   by_cases c24 : x28_3 = true
   ·subst c24
    have H1 : (some (0, ([] : List (List Int)), 2)) = some (r1, r2, r3) := by rw [if_pos rfl] at H; exact H
    clear H
    have H := H1
    clear H1
    simp only [Option.some.injEq, Prod.mk.injEq] at H
    obtain ⟨rfl, rfl, rfl⟩ := H
    have hnb25 := NB145_142.out
    have hnc25 := NB142_145.out
    have hnb26 := NB145_143.out
    have hnc26 := NB143_145.out
    have hnb27 := NB145_144.out
    have hnc27 := NB144_145.out
    have hcz28_0 : wc.cell? ⟨gb145, 0, none⟩ = some (.int .i64 0) := bc BK145 0
    have hcz28_1 : wc.cell? ⟨gb145, 1, none⟩ = some (.slice none 0 0) := bc BK145 1
    have hfz28_0 := fz BK145 0
    have hfz28_1 := fz BK145 1
    go_wp2
    refine bodyPost_ret (results_ct rfl _ _ gb145 25 #[.int .i64 0, .slice none 0 0] (0, 0) _ rfl (by (with_reducible repeat (first | refine blk_drewN ?_ _ | refine blk_drew ?_ | refine blk_alloc ?_ _)); refine blk_put (cs := #[.int .i64 0, .slice none 0 0]) ?_ 1 _ rfl; (with_reducible repeat (first | refine blk_drewN ?_ _ | refine blk_drew ?_ | refine blk_alloc ?_ _)); refine blk_put (cs := #[.int .i64 0, .slice none 0 0]) ?_ 0 _ rfl; (with_reducible repeat (first | refine blk_drewN ?_ _ | refine blk_drew ?_ | refine blk_alloc ?_ _)); exact BK145.out) Try.underlying25 rfl (by kernel_rfl)) rfl ?_
    exact ⟨_, by first | rfl | (simp [errW_none, errW_some] <;> rfl) | (simp [*, errW_none, errW_some] <;> rfl), by first | exact Kd.S_nil _ _ _ _ _ | exact Kd.N_nil _ _ _ _ _ | exact Kd.V_nil _ _ _ _ _ | exact Kd.Q_nil _ _ _ _ _ | exact Kd.R_nil _ _ _ _ _, hbC _⟩
   replace c24 := Bool.eq_false_iff.mpr c24
   subst c24
   have H1 : (arrays_Rename.l0 kj3 a1 (l2.length : Int) 0 a0_0 l0_1 l2) = some (r1, r2, r3) := by rw [if_neg (show ¬ (false = true) by decide)] at H; exact H
   clear H
   have H := H1
   clear H1
   have H' := Aside0.mk H
   clear H
   have hnb29 := NB144_142.out
   have hnc29 := NB142_144.out
   have hnb30 := NB144_143.out
   have hnc30 := NB143_144.out
   have hnb31 := NB144_145.out
   have hnc31 := NB145_144.out
   have hcz32_0 : wc.cell? ⟨gb144, 0, none⟩ = some (.slice A2 l2.length c2) := bc BK144 0
   have hfz32_0 := fz BK144 0
   go_wp2
   go_loopg [32] kj3 (fun kq v32 w' => ∃ (x32_2 : Int) (x146000_2 : Int), v32 = .int .i64 x32_2 ∧ Aside0 (arrays_Rename.l0 kq a1 (l2.length : Int) x32_2 a0_0 l0_1 l2 = some (r1, r2, r3)) ∧ Aside0 (kq ≤ kj3) ∧ Aside0 (w'.heap[gb142]? = some (.cells #[.int .i64 a0_0, (.slice A0_1 l0_1.length c0_1)] 25 (0, 0))) ∧ Aside0 (w'.heap[gb143]? = some (.cells #[.int .i64 a1] 3 (0, 0))) ∧ Aside0 (w'.heap[gb144]? = some (.cells #[(.slice A2 l2.length c2)] 22 (0, 0))) ∧ Aside0 (w'.heap[gb145]? = some (.cells #[.int .i64 x146000_2, (.slice none 0 0)] 25 (0, 0))) ∧ Aside0 (Below w.heap.size w w'))
   case atStart => exact ⟨(0), (0), (by first | rfl | (simp; done) | (simp [*]; done)), H', ⟨Nat.le_refl _⟩, ⟨bkC BK142⟩, ⟨bkC BK143⟩, ⟨bkC BK144⟩, ⟨bkC BK145⟩, ⟨hbC _⟩⟩
   case round =>
    clear H'
    try clear c1
    try clear c2
    try clear p2
    try clear c3
    try clear c10
    try clear c15
    try clear c15b0
    try clear c22
    try clear c23
    try clear c24
    try clear c25
    try clear c26
    try clear c27
    try clear c29
    try clear c30
    try clear c31
    try clear hcz28_0
    try clear hcz28_1
    try clear hcz32_0
    try clear hfz28_0
    try clear hfz28_1
    try clear hfz32_0
    try clear p2
    obtain ⟨x32_2, x146000_2, rfl, HA, HK2, BK142, BK143, BK144, BK145, HB⟩ := hrel
    cases gk with
    | zero => exact absurd HA.out (by simp [arrays_Rename.l0])
    | succ k2 =>
     have H := HA.out
     clear HA
     simp only [arrays_Rename.l0] at H
     by_cases c33 : x32_2 < (l2.length : Int)
     rotate_left
     ·rw [if_neg c33] at H
      have c33b0 : decide (x32_2 < (l2.length : Int)) = false := decide_eq_false c33
      clear c33
      replace H := Option.bind_eq_some_iff.mp H
      obtain ⟨⟨t149, t150⟩, A470, H⟩ := H
      replace H : (some (t149, t150, 0)) = some (r1, r2, r3) := H
      have A47 := Aside0.mk A470
      clear A470
      simp only [Option.some.injEq, Prod.mk.injEq] at H
      obtain ⟨rfl, rfl, rfl⟩ := H
      have hnb48 := NB142_143.out
      have hnc48 := NB143_142.out
      have hnb49 := NB142_144.out
      have hnc49 := NB144_142.out
      have hnb50 := NB142_145.out
      have hnc50 := NB145_142.out
      have hcz51_0 : wr.cell? ⟨gb142, 0, none⟩ = some (.int .i64 a0_0) := bc BK142 0
      have hcz51_1 : wr.cell? ⟨gb142, 1, none⟩ = some (.slice A0_1 l0_1.length c0_1) := bc BK142 1
      have hfz51_0 := fz BK142 0
      have hfz51_1 := fz BK142 1
      have hnb52 := NB144_143.out
      have hnc52 := NB143_144.out
      have hnb53 := NB144_145.out
      have hnc53 := NB145_144.out
      have hcz54_0 : wr.cell? ⟨gb144, 0, none⟩ = some (.slice A2 l2.length c2) := bc BK144 0
      have hfz54_0 := fz BK144 0
      go_wp2_with (first | ((with_reducible refine gate_callee (f := 25) rfl ?_); refine gL 43 Try.func25 #[.agg #[.int .i64 a0_0, .slice A0_1 l0_1.length c0_1], .func (.func 26) #[] #[.pointer (some ⟨gb144, 0, none⟩), .pointer (some ⟨gb143, 0, none⟩)]] ?_; (with_reducible refine (xEach.calls gb144 gb143 a0_0 _ _ l0_1 A2 c2 l2 a1 t149 t150 _ ?side1 ?side2 ?side3 ?side4 ?side5 ?side6 A47.out).mono ?_); (case side5 => exact (blk_cell (bkC BK144) 0).trans rfl); (case side6 => exact (blk_cell (bkC BK143) 0).trans rfl); (case side1 => exact kC HR0_1); (case side2 => exact HC0_1.out); (case side3 => exact kC HR2); (case side4 => exact HC2.out); rintro e w55 ⟨v151, rfl, ho0, hb⟩; refine ⟨_, rfl, ?_⟩; have HO152 := ak (Kd.S_lower (Kd.S_newB (Kd.S_newB ho0 (g := gb143) (o := .cells #[.int .i64 a1] 3 (0, 0)) (bkC BK143)) (g := gb144) (o := .cells #[.slice A2 l2.length c2] 22 (0, 0)) (bkC BK144)) (below_size (hbC _))); replace BK142 := kB BK142 hb; replace BK143 := kB BK143 hb; replace BK144 := kB BK144 hb; replace BK145 := kB BK145 hb; replace HB := kH _ hb; (try clear hb); (try clear hb2); (try clear hk); (try clear hi); (try clear ho0); have hnb56 := NB145_143.out; have hnc56 := NB143_145.out; have hcz57_0 : w55.cell? ⟨gb145, 0, none⟩ = some (.int .i64 x146000_2) := bc BK145 0; have hcz57_1 : w55.cell? ⟨gb145, 1, none⟩ = some (.slice none 0 0) := bc BK145 1; have hfz57_0 := fz BK145 0; have hfz57_1 := fz BK145 1; obtain ⟨Ao58, co58, eo58⟩ := Kd.S_slice HO152.out; subst eo58))
      refine bodyPost_ret (results_ct rfl _ _ gb145 25 #[.int .i64 t149, .slice Ao58 t150.length co58] (0, 0) _ rfl (by (with_reducible repeat (first | refine blk_drewN ?_ _ | refine blk_drew ?_ | refine blk_alloc ?_ _)); refine blk_put (cs := #[.int .i64 t149, .slice none 0 0]) ?_ 1 _ rfl; (with_reducible repeat (first | refine blk_drewN ?_ _ | refine blk_drew ?_ | refine blk_alloc ?_ _)); refine blk_put (cs := #[.int .i64 x146000_2, .slice none 0 0]) ?_ 0 _ rfl; (with_reducible repeat (first | refine blk_drewN ?_ _ | refine blk_drew ?_ | refine blk_alloc ?_ _)); exact BK145.out) Try.underlying25 rfl (by kernel_rfl)) rfl ?_
      exact ⟨_, by first | rfl | (simp [errW_none, errW_some] <;> rfl) | (simp [*, errW_none, errW_some] <;> rfl), by (with_reducible repeat (first | apply Kd.S_alloc | apply Kd.S_drewN | apply Kd.S_drew)); exact Kd.S_mono (Kd.S_far (p := ⟨gb145, 1, none⟩) (Kd.S_far (p := ⟨gb145, 0, none⟩) (Kd.S_types HO152.out BK145.out (by decide)) (fun _ hk => hk.2) (.int .i64 t149)) (fun _ hk => hk.2) (.slice Ao58 t150.length co58)) (fun _ hk => trivial), hbC _⟩
     rw [if_pos c33] at H
     have c33b0 : decide (x32_2 < (l2.length : Int)) = true := decide_eq_true c33
     clear c33
     replace H := Option.bind_eq_some_iff.mp H
     obtain ⟨t148, A340, H⟩ := H
     replace H : (if t148 = true then (arrays_Rename.l0 k2 a1 (l2.length : Int) (wrap64 (x32_2 + 1)) a0_0 l0_1 l2) else (some (0, ([] : List (List Int)), 2))) = some (r1, r2, r3) := H
     have A34 := Aside0.mk A340
     clear A340
     by_cases c35 : t148 = true
     ·subst c35
      have H1 : (arrays_Rename.l0 k2 a1 (l2.length : Int) (wrap64 (x32_2 + 1)) a0_0 l0_1 l2) = some (r1, r2, r3) := by rw [if_pos rfl] at H; exact H
      clear H
      have H := H1
      clear H1
      have H' := Aside0.mk H
      clear H
      have hnb36 := NB144_142.out
      have hnc36 := NB142_144.out
      have hnb37 := NB144_143.out
      have hnc37 := NB143_144.out
      have hnb38 := NB144_145.out
      have hnc38 := NB145_144.out
      have hcz39_0 : wr.cell? ⟨gb144, 0, none⟩ = some (.slice A2 l2.length c2) := bc BK144 0
      have hfz39_0 := fz BK144 0
      go_wp2_with (first | ((with_reducible refine gate_callee (f := 24) rfl ?_); refine gL 37 Try.func24 #[.slice A2 l2.length c2, .int .i64 x32_2] ?_; (with_reducible refine (slices_Contains_int_int.calls k2 _ _ l2 x32_2 true _ ?side1 ?side2 A34.out).mono ?_); (case side1 => exact kC HR2); (case side2 => exact HC2.out); rintro e w' ⟨rfl, ⟨nd, rfl⟩⟩; refine ⟨_, rfl, ?_⟩))
      go_roundg k2
      case measure => have := HJ3.out; have := HK2.out; omega
      case rel => exact ⟨(wrap64 (x32_2 + 1)), (x146000_2), (by first | rfl | (simp; done) | (simp [*]; done)), H', ⟨by have := HJ3.out; have := HK2.out; omega⟩, ⟨bkC BK142⟩, ⟨bkC BK143⟩, ⟨bkC BK144⟩, ⟨bkC BK145⟩, ⟨hbC _⟩⟩
     replace c35 := Bool.eq_false_iff.mpr c35
     subst c35
     have H1 : (some (0, ([] : List (List Int)), 2)) = some (r1, r2, r3) := by rw [if_neg (show ¬ (false = true) by decide)] at H; exact H
     clear H
     have H := H1
     clear H1
     simp only [Option.some.injEq, Prod.mk.injEq] at H
     obtain ⟨rfl, rfl, rfl⟩ := H
     have hnb40 := NB144_142.out
     have hnc40 := NB142_144.out
     have hnb41 := NB144_143.out
     have hnc41 := NB143_144.out
     have hnb42 := NB144_145.out
     have hnc42 := NB145_144.out
     have hcz43_0 : wr.cell? ⟨gb144, 0, none⟩ = some (.slice A2 l2.length c2) := bc BK144 0
     have hfz43_0 := fz BK144 0
     go_wp2_with (first | ((with_reducible refine gate_callee (f := 24) rfl ?_); refine gL 37 Try.func24 #[.slice A2 l2.length c2, .int .i64 x32_2] ?_; (with_reducible refine (slices_Contains_int_int.calls k2 _ _ l2 x32_2 false _ ?side1 ?side2 A34.out).mono ?_); (case side1 => exact kC HR2); (case side2 => exact HC2.out); rintro e w' ⟨rfl, ⟨nd, rfl⟩⟩; refine ⟨_, rfl, ?_⟩; (try (rw [drewN_self wr]; generalize hq_ : World.drewN wr _ = wr; have n0_ : Aside0 (wr.heap[gb142]? = some (.cells #[.int .i64 a0_0, .slice A0_1 l0_1.length c0_1] 25 (0, 0))) := ⟨by rw [← hq_]; exact (bkC BK142)⟩; have n1_ : Aside0 (wr.heap[gb143]? = some (.cells #[.int .i64 a1] 3 (0, 0))) := ⟨by rw [← hq_]; exact (bkC BK143)⟩; have n2_ : Aside0 (wr.heap[gb144]? = some (.cells #[.slice A2 l2.length c2] 22 (0, 0))) := ⟨by rw [← hq_]; exact (bkC BK144)⟩; have n3_ : Aside0 (wr.heap[gb145]? = some (.cells #[.int .i64 x146000_2, .slice none 0 0] 25 (0, 0))) := ⟨by rw [← hq_]; exact (bkC BK145)⟩; have n4_ : Aside0 (Below w.heap.size w wr) := ⟨by rw [← hq_]; exact (hbC _)⟩; clear BK142 BK143 BK144 BK145 HB hq_; have BK142 := n0_; have BK143 := n1_; have BK144 := n2_; have BK145 := n3_; have HB := n4_; clear n0_ n1_ n2_ n3_ n4_)); have hnb44 := NB145_142.out; have hnc44 := NB142_145.out; have hnb45 := NB145_143.out; have hnc45 := NB143_145.out; have hcz46_0 : wr.cell? ⟨gb145, 0, none⟩ = some (.int .i64 x146000_2) := bc BK145 0; have hcz46_1 : wr.cell? ⟨gb145, 1, none⟩ = some (.slice none 0 0) := bc BK145 1; have hfz46_0 := fz BK145 0; have hfz46_1 := fz BK145 1))
     refine bodyPost_ret (results_ct rfl _ _ gb145 25 #[.int .i64 0, .slice none 0 0] (0, 0) _ rfl (by (with_reducible repeat (first | refine blk_drewN ?_ _ | refine blk_drew ?_ | refine blk_alloc ?_ _)); refine blk_put (cs := #[.int .i64 0, .slice none 0 0]) ?_ 1 _ rfl; (with_reducible repeat (first | refine blk_drewN ?_ _ | refine blk_drew ?_ | refine blk_alloc ?_ _)); refine blk_put (cs := #[.int .i64 x146000_2, .slice none 0 0]) ?_ 0 _ rfl; (with_reducible repeat (first | refine blk_drewN ?_ _ | refine blk_drew ?_ | refine blk_alloc ?_ _)); exact BK145.out) Try.underlying25 rfl (by kernel_rfl)) rfl ?_
     exact ⟨_, by first | rfl | (simp [errW_none, errW_some] <;> rfl) | (simp [*, errW_none, errW_some] <;> rfl), by first | exact Kd.S_nil _ _ _ _ _ | exact Kd.N_nil _ _ _ _ _ | exact Kd.V_nil _ _ _ _ _ | exact Kd.Q_nil _ _ _ _ _ | exact Kd.R_nil _ _ _ _ _, hbC _⟩

end Go.Proofs.Ytkieehjpnjplmaa.X
