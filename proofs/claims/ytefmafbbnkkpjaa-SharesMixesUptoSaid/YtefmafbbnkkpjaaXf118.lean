-- Written by a program of this work (wip/xprint.py, over the kit's printer) out of the translation.
import Derived.Test.YtefmafbbnkkpjaaX0
import Derived.Test.YtefmafbbnkkpjaaXG2a
namespace Go.Proofs.Ytefmafbbnkkpjaa.X
open Go.RowKit Go.Proofs.YtefmafbbnkkpjaaW.PrintWords Go.Proofs.YtefmafbbnkkpjaaW.PrintLast Go.Proofs.YtefmafbbnkkpjaaW.PrintMore
attribute [local go_sem] max2_int min2_int max_two min_two max_three min_three max_four min_four   -- for this text's walks alone
set_option linter.unusedVariables false
set_option linter.unusedSimpArgs false

/-! ### shares_times: function 118 -/
def shares_times.f (k : Nat) (a0_0 : Int) (a0_1 : Int) (a1_0 : Int) (a1_1 : Int) : Option (Int × Int) := (shares_frac.f k a0_0 a1_1).bind fun bt1005 => ((shares_frac.f k a1_0 a0_1).bind fun bt1007 => (some (wrap64 (bt1005.1 * bt1007.1), wrap64 (bt1005.2 * bt1007.2))))
theorem shares_times.mono : ∀ a0 a1 a2 a3 k, LeO (shares_times.f k a0 a1 a2 a3) (shares_times.f (k + 1) a0 a1 a2 a3) := by
 intro a0 a1 a2 a3 k
 unfold shares_times.f
 repeat' first
   | (with_reducible exact shares_frac.mono _ _ _)
   | (with_reducible exact LeO.refl _)
   | (with_reducible exact LeO.none _)
   | (with_reducible refine LeO.ite ?_ ?_)
   | (with_reducible refine LeO.bind ?_ (fun _ => ?_))
   | exact shares_frac.mono _ _ _
   | exact LeO.none _
   | refine LeO.ite ?_ ?_
   | refine LeO.bind ?_ (fun _ => ?_)
def shares_times.T1 : Bool × List (List Nat × List Nat) := (true, [([], []), ([0], [0]), ([], []), ([2], [2]), ([1, 3], [1, 3]), ([], []), ([5], [5]), ([], []), ([7], [7]), ([6, 8, 4], [6, 8]), ([], []), ([], []), ([10, 4, 9, 0, 1, 2, 3, 4, 10, 11], [4, 10]), ([11, 9, 12, 0, 1, 2, 3, 4, 5, 6, 7, 8, 9, 10, 11, 12], [9, 11])])
def shares_times.B1 : List Nat := [0, 1, 0, 4, 15, 0, 32, 0, 128, 511, 0, 0, 4095, 8191]
theorem shares_times.tab1 : rtab .any (opsOf Try.f118 1) = shares_times.T1 := by kernel_rfl
theorem shares_times.bits1 : waitsOk shares_times.T1.2 shares_times.B1 = true := by kernel_rfl
set_option maxHeartbeats 8000000 in
set_option maxRecDepth 100000 in
theorem shares_times.calls (k : Nat) (a0_0 : Int) (a0_1 : Int) (a1_0 : Int) (a1_1 : Int) (r1 : Int) (r2 : Int) (w : World) (h : shares_times.f k a0_0 a0_1 a1_0 a1_1 = some (r1, r2)) :
  Calls Try.prog 118 #[.agg #[.int .i64 a0_0, .int .i64 a0_1], .agg #[.int .i64 a1_0, .int .i64 a1_1]] w fun e w' => e = .returned (.agg #[.int .i64 r1, .int .i64 r2]) ∧ Below w.heap.size w w' := by
 have hu62 := Try.underlying62
 have HB := ak (Below.refl w.heap.size w)
 have H : ((shares_frac.f k a0_0 a1_1).bind fun bt1005 => ((shares_frac.f k a1_0 a0_1).bind fun bt1007 => (some (wrap64 (bt1005.1 * bt1007.1), wrap64 (bt1005.2 * bt1007.2))))) = some (r1, r2) := h
 clear h
 replace H := Option.bind_eq_some_iff.mp H
 obtain ⟨⟨t1005, t1006⟩, A30, H⟩ := H
 replace H : ((shares_frac.f k a1_0 a0_1).bind fun bt1007 => (some (wrap64 (t1005 * bt1007.1), wrap64 (t1006 * bt1007.2)))) = some (r1, r2) := H
 have A3 := Aside0.mk A30
 clear A30
 replace H := Option.bind_eq_some_iff.mp H
 obtain ⟨⟨t1007, t1008⟩, A40, H⟩ := H
 replace H : (some (wrap64 (t1005 * t1007), wrap64 (t1006 * t1008))) = some (r1, r2) := H
 have A4 := Aside0.mk A40
 clear A40
 simp only [Option.some.injEq, Prod.mk.injEq] at H
 obtain ⟨rfl, rfl⟩ := H
 go_enter Try.func118, Try.ntmps118
 try go_wp2_with (first | ((with_reducible refine gate_dst (N := 2) rfl ?_); refine bE 2 #[.int .i64 a0_0, .int .i64 a0_1] 62 ?_; intro gb1002 hg w5 hbox hb; have BK1002 := ak (hbox); have GW1002 := kG w hg; have GE1002 := kG w hg; replace HB := kH _ hb; clear hb hbox hg) | ((with_reducible refine gate_dst (N := 3) rfl ?_); refine bE 3 #[.int .i64 a1_0, .int .i64 a1_1] 62 ?_; intro gb1003 hg w6 hbox hb; have BK1003 := ak (hbox); have GW1003 := kG w hg; have GE1003 := kG w hg; replace HB := kH _ hb; have NB1002_1003 := kL BK1002 hg; have NB1003_1002 := kR BK1002 hg; replace BK1002 := kB BK1002 hb; clear hb hbox hg) | ((with_reducible refine gate_dst (N := 4) rfl ?_); refine bE 4 #[.int .i64 0, .int .i64 0] 62 ?_; intro gb1004 hg w7 hbox hb; have BK1004 := ak (hbox); have GW1004 := kG w hg; have GE1004 := kG w hg; replace HB := kH _ hb; have NB1002_1004 := kL BK1002 hg; have NB1004_1002 := kR BK1002 hg; replace BK1002 := kB BK1002 hb; have NB1003_1004 := kL BK1003 hg; have NB1004_1003 := kR BK1003 hg; replace BK1003 := kB BK1003 hb; clear hb hbox hg))
 replace BK1002 := kd BK1002
 replace BK1003 := kd BK1003
 replace BK1004 := kd BK1004
 replace HB := ak (below_drew1 HB.out)
 refine sS (n := 14) (S := fun w' => w'.cell? ⟨gb1002, 0, none⟩ = some (.int .i64 a0_0) ∧ w'.cell? ⟨gb1002, 1, none⟩ = some (.int .i64 a0_1) ∧ w'.cell? ⟨gb1003, 0, none⟩ = some (.int .i64 a1_0) ∧ w'.cell? ⟨gb1003, 1, none⟩ = some (.int .i64 a1_1)) (ds := []) ⟨bc BK1002 0, bc BK1002 1, bc BK1003 0, bc BK1003 1⟩ (fun hHeld => ?_); refine with_tabW shares_times.tab1 shares_times.bits1 (fun HT_ HW_ => ?_)
 generalize w7.drew = w8 at BK1002 BK1003 BK1004 HB hHeld ⊢
 refine pS 0 7 14 1 ?_
 refine pS 2 9 14 5 ?_
 refine pS 5 12 14 37 ?_
 refine pS 7 14 14 165 ?_
 refine tS 1 8 14 167 ?_
 refine tS 3 10 14 175 ?_
 refine tS 6 13 14 239 ?_
 refine tS 8 15 14 495 ?_
 refine join_ (σ := Nat × Nat) 2 (ba 14 4095) (fun s_ => [(11, .agg #[.int .i64 t1005, .int .i64 t1006]), (16, .agg #[.int .i64 t1007, .int .i64 t1008]), (5, .pointer (some ⟨s_.1, 0, none⟩)), (6, .pointer (some ⟨s_.2, 0, none⟩))]) (fun s_ w' => (w'.cell? ⟨gb1002, 0, none⟩ = some (.int .i64 a0_0) ∧ w'.cell? ⟨gb1002, 1, none⟩ = some (.int .i64 a0_1) ∧ w'.cell? ⟨gb1003, 0, none⟩ = some (.int .i64 a1_0) ∧ w'.cell? ⟨gb1003, 1, none⟩ = some (.int .i64 a1_1)) ∧ (w'.heap[gb1002]? = some (.cells #[.int .i64 a0_0, .int .i64 a0_1] 62 (0, 0))) ∧ (w'.heap[gb1003]? = some (.cells #[.int .i64 a1_0, .int .i64 a1_1] 62 (0, 0))) ∧ (w'.heap[gb1004]? = some (.cells #[.int .i64 0, .int .i64 0] 62 (0, 0))) ∧ (w'.heap[s_.1]? = some (.cells #[.int .i64 0, .int .i64 0] 62 (0, 0))) ∧ (w'.heap[s_.2]? = some (.cells #[.int .i64 0, .int .i64 0] 62 (0, 0))) ∧ (w.heap.size ≤ s_.1) ∧ (w.heap.size ≤ s_.1) ∧ (gb1002 ≠ s_.1) ∧ (s_.1 ≠ gb1002) ∧ (gb1003 ≠ s_.1) ∧ (s_.1 ≠ gb1003) ∧ (gb1004 ≠ s_.1) ∧ (s_.1 ≠ gb1004) ∧ (s_.2 ≠ s_.1) ∧ (s_.1 ≠ s_.2) ∧ (w.heap.size ≤ s_.2) ∧ (w.heap.size ≤ s_.2) ∧ (gb1002 ≠ s_.2) ∧ (s_.2 ≠ gb1002) ∧ (gb1003 ≠ s_.2) ∧ (s_.2 ≠ gb1003) ∧ (gb1004 ≠ s_.2) ∧ (s_.2 ≠ gb1004) ∧ (Below w.heap.size w w')) ?_ ?_
 rotate_left
 ·intro hJ4_9_10_11
  refine join_ (σ := Nat) 3 (ba 14 2047) (fun s_ => [(11, .agg #[.int .i64 t1005, .int .i64 t1006]), (16, .agg #[.int .i64 t1007, .int .i64 t1008]), (5, .pointer (some ⟨s_, 0, none⟩))]) (fun s_ w' => (w'.cell? ⟨gb1002, 0, none⟩ = some (.int .i64 a0_0) ∧ w'.cell? ⟨gb1002, 1, none⟩ = some (.int .i64 a0_1) ∧ w'.cell? ⟨gb1003, 0, none⟩ = some (.int .i64 a1_0) ∧ w'.cell? ⟨gb1003, 1, none⟩ = some (.int .i64 a1_1)) ∧ (w'.heap[gb1002]? = some (.cells #[.int .i64 a0_0, .int .i64 a0_1] 62 (0, 0))) ∧ (w'.heap[gb1003]? = some (.cells #[.int .i64 a1_0, .int .i64 a1_1] 62 (0, 0))) ∧ (w'.heap[gb1004]? = some (.cells #[.int .i64 0, .int .i64 0] 62 (0, 0))) ∧ (w'.heap[s_]? = some (.cells #[.int .i64 0, .int .i64 0] 62 (0, 0))) ∧ (w.heap.size ≤ s_) ∧ (w.heap.size ≤ s_) ∧ (gb1002 ≠ s_) ∧ (s_ ≠ gb1002) ∧ (gb1003 ≠ s_) ∧ (s_ ≠ gb1003) ∧ (gb1004 ≠ s_) ∧ (s_ ≠ gb1004) ∧ (Below w.heap.size w w')) ?_ ?_
  rotate_left
  ·intro hJ4_9_10
   refine join_ (σ := Nat) 3 (ba 14 3071) (fun s_ => [(11, .agg #[.int .i64 t1005, .int .i64 t1006]), (16, .agg #[.int .i64 t1007, .int .i64 t1008]), (6, .pointer (some ⟨s_, 0, none⟩))]) (fun s_ w' => (w'.cell? ⟨gb1002, 0, none⟩ = some (.int .i64 a0_0) ∧ w'.cell? ⟨gb1002, 1, none⟩ = some (.int .i64 a0_1) ∧ w'.cell? ⟨gb1003, 0, none⟩ = some (.int .i64 a1_0) ∧ w'.cell? ⟨gb1003, 1, none⟩ = some (.int .i64 a1_1)) ∧ (w'.heap[gb1002]? = some (.cells #[.int .i64 a0_0, .int .i64 a0_1] 62 (0, 0))) ∧ (w'.heap[gb1003]? = some (.cells #[.int .i64 a1_0, .int .i64 a1_1] 62 (0, 0))) ∧ (w'.heap[gb1004]? = some (.cells #[.int .i64 0, .int .i64 0] 62 (0, 0))) ∧ (w'.heap[s_]? = some (.cells #[.int .i64 0, .int .i64 0] 62 (0, 0))) ∧ (w.heap.size ≤ s_) ∧ (w.heap.size ≤ s_) ∧ (gb1002 ≠ s_) ∧ (s_ ≠ gb1002) ∧ (gb1003 ≠ s_) ∧ (s_ ≠ gb1003) ∧ (gb1004 ≠ s_) ∧ (s_ ≠ gb1004) ∧ (Below w.heap.size w w')) ?_ ?_
   rotate_left
   ·intro hJ4_9_11
    refine join_ (σ := Nat × Nat) 3 (ba 14 3583) (fun s_ => [(11, .agg #[.int .i64 t1005, .int .i64 t1006]), (5, .pointer (some ⟨s_.1, 0, none⟩)), (6, .pointer (some ⟨s_.2, 0, none⟩))]) (fun s_ w' => (w'.cell? ⟨gb1002, 0, none⟩ = some (.int .i64 a0_0) ∧ w'.cell? ⟨gb1002, 1, none⟩ = some (.int .i64 a0_1) ∧ w'.cell? ⟨gb1003, 0, none⟩ = some (.int .i64 a1_0) ∧ w'.cell? ⟨gb1003, 1, none⟩ = some (.int .i64 a1_1)) ∧ (w'.heap[gb1002]? = some (.cells #[.int .i64 a0_0, .int .i64 a0_1] 62 (0, 0))) ∧ (w'.heap[gb1003]? = some (.cells #[.int .i64 a1_0, .int .i64 a1_1] 62 (0, 0))) ∧ (w'.heap[gb1004]? = some (.cells #[.int .i64 0, .int .i64 0] 62 (0, 0))) ∧ (w'.heap[s_.1]? = some (.cells #[.int .i64 0, .int .i64 0] 62 (0, 0))) ∧ (w'.heap[s_.2]? = some (.cells #[.int .i64 0, .int .i64 0] 62 (0, 0))) ∧ (w.heap.size ≤ s_.1) ∧ (w.heap.size ≤ s_.1) ∧ (gb1002 ≠ s_.1) ∧ (s_.1 ≠ gb1002) ∧ (gb1003 ≠ s_.1) ∧ (s_.1 ≠ gb1003) ∧ (gb1004 ≠ s_.1) ∧ (s_.1 ≠ gb1004) ∧ (s_.2 ≠ s_.1) ∧ (s_.1 ≠ s_.2) ∧ (w.heap.size ≤ s_.2) ∧ (w.heap.size ≤ s_.2) ∧ (gb1002 ≠ s_.2) ∧ (s_.2 ≠ gb1002) ∧ (gb1003 ≠ s_.2) ∧ (s_.2 ≠ gb1003) ∧ (gb1004 ≠ s_.2) ∧ (s_.2 ≠ gb1004) ∧ (Below w.heap.size w w')) ?_ ?_
    rotate_left
    ·intro hJ4_10_11
     refine join_ (σ := Unit) 4 (ba 14 1023) (fun s_ => [(11, .agg #[.int .i64 t1005, .int .i64 t1006]), (16, .agg #[.int .i64 t1007, .int .i64 t1008])]) (fun s_ w' => (w'.cell? ⟨gb1002, 0, none⟩ = some (.int .i64 a0_0) ∧ w'.cell? ⟨gb1002, 1, none⟩ = some (.int .i64 a0_1) ∧ w'.cell? ⟨gb1003, 0, none⟩ = some (.int .i64 a1_0) ∧ w'.cell? ⟨gb1003, 1, none⟩ = some (.int .i64 a1_1)) ∧ (w'.heap[gb1002]? = some (.cells #[.int .i64 a0_0, .int .i64 a0_1] 62 (0, 0))) ∧ (w'.heap[gb1003]? = some (.cells #[.int .i64 a1_0, .int .i64 a1_1] 62 (0, 0))) ∧ (w'.heap[gb1004]? = some (.cells #[.int .i64 0, .int .i64 0] 62 (0, 0))) ∧ (Below w.heap.size w w')) ?_ ?_
     rotate_left
     ·intro hJ4_9
      refine join_ (σ := Nat) 4 (ba 14 1535) (fun s_ => [(11, .agg #[.int .i64 t1005, .int .i64 t1006]), (5, .pointer (some ⟨s_, 0, none⟩))]) (fun s_ w' => (w'.cell? ⟨gb1002, 0, none⟩ = some (.int .i64 a0_0) ∧ w'.cell? ⟨gb1002, 1, none⟩ = some (.int .i64 a0_1) ∧ w'.cell? ⟨gb1003, 0, none⟩ = some (.int .i64 a1_0) ∧ w'.cell? ⟨gb1003, 1, none⟩ = some (.int .i64 a1_1)) ∧ (w'.heap[gb1002]? = some (.cells #[.int .i64 a0_0, .int .i64 a0_1] 62 (0, 0))) ∧ (w'.heap[gb1003]? = some (.cells #[.int .i64 a1_0, .int .i64 a1_1] 62 (0, 0))) ∧ (w'.heap[gb1004]? = some (.cells #[.int .i64 0, .int .i64 0] 62 (0, 0))) ∧ (w'.heap[s_]? = some (.cells #[.int .i64 0, .int .i64 0] 62 (0, 0))) ∧ (w.heap.size ≤ s_) ∧ (w.heap.size ≤ s_) ∧ (gb1002 ≠ s_) ∧ (s_ ≠ gb1002) ∧ (gb1003 ≠ s_) ∧ (s_ ≠ gb1003) ∧ (gb1004 ≠ s_) ∧ (s_ ≠ gb1004) ∧ (Below w.heap.size w w')) ?_ ?_
      rotate_left
      ·intro hJ4_10
       refine join_ (σ := Nat) 4 (ba 14 2559) (fun s_ => [(11, .agg #[.int .i64 t1005, .int .i64 t1006]), (6, .pointer (some ⟨s_, 0, none⟩))]) (fun s_ w' => (w'.cell? ⟨gb1002, 0, none⟩ = some (.int .i64 a0_0) ∧ w'.cell? ⟨gb1002, 1, none⟩ = some (.int .i64 a0_1) ∧ w'.cell? ⟨gb1003, 0, none⟩ = some (.int .i64 a1_0) ∧ w'.cell? ⟨gb1003, 1, none⟩ = some (.int .i64 a1_1)) ∧ (w'.heap[gb1002]? = some (.cells #[.int .i64 a0_0, .int .i64 a0_1] 62 (0, 0))) ∧ (w'.heap[gb1003]? = some (.cells #[.int .i64 a1_0, .int .i64 a1_1] 62 (0, 0))) ∧ (w'.heap[gb1004]? = some (.cells #[.int .i64 0, .int .i64 0] 62 (0, 0))) ∧ (w'.heap[s_]? = some (.cells #[.int .i64 0, .int .i64 0] 62 (0, 0))) ∧ (w.heap.size ≤ s_) ∧ (w.heap.size ≤ s_) ∧ (gb1002 ≠ s_) ∧ (s_ ≠ gb1002) ∧ (gb1003 ≠ s_) ∧ (s_ ≠ gb1003) ∧ (gb1004 ≠ s_) ∧ (s_ ≠ gb1004) ∧ (Below w.heap.size w w')) ?_ ?_
       rotate_left
       ·intro hJ4_11
        refine join_ (σ := Nat × Nat) 4 (ba 14 3567) (fun s_ => [(5, .pointer (some ⟨s_.1, 0, none⟩)), (6, .pointer (some ⟨s_.2, 0, none⟩))]) (fun s_ w' => (w'.cell? ⟨gb1002, 0, none⟩ = some (.int .i64 a0_0) ∧ w'.cell? ⟨gb1002, 1, none⟩ = some (.int .i64 a0_1) ∧ w'.cell? ⟨gb1003, 0, none⟩ = some (.int .i64 a1_0) ∧ w'.cell? ⟨gb1003, 1, none⟩ = some (.int .i64 a1_1)) ∧ (w'.heap[gb1002]? = some (.cells #[.int .i64 a0_0, .int .i64 a0_1] 62 (0, 0))) ∧ (w'.heap[gb1003]? = some (.cells #[.int .i64 a1_0, .int .i64 a1_1] 62 (0, 0))) ∧ (w'.heap[gb1004]? = some (.cells #[.int .i64 0, .int .i64 0] 62 (0, 0))) ∧ (w'.heap[s_.1]? = some (.cells #[.int .i64 0, .int .i64 0] 62 (0, 0))) ∧ (w'.heap[s_.2]? = some (.cells #[.int .i64 0, .int .i64 0] 62 (0, 0))) ∧ (w.heap.size ≤ s_.1) ∧ (w.heap.size ≤ s_.1) ∧ (gb1002 ≠ s_.1) ∧ (s_.1 ≠ gb1002) ∧ (gb1003 ≠ s_.1) ∧ (s_.1 ≠ gb1003) ∧ (gb1004 ≠ s_.1) ∧ (s_.1 ≠ gb1004) ∧ (s_.2 ≠ s_.1) ∧ (s_.1 ≠ s_.2) ∧ (w.heap.size ≤ s_.2) ∧ (w.heap.size ≤ s_.2) ∧ (gb1002 ≠ s_.2) ∧ (s_.2 ≠ gb1002) ∧ (gb1003 ≠ s_.2) ∧ (s_.2 ≠ gb1003) ∧ (gb1004 ≠ s_.2) ∧ (s_.2 ≠ gb1004) ∧ (Below w.heap.size w w')) ?_ ?_
        rotate_left
        ·intro hJ10_11
         refine join_ (σ := Unit) 5 (ba 14 511) (fun s_ => [(11, .agg #[.int .i64 t1005, .int .i64 t1006])]) (fun s_ w' => (w'.cell? ⟨gb1002, 0, none⟩ = some (.int .i64 a0_0) ∧ w'.cell? ⟨gb1002, 1, none⟩ = some (.int .i64 a0_1) ∧ w'.cell? ⟨gb1003, 0, none⟩ = some (.int .i64 a1_0) ∧ w'.cell? ⟨gb1003, 1, none⟩ = some (.int .i64 a1_1)) ∧ (w'.heap[gb1002]? = some (.cells #[.int .i64 a0_0, .int .i64 a0_1] 62 (0, 0))) ∧ (w'.heap[gb1003]? = some (.cells #[.int .i64 a1_0, .int .i64 a1_1] 62 (0, 0))) ∧ (w'.heap[gb1004]? = some (.cells #[.int .i64 0, .int .i64 0] 62 (0, 0))) ∧ (Below w.heap.size w w')) ?_ ?_
         rotate_left
         ·intro hJ4
          refine join_ (σ := Nat) 5 (ba 14 1519) (fun s_ => [(5, .pointer (some ⟨s_, 0, none⟩))]) (fun s_ w' => (w'.cell? ⟨gb1002, 0, none⟩ = some (.int .i64 a0_0) ∧ w'.cell? ⟨gb1002, 1, none⟩ = some (.int .i64 a0_1) ∧ w'.cell? ⟨gb1003, 0, none⟩ = some (.int .i64 a1_0) ∧ w'.cell? ⟨gb1003, 1, none⟩ = some (.int .i64 a1_1)) ∧ (w'.heap[gb1002]? = some (.cells #[.int .i64 a0_0, .int .i64 a0_1] 62 (0, 0))) ∧ (w'.heap[gb1003]? = some (.cells #[.int .i64 a1_0, .int .i64 a1_1] 62 (0, 0))) ∧ (w'.heap[gb1004]? = some (.cells #[.int .i64 0, .int .i64 0] 62 (0, 0))) ∧ (w'.heap[s_]? = some (.cells #[.int .i64 0, .int .i64 0] 62 (0, 0))) ∧ (w.heap.size ≤ s_) ∧ (w.heap.size ≤ s_) ∧ (gb1002 ≠ s_) ∧ (s_ ≠ gb1002) ∧ (gb1003 ≠ s_) ∧ (s_ ≠ gb1003) ∧ (gb1004 ≠ s_) ∧ (s_ ≠ gb1004) ∧ (Below w.heap.size w w')) ?_ ?_
          rotate_left
          ·intro hJ10
           refine join_ (σ := Nat) 5 (ba 14 2543) (fun s_ => [(6, .pointer (some ⟨s_, 0, none⟩))]) (fun s_ w' => (w'.cell? ⟨gb1002, 0, none⟩ = some (.int .i64 a0_0) ∧ w'.cell? ⟨gb1002, 1, none⟩ = some (.int .i64 a0_1) ∧ w'.cell? ⟨gb1003, 0, none⟩ = some (.int .i64 a1_0) ∧ w'.cell? ⟨gb1003, 1, none⟩ = some (.int .i64 a1_1)) ∧ (w'.heap[gb1002]? = some (.cells #[.int .i64 a0_0, .int .i64 a0_1] 62 (0, 0))) ∧ (w'.heap[gb1003]? = some (.cells #[.int .i64 a1_0, .int .i64 a1_1] 62 (0, 0))) ∧ (w'.heap[gb1004]? = some (.cells #[.int .i64 0, .int .i64 0] 62 (0, 0))) ∧ (w'.heap[s_]? = some (.cells #[.int .i64 0, .int .i64 0] 62 (0, 0))) ∧ (w.heap.size ≤ s_) ∧ (w.heap.size ≤ s_) ∧ (gb1002 ≠ s_) ∧ (s_ ≠ gb1002) ∧ (gb1003 ≠ s_) ∧ (s_ ≠ gb1003) ∧ (gb1004 ≠ s_) ∧ (s_ ≠ gb1004) ∧ (Below w.heap.size w w')) ?_ ?_
           rotate_left
           ·intro hJ11
            refine three_ (i := 4) (j := 10) (k := 11) (Ni := some 11) (Nj := some 5) (Nk := some 6) (ba 14 511) (ba 14 1519) (ba 14 2543) rfl rfl rfl rfl rfl rfl (three_of HT_.out (by kernel_rfl)) (by decide) (by decide) (by decide) (fun K hK => ?_) (fun K hK => ?_) (fun K hK => ?_)
            ·skip
             refine gC Try.func85 #[.int .i64 a0_0, .int .i64 a1_1] ?_
             with_reducible refine (shares_frac.calls k a0_0 a1_1 t1005 t1006 _ A3.out).mono ?_
             rintro e w9 ⟨rfl, hb⟩
             refine ⟨_, rfl, ?_⟩
             replace BK1002 := kB BK1002 hb
             replace BK1003 := kB BK1003 hb
             replace BK1004 := kB BK1004 hb
             replace HB := kH _ hb
             (try clear hb)
             (try clear hb2)
             (try clear hk)
             (try clear hi)
             refine hK.out _ _ ⟨bc BK1002 0, bc BK1002 1, bc BK1003 0, bc BK1003 1⟩ (fun hHeld => ?_)
             clear hK K
             refine norm_ (a' := ?_) ?_ ?_
             rotate_left
             ·show Act.put _ (some 11) _ = _
              simp only [Act.put, List.setIfInBounds_toArray, List.set_cons_zero, List.set_cons_succ, i64_w, i32_w]
              rfl
             exact norm_ (by first | (simp only [putAll, Act.put, List.setIfInBounds_toArray, List.set_cons_zero, List.set_cons_succ]; done) | (simp only [putAll, Act.put, List.setIfInBounds_toArray, List.set_cons_zero, List.set_cons_succ]; rfl)) (hJ4 () _ ⟨hHeld, (bkC BK1002), (bkC BK1003), (bkC BK1004), (hbC _)⟩)
            ·skip
             refine box_step ?hg (N := 5) ?hd (cs := #[.int .i64 0, .int .i64 0]) (t := 62) ?hr ?_; (case hd => rfl); (case hg => rfl); (case hr => first | (go_simp; done) | (go_simp; rfl))
             intro gb1009 hg w9 hbox hb
             have BK1009 := ak (hbox)
             have GW1009 := kG w hg
             have GE1009 := kG w hg
             replace HB := kH _ hb
             have NB1002_1009 := kL BK1002 hg
             have NB1009_1002 := kR BK1002 hg
             replace BK1002 := kB BK1002 hb
             have NB1003_1009 := kL BK1003 hg
             have NB1009_1003 := kR BK1003 hg
             replace BK1003 := kB BK1003 hb
             have NB1004_1009 := kL BK1004 hg
             have NB1009_1004 := kR BK1004 hg
             replace BK1004 := kB BK1004 hb
             clear hb hbox hg
             refine hK.out _ _ ⟨bc BK1002 0, bc BK1002 1, bc BK1003 0, bc BK1003 1⟩ (fun hHeld => ?_)
             clear hK K
             refine norm_ (a' := ?_) ?_ ?_
             rotate_left
             ·show Act.put _ (some 5) _ = _
              simp only [Act.put, List.setIfInBounds_toArray, List.set_cons_zero, List.set_cons_succ, i64_w, i32_w]
              rfl
             exact norm_ (by first | (simp only [putAll, Act.put, List.setIfInBounds_toArray, List.set_cons_zero, List.set_cons_succ]; done) | (simp only [putAll, Act.put, List.setIfInBounds_toArray, List.set_cons_zero, List.set_cons_succ]; rfl)) (hJ10 (gb1009) _ ⟨hHeld, (bkC BK1002), (bkC BK1003), (bkC BK1004), (bkC BK1009), GW1009.out, GE1009.out, NB1002_1009.out, NB1009_1002.out, NB1003_1009.out, NB1009_1003.out, NB1004_1009.out, NB1009_1004.out, (hbC _)⟩)
            ·skip
             refine box_step ?hg (N := 6) ?hd (cs := #[.int .i64 0, .int .i64 0]) (t := 62) ?hr ?_; (case hd => rfl); (case hg => rfl); (case hr => first | (go_simp; done) | (go_simp; rfl))
             intro gb1010 hg w9 hbox hb
             have BK1010 := ak (hbox)
             have GW1010 := kG w hg
             have GE1010 := kG w hg
             replace HB := kH _ hb
             have NB1002_1010 := kL BK1002 hg
             have NB1010_1002 := kR BK1002 hg
             replace BK1002 := kB BK1002 hb
             have NB1003_1010 := kL BK1003 hg
             have NB1010_1003 := kR BK1003 hg
             replace BK1003 := kB BK1003 hb
             have NB1004_1010 := kL BK1004 hg
             have NB1010_1004 := kR BK1004 hg
             replace BK1004 := kB BK1004 hb
             clear hb hbox hg
             refine hK.out _ _ ⟨bc BK1002 0, bc BK1002 1, bc BK1003 0, bc BK1003 1⟩ (fun hHeld => ?_)
             clear hK K
             refine norm_ (a' := ?_) ?_ ?_
             rotate_left
             ·show Act.put _ (some 6) _ = _
              simp only [Act.put, List.setIfInBounds_toArray, List.set_cons_zero, List.set_cons_succ, i64_w, i32_w]
              rfl
             exact norm_ (by first | (simp only [putAll, Act.put, List.setIfInBounds_toArray, List.set_cons_zero, List.set_cons_succ]; done) | (simp only [putAll, Act.put, List.setIfInBounds_toArray, List.set_cons_zero, List.set_cons_succ]; rfl)) (hJ11 (gb1010) _ ⟨hHeld, (bkC BK1002), (bkC BK1003), (bkC BK1004), (bkC BK1010), GW1010.out, GE1010.out, NB1002_1010.out, NB1010_1002.out, NB1003_1010.out, NB1010_1003.out, NB1004_1010.out, NB1010_1004.out, (hbC _)⟩)
           ·skip
            rintro gb1010 w10 ⟨hS_, h0_, h1_, h2_, h3_, h4_, h5_, h6_, h7_, h8_, h9_, h10_, h11_, h12_⟩
            have n0_ : Aside0 (w10.heap[gb1002]? = some (.cells #[.int .i64 a0_0, .int .i64 a0_1] 62 (0, 0))) := ⟨h0_⟩
            have n1_ : Aside0 (w10.heap[gb1003]? = some (.cells #[.int .i64 a1_0, .int .i64 a1_1] 62 (0, 0))) := ⟨h1_⟩
            have n2_ : Aside0 (w10.heap[gb1004]? = some (.cells #[.int .i64 0, .int .i64 0] 62 (0, 0))) := ⟨h2_⟩
            have n3_ : Aside0 (w10.heap[gb1010]? = some (.cells #[.int .i64 0, .int .i64 0] 62 (0, 0))) := ⟨h3_⟩
            have n4_ : Aside0 (w.heap.size ≤ gb1010) := ⟨h4_⟩
            have n5_ : Aside0 (w.heap.size ≤ gb1010) := ⟨h5_⟩
            have n6_ : Aside0 (gb1002 ≠ gb1010) := ⟨h6_⟩
            have n7_ : Aside0 (gb1010 ≠ gb1002) := ⟨h7_⟩
            have n8_ : Aside0 (gb1003 ≠ gb1010) := ⟨h8_⟩
            have n9_ : Aside0 (gb1010 ≠ gb1003) := ⟨h9_⟩
            have n10_ : Aside0 (gb1004 ≠ gb1010) := ⟨h10_⟩
            have n11_ : Aside0 (gb1010 ≠ gb1004) := ⟨h11_⟩
            have n12_ : Aside0 (Below w.heap.size w w10) := ⟨h12_⟩
            clear BK1002
            clear BK1003
            clear BK1004
            clear HB
            clear h0_ h1_ h2_ h3_ h4_ h5_ h6_ h7_ h8_ h9_ h10_ h11_ h12_
            have BK1002 := n0_
            have BK1003 := n1_
            have BK1004 := n2_
            have BK1010 := n3_
            have GW1010 := n4_
            have GE1010 := n5_
            have NB1002_1010 := n6_
            have NB1010_1002 := n7_
            have NB1003_1010 := n8_
            have NB1010_1003 := n9_
            have NB1004_1010 := n10_
            have NB1010_1004 := n11_
            have HB := n12_
            clear n0_ n1_ n2_ n3_ n4_ n5_ n6_ n7_ n8_ n9_ n10_ n11_ n12_
            have hHeld : w10.cell? ⟨gb1002, 0, none⟩ = some (.int .i64 a0_0) ∧ w10.cell? ⟨gb1002, 1, none⟩ = some (.int .i64 a0_1) ∧ w10.cell? ⟨gb1003, 0, none⟩ = some (.int .i64 a1_0) ∧ w10.cell? ⟨gb1003, 1, none⟩ = some (.int .i64 a1_1) := hS_
            refine norm_ (a' := ?_) ?_ ?_
            rotate_left
            ·simp only [putAll, Act.put, List.setIfInBounds_toArray, List.set_cons_zero, List.set_cons_succ]
             rfl
            refine two_ (i := 4) (j := 10) (Ni := some 11) (Nj := some 5) (ba 14 2559) (ba 14 3567) rfl rfl rfl rfl (two_of HT_.out (by kernel_rfl)) (by decide) (by decide) (fun K hK => ?_) (fun K hK => ?_)
            ·skip
             refine gC Try.func85 #[.int .i64 a0_0, .int .i64 a1_1] ?_
             with_reducible refine (shares_frac.calls k a0_0 a1_1 t1005 t1006 _ A3.out).mono ?_
             rintro e w11 ⟨rfl, hb⟩
             refine ⟨_, rfl, ?_⟩
             replace BK1002 := kB BK1002 hb
             replace BK1003 := kB BK1003 hb
             replace BK1004 := kB BK1004 hb
             replace BK1010 := kB BK1010 hb
             replace HB := kH _ hb
             (try clear hb)
             (try clear hb2)
             (try clear hk)
             (try clear hi)
             refine hK.out _ _ ⟨bc BK1002 0, bc BK1002 1, bc BK1003 0, bc BK1003 1⟩ (fun hHeld => ?_)
             clear hK K
             refine norm_ (a' := ?_) ?_ ?_
             rotate_left
             ·show Act.put _ (some 11) _ = _
              simp only [Act.put, List.setIfInBounds_toArray, List.set_cons_zero, List.set_cons_succ, i64_w, i32_w]
              rfl
             exact norm_ (by first | (simp only [putAll, Act.put, List.setIfInBounds_toArray, List.set_cons_zero, List.set_cons_succ]; done) | (simp only [putAll, Act.put, List.setIfInBounds_toArray, List.set_cons_zero, List.set_cons_succ]; rfl)) (hJ4_11 (gb1010) _ ⟨hHeld, (bkC BK1002), (bkC BK1003), (bkC BK1004), (bkC BK1010), GW1010.out, GE1010.out, NB1002_1010.out, NB1010_1002.out, NB1003_1010.out, NB1010_1003.out, NB1004_1010.out, NB1010_1004.out, (hbC _)⟩)
            ·skip
             refine box_step ?hg (N := 5) ?hd (cs := #[.int .i64 0, .int .i64 0]) (t := 62) ?hr ?_; (case hd => rfl); (case hg => rfl); (case hr => first | (go_simp; done) | (go_simp; rfl))
             intro gb1009 hg w11 hbox hb
             have BK1009 := ak (hbox)
             have GW1009 := kG w hg
             have GE1009 := kG w hg
             replace HB := kH _ hb
             have NB1002_1009 := kL BK1002 hg
             have NB1009_1002 := kR BK1002 hg
             replace BK1002 := kB BK1002 hb
             have NB1003_1009 := kL BK1003 hg
             have NB1009_1003 := kR BK1003 hg
             replace BK1003 := kB BK1003 hb
             have NB1004_1009 := kL BK1004 hg
             have NB1009_1004 := kR BK1004 hg
             replace BK1004 := kB BK1004 hb
             have NB1010_1009 := kL BK1010 hg
             have NB1009_1010 := kR BK1010 hg
             replace BK1010 := kB BK1010 hb
             clear hb hbox hg
             refine hK.out _ _ ⟨bc BK1002 0, bc BK1002 1, bc BK1003 0, bc BK1003 1⟩ (fun hHeld => ?_)
             clear hK K
             refine norm_ (a' := ?_) ?_ ?_
             rotate_left
             ·show Act.put _ (some 5) _ = _
              simp only [Act.put, List.setIfInBounds_toArray, List.set_cons_zero, List.set_cons_succ, i64_w, i32_w]
              rfl
             exact norm_ (by first | (simp only [putAll, Act.put, List.setIfInBounds_toArray, List.set_cons_zero, List.set_cons_succ]; done) | (simp only [putAll, Act.put, List.setIfInBounds_toArray, List.set_cons_zero, List.set_cons_succ]; rfl)) (hJ10_11 (gb1009, gb1010) _ ⟨hHeld, (bkC BK1002), (bkC BK1003), (bkC BK1004), (bkC BK1009), (bkC BK1010), GW1009.out, GE1009.out, NB1002_1009.out, NB1009_1002.out, NB1003_1009.out, NB1009_1003.out, NB1004_1009.out, NB1009_1004.out, NB1010_1009.out, NB1009_1010.out, GW1010.out, GE1010.out, NB1002_1010.out, NB1010_1002.out, NB1003_1010.out, NB1010_1003.out, NB1004_1010.out, NB1010_1004.out, (hbC _)⟩)
          ·skip
           rintro gb1009 w10 ⟨hS_, h0_, h1_, h2_, h3_, h4_, h5_, h6_, h7_, h8_, h9_, h10_, h11_, h12_⟩
           have n0_ : Aside0 (w10.heap[gb1002]? = some (.cells #[.int .i64 a0_0, .int .i64 a0_1] 62 (0, 0))) := ⟨h0_⟩
           have n1_ : Aside0 (w10.heap[gb1003]? = some (.cells #[.int .i64 a1_0, .int .i64 a1_1] 62 (0, 0))) := ⟨h1_⟩
           have n2_ : Aside0 (w10.heap[gb1004]? = some (.cells #[.int .i64 0, .int .i64 0] 62 (0, 0))) := ⟨h2_⟩
           have n3_ : Aside0 (w10.heap[gb1009]? = some (.cells #[.int .i64 0, .int .i64 0] 62 (0, 0))) := ⟨h3_⟩
           have n4_ : Aside0 (w.heap.size ≤ gb1009) := ⟨h4_⟩
           have n5_ : Aside0 (w.heap.size ≤ gb1009) := ⟨h5_⟩
           have n6_ : Aside0 (gb1002 ≠ gb1009) := ⟨h6_⟩
           have n7_ : Aside0 (gb1009 ≠ gb1002) := ⟨h7_⟩
           have n8_ : Aside0 (gb1003 ≠ gb1009) := ⟨h8_⟩
           have n9_ : Aside0 (gb1009 ≠ gb1003) := ⟨h9_⟩
           have n10_ : Aside0 (gb1004 ≠ gb1009) := ⟨h10_⟩
           have n11_ : Aside0 (gb1009 ≠ gb1004) := ⟨h11_⟩
           have n12_ : Aside0 (Below w.heap.size w w10) := ⟨h12_⟩
           clear BK1002
           clear BK1003
           clear BK1004
           clear HB
           clear h0_ h1_ h2_ h3_ h4_ h5_ h6_ h7_ h8_ h9_ h10_ h11_ h12_
           have BK1002 := n0_
           have BK1003 := n1_
           have BK1004 := n2_
           have BK1009 := n3_
           have GW1009 := n4_
           have GE1009 := n5_
           have NB1002_1009 := n6_
           have NB1009_1002 := n7_
           have NB1003_1009 := n8_
           have NB1009_1003 := n9_
           have NB1004_1009 := n10_
           have NB1009_1004 := n11_
           have HB := n12_
           clear n0_ n1_ n2_ n3_ n4_ n5_ n6_ n7_ n8_ n9_ n10_ n11_ n12_
           have hHeld : w10.cell? ⟨gb1002, 0, none⟩ = some (.int .i64 a0_0) ∧ w10.cell? ⟨gb1002, 1, none⟩ = some (.int .i64 a0_1) ∧ w10.cell? ⟨gb1003, 0, none⟩ = some (.int .i64 a1_0) ∧ w10.cell? ⟨gb1003, 1, none⟩ = some (.int .i64 a1_1) := hS_
           refine norm_ (a' := ?_) ?_ ?_
           rotate_left
           ·simp only [putAll, Act.put, List.setIfInBounds_toArray, List.set_cons_zero, List.set_cons_succ]
            rfl
           refine two_ (i := 4) (j := 11) (Ni := some 11) (Nj := some 6) (ba 14 1535) (ba 14 3567) rfl rfl rfl rfl (two_of HT_.out (by kernel_rfl)) (by decide) (by decide) (fun K hK => ?_) (fun K hK => ?_)
           ·skip
            refine gC Try.func85 #[.int .i64 a0_0, .int .i64 a1_1] ?_
            with_reducible refine (shares_frac.calls k a0_0 a1_1 t1005 t1006 _ A3.out).mono ?_
            rintro e w11 ⟨rfl, hb⟩
            refine ⟨_, rfl, ?_⟩
            replace BK1002 := kB BK1002 hb
            replace BK1003 := kB BK1003 hb
            replace BK1004 := kB BK1004 hb
            replace BK1009 := kB BK1009 hb
            replace HB := kH _ hb
            (try clear hb)
            (try clear hb2)
            (try clear hk)
            (try clear hi)
            refine hK.out _ _ ⟨bc BK1002 0, bc BK1002 1, bc BK1003 0, bc BK1003 1⟩ (fun hHeld => ?_)
            clear hK K
            refine norm_ (a' := ?_) ?_ ?_
            rotate_left
            ·show Act.put _ (some 11) _ = _
             simp only [Act.put, List.setIfInBounds_toArray, List.set_cons_zero, List.set_cons_succ, i64_w, i32_w]
             rfl
            exact norm_ (by first | (simp only [putAll, Act.put, List.setIfInBounds_toArray, List.set_cons_zero, List.set_cons_succ]; done) | (simp only [putAll, Act.put, List.setIfInBounds_toArray, List.set_cons_zero, List.set_cons_succ]; rfl)) (hJ4_10 (gb1009) _ ⟨hHeld, (bkC BK1002), (bkC BK1003), (bkC BK1004), (bkC BK1009), GW1009.out, GE1009.out, NB1002_1009.out, NB1009_1002.out, NB1003_1009.out, NB1009_1003.out, NB1004_1009.out, NB1009_1004.out, (hbC _)⟩)
           ·skip
            refine box_step ?hg (N := 6) ?hd (cs := #[.int .i64 0, .int .i64 0]) (t := 62) ?hr ?_; (case hd => rfl); (case hg => rfl); (case hr => first | (go_simp; done) | (go_simp; rfl))
            intro gb1010 hg w11 hbox hb
            have BK1010 := ak (hbox)
            have GW1010 := kG w hg
            have GE1010 := kG w hg
            replace HB := kH _ hb
            have NB1002_1010 := kL BK1002 hg
            have NB1010_1002 := kR BK1002 hg
            replace BK1002 := kB BK1002 hb
            have NB1003_1010 := kL BK1003 hg
            have NB1010_1003 := kR BK1003 hg
            replace BK1003 := kB BK1003 hb
            have NB1004_1010 := kL BK1004 hg
            have NB1010_1004 := kR BK1004 hg
            replace BK1004 := kB BK1004 hb
            have NB1009_1010 := kL BK1009 hg
            have NB1010_1009 := kR BK1009 hg
            replace BK1009 := kB BK1009 hb
            clear hb hbox hg
            refine hK.out _ _ ⟨bc BK1002 0, bc BK1002 1, bc BK1003 0, bc BK1003 1⟩ (fun hHeld => ?_)
            clear hK K
            refine norm_ (a' := ?_) ?_ ?_
            rotate_left
            ·show Act.put _ (some 6) _ = _
             simp only [Act.put, List.setIfInBounds_toArray, List.set_cons_zero, List.set_cons_succ, i64_w, i32_w]
             rfl
            exact norm_ (by first | (simp only [putAll, Act.put, List.setIfInBounds_toArray, List.set_cons_zero, List.set_cons_succ]; done) | (simp only [putAll, Act.put, List.setIfInBounds_toArray, List.set_cons_zero, List.set_cons_succ]; rfl)) (hJ10_11 (gb1009, gb1010) _ ⟨hHeld, (bkC BK1002), (bkC BK1003), (bkC BK1004), (bkC BK1009), (bkC BK1010), GW1009.out, GE1009.out, NB1002_1009.out, NB1009_1002.out, NB1003_1009.out, NB1009_1003.out, NB1004_1009.out, NB1009_1004.out, NB1010_1009.out, NB1009_1010.out, GW1010.out, GE1010.out, NB1002_1010.out, NB1010_1002.out, NB1003_1010.out, NB1010_1003.out, NB1004_1010.out, NB1010_1004.out, (hbC _)⟩)
         ·skip
          rintro _ w10 ⟨hS_, h0_, h1_, h2_, h3_⟩
          have n0_ : Aside0 (w10.heap[gb1002]? = some (.cells #[.int .i64 a0_0, .int .i64 a0_1] 62 (0, 0))) := ⟨h0_⟩
          have n1_ : Aside0 (w10.heap[gb1003]? = some (.cells #[.int .i64 a1_0, .int .i64 a1_1] 62 (0, 0))) := ⟨h1_⟩
          have n2_ : Aside0 (w10.heap[gb1004]? = some (.cells #[.int .i64 0, .int .i64 0] 62 (0, 0))) := ⟨h2_⟩
          have n3_ : Aside0 (Below w.heap.size w w10) := ⟨h3_⟩
          clear BK1002
          clear BK1003
          clear BK1004
          clear HB
          clear h0_ h1_ h2_ h3_
          have BK1002 := n0_
          have BK1003 := n1_
          have BK1004 := n2_
          have HB := n3_
          clear n0_ n1_ n2_ n3_
          have hHeld : w10.cell? ⟨gb1002, 0, none⟩ = some (.int .i64 a0_0) ∧ w10.cell? ⟨gb1002, 1, none⟩ = some (.int .i64 a0_1) ∧ w10.cell? ⟨gb1003, 0, none⟩ = some (.int .i64 a1_0) ∧ w10.cell? ⟨gb1003, 1, none⟩ = some (.int .i64 a1_1) := hS_
          refine norm_ (a' := ?_) ?_ ?_
          rotate_left
          ·simp only [putAll, Act.put, List.setIfInBounds_toArray, List.set_cons_zero, List.set_cons_succ]
           rfl
          refine three_ (i := 9) (j := 10) (k := 11) (Ni := some 16) (Nj := some 5) (Nk := some 6) (ba 14 1023) (ba 14 1535) (ba 14 2559) rfl rfl rfl rfl rfl rfl (three_of HT_.out (by kernel_rfl)) (by decide) (by decide) (by decide) (fun K hK => ?_) (fun K hK => ?_) (fun K hK => ?_)
          ·skip
           refine gC Try.func85 #[.int .i64 a1_0, .int .i64 a0_1] ?_
           with_reducible refine (shares_frac.calls k a1_0 a0_1 t1007 t1008 _ A4.out).mono ?_
           rintro e w11 ⟨rfl, hb⟩
           refine ⟨_, rfl, ?_⟩
           replace BK1002 := kB BK1002 hb
           replace BK1003 := kB BK1003 hb
           replace BK1004 := kB BK1004 hb
           replace HB := kH _ hb
           (try clear hb)
           (try clear hb2)
           (try clear hk)
           (try clear hi)
           refine hK.out _ _ ⟨bc BK1002 0, bc BK1002 1, bc BK1003 0, bc BK1003 1⟩ (fun hHeld => ?_)
           clear hK K
           refine norm_ (a' := ?_) ?_ ?_
           rotate_left
           ·show Act.put _ (some 16) _ = _
            simp only [Act.put, List.setIfInBounds_toArray, List.set_cons_zero, List.set_cons_succ, i64_w, i32_w]
            rfl
           exact norm_ (by first | (simp only [putAll, Act.put, List.setIfInBounds_toArray, List.set_cons_zero, List.set_cons_succ]; done) | (simp only [putAll, Act.put, List.setIfInBounds_toArray, List.set_cons_zero, List.set_cons_succ]; rfl)) (hJ4_9 () _ ⟨hHeld, (bkC BK1002), (bkC BK1003), (bkC BK1004), (hbC _)⟩)
          ·skip
           refine box_step ?hg (N := 5) ?hd (cs := #[.int .i64 0, .int .i64 0]) (t := 62) ?hr ?_; (case hd => rfl); (case hg => rfl); (case hr => first | (go_simp; done) | (go_simp; rfl))
           intro gb1009 hg w11 hbox hb
           have BK1009 := ak (hbox)
           have GW1009 := kG w hg
           have GE1009 := kG w hg
           replace HB := kH _ hb
           have NB1002_1009 := kL BK1002 hg
           have NB1009_1002 := kR BK1002 hg
           replace BK1002 := kB BK1002 hb
           have NB1003_1009 := kL BK1003 hg
           have NB1009_1003 := kR BK1003 hg
           replace BK1003 := kB BK1003 hb
           have NB1004_1009 := kL BK1004 hg
           have NB1009_1004 := kR BK1004 hg
           replace BK1004 := kB BK1004 hb
           clear hb hbox hg
           refine hK.out _ _ ⟨bc BK1002 0, bc BK1002 1, bc BK1003 0, bc BK1003 1⟩ (fun hHeld => ?_)
           clear hK K
           refine norm_ (a' := ?_) ?_ ?_
           rotate_left
           ·show Act.put _ (some 5) _ = _
            simp only [Act.put, List.setIfInBounds_toArray, List.set_cons_zero, List.set_cons_succ, i64_w, i32_w]
            rfl
           exact norm_ (by first | (simp only [putAll, Act.put, List.setIfInBounds_toArray, List.set_cons_zero, List.set_cons_succ]; done) | (simp only [putAll, Act.put, List.setIfInBounds_toArray, List.set_cons_zero, List.set_cons_succ]; rfl)) (hJ4_10 (gb1009) _ ⟨hHeld, (bkC BK1002), (bkC BK1003), (bkC BK1004), (bkC BK1009), GW1009.out, GE1009.out, NB1002_1009.out, NB1009_1002.out, NB1003_1009.out, NB1009_1003.out, NB1004_1009.out, NB1009_1004.out, (hbC _)⟩)
          ·skip
           refine box_step ?hg (N := 6) ?hd (cs := #[.int .i64 0, .int .i64 0]) (t := 62) ?hr ?_; (case hd => rfl); (case hg => rfl); (case hr => first | (go_simp; done) | (go_simp; rfl))
           intro gb1010 hg w11 hbox hb
           have BK1010 := ak (hbox)
           have GW1010 := kG w hg
           have GE1010 := kG w hg
           replace HB := kH _ hb
           have NB1002_1010 := kL BK1002 hg
           have NB1010_1002 := kR BK1002 hg
           replace BK1002 := kB BK1002 hb
           have NB1003_1010 := kL BK1003 hg
           have NB1010_1003 := kR BK1003 hg
           replace BK1003 := kB BK1003 hb
           have NB1004_1010 := kL BK1004 hg
           have NB1010_1004 := kR BK1004 hg
           replace BK1004 := kB BK1004 hb
           clear hb hbox hg
           refine hK.out _ _ ⟨bc BK1002 0, bc BK1002 1, bc BK1003 0, bc BK1003 1⟩ (fun hHeld => ?_)
           clear hK K
           refine norm_ (a' := ?_) ?_ ?_
           rotate_left
           ·show Act.put _ (some 6) _ = _
            simp only [Act.put, List.setIfInBounds_toArray, List.set_cons_zero, List.set_cons_succ, i64_w, i32_w]
            rfl
           exact norm_ (by first | (simp only [putAll, Act.put, List.setIfInBounds_toArray, List.set_cons_zero, List.set_cons_succ]; done) | (simp only [putAll, Act.put, List.setIfInBounds_toArray, List.set_cons_zero, List.set_cons_succ]; rfl)) (hJ4_11 (gb1010) _ ⟨hHeld, (bkC BK1002), (bkC BK1003), (bkC BK1004), (bkC BK1010), GW1010.out, GE1010.out, NB1002_1010.out, NB1010_1002.out, NB1003_1010.out, NB1010_1003.out, NB1004_1010.out, NB1010_1004.out, (hbC _)⟩)
        ·skip
         rintro ⟨gb1009, gb1010⟩ w11 ⟨hS_, h0_, h1_, h2_, h3_, h4_, h5_, h6_, h7_, h8_, h9_, h10_, h11_, h12_, h13_, h14_, h15_, h16_, h17_, h18_, h19_, h20_, h21_, h22_, h23_⟩
         have n0_ : Aside0 (w11.heap[gb1002]? = some (.cells #[.int .i64 a0_0, .int .i64 a0_1] 62 (0, 0))) := ⟨h0_⟩
         have n1_ : Aside0 (w11.heap[gb1003]? = some (.cells #[.int .i64 a1_0, .int .i64 a1_1] 62 (0, 0))) := ⟨h1_⟩
         have n2_ : Aside0 (w11.heap[gb1004]? = some (.cells #[.int .i64 0, .int .i64 0] 62 (0, 0))) := ⟨h2_⟩
         have n3_ : Aside0 (w11.heap[gb1009]? = some (.cells #[.int .i64 0, .int .i64 0] 62 (0, 0))) := ⟨h3_⟩
         have n4_ : Aside0 (w11.heap[gb1010]? = some (.cells #[.int .i64 0, .int .i64 0] 62 (0, 0))) := ⟨h4_⟩
         have n5_ : Aside0 (w.heap.size ≤ gb1009) := ⟨h5_⟩
         have n6_ : Aside0 (w.heap.size ≤ gb1009) := ⟨h6_⟩
         have n7_ : Aside0 (gb1002 ≠ gb1009) := ⟨h7_⟩
         have n8_ : Aside0 (gb1009 ≠ gb1002) := ⟨h8_⟩
         have n9_ : Aside0 (gb1003 ≠ gb1009) := ⟨h9_⟩
         have n10_ : Aside0 (gb1009 ≠ gb1003) := ⟨h10_⟩
         have n11_ : Aside0 (gb1004 ≠ gb1009) := ⟨h11_⟩
         have n12_ : Aside0 (gb1009 ≠ gb1004) := ⟨h12_⟩
         have n13_ : Aside0 (gb1010 ≠ gb1009) := ⟨h13_⟩
         have n14_ : Aside0 (gb1009 ≠ gb1010) := ⟨h14_⟩
         have n15_ : Aside0 (w.heap.size ≤ gb1010) := ⟨h15_⟩
         have n16_ : Aside0 (w.heap.size ≤ gb1010) := ⟨h16_⟩
         have n17_ : Aside0 (gb1002 ≠ gb1010) := ⟨h17_⟩
         have n18_ : Aside0 (gb1010 ≠ gb1002) := ⟨h18_⟩
         have n19_ : Aside0 (gb1003 ≠ gb1010) := ⟨h19_⟩
         have n20_ : Aside0 (gb1010 ≠ gb1003) := ⟨h20_⟩
         have n21_ : Aside0 (gb1004 ≠ gb1010) := ⟨h21_⟩
         have n22_ : Aside0 (gb1010 ≠ gb1004) := ⟨h22_⟩
         have n23_ : Aside0 (Below w.heap.size w w11) := ⟨h23_⟩
         clear BK1002
         clear BK1003
         clear BK1004
         clear HB
         clear h0_ h1_ h2_ h3_ h4_ h5_ h6_ h7_ h8_ h9_ h10_ h11_ h12_ h13_ h14_ h15_ h16_ h17_ h18_ h19_ h20_ h21_ h22_ h23_
         have BK1002 := n0_
         have BK1003 := n1_
         have BK1004 := n2_
         have BK1009 := n3_
         have BK1010 := n4_
         have GW1009 := n5_
         have GE1009 := n6_
         have NB1002_1009 := n7_
         have NB1009_1002 := n8_
         have NB1003_1009 := n9_
         have NB1009_1003 := n10_
         have NB1004_1009 := n11_
         have NB1009_1004 := n12_
         have NB1010_1009 := n13_
         have NB1009_1010 := n14_
         have GW1010 := n15_
         have GE1010 := n16_
         have NB1002_1010 := n17_
         have NB1010_1002 := n18_
         have NB1003_1010 := n19_
         have NB1010_1003 := n20_
         have NB1004_1010 := n21_
         have NB1010_1004 := n22_
         have HB := n23_
         clear n0_ n1_ n2_ n3_ n4_ n5_ n6_ n7_ n8_ n9_ n10_ n11_ n12_ n13_ n14_ n15_ n16_ n17_ n18_ n19_ n20_ n21_ n22_ n23_
         have hHeld : w11.cell? ⟨gb1002, 0, none⟩ = some (.int .i64 a0_0) ∧ w11.cell? ⟨gb1002, 1, none⟩ = some (.int .i64 a0_1) ∧ w11.cell? ⟨gb1003, 0, none⟩ = some (.int .i64 a1_0) ∧ w11.cell? ⟨gb1003, 1, none⟩ = some (.int .i64 a1_1) := hS_
         refine norm_ (a' := ?_) ?_ ?_
         rotate_left
         ·simp only [putAll, Act.put, List.setIfInBounds_toArray, List.set_cons_zero, List.set_cons_succ]
          rfl
         refine one_ (i := 4) (N := some 11) (ba 14 3583) rfl rfl (one_of HT_.out (by kernel_rfl)) (by decide) (fun K hK => ?_)
         refine gC Try.func85 #[.int .i64 a0_0, .int .i64 a1_1] ?_
         with_reducible refine (shares_frac.calls k a0_0 a1_1 t1005 t1006 _ A3.out).mono ?_
         rintro e w12 ⟨rfl, hb⟩
         refine ⟨_, rfl, ?_⟩
         replace BK1002 := kB BK1002 hb
         replace BK1003 := kB BK1003 hb
         replace BK1004 := kB BK1004 hb
         replace BK1009 := kB BK1009 hb
         replace BK1010 := kB BK1010 hb
         replace HB := kH _ hb
         (try clear hb)
         (try clear hb2)
         (try clear hk)
         (try clear hi)
         refine hK.out _ _ ⟨bc BK1002 0, bc BK1002 1, bc BK1003 0, bc BK1003 1⟩ (fun hHeld => ?_)
         clear hK K
         refine norm_ (a' := ?_) ?_ ?_
         rotate_left
         ·show Act.put _ (some 11) _ = _
          simp only [Act.put, List.setIfInBounds_toArray, List.set_cons_zero, List.set_cons_succ, i64_w, i32_w]
          rfl
         exact norm_ (by first | (simp only [putAll, Act.put, List.setIfInBounds_toArray, List.set_cons_zero, List.set_cons_succ]; done) | (simp only [putAll, Act.put, List.setIfInBounds_toArray, List.set_cons_zero, List.set_cons_succ]; rfl)) (hJ4_10_11 (gb1009, gb1010) _ ⟨hHeld, (bkC BK1002), (bkC BK1003), (bkC BK1004), (bkC BK1009), (bkC BK1010), GW1009.out, GE1009.out, NB1002_1009.out, NB1009_1002.out, NB1003_1009.out, NB1009_1003.out, NB1004_1009.out, NB1009_1004.out, NB1010_1009.out, NB1009_1010.out, GW1010.out, GE1010.out, NB1002_1010.out, NB1010_1002.out, NB1003_1010.out, NB1010_1003.out, NB1004_1010.out, NB1010_1004.out, (hbC _)⟩)
       ·skip
        rintro gb1010 w11 ⟨hS_, h0_, h1_, h2_, h3_, h4_, h5_, h6_, h7_, h8_, h9_, h10_, h11_, h12_⟩
        have n0_ : Aside0 (w11.heap[gb1002]? = some (.cells #[.int .i64 a0_0, .int .i64 a0_1] 62 (0, 0))) := ⟨h0_⟩
        have n1_ : Aside0 (w11.heap[gb1003]? = some (.cells #[.int .i64 a1_0, .int .i64 a1_1] 62 (0, 0))) := ⟨h1_⟩
        have n2_ : Aside0 (w11.heap[gb1004]? = some (.cells #[.int .i64 0, .int .i64 0] 62 (0, 0))) := ⟨h2_⟩
        have n3_ : Aside0 (w11.heap[gb1010]? = some (.cells #[.int .i64 0, .int .i64 0] 62 (0, 0))) := ⟨h3_⟩
        have n4_ : Aside0 (w.heap.size ≤ gb1010) := ⟨h4_⟩
        have n5_ : Aside0 (w.heap.size ≤ gb1010) := ⟨h5_⟩
        have n6_ : Aside0 (gb1002 ≠ gb1010) := ⟨h6_⟩
        have n7_ : Aside0 (gb1010 ≠ gb1002) := ⟨h7_⟩
        have n8_ : Aside0 (gb1003 ≠ gb1010) := ⟨h8_⟩
        have n9_ : Aside0 (gb1010 ≠ gb1003) := ⟨h9_⟩
        have n10_ : Aside0 (gb1004 ≠ gb1010) := ⟨h10_⟩
        have n11_ : Aside0 (gb1010 ≠ gb1004) := ⟨h11_⟩
        have n12_ : Aside0 (Below w.heap.size w w11) := ⟨h12_⟩
        clear BK1002
        clear BK1003
        clear BK1004
        clear HB
        clear h0_ h1_ h2_ h3_ h4_ h5_ h6_ h7_ h8_ h9_ h10_ h11_ h12_
        have BK1002 := n0_
        have BK1003 := n1_
        have BK1004 := n2_
        have BK1010 := n3_
        have GW1010 := n4_
        have GE1010 := n5_
        have NB1002_1010 := n6_
        have NB1010_1002 := n7_
        have NB1003_1010 := n8_
        have NB1010_1003 := n9_
        have NB1004_1010 := n10_
        have NB1010_1004 := n11_
        have HB := n12_
        clear n0_ n1_ n2_ n3_ n4_ n5_ n6_ n7_ n8_ n9_ n10_ n11_ n12_
        have hHeld : w11.cell? ⟨gb1002, 0, none⟩ = some (.int .i64 a0_0) ∧ w11.cell? ⟨gb1002, 1, none⟩ = some (.int .i64 a0_1) ∧ w11.cell? ⟨gb1003, 0, none⟩ = some (.int .i64 a1_0) ∧ w11.cell? ⟨gb1003, 1, none⟩ = some (.int .i64 a1_1) := hS_
        refine norm_ (a' := ?_) ?_ ?_
        rotate_left
        ·simp only [putAll, Act.put, List.setIfInBounds_toArray, List.set_cons_zero, List.set_cons_succ]
         rfl
        refine two_ (i := 9) (j := 10) (Ni := some 16) (Nj := some 5) (ba 14 3071) (ba 14 3583) rfl rfl rfl rfl (two_of HT_.out (by kernel_rfl)) (by decide) (by decide) (fun K hK => ?_) (fun K hK => ?_)
        ·skip
         refine gC Try.func85 #[.int .i64 a1_0, .int .i64 a0_1] ?_
         with_reducible refine (shares_frac.calls k a1_0 a0_1 t1007 t1008 _ A4.out).mono ?_
         rintro e w12 ⟨rfl, hb⟩
         refine ⟨_, rfl, ?_⟩
         replace BK1002 := kB BK1002 hb
         replace BK1003 := kB BK1003 hb
         replace BK1004 := kB BK1004 hb
         replace BK1010 := kB BK1010 hb
         replace HB := kH _ hb
         (try clear hb)
         (try clear hb2)
         (try clear hk)
         (try clear hi)
         refine hK.out _ _ ⟨bc BK1002 0, bc BK1002 1, bc BK1003 0, bc BK1003 1⟩ (fun hHeld => ?_)
         clear hK K
         refine norm_ (a' := ?_) ?_ ?_
         rotate_left
         ·show Act.put _ (some 16) _ = _
          simp only [Act.put, List.setIfInBounds_toArray, List.set_cons_zero, List.set_cons_succ, i64_w, i32_w]
          rfl
         exact norm_ (by first | (simp only [putAll, Act.put, List.setIfInBounds_toArray, List.set_cons_zero, List.set_cons_succ]; done) | (simp only [putAll, Act.put, List.setIfInBounds_toArray, List.set_cons_zero, List.set_cons_succ]; rfl)) (hJ4_9_11 (gb1010) _ ⟨hHeld, (bkC BK1002), (bkC BK1003), (bkC BK1004), (bkC BK1010), GW1010.out, GE1010.out, NB1002_1010.out, NB1010_1002.out, NB1003_1010.out, NB1010_1003.out, NB1004_1010.out, NB1010_1004.out, (hbC _)⟩)
        ·skip
         refine box_step ?hg (N := 5) ?hd (cs := #[.int .i64 0, .int .i64 0]) (t := 62) ?hr ?_; (case hd => rfl); (case hg => rfl); (case hr => first | (go_simp; done) | (go_simp; rfl))
         intro gb1009 hg w12 hbox hb
         have BK1009 := ak (hbox)
         have GW1009 := kG w hg
         have GE1009 := kG w hg
         replace HB := kH _ hb
         have NB1002_1009 := kL BK1002 hg
         have NB1009_1002 := kR BK1002 hg
         replace BK1002 := kB BK1002 hb
         have NB1003_1009 := kL BK1003 hg
         have NB1009_1003 := kR BK1003 hg
         replace BK1003 := kB BK1003 hb
         have NB1004_1009 := kL BK1004 hg
         have NB1009_1004 := kR BK1004 hg
         replace BK1004 := kB BK1004 hb
         have NB1010_1009 := kL BK1010 hg
         have NB1009_1010 := kR BK1010 hg
         replace BK1010 := kB BK1010 hb
         clear hb hbox hg
         refine hK.out _ _ ⟨bc BK1002 0, bc BK1002 1, bc BK1003 0, bc BK1003 1⟩ (fun hHeld => ?_)
         clear hK K
         refine norm_ (a' := ?_) ?_ ?_
         rotate_left
         ·show Act.put _ (some 5) _ = _
          simp only [Act.put, List.setIfInBounds_toArray, List.set_cons_zero, List.set_cons_succ, i64_w, i32_w]
          rfl
         exact norm_ (by first | (simp only [putAll, Act.put, List.setIfInBounds_toArray, List.set_cons_zero, List.set_cons_succ]; done) | (simp only [putAll, Act.put, List.setIfInBounds_toArray, List.set_cons_zero, List.set_cons_succ]; rfl)) (hJ4_10_11 (gb1009, gb1010) _ ⟨hHeld, (bkC BK1002), (bkC BK1003), (bkC BK1004), (bkC BK1009), (bkC BK1010), GW1009.out, GE1009.out, NB1002_1009.out, NB1009_1002.out, NB1003_1009.out, NB1009_1003.out, NB1004_1009.out, NB1009_1004.out, NB1010_1009.out, NB1009_1010.out, GW1010.out, GE1010.out, NB1002_1010.out, NB1010_1002.out, NB1003_1010.out, NB1010_1003.out, NB1004_1010.out, NB1010_1004.out, (hbC _)⟩)
      ·skip
       rintro gb1009 w11 ⟨hS_, h0_, h1_, h2_, h3_, h4_, h5_, h6_, h7_, h8_, h9_, h10_, h11_, h12_⟩
       have n0_ : Aside0 (w11.heap[gb1002]? = some (.cells #[.int .i64 a0_0, .int .i64 a0_1] 62 (0, 0))) := ⟨h0_⟩
       have n1_ : Aside0 (w11.heap[gb1003]? = some (.cells #[.int .i64 a1_0, .int .i64 a1_1] 62 (0, 0))) := ⟨h1_⟩
       have n2_ : Aside0 (w11.heap[gb1004]? = some (.cells #[.int .i64 0, .int .i64 0] 62 (0, 0))) := ⟨h2_⟩
       have n3_ : Aside0 (w11.heap[gb1009]? = some (.cells #[.int .i64 0, .int .i64 0] 62 (0, 0))) := ⟨h3_⟩
       have n4_ : Aside0 (w.heap.size ≤ gb1009) := ⟨h4_⟩
       have n5_ : Aside0 (w.heap.size ≤ gb1009) := ⟨h5_⟩
       have n6_ : Aside0 (gb1002 ≠ gb1009) := ⟨h6_⟩
       have n7_ : Aside0 (gb1009 ≠ gb1002) := ⟨h7_⟩
       have n8_ : Aside0 (gb1003 ≠ gb1009) := ⟨h8_⟩
       have n9_ : Aside0 (gb1009 ≠ gb1003) := ⟨h9_⟩
       have n10_ : Aside0 (gb1004 ≠ gb1009) := ⟨h10_⟩
       have n11_ : Aside0 (gb1009 ≠ gb1004) := ⟨h11_⟩
       have n12_ : Aside0 (Below w.heap.size w w11) := ⟨h12_⟩
       clear BK1002
       clear BK1003
       clear BK1004
       clear HB
       clear h0_ h1_ h2_ h3_ h4_ h5_ h6_ h7_ h8_ h9_ h10_ h11_ h12_
       have BK1002 := n0_
       have BK1003 := n1_
       have BK1004 := n2_
       have BK1009 := n3_
       have GW1009 := n4_
       have GE1009 := n5_
       have NB1002_1009 := n6_
       have NB1009_1002 := n7_
       have NB1003_1009 := n8_
       have NB1009_1003 := n9_
       have NB1004_1009 := n10_
       have NB1009_1004 := n11_
       have HB := n12_
       clear n0_ n1_ n2_ n3_ n4_ n5_ n6_ n7_ n8_ n9_ n10_ n11_ n12_
       have hHeld : w11.cell? ⟨gb1002, 0, none⟩ = some (.int .i64 a0_0) ∧ w11.cell? ⟨gb1002, 1, none⟩ = some (.int .i64 a0_1) ∧ w11.cell? ⟨gb1003, 0, none⟩ = some (.int .i64 a1_0) ∧ w11.cell? ⟨gb1003, 1, none⟩ = some (.int .i64 a1_1) := hS_
       refine norm_ (a' := ?_) ?_ ?_
       rotate_left
       ·simp only [putAll, Act.put, List.setIfInBounds_toArray, List.set_cons_zero, List.set_cons_succ]
        rfl
       refine two_ (i := 9) (j := 11) (Ni := some 16) (Nj := some 6) (ba 14 2047) (ba 14 3583) rfl rfl rfl rfl (two_of HT_.out (by kernel_rfl)) (by decide) (by decide) (fun K hK => ?_) (fun K hK => ?_)
       ·skip
        refine gC Try.func85 #[.int .i64 a1_0, .int .i64 a0_1] ?_
        with_reducible refine (shares_frac.calls k a1_0 a0_1 t1007 t1008 _ A4.out).mono ?_
        rintro e w12 ⟨rfl, hb⟩
        refine ⟨_, rfl, ?_⟩
        replace BK1002 := kB BK1002 hb
        replace BK1003 := kB BK1003 hb
        replace BK1004 := kB BK1004 hb
        replace BK1009 := kB BK1009 hb
        replace HB := kH _ hb
        (try clear hb)
        (try clear hb2)
        (try clear hk)
        (try clear hi)
        refine hK.out _ _ ⟨bc BK1002 0, bc BK1002 1, bc BK1003 0, bc BK1003 1⟩ (fun hHeld => ?_)
        clear hK K
        refine norm_ (a' := ?_) ?_ ?_
        rotate_left
        ·show Act.put _ (some 16) _ = _
         simp only [Act.put, List.setIfInBounds_toArray, List.set_cons_zero, List.set_cons_succ, i64_w, i32_w]
         rfl
        exact norm_ (by first | (simp only [putAll, Act.put, List.setIfInBounds_toArray, List.set_cons_zero, List.set_cons_succ]; done) | (simp only [putAll, Act.put, List.setIfInBounds_toArray, List.set_cons_zero, List.set_cons_succ]; rfl)) (hJ4_9_10 (gb1009) _ ⟨hHeld, (bkC BK1002), (bkC BK1003), (bkC BK1004), (bkC BK1009), GW1009.out, GE1009.out, NB1002_1009.out, NB1009_1002.out, NB1003_1009.out, NB1009_1003.out, NB1004_1009.out, NB1009_1004.out, (hbC _)⟩)
       ·skip
        refine box_step ?hg (N := 6) ?hd (cs := #[.int .i64 0, .int .i64 0]) (t := 62) ?hr ?_; (case hd => rfl); (case hg => rfl); (case hr => first | (go_simp; done) | (go_simp; rfl))
        intro gb1010 hg w12 hbox hb
        have BK1010 := ak (hbox)
        have GW1010 := kG w hg
        have GE1010 := kG w hg
        replace HB := kH _ hb
        have NB1002_1010 := kL BK1002 hg
        have NB1010_1002 := kR BK1002 hg
        replace BK1002 := kB BK1002 hb
        have NB1003_1010 := kL BK1003 hg
        have NB1010_1003 := kR BK1003 hg
        replace BK1003 := kB BK1003 hb
        have NB1004_1010 := kL BK1004 hg
        have NB1010_1004 := kR BK1004 hg
        replace BK1004 := kB BK1004 hb
        have NB1009_1010 := kL BK1009 hg
        have NB1010_1009 := kR BK1009 hg
        replace BK1009 := kB BK1009 hb
        clear hb hbox hg
        refine hK.out _ _ ⟨bc BK1002 0, bc BK1002 1, bc BK1003 0, bc BK1003 1⟩ (fun hHeld => ?_)
        clear hK K
        refine norm_ (a' := ?_) ?_ ?_
        rotate_left
        ·show Act.put _ (some 6) _ = _
         simp only [Act.put, List.setIfInBounds_toArray, List.set_cons_zero, List.set_cons_succ, i64_w, i32_w]
         rfl
        exact norm_ (by first | (simp only [putAll, Act.put, List.setIfInBounds_toArray, List.set_cons_zero, List.set_cons_succ]; done) | (simp only [putAll, Act.put, List.setIfInBounds_toArray, List.set_cons_zero, List.set_cons_succ]; rfl)) (hJ4_10_11 (gb1009, gb1010) _ ⟨hHeld, (bkC BK1002), (bkC BK1003), (bkC BK1004), (bkC BK1009), (bkC BK1010), GW1009.out, GE1009.out, NB1002_1009.out, NB1009_1002.out, NB1003_1009.out, NB1009_1003.out, NB1004_1009.out, NB1009_1004.out, NB1010_1009.out, NB1009_1010.out, GW1010.out, GE1010.out, NB1002_1010.out, NB1010_1002.out, NB1003_1010.out, NB1010_1003.out, NB1004_1010.out, NB1010_1004.out, (hbC _)⟩)
     ·skip
      rintro _ w11 ⟨hS_, h0_, h1_, h2_, h3_⟩
      have n0_ : Aside0 (w11.heap[gb1002]? = some (.cells #[.int .i64 a0_0, .int .i64 a0_1] 62 (0, 0))) := ⟨h0_⟩
      have n1_ : Aside0 (w11.heap[gb1003]? = some (.cells #[.int .i64 a1_0, .int .i64 a1_1] 62 (0, 0))) := ⟨h1_⟩
      have n2_ : Aside0 (w11.heap[gb1004]? = some (.cells #[.int .i64 0, .int .i64 0] 62 (0, 0))) := ⟨h2_⟩
      have n3_ : Aside0 (Below w.heap.size w w11) := ⟨h3_⟩
      clear BK1002
      clear BK1003
      clear BK1004
      clear HB
      clear h0_ h1_ h2_ h3_
      have BK1002 := n0_
      have BK1003 := n1_
      have BK1004 := n2_
      have HB := n3_
      clear n0_ n1_ n2_ n3_
      have hHeld : w11.cell? ⟨gb1002, 0, none⟩ = some (.int .i64 a0_0) ∧ w11.cell? ⟨gb1002, 1, none⟩ = some (.int .i64 a0_1) ∧ w11.cell? ⟨gb1003, 0, none⟩ = some (.int .i64 a1_0) ∧ w11.cell? ⟨gb1003, 1, none⟩ = some (.int .i64 a1_1) := hS_
      refine norm_ (a' := ?_) ?_ ?_
      rotate_left
      ·simp only [putAll, Act.put, List.setIfInBounds_toArray, List.set_cons_zero, List.set_cons_succ]
       rfl
      refine two_ (i := 10) (j := 11) (Ni := some 5) (Nj := some 6) (ba 14 2047) (ba 14 3071) rfl rfl rfl rfl (two_of HT_.out (by kernel_rfl)) (by decide) (by decide) (fun K hK => ?_) (fun K hK => ?_)
      ·skip
       refine box_step ?hg (N := 5) ?hd (cs := #[.int .i64 0, .int .i64 0]) (t := 62) ?hr ?_; (case hd => rfl); (case hg => rfl); (case hr => first | (go_simp; done) | (go_simp; rfl))
       intro gb1009 hg w12 hbox hb
       have BK1009 := ak (hbox)
       have GW1009 := kG w hg
       have GE1009 := kG w hg
       replace HB := kH _ hb
       have NB1002_1009 := kL BK1002 hg
       have NB1009_1002 := kR BK1002 hg
       replace BK1002 := kB BK1002 hb
       have NB1003_1009 := kL BK1003 hg
       have NB1009_1003 := kR BK1003 hg
       replace BK1003 := kB BK1003 hb
       have NB1004_1009 := kL BK1004 hg
       have NB1009_1004 := kR BK1004 hg
       replace BK1004 := kB BK1004 hb
       clear hb hbox hg
       refine hK.out _ _ ⟨bc BK1002 0, bc BK1002 1, bc BK1003 0, bc BK1003 1⟩ (fun hHeld => ?_)
       clear hK K
       refine norm_ (a' := ?_) ?_ ?_
       rotate_left
       ·show Act.put _ (some 5) _ = _
        simp only [Act.put, List.setIfInBounds_toArray, List.set_cons_zero, List.set_cons_succ, i64_w, i32_w]
        rfl
       exact norm_ (by first | (simp only [putAll, Act.put, List.setIfInBounds_toArray, List.set_cons_zero, List.set_cons_succ]; done) | (simp only [putAll, Act.put, List.setIfInBounds_toArray, List.set_cons_zero, List.set_cons_succ]; rfl)) (hJ4_9_10 (gb1009) _ ⟨hHeld, (bkC BK1002), (bkC BK1003), (bkC BK1004), (bkC BK1009), GW1009.out, GE1009.out, NB1002_1009.out, NB1009_1002.out, NB1003_1009.out, NB1009_1003.out, NB1004_1009.out, NB1009_1004.out, (hbC _)⟩)
      ·skip
       refine box_step ?hg (N := 6) ?hd (cs := #[.int .i64 0, .int .i64 0]) (t := 62) ?hr ?_; (case hd => rfl); (case hg => rfl); (case hr => first | (go_simp; done) | (go_simp; rfl))
       intro gb1010 hg w12 hbox hb
       have BK1010 := ak (hbox)
       have GW1010 := kG w hg
       have GE1010 := kG w hg
       replace HB := kH _ hb
       have NB1002_1010 := kL BK1002 hg
       have NB1010_1002 := kR BK1002 hg
       replace BK1002 := kB BK1002 hb
       have NB1003_1010 := kL BK1003 hg
       have NB1010_1003 := kR BK1003 hg
       replace BK1003 := kB BK1003 hb
       have NB1004_1010 := kL BK1004 hg
       have NB1010_1004 := kR BK1004 hg
       replace BK1004 := kB BK1004 hb
       clear hb hbox hg
       refine hK.out _ _ ⟨bc BK1002 0, bc BK1002 1, bc BK1003 0, bc BK1003 1⟩ (fun hHeld => ?_)
       clear hK K
       refine norm_ (a' := ?_) ?_ ?_
       rotate_left
       ·show Act.put _ (some 6) _ = _
        simp only [Act.put, List.setIfInBounds_toArray, List.set_cons_zero, List.set_cons_succ, i64_w, i32_w]
        rfl
       exact norm_ (by first | (simp only [putAll, Act.put, List.setIfInBounds_toArray, List.set_cons_zero, List.set_cons_succ]; done) | (simp only [putAll, Act.put, List.setIfInBounds_toArray, List.set_cons_zero, List.set_cons_succ]; rfl)) (hJ4_9_11 (gb1010) _ ⟨hHeld, (bkC BK1002), (bkC BK1003), (bkC BK1004), (bkC BK1010), GW1010.out, GE1010.out, NB1002_1010.out, NB1010_1002.out, NB1003_1010.out, NB1010_1003.out, NB1004_1010.out, NB1010_1004.out, (hbC _)⟩)
    ·skip
     rintro ⟨gb1009, gb1010⟩ w12 ⟨hS_, h0_, h1_, h2_, h3_, h4_, h5_, h6_, h7_, h8_, h9_, h10_, h11_, h12_, h13_, h14_, h15_, h16_, h17_, h18_, h19_, h20_, h21_, h22_, h23_⟩
     have n0_ : Aside0 (w12.heap[gb1002]? = some (.cells #[.int .i64 a0_0, .int .i64 a0_1] 62 (0, 0))) := ⟨h0_⟩
     have n1_ : Aside0 (w12.heap[gb1003]? = some (.cells #[.int .i64 a1_0, .int .i64 a1_1] 62 (0, 0))) := ⟨h1_⟩
     have n2_ : Aside0 (w12.heap[gb1004]? = some (.cells #[.int .i64 0, .int .i64 0] 62 (0, 0))) := ⟨h2_⟩
     have n3_ : Aside0 (w12.heap[gb1009]? = some (.cells #[.int .i64 0, .int .i64 0] 62 (0, 0))) := ⟨h3_⟩
     have n4_ : Aside0 (w12.heap[gb1010]? = some (.cells #[.int .i64 0, .int .i64 0] 62 (0, 0))) := ⟨h4_⟩
     have n5_ : Aside0 (w.heap.size ≤ gb1009) := ⟨h5_⟩
     have n6_ : Aside0 (w.heap.size ≤ gb1009) := ⟨h6_⟩
     have n7_ : Aside0 (gb1002 ≠ gb1009) := ⟨h7_⟩
     have n8_ : Aside0 (gb1009 ≠ gb1002) := ⟨h8_⟩
     have n9_ : Aside0 (gb1003 ≠ gb1009) := ⟨h9_⟩
     have n10_ : Aside0 (gb1009 ≠ gb1003) := ⟨h10_⟩
     have n11_ : Aside0 (gb1004 ≠ gb1009) := ⟨h11_⟩
     have n12_ : Aside0 (gb1009 ≠ gb1004) := ⟨h12_⟩
     have n13_ : Aside0 (gb1010 ≠ gb1009) := ⟨h13_⟩
     have n14_ : Aside0 (gb1009 ≠ gb1010) := ⟨h14_⟩
     have n15_ : Aside0 (w.heap.size ≤ gb1010) := ⟨h15_⟩
     have n16_ : Aside0 (w.heap.size ≤ gb1010) := ⟨h16_⟩
     have n17_ : Aside0 (gb1002 ≠ gb1010) := ⟨h17_⟩
     have n18_ : Aside0 (gb1010 ≠ gb1002) := ⟨h18_⟩
     have n19_ : Aside0 (gb1003 ≠ gb1010) := ⟨h19_⟩
     have n20_ : Aside0 (gb1010 ≠ gb1003) := ⟨h20_⟩
     have n21_ : Aside0 (gb1004 ≠ gb1010) := ⟨h21_⟩
     have n22_ : Aside0 (gb1010 ≠ gb1004) := ⟨h22_⟩
     have n23_ : Aside0 (Below w.heap.size w w12) := ⟨h23_⟩
     clear BK1002
     clear BK1003
     clear BK1004
     clear HB
     clear h0_ h1_ h2_ h3_ h4_ h5_ h6_ h7_ h8_ h9_ h10_ h11_ h12_ h13_ h14_ h15_ h16_ h17_ h18_ h19_ h20_ h21_ h22_ h23_
     have BK1002 := n0_
     have BK1003 := n1_
     have BK1004 := n2_
     have BK1009 := n3_
     have BK1010 := n4_
     have GW1009 := n5_
     have GE1009 := n6_
     have NB1002_1009 := n7_
     have NB1009_1002 := n8_
     have NB1003_1009 := n9_
     have NB1009_1003 := n10_
     have NB1004_1009 := n11_
     have NB1009_1004 := n12_
     have NB1010_1009 := n13_
     have NB1009_1010 := n14_
     have GW1010 := n15_
     have GE1010 := n16_
     have NB1002_1010 := n17_
     have NB1010_1002 := n18_
     have NB1003_1010 := n19_
     have NB1010_1003 := n20_
     have NB1004_1010 := n21_
     have NB1010_1004 := n22_
     have HB := n23_
     clear n0_ n1_ n2_ n3_ n4_ n5_ n6_ n7_ n8_ n9_ n10_ n11_ n12_ n13_ n14_ n15_ n16_ n17_ n18_ n19_ n20_ n21_ n22_ n23_
     have hHeld : w12.cell? ⟨gb1002, 0, none⟩ = some (.int .i64 a0_0) ∧ w12.cell? ⟨gb1002, 1, none⟩ = some (.int .i64 a0_1) ∧ w12.cell? ⟨gb1003, 0, none⟩ = some (.int .i64 a1_0) ∧ w12.cell? ⟨gb1003, 1, none⟩ = some (.int .i64 a1_1) := hS_
     refine norm_ (a' := ?_) ?_ ?_
     rotate_left
     ·simp only [putAll, Act.put, List.setIfInBounds_toArray, List.set_cons_zero, List.set_cons_succ]
      rfl
     refine one_ (i := 9) (N := some 16) (ba 14 4095) rfl rfl (one_of HT_.out (by kernel_rfl)) (by decide) (fun K hK => ?_)
     refine gC Try.func85 #[.int .i64 a1_0, .int .i64 a0_1] ?_
     with_reducible refine (shares_frac.calls k a1_0 a0_1 t1007 t1008 _ A4.out).mono ?_
     rintro e w13 ⟨rfl, hb⟩
     refine ⟨_, rfl, ?_⟩
     replace BK1002 := kB BK1002 hb
     replace BK1003 := kB BK1003 hb
     replace BK1004 := kB BK1004 hb
     replace BK1009 := kB BK1009 hb
     replace BK1010 := kB BK1010 hb
     replace HB := kH _ hb
     (try clear hb)
     (try clear hb2)
     (try clear hk)
     (try clear hi)
     refine hK.out _ _ ⟨bc BK1002 0, bc BK1002 1, bc BK1003 0, bc BK1003 1⟩ (fun hHeld => ?_)
     clear hK K
     refine norm_ (a' := ?_) ?_ ?_
     rotate_left
     ·show Act.put _ (some 16) _ = _
      simp only [Act.put, List.setIfInBounds_toArray, List.set_cons_zero, List.set_cons_succ, i64_w, i32_w]
      rfl
     exact norm_ (by first | (simp only [putAll, Act.put, List.setIfInBounds_toArray, List.set_cons_zero, List.set_cons_succ]; done) | (simp only [putAll, Act.put, List.setIfInBounds_toArray, List.set_cons_zero, List.set_cons_succ]; rfl)) (hJ4_9_10_11 (gb1009, gb1010) _ ⟨hHeld, (bkC BK1002), (bkC BK1003), (bkC BK1004), (bkC BK1009), (bkC BK1010), GW1009.out, GE1009.out, NB1002_1009.out, NB1009_1002.out, NB1003_1009.out, NB1009_1003.out, NB1004_1009.out, NB1009_1004.out, NB1010_1009.out, NB1009_1010.out, GW1010.out, GE1010.out, NB1002_1010.out, NB1010_1002.out, NB1003_1010.out, NB1010_1003.out, NB1004_1010.out, NB1010_1004.out, (hbC _)⟩)
   ·skip
    rintro gb1010 w12 ⟨hS_, h0_, h1_, h2_, h3_, h4_, h5_, h6_, h7_, h8_, h9_, h10_, h11_, h12_⟩
    have n0_ : Aside0 (w12.heap[gb1002]? = some (.cells #[.int .i64 a0_0, .int .i64 a0_1] 62 (0, 0))) := ⟨h0_⟩
    have n1_ : Aside0 (w12.heap[gb1003]? = some (.cells #[.int .i64 a1_0, .int .i64 a1_1] 62 (0, 0))) := ⟨h1_⟩
    have n2_ : Aside0 (w12.heap[gb1004]? = some (.cells #[.int .i64 0, .int .i64 0] 62 (0, 0))) := ⟨h2_⟩
    have n3_ : Aside0 (w12.heap[gb1010]? = some (.cells #[.int .i64 0, .int .i64 0] 62 (0, 0))) := ⟨h3_⟩
    have n4_ : Aside0 (w.heap.size ≤ gb1010) := ⟨h4_⟩
    have n5_ : Aside0 (w.heap.size ≤ gb1010) := ⟨h5_⟩
    have n6_ : Aside0 (gb1002 ≠ gb1010) := ⟨h6_⟩
    have n7_ : Aside0 (gb1010 ≠ gb1002) := ⟨h7_⟩
    have n8_ : Aside0 (gb1003 ≠ gb1010) := ⟨h8_⟩
    have n9_ : Aside0 (gb1010 ≠ gb1003) := ⟨h9_⟩
    have n10_ : Aside0 (gb1004 ≠ gb1010) := ⟨h10_⟩
    have n11_ : Aside0 (gb1010 ≠ gb1004) := ⟨h11_⟩
    have n12_ : Aside0 (Below w.heap.size w w12) := ⟨h12_⟩
    clear BK1002
    clear BK1003
    clear BK1004
    clear HB
    clear h0_ h1_ h2_ h3_ h4_ h5_ h6_ h7_ h8_ h9_ h10_ h11_ h12_
    have BK1002 := n0_
    have BK1003 := n1_
    have BK1004 := n2_
    have BK1010 := n3_
    have GW1010 := n4_
    have GE1010 := n5_
    have NB1002_1010 := n6_
    have NB1010_1002 := n7_
    have NB1003_1010 := n8_
    have NB1010_1003 := n9_
    have NB1004_1010 := n10_
    have NB1010_1004 := n11_
    have HB := n12_
    clear n0_ n1_ n2_ n3_ n4_ n5_ n6_ n7_ n8_ n9_ n10_ n11_ n12_
    have hHeld : w12.cell? ⟨gb1002, 0, none⟩ = some (.int .i64 a0_0) ∧ w12.cell? ⟨gb1002, 1, none⟩ = some (.int .i64 a0_1) ∧ w12.cell? ⟨gb1003, 0, none⟩ = some (.int .i64 a1_0) ∧ w12.cell? ⟨gb1003, 1, none⟩ = some (.int .i64 a1_1) := hS_
    refine norm_ (a' := ?_) ?_ ?_
    rotate_left
    ·simp only [putAll, Act.put, List.setIfInBounds_toArray, List.set_cons_zero, List.set_cons_succ]
     rfl
    refine one_ (i := 10) (N := some 5) (ba 14 4095) rfl rfl (one_of HT_.out (by kernel_rfl)) (by decide) (fun K hK => ?_)
    refine box_step ?hg (N := 5) ?hd (cs := #[.int .i64 0, .int .i64 0]) (t := 62) ?hr ?_; (case hd => rfl); (case hg => rfl); (case hr => first | (go_simp; done) | (go_simp; rfl))
    intro gb1009 hg w13 hbox hb
    have BK1009 := ak (hbox)
    have GW1009 := kG w hg
    have GE1009 := kG w hg
    replace HB := kH _ hb
    have NB1002_1009 := kL BK1002 hg
    have NB1009_1002 := kR BK1002 hg
    replace BK1002 := kB BK1002 hb
    have NB1003_1009 := kL BK1003 hg
    have NB1009_1003 := kR BK1003 hg
    replace BK1003 := kB BK1003 hb
    have NB1004_1009 := kL BK1004 hg
    have NB1009_1004 := kR BK1004 hg
    replace BK1004 := kB BK1004 hb
    have NB1010_1009 := kL BK1010 hg
    have NB1009_1010 := kR BK1010 hg
    replace BK1010 := kB BK1010 hb
    clear hb hbox hg
    refine hK.out _ _ ⟨bc BK1002 0, bc BK1002 1, bc BK1003 0, bc BK1003 1⟩ (fun hHeld => ?_)
    clear hK K
    refine norm_ (a' := ?_) ?_ ?_
    rotate_left
    ·show Act.put _ (some 5) _ = _
     simp only [Act.put, List.setIfInBounds_toArray, List.set_cons_zero, List.set_cons_succ, i64_w, i32_w]
     rfl
    exact norm_ (by first | (simp only [putAll, Act.put, List.setIfInBounds_toArray, List.set_cons_zero, List.set_cons_succ]; done) | (simp only [putAll, Act.put, List.setIfInBounds_toArray, List.set_cons_zero, List.set_cons_succ]; rfl)) (hJ4_9_10_11 (gb1009, gb1010) _ ⟨hHeld, (bkC BK1002), (bkC BK1003), (bkC BK1004), (bkC BK1009), (bkC BK1010), GW1009.out, GE1009.out, NB1002_1009.out, NB1009_1002.out, NB1003_1009.out, NB1009_1003.out, NB1004_1009.out, NB1009_1004.out, NB1010_1009.out, NB1009_1010.out, GW1010.out, GE1010.out, NB1002_1010.out, NB1010_1002.out, NB1003_1010.out, NB1010_1003.out, NB1004_1010.out, NB1010_1004.out, (hbC _)⟩)
  ·skip
   rintro gb1009 w12 ⟨hS_, h0_, h1_, h2_, h3_, h4_, h5_, h6_, h7_, h8_, h9_, h10_, h11_, h12_⟩
   have n0_ : Aside0 (w12.heap[gb1002]? = some (.cells #[.int .i64 a0_0, .int .i64 a0_1] 62 (0, 0))) := ⟨h0_⟩
   have n1_ : Aside0 (w12.heap[gb1003]? = some (.cells #[.int .i64 a1_0, .int .i64 a1_1] 62 (0, 0))) := ⟨h1_⟩
   have n2_ : Aside0 (w12.heap[gb1004]? = some (.cells #[.int .i64 0, .int .i64 0] 62 (0, 0))) := ⟨h2_⟩
   have n3_ : Aside0 (w12.heap[gb1009]? = some (.cells #[.int .i64 0, .int .i64 0] 62 (0, 0))) := ⟨h3_⟩
   have n4_ : Aside0 (w.heap.size ≤ gb1009) := ⟨h4_⟩
   have n5_ : Aside0 (w.heap.size ≤ gb1009) := ⟨h5_⟩
   have n6_ : Aside0 (gb1002 ≠ gb1009) := ⟨h6_⟩
   have n7_ : Aside0 (gb1009 ≠ gb1002) := ⟨h7_⟩
   have n8_ : Aside0 (gb1003 ≠ gb1009) := ⟨h8_⟩
   have n9_ : Aside0 (gb1009 ≠ gb1003) := ⟨h9_⟩
   have n10_ : Aside0 (gb1004 ≠ gb1009) := ⟨h10_⟩
   have n11_ : Aside0 (gb1009 ≠ gb1004) := ⟨h11_⟩
   have n12_ : Aside0 (Below w.heap.size w w12) := ⟨h12_⟩
   clear BK1002
   clear BK1003
   clear BK1004
   clear HB
   clear h0_ h1_ h2_ h3_ h4_ h5_ h6_ h7_ h8_ h9_ h10_ h11_ h12_
   have BK1002 := n0_
   have BK1003 := n1_
   have BK1004 := n2_
   have BK1009 := n3_
   have GW1009 := n4_
   have GE1009 := n5_
   have NB1002_1009 := n6_
   have NB1009_1002 := n7_
   have NB1003_1009 := n8_
   have NB1009_1003 := n9_
   have NB1004_1009 := n10_
   have NB1009_1004 := n11_
   have HB := n12_
   clear n0_ n1_ n2_ n3_ n4_ n5_ n6_ n7_ n8_ n9_ n10_ n11_ n12_
   have hHeld : w12.cell? ⟨gb1002, 0, none⟩ = some (.int .i64 a0_0) ∧ w12.cell? ⟨gb1002, 1, none⟩ = some (.int .i64 a0_1) ∧ w12.cell? ⟨gb1003, 0, none⟩ = some (.int .i64 a1_0) ∧ w12.cell? ⟨gb1003, 1, none⟩ = some (.int .i64 a1_1) := hS_
   refine norm_ (a' := ?_) ?_ ?_
   rotate_left
   ·simp only [putAll, Act.put, List.setIfInBounds_toArray, List.set_cons_zero, List.set_cons_succ]
    rfl
   refine one_ (i := 11) (N := some 6) (ba 14 4095) rfl rfl (one_of HT_.out (by kernel_rfl)) (by decide) (fun K hK => ?_)
   refine box_step ?hg (N := 6) ?hd (cs := #[.int .i64 0, .int .i64 0]) (t := 62) ?hr ?_; (case hd => rfl); (case hg => rfl); (case hr => first | (go_simp; done) | (go_simp; rfl))
   intro gb1010 hg w13 hbox hb
   have BK1010 := ak (hbox)
   have GW1010 := kG w hg
   have GE1010 := kG w hg
   replace HB := kH _ hb
   have NB1002_1010 := kL BK1002 hg
   have NB1010_1002 := kR BK1002 hg
   replace BK1002 := kB BK1002 hb
   have NB1003_1010 := kL BK1003 hg
   have NB1010_1003 := kR BK1003 hg
   replace BK1003 := kB BK1003 hb
   have NB1004_1010 := kL BK1004 hg
   have NB1010_1004 := kR BK1004 hg
   replace BK1004 := kB BK1004 hb
   have NB1009_1010 := kL BK1009 hg
   have NB1010_1009 := kR BK1009 hg
   replace BK1009 := kB BK1009 hb
   clear hb hbox hg
   refine hK.out _ _ ⟨bc BK1002 0, bc BK1002 1, bc BK1003 0, bc BK1003 1⟩ (fun hHeld => ?_)
   clear hK K
   refine norm_ (a' := ?_) ?_ ?_
   rotate_left
   ·show Act.put _ (some 6) _ = _
    simp only [Act.put, List.setIfInBounds_toArray, List.set_cons_zero, List.set_cons_succ, i64_w, i32_w]
    rfl
   exact norm_ (by first | (simp only [putAll, Act.put, List.setIfInBounds_toArray, List.set_cons_zero, List.set_cons_succ]; done) | (simp only [putAll, Act.put, List.setIfInBounds_toArray, List.set_cons_zero, List.set_cons_succ]; rfl)) (hJ4_9_10_11 (gb1009, gb1010) _ ⟨hHeld, (bkC BK1002), (bkC BK1003), (bkC BK1004), (bkC BK1009), (bkC BK1010), GW1009.out, GE1009.out, NB1002_1009.out, NB1009_1002.out, NB1003_1009.out, NB1009_1003.out, NB1004_1009.out, NB1009_1004.out, NB1010_1009.out, NB1009_1010.out, GW1010.out, GE1010.out, NB1002_1010.out, NB1010_1002.out, NB1003_1010.out, NB1010_1003.out, NB1004_1010.out, NB1010_1004.out, (hbC _)⟩)
 rintro ⟨gb1009, gb1010⟩ w13 ⟨hS_, h0_, h1_, h2_, h3_, h4_, h5_, h6_, h7_, h8_, h9_, h10_, h11_, h12_, h13_, h14_, h15_, h16_, h17_, h18_, h19_, h20_, h21_, h22_, h23_⟩
 have n0_ : Aside0 (w13.heap[gb1002]? = some (.cells #[.int .i64 a0_0, .int .i64 a0_1] 62 (0, 0))) := ⟨h0_⟩
 have n1_ : Aside0 (w13.heap[gb1003]? = some (.cells #[.int .i64 a1_0, .int .i64 a1_1] 62 (0, 0))) := ⟨h1_⟩
 have n2_ : Aside0 (w13.heap[gb1004]? = some (.cells #[.int .i64 0, .int .i64 0] 62 (0, 0))) := ⟨h2_⟩
 have n3_ : Aside0 (w13.heap[gb1009]? = some (.cells #[.int .i64 0, .int .i64 0] 62 (0, 0))) := ⟨h3_⟩
 have n4_ : Aside0 (w13.heap[gb1010]? = some (.cells #[.int .i64 0, .int .i64 0] 62 (0, 0))) := ⟨h4_⟩
 have n5_ : Aside0 (w.heap.size ≤ gb1009) := ⟨h5_⟩
 have n6_ : Aside0 (w.heap.size ≤ gb1009) := ⟨h6_⟩
 have n7_ : Aside0 (gb1002 ≠ gb1009) := ⟨h7_⟩
 have n8_ : Aside0 (gb1009 ≠ gb1002) := ⟨h8_⟩
 have n9_ : Aside0 (gb1003 ≠ gb1009) := ⟨h9_⟩
 have n10_ : Aside0 (gb1009 ≠ gb1003) := ⟨h10_⟩
 have n11_ : Aside0 (gb1004 ≠ gb1009) := ⟨h11_⟩
 have n12_ : Aside0 (gb1009 ≠ gb1004) := ⟨h12_⟩
 have n13_ : Aside0 (gb1010 ≠ gb1009) := ⟨h13_⟩
 have n14_ : Aside0 (gb1009 ≠ gb1010) := ⟨h14_⟩
 have n15_ : Aside0 (w.heap.size ≤ gb1010) := ⟨h15_⟩
 have n16_ : Aside0 (w.heap.size ≤ gb1010) := ⟨h16_⟩
 have n17_ : Aside0 (gb1002 ≠ gb1010) := ⟨h17_⟩
 have n18_ : Aside0 (gb1010 ≠ gb1002) := ⟨h18_⟩
 have n19_ : Aside0 (gb1003 ≠ gb1010) := ⟨h19_⟩
 have n20_ : Aside0 (gb1010 ≠ gb1003) := ⟨h20_⟩
 have n21_ : Aside0 (gb1004 ≠ gb1010) := ⟨h21_⟩
 have n22_ : Aside0 (gb1010 ≠ gb1004) := ⟨h22_⟩
 have n23_ : Aside0 (Below w.heap.size w w13) := ⟨h23_⟩
 clear BK1002
 clear BK1003
 clear BK1004
 clear HB
 clear h0_ h1_ h2_ h3_ h4_ h5_ h6_ h7_ h8_ h9_ h10_ h11_ h12_ h13_ h14_ h15_ h16_ h17_ h18_ h19_ h20_ h21_ h22_ h23_
 have BK1002 := n0_
 have BK1003 := n1_
 have BK1004 := n2_
 have BK1009 := n3_
 have BK1010 := n4_
 have GW1009 := n5_
 have GE1009 := n6_
 have NB1002_1009 := n7_
 have NB1009_1002 := n8_
 have NB1003_1009 := n9_
 have NB1009_1003 := n10_
 have NB1004_1009 := n11_
 have NB1009_1004 := n12_
 have NB1010_1009 := n13_
 have NB1009_1010 := n14_
 have GW1010 := n15_
 have GE1010 := n16_
 have NB1002_1010 := n17_
 have NB1010_1002 := n18_
 have NB1003_1010 := n19_
 have NB1010_1003 := n20_
 have NB1004_1010 := n21_
 have NB1010_1004 := n22_
 have HB := n23_
 clear n0_ n1_ n2_ n3_ n4_ n5_ n6_ n7_ n8_ n9_ n10_ n11_ n12_ n13_ n14_ n15_ n16_ n17_ n18_ n19_ n20_ n21_ n22_ n23_
 have hHeld : w13.cell? ⟨gb1002, 0, none⟩ = some (.int .i64 a0_0) ∧ w13.cell? ⟨gb1002, 1, none⟩ = some (.int .i64 a0_1) ∧ w13.cell? ⟨gb1003, 0, none⟩ = some (.int .i64 a1_0) ∧ w13.cell? ⟨gb1003, 1, none⟩ = some (.int .i64 a1_1) := hS_
 refine norm_ (a' := ?_) ?_ ?_
 rotate_left
 ·simp only [putAll, Act.put, List.setIfInBounds_toArray, List.set_cons_zero, List.set_cons_succ]
  rfl
 refine one_ (i := 12) (N := none) (ba 14 8191) rfl rfl (one_of HT_.out (by kernel_rfl)) (by decide) (fun K hK => ?_)
 have hs14 : w13.cell? ⟨gb1009, 0, none⟩ = some (.int .i64 0) := bc BK1009 0
 have hfs14 := fz BK1009 0
 have hns14_0 := NB1002_1009.out
 have hns14_1 := NB1003_1009.out
 have hns14_2 := NB1004_1009.out
 have hns14_4 := NB1010_1009.out
 have hms14_0 := NB1009_1002.out
 have hms14_1 := NB1009_1003.out
 have hms14_2 := NB1009_1004.out
 have hms14_4 := NB1009_1010.out
 have hs15 : w13.cell? ⟨gb1009, 1, none⟩ = some (.int .i64 0) := bc BK1009 1
 have hfs15 := fz BK1009 1
 have hns15_0 := NB1002_1009.out
 have hns15_1 := NB1003_1009.out
 have hns15_2 := NB1004_1009.out
 have hns15_4 := NB1010_1009.out
 have hms15_0 := NB1009_1002.out
 have hms15_1 := NB1009_1003.out
 have hms15_2 := NB1009_1004.out
 have hms15_4 := NB1009_1010.out
 refine skip_ (w1 := ?_) (by rfl) rfl ?_ ?_
 rotate_left
 ·go_simp
  rfl
 refine hK.out _ _ ⟨((cell_far (p := ⟨gb1009, _, none⟩) NB1002_1009.out _).trans (((cell_far (p := ⟨gb1009, _, none⟩) NB1002_1009.out _).trans (hHeld.1)))), ((cell_far (p := ⟨gb1009, _, none⟩) NB1002_1009.out _).trans (((cell_far (p := ⟨gb1009, _, none⟩) NB1002_1009.out _).trans (hHeld.2.1)))), ((cell_far (p := ⟨gb1009, _, none⟩) NB1003_1009.out _).trans (((cell_far (p := ⟨gb1009, _, none⟩) NB1003_1009.out _).trans (hHeld.2.2.1)))), ((cell_far (p := ⟨gb1009, _, none⟩) NB1003_1009.out _).trans (((cell_far (p := ⟨gb1009, _, none⟩) NB1003_1009.out _).trans (hHeld.2.2.2))))⟩ (fun hHeld => ?_)
 clear hK K
 refine one_ (i := 13) (N := none) (ba 14 16383) rfl rfl (one_of HT_.out (by kernel_rfl)) (by decide) (fun K hK => ?_)
 have hs16 : w13.cell? ⟨gb1010, 0, none⟩ = some (.int .i64 0) := bc BK1010 0
 have hfs16 := fz BK1010 0
 have hns16_0 := NB1002_1010.out
 have hns16_1 := NB1003_1010.out
 have hns16_2 := NB1004_1010.out
 have hns16_3 := NB1009_1010.out
 have hms16_0 := NB1010_1002.out
 have hms16_1 := NB1010_1003.out
 have hms16_2 := NB1010_1004.out
 have hms16_3 := NB1010_1009.out
 have hs17 : w13.cell? ⟨gb1010, 1, none⟩ = some (.int .i64 0) := bc BK1010 1
 have hfs17 := fz BK1010 1
 have hns17_0 := NB1002_1010.out
 have hns17_1 := NB1003_1010.out
 have hns17_2 := NB1004_1010.out
 have hns17_3 := NB1009_1010.out
 have hms17_0 := NB1010_1002.out
 have hms17_1 := NB1010_1003.out
 have hms17_2 := NB1010_1004.out
 have hms17_3 := NB1010_1009.out
 refine skip_ (w1 := ?_) (by rfl) rfl ?_ ?_
 rotate_left
 ·go_simp
  rfl
 refine hK.out _ _ ⟨((cell_far (p := ⟨gb1010, _, none⟩) NB1002_1010.out _).trans (((cell_far (p := ⟨gb1010, _, none⟩) NB1002_1010.out _).trans (hHeld.1)))), ((cell_far (p := ⟨gb1010, _, none⟩) NB1002_1010.out _).trans (((cell_far (p := ⟨gb1010, _, none⟩) NB1002_1010.out _).trans (hHeld.2.1)))), ((cell_far (p := ⟨gb1010, _, none⟩) NB1003_1010.out _).trans (((cell_far (p := ⟨gb1010, _, none⟩) NB1003_1010.out _).trans (hHeld.2.2.1)))), ((cell_far (p := ⟨gb1010, _, none⟩) NB1003_1010.out _).trans (((cell_far (p := ⟨gb1010, _, none⟩) NB1003_1010.out _).trans (hHeld.2.2.2))))⟩ (fun hHeld => ?_)
 clear hK K
 refine done_ (done_of HT_.out (by kernel_rfl)) ?_
 have hnb18 := NB1009_1002.out
 have hnc18 := NB1002_1009.out
 have hnb19 := NB1009_1003.out
 have hnc19 := NB1003_1009.out
 have hnb20 := NB1009_1004.out
 have hnc20 := NB1004_1009.out
 have hnb21 := NB1009_1010.out
 have hnc21 := NB1010_1009.out
 have hcz22_0 : w13.cell? ⟨gb1009, 0, none⟩ = some (.int .i64 0) := bc BK1009 0
 have hcz22_1 : w13.cell? ⟨gb1009, 1, none⟩ = some (.int .i64 0) := bc BK1009 1
 have hfz22_0 := fz BK1009 0
 have hfz22_1 := fz BK1009 1
 have hnb23 := NB1010_1002.out
 have hnc23 := NB1002_1010.out
 have hnb24 := NB1010_1003.out
 have hnc24 := NB1003_1010.out
 have hnb25 := NB1010_1004.out
 have hnc25 := NB1004_1010.out
 have hcz26_0 : w13.cell? ⟨gb1010, 0, none⟩ = some (.int .i64 0) := bc BK1010 0
 have hcz26_1 : w13.cell? ⟨gb1010, 1, none⟩ = some (.int .i64 0) := bc BK1010 1
 have hfz26_0 := fz BK1010 0
 have hfz26_1 := fz BK1010 1
 have hnb27 := NB1004_1002.out
 have hnc27 := NB1002_1004.out
 have hnb28 := NB1004_1003.out
 have hnc28 := NB1003_1004.out
 have hcz29_0 : w13.cell? ⟨gb1004, 0, none⟩ = some (.int .i64 0) := bc BK1004 0
 have hcz29_1 : w13.cell? ⟨gb1004, 1, none⟩ = some (.int .i64 0) := bc BK1004 1
 have hfz29_0 := fz BK1004 0
 have hfz29_1 := fz BK1004 1
 try go_wp2
 refine bodyPost_ret (results_cell_row rfl _ _ gb1004 62 #[.int .i64 (wrap64 (t1005 * t1007)), .int .i64 (wrap64 (t1006 * t1008))] (0, 0) _ rfl (by (with_reducible repeat (first | refine blk_drewN ?_ _ | refine blk_drew ?_ | refine blk_alloc ?_ _)); refine blk_put (cs := #[.int .i64 (wrap64 (t1005 * t1007)), .int .i64 0]) ?_ 1 _ rfl; (with_reducible repeat (first | refine blk_drewN ?_ _ | refine blk_drew ?_ | refine blk_alloc ?_ _)); refine blk_put (cs := #[.int .i64 0, .int .i64 0]) ?_ 0 _ rfl; (with_reducible repeat (first | refine blk_drewN ?_ _ | refine blk_drew ?_ | refine blk_alloc ?_ _)); refine blk_far ?_ NB1004_1010.out _; (with_reducible repeat (first | refine blk_drewN ?_ _ | refine blk_drew ?_ | refine blk_alloc ?_ _)); refine blk_far ?_ NB1004_1010.out _; (with_reducible repeat (first | refine blk_drewN ?_ _ | refine blk_drew ?_ | refine blk_alloc ?_ _)); refine blk_far ?_ NB1004_1009.out _; (with_reducible repeat (first | refine blk_drewN ?_ _ | refine blk_drew ?_ | refine blk_alloc ?_ _)); refine blk_far ?_ NB1004_1009.out _; (with_reducible repeat (first | refine blk_drewN ?_ _ | refine blk_drew ?_ | refine blk_alloc ?_ _)); exact BK1004.out) Try.underlying62 rfl (by kernel_rfl)) rfl ?_
 exact ⟨by first | rfl | (simp [errW_none, errW_some] <;> rfl) | (simp [*, errW_none, errW_some] <;> rfl), hbC _⟩

end Go.Proofs.Ytefmafbbnkkpjaa.X
