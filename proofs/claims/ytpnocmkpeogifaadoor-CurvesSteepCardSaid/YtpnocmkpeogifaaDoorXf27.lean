-- Written by a program of this work (wip/xprint.py, over the kit's printer) out of the translation.
import Derived.Test.YtpnocmkpeogifaaDoorX0
import Derived.Test.YtpnocmkpeogifaaDoorXG2a
namespace Go.Proofs.YtpnocmkpeogifaaDoor.X
open Go.RowKit Go.Proofs.YtpnocmkpeogifaaDoorW.PrintWords Go.Proofs.YtpnocmkpeogifaaDoorW.PrintLast Go.Proofs.YtpnocmkpeogifaaDoorW.PrintMore
attribute [local go_sem] max2_int min2_int max_two min_two max_three min_three max_four min_four   -- for this text's walks alone
set_option linter.unusedVariables false
set_option linter.unusedSimpArgs false

/-! ### curves_ratio_times: function 27 -/
def curves_ratio_times.f (k : Nat) (a0_0 : Int) (a0_1 : Int) (a1_0 : Int) (a1_1 : Int) : Option (Int × Int) := (curves_of.f k a0_0 a1_1).bind fun bt170 => ((curves_of.f k a1_0 a0_1).bind fun bt172 => ((curves_of.f k (wrap64 (bt170.1 * bt172.1)) (wrap64 (bt170.2 * bt172.2))).bind fun bt176 => (some (bt176.1, bt176.2))))
theorem curves_ratio_times.mono : ∀ a0 a1 a2 a3 k, LeO (curves_ratio_times.f k a0 a1 a2 a3) (curves_ratio_times.f (k + 1) a0 a1 a2 a3) := by
 intro a0 a1 a2 a3 k
 unfold curves_ratio_times.f
 repeat' first
   | (with_reducible exact curves_of.mono _ _ _)
   | (with_reducible exact LeO.refl _)
   | (with_reducible exact LeO.none _)
   | (with_reducible refine LeO.ite ?_ ?_)
   | (with_reducible refine LeO.bind ?_ (fun _ => ?_))
   | exact curves_of.mono _ _ _
   | exact LeO.none _
   | refine LeO.ite ?_ ?_
   | refine LeO.bind ?_ (fun _ => ?_)
def curves_ratio_times.T1 : Bool × List (List Nat × List Nat) := (true, [([], []), ([0], [0]), ([1], [1]), ([], []), ([3], [3]), ([4], [4]), ([2, 5], [2, 5]), ([], []), ([7], [7]), ([8], [8]), ([], []), ([10], [10]), ([11], [11]), ([9, 12, 6], [9, 12]), ([], []), ([], []), ([14, 6, 13, 0, 1, 2, 3, 4, 5, 6, 14, 15], [6, 14]), ([15, 13, 16, 0, 1, 2, 3, 4, 5, 6, 7, 8, 9, 10, 11, 12, 13, 14, 15, 16], [13, 15])])
def curves_ratio_times.B1 : List Nat := [0, 1, 3, 0, 8, 24, 63, 0, 128, 384, 0, 1024, 3072, 8191, 0, 0, 65535, 131071]
theorem curves_ratio_times.tab1 : rtab .any (opsOf Tryd.f27 1) = curves_ratio_times.T1 := by kernel_rfl
theorem curves_ratio_times.bits1 : waitsOk curves_ratio_times.T1.2 curves_ratio_times.B1 = true := by kernel_rfl
set_option maxHeartbeats 8000000 in
set_option maxRecDepth 100000 in
theorem curves_ratio_times.calls (k : Nat) (a0_0 : Int) (a0_1 : Int) (a1_0 : Int) (a1_1 : Int) (r1 : Int) (r2 : Int) (w : World) (h : curves_ratio_times.f k a0_0 a0_1 a1_0 a1_1 = some (r1, r2)) :
  Calls Tryd.prog 27 #[.agg #[.int .i64 a0_0, .int .i64 a0_1], .agg #[.int .i64 a1_0, .int .i64 a1_1]] w fun e w' => e = .returned (.agg #[.int .i64 r1, .int .i64 r2]) ∧ Below w.heap.size w w' := by
 have hu49 := Tryd.underlying49
 have HB := ak (Below.refl w.heap.size w)
 have H : ((curves_of.f k a0_0 a1_1).bind fun bt170 => ((curves_of.f k a1_0 a0_1).bind fun bt172 => ((curves_of.f k (wrap64 (bt170.1 * bt172.1)) (wrap64 (bt170.2 * bt172.2))).bind fun bt176 => (some (bt176.1, bt176.2))))) = some (r1, r2) := h
 clear h
 replace H := Option.bind_eq_some_iff.mp H
 obtain ⟨⟨t170, t171⟩, A30, H⟩ := H
 replace H : ((curves_of.f k a1_0 a0_1).bind fun bt172 => ((curves_of.f k (wrap64 (t170 * bt172.1)) (wrap64 (t171 * bt172.2))).bind fun bt176 => (some (bt176.1, bt176.2)))) = some (r1, r2) := H
 have A3 := Aside0.mk A30
 clear A30
 replace H := Option.bind_eq_some_iff.mp H
 obtain ⟨⟨t172, t173⟩, A40, H⟩ := H
 replace H : ((curves_of.f k (wrap64 (t170 * t172)) (wrap64 (t171 * t173))).bind fun bt176 => (some (bt176.1, bt176.2))) = some (r1, r2) := H
 have A4 := Aside0.mk A40
 clear A40
 replace H := Option.bind_eq_some_iff.mp H
 obtain ⟨⟨t176, t177⟩, A50, H⟩ := H
 replace H : (some (t176, t177)) = some (r1, r2) := H
 have A5 := Aside0.mk A50
 clear A50
 simp only [Option.some.injEq, Prod.mk.injEq] at H
 obtain ⟨rfl, rfl⟩ := H
 go_enter Tryd.func27, Tryd.ntmps27
 try go_wp2_with (first | ((with_reducible refine gate_dst (N := 2) rfl ?_); refine bE 2 #[.int .i64 a0_0, .int .i64 a0_1] 49 ?_; intro gb167 hg w6 hbox hb; have BK167 := ak (hbox); have GW167 := kG w hg; have GE167 := kG w hg; replace HB := kH _ hb; clear hb hbox hg) | ((with_reducible refine gate_dst (N := 3) rfl ?_); refine bE 3 #[.int .i64 a1_0, .int .i64 a1_1] 49 ?_; intro gb168 hg w7 hbox hb; have BK168 := ak (hbox); have GW168 := kG w hg; have GE168 := kG w hg; replace HB := kH _ hb; have NB167_168 := kL BK167 hg; have NB168_167 := kR BK167 hg; replace BK167 := kB BK167 hb; clear hb hbox hg) | ((with_reducible refine gate_dst (N := 4) rfl ?_); refine bE 4 #[.int .i64 0, .int .i64 0] 49 ?_; intro gb169 hg w8 hbox hb; have BK169 := ak (hbox); have GW169 := kG w hg; have GE169 := kG w hg; replace HB := kH _ hb; have NB167_169 := kL BK167 hg; have NB169_167 := kR BK167 hg; replace BK167 := kB BK167 hb; have NB168_169 := kL BK168 hg; have NB169_168 := kR BK168 hg; replace BK168 := kB BK168 hb; clear hb hbox hg))
 replace BK167 := kd BK167
 replace BK168 := kd BK168
 replace BK169 := kd BK169
 replace HB := ak (below_drew1 HB.out)
 refine sS (n := 18) (S := fun w' => w'.cell? ⟨gb167, 0, none⟩ = some (.int .i64 a0_0) ∧ w'.cell? ⟨gb167, 1, none⟩ = some (.int .i64 a0_1) ∧ w'.cell? ⟨gb168, 0, none⟩ = some (.int .i64 a1_0) ∧ w'.cell? ⟨gb168, 1, none⟩ = some (.int .i64 a1_1)) (ds := []) ⟨bc BK167 0, bc BK167 1, bc BK168 0, bc BK168 1⟩ (fun hHeld => ?_); refine with_tabW curves_ratio_times.tab1 curves_ratio_times.bits1 (fun HT_ HW_ => ?_)
 generalize w8.drew = w9 at BK167 BK168 BK169 HB hHeld ⊢
 refine pS 0 7 18 1 ?_
 refine pS 1 8 18 3 ?_
 refine pS 3 10 18 11 ?_
 refine pS 4 11 18 27 ?_
 refine pS 7 14 18 155 ?_
 refine pS 8 15 18 411 ?_
 refine pS 10 17 18 1435 ?_
 refine pS 11 18 18 3483 ?_
 refine tS 2 9 18 3487 ?_
 refine tS 5 12 18 3519 ?_
 refine tS 9 16 18 4031 ?_
 refine tS 12 19 18 8127 ?_
 refine join_ (σ := Nat × Nat) 2 (ba 18 65535) (fun s_ => [(13, .agg #[.int .i64 t170, .int .i64 t171]), (20, .agg #[.int .i64 t172, .int .i64 t173]), (5, .pointer (some ⟨s_.1, 0, none⟩)), (6, .pointer (some ⟨s_.2, 0, none⟩))]) (fun s_ w' => (w'.cell? ⟨gb167, 0, none⟩ = some (.int .i64 a0_0) ∧ w'.cell? ⟨gb167, 1, none⟩ = some (.int .i64 a0_1) ∧ w'.cell? ⟨gb168, 0, none⟩ = some (.int .i64 a1_0) ∧ w'.cell? ⟨gb168, 1, none⟩ = some (.int .i64 a1_1)) ∧ (w'.heap[gb167]? = some (.cells #[.int .i64 a0_0, .int .i64 a0_1] 49 (0, 0))) ∧ (w'.heap[gb168]? = some (.cells #[.int .i64 a1_0, .int .i64 a1_1] 49 (0, 0))) ∧ (w'.heap[gb169]? = some (.cells #[.int .i64 0, .int .i64 0] 49 (0, 0))) ∧ (w'.heap[s_.1]? = some (.cells #[.int .i64 0, .int .i64 0] 49 (0, 0))) ∧ (w'.heap[s_.2]? = some (.cells #[.int .i64 0, .int .i64 0] 49 (0, 0))) ∧ (w.heap.size ≤ s_.1) ∧ (w.heap.size ≤ s_.1) ∧ (gb167 ≠ s_.1) ∧ (s_.1 ≠ gb167) ∧ (gb168 ≠ s_.1) ∧ (s_.1 ≠ gb168) ∧ (gb169 ≠ s_.1) ∧ (s_.1 ≠ gb169) ∧ (s_.2 ≠ s_.1) ∧ (s_.1 ≠ s_.2) ∧ (w.heap.size ≤ s_.2) ∧ (w.heap.size ≤ s_.2) ∧ (gb167 ≠ s_.2) ∧ (s_.2 ≠ gb167) ∧ (gb168 ≠ s_.2) ∧ (s_.2 ≠ gb168) ∧ (gb169 ≠ s_.2) ∧ (s_.2 ≠ gb169) ∧ (Below w.heap.size w w')) ?_ ?_
 rotate_left
 ·intro hJ6_13_14_15
  refine join_ (σ := Nat) 3 (ba 18 32767) (fun s_ => [(13, .agg #[.int .i64 t170, .int .i64 t171]), (20, .agg #[.int .i64 t172, .int .i64 t173]), (5, .pointer (some ⟨s_, 0, none⟩))]) (fun s_ w' => (w'.cell? ⟨gb167, 0, none⟩ = some (.int .i64 a0_0) ∧ w'.cell? ⟨gb167, 1, none⟩ = some (.int .i64 a0_1) ∧ w'.cell? ⟨gb168, 0, none⟩ = some (.int .i64 a1_0) ∧ w'.cell? ⟨gb168, 1, none⟩ = some (.int .i64 a1_1)) ∧ (w'.heap[gb167]? = some (.cells #[.int .i64 a0_0, .int .i64 a0_1] 49 (0, 0))) ∧ (w'.heap[gb168]? = some (.cells #[.int .i64 a1_0, .int .i64 a1_1] 49 (0, 0))) ∧ (w'.heap[gb169]? = some (.cells #[.int .i64 0, .int .i64 0] 49 (0, 0))) ∧ (w'.heap[s_]? = some (.cells #[.int .i64 0, .int .i64 0] 49 (0, 0))) ∧ (w.heap.size ≤ s_) ∧ (w.heap.size ≤ s_) ∧ (gb167 ≠ s_) ∧ (s_ ≠ gb167) ∧ (gb168 ≠ s_) ∧ (s_ ≠ gb168) ∧ (gb169 ≠ s_) ∧ (s_ ≠ gb169) ∧ (Below w.heap.size w w')) ?_ ?_
  rotate_left
  ·intro hJ6_13_14
   refine join_ (σ := Nat) 3 (ba 18 49151) (fun s_ => [(13, .agg #[.int .i64 t170, .int .i64 t171]), (20, .agg #[.int .i64 t172, .int .i64 t173]), (6, .pointer (some ⟨s_, 0, none⟩))]) (fun s_ w' => (w'.cell? ⟨gb167, 0, none⟩ = some (.int .i64 a0_0) ∧ w'.cell? ⟨gb167, 1, none⟩ = some (.int .i64 a0_1) ∧ w'.cell? ⟨gb168, 0, none⟩ = some (.int .i64 a1_0) ∧ w'.cell? ⟨gb168, 1, none⟩ = some (.int .i64 a1_1)) ∧ (w'.heap[gb167]? = some (.cells #[.int .i64 a0_0, .int .i64 a0_1] 49 (0, 0))) ∧ (w'.heap[gb168]? = some (.cells #[.int .i64 a1_0, .int .i64 a1_1] 49 (0, 0))) ∧ (w'.heap[gb169]? = some (.cells #[.int .i64 0, .int .i64 0] 49 (0, 0))) ∧ (w'.heap[s_]? = some (.cells #[.int .i64 0, .int .i64 0] 49 (0, 0))) ∧ (w.heap.size ≤ s_) ∧ (w.heap.size ≤ s_) ∧ (gb167 ≠ s_) ∧ (s_ ≠ gb167) ∧ (gb168 ≠ s_) ∧ (s_ ≠ gb168) ∧ (gb169 ≠ s_) ∧ (s_ ≠ gb169) ∧ (Below w.heap.size w w')) ?_ ?_
   rotate_left
   ·intro hJ6_13_15
    refine join_ (σ := Nat × Nat) 3 (ba 18 57343) (fun s_ => [(13, .agg #[.int .i64 t170, .int .i64 t171]), (5, .pointer (some ⟨s_.1, 0, none⟩)), (6, .pointer (some ⟨s_.2, 0, none⟩))]) (fun s_ w' => (w'.cell? ⟨gb167, 0, none⟩ = some (.int .i64 a0_0) ∧ w'.cell? ⟨gb167, 1, none⟩ = some (.int .i64 a0_1) ∧ w'.cell? ⟨gb168, 0, none⟩ = some (.int .i64 a1_0) ∧ w'.cell? ⟨gb168, 1, none⟩ = some (.int .i64 a1_1)) ∧ (w'.heap[gb167]? = some (.cells #[.int .i64 a0_0, .int .i64 a0_1] 49 (0, 0))) ∧ (w'.heap[gb168]? = some (.cells #[.int .i64 a1_0, .int .i64 a1_1] 49 (0, 0))) ∧ (w'.heap[gb169]? = some (.cells #[.int .i64 0, .int .i64 0] 49 (0, 0))) ∧ (w'.heap[s_.1]? = some (.cells #[.int .i64 0, .int .i64 0] 49 (0, 0))) ∧ (w'.heap[s_.2]? = some (.cells #[.int .i64 0, .int .i64 0] 49 (0, 0))) ∧ (w.heap.size ≤ s_.1) ∧ (w.heap.size ≤ s_.1) ∧ (gb167 ≠ s_.1) ∧ (s_.1 ≠ gb167) ∧ (gb168 ≠ s_.1) ∧ (s_.1 ≠ gb168) ∧ (gb169 ≠ s_.1) ∧ (s_.1 ≠ gb169) ∧ (s_.2 ≠ s_.1) ∧ (s_.1 ≠ s_.2) ∧ (w.heap.size ≤ s_.2) ∧ (w.heap.size ≤ s_.2) ∧ (gb167 ≠ s_.2) ∧ (s_.2 ≠ gb167) ∧ (gb168 ≠ s_.2) ∧ (s_.2 ≠ gb168) ∧ (gb169 ≠ s_.2) ∧ (s_.2 ≠ gb169) ∧ (Below w.heap.size w w')) ?_ ?_
    rotate_left
    ·intro hJ6_14_15
     refine join_ (σ := Unit) 4 (ba 18 16383) (fun s_ => [(13, .agg #[.int .i64 t170, .int .i64 t171]), (20, .agg #[.int .i64 t172, .int .i64 t173])]) (fun s_ w' => (w'.cell? ⟨gb167, 0, none⟩ = some (.int .i64 a0_0) ∧ w'.cell? ⟨gb167, 1, none⟩ = some (.int .i64 a0_1) ∧ w'.cell? ⟨gb168, 0, none⟩ = some (.int .i64 a1_0) ∧ w'.cell? ⟨gb168, 1, none⟩ = some (.int .i64 a1_1)) ∧ (w'.heap[gb167]? = some (.cells #[.int .i64 a0_0, .int .i64 a0_1] 49 (0, 0))) ∧ (w'.heap[gb168]? = some (.cells #[.int .i64 a1_0, .int .i64 a1_1] 49 (0, 0))) ∧ (w'.heap[gb169]? = some (.cells #[.int .i64 0, .int .i64 0] 49 (0, 0))) ∧ (Below w.heap.size w w')) ?_ ?_
     rotate_left
     ·intro hJ6_13
      refine join_ (σ := Nat) 4 (ba 18 24575) (fun s_ => [(13, .agg #[.int .i64 t170, .int .i64 t171]), (5, .pointer (some ⟨s_, 0, none⟩))]) (fun s_ w' => (w'.cell? ⟨gb167, 0, none⟩ = some (.int .i64 a0_0) ∧ w'.cell? ⟨gb167, 1, none⟩ = some (.int .i64 a0_1) ∧ w'.cell? ⟨gb168, 0, none⟩ = some (.int .i64 a1_0) ∧ w'.cell? ⟨gb168, 1, none⟩ = some (.int .i64 a1_1)) ∧ (w'.heap[gb167]? = some (.cells #[.int .i64 a0_0, .int .i64 a0_1] 49 (0, 0))) ∧ (w'.heap[gb168]? = some (.cells #[.int .i64 a1_0, .int .i64 a1_1] 49 (0, 0))) ∧ (w'.heap[gb169]? = some (.cells #[.int .i64 0, .int .i64 0] 49 (0, 0))) ∧ (w'.heap[s_]? = some (.cells #[.int .i64 0, .int .i64 0] 49 (0, 0))) ∧ (w.heap.size ≤ s_) ∧ (w.heap.size ≤ s_) ∧ (gb167 ≠ s_) ∧ (s_ ≠ gb167) ∧ (gb168 ≠ s_) ∧ (s_ ≠ gb168) ∧ (gb169 ≠ s_) ∧ (s_ ≠ gb169) ∧ (Below w.heap.size w w')) ?_ ?_
      rotate_left
      ·intro hJ6_14
       refine join_ (σ := Nat) 4 (ba 18 40959) (fun s_ => [(13, .agg #[.int .i64 t170, .int .i64 t171]), (6, .pointer (some ⟨s_, 0, none⟩))]) (fun s_ w' => (w'.cell? ⟨gb167, 0, none⟩ = some (.int .i64 a0_0) ∧ w'.cell? ⟨gb167, 1, none⟩ = some (.int .i64 a0_1) ∧ w'.cell? ⟨gb168, 0, none⟩ = some (.int .i64 a1_0) ∧ w'.cell? ⟨gb168, 1, none⟩ = some (.int .i64 a1_1)) ∧ (w'.heap[gb167]? = some (.cells #[.int .i64 a0_0, .int .i64 a0_1] 49 (0, 0))) ∧ (w'.heap[gb168]? = some (.cells #[.int .i64 a1_0, .int .i64 a1_1] 49 (0, 0))) ∧ (w'.heap[gb169]? = some (.cells #[.int .i64 0, .int .i64 0] 49 (0, 0))) ∧ (w'.heap[s_]? = some (.cells #[.int .i64 0, .int .i64 0] 49 (0, 0))) ∧ (w.heap.size ≤ s_) ∧ (w.heap.size ≤ s_) ∧ (gb167 ≠ s_) ∧ (s_ ≠ gb167) ∧ (gb168 ≠ s_) ∧ (s_ ≠ gb168) ∧ (gb169 ≠ s_) ∧ (s_ ≠ gb169) ∧ (Below w.heap.size w w')) ?_ ?_
       rotate_left
       ·intro hJ6_15
        refine join_ (σ := Nat × Nat) 4 (ba 18 57279) (fun s_ => [(5, .pointer (some ⟨s_.1, 0, none⟩)), (6, .pointer (some ⟨s_.2, 0, none⟩))]) (fun s_ w' => (w'.cell? ⟨gb167, 0, none⟩ = some (.int .i64 a0_0) ∧ w'.cell? ⟨gb167, 1, none⟩ = some (.int .i64 a0_1) ∧ w'.cell? ⟨gb168, 0, none⟩ = some (.int .i64 a1_0) ∧ w'.cell? ⟨gb168, 1, none⟩ = some (.int .i64 a1_1)) ∧ (w'.heap[gb167]? = some (.cells #[.int .i64 a0_0, .int .i64 a0_1] 49 (0, 0))) ∧ (w'.heap[gb168]? = some (.cells #[.int .i64 a1_0, .int .i64 a1_1] 49 (0, 0))) ∧ (w'.heap[gb169]? = some (.cells #[.int .i64 0, .int .i64 0] 49 (0, 0))) ∧ (w'.heap[s_.1]? = some (.cells #[.int .i64 0, .int .i64 0] 49 (0, 0))) ∧ (w'.heap[s_.2]? = some (.cells #[.int .i64 0, .int .i64 0] 49 (0, 0))) ∧ (w.heap.size ≤ s_.1) ∧ (w.heap.size ≤ s_.1) ∧ (gb167 ≠ s_.1) ∧ (s_.1 ≠ gb167) ∧ (gb168 ≠ s_.1) ∧ (s_.1 ≠ gb168) ∧ (gb169 ≠ s_.1) ∧ (s_.1 ≠ gb169) ∧ (s_.2 ≠ s_.1) ∧ (s_.1 ≠ s_.2) ∧ (w.heap.size ≤ s_.2) ∧ (w.heap.size ≤ s_.2) ∧ (gb167 ≠ s_.2) ∧ (s_.2 ≠ gb167) ∧ (gb168 ≠ s_.2) ∧ (s_.2 ≠ gb168) ∧ (gb169 ≠ s_.2) ∧ (s_.2 ≠ gb169) ∧ (Below w.heap.size w w')) ?_ ?_
        rotate_left
        ·intro hJ14_15
         refine join_ (σ := Unit) 5 (ba 18 8191) (fun s_ => [(13, .agg #[.int .i64 t170, .int .i64 t171])]) (fun s_ w' => (w'.cell? ⟨gb167, 0, none⟩ = some (.int .i64 a0_0) ∧ w'.cell? ⟨gb167, 1, none⟩ = some (.int .i64 a0_1) ∧ w'.cell? ⟨gb168, 0, none⟩ = some (.int .i64 a1_0) ∧ w'.cell? ⟨gb168, 1, none⟩ = some (.int .i64 a1_1)) ∧ (w'.heap[gb167]? = some (.cells #[.int .i64 a0_0, .int .i64 a0_1] 49 (0, 0))) ∧ (w'.heap[gb168]? = some (.cells #[.int .i64 a1_0, .int .i64 a1_1] 49 (0, 0))) ∧ (w'.heap[gb169]? = some (.cells #[.int .i64 0, .int .i64 0] 49 (0, 0))) ∧ (Below w.heap.size w w')) ?_ ?_
         rotate_left
         ·intro hJ6
          refine join_ (σ := Nat) 5 (ba 18 24511) (fun s_ => [(5, .pointer (some ⟨s_, 0, none⟩))]) (fun s_ w' => (w'.cell? ⟨gb167, 0, none⟩ = some (.int .i64 a0_0) ∧ w'.cell? ⟨gb167, 1, none⟩ = some (.int .i64 a0_1) ∧ w'.cell? ⟨gb168, 0, none⟩ = some (.int .i64 a1_0) ∧ w'.cell? ⟨gb168, 1, none⟩ = some (.int .i64 a1_1)) ∧ (w'.heap[gb167]? = some (.cells #[.int .i64 a0_0, .int .i64 a0_1] 49 (0, 0))) ∧ (w'.heap[gb168]? = some (.cells #[.int .i64 a1_0, .int .i64 a1_1] 49 (0, 0))) ∧ (w'.heap[gb169]? = some (.cells #[.int .i64 0, .int .i64 0] 49 (0, 0))) ∧ (w'.heap[s_]? = some (.cells #[.int .i64 0, .int .i64 0] 49 (0, 0))) ∧ (w.heap.size ≤ s_) ∧ (w.heap.size ≤ s_) ∧ (gb167 ≠ s_) ∧ (s_ ≠ gb167) ∧ (gb168 ≠ s_) ∧ (s_ ≠ gb168) ∧ (gb169 ≠ s_) ∧ (s_ ≠ gb169) ∧ (Below w.heap.size w w')) ?_ ?_
          rotate_left
          ·intro hJ14
           refine join_ (σ := Nat) 5 (ba 18 40895) (fun s_ => [(6, .pointer (some ⟨s_, 0, none⟩))]) (fun s_ w' => (w'.cell? ⟨gb167, 0, none⟩ = some (.int .i64 a0_0) ∧ w'.cell? ⟨gb167, 1, none⟩ = some (.int .i64 a0_1) ∧ w'.cell? ⟨gb168, 0, none⟩ = some (.int .i64 a1_0) ∧ w'.cell? ⟨gb168, 1, none⟩ = some (.int .i64 a1_1)) ∧ (w'.heap[gb167]? = some (.cells #[.int .i64 a0_0, .int .i64 a0_1] 49 (0, 0))) ∧ (w'.heap[gb168]? = some (.cells #[.int .i64 a1_0, .int .i64 a1_1] 49 (0, 0))) ∧ (w'.heap[gb169]? = some (.cells #[.int .i64 0, .int .i64 0] 49 (0, 0))) ∧ (w'.heap[s_]? = some (.cells #[.int .i64 0, .int .i64 0] 49 (0, 0))) ∧ (w.heap.size ≤ s_) ∧ (w.heap.size ≤ s_) ∧ (gb167 ≠ s_) ∧ (s_ ≠ gb167) ∧ (gb168 ≠ s_) ∧ (s_ ≠ gb168) ∧ (gb169 ≠ s_) ∧ (s_ ≠ gb169) ∧ (Below w.heap.size w w')) ?_ ?_
           rotate_left
           ·intro hJ15
            refine three_ (i := 6) (j := 14) (k := 15) (Ni := some 13) (Nj := some 5) (Nk := some 6) (ba 18 8191) (ba 18 24511) (ba 18 40895) rfl rfl rfl rfl rfl rfl (three_of HT_.out (by kernel_rfl)) (by decide) (by decide) (by decide) (fun K hK => ?_) (fun K hK => ?_) (fun K hK => ?_)
            ·skip
             refine gC Tryd.func24 #[.int .i64 a0_0, .int .i64 a1_1] ?_
             with_reducible refine (curves_of.calls k a0_0 a1_1 t170 t171 _ A3.out).mono ?_
             rintro e w10 ⟨rfl, hb⟩
             refine ⟨_, rfl, ?_⟩
             replace BK167 := kB BK167 hb
             replace BK168 := kB BK168 hb
             replace BK169 := kB BK169 hb
             replace HB := kH _ hb
             (try clear hb)
             (try clear hb2)
             (try clear hk)
             (try clear hi)
             refine hK.out _ _ ⟨bc BK167 0, bc BK167 1, bc BK168 0, bc BK168 1⟩ (fun hHeld => ?_)
             clear hK K
             refine norm_ (a' := ?_) ?_ ?_
             rotate_left
             ·show Act.put _ (some 13) _ = _
              simp only [Act.put, List.setIfInBounds_toArray, List.set_cons_zero, List.set_cons_succ, i64_w, i32_w]
              rfl
             exact norm_ (by first | (simp only [putAll, Act.put, List.setIfInBounds_toArray, List.set_cons_zero, List.set_cons_succ]; done) | (simp only [putAll, Act.put, List.setIfInBounds_toArray, List.set_cons_zero, List.set_cons_succ]; rfl)) (hJ6 () _ ⟨hHeld, (bkC BK167), (bkC BK168), (bkC BK169), (hbC _)⟩)
            ·skip
             refine box_step ?hg (N := 5) ?hd (cs := #[.int .i64 0, .int .i64 0]) (t := 49) ?hr ?_; (case hd => rfl); (case hg => rfl); (case hr => first | (go_simp; done) | (go_simp; rfl))
             intro gb174 hg w10 hbox hb
             have BK174 := ak (hbox)
             have GW174 := kG w hg
             have GE174 := kG w hg
             replace HB := kH _ hb
             have NB167_174 := kL BK167 hg
             have NB174_167 := kR BK167 hg
             replace BK167 := kB BK167 hb
             have NB168_174 := kL BK168 hg
             have NB174_168 := kR BK168 hg
             replace BK168 := kB BK168 hb
             have NB169_174 := kL BK169 hg
             have NB174_169 := kR BK169 hg
             replace BK169 := kB BK169 hb
             clear hb hbox hg
             refine hK.out _ _ ⟨bc BK167 0, bc BK167 1, bc BK168 0, bc BK168 1⟩ (fun hHeld => ?_)
             clear hK K
             refine norm_ (a' := ?_) ?_ ?_
             rotate_left
             ·show Act.put _ (some 5) _ = _
              simp only [Act.put, List.setIfInBounds_toArray, List.set_cons_zero, List.set_cons_succ, i64_w, i32_w]
              rfl
             exact norm_ (by first | (simp only [putAll, Act.put, List.setIfInBounds_toArray, List.set_cons_zero, List.set_cons_succ]; done) | (simp only [putAll, Act.put, List.setIfInBounds_toArray, List.set_cons_zero, List.set_cons_succ]; rfl)) (hJ14 (gb174) _ ⟨hHeld, (bkC BK167), (bkC BK168), (bkC BK169), (bkC BK174), GW174.out, GE174.out, NB167_174.out, NB174_167.out, NB168_174.out, NB174_168.out, NB169_174.out, NB174_169.out, (hbC _)⟩)
            ·skip
             refine box_step ?hg (N := 6) ?hd (cs := #[.int .i64 0, .int .i64 0]) (t := 49) ?hr ?_; (case hd => rfl); (case hg => rfl); (case hr => first | (go_simp; done) | (go_simp; rfl))
             intro gb175 hg w10 hbox hb
             have BK175 := ak (hbox)
             have GW175 := kG w hg
             have GE175 := kG w hg
             replace HB := kH _ hb
             have NB167_175 := kL BK167 hg
             have NB175_167 := kR BK167 hg
             replace BK167 := kB BK167 hb
             have NB168_175 := kL BK168 hg
             have NB175_168 := kR BK168 hg
             replace BK168 := kB BK168 hb
             have NB169_175 := kL BK169 hg
             have NB175_169 := kR BK169 hg
             replace BK169 := kB BK169 hb
             clear hb hbox hg
             refine hK.out _ _ ⟨bc BK167 0, bc BK167 1, bc BK168 0, bc BK168 1⟩ (fun hHeld => ?_)
             clear hK K
             refine norm_ (a' := ?_) ?_ ?_
             rotate_left
             ·show Act.put _ (some 6) _ = _
              simp only [Act.put, List.setIfInBounds_toArray, List.set_cons_zero, List.set_cons_succ, i64_w, i32_w]
              rfl
             exact norm_ (by first | (simp only [putAll, Act.put, List.setIfInBounds_toArray, List.set_cons_zero, List.set_cons_succ]; done) | (simp only [putAll, Act.put, List.setIfInBounds_toArray, List.set_cons_zero, List.set_cons_succ]; rfl)) (hJ15 (gb175) _ ⟨hHeld, (bkC BK167), (bkC BK168), (bkC BK169), (bkC BK175), GW175.out, GE175.out, NB167_175.out, NB175_167.out, NB168_175.out, NB175_168.out, NB169_175.out, NB175_169.out, (hbC _)⟩)
           ·skip
            rintro gb175 w11 ⟨hS_, h0_, h1_, h2_, h3_, h4_, h5_, h6_, h7_, h8_, h9_, h10_, h11_, h12_⟩
            have n0_ : Aside0 (w11.heap[gb167]? = some (.cells #[.int .i64 a0_0, .int .i64 a0_1] 49 (0, 0))) := ⟨h0_⟩
            have n1_ : Aside0 (w11.heap[gb168]? = some (.cells #[.int .i64 a1_0, .int .i64 a1_1] 49 (0, 0))) := ⟨h1_⟩
            have n2_ : Aside0 (w11.heap[gb169]? = some (.cells #[.int .i64 0, .int .i64 0] 49 (0, 0))) := ⟨h2_⟩
            have n3_ : Aside0 (w11.heap[gb175]? = some (.cells #[.int .i64 0, .int .i64 0] 49 (0, 0))) := ⟨h3_⟩
            have n4_ : Aside0 (w.heap.size ≤ gb175) := ⟨h4_⟩
            have n5_ : Aside0 (w.heap.size ≤ gb175) := ⟨h5_⟩
            have n6_ : Aside0 (gb167 ≠ gb175) := ⟨h6_⟩
            have n7_ : Aside0 (gb175 ≠ gb167) := ⟨h7_⟩
            have n8_ : Aside0 (gb168 ≠ gb175) := ⟨h8_⟩
            have n9_ : Aside0 (gb175 ≠ gb168) := ⟨h9_⟩
            have n10_ : Aside0 (gb169 ≠ gb175) := ⟨h10_⟩
            have n11_ : Aside0 (gb175 ≠ gb169) := ⟨h11_⟩
            have n12_ : Aside0 (Below w.heap.size w w11) := ⟨h12_⟩
            clear BK167
            clear BK168
            clear BK169
            clear HB
            clear h0_ h1_ h2_ h3_ h4_ h5_ h6_ h7_ h8_ h9_ h10_ h11_ h12_
            have BK167 := n0_
            have BK168 := n1_
            have BK169 := n2_
            have BK175 := n3_
            have GW175 := n4_
            have GE175 := n5_
            have NB167_175 := n6_
            have NB175_167 := n7_
            have NB168_175 := n8_
            have NB175_168 := n9_
            have NB169_175 := n10_
            have NB175_169 := n11_
            have HB := n12_
            clear n0_ n1_ n2_ n3_ n4_ n5_ n6_ n7_ n8_ n9_ n10_ n11_ n12_
            have hHeld : w11.cell? ⟨gb167, 0, none⟩ = some (.int .i64 a0_0) ∧ w11.cell? ⟨gb167, 1, none⟩ = some (.int .i64 a0_1) ∧ w11.cell? ⟨gb168, 0, none⟩ = some (.int .i64 a1_0) ∧ w11.cell? ⟨gb168, 1, none⟩ = some (.int .i64 a1_1) := hS_
            refine norm_ (a' := ?_) ?_ ?_
            rotate_left
            ·simp only [putAll, Act.put, List.setIfInBounds_toArray, List.set_cons_zero, List.set_cons_succ]
             rfl
            refine two_ (i := 6) (j := 14) (Ni := some 13) (Nj := some 5) (ba 18 40959) (ba 18 57279) rfl rfl rfl rfl (two_of HT_.out (by kernel_rfl)) (by decide) (by decide) (fun K hK => ?_) (fun K hK => ?_)
            ·skip
             refine gC Tryd.func24 #[.int .i64 a0_0, .int .i64 a1_1] ?_
             with_reducible refine (curves_of.calls k a0_0 a1_1 t170 t171 _ A3.out).mono ?_
             rintro e w12 ⟨rfl, hb⟩
             refine ⟨_, rfl, ?_⟩
             replace BK167 := kB BK167 hb
             replace BK168 := kB BK168 hb
             replace BK169 := kB BK169 hb
             replace BK175 := kB BK175 hb
             replace HB := kH _ hb
             (try clear hb)
             (try clear hb2)
             (try clear hk)
             (try clear hi)
             refine hK.out _ _ ⟨bc BK167 0, bc BK167 1, bc BK168 0, bc BK168 1⟩ (fun hHeld => ?_)
             clear hK K
             refine norm_ (a' := ?_) ?_ ?_
             rotate_left
             ·show Act.put _ (some 13) _ = _
              simp only [Act.put, List.setIfInBounds_toArray, List.set_cons_zero, List.set_cons_succ, i64_w, i32_w]
              rfl
             exact norm_ (by first | (simp only [putAll, Act.put, List.setIfInBounds_toArray, List.set_cons_zero, List.set_cons_succ]; done) | (simp only [putAll, Act.put, List.setIfInBounds_toArray, List.set_cons_zero, List.set_cons_succ]; rfl)) (hJ6_15 (gb175) _ ⟨hHeld, (bkC BK167), (bkC BK168), (bkC BK169), (bkC BK175), GW175.out, GE175.out, NB167_175.out, NB175_167.out, NB168_175.out, NB175_168.out, NB169_175.out, NB175_169.out, (hbC _)⟩)
            ·skip
             refine box_step ?hg (N := 5) ?hd (cs := #[.int .i64 0, .int .i64 0]) (t := 49) ?hr ?_; (case hd => rfl); (case hg => rfl); (case hr => first | (go_simp; done) | (go_simp; rfl))
             intro gb174 hg w12 hbox hb
             have BK174 := ak (hbox)
             have GW174 := kG w hg
             have GE174 := kG w hg
             replace HB := kH _ hb
             have NB167_174 := kL BK167 hg
             have NB174_167 := kR BK167 hg
             replace BK167 := kB BK167 hb
             have NB168_174 := kL BK168 hg
             have NB174_168 := kR BK168 hg
             replace BK168 := kB BK168 hb
             have NB169_174 := kL BK169 hg
             have NB174_169 := kR BK169 hg
             replace BK169 := kB BK169 hb
             have NB175_174 := kL BK175 hg
             have NB174_175 := kR BK175 hg
             replace BK175 := kB BK175 hb
             clear hb hbox hg
             refine hK.out _ _ ⟨bc BK167 0, bc BK167 1, bc BK168 0, bc BK168 1⟩ (fun hHeld => ?_)
             clear hK K
             refine norm_ (a' := ?_) ?_ ?_
             rotate_left
             ·show Act.put _ (some 5) _ = _
              simp only [Act.put, List.setIfInBounds_toArray, List.set_cons_zero, List.set_cons_succ, i64_w, i32_w]
              rfl
             exact norm_ (by first | (simp only [putAll, Act.put, List.setIfInBounds_toArray, List.set_cons_zero, List.set_cons_succ]; done) | (simp only [putAll, Act.put, List.setIfInBounds_toArray, List.set_cons_zero, List.set_cons_succ]; rfl)) (hJ14_15 (gb174, gb175) _ ⟨hHeld, (bkC BK167), (bkC BK168), (bkC BK169), (bkC BK174), (bkC BK175), GW174.out, GE174.out, NB167_174.out, NB174_167.out, NB168_174.out, NB174_168.out, NB169_174.out, NB174_169.out, NB175_174.out, NB174_175.out, GW175.out, GE175.out, NB167_175.out, NB175_167.out, NB168_175.out, NB175_168.out, NB169_175.out, NB175_169.out, (hbC _)⟩)
          ·skip
           rintro gb174 w11 ⟨hS_, h0_, h1_, h2_, h3_, h4_, h5_, h6_, h7_, h8_, h9_, h10_, h11_, h12_⟩
           have n0_ : Aside0 (w11.heap[gb167]? = some (.cells #[.int .i64 a0_0, .int .i64 a0_1] 49 (0, 0))) := ⟨h0_⟩
           have n1_ : Aside0 (w11.heap[gb168]? = some (.cells #[.int .i64 a1_0, .int .i64 a1_1] 49 (0, 0))) := ⟨h1_⟩
           have n2_ : Aside0 (w11.heap[gb169]? = some (.cells #[.int .i64 0, .int .i64 0] 49 (0, 0))) := ⟨h2_⟩
           have n3_ : Aside0 (w11.heap[gb174]? = some (.cells #[.int .i64 0, .int .i64 0] 49 (0, 0))) := ⟨h3_⟩
           have n4_ : Aside0 (w.heap.size ≤ gb174) := ⟨h4_⟩
           have n5_ : Aside0 (w.heap.size ≤ gb174) := ⟨h5_⟩
           have n6_ : Aside0 (gb167 ≠ gb174) := ⟨h6_⟩
           have n7_ : Aside0 (gb174 ≠ gb167) := ⟨h7_⟩
           have n8_ : Aside0 (gb168 ≠ gb174) := ⟨h8_⟩
           have n9_ : Aside0 (gb174 ≠ gb168) := ⟨h9_⟩
           have n10_ : Aside0 (gb169 ≠ gb174) := ⟨h10_⟩
           have n11_ : Aside0 (gb174 ≠ gb169) := ⟨h11_⟩
           have n12_ : Aside0 (Below w.heap.size w w11) := ⟨h12_⟩
           clear BK167
           clear BK168
           clear BK169
           clear HB
           clear h0_ h1_ h2_ h3_ h4_ h5_ h6_ h7_ h8_ h9_ h10_ h11_ h12_
           have BK167 := n0_
           have BK168 := n1_
           have BK169 := n2_
           have BK174 := n3_
           have GW174 := n4_
           have GE174 := n5_
           have NB167_174 := n6_
           have NB174_167 := n7_
           have NB168_174 := n8_
           have NB174_168 := n9_
           have NB169_174 := n10_
           have NB174_169 := n11_
           have HB := n12_
           clear n0_ n1_ n2_ n3_ n4_ n5_ n6_ n7_ n8_ n9_ n10_ n11_ n12_
           have hHeld : w11.cell? ⟨gb167, 0, none⟩ = some (.int .i64 a0_0) ∧ w11.cell? ⟨gb167, 1, none⟩ = some (.int .i64 a0_1) ∧ w11.cell? ⟨gb168, 0, none⟩ = some (.int .i64 a1_0) ∧ w11.cell? ⟨gb168, 1, none⟩ = some (.int .i64 a1_1) := hS_
           refine norm_ (a' := ?_) ?_ ?_
           rotate_left
           ·simp only [putAll, Act.put, List.setIfInBounds_toArray, List.set_cons_zero, List.set_cons_succ]
            rfl
           refine two_ (i := 6) (j := 15) (Ni := some 13) (Nj := some 6) (ba 18 24575) (ba 18 57279) rfl rfl rfl rfl (two_of HT_.out (by kernel_rfl)) (by decide) (by decide) (fun K hK => ?_) (fun K hK => ?_)
           ·skip
            refine gC Tryd.func24 #[.int .i64 a0_0, .int .i64 a1_1] ?_
            with_reducible refine (curves_of.calls k a0_0 a1_1 t170 t171 _ A3.out).mono ?_
            rintro e w12 ⟨rfl, hb⟩
            refine ⟨_, rfl, ?_⟩
            replace BK167 := kB BK167 hb
            replace BK168 := kB BK168 hb
            replace BK169 := kB BK169 hb
            replace BK174 := kB BK174 hb
            replace HB := kH _ hb
            (try clear hb)
            (try clear hb2)
            (try clear hk)
            (try clear hi)
            refine hK.out _ _ ⟨bc BK167 0, bc BK167 1, bc BK168 0, bc BK168 1⟩ (fun hHeld => ?_)
            clear hK K
            refine norm_ (a' := ?_) ?_ ?_
            rotate_left
            ·show Act.put _ (some 13) _ = _
             simp only [Act.put, List.setIfInBounds_toArray, List.set_cons_zero, List.set_cons_succ, i64_w, i32_w]
             rfl
            exact norm_ (by first | (simp only [putAll, Act.put, List.setIfInBounds_toArray, List.set_cons_zero, List.set_cons_succ]; done) | (simp only [putAll, Act.put, List.setIfInBounds_toArray, List.set_cons_zero, List.set_cons_succ]; rfl)) (hJ6_14 (gb174) _ ⟨hHeld, (bkC BK167), (bkC BK168), (bkC BK169), (bkC BK174), GW174.out, GE174.out, NB167_174.out, NB174_167.out, NB168_174.out, NB174_168.out, NB169_174.out, NB174_169.out, (hbC _)⟩)
           ·skip
            refine box_step ?hg (N := 6) ?hd (cs := #[.int .i64 0, .int .i64 0]) (t := 49) ?hr ?_; (case hd => rfl); (case hg => rfl); (case hr => first | (go_simp; done) | (go_simp; rfl))
            intro gb175 hg w12 hbox hb
            have BK175 := ak (hbox)
            have GW175 := kG w hg
            have GE175 := kG w hg
            replace HB := kH _ hb
            have NB167_175 := kL BK167 hg
            have NB175_167 := kR BK167 hg
            replace BK167 := kB BK167 hb
            have NB168_175 := kL BK168 hg
            have NB175_168 := kR BK168 hg
            replace BK168 := kB BK168 hb
            have NB169_175 := kL BK169 hg
            have NB175_169 := kR BK169 hg
            replace BK169 := kB BK169 hb
            have NB174_175 := kL BK174 hg
            have NB175_174 := kR BK174 hg
            replace BK174 := kB BK174 hb
            clear hb hbox hg
            refine hK.out _ _ ⟨bc BK167 0, bc BK167 1, bc BK168 0, bc BK168 1⟩ (fun hHeld => ?_)
            clear hK K
            refine norm_ (a' := ?_) ?_ ?_
            rotate_left
            ·show Act.put _ (some 6) _ = _
             simp only [Act.put, List.setIfInBounds_toArray, List.set_cons_zero, List.set_cons_succ, i64_w, i32_w]
             rfl
            exact norm_ (by first | (simp only [putAll, Act.put, List.setIfInBounds_toArray, List.set_cons_zero, List.set_cons_succ]; done) | (simp only [putAll, Act.put, List.setIfInBounds_toArray, List.set_cons_zero, List.set_cons_succ]; rfl)) (hJ14_15 (gb174, gb175) _ ⟨hHeld, (bkC BK167), (bkC BK168), (bkC BK169), (bkC BK174), (bkC BK175), GW174.out, GE174.out, NB167_174.out, NB174_167.out, NB168_174.out, NB174_168.out, NB169_174.out, NB174_169.out, NB175_174.out, NB174_175.out, GW175.out, GE175.out, NB167_175.out, NB175_167.out, NB168_175.out, NB175_168.out, NB169_175.out, NB175_169.out, (hbC _)⟩)
         ·skip
          rintro _ w11 ⟨hS_, h0_, h1_, h2_, h3_⟩
          have n0_ : Aside0 (w11.heap[gb167]? = some (.cells #[.int .i64 a0_0, .int .i64 a0_1] 49 (0, 0))) := ⟨h0_⟩
          have n1_ : Aside0 (w11.heap[gb168]? = some (.cells #[.int .i64 a1_0, .int .i64 a1_1] 49 (0, 0))) := ⟨h1_⟩
          have n2_ : Aside0 (w11.heap[gb169]? = some (.cells #[.int .i64 0, .int .i64 0] 49 (0, 0))) := ⟨h2_⟩
          have n3_ : Aside0 (Below w.heap.size w w11) := ⟨h3_⟩
          clear BK167
          clear BK168
          clear BK169
          clear HB
          clear h0_ h1_ h2_ h3_
          have BK167 := n0_
          have BK168 := n1_
          have BK169 := n2_
          have HB := n3_
          clear n0_ n1_ n2_ n3_
          have hHeld : w11.cell? ⟨gb167, 0, none⟩ = some (.int .i64 a0_0) ∧ w11.cell? ⟨gb167, 1, none⟩ = some (.int .i64 a0_1) ∧ w11.cell? ⟨gb168, 0, none⟩ = some (.int .i64 a1_0) ∧ w11.cell? ⟨gb168, 1, none⟩ = some (.int .i64 a1_1) := hS_
          refine norm_ (a' := ?_) ?_ ?_
          rotate_left
          ·simp only [putAll, Act.put, List.setIfInBounds_toArray, List.set_cons_zero, List.set_cons_succ]
           rfl
          refine three_ (i := 13) (j := 14) (k := 15) (Ni := some 20) (Nj := some 5) (Nk := some 6) (ba 18 16383) (ba 18 24575) (ba 18 40959) rfl rfl rfl rfl rfl rfl (three_of HT_.out (by kernel_rfl)) (by decide) (by decide) (by decide) (fun K hK => ?_) (fun K hK => ?_) (fun K hK => ?_)
          ·skip
           refine gC Tryd.func24 #[.int .i64 a1_0, .int .i64 a0_1] ?_
           with_reducible refine (curves_of.calls k a1_0 a0_1 t172 t173 _ A4.out).mono ?_
           rintro e w12 ⟨rfl, hb⟩
           refine ⟨_, rfl, ?_⟩
           replace BK167 := kB BK167 hb
           replace BK168 := kB BK168 hb
           replace BK169 := kB BK169 hb
           replace HB := kH _ hb
           (try clear hb)
           (try clear hb2)
           (try clear hk)
           (try clear hi)
           refine hK.out _ _ ⟨bc BK167 0, bc BK167 1, bc BK168 0, bc BK168 1⟩ (fun hHeld => ?_)
           clear hK K
           refine norm_ (a' := ?_) ?_ ?_
           rotate_left
           ·show Act.put _ (some 20) _ = _
            simp only [Act.put, List.setIfInBounds_toArray, List.set_cons_zero, List.set_cons_succ, i64_w, i32_w]
            rfl
           exact norm_ (by first | (simp only [putAll, Act.put, List.setIfInBounds_toArray, List.set_cons_zero, List.set_cons_succ]; done) | (simp only [putAll, Act.put, List.setIfInBounds_toArray, List.set_cons_zero, List.set_cons_succ]; rfl)) (hJ6_13 () _ ⟨hHeld, (bkC BK167), (bkC BK168), (bkC BK169), (hbC _)⟩)
          ·skip
           refine box_step ?hg (N := 5) ?hd (cs := #[.int .i64 0, .int .i64 0]) (t := 49) ?hr ?_; (case hd => rfl); (case hg => rfl); (case hr => first | (go_simp; done) | (go_simp; rfl))
           intro gb174 hg w12 hbox hb
           have BK174 := ak (hbox)
           have GW174 := kG w hg
           have GE174 := kG w hg
           replace HB := kH _ hb
           have NB167_174 := kL BK167 hg
           have NB174_167 := kR BK167 hg
           replace BK167 := kB BK167 hb
           have NB168_174 := kL BK168 hg
           have NB174_168 := kR BK168 hg
           replace BK168 := kB BK168 hb
           have NB169_174 := kL BK169 hg
           have NB174_169 := kR BK169 hg
           replace BK169 := kB BK169 hb
           clear hb hbox hg
           refine hK.out _ _ ⟨bc BK167 0, bc BK167 1, bc BK168 0, bc BK168 1⟩ (fun hHeld => ?_)
           clear hK K
           refine norm_ (a' := ?_) ?_ ?_
           rotate_left
           ·show Act.put _ (some 5) _ = _
            simp only [Act.put, List.setIfInBounds_toArray, List.set_cons_zero, List.set_cons_succ, i64_w, i32_w]
            rfl
           exact norm_ (by first | (simp only [putAll, Act.put, List.setIfInBounds_toArray, List.set_cons_zero, List.set_cons_succ]; done) | (simp only [putAll, Act.put, List.setIfInBounds_toArray, List.set_cons_zero, List.set_cons_succ]; rfl)) (hJ6_14 (gb174) _ ⟨hHeld, (bkC BK167), (bkC BK168), (bkC BK169), (bkC BK174), GW174.out, GE174.out, NB167_174.out, NB174_167.out, NB168_174.out, NB174_168.out, NB169_174.out, NB174_169.out, (hbC _)⟩)
          ·skip
           refine box_step ?hg (N := 6) ?hd (cs := #[.int .i64 0, .int .i64 0]) (t := 49) ?hr ?_; (case hd => rfl); (case hg => rfl); (case hr => first | (go_simp; done) | (go_simp; rfl))
           intro gb175 hg w12 hbox hb
           have BK175 := ak (hbox)
           have GW175 := kG w hg
           have GE175 := kG w hg
           replace HB := kH _ hb
           have NB167_175 := kL BK167 hg
           have NB175_167 := kR BK167 hg
           replace BK167 := kB BK167 hb
           have NB168_175 := kL BK168 hg
           have NB175_168 := kR BK168 hg
           replace BK168 := kB BK168 hb
           have NB169_175 := kL BK169 hg
           have NB175_169 := kR BK169 hg
           replace BK169 := kB BK169 hb
           clear hb hbox hg
           refine hK.out _ _ ⟨bc BK167 0, bc BK167 1, bc BK168 0, bc BK168 1⟩ (fun hHeld => ?_)
           clear hK K
           refine norm_ (a' := ?_) ?_ ?_
           rotate_left
           ·show Act.put _ (some 6) _ = _
            simp only [Act.put, List.setIfInBounds_toArray, List.set_cons_zero, List.set_cons_succ, i64_w, i32_w]
            rfl
           exact norm_ (by first | (simp only [putAll, Act.put, List.setIfInBounds_toArray, List.set_cons_zero, List.set_cons_succ]; done) | (simp only [putAll, Act.put, List.setIfInBounds_toArray, List.set_cons_zero, List.set_cons_succ]; rfl)) (hJ6_15 (gb175) _ ⟨hHeld, (bkC BK167), (bkC BK168), (bkC BK169), (bkC BK175), GW175.out, GE175.out, NB167_175.out, NB175_167.out, NB168_175.out, NB175_168.out, NB169_175.out, NB175_169.out, (hbC _)⟩)
        ·skip
         rintro ⟨gb174, gb175⟩ w12 ⟨hS_, h0_, h1_, h2_, h3_, h4_, h5_, h6_, h7_, h8_, h9_, h10_, h11_, h12_, h13_, h14_, h15_, h16_, h17_, h18_, h19_, h20_, h21_, h22_, h23_⟩
         have n0_ : Aside0 (w12.heap[gb167]? = some (.cells #[.int .i64 a0_0, .int .i64 a0_1] 49 (0, 0))) := ⟨h0_⟩
         have n1_ : Aside0 (w12.heap[gb168]? = some (.cells #[.int .i64 a1_0, .int .i64 a1_1] 49 (0, 0))) := ⟨h1_⟩
         have n2_ : Aside0 (w12.heap[gb169]? = some (.cells #[.int .i64 0, .int .i64 0] 49 (0, 0))) := ⟨h2_⟩
         have n3_ : Aside0 (w12.heap[gb174]? = some (.cells #[.int .i64 0, .int .i64 0] 49 (0, 0))) := ⟨h3_⟩
         have n4_ : Aside0 (w12.heap[gb175]? = some (.cells #[.int .i64 0, .int .i64 0] 49 (0, 0))) := ⟨h4_⟩
         have n5_ : Aside0 (w.heap.size ≤ gb174) := ⟨h5_⟩
         have n6_ : Aside0 (w.heap.size ≤ gb174) := ⟨h6_⟩
         have n7_ : Aside0 (gb167 ≠ gb174) := ⟨h7_⟩
         have n8_ : Aside0 (gb174 ≠ gb167) := ⟨h8_⟩
         have n9_ : Aside0 (gb168 ≠ gb174) := ⟨h9_⟩
         have n10_ : Aside0 (gb174 ≠ gb168) := ⟨h10_⟩
         have n11_ : Aside0 (gb169 ≠ gb174) := ⟨h11_⟩
         have n12_ : Aside0 (gb174 ≠ gb169) := ⟨h12_⟩
         have n13_ : Aside0 (gb175 ≠ gb174) := ⟨h13_⟩
         have n14_ : Aside0 (gb174 ≠ gb175) := ⟨h14_⟩
         have n15_ : Aside0 (w.heap.size ≤ gb175) := ⟨h15_⟩
         have n16_ : Aside0 (w.heap.size ≤ gb175) := ⟨h16_⟩
         have n17_ : Aside0 (gb167 ≠ gb175) := ⟨h17_⟩
         have n18_ : Aside0 (gb175 ≠ gb167) := ⟨h18_⟩
         have n19_ : Aside0 (gb168 ≠ gb175) := ⟨h19_⟩
         have n20_ : Aside0 (gb175 ≠ gb168) := ⟨h20_⟩
         have n21_ : Aside0 (gb169 ≠ gb175) := ⟨h21_⟩
         have n22_ : Aside0 (gb175 ≠ gb169) := ⟨h22_⟩
         have n23_ : Aside0 (Below w.heap.size w w12) := ⟨h23_⟩
         clear BK167
         clear BK168
         clear BK169
         clear HB
         clear h0_ h1_ h2_ h3_ h4_ h5_ h6_ h7_ h8_ h9_ h10_ h11_ h12_ h13_ h14_ h15_ h16_ h17_ h18_ h19_ h20_ h21_ h22_ h23_
         have BK167 := n0_
         have BK168 := n1_
         have BK169 := n2_
         have BK174 := n3_
         have BK175 := n4_
         have GW174 := n5_
         have GE174 := n6_
         have NB167_174 := n7_
         have NB174_167 := n8_
         have NB168_174 := n9_
         have NB174_168 := n10_
         have NB169_174 := n11_
         have NB174_169 := n12_
         have NB175_174 := n13_
         have NB174_175 := n14_
         have GW175 := n15_
         have GE175 := n16_
         have NB167_175 := n17_
         have NB175_167 := n18_
         have NB168_175 := n19_
         have NB175_168 := n20_
         have NB169_175 := n21_
         have NB175_169 := n22_
         have HB := n23_
         clear n0_ n1_ n2_ n3_ n4_ n5_ n6_ n7_ n8_ n9_ n10_ n11_ n12_ n13_ n14_ n15_ n16_ n17_ n18_ n19_ n20_ n21_ n22_ n23_
         have hHeld : w12.cell? ⟨gb167, 0, none⟩ = some (.int .i64 a0_0) ∧ w12.cell? ⟨gb167, 1, none⟩ = some (.int .i64 a0_1) ∧ w12.cell? ⟨gb168, 0, none⟩ = some (.int .i64 a1_0) ∧ w12.cell? ⟨gb168, 1, none⟩ = some (.int .i64 a1_1) := hS_
         refine norm_ (a' := ?_) ?_ ?_
         rotate_left
         ·simp only [putAll, Act.put, List.setIfInBounds_toArray, List.set_cons_zero, List.set_cons_succ]
          rfl
         refine one_ (i := 6) (N := some 13) (ba 18 57343) rfl rfl (one_of HT_.out (by kernel_rfl)) (by decide) (fun K hK => ?_)
         refine gC Tryd.func24 #[.int .i64 a0_0, .int .i64 a1_1] ?_
         with_reducible refine (curves_of.calls k a0_0 a1_1 t170 t171 _ A3.out).mono ?_
         rintro e w13 ⟨rfl, hb⟩
         refine ⟨_, rfl, ?_⟩
         replace BK167 := kB BK167 hb
         replace BK168 := kB BK168 hb
         replace BK169 := kB BK169 hb
         replace BK174 := kB BK174 hb
         replace BK175 := kB BK175 hb
         replace HB := kH _ hb
         (try clear hb)
         (try clear hb2)
         (try clear hk)
         (try clear hi)
         refine hK.out _ _ ⟨bc BK167 0, bc BK167 1, bc BK168 0, bc BK168 1⟩ (fun hHeld => ?_)
         clear hK K
         refine norm_ (a' := ?_) ?_ ?_
         rotate_left
         ·show Act.put _ (some 13) _ = _
          simp only [Act.put, List.setIfInBounds_toArray, List.set_cons_zero, List.set_cons_succ, i64_w, i32_w]
          rfl
         exact norm_ (by first | (simp only [putAll, Act.put, List.setIfInBounds_toArray, List.set_cons_zero, List.set_cons_succ]; done) | (simp only [putAll, Act.put, List.setIfInBounds_toArray, List.set_cons_zero, List.set_cons_succ]; rfl)) (hJ6_14_15 (gb174, gb175) _ ⟨hHeld, (bkC BK167), (bkC BK168), (bkC BK169), (bkC BK174), (bkC BK175), GW174.out, GE174.out, NB167_174.out, NB174_167.out, NB168_174.out, NB174_168.out, NB169_174.out, NB174_169.out, NB175_174.out, NB174_175.out, GW175.out, GE175.out, NB167_175.out, NB175_167.out, NB168_175.out, NB175_168.out, NB169_175.out, NB175_169.out, (hbC _)⟩)
       ·skip
        rintro gb175 w12 ⟨hS_, h0_, h1_, h2_, h3_, h4_, h5_, h6_, h7_, h8_, h9_, h10_, h11_, h12_⟩
        have n0_ : Aside0 (w12.heap[gb167]? = some (.cells #[.int .i64 a0_0, .int .i64 a0_1] 49 (0, 0))) := ⟨h0_⟩
        have n1_ : Aside0 (w12.heap[gb168]? = some (.cells #[.int .i64 a1_0, .int .i64 a1_1] 49 (0, 0))) := ⟨h1_⟩
        have n2_ : Aside0 (w12.heap[gb169]? = some (.cells #[.int .i64 0, .int .i64 0] 49 (0, 0))) := ⟨h2_⟩
        have n3_ : Aside0 (w12.heap[gb175]? = some (.cells #[.int .i64 0, .int .i64 0] 49 (0, 0))) := ⟨h3_⟩
        have n4_ : Aside0 (w.heap.size ≤ gb175) := ⟨h4_⟩
        have n5_ : Aside0 (w.heap.size ≤ gb175) := ⟨h5_⟩
        have n6_ : Aside0 (gb167 ≠ gb175) := ⟨h6_⟩
        have n7_ : Aside0 (gb175 ≠ gb167) := ⟨h7_⟩
        have n8_ : Aside0 (gb168 ≠ gb175) := ⟨h8_⟩
        have n9_ : Aside0 (gb175 ≠ gb168) := ⟨h9_⟩
        have n10_ : Aside0 (gb169 ≠ gb175) := ⟨h10_⟩
        have n11_ : Aside0 (gb175 ≠ gb169) := ⟨h11_⟩
        have n12_ : Aside0 (Below w.heap.size w w12) := ⟨h12_⟩
        clear BK167
        clear BK168
        clear BK169
        clear HB
        clear h0_ h1_ h2_ h3_ h4_ h5_ h6_ h7_ h8_ h9_ h10_ h11_ h12_
        have BK167 := n0_
        have BK168 := n1_
        have BK169 := n2_
        have BK175 := n3_
        have GW175 := n4_
        have GE175 := n5_
        have NB167_175 := n6_
        have NB175_167 := n7_
        have NB168_175 := n8_
        have NB175_168 := n9_
        have NB169_175 := n10_
        have NB175_169 := n11_
        have HB := n12_
        clear n0_ n1_ n2_ n3_ n4_ n5_ n6_ n7_ n8_ n9_ n10_ n11_ n12_
        have hHeld : w12.cell? ⟨gb167, 0, none⟩ = some (.int .i64 a0_0) ∧ w12.cell? ⟨gb167, 1, none⟩ = some (.int .i64 a0_1) ∧ w12.cell? ⟨gb168, 0, none⟩ = some (.int .i64 a1_0) ∧ w12.cell? ⟨gb168, 1, none⟩ = some (.int .i64 a1_1) := hS_
        refine norm_ (a' := ?_) ?_ ?_
        rotate_left
        ·simp only [putAll, Act.put, List.setIfInBounds_toArray, List.set_cons_zero, List.set_cons_succ]
         rfl
        refine two_ (i := 13) (j := 14) (Ni := some 20) (Nj := some 5) (ba 18 49151) (ba 18 57343) rfl rfl rfl rfl (two_of HT_.out (by kernel_rfl)) (by decide) (by decide) (fun K hK => ?_) (fun K hK => ?_)
        ·skip
         refine gC Tryd.func24 #[.int .i64 a1_0, .int .i64 a0_1] ?_
         with_reducible refine (curves_of.calls k a1_0 a0_1 t172 t173 _ A4.out).mono ?_
         rintro e w13 ⟨rfl, hb⟩
         refine ⟨_, rfl, ?_⟩
         replace BK167 := kB BK167 hb
         replace BK168 := kB BK168 hb
         replace BK169 := kB BK169 hb
         replace BK175 := kB BK175 hb
         replace HB := kH _ hb
         (try clear hb)
         (try clear hb2)
         (try clear hk)
         (try clear hi)
         refine hK.out _ _ ⟨bc BK167 0, bc BK167 1, bc BK168 0, bc BK168 1⟩ (fun hHeld => ?_)
         clear hK K
         refine norm_ (a' := ?_) ?_ ?_
         rotate_left
         ·show Act.put _ (some 20) _ = _
          simp only [Act.put, List.setIfInBounds_toArray, List.set_cons_zero, List.set_cons_succ, i64_w, i32_w]
          rfl
         exact norm_ (by first | (simp only [putAll, Act.put, List.setIfInBounds_toArray, List.set_cons_zero, List.set_cons_succ]; done) | (simp only [putAll, Act.put, List.setIfInBounds_toArray, List.set_cons_zero, List.set_cons_succ]; rfl)) (hJ6_13_15 (gb175) _ ⟨hHeld, (bkC BK167), (bkC BK168), (bkC BK169), (bkC BK175), GW175.out, GE175.out, NB167_175.out, NB175_167.out, NB168_175.out, NB175_168.out, NB169_175.out, NB175_169.out, (hbC _)⟩)
        ·skip
         refine box_step ?hg (N := 5) ?hd (cs := #[.int .i64 0, .int .i64 0]) (t := 49) ?hr ?_; (case hd => rfl); (case hg => rfl); (case hr => first | (go_simp; done) | (go_simp; rfl))
         intro gb174 hg w13 hbox hb
         have BK174 := ak (hbox)
         have GW174 := kG w hg
         have GE174 := kG w hg
         replace HB := kH _ hb
         have NB167_174 := kL BK167 hg
         have NB174_167 := kR BK167 hg
         replace BK167 := kB BK167 hb
         have NB168_174 := kL BK168 hg
         have NB174_168 := kR BK168 hg
         replace BK168 := kB BK168 hb
         have NB169_174 := kL BK169 hg
         have NB174_169 := kR BK169 hg
         replace BK169 := kB BK169 hb
         have NB175_174 := kL BK175 hg
         have NB174_175 := kR BK175 hg
         replace BK175 := kB BK175 hb
         clear hb hbox hg
         refine hK.out _ _ ⟨bc BK167 0, bc BK167 1, bc BK168 0, bc BK168 1⟩ (fun hHeld => ?_)
         clear hK K
         refine norm_ (a' := ?_) ?_ ?_
         rotate_left
         ·show Act.put _ (some 5) _ = _
          simp only [Act.put, List.setIfInBounds_toArray, List.set_cons_zero, List.set_cons_succ, i64_w, i32_w]
          rfl
         exact norm_ (by first | (simp only [putAll, Act.put, List.setIfInBounds_toArray, List.set_cons_zero, List.set_cons_succ]; done) | (simp only [putAll, Act.put, List.setIfInBounds_toArray, List.set_cons_zero, List.set_cons_succ]; rfl)) (hJ6_14_15 (gb174, gb175) _ ⟨hHeld, (bkC BK167), (bkC BK168), (bkC BK169), (bkC BK174), (bkC BK175), GW174.out, GE174.out, NB167_174.out, NB174_167.out, NB168_174.out, NB174_168.out, NB169_174.out, NB174_169.out, NB175_174.out, NB174_175.out, GW175.out, GE175.out, NB167_175.out, NB175_167.out, NB168_175.out, NB175_168.out, NB169_175.out, NB175_169.out, (hbC _)⟩)
      ·skip
       rintro gb174 w12 ⟨hS_, h0_, h1_, h2_, h3_, h4_, h5_, h6_, h7_, h8_, h9_, h10_, h11_, h12_⟩
       have n0_ : Aside0 (w12.heap[gb167]? = some (.cells #[.int .i64 a0_0, .int .i64 a0_1] 49 (0, 0))) := ⟨h0_⟩
       have n1_ : Aside0 (w12.heap[gb168]? = some (.cells #[.int .i64 a1_0, .int .i64 a1_1] 49 (0, 0))) := ⟨h1_⟩
       have n2_ : Aside0 (w12.heap[gb169]? = some (.cells #[.int .i64 0, .int .i64 0] 49 (0, 0))) := ⟨h2_⟩
       have n3_ : Aside0 (w12.heap[gb174]? = some (.cells #[.int .i64 0, .int .i64 0] 49 (0, 0))) := ⟨h3_⟩
       have n4_ : Aside0 (w.heap.size ≤ gb174) := ⟨h4_⟩
       have n5_ : Aside0 (w.heap.size ≤ gb174) := ⟨h5_⟩
       have n6_ : Aside0 (gb167 ≠ gb174) := ⟨h6_⟩
       have n7_ : Aside0 (gb174 ≠ gb167) := ⟨h7_⟩
       have n8_ : Aside0 (gb168 ≠ gb174) := ⟨h8_⟩
       have n9_ : Aside0 (gb174 ≠ gb168) := ⟨h9_⟩
       have n10_ : Aside0 (gb169 ≠ gb174) := ⟨h10_⟩
       have n11_ : Aside0 (gb174 ≠ gb169) := ⟨h11_⟩
       have n12_ : Aside0 (Below w.heap.size w w12) := ⟨h12_⟩
       clear BK167
       clear BK168
       clear BK169
       clear HB
       clear h0_ h1_ h2_ h3_ h4_ h5_ h6_ h7_ h8_ h9_ h10_ h11_ h12_
       have BK167 := n0_
       have BK168 := n1_
       have BK169 := n2_
       have BK174 := n3_
       have GW174 := n4_
       have GE174 := n5_
       have NB167_174 := n6_
       have NB174_167 := n7_
       have NB168_174 := n8_
       have NB174_168 := n9_
       have NB169_174 := n10_
       have NB174_169 := n11_
       have HB := n12_
       clear n0_ n1_ n2_ n3_ n4_ n5_ n6_ n7_ n8_ n9_ n10_ n11_ n12_
       have hHeld : w12.cell? ⟨gb167, 0, none⟩ = some (.int .i64 a0_0) ∧ w12.cell? ⟨gb167, 1, none⟩ = some (.int .i64 a0_1) ∧ w12.cell? ⟨gb168, 0, none⟩ = some (.int .i64 a1_0) ∧ w12.cell? ⟨gb168, 1, none⟩ = some (.int .i64 a1_1) := hS_
       refine norm_ (a' := ?_) ?_ ?_
       rotate_left
       ·simp only [putAll, Act.put, List.setIfInBounds_toArray, List.set_cons_zero, List.set_cons_succ]
        rfl
       refine two_ (i := 13) (j := 15) (Ni := some 20) (Nj := some 6) (ba 18 32767) (ba 18 57343) rfl rfl rfl rfl (two_of HT_.out (by kernel_rfl)) (by decide) (by decide) (fun K hK => ?_) (fun K hK => ?_)
       ·skip
        refine gC Tryd.func24 #[.int .i64 a1_0, .int .i64 a0_1] ?_
        with_reducible refine (curves_of.calls k a1_0 a0_1 t172 t173 _ A4.out).mono ?_
        rintro e w13 ⟨rfl, hb⟩
        refine ⟨_, rfl, ?_⟩
        replace BK167 := kB BK167 hb
        replace BK168 := kB BK168 hb
        replace BK169 := kB BK169 hb
        replace BK174 := kB BK174 hb
        replace HB := kH _ hb
        (try clear hb)
        (try clear hb2)
        (try clear hk)
        (try clear hi)
        refine hK.out _ _ ⟨bc BK167 0, bc BK167 1, bc BK168 0, bc BK168 1⟩ (fun hHeld => ?_)
        clear hK K
        refine norm_ (a' := ?_) ?_ ?_
        rotate_left
        ·show Act.put _ (some 20) _ = _
         simp only [Act.put, List.setIfInBounds_toArray, List.set_cons_zero, List.set_cons_succ, i64_w, i32_w]
         rfl
        exact norm_ (by first | (simp only [putAll, Act.put, List.setIfInBounds_toArray, List.set_cons_zero, List.set_cons_succ]; done) | (simp only [putAll, Act.put, List.setIfInBounds_toArray, List.set_cons_zero, List.set_cons_succ]; rfl)) (hJ6_13_14 (gb174) _ ⟨hHeld, (bkC BK167), (bkC BK168), (bkC BK169), (bkC BK174), GW174.out, GE174.out, NB167_174.out, NB174_167.out, NB168_174.out, NB174_168.out, NB169_174.out, NB174_169.out, (hbC _)⟩)
       ·skip
        refine box_step ?hg (N := 6) ?hd (cs := #[.int .i64 0, .int .i64 0]) (t := 49) ?hr ?_; (case hd => rfl); (case hg => rfl); (case hr => first | (go_simp; done) | (go_simp; rfl))
        intro gb175 hg w13 hbox hb
        have BK175 := ak (hbox)
        have GW175 := kG w hg
        have GE175 := kG w hg
        replace HB := kH _ hb
        have NB167_175 := kL BK167 hg
        have NB175_167 := kR BK167 hg
        replace BK167 := kB BK167 hb
        have NB168_175 := kL BK168 hg
        have NB175_168 := kR BK168 hg
        replace BK168 := kB BK168 hb
        have NB169_175 := kL BK169 hg
        have NB175_169 := kR BK169 hg
        replace BK169 := kB BK169 hb
        have NB174_175 := kL BK174 hg
        have NB175_174 := kR BK174 hg
        replace BK174 := kB BK174 hb
        clear hb hbox hg
        refine hK.out _ _ ⟨bc BK167 0, bc BK167 1, bc BK168 0, bc BK168 1⟩ (fun hHeld => ?_)
        clear hK K
        refine norm_ (a' := ?_) ?_ ?_
        rotate_left
        ·show Act.put _ (some 6) _ = _
         simp only [Act.put, List.setIfInBounds_toArray, List.set_cons_zero, List.set_cons_succ, i64_w, i32_w]
         rfl
        exact norm_ (by first | (simp only [putAll, Act.put, List.setIfInBounds_toArray, List.set_cons_zero, List.set_cons_succ]; done) | (simp only [putAll, Act.put, List.setIfInBounds_toArray, List.set_cons_zero, List.set_cons_succ]; rfl)) (hJ6_14_15 (gb174, gb175) _ ⟨hHeld, (bkC BK167), (bkC BK168), (bkC BK169), (bkC BK174), (bkC BK175), GW174.out, GE174.out, NB167_174.out, NB174_167.out, NB168_174.out, NB174_168.out, NB169_174.out, NB174_169.out, NB175_174.out, NB174_175.out, GW175.out, GE175.out, NB167_175.out, NB175_167.out, NB168_175.out, NB175_168.out, NB169_175.out, NB175_169.out, (hbC _)⟩)
     ·skip
      rintro _ w12 ⟨hS_, h0_, h1_, h2_, h3_⟩
      have n0_ : Aside0 (w12.heap[gb167]? = some (.cells #[.int .i64 a0_0, .int .i64 a0_1] 49 (0, 0))) := ⟨h0_⟩
      have n1_ : Aside0 (w12.heap[gb168]? = some (.cells #[.int .i64 a1_0, .int .i64 a1_1] 49 (0, 0))) := ⟨h1_⟩
      have n2_ : Aside0 (w12.heap[gb169]? = some (.cells #[.int .i64 0, .int .i64 0] 49 (0, 0))) := ⟨h2_⟩
      have n3_ : Aside0 (Below w.heap.size w w12) := ⟨h3_⟩
      clear BK167
      clear BK168
      clear BK169
      clear HB
      clear h0_ h1_ h2_ h3_
      have BK167 := n0_
      have BK168 := n1_
      have BK169 := n2_
      have HB := n3_
      clear n0_ n1_ n2_ n3_
      have hHeld : w12.cell? ⟨gb167, 0, none⟩ = some (.int .i64 a0_0) ∧ w12.cell? ⟨gb167, 1, none⟩ = some (.int .i64 a0_1) ∧ w12.cell? ⟨gb168, 0, none⟩ = some (.int .i64 a1_0) ∧ w12.cell? ⟨gb168, 1, none⟩ = some (.int .i64 a1_1) := hS_
      refine norm_ (a' := ?_) ?_ ?_
      rotate_left
      ·simp only [putAll, Act.put, List.setIfInBounds_toArray, List.set_cons_zero, List.set_cons_succ]
       rfl
      refine two_ (i := 14) (j := 15) (Ni := some 5) (Nj := some 6) (ba 18 32767) (ba 18 49151) rfl rfl rfl rfl (two_of HT_.out (by kernel_rfl)) (by decide) (by decide) (fun K hK => ?_) (fun K hK => ?_)
      ·skip
       refine box_step ?hg (N := 5) ?hd (cs := #[.int .i64 0, .int .i64 0]) (t := 49) ?hr ?_; (case hd => rfl); (case hg => rfl); (case hr => first | (go_simp; done) | (go_simp; rfl))
       intro gb174 hg w13 hbox hb
       have BK174 := ak (hbox)
       have GW174 := kG w hg
       have GE174 := kG w hg
       replace HB := kH _ hb
       have NB167_174 := kL BK167 hg
       have NB174_167 := kR BK167 hg
       replace BK167 := kB BK167 hb
       have NB168_174 := kL BK168 hg
       have NB174_168 := kR BK168 hg
       replace BK168 := kB BK168 hb
       have NB169_174 := kL BK169 hg
       have NB174_169 := kR BK169 hg
       replace BK169 := kB BK169 hb
       clear hb hbox hg
       refine hK.out _ _ ⟨bc BK167 0, bc BK167 1, bc BK168 0, bc BK168 1⟩ (fun hHeld => ?_)
       clear hK K
       refine norm_ (a' := ?_) ?_ ?_
       rotate_left
       ·show Act.put _ (some 5) _ = _
        simp only [Act.put, List.setIfInBounds_toArray, List.set_cons_zero, List.set_cons_succ, i64_w, i32_w]
        rfl
       exact norm_ (by first | (simp only [putAll, Act.put, List.setIfInBounds_toArray, List.set_cons_zero, List.set_cons_succ]; done) | (simp only [putAll, Act.put, List.setIfInBounds_toArray, List.set_cons_zero, List.set_cons_succ]; rfl)) (hJ6_13_14 (gb174) _ ⟨hHeld, (bkC BK167), (bkC BK168), (bkC BK169), (bkC BK174), GW174.out, GE174.out, NB167_174.out, NB174_167.out, NB168_174.out, NB174_168.out, NB169_174.out, NB174_169.out, (hbC _)⟩)
      ·skip
       refine box_step ?hg (N := 6) ?hd (cs := #[.int .i64 0, .int .i64 0]) (t := 49) ?hr ?_; (case hd => rfl); (case hg => rfl); (case hr => first | (go_simp; done) | (go_simp; rfl))
       intro gb175 hg w13 hbox hb
       have BK175 := ak (hbox)
       have GW175 := kG w hg
       have GE175 := kG w hg
       replace HB := kH _ hb
       have NB167_175 := kL BK167 hg
       have NB175_167 := kR BK167 hg
       replace BK167 := kB BK167 hb
       have NB168_175 := kL BK168 hg
       have NB175_168 := kR BK168 hg
       replace BK168 := kB BK168 hb
       have NB169_175 := kL BK169 hg
       have NB175_169 := kR BK169 hg
       replace BK169 := kB BK169 hb
       clear hb hbox hg
       refine hK.out _ _ ⟨bc BK167 0, bc BK167 1, bc BK168 0, bc BK168 1⟩ (fun hHeld => ?_)
       clear hK K
       refine norm_ (a' := ?_) ?_ ?_
       rotate_left
       ·show Act.put _ (some 6) _ = _
        simp only [Act.put, List.setIfInBounds_toArray, List.set_cons_zero, List.set_cons_succ, i64_w, i32_w]
        rfl
       exact norm_ (by first | (simp only [putAll, Act.put, List.setIfInBounds_toArray, List.set_cons_zero, List.set_cons_succ]; done) | (simp only [putAll, Act.put, List.setIfInBounds_toArray, List.set_cons_zero, List.set_cons_succ]; rfl)) (hJ6_13_15 (gb175) _ ⟨hHeld, (bkC BK167), (bkC BK168), (bkC BK169), (bkC BK175), GW175.out, GE175.out, NB167_175.out, NB175_167.out, NB168_175.out, NB175_168.out, NB169_175.out, NB175_169.out, (hbC _)⟩)
    ·skip
     rintro ⟨gb174, gb175⟩ w13 ⟨hS_, h0_, h1_, h2_, h3_, h4_, h5_, h6_, h7_, h8_, h9_, h10_, h11_, h12_, h13_, h14_, h15_, h16_, h17_, h18_, h19_, h20_, h21_, h22_, h23_⟩
     have n0_ : Aside0 (w13.heap[gb167]? = some (.cells #[.int .i64 a0_0, .int .i64 a0_1] 49 (0, 0))) := ⟨h0_⟩
     have n1_ : Aside0 (w13.heap[gb168]? = some (.cells #[.int .i64 a1_0, .int .i64 a1_1] 49 (0, 0))) := ⟨h1_⟩
     have n2_ : Aside0 (w13.heap[gb169]? = some (.cells #[.int .i64 0, .int .i64 0] 49 (0, 0))) := ⟨h2_⟩
     have n3_ : Aside0 (w13.heap[gb174]? = some (.cells #[.int .i64 0, .int .i64 0] 49 (0, 0))) := ⟨h3_⟩
     have n4_ : Aside0 (w13.heap[gb175]? = some (.cells #[.int .i64 0, .int .i64 0] 49 (0, 0))) := ⟨h4_⟩
     have n5_ : Aside0 (w.heap.size ≤ gb174) := ⟨h5_⟩
     have n6_ : Aside0 (w.heap.size ≤ gb174) := ⟨h6_⟩
     have n7_ : Aside0 (gb167 ≠ gb174) := ⟨h7_⟩
     have n8_ : Aside0 (gb174 ≠ gb167) := ⟨h8_⟩
     have n9_ : Aside0 (gb168 ≠ gb174) := ⟨h9_⟩
     have n10_ : Aside0 (gb174 ≠ gb168) := ⟨h10_⟩
     have n11_ : Aside0 (gb169 ≠ gb174) := ⟨h11_⟩
     have n12_ : Aside0 (gb174 ≠ gb169) := ⟨h12_⟩
     have n13_ : Aside0 (gb175 ≠ gb174) := ⟨h13_⟩
     have n14_ : Aside0 (gb174 ≠ gb175) := ⟨h14_⟩
     have n15_ : Aside0 (w.heap.size ≤ gb175) := ⟨h15_⟩
     have n16_ : Aside0 (w.heap.size ≤ gb175) := ⟨h16_⟩
     have n17_ : Aside0 (gb167 ≠ gb175) := ⟨h17_⟩
     have n18_ : Aside0 (gb175 ≠ gb167) := ⟨h18_⟩
     have n19_ : Aside0 (gb168 ≠ gb175) := ⟨h19_⟩
     have n20_ : Aside0 (gb175 ≠ gb168) := ⟨h20_⟩
     have n21_ : Aside0 (gb169 ≠ gb175) := ⟨h21_⟩
     have n22_ : Aside0 (gb175 ≠ gb169) := ⟨h22_⟩
     have n23_ : Aside0 (Below w.heap.size w w13) := ⟨h23_⟩
     clear BK167
     clear BK168
     clear BK169
     clear HB
     clear h0_ h1_ h2_ h3_ h4_ h5_ h6_ h7_ h8_ h9_ h10_ h11_ h12_ h13_ h14_ h15_ h16_ h17_ h18_ h19_ h20_ h21_ h22_ h23_
     have BK167 := n0_
     have BK168 := n1_
     have BK169 := n2_
     have BK174 := n3_
     have BK175 := n4_
     have GW174 := n5_
     have GE174 := n6_
     have NB167_174 := n7_
     have NB174_167 := n8_
     have NB168_174 := n9_
     have NB174_168 := n10_
     have NB169_174 := n11_
     have NB174_169 := n12_
     have NB175_174 := n13_
     have NB174_175 := n14_
     have GW175 := n15_
     have GE175 := n16_
     have NB167_175 := n17_
     have NB175_167 := n18_
     have NB168_175 := n19_
     have NB175_168 := n20_
     have NB169_175 := n21_
     have NB175_169 := n22_
     have HB := n23_
     clear n0_ n1_ n2_ n3_ n4_ n5_ n6_ n7_ n8_ n9_ n10_ n11_ n12_ n13_ n14_ n15_ n16_ n17_ n18_ n19_ n20_ n21_ n22_ n23_
     have hHeld : w13.cell? ⟨gb167, 0, none⟩ = some (.int .i64 a0_0) ∧ w13.cell? ⟨gb167, 1, none⟩ = some (.int .i64 a0_1) ∧ w13.cell? ⟨gb168, 0, none⟩ = some (.int .i64 a1_0) ∧ w13.cell? ⟨gb168, 1, none⟩ = some (.int .i64 a1_1) := hS_
     refine norm_ (a' := ?_) ?_ ?_
     rotate_left
     ·simp only [putAll, Act.put, List.setIfInBounds_toArray, List.set_cons_zero, List.set_cons_succ]
      rfl
     refine one_ (i := 13) (N := some 20) (ba 18 65535) rfl rfl (one_of HT_.out (by kernel_rfl)) (by decide) (fun K hK => ?_)
     refine gC Tryd.func24 #[.int .i64 a1_0, .int .i64 a0_1] ?_
     with_reducible refine (curves_of.calls k a1_0 a0_1 t172 t173 _ A4.out).mono ?_
     rintro e w14 ⟨rfl, hb⟩
     refine ⟨_, rfl, ?_⟩
     replace BK167 := kB BK167 hb
     replace BK168 := kB BK168 hb
     replace BK169 := kB BK169 hb
     replace BK174 := kB BK174 hb
     replace BK175 := kB BK175 hb
     replace HB := kH _ hb
     (try clear hb)
     (try clear hb2)
     (try clear hk)
     (try clear hi)
     refine hK.out _ _ ⟨bc BK167 0, bc BK167 1, bc BK168 0, bc BK168 1⟩ (fun hHeld => ?_)
     clear hK K
     refine norm_ (a' := ?_) ?_ ?_
     rotate_left
     ·show Act.put _ (some 20) _ = _
      simp only [Act.put, List.setIfInBounds_toArray, List.set_cons_zero, List.set_cons_succ, i64_w, i32_w]
      rfl
     exact norm_ (by first | (simp only [putAll, Act.put, List.setIfInBounds_toArray, List.set_cons_zero, List.set_cons_succ]; done) | (simp only [putAll, Act.put, List.setIfInBounds_toArray, List.set_cons_zero, List.set_cons_succ]; rfl)) (hJ6_13_14_15 (gb174, gb175) _ ⟨hHeld, (bkC BK167), (bkC BK168), (bkC BK169), (bkC BK174), (bkC BK175), GW174.out, GE174.out, NB167_174.out, NB174_167.out, NB168_174.out, NB174_168.out, NB169_174.out, NB174_169.out, NB175_174.out, NB174_175.out, GW175.out, GE175.out, NB167_175.out, NB175_167.out, NB168_175.out, NB175_168.out, NB169_175.out, NB175_169.out, (hbC _)⟩)
   ·skip
    rintro gb175 w13 ⟨hS_, h0_, h1_, h2_, h3_, h4_, h5_, h6_, h7_, h8_, h9_, h10_, h11_, h12_⟩
    have n0_ : Aside0 (w13.heap[gb167]? = some (.cells #[.int .i64 a0_0, .int .i64 a0_1] 49 (0, 0))) := ⟨h0_⟩
    have n1_ : Aside0 (w13.heap[gb168]? = some (.cells #[.int .i64 a1_0, .int .i64 a1_1] 49 (0, 0))) := ⟨h1_⟩
    have n2_ : Aside0 (w13.heap[gb169]? = some (.cells #[.int .i64 0, .int .i64 0] 49 (0, 0))) := ⟨h2_⟩
    have n3_ : Aside0 (w13.heap[gb175]? = some (.cells #[.int .i64 0, .int .i64 0] 49 (0, 0))) := ⟨h3_⟩
    have n4_ : Aside0 (w.heap.size ≤ gb175) := ⟨h4_⟩
    have n5_ : Aside0 (w.heap.size ≤ gb175) := ⟨h5_⟩
    have n6_ : Aside0 (gb167 ≠ gb175) := ⟨h6_⟩
    have n7_ : Aside0 (gb175 ≠ gb167) := ⟨h7_⟩
    have n8_ : Aside0 (gb168 ≠ gb175) := ⟨h8_⟩
    have n9_ : Aside0 (gb175 ≠ gb168) := ⟨h9_⟩
    have n10_ : Aside0 (gb169 ≠ gb175) := ⟨h10_⟩
    have n11_ : Aside0 (gb175 ≠ gb169) := ⟨h11_⟩
    have n12_ : Aside0 (Below w.heap.size w w13) := ⟨h12_⟩
    clear BK167
    clear BK168
    clear BK169
    clear HB
    clear h0_ h1_ h2_ h3_ h4_ h5_ h6_ h7_ h8_ h9_ h10_ h11_ h12_
    have BK167 := n0_
    have BK168 := n1_
    have BK169 := n2_
    have BK175 := n3_
    have GW175 := n4_
    have GE175 := n5_
    have NB167_175 := n6_
    have NB175_167 := n7_
    have NB168_175 := n8_
    have NB175_168 := n9_
    have NB169_175 := n10_
    have NB175_169 := n11_
    have HB := n12_
    clear n0_ n1_ n2_ n3_ n4_ n5_ n6_ n7_ n8_ n9_ n10_ n11_ n12_
    have hHeld : w13.cell? ⟨gb167, 0, none⟩ = some (.int .i64 a0_0) ∧ w13.cell? ⟨gb167, 1, none⟩ = some (.int .i64 a0_1) ∧ w13.cell? ⟨gb168, 0, none⟩ = some (.int .i64 a1_0) ∧ w13.cell? ⟨gb168, 1, none⟩ = some (.int .i64 a1_1) := hS_
    refine norm_ (a' := ?_) ?_ ?_
    rotate_left
    ·simp only [putAll, Act.put, List.setIfInBounds_toArray, List.set_cons_zero, List.set_cons_succ]
     rfl
    refine one_ (i := 14) (N := some 5) (ba 18 65535) rfl rfl (one_of HT_.out (by kernel_rfl)) (by decide) (fun K hK => ?_)
    refine box_step ?hg (N := 5) ?hd (cs := #[.int .i64 0, .int .i64 0]) (t := 49) ?hr ?_; (case hd => rfl); (case hg => rfl); (case hr => first | (go_simp; done) | (go_simp; rfl))
    intro gb174 hg w14 hbox hb
    have BK174 := ak (hbox)
    have GW174 := kG w hg
    have GE174 := kG w hg
    replace HB := kH _ hb
    have NB167_174 := kL BK167 hg
    have NB174_167 := kR BK167 hg
    replace BK167 := kB BK167 hb
    have NB168_174 := kL BK168 hg
    have NB174_168 := kR BK168 hg
    replace BK168 := kB BK168 hb
    have NB169_174 := kL BK169 hg
    have NB174_169 := kR BK169 hg
    replace BK169 := kB BK169 hb
    have NB175_174 := kL BK175 hg
    have NB174_175 := kR BK175 hg
    replace BK175 := kB BK175 hb
    clear hb hbox hg
    refine hK.out _ _ ⟨bc BK167 0, bc BK167 1, bc BK168 0, bc BK168 1⟩ (fun hHeld => ?_)
    clear hK K
    refine norm_ (a' := ?_) ?_ ?_
    rotate_left
    ·show Act.put _ (some 5) _ = _
     simp only [Act.put, List.setIfInBounds_toArray, List.set_cons_zero, List.set_cons_succ, i64_w, i32_w]
     rfl
    exact norm_ (by first | (simp only [putAll, Act.put, List.setIfInBounds_toArray, List.set_cons_zero, List.set_cons_succ]; done) | (simp only [putAll, Act.put, List.setIfInBounds_toArray, List.set_cons_zero, List.set_cons_succ]; rfl)) (hJ6_13_14_15 (gb174, gb175) _ ⟨hHeld, (bkC BK167), (bkC BK168), (bkC BK169), (bkC BK174), (bkC BK175), GW174.out, GE174.out, NB167_174.out, NB174_167.out, NB168_174.out, NB174_168.out, NB169_174.out, NB174_169.out, NB175_174.out, NB174_175.out, GW175.out, GE175.out, NB167_175.out, NB175_167.out, NB168_175.out, NB175_168.out, NB169_175.out, NB175_169.out, (hbC _)⟩)
  ·skip
   rintro gb174 w13 ⟨hS_, h0_, h1_, h2_, h3_, h4_, h5_, h6_, h7_, h8_, h9_, h10_, h11_, h12_⟩
   have n0_ : Aside0 (w13.heap[gb167]? = some (.cells #[.int .i64 a0_0, .int .i64 a0_1] 49 (0, 0))) := ⟨h0_⟩
   have n1_ : Aside0 (w13.heap[gb168]? = some (.cells #[.int .i64 a1_0, .int .i64 a1_1] 49 (0, 0))) := ⟨h1_⟩
   have n2_ : Aside0 (w13.heap[gb169]? = some (.cells #[.int .i64 0, .int .i64 0] 49 (0, 0))) := ⟨h2_⟩
   have n3_ : Aside0 (w13.heap[gb174]? = some (.cells #[.int .i64 0, .int .i64 0] 49 (0, 0))) := ⟨h3_⟩
   have n4_ : Aside0 (w.heap.size ≤ gb174) := ⟨h4_⟩
   have n5_ : Aside0 (w.heap.size ≤ gb174) := ⟨h5_⟩
   have n6_ : Aside0 (gb167 ≠ gb174) := ⟨h6_⟩
   have n7_ : Aside0 (gb174 ≠ gb167) := ⟨h7_⟩
   have n8_ : Aside0 (gb168 ≠ gb174) := ⟨h8_⟩
   have n9_ : Aside0 (gb174 ≠ gb168) := ⟨h9_⟩
   have n10_ : Aside0 (gb169 ≠ gb174) := ⟨h10_⟩
   have n11_ : Aside0 (gb174 ≠ gb169) := ⟨h11_⟩
   have n12_ : Aside0 (Below w.heap.size w w13) := ⟨h12_⟩
   clear BK167
   clear BK168
   clear BK169
   clear HB
   clear h0_ h1_ h2_ h3_ h4_ h5_ h6_ h7_ h8_ h9_ h10_ h11_ h12_
   have BK167 := n0_
   have BK168 := n1_
   have BK169 := n2_
   have BK174 := n3_
   have GW174 := n4_
   have GE174 := n5_
   have NB167_174 := n6_
   have NB174_167 := n7_
   have NB168_174 := n8_
   have NB174_168 := n9_
   have NB169_174 := n10_
   have NB174_169 := n11_
   have HB := n12_
   clear n0_ n1_ n2_ n3_ n4_ n5_ n6_ n7_ n8_ n9_ n10_ n11_ n12_
   have hHeld : w13.cell? ⟨gb167, 0, none⟩ = some (.int .i64 a0_0) ∧ w13.cell? ⟨gb167, 1, none⟩ = some (.int .i64 a0_1) ∧ w13.cell? ⟨gb168, 0, none⟩ = some (.int .i64 a1_0) ∧ w13.cell? ⟨gb168, 1, none⟩ = some (.int .i64 a1_1) := hS_
   refine norm_ (a' := ?_) ?_ ?_
   rotate_left
   ·simp only [putAll, Act.put, List.setIfInBounds_toArray, List.set_cons_zero, List.set_cons_succ]
    rfl
   refine one_ (i := 15) (N := some 6) (ba 18 65535) rfl rfl (one_of HT_.out (by kernel_rfl)) (by decide) (fun K hK => ?_)
   refine box_step ?hg (N := 6) ?hd (cs := #[.int .i64 0, .int .i64 0]) (t := 49) ?hr ?_; (case hd => rfl); (case hg => rfl); (case hr => first | (go_simp; done) | (go_simp; rfl))
   intro gb175 hg w14 hbox hb
   have BK175 := ak (hbox)
   have GW175 := kG w hg
   have GE175 := kG w hg
   replace HB := kH _ hb
   have NB167_175 := kL BK167 hg
   have NB175_167 := kR BK167 hg
   replace BK167 := kB BK167 hb
   have NB168_175 := kL BK168 hg
   have NB175_168 := kR BK168 hg
   replace BK168 := kB BK168 hb
   have NB169_175 := kL BK169 hg
   have NB175_169 := kR BK169 hg
   replace BK169 := kB BK169 hb
   have NB174_175 := kL BK174 hg
   have NB175_174 := kR BK174 hg
   replace BK174 := kB BK174 hb
   clear hb hbox hg
   refine hK.out _ _ ⟨bc BK167 0, bc BK167 1, bc BK168 0, bc BK168 1⟩ (fun hHeld => ?_)
   clear hK K
   refine norm_ (a' := ?_) ?_ ?_
   rotate_left
   ·show Act.put _ (some 6) _ = _
    simp only [Act.put, List.setIfInBounds_toArray, List.set_cons_zero, List.set_cons_succ, i64_w, i32_w]
    rfl
   exact norm_ (by first | (simp only [putAll, Act.put, List.setIfInBounds_toArray, List.set_cons_zero, List.set_cons_succ]; done) | (simp only [putAll, Act.put, List.setIfInBounds_toArray, List.set_cons_zero, List.set_cons_succ]; rfl)) (hJ6_13_14_15 (gb174, gb175) _ ⟨hHeld, (bkC BK167), (bkC BK168), (bkC BK169), (bkC BK174), (bkC BK175), GW174.out, GE174.out, NB167_174.out, NB174_167.out, NB168_174.out, NB174_168.out, NB169_174.out, NB174_169.out, NB175_174.out, NB174_175.out, GW175.out, GE175.out, NB167_175.out, NB175_167.out, NB168_175.out, NB175_168.out, NB169_175.out, NB175_169.out, (hbC _)⟩)
 rintro ⟨gb174, gb175⟩ w14 ⟨hS_, h0_, h1_, h2_, h3_, h4_, h5_, h6_, h7_, h8_, h9_, h10_, h11_, h12_, h13_, h14_, h15_, h16_, h17_, h18_, h19_, h20_, h21_, h22_, h23_⟩
 have n0_ : Aside0 (w14.heap[gb167]? = some (.cells #[.int .i64 a0_0, .int .i64 a0_1] 49 (0, 0))) := ⟨h0_⟩
 have n1_ : Aside0 (w14.heap[gb168]? = some (.cells #[.int .i64 a1_0, .int .i64 a1_1] 49 (0, 0))) := ⟨h1_⟩
 have n2_ : Aside0 (w14.heap[gb169]? = some (.cells #[.int .i64 0, .int .i64 0] 49 (0, 0))) := ⟨h2_⟩
 have n3_ : Aside0 (w14.heap[gb174]? = some (.cells #[.int .i64 0, .int .i64 0] 49 (0, 0))) := ⟨h3_⟩
 have n4_ : Aside0 (w14.heap[gb175]? = some (.cells #[.int .i64 0, .int .i64 0] 49 (0, 0))) := ⟨h4_⟩
 have n5_ : Aside0 (w.heap.size ≤ gb174) := ⟨h5_⟩
 have n6_ : Aside0 (w.heap.size ≤ gb174) := ⟨h6_⟩
 have n7_ : Aside0 (gb167 ≠ gb174) := ⟨h7_⟩
 have n8_ : Aside0 (gb174 ≠ gb167) := ⟨h8_⟩
 have n9_ : Aside0 (gb168 ≠ gb174) := ⟨h9_⟩
 have n10_ : Aside0 (gb174 ≠ gb168) := ⟨h10_⟩
 have n11_ : Aside0 (gb169 ≠ gb174) := ⟨h11_⟩
 have n12_ : Aside0 (gb174 ≠ gb169) := ⟨h12_⟩
 have n13_ : Aside0 (gb175 ≠ gb174) := ⟨h13_⟩
 have n14_ : Aside0 (gb174 ≠ gb175) := ⟨h14_⟩
 have n15_ : Aside0 (w.heap.size ≤ gb175) := ⟨h15_⟩
 have n16_ : Aside0 (w.heap.size ≤ gb175) := ⟨h16_⟩
 have n17_ : Aside0 (gb167 ≠ gb175) := ⟨h17_⟩
 have n18_ : Aside0 (gb175 ≠ gb167) := ⟨h18_⟩
 have n19_ : Aside0 (gb168 ≠ gb175) := ⟨h19_⟩
 have n20_ : Aside0 (gb175 ≠ gb168) := ⟨h20_⟩
 have n21_ : Aside0 (gb169 ≠ gb175) := ⟨h21_⟩
 have n22_ : Aside0 (gb175 ≠ gb169) := ⟨h22_⟩
 have n23_ : Aside0 (Below w.heap.size w w14) := ⟨h23_⟩
 clear BK167
 clear BK168
 clear BK169
 clear HB
 clear h0_ h1_ h2_ h3_ h4_ h5_ h6_ h7_ h8_ h9_ h10_ h11_ h12_ h13_ h14_ h15_ h16_ h17_ h18_ h19_ h20_ h21_ h22_ h23_
 have BK167 := n0_
 have BK168 := n1_
 have BK169 := n2_
 have BK174 := n3_
 have BK175 := n4_
 have GW174 := n5_
 have GE174 := n6_
 have NB167_174 := n7_
 have NB174_167 := n8_
 have NB168_174 := n9_
 have NB174_168 := n10_
 have NB169_174 := n11_
 have NB174_169 := n12_
 have NB175_174 := n13_
 have NB174_175 := n14_
 have GW175 := n15_
 have GE175 := n16_
 have NB167_175 := n17_
 have NB175_167 := n18_
 have NB168_175 := n19_
 have NB175_168 := n20_
 have NB169_175 := n21_
 have NB175_169 := n22_
 have HB := n23_
 clear n0_ n1_ n2_ n3_ n4_ n5_ n6_ n7_ n8_ n9_ n10_ n11_ n12_ n13_ n14_ n15_ n16_ n17_ n18_ n19_ n20_ n21_ n22_ n23_
 have hHeld : w14.cell? ⟨gb167, 0, none⟩ = some (.int .i64 a0_0) ∧ w14.cell? ⟨gb167, 1, none⟩ = some (.int .i64 a0_1) ∧ w14.cell? ⟨gb168, 0, none⟩ = some (.int .i64 a1_0) ∧ w14.cell? ⟨gb168, 1, none⟩ = some (.int .i64 a1_1) := hS_
 refine norm_ (a' := ?_) ?_ ?_
 rotate_left
 ·simp only [putAll, Act.put, List.setIfInBounds_toArray, List.set_cons_zero, List.set_cons_succ]
  rfl
 refine one_ (i := 16) (N := none) (ba 18 131071) rfl rfl (one_of HT_.out (by kernel_rfl)) (by decide) (fun K hK => ?_)
 have hs15 : w14.cell? ⟨gb174, 0, none⟩ = some (.int .i64 0) := bc BK174 0
 have hfs15 := fz BK174 0
 have hns15_0 := NB167_174.out
 have hns15_1 := NB168_174.out
 have hns15_2 := NB169_174.out
 have hns15_4 := NB175_174.out
 have hms15_0 := NB174_167.out
 have hms15_1 := NB174_168.out
 have hms15_2 := NB174_169.out
 have hms15_4 := NB174_175.out
 have hs16 : w14.cell? ⟨gb174, 1, none⟩ = some (.int .i64 0) := bc BK174 1
 have hfs16 := fz BK174 1
 have hns16_0 := NB167_174.out
 have hns16_1 := NB168_174.out
 have hns16_2 := NB169_174.out
 have hns16_4 := NB175_174.out
 have hms16_0 := NB174_167.out
 have hms16_1 := NB174_168.out
 have hms16_2 := NB174_169.out
 have hms16_4 := NB174_175.out
 refine skip_ (w1 := ?_) (by rfl) rfl ?_ ?_
 rotate_left
 ·go_simp
  rfl
 refine hK.out _ _ ⟨((cell_far (p := ⟨gb174, _, none⟩) NB167_174.out _).trans (((cell_far (p := ⟨gb174, _, none⟩) NB167_174.out _).trans (hHeld.1)))), ((cell_far (p := ⟨gb174, _, none⟩) NB167_174.out _).trans (((cell_far (p := ⟨gb174, _, none⟩) NB167_174.out _).trans (hHeld.2.1)))), ((cell_far (p := ⟨gb174, _, none⟩) NB168_174.out _).trans (((cell_far (p := ⟨gb174, _, none⟩) NB168_174.out _).trans (hHeld.2.2.1)))), ((cell_far (p := ⟨gb174, _, none⟩) NB168_174.out _).trans (((cell_far (p := ⟨gb174, _, none⟩) NB168_174.out _).trans (hHeld.2.2.2))))⟩ (fun hHeld => ?_)
 clear hK K
 refine one_ (i := 17) (N := none) (ba 18 262143) rfl rfl (one_of HT_.out (by kernel_rfl)) (by decide) (fun K hK => ?_)
 have hs17 : w14.cell? ⟨gb175, 0, none⟩ = some (.int .i64 0) := bc BK175 0
 have hfs17 := fz BK175 0
 have hns17_0 := NB167_175.out
 have hns17_1 := NB168_175.out
 have hns17_2 := NB169_175.out
 have hns17_3 := NB174_175.out
 have hms17_0 := NB175_167.out
 have hms17_1 := NB175_168.out
 have hms17_2 := NB175_169.out
 have hms17_3 := NB175_174.out
 have hs18 : w14.cell? ⟨gb175, 1, none⟩ = some (.int .i64 0) := bc BK175 1
 have hfs18 := fz BK175 1
 have hns18_0 := NB167_175.out
 have hns18_1 := NB168_175.out
 have hns18_2 := NB169_175.out
 have hns18_3 := NB174_175.out
 have hms18_0 := NB175_167.out
 have hms18_1 := NB175_168.out
 have hms18_2 := NB175_169.out
 have hms18_3 := NB175_174.out
 refine skip_ (w1 := ?_) (by rfl) rfl ?_ ?_
 rotate_left
 ·go_simp
  rfl
 refine hK.out _ _ ⟨((cell_far (p := ⟨gb175, _, none⟩) NB167_175.out _).trans (((cell_far (p := ⟨gb175, _, none⟩) NB167_175.out _).trans (hHeld.1)))), ((cell_far (p := ⟨gb175, _, none⟩) NB167_175.out _).trans (((cell_far (p := ⟨gb175, _, none⟩) NB167_175.out _).trans (hHeld.2.1)))), ((cell_far (p := ⟨gb175, _, none⟩) NB168_175.out _).trans (((cell_far (p := ⟨gb175, _, none⟩) NB168_175.out _).trans (hHeld.2.2.1)))), ((cell_far (p := ⟨gb175, _, none⟩) NB168_175.out _).trans (((cell_far (p := ⟨gb175, _, none⟩) NB168_175.out _).trans (hHeld.2.2.2))))⟩ (fun hHeld => ?_)
 clear hK K
 refine done_ (done_of HT_.out (by kernel_rfl)) ?_
 have hnb19 := NB174_167.out
 have hnc19 := NB167_174.out
 have hnb20 := NB174_168.out
 have hnc20 := NB168_174.out
 have hnb21 := NB174_169.out
 have hnc21 := NB169_174.out
 have hnb22 := NB174_175.out
 have hnc22 := NB175_174.out
 have hcz23_0 : w14.cell? ⟨gb174, 0, none⟩ = some (.int .i64 0) := bc BK174 0
 have hcz23_1 : w14.cell? ⟨gb174, 1, none⟩ = some (.int .i64 0) := bc BK174 1
 have hfz23_0 := fz BK174 0
 have hfz23_1 := fz BK174 1
 have hnb24 := NB175_167.out
 have hnc24 := NB167_175.out
 have hnb25 := NB175_168.out
 have hnc25 := NB168_175.out
 have hnb26 := NB175_169.out
 have hnc26 := NB169_175.out
 have hcz27_0 : w14.cell? ⟨gb175, 0, none⟩ = some (.int .i64 0) := bc BK175 0
 have hcz27_1 : w14.cell? ⟨gb175, 1, none⟩ = some (.int .i64 0) := bc BK175 1
 have hfz27_0 := fz BK175 0
 have hfz27_1 := fz BK175 1
 try go_wp2_with (first | ((with_reducible refine gate_callee (f := 24) rfl ?_); refine gL 35 Tryd.func24 #[.int .i64 (wrap64 (t170 * t172)), .int .i64 (wrap64 (t171 * t173))] ?_; (with_reducible refine (curves_of.calls k (wrap64 (t170 * t172)) (wrap64 (t171 * t173)) t176 t177 _ A5.out).mono ?_); rintro e w28 ⟨rfl, hb⟩; refine ⟨_, rfl, ?_⟩; replace BK167 := ak (blk_below (g := gb167) (o := .cells #[.int .i64 a0_0, .int .i64 a0_1] 49 (0, 0)) (bF BK167) hb); replace BK168 := ak (blk_below (g := gb168) (o := .cells #[.int .i64 a1_0, .int .i64 a1_1] 49 (0, 0)) (bF BK168) hb); replace BK169 := ak (blk_below (g := gb169) (o := .cells #[.int .i64 0, .int .i64 0] 49 (0, 0)) (bF BK169) hb); replace BK174 := ak (blk_below (g := gb174) (o := .cells #[.int .i64 t170, .int .i64 t171] 49 (0, 0)) (by (with_reducible repeat (first | refine blk_drewN ?_ _ | refine blk_drew ?_ | refine blk_alloc ?_ _)); refine blk_far ?_ NB174_175.out _; (with_reducible repeat (first | refine blk_drewN ?_ _ | refine blk_drew ?_ | refine blk_alloc ?_ _)); refine blk_far ?_ NB174_175.out _; (with_reducible repeat (first | refine blk_drewN ?_ _ | refine blk_drew ?_ | refine blk_alloc ?_ _)); refine blk_put (cs := #[.int .i64 t170, .int .i64 0]) ?_ 1 _ rfl; (with_reducible repeat (first | refine blk_drewN ?_ _ | refine blk_drew ?_ | refine blk_alloc ?_ _)); refine blk_put (cs := #[.int .i64 0, .int .i64 0]) ?_ 0 _ rfl; (with_reducible repeat (first | refine blk_drewN ?_ _ | refine blk_drew ?_ | refine blk_alloc ?_ _)); exact BK174.out) hb); replace BK175 := ak (blk_below (g := gb175) (o := .cells #[.int .i64 t172, .int .i64 t173] 49 (0, 0)) (by (with_reducible repeat (first | refine blk_drewN ?_ _ | refine blk_drew ?_ | refine blk_alloc ?_ _)); refine blk_put (cs := #[.int .i64 t172, .int .i64 0]) ?_ 1 _ rfl; (with_reducible repeat (first | refine blk_drewN ?_ _ | refine blk_drew ?_ | refine blk_alloc ?_ _)); refine blk_put (cs := #[.int .i64 0, .int .i64 0]) ?_ 0 _ rfl; (with_reducible repeat (first | refine blk_drewN ?_ _ | refine blk_drew ?_ | refine blk_alloc ?_ _)); refine blk_far ?_ NB175_174.out _; (with_reducible repeat (first | refine blk_drewN ?_ _ | refine blk_drew ?_ | refine blk_alloc ?_ _)); refine blk_far ?_ NB175_174.out _; (with_reducible repeat (first | refine blk_drewN ?_ _ | refine blk_drew ?_ | refine blk_alloc ?_ _)); exact BK175.out) hb); replace HB := kH _ hb; (try clear hb); (try clear hb2); (try clear hk); (try clear hi); have hnb29 := NB169_167.out; have hnc29 := NB167_169.out; have hnb30 := NB169_168.out; have hnc30 := NB168_169.out; have hcz31_0 : w28.cell? ⟨gb169, 0, none⟩ = some (.int .i64 0) := bc BK169 0; have hcz31_1 : w28.cell? ⟨gb169, 1, none⟩ = some (.int .i64 0) := bc BK169 1; have hfz31_0 := fz BK169 0; have hfz31_1 := fz BK169 1))
 refine bodyPost_ret (results_cell_row rfl _ _ gb169 49 #[.int .i64 t176, .int .i64 t177] (0, 0) _ rfl (by (with_reducible repeat (first | refine blk_drewN ?_ _ | refine blk_drew ?_ | refine blk_alloc ?_ _)); refine blk_put (cs := #[.int .i64 t176, .int .i64 0]) ?_ 1 _ rfl; (with_reducible repeat (first | refine blk_drewN ?_ _ | refine blk_drew ?_ | refine blk_alloc ?_ _)); refine blk_put (cs := #[.int .i64 0, .int .i64 0]) ?_ 0 _ rfl; (with_reducible repeat (first | refine blk_drewN ?_ _ | refine blk_drew ?_ | refine blk_alloc ?_ _)); exact BK169.out) Tryd.underlying49 rfl (by kernel_rfl)) rfl ?_
 exact ⟨by first | rfl | (simp [errW_none, errW_some] <;> rfl) | (simp [*, errW_none, errW_some] <;> rfl), hbC _⟩

end Go.Proofs.YtpnocmkpeogifaaDoor.X
