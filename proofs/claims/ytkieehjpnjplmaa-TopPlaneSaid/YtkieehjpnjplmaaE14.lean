/- The walk of TopPlane's comparison of two triples: number by number. -/
import Derived.Test.YtkieehjpnjplmaaXG3a
import Derived.Lib.Hide
import Derived.Deep.QuietTactic
import Derived.BigQuiet
namespace Go.Proofs.Ytkieehjpnjplmaa
open Go Go.Proofs Go.RowKit Go.Proofs.Ytkieehjpnjplmaa.X Go.Proofs.YtkieehjpnjplmaaW.PrintWords Go.Proofs.YtkieehjpnjplmaaW.PrintLast Go.Proofs.YtkieehjpnjplmaaW.PrintMore
set_option linter.unusedVariables false
set_option linter.unusedSimpArgs false
/-- two triples compared -/
def cmp3 (x y : S39) : Int := if x.f0 < y.f0 then -1 else if y.f0 < x.f0 then 1 else if x.f1 < y.f1 then -1 else if y.f1 < x.f1 then 1 else if x.f2 < y.f2 then -1 else if y.f2 < x.f2 then 1 else 0
theorem nan_f (a : Int) : cmp_isNaN_int.f a = some false := by simp [cmp_isNaN_int.f]
theorem cmp_f (a b : Int) : cmp_Compare_int.f a b = some (if a < b then -1 else if b < a then 1 else 0) := by
  unfold cmp_Compare_int.f
  rw [nan_f, nan_f, Option.bind_some, Option.bind_some, if_neg (by decide), if_neg (by decide)]
  split
  · rfl
  · simp only [gt_iff_lt]
    split <;> rfl
theorem compare_f (x y : S39) (k : Nat) (hk : 4 ≤ k) : slices_Compare_int_int.f k [x.f0, x.f1, x.f2] [y.f0, y.f1, y.f2] = some (cmp3 x y) := by
  obtain ⟨k, rfl⟩ : ∃ m, k = m + 4 := ⟨k - 4, by omega⟩
  simp only [slices_Compare_int_int.f, slices_Compare_int_int.l0, cmp_f, List.length_cons, List.length_nil, Option.bind_some, wrap64, Go.Proofs.YtkieehjpnjplmaaW.PrintWords.rd, cmp3]
  simp
  repeat' split
  all_goals first | rfl | omega | (simp_all; done) | (simp_all; omega)
/-- three cells as a row -/
theorem C3_cells {w : World} {ad : Addr} {a b c : Int} (c0 : w.cell? (ad.add 0) = some (.int .i64 a)) (c1 : w.cell? (ad.add 1) = some (.int .i64 b)) (c2 : w.cell? (ad.add 2) = some (.int .i64 c)) : Kd.C (Kd.int .i64) w (some ad) 3 [a, b, c] := by
  refine Kd.C_of_reads (d := (0 : Int)) (h1 := fun _ => rfl) ⟨rfl, by omega, fun _ => ⟨ad, rfl, fun j hj => ?_⟩⟩
  have h3 : j = 0 ∨ j = 1 ∨ j = 2 := by omega
  rcases h3 with rfl | rfl | rfl
  · exact c0
  · exact c1
  · exact c2
theorem C3_box {w : World} {g : Nat} {a b c : Int} {t : TypeId} (h : w.heap[g]? = some (.cells #[.int .i64 a, .int .i64 b, .int .i64 c] t (0, 0))) : Kd.C (Kd.int .i64) w (some ⟨g, 0, none⟩) 3 [a, b, c] :=
  C3_cells ((blk_cell h 0).trans rfl) ((blk_cell h 1).trans rfl) ((blk_cell h 2).trans rfl)
set_option maxHeartbeats 4000000 in
theorem cmp14_calls (x y : S39) (w : World) : Calls Try.prog 14 #[.agg #[.int .i64 x.f0, .int .i64 x.f1, .int .i64 x.f2], .agg #[.int .i64 y.f0, .int .i64 y.f1, .int .i64 y.f2]] w fun e w' => e = .returned (.int .i64 (cmp3 x y)) ∧
    ∃ q, w' = ((w.alloc (.cells #[.int .i64 x.f0, .int .i64 x.f1, .int .i64 x.f2] 39)).alloc (.cells #[.int .i64 y.f0, .int .i64 y.f1, .int .i64 y.f2] 39)).drewN q := by
  have hX : ∀ q, ((((w.alloc (.cells #[.int .i64 x.f0, .int .i64 x.f1, .int .i64 x.f2] 39)).alloc (.cells #[.int .i64 y.f0, .int .i64 y.f1, .int .i64 y.f2] 39)).drewN q).heap[w.heap.size]? = some (.cells #[.int .i64 x.f0, .int .i64 x.f1, .int .i64 x.f2] 39 (0, 0))) := fun q => blk_drewN (blk_alloc (heap_alloc_new w _) _) q
  have hY : ∀ q, ((((w.alloc (.cells #[.int .i64 x.f0, .int .i64 x.f1, .int .i64 x.f2] 39)).alloc (.cells #[.int .i64 y.f0, .int .i64 y.f1, .int .i64 y.f2] 39)).drewN q).heap[w.heap.size + 1]? = some (.cells #[.int .i64 y.f0, .int .i64 y.f1, .int .i64 y.f2] 39 (0, 0))) := fun q => blk_drewN (by have h9 := heap_alloc_new (w.alloc (.cells #[.int .i64 x.f0, .int .i64 x.f1, .int .i64 x.f2] 39)) (.cells #[.int .i64 y.f0, .int .i64 y.f1, .int .i64 y.f2] 39); rw [World.size_alloc] at h9; exact h9) q
  have HC := Aside0.mk (fun q => slices_Compare_int_int.calls 10 (some ⟨w.heap.size, 0, none⟩) 3 [x.f0, x.f1, x.f2] (some ⟨w.heap.size + 1, 0, none⟩) 3 [y.f0, y.f1, y.f2] (cmp3 x y) _ (C3_box (hX q)) (Nat.le_refl _) (C3_box (hY q)) (Nat.le_refl _) (compare_f x y 10 (by omega)))
  have HC2 : Aside0 (∀ q, Calls Try.prog 15 #[.slice (some ⟨w.heap.size, 0, none⟩) 3 3, .slice (some ⟨w.heap.size + 1, 0, none⟩) 3 3] (((w.alloc (.cells #[.int .i64 x.f0, .int .i64 x.f1, .int .i64 x.f2] 39)).alloc (.cells #[.int .i64 y.f0, .int .i64 y.f1, .int .i64 y.f2] 39)).drewN q) fun e w' => e = .returned (.int .i64 (cmp3 x y)) ∧ ∃ m, w' = (((w.alloc (.cells #[.int .i64 x.f0, .int .i64 x.f1, .int .i64 x.f2] 39)).alloc (.cells #[.int .i64 y.f0, .int .i64 y.f1, .int .i64 y.f2] 39)).drewN q).drewN m) := ⟨fun q => (HC.out q).mono fun e w' h9 => by obtain ⟨he, m, hm⟩ := h9; exact ⟨he, m, hm⟩⟩
  generalize cmp3 x y = r at *
  clear hX hY HC
  go_enter Try.func14, Try.ntmps14
  go_wp2
  go_quiet (first | (go_at_call 15; refine Calls.quiet_of (HC2.out _)))
  go_wp2
  go_ret
  exact ⟨rfl, _, rfl⟩
end Go.Proofs.Ytkieehjpnjplmaa
