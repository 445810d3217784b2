/- The walk of slices.Sort at numbers: the slice's own numbers, in rising order. -/
import Derived.Test.YtkieehjpnjplmaaX0
import Derived.Test.YtkieehjpnjplmaaL2
import Derived.Lib.SlKeysI
namespace Go.Proofs.Ytkieehjpnjplmaa.X
open Go.RowKit Go.Lib Go.Proofs.YtkieehjpnjplmaaW.PrintWords Go.Proofs.YtkieehjpnjplmaaW.PrintLast Go.Proofs.YtkieehjpnjplmaaW.PrintMore
set_option linter.unusedVariables false
set_option linter.unusedSimpArgs false
def rise (l : List Int) : List Int := l.mergeSort fun x y => decide (x ≤ y)
def xSort.f (l : List Int) : Option (List Int) := if l ≠ [] ∧ l.length < 1000000 then some (rise l) else none
set_option maxHeartbeats 2000000 in
theorem xSort.calls (P0_ : Nat → Prop) (u9000_ : Value) (l0 : List Int) (r : List Int) (w0 w : World) (hB : Below w0.heap.size w0 w) (ho0 : Kd.R (Kd.int .i64) 3 w w0.heap.size P0_ u9000_ l0) (h : xSort.f l0 = some r) :
    Calls Try.prog 11 #[u9000_] w fun e w' => e = .returned (.tuple #[]) ∧ Kd.R (Kd.int .i64) 3 w' w0.heap.size (fun k_ => (P0_ k_ ∨ w.heap.size ≤ k_)) u9000_ r ∧ Below w0.heap.size w0 w' ∧ Kept w w' (fun k_ => P0_ k_) := by
  unfold xSort.f at h
  have hg : (l0 ≠ [] ∧ l0.length < 1000000) ∧ r = rise l0 := by
    split at h
    · rename_i hh
      exact ⟨hh, (Option.some.inj h).symm⟩
    · cases h
  obtain ⟨⟨h0, h12⟩, rfl⟩ := hg
  clear h
  have hrow := Kd.own_of_R ho0
  have hok := ho0.1
  rcases hrow.2 with ⟨rfl, hz⟩ | ⟨gb, cap, cur, rfl, hbase, hgb, r1, r2, r3, r4⟩
  · exact absurd (List.length_eq_zero_iff.mp hz) h0
  · have hH : Sort.Holds (Value.int .i64) w gb 0 l0.toArray := holds_of_block_i hgb (by simpa [encs] using r4)
    have hs := Any.slices_Sort_int Try.vsortI gb 0 cap l0 w hH (Array.getElem?_eq_some_iff.1 hgb).1 (by omega)
    change Calls Try.prog 11 _ _ _ at hs
    refine hs.mono ?_
    rintro e w' ⟨rfl, nn, os, rfl⟩
    refine ⟨rfl, ?_, hB.grown (grownBy_sorted_i _) hB.size (fun j hj => by cases hj; exact hbase), Kept.of_grown (grownBy_sorted_i _) (Kept.refl _ _) (fun k hk => by cases hk; exact .inl (hok gb rfl))⟩
    have hl : (rise l0).length = l0.length := by simp [rise]
    refine Kd.R_of_own ?_ (fun k hk => .inl (hok k hk))
    rw [hl]
    exact ownsRow_sorted_i hl hbase hgb r1 r2 r3
end Go.Proofs.Ytkieehjpnjplmaa.X
