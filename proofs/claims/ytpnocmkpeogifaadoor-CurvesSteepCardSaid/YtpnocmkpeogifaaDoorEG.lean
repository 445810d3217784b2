/- The package's variable 'one', at each moment of a call. -/
import Derived.Test.YtpnocmkpeogifaaDoorX0
namespace Go.Proofs.YtpnocmkpeogifaaDoor.X
open Go.RowKit
/-- its two numbers are 1 -/
structure GL (w : World) : Prop where
  num : w.cell? ⟨0, 0, none⟩ = some (.int .i64 1)
  den : w.cell? ⟨0, 1, none⟩ = some (.int .i64 1)
theorem GL.pos {w : World} (h : GL w) : 0 < w.heap.size := by
  refine Classical.byContradiction fun hn => ?_
  have := h.num
  unfold World.cell? at this
  rw [Array.getElem?_eq_none (by omega)] at this
  exact absurd this (by simp)
theorem GL.below {w W : World} (h : GL w) (hb : Below w.heap.size w W) : W.cell? ⟨0, 0, none⟩ = some (.int .i64 1) ∧ W.cell? ⟨0, 1, none⟩ = some (.int .i64 1) := by
  have e := hb.block 0 h.pos
  have h1 := h.num; have h2 := h.den
  unfold World.cell? at *
  dsimp only at *
  rw [e]
  exact ⟨h1, h2⟩
theorem GL.ne {w : World} (h : GL w) {g : Nat} (hg : w.heap.size ≤ g) : g ≠ 0 := by
  have := h.pos; omega
end Go.Proofs.YtpnocmkpeogifaaDoor.X
