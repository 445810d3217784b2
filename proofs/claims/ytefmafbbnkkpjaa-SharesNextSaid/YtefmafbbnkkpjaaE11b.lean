/- SharesNext returns true, whatever the slice. -/
import Derived.Test.YtefmafbbnkkpjaaE11
namespace Go.Proofs.Ytefmafbbnkkpjaa.X
open Go.Proofs.Ytefmafbbnkkpjaa.Pure Go.RowKit Go.Shelf Go.Proofs.YtefmafbbnkkpjaaW.PrintWords Go.Proofs.YtefmafbbnkkpjaaW.PrintLast Go.Proofs.YtefmafbbnkkpjaaW.PrintMore
theorem congoulaw01_SharesNext.walk (a0 : Option Addr) (len0 cap0 : Nat) (z0 : List Int) (w : World) (w0 : (a0 = none ∧ len0 = 0 ∧ cap0 = 0 ∧ z0 = []) ∨ ∃ x, a0 = some x ∧ len0 ≤ cap0 ∧ cap0 ≤ maxLen ∧ z0.length = cap0 ∧ (∀ i, i < z0.length → w.cell? (x.add i) = some (.int .i64 (z0.getD i 0))) ∧ ∀ n ∈ z0, (Lit.int .i64 n).wf = true) (y0 : len0 * 8 ≤ 140737488351232) :
    Calls Try.prog 11 #[.slice a0 len0 cap0] w fun e w' => e = .returned (.bool true) ∧ Below w.heap.size w w' := by
  obtain ⟨l0, rfl, hr0, hm0, hw0, hc0⟩ := ReadsInt.ofRowC w0
  have hC := Kd.C_of_reads (d := (0 : Int)) (h1 := fun _ => rfl) hr0
  by_cases hP : Pa l0
  · exact next_good _ _ l0 w hC hc0 hP
  · exact next_bad _ _ l0 w (by omega) hC hc0 hP
end Go.Proofs.Ytefmafbbnkkpjaa.X
