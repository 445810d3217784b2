/- SketchTables: Table returns the table of a stream, or the documented error. -/
import Derived.Test.YtdffhffhnjkcpaaXf7
import Derived.Test.YtdffhffhnjkcpaaS4
namespace Go.Proofs.Ytdffhffhnjkcpaa.Pure
set_option linter.unusedVariables false
set_option linter.unusedSimpArgs false
open Go.RowKit Go.Proofs.Ytdffhffhnjkcpaa.X Go.Proofs.YtdffhffhnjkcpaaW.PrintWords Go.Proofs.YtdffhffhnjkcpaaW.PrintLast

theorem SketchTables : congoulaw03_SketchTables.Pure := by
  intro a0 a1 l2 _ _ _ h2 _
  have hlen : l2.length ≤ 17592186044416 := by omega
  refine ⟨4 * l2.length + 100, ?_⟩
  unfold congoulaw03_SketchTables.f
  rw [list_f l2 hlen]
  simp only [Option.bind_some]
  rw [Table_f a0 a1 _ _ (by rw [List.length_take]; omega)]
  simp only [Option.bind_some, streamB_take, Size_f]
  rw [Stream_f l2 hlen _ (by omega)]
  cases hz : sizeB a0 a1 with
  | false => simp [congoulaw03_SketchTables.j0, awake_f]
  | true =>
    cases hs : streamB l2 with
    | false => simp [congoulaw03_SketchTables.j0, awake_f]
    | true =>
      have h : 1 ≤ a0 ∧ a0 ≤ 4 ∧ 1 ≤ a1 ∧ a1 ≤ 8 := by simpa [sizeB] using hz
      rw [take_of_stream l2 hs]
      have hr := RTable_f a0 a1 l2 hz hs (4 * l2.length + 99) (by omega)
      have he := equal_f (tabC a1 l2 a0.toNat) (tabC a1 l2 a0.toNat) 9 (tabC_rows a1 l2 _ h.2.2.2) (by omega) (by rw [tabC_len]; omega) (4 * l2.length + 99) (by rw [tabC_len]; omega)
      simp [congoulaw03_SketchTables.j0, awake_f, hr, he]
end Go.Proofs.Ytdffhffhnjkcpaa.Pure
