/- SketchKeeps: Keep returns what dice keep of a stream, or the documented error. -/
import Derived.Test.YtdffhffhnjkcpaaXf5
import Derived.Test.YtdffhffhnjkcpaaS3
namespace Go.Proofs.Ytdffhffhnjkcpaa.Pure
set_option linter.unusedVariables false
set_option linter.unusedSimpArgs false
open Go.RowKit Go.Proofs.Ytdffhffhnjkcpaa.X Go.Proofs.YtdffhffhnjkcpaaW.PrintWords Go.Proofs.YtdffhffhnjkcpaaW.PrintLast

theorem SketchKeeps : congoulaw03_SketchKeeps.Pure := by
  intro a0 l1 l2 _ _ h1 _ _ h2 _
  have hlen : l1.length ≤ 17592186044416 := by omega
  have hlen2 : l2.length ≤ 17592186044416 := by omega
  refine ⟨l1.length + l2.length + 100, ?_⟩
  unfold congoulaw03_SketchKeeps.f
  rw [list_f l1 hlen, list_f l2 hlen2]
  simp only [Option.bind_some]
  rw [Keep_f a0 _ _ (by rw [List.length_take]; omega) _ (by rw [List.length_take, List.length_take]; omega)]
  simp only [Option.bind_some, Counters_f, streamB_take]
  rw [Stream_f l1 hlen _ (by omega)]
  cases hk : kB a0 with
  | false => simp [congoulaw03_SketchKeeps.j0, awake_f]
  | true =>
    cases hs : streamB l1 with
    | false => simp [congoulaw03_SketchKeeps.j0, awake_f]
    | true =>
      have hl := ((streamB_iff l1).mp hs).1
      rw [take_of_stream l1 hs, diceB_take l1 l2 hl]
      rw [Dice_f l1 l2 hlen2 _ (by omega)]
      cases hd : diceB l1 l2 with
      | false => simp [congoulaw03_SketchKeeps.j0, awake_f]
      | true =>
        obtain ⟨h3, _⟩ := (diceB_iff l1 l2).mp hd
        rw [List.take_of_length_le (show l2.length ≤ 45 by omega)]
        have ha : 1 ≤ a0 ∧ a0 ≤ 8 := by simpa [kB] using hk
        have hlk := keepU_len a0 l2 l1 ha.1 l1.length
        have hr := RKeep_f a0 l1 l2 hk hs hd (l1.length + l2.length + 99) (by omega)
        have he := Equal_f (keepU a0 l2 l1 l1.length) (keepU a0 l2 l1 l1.length) (by split at hlk <;> omega) (l1.length + l2.length + 99) (by split at hlk <;> omega)
        simp [congoulaw03_SketchKeeps.j0, awake_f, hr, he]
end Go.Proofs.Ytdffhffhnjkcpaa.Pure
