/- SketchLists: Short and Full return the lists of a stream, or the documented error. -/
import Derived.Test.YtdffhffhnjkcpaaXf14
import Derived.Test.YtdffhffhnjkcpaaS13
import Derived.Test.YtdffhffhnjkcpaaS2
namespace Go.Proofs.Ytdffhffhnjkcpaa.Pure
set_option linter.unusedVariables false
set_option linter.unusedSimpArgs false
open Go.RowKit Go.Proofs.Ytdffhffhnjkcpaa.X Go.Proofs.YtdffhffhnjkcpaaW.PrintWords Go.Proofs.YtdffhffhnjkcpaaW.PrintLast Go.Proofs.YtdffhffhnjkcpaaW.PrintMore

theorem SketchLists : congoulaw03_SketchLists.Pure := by
  intro a0 l1 _ _ hm _
  have hlen : l1.length ≤ 17592186044416 := by omega
  refine ⟨l1.length + 2000, ?_⟩
  unfold congoulaw03_SketchLists.f
  rw [list_f l1 hlen, Counters_f]
  simp only [Option.bind_some, xShort.f, xFull.f, streamB_take]
  cases hk : kB a0 with
  | false => simp [congoulaw03_SketchLists.j0, awake_f, wr64]
  | true =>
    rw [if_pos rfl, Stream_f l1 hlen _ (by omega)]
    cases hs : streamB l1 with
    | false => simp [congoulaw03_SketchLists.j0, awake_f, wr64]
    | true =>
      have ha : 1 ≤ a0 ∧ a0 ≤ 8 := by simpa [kB] using hk
      have hx := ((streamB_iff l1).mp hs).2
      have hl := ((streamB_iff l1).mp hs).1
      have hS := short_rinv ha.1 hl hx l1.length
      have hF := full_rinv ha.1 hl hx l1.length
      rw [List.take_length, foldS_G] at hS
      rw [List.take_length, foldF_G] at hF
      have hS1 := len_risen hS.nd hS.key
      have hF1 := len_risen hF.nd hF.key
      have hS2 := hS.len
      have hF2 := hF.len
      rw [take_of_stream l1 hs]
      simp only [and_self, if_true, Option.bind_some, Bool.not_true, congoulaw03_SketchLists.j0]
      rw [if_neg (by simp), own_f _ (by omega) _ (by omega), RShort_f a0 l1 ha hl hx _ (by omega)]
      simp only [Option.bind_some]
      rw [eq64_f _ (by rw [ownL_len]; omega) _ (by rw [ownL_len]; omega)]
      simp only [Option.bind_some, if_true]
      rw [own_f _ (by omega) _ (by omega), RFull_f a0 l1 ha hl hx _ (by omega)]
      simp only [Option.bind_some]
      rw [eq64_f _ (by rw [ownL_len]; omega) _ (by rw [ownL_len]; omega)]
      simp [awake_f]
end Go.Proofs.Ytdffhffhnjkcpaa.Pure
