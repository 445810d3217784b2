/- The order of the keys lays the same counters. -/
import Derived.Test.YtdffhffhnjkcpaaS10
namespace Go.Proofs.Ytdffhffhnjkcpaa.X
open Go.RowKit Go.Proofs.YtdffhffhnjkcpaaW.PrintWords
set_option linter.unusedVariables false
set_option linter.unusedSimpArgs false
theorem risen_perm {l : List S70} (hn : (keys l).Nodup) (hk : ∀ c ∈ l, 0 ≤ c.f0 ∧ c.f0 < 16) : (risen l).Perm l := by
  have hd : l.Nodup := by
    have := hn
    unfold keys List.Nodup at this
    rw [List.pairwise_map] at this
    exact this.imp (fun h => by rintro rfl; exact h rfl)
  have hr : (risen l).Nodup := (risen_rise l).imp (fun h => by rintro rfl; omega)
  exact (List.perm_ext_iff_of_nodup hr hd).mpr (mem_risen hn hk)
theorem perm_tot {a b : List S70} (h : a.Perm b) : tot a = tot b := by
  induction h with
  | nil => rfl
  | cons x _ ih => rw [tot_cons, tot_cons, ih]
  | swap x y l => rw [tot_cons, tot_cons, tot_cons, tot_cons]; omega
  | trans _ _ h1 h2 => rw [h1, h2]
theorem tot_risen {l : List S70} (hn : (keys l).Nodup) (hk : ∀ c ∈ l, 0 ≤ c.f0 ∧ c.f0 < 16) : tot (risen l) = tot l := perm_tot (risen_perm hn hk)
end Go.Proofs.Ytdffhffhnjkcpaa.X
