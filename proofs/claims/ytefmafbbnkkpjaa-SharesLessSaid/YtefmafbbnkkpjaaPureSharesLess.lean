/- SharesLess: CheckGives accepts Gives; what is turned by gives was at least as uneven, and its gap at least as great. -/
import Derived.Test.YtefmafbbnkkpjaaXf10
import Derived.Test.YtefmafbbnkkpjaaSG
import Derived.Test.YtefmafbbnkkpjaaSE
namespace Go.Proofs.Ytefmafbbnkkpjaa.Pure
set_option linter.unusedVariables false
set_option linter.unusedSimpArgs false
open Go Go.RowKit Go.Proofs.Ytefmafbbnkkpjaa.X Go.Proofs.YtefmafbbnkkpjaaW.PrintWords Go.Proofs.YtefmafbbnkkpjaaW.PrintLast

theorem Less_j1 (x y : List Int) (h : Two x y) (k : Nat) (hk : 1000 < k) : congoulaw01_SharesLess.j1 k x y (dc (Maj x y)) false = some true := by
  obtain ⟨k, rfl⟩ : ∃ m, k = m + 1 := ⟨k - 1, by omega⟩
  have lx := h.1.h6
  have ly := h.2.1.h6
  obtain ⟨r, e, g⟩ := Gives_f x y (by omega) (by omega) k (by omega)
  have aw := awake_f k (by omega)
  rw [congoulaw01_SharesLess.j1, if_neg (by decide), list_f x (by omega), list_f y (by omega), sh_same h.1, sh_same h.2.1]
  simp only [Option.bind_some]
  rw [e, Option.bind_some]
  cases g with
  | arg hn =>
    rw [if_neg (by decide), if_pos rfl, Falling_f x (by omega) k (by omega), Falling_f y (by omega) k (by omega), aw]
    simp only [Option.bind_some]
    by_cases d1 : Desc x
    · by_cases d2 : Desc y
      · exact absurd ⟨h, d1, d2⟩ hn
      · rw [dc_true d1, dc_false d2]; rfl
    · rw [dc_false d1]; rfl
  | none _ _ _ hm =>
    rw [if_neg (by decide), if_neg (by decide), if_pos rfl, dc_false hm, aw]; rfl
  | ok gs _ _ _ hm hr hg =>
    rw [if_pos rfl, CheckGives_f x y gs (by omega) (by omega) (by omega) k (by omega), dc_true h, dc_true hr, dc_true hm, aw]; rfl
theorem SharesLess (l0 : List Int) (l1 : List Int) (l2 : List (S78)) (h0_ : l0.length ≤ maxLen) (h1_ : (∀ x ∈ l0, (Lit.int .i64 x).wf = true)) (h2_ : l1.length ≤ maxLen) (h3_ : (∀ x ∈ l1, (Lit.int .i64 x).wf = true)) (h4_ : l2.length ≤ maxLen) (h5_ : (∀ x ∈ l2, ((Lit.int .i64 x.f0).wf = true ∧ (Lit.int .i64 x.f1).wf = true ∧ (Lit.int .i64 x.f2).wf = true))) : ∃ k, congoulaw01_SharesLess.f k l0 l1 l2 = some true := by
  have h0 : l0.length ≤ 9223372036854775807 := by unfold maxLen at h0_; exact h0_
  have h1 : l1.length ≤ 9223372036854775807 := by unfold maxLen at h2_; exact h2_
  have h2 : l2.length ≤ 9223372036854775807 := by unfold maxLen at h4_; exact h4_
  refine ⟨l0.length + l1.length + l2.length + 2000 + 1, ?_⟩
  generalize hK : l0.length + l1.length + l2.length + 2000 = K
  unfold congoulaw01_SharesLess.f
  have h60 : ((l2.take 60).map to77).length ≤ 60 := by rw [List.length_map, List.length_take]; omega
  rw [list_f l0 h0, list_f l1 h1, Of_f l2 h2 _ (by omega)]
  simp only [Option.bind_some]
  rw [CheckGives_f _ _ _ (take15 _) (take15 _) (by omega) _ (by omega), two_f l0 l1 h0 h1 _ (by omega) (by omega), dc_congr two_take]
  simp only [Option.bind_some]
  have aw := awake_f K (by omega)
  by_cases h : Two l0 l1
  · have lx := h.1.h6
    have ly := h.2.1.h6
    rw [dc_true h, if_pos rfl, sh_same h.1, sh_same h.2.1]
    simp only [if_true, Bool.not_true]
    generalize hgs : ((l2.take 60).map to77).map t77 = gs
    rw [congoulaw01_SharesLess.j0, if_neg (by decide), list_f l0 h0, list_f l1 h1, sh_same h.1, sh_same h.2.1]
    simp only [Option.bind_some]
    rw [Uneven_f (by omega) (by omega) K (by omega), Gap_f (x := l0) (by omega) K (by omega), Gap_f (x := l1) (by omega) K (by omega), dc_true h, dc_true h.1, dc_true h.2.1]
    simp only [Option.bind_some, if_true]
    by_cases hr : run gs l0 = some l1
    · obtain ⟨_, _, hm, hp⟩ := run_facts gs h.1 hr
      have J := Less_j1 l0 l1 h K (by omega)
      rw [dc_true hm] at J
      rw [dc_true hr, if_pos rfl, dc_true hm, if_pos rfl, decide_eq_false (by omega)]
      exact J
    · rw [dc_false hr, if_neg (by decide)]
      exact Less_j1 l0 l1 h K (by omega)
  · rw [dc_false h]
    simp [congoulaw01_SharesLess.j0, aw]
end Go.Proofs.Ytefmafbbnkkpjaa.Pure
