/- SharesMixed: there is a mixture just where x is at least as uneven as y, and CheckMix takes it; a matrix that it takes is one of such shares; or the documented error. -/
import Derived.Test.YtefmafbbnkkpjaaXf16
import Derived.Test.YtefmafbbnkkpjaaSXm
import Derived.Test.YtefmafbbnkkpjaaPureSharesMixes
namespace Go.Proofs.Ytefmafbbnkkpjaa.Pure
set_option linter.unusedVariables false
set_option linter.unusedSimpArgs false
open Go Go.RowKit Go.Proofs.Ytefmafbbnkkpjaa.X Go.Proofs.YtefmafbbnkkpjaaW.PrintWords Go.Proofs.YtefmafbbnkkpjaaW.PrintLast

theorem SharesMixed (l0 : List Int) (l1 : List Int) (l2 : List (List (S62))) (h0_ : l0.length ≤ maxLen) (h1_ : (∀ x ∈ l0, (Lit.int .i64 x).wf = true)) (h2_ : l1.length ≤ maxLen) (h3_ : (∀ x ∈ l1, (Lit.int .i64 x).wf = true)) (h4_ : l2.length ≤ maxLen) (h5_ : (∀ x ∈ l2, (x.length ≤ maxLen ∧ ∀ x2_ ∈ x, ((Lit.int .i64 x2_.f0).wf = true ∧ (Lit.int .i64 x2_.f1).wf = true)))) : ∃ k, congoulaw01_SharesMixed.f k l0 l1 l2 = some true := by
  have h0 : l0.length ≤ 9223372036854775807 := by unfold maxLen at h0_; exact h0_
  have h1 : l1.length ≤ 9223372036854775807 := by unfold maxLen at h2_; exact h2_
  have h2 : l2.length ≤ 9223372036854775807 := by unfold maxLen at h4_; exact h4_
  have hb := b64_of h5_
  obtain ⟨K, hK⟩ : ∃ K : Nat, K = 3000000 + KG + l0.length + l1.length + l2.length := ⟨_, rfl⟩
  refine ⟨K + 1 + 1, ?_⟩
  unfold congoulaw01_SharesMixed.f
  have aw := awake_f K (by omega)
  have aw1 := awake_f (K + 1) (by omega)
  rw [list_f l0 h0, Option.bind_some, list_f l1 h1, Option.bind_some]
  have hC := CheckMix_f (l0.take 15) (l1.take 15) (take15 _) (take15 _) (cpM l2) (by rw [cpM_len]; omega) (fun r hr => (cpM_at hr).1) (cpM_B64 hb) (K + 1 + 1) (by omega)
  have hU := Uneven_f (take15 l0) (take15 l1) (K + 1 + 1) (by omega)
  rcases Mix_f (l0.take 15) (l1.take 15) (take15 _) (take15 _) (K + 1 + 1) (by omega) with ⟨hn, e⟩ | ⟨hT, hM, e⟩ | ⟨hT, hM, m, D, L, e, hI, d1, d2⟩
  · rw [dc_false hn, if_neg (by decide)] at hC hU
    rw [e, Option.bind_some, Option.bind_some, Option.bind_some, matrix_f l2 h2 _ (by omega), Option.bind_some, hC, Option.bind_some, Option.bind_some, Option.bind_some, hU, Option.bind_some]
    dsimp only
    rw [if_neg (by decide), congoulaw01_SharesMixed.j0, if_pos rfl, if_pos rfl, if_pos rfl, if_pos rfl, aw1]
    rfl
  · have hT2 := two_take.mp hT
    have e0 := sh_same hT2.1
    have e1 := sh_same hT2.2.1
    rw [e0, e1] at hC hU e hM
    rw [dc_true hT2, if_pos rfl] at hC hU
    have hno : ¬ IsMix l0 l1 (cpM l2) := fun h => hM (mix_maj hT2 h)
    rw [dc_false hno] at hC
    rw [dc_false hM] at hU
    rw [e0, e1, e, Option.bind_some, Option.bind_some, Option.bind_some, matrix_f l2 h2 _ (by omega), Option.bind_some, hC, Option.bind_some, Option.bind_some, Option.bind_some, hU, Option.bind_some]
    dsimp only
    rw [if_pos rfl, two_f l0 l1 h0 h1 _ (by omega) (by omega), Option.bind_some, dc_true hT2, show (!true) = false from rfl, congoulaw01_SharesMixed.j0, if_neg (by decide), if_pos rfl, if_neg (by decide), congoulaw01_SharesMixed.j1, if_neg (by decide), if_neg (by decide), if_pos rfl, if_neg (by decide), aw]
    rfl
  · have hT2 := two_take.mp hT
    have e0 := sh_same hT2.1
    have e1 := sh_same hT2.2.1
    have h6 := hT2.1.h6
    rw [e0, e1] at hC hU e hM hI
    rw [dc_true hT2, if_pos rfl] at hC hU
    rw [dc_true hM] at hU
    have hml := hI.len
    have hgood : IsMix l0 l1 m := hI.mx hT2.1.h1 d1 d2
    have hcp : cpM m = m := cpM_same (by omega) fun r hr => by have := hI.sq r hr; omega
    have hC2 := CheckMix_f (l0.take 15) (l1.take 15) (take15 _) (take15 _) m (by omega) (fun r hr => by have := hI.sq r hr; omega) (FMI.b64 hI.toFM d1 d2) K (by omega)
    rw [e0, e1, dc_true hT2, if_pos rfl, dc_true hgood] at hC2
    rw [e0, e1, e, Option.bind_some, Option.bind_some, Option.bind_some, matrix_f l2 h2 _ (by omega), Option.bind_some, hC, Option.bind_some, Option.bind_some, Option.bind_some, hU, Option.bind_some]
    dsimp only
    rw [if_pos rfl, two_f l0 l1 h0 h1 _ (by omega) (by omega), Option.bind_some, dc_true hT2, show (!true) = false from rfl, congoulaw01_SharesMixed.j0, if_neg (by decide), if_pos rfl]
    have hfin : congoulaw01_SharesMixed.j1 (K + 1) l0 l1 m 0 true false = some true := by
      rw [congoulaw01_SharesMixed.j1, if_neg (by decide), if_pos rfl, list_f l0 h0, Option.bind_some, list_f l1 h1, Option.bind_some, matrix_f m (by omega) _ (by omega), Option.bind_some, hcp, e0, e1, hC2, Option.bind_some, if_pos rfl]
      dsimp only
      rw [if_pos rfl, if_pos rfl, if_pos (by omega), aw]
      rfl
    by_cases hq : dc (IsMix l0 l1 (cpM l2)) = true
    · rw [if_pos hq]; exact hfin
    · rw [if_neg hq]; exact hfin
end Go.Proofs.Ytefmafbbnkkpjaa.Pure
