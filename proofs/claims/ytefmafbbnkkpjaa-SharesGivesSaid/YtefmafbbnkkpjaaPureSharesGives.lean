/- SharesGives: Gives returns gives that turn falling shares into others, where there are such, and CheckGives whether some do, or the documented error. -/
import Derived.Test.YtefmafbbnkkpjaaXf8
import Derived.Test.YtefmafbbnkkpjaaSH
namespace Go.Proofs.Ytefmafbbnkkpjaa.Pure
set_option linter.unusedVariables false
set_option linter.unusedSimpArgs false
open Go Go.RowKit Go.Proofs.Ytefmafbbnkkpjaa.X Go.Proofs.YtefmafbbnkkpjaaW.PrintWords Go.Proofs.YtefmafbbnkkpjaaW.PrintLast

theorem SharesGives (l0 : List Int) (l1 : List Int) (l2 : List (S78)) (h0_ : l0.length ≤ maxLen) (h1_ : (∀ x ∈ l0, (Lit.int .i64 x).wf = true)) (h2_ : l1.length ≤ maxLen) (h3_ : (∀ x ∈ l1, (Lit.int .i64 x).wf = true)) (h4_ : l2.length ≤ maxLen) (h5_ : (∀ x ∈ l2, ((Lit.int .i64 x.f0).wf = true ∧ (Lit.int .i64 x.f1).wf = true ∧ (Lit.int .i64 x.f2).wf = true))) : ∃ k, congoulaw01_SharesGives.f k l0 l1 l2 = some true := by
  have h0 : l0.length ≤ 9223372036854775807 := by unfold maxLen at h0_; exact h0_
  have h1 : l1.length ≤ 9223372036854775807 := by unfold maxLen at h2_; exact h2_
  have h2 : l2.length ≤ 9223372036854775807 := by unfold maxLen at h4_; exact h4_
  refine ⟨l0.length + l1.length + l2.length + 2000 + 1 + 1, ?_⟩
  generalize hK : l0.length + l1.length + l2.length + 2000 = K
  unfold congoulaw01_SharesGives.f
  have h60 : ((l2.take 60).map to77).length ≤ 60 := by rw [List.length_map, List.length_take]; omega
  obtain ⟨r, e, g⟩ := Gives_f (l0.take 15) (l1.take 15) (take15 _) (take15 _) (K + 1 + 1) (by omega)
  rw [list_f l0 h0, list_f l1 h1, Of_f l2 h2 _ (by omega)]
  simp only [Option.bind_some]
  rw [e, CheckGives_f _ _ _ (take15 _) (take15 _) (by omega) _ (by omega), two_f l0 l1 h0 h1 _ (by omega) (by omega), Falling_f l0 h0 _ (by omega), Falling_f l1 h1 _ (by omega), dc_congr two_take]
  simp only [Option.bind_some]
  have aw := awake_f K (by omega)
  by_cases h : Two l0 l1
  · have lx := h.1.h6
    have ly := h.2.1.h6
    have g := gives_take h g
    rw [dc_true h, if_pos rfl, sh_same h.1, if_pos rfl, sh_same h.2.1]
    have hl : List.map t77 (List.map to77 (l2.take 60)) = (l2.take 60).map t78 := by rw [List.map_map]; rfl
    rw [hl]
    -- the last question: CheckGives and the reference agree
    have hT := Turns_f h l2 h2 K (by omega)
    have last : l2.length ≤ 60 → dc (run ((l2.take 60).map t78) l0 = some l1) = dc (run (l2.map t78) l0 = some l1) := by
      intro c; rw [List.take_of_length_le c]
    have fin1 : congoulaw01_SharesGives.j1 (K + 1) l0 l1 l2 (dc (run ((l2.take 60).map t78) l0 = some l1)) 0 false = some true := by
      rw [congoulaw01_SharesGives.j1, if_neg (by decide), if_pos rfl, aw]
      by_cases c : l2.length ≤ 60
      · rw [if_neg (by omega), hT, last c]; simp
      · rw [if_pos (by omega)]; rfl
    have fin2 : congoulaw01_SharesGives.j2 (K + 1) l0 l1 l2 (dc (run ((l2.take 60).map t78) l0 = some l1)) 0 false = some true := by
      rw [congoulaw01_SharesGives.j2, if_neg (by decide), if_pos rfl, aw]
      by_cases c : l2.length ≤ 60
      · rw [if_neg (by omega), hT, last c]; simp
      · rw [if_pos (by omega)]; rfl
    have fin3 : congoulaw01_SharesGives.j3 (K + 1) l0 l1 l2 (dc (run ((l2.take 60).map t78) l0 = some l1)) 0 false = some true := by
      rw [congoulaw01_SharesGives.j3, if_neg (by decide), if_pos rfl, aw]
      by_cases c : l2.length ≤ 60
      · rw [if_neg (by omega), hT, last c]; simp
      · rw [if_pos (by omega)]; rfl
    generalize dc (run ((l2.take 60).map t78) l0 = some l1) = R at *
    have hU := runeven_f (sm_of_sh h.1) (sm_of_sh h.2.1) (K + 1) (by omega)
    cases g with
    | arg hn =>
      have key : congoulaw01_SharesGives.j0 (K + 1 + 1) l0 l1 l2 [] 2 R 0 true = some true := by
        rw [congoulaw01_SharesGives.j0, if_pos rfl, if_pos (by rfl)]
        exact fin1
      by_cases d1 : Desc l0
      · by_cases d2 : Desc l1
        · exact absurd ⟨h, d1, d2⟩ hn
        · rw [dc_true d1, dc_false d2, if_pos rfl]; exact key
      · rw [dc_false d1, if_neg (by decide)]; exact key
    | none _ d1 d2 hm =>
      rw [dc_true d1, dc_true d2, if_pos rfl, Bool.not_true, congoulaw01_SharesGives.j0, if_neg (by decide), hU, Option.bind_some, dc_false hm, if_neg (by decide), if_pos (by rfl)]
      exact fin3
    | ok gs _ d1 d2 hm hr hg =>
      have e2 : List.map t78 (gs.map to78) = gs.map t77 := by rw [List.map_map]; rfl
      rw [dc_true d1, dc_true d2, if_pos rfl, Bool.not_true, congoulaw01_SharesGives.j0, if_neg (by decide), hU, Option.bind_some, dc_true hm, if_pos rfl, if_pos rfl, own_f gs (by omega) (K + 1) (by omega), Option.bind_some, Turns_f h (gs.map to78) (by rw [List.length_map]; omega) (K + 1) (by rw [List.length_map]; omega), Option.bind_some, e2, dc_true hr, Bool.not_true]
      exact fin2
  · have hr : r = ([], 2) := by
      cases g with
      | arg _ => rfl
      | none t _ _ _ => exact absurd (two_take.mp t) h
      | ok _ t _ _ _ _ _ => exact absurd (two_take.mp t) h
    rw [dc_false h, hr]
    simp [awake_f (K + 1 + 1) (by omega)]
end Go.Proofs.Ytefmafbbnkkpjaa.Pure
