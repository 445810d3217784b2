/- SharesOver: parts turned twice are the same; turning turns the order over, and Meet into Join. -/
import Derived.Test.YtefmafbbnkkpjaaXf9
import Derived.Test.YtefmafbbnkkpjaaSK
namespace Go.Proofs.Ytefmafbbnkkpjaa.Pure
open Go Go.RowKit Go.Proofs.Ytefmafbbnkkpjaa.X Go.Proofs.YtefmafbbnkkpjaaW.PrintWords Go.Proofs.YtefmafbbnkkpjaaW.PrintLast
set_option linter.unusedVariables false
set_option linter.unusedSimpArgs false

theorem Over_j1 (a b : List Int) (h : PP a b) (k : Nat) (hk : 501 < k) : congoulaw01_SharesOver.j1 k a b (turnOf a) (turnOf b) false = some true := by
  obtain ⟨k, rfl⟩ : ∃ m, k = m + 1 := ⟨k - 1, by omega⟩
  have la := h.1.len
  have lb := h.2.1.len
  have ht := turn_pp h
  have lta := ht.1.len
  have ltb := ht.2.1.len
  have hm := meet_pa h
  have lm := hm.len
  have e : joinOf (turnOf a) (turnOf b) = turnOf (meetOf a b) := by unfold joinOf; rw [turn_turn h.1.pt, turn_turn h.2.1.pt]
  have l2 := (turn_pa hm).len
  rw [congoulaw01_SharesOver.j1, if_neg (by decide), list_f a (by omega), list_f b (by omega), pa_same h.1, pa_same h.2.1]
  simp only [Option.bind_some]
  rw [Meet_f (a := a) (b := b) (by omega) (by omega) k (by omega), Join_f (a := turnOf a) (b := turnOf b) (by omega) (by omega) k (by omega), dc_true h, dc_true ht]
  simp only [Option.bind_some, if_true]
  rw [Turn_f (a := meetOf a b) (by omega) k (by omega), dc_true hm, e]
  simp only [Option.bind_some, if_true]
  rw [Equal_f _ _ (by omega) k (by omega), dc_true rfl, awake_f k (by omega)]
  rfl
theorem Over_j0 (a b : List Int) (h : PP a b) (k : Nat) (hk : 510 < k) : congoulaw01_SharesOver.j0 k a b (turnOf a) 0 (turnOf b) 0 false = some true := by
  obtain ⟨k, rfl⟩ : ∃ m, k = m + 1 := ⟨k - 1, by omega⟩
  have la := h.1.len
  have lb := h.2.1.len
  have ht := turn_pp h
  have lta := ht.1.len
  have ltb := ht.2.1.len
  have e1 : dc (turnOf (turnOf a) = a) = true := dc_true (turn_turn h.1.pt)
  have e2 : dc (PP (turnOf a) a) = true := dc_true ⟨ht.1, h.1, turn_sum h.1.desc h.1.pt.nn⟩
  have e3 : dc (PP (turnOf b) a) = true := dc_true ⟨ht.2.1, h.1, by rw [turn_sum h.2.1.desc h.2.1.pt.nn]; exact h.2.2.symm⟩
  have e4 : dc (Maj a b) = dc (Maj (turnOf b) (turnOf a)) := dc_congr (turn_maj h.1.pt h.2.1.pt h.2.2).symm
  have l2 := (turn_pa ht.1).len
  rw [congoulaw01_SharesOver.j0, if_neg (by decide), clone_f (turnOf a) (by omega)]
  simp only [Option.bind_some]
  rw [Turn_f (a := turnOf a) (by omega) k (by omega), dc_true ht.1]
  simp only [Option.bind_some, if_true]
  rw [Equal_f _ _ (by omega) k (by omega), parts_f (turnOf a) a (by omega) (by omega) k (by omega) (by omega), parts_f (turnOf b) a (by omega) (by omega) k (by omega) (by omega), runeven_f h.1.sm h.2.1.sm k (by omega), runeven_f ht.2.1.sm ht.1.sm k (by omega), e1, e2, e3, e4]
  simp only [Option.bind_some, if_true, bne_self_eq_false]
  exact Over_j1 a b h k (by omega)
theorem SharesOver : congoulaw01_SharesOver.Pure := by
  intro a b ha_ ha _ hb_ hb _
  refine ⟨2 * a.length + 2 * b.length + 1000 + 1, ?_⟩
  generalize hK : 2 * a.length + 2 * b.length + 1000 = K
  unfold congoulaw01_SharesOver.f
  rw [list_f a (by omega), list_f b (by omega)]
  simp only [Option.bind_some]
  rw [Turn_f (a := a.take 15) (take15 _) _ (by omega), Turn_f (a := b.take 15) (take15 _) _ (by omega), parts_f a b (by omega) (by omega) _ (by omega) (by omega), dc_congr (pa_take (l := a)), dc_congr (pa_take (l := b))]
  simp only [Option.bind_some]
  have aw := awake_f K (by omega)
  by_cases h1 : Pa a
  · by_cases h2 : Pa b
    · rw [dc_true h1, dc_true h2, pa_same h1, pa_same h2]
      simp only [if_true]
      by_cases h3 : a.sum = b.sum
      · have h : PP a b := ⟨h1, h2, h3⟩
        rw [dc_true h, Bool.not_true]
        exact Over_j0 a b h (K + 1) (by omega)
      · rw [dc_false fun h => h3 h.2.2, Bool.not_false, congoulaw01_SharesOver.j0, if_pos rfl, Parts_f a (by omega) K (by omega), Parts_f b (by omega) K (by omega), dc_true h1, dc_true h2]
        simp [aw, h3]
    · rw [dc_true h1, dc_false h2]
      simp [congoulaw01_SharesOver.j0, aw]
  · rw [dc_false h1]
    simp [congoulaw01_SharesOver.j0, aw]
end Go.Proofs.Ytefmafbbnkkpjaa.Pure
