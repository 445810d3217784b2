/- SharesLattice: Meet is below both parts, Join above; parts below both are below Meet, those above both above Join; the order of the two does not matter. -/
import Derived.Test.YtefmafbbnkkpjaaXf7
import Derived.Test.YtefmafbbnkkpjaaSK
namespace Go.Proofs.Ytefmafbbnkkpjaa.Pure
open Go Go.RowKit Go.Proofs.Ytefmafbbnkkpjaa.X Go.Proofs.YtefmafbbnkkpjaaW.PrintWords Go.Proofs.YtefmafbbnkkpjaaW.PrintLast
set_option linter.unusedVariables false
set_option linter.unusedSimpArgs false

theorem Lattice_j1 (a b c : List Int) (h : PP a b) (hc : c.length ≤ 17592186044416) (k : Nat) (hk : 2 * c.length + 500 < k) : congoulaw01_SharesLattice.j1 k a b c (meetOf a b) (joinOf a b) false = some true := by
  obtain ⟨k, rfl⟩ : ∃ m, k = m + 1 := ⟨k - 1, by omega⟩
  have la := h.1.len
  have aw := awake_f k (by omega)
  rw [congoulaw01_SharesLattice.j1, if_neg (by decide), parts_f c a hc (by omega) k (by omega) (by omega), Option.bind_some]
  by_cases hp : PP c a
  · have hm := meet_pa h
    have hj : Pa (joinOf a b) := turn_pa (meet_pa (turn_pp h))
    have m1 : Maj a c → Maj b c → Maj (meetOf a b) c := meet_great h.1.pt h.2.1.pt hp.1.pt h.1.len h.2.1.len
    have m2 : Maj c a → Maj c b → Maj c (joinOf a b) := join_least h.1.pt h.2.1.pt hp.1.pt h.1.s12
    rw [dc_true hp, if_pos rfl, runeven_f h.1.sm hp.1.sm k (by omega), runeven_f h.2.1.sm hp.1.sm k (by omega), runeven_f hm.sm hp.1.sm k (by omega), runeven_f hp.1.sm h.1.sm k (by omega), runeven_f hp.1.sm h.2.1.sm k (by omega), runeven_f hp.1.sm hj.sm k (by omega), aw]
    simp only [Option.bind_some]
    by_cases c1 : Maj a c
    · by_cases c2 : Maj b c
      · by_cases c3 : Maj c a
        · by_cases c4 : Maj c b
          · simp [dc_true c1, dc_true c2, dc_true (m1 c1 c2), dc_true c3, dc_true c4, dc_true (m2 c3 c4)]
          · simp [dc_true c1, dc_true c2, dc_true (m1 c1 c2), dc_true c3, dc_false c4]
        · simp [dc_true c1, dc_true c2, dc_true (m1 c1 c2), dc_false c3]
      · by_cases c3 : Maj c a
        · by_cases c4 : Maj c b
          · simp [dc_true c1, dc_false c2, dc_true c3, dc_true c4, dc_true (m2 c3 c4)]
          · simp [dc_true c1, dc_false c2, dc_true c3, dc_false c4]
        · simp [dc_true c1, dc_false c2, dc_false c3]
    · by_cases c3 : Maj c a
      · by_cases c4 : Maj c b
        · simp [dc_false c1, dc_true c3, dc_true c4, dc_true (m2 c3 c4)]
        · simp [dc_false c1, dc_true c3, dc_false c4]
      · simp [dc_false c1, dc_false c3]
  · rw [dc_false hp, if_neg (by decide), aw]; rfl
theorem Lattice_j0 (a b c : List Int) (h : PP a b) (hc : c.length ≤ 17592186044416) (k : Nat) (hk : 2 * c.length + 501 < k) : congoulaw01_SharesLattice.j0 k a b c (meetOf a b) 0 (joinOf a b) 0 false = some true := by
  obtain ⟨k, rfl⟩ : ∃ m, k = m + 1 := ⟨k - 1, by omega⟩
  have la := h.1.len
  have lb := h.2.1.len
  have h' : PP b a := ⟨h.2.1, h.1, h.2.2.symm⟩
  have hm := meet_pa h
  have hj : Pa (joinOf a b) := turn_pa (meet_pa (turn_pp h))
  have sm : (meetOf a b).sum = a.sum := meet_sum h.1.pt h.2.1.pt h.1.len h.2.1.len h.2.2
  have sj : (joinOf a b).sum = a.sum := join_sum h.1.pt h.2.1.pt h.1.s12 h.2.2
  have lm := hm.len
  have lj := hj.len
  have e1 : dc (meetOf b a = meetOf a b) = true := dc_true (meet_comm b a)
  have e2 : dc (joinOf b a = joinOf a b) = true := dc_true (join_comm b a)
  have e3 : dc (PP (meetOf a b) a) = true := dc_true ⟨hm, h.1, sm⟩
  have e4 : dc (PP (joinOf a b) a) = true := dc_true ⟨hj, h.1, sj⟩
  have e5 : dc (Maj a (meetOf a b)) = true := dc_true (meet_below h.1.pt h.2.1.pt h.1.len h.2.1.len h.2.2)
  have e6 : dc (Maj b (meetOf a b)) = true := dc_true (by rw [meet_comm]; exact meet_below h'.1.pt h'.2.1.pt h'.1.len h'.2.1.len h'.2.2)
  have e7 : dc (Maj (joinOf a b) a) = true := dc_true (join_above h.1.pt h.2.1.pt h.1.s12 h.2.2)
  have e8 : dc (Maj (joinOf a b) b) = true := dc_true (by rw [join_comm]; exact join_above h'.1.pt h'.2.1.pt h'.1.s12 h'.2.2)
  have lm' : (meetOf b a).length ≤ 12 := by rw [meet_comm]; exact lm
  have lj' : (joinOf b a).length ≤ 12 := by rw [join_comm]; exact lj
  rw [congoulaw01_SharesLattice.j0, if_neg (by decide), list_f a (by omega), list_f b (by omega), pa_same h.1, pa_same h.2.1]
  simp only [Option.bind_some]
  rw [Meet_f (a := b) (b := a) (by omega) (by omega) k (by omega), Join_f (a := b) (b := a) (by omega) (by omega) k (by omega), dc_true h']
  simp only [Option.bind_some, if_true]
  rw [Equal_f (meetOf b a) (meetOf a b) (by omega) k (by omega), Equal_f (joinOf b a) (joinOf a b) (by omega) k (by omega), parts_f (meetOf a b) a (by omega) (by omega) k (by omega) (by omega), parts_f (joinOf a b) a (by omega) (by omega) k (by omega) (by omega), runeven_f h.1.sm hm.sm k (by omega), runeven_f h.2.1.sm hm.sm k (by omega), runeven_f hj.sm h.1.sm k (by omega), runeven_f hj.sm h.2.1.sm k (by omega), e1, e2, e3, e4, e5, e6, e7, e8]
  simp only [Option.bind_some, if_true, Bool.not_true]
  exact Lattice_j1 a b c h hc k (by omega)
theorem SharesLattice : congoulaw01_SharesLattice.Pure := by
  intro a b c ha_ ha _ hb_ hb _ hc_ hc _
  refine ⟨2 * a.length + 2 * b.length + 2 * c.length + 1000 + 1, ?_⟩
  generalize hK : 2 * a.length + 2 * b.length + 2 * c.length + 1000 = K
  unfold congoulaw01_SharesLattice.f
  rw [list_f a (by omega), list_f b (by omega)]
  simp only [Option.bind_some]
  rw [Meet_f (take15 _) (take15 _) _ (by omega), Join_f (take15 _) (take15 _) _ (by omega), parts_f a b (by omega) (by omega) _ (by omega) (by omega), dc_congr pp_take]
  simp only [Option.bind_some]
  by_cases h : PP a b
  · rw [dc_true h, pa_same h.1, pa_same h.2.1]
    simp only [if_true, Bool.not_true]
    exact Lattice_j0 a b c h (by omega) (K + 1) (by omega)
  · rw [dc_false h]
    simp [congoulaw01_SharesLattice.j0, awake_f K (by omega)]
end Go.Proofs.Ytefmafbbnkkpjaa.Pure
