/- SharesMeets: Meet and Join return the nearest parts below two, and above two, or the documented error. -/
import Derived.Test.YtefmafbbnkkpjaaXf6
import Derived.Test.YtefmafbbnkkpjaaSN
namespace Go.Proofs.Ytefmafbbnkkpjaa.Pure
open Go Go.RowKit Go.Proofs.Ytefmafbbnkkpjaa.X Go.Proofs.YtefmafbbnkkpjaaW.PrintWords Go.Proofs.YtefmafbbnkkpjaaW.PrintLast
set_option linter.unusedVariables false
set_option linter.unusedSimpArgs false

/-- parts of the number of others -/
def Sp (s : Int) (c : List Int) : Prop := Pa c ∧ c.sum = s
theorem sp_len {s : Int} {c : List Int} (h : Sp s c) : 1 ≤ c.length := h.1.h1
theorem rmeet_l {a b : List Int} (h : PP a b) (L : List (List Int)) (hL : L.length ≤ 5000) (hs : ∀ c ∈ L, Sp a.sum c) : ∀ n i k best, i + n = L.length → n + 300 < k →
    (best = [] ∨ (Sp a.sum best ∧ Maj a best ∧ Maj b best)) → (meetOf a b ∈ L.drop i ∨ best = meetOf a b) →
    congouref01_Meet.l0 k a b best L (L.length : Int) (i : Int) = some (meetOf a b) := by
  have hM := meet_pa h
  have m1 : Maj a (meetOf a b) := meet_below h.1.pt h.2.1.pt h.1.len h.2.1.len h.2.2
  have m2 : Maj b (meetOf a b) := by rw [meet_comm]; exact meet_below h.2.1.pt h.1.pt h.2.1.len h.1.len h.2.2.symm
  have m3 : ∀ c, Pa c → Maj a c → Maj b c → Maj (meetOf a b) c := fun c hc => meet_great h.1.pt h.2.1.pt hc.pt h.1.len h.2.1.len
  generalize meetOf a b = M at *
  intro n
  induction n with
  | zero =>
    intro i k best hi hk hb hm
    obtain ⟨k, rfl⟩ : ∃ m, k = m + 1 := ⟨k - 1, by omega⟩
    rw [congouref01_Meet.l0, if_neg (by omega)]
    rcases hm with h1 | h1
    · rw [List.drop_of_length_le (by omega)] at h1; simp at h1
    · rw [h1]
  | succ n ih =>
    intro i k best hi hk hb hm
    obtain ⟨k, rfl⟩ : ∃ m, k = m + 1 := ⟨k - 1, by omega⟩
    have hc := hs _ (rdL_mem (l := L) (i := i) (by omega))
    rw [rdL_drop (l := L) (i := i) (by omega)] at hm
    generalize hcc : rd_L1 L (i : Int) = c at *
    rw [congouref01_Meet.l0, if_pos (by omega), if_pos (by omega), if_pos (by omega), hcc, runeven_f h.1.sm hc.1.sm k (by omega), Option.bind_some, runeven_f h.2.1.sm hc.1.sm k (by omega), Option.bind_some, w64 (by omega) (by omega), show (i : Int) + 1 = ((i + 1 : Nat) : Int) by omega]
    have hcl := sp_len hc
    by_cases c1 : Maj a c
    · by_cases c2 : Maj b c
      · rw [dc_true c1, dc_true c2, if_pos rfl, if_pos rfl]
        have good : c = [] ∨ (Sp a.sum c ∧ Maj a c ∧ Maj b c) := .inr ⟨hc, c1, c2⟩
        by_cases e : best = []
        · rw [if_pos (by rw [e]; rfl), if_pos hcl]
          refine ih (i + 1) k c (by omega) (by omega) good ?_
          rcases hm with h1 | h1
          · rcases List.mem_cons.mp h1 with h2 | h2
            · exact .inr h2.symm
            · exact .inl h2
          · have := hM.h1
            rw [← h1, e] at this
            simp at this
        · obtain ⟨hbp, hb1, hb2⟩ := hb.resolve_left e
          have hbl := sp_len hbp
          rw [if_neg (by omega), runeven_f hc.1.sm hbp.1.sm k (by omega), Option.bind_some]
          by_cases c3 : Maj c best
          · rw [dc_true c3, if_pos rfl, if_pos hcl]
            refine ih (i + 1) k c (by omega) (by omega) good ?_
            rcases hm with h1 | h1
            · rcases List.mem_cons.mp h1 with h2 | h2
              · exact .inr h2.symm
              · exact .inl h2
            · subst h1
              exact .inr (maj_antisymm hc.1.pt hM.pt c3 (m3 c hc.1 c1 c2))
          · rw [dc_false c3, if_neg (by decide)]
            refine ih (i + 1) k best (by omega) (by omega) hb ?_
            rcases hm with h1 | h1
            · rcases List.mem_cons.mp h1 with h2 | h2
              · subst h2; exact absurd (m3 best hbp.1 hb1 hb2) c3
              · exact .inl h2
            · exact .inr h1
      · rw [dc_true c1, dc_false c2, if_pos rfl, if_neg (by decide)]
        refine ih (i + 1) k best (by omega) (by omega) hb ?_
        rcases hm with h1 | h1
        · rcases List.mem_cons.mp h1 with h2 | h2
          · subst h2; exact absurd m2 c2
          · exact .inl h2
        · exact .inr h1
    · rw [dc_false c1, if_neg (by decide)]
      refine ih (i + 1) k best (by omega) (by omega) hb ?_
      rcases hm with h1 | h1
      · rcases List.mem_cons.mp h1 with h2 | h2
        · subst h2; exact absurd m1 c1
        · exact .inl h2
      · exact .inr h1
theorem rjoin_l {a b : List Int} (h : PP a b) (L : List (List Int)) (hL : L.length ≤ 5000) (hs : ∀ c ∈ L, Sp a.sum c) : ∀ n i k best, i + n = L.length → n + 300 < k →
    (best = [] ∨ (Sp a.sum best ∧ Maj best a ∧ Maj best b)) → (joinOf a b ∈ L.drop i ∨ best = joinOf a b) →
    congouref01_Join.l0 k a b best L (L.length : Int) (i : Int) = some (joinOf a b) := by
  have hM : Pa (joinOf a b) := turn_pa (meet_pa (turn_pp h))
  have m1 : Maj (joinOf a b) a := join_above h.1.pt h.2.1.pt h.1.s12 h.2.2
  have m2 : Maj (joinOf a b) b := by rw [join_comm]; exact join_above h.2.1.pt h.1.pt h.2.1.s12 h.2.2.symm
  have m3 : ∀ c, Pa c → Maj c a → Maj c b → Maj c (joinOf a b) := fun c hc => join_least h.1.pt h.2.1.pt hc.pt h.1.s12
  generalize joinOf a b = M at *
  intro n
  induction n with
  | zero =>
    intro i k best hi hk hb hm
    obtain ⟨k, rfl⟩ : ∃ m, k = m + 1 := ⟨k - 1, by omega⟩
    rw [congouref01_Join.l0, if_neg (by omega)]
    rcases hm with h1 | h1
    · rw [List.drop_of_length_le (by omega)] at h1; simp at h1
    · rw [h1]
  | succ n ih =>
    intro i k best hi hk hb hm
    obtain ⟨k, rfl⟩ : ∃ m, k = m + 1 := ⟨k - 1, by omega⟩
    have hc := hs _ (rdL_mem (l := L) (i := i) (by omega))
    rw [rdL_drop (l := L) (i := i) (by omega)] at hm
    generalize hcc : rd_L1 L (i : Int) = c at *
    rw [congouref01_Join.l0, if_pos (by omega), if_pos (by omega), if_pos (by omega), hcc, runeven_f hc.1.sm h.1.sm k (by omega), Option.bind_some, runeven_f hc.1.sm h.2.1.sm k (by omega), Option.bind_some, w64 (by omega) (by omega), show (i : Int) + 1 = ((i + 1 : Nat) : Int) by omega]
    have hcl := sp_len hc
    by_cases c1 : Maj c a
    · by_cases c2 : Maj c b
      · rw [dc_true c1, dc_true c2, if_pos rfl, if_pos rfl]
        have good : c = [] ∨ (Sp a.sum c ∧ Maj c a ∧ Maj c b) := .inr ⟨hc, c1, c2⟩
        by_cases e : best = []
        · rw [if_pos (by rw [e]; rfl), if_pos hcl]
          refine ih (i + 1) k c (by omega) (by omega) good ?_
          rcases hm with h1 | h1
          · rcases List.mem_cons.mp h1 with h2 | h2
            · exact .inr h2.symm
            · exact .inl h2
          · have := hM.h1
            rw [← h1, e] at this
            simp at this
        · obtain ⟨hbp, hb1, hb2⟩ := hb.resolve_left e
          have hbl := sp_len hbp
          rw [if_neg (by omega), runeven_f hbp.1.sm hc.1.sm k (by omega), Option.bind_some]
          by_cases c3 : Maj best c
          · rw [dc_true c3, if_pos rfl, if_pos hcl]
            refine ih (i + 1) k c (by omega) (by omega) good ?_
            rcases hm with h1 | h1
            · rcases List.mem_cons.mp h1 with h2 | h2
              · exact .inr h2.symm
              · exact .inl h2
            · subst h1
              exact .inr (maj_antisymm hc.1.pt hM.pt (m3 c hc.1 c1 c2) c3)
          · rw [dc_false c3, if_neg (by decide)]
            refine ih (i + 1) k best (by omega) (by omega) hb ?_
            rcases hm with h1 | h1
            · rcases List.mem_cons.mp h1 with h2 | h2
              · subst h2; exact absurd (m3 best hbp.1 hb1 hb2) c3
              · exact .inl h2
            · exact .inr h1
      · rw [dc_true c1, dc_false c2, if_pos rfl, if_neg (by decide)]
        refine ih (i + 1) k best (by omega) (by omega) hb ?_
        rcases hm with h1 | h1
        · rcases List.mem_cons.mp h1 with h2 | h2
          · subst h2; exact absurd m2 c2
          · exact .inl h2
        · exact .inr h1
    · rw [dc_false c1, if_neg (by decide)]
      refine ih (i + 1) k best (by omega) (by omega) hb ?_
      rcases hm with h1 | h1
      · rcases List.mem_cons.mp h1 with h2 | h2
        · subst h2; exact absurd m1 c1
        · exact .inl h2
      · exact .inr h1
theorem all_of {a : List Int} (h : Pa a) (k : Nat) (hk : 2000000 < k) : ∃ L, congouref01_All.f k a.sum 12 = some L ∧ L.length ≤ 5000 ∧ ∀ c, c ∈ L ↔ Sp a.sum c := by
  have h1 := h.s1
  have h12 := h.s12
  have e : (a.sum.toNat : Int) = a.sum := by omega
  have hf := all_f a.sum.toNat a.sum.toNat 12 k (Nat.le_refl _) (by omega) (by omega)
  rw [e] at hf
  refine ⟨_, hf, ?_, fun c => ?_⟩
  · have := len_all a.sum.toNat a.sum.toNat 12 (Nat.le_refl _)
    have hp : 2 ^ a.sum.toNat ≤ 2 ^ 12 := Nat.pow_le_pow_right (by omega) (by omega)
    omega
  · rw [mem_all _ _ _ (Nat.le_refl _)]
    constructor
    · intro hp
      have hs : c.sum = a.sum := by rw [hp.sum, e]
      exact ⟨pa_of hp.pt (by omega) (by omega), hs⟩
    · intro ⟨hp, hs⟩
      exact ⟨hp.pt, by rw [hs, e], fun x hx => by have := hp.le x hx; omega⟩
theorem RMeet_f {a b : List Int} (h : PP a b) (k : Nat) (hk : 2000000 < k) : congouref01_Meet.f k a b = some (meetOf a b) := by
  obtain ⟨L, hf, hl, hm⟩ := all_of h.1 k hk
  have hs := sum_f h.1.sm 12 k (by omega)
  rw [psm_all h.1.len] at hs
  unfold congouref01_Meet.f
  rw [show ((12 : Nat) : Int) = 12 by rfl] at hs
  rw [hs, Option.bind_some, hf, Option.bind_some]
  have hM := meet_pa h
  exact rmeet_l h L hl (fun c hc => (hm c).mp hc) L.length 0 k [] (by omega) (by omega) (.inl rfl) (.inl (by rw [List.drop_zero, hm]; exact ⟨hM, meet_sum h.1.pt h.2.1.pt h.1.len h.2.1.len h.2.2⟩))
theorem RJoin_f {a b : List Int} (h : PP a b) (k : Nat) (hk : 2000000 < k) : congouref01_Join.f k a b = some (joinOf a b) := by
  obtain ⟨L, hf, hl, hm⟩ := all_of h.1 k hk
  have hs := sum_f h.1.sm 12 k (by omega)
  rw [psm_all h.1.len] at hs
  unfold congouref01_Join.f
  rw [show ((12 : Nat) : Int) = 12 by rfl] at hs
  rw [hs, Option.bind_some, hf, Option.bind_some]
  have hM : Pa (joinOf a b) := turn_pa (meet_pa (turn_pp h))
  exact rjoin_l h L hl (fun c hc => (hm c).mp hc) L.length 0 k [] (by omega) (by omega) (.inl rfl) (.inl (by rw [List.drop_zero, hm]; exact ⟨hM, join_sum h.1.pt h.2.1.pt h.1.s12 h.2.2⟩))
theorem SharesMeets : congoulaw01_SharesMeets.Pure := by
  intro a b ha_ ha _ hb_ hb _
  obtain ⟨K, hK⟩ : ∃ K, 2 * a.length + 2 * b.length + 3000000 = K := ⟨_, rfl⟩
  refine ⟨K + 1, ?_⟩
  unfold congoulaw01_SharesMeets.f
  rw [list_f a (by omega), list_f b (by omega)]
  simp only [Option.bind_some]
  rw [Meet_f (take15 _) (take15 _) _ (by omega), Join_f (take15 _) (take15 _) _ (by omega), parts_f a b (by omega) (by omega) _ (by omega) (by omega), dc_congr pp_take, awake_f _ (by omega)]
  simp only [Option.bind_some]
  by_cases h : PP a b
  · have hm := (meet_pa h).len
    have hj := (turn_pa (meet_pa (turn_pp h))).len
    have hj : (joinOf a b).length ≤ 12 := hj
    rw [dc_true h, pa_same h.1, pa_same h.2.1, RMeet_f h _ (by omega), RJoin_f h _ (by omega)]
    simp only [if_true, Option.bind_some]
    rw [Equal_f (meetOf a b) (meetOf a b) (by omega) _ (by omega), Equal_f (joinOf a b) (joinOf a b) (by omega) _ (by omega), dc_true (rfl : meetOf a b = meetOf a b), dc_true (rfl : joinOf a b = joinOf a b)]
    rfl
  · rw [dc_false h]
    simp [wrap64]
end Go.Proofs.Ytefmafbbnkkpjaa.Pure
