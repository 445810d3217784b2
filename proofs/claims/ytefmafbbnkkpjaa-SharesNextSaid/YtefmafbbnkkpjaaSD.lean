/- Falling and equal slices, in both packages. -/
import Derived.Test.YtefmafbbnkkpjaaSA
namespace Go.Proofs.Ytefmafbbnkkpjaa.Pure
open Go Go.RowKit Go.Proofs.Ytefmafbbnkkpjaa.X Go.Proofs.YtefmafbbnkkpjaaW.PrintWords Go.Proofs.YtefmafbbnkkpjaaW.PrintLast
set_option linter.unusedVariables false
set_option linter.unusedSimpArgs false

/-- no number is above the one before it -/
def Adj (a : List Int) (lo hi : Nat) : Prop := ∀ j, lo ≤ j → j < hi → a.getD j 0 ≤ a.getD (j - 1) 0
theorem desc_adj (a : List Int) : Desc a ↔ Adj a 1 a.length := by
  constructor
  · intro h j h1 h2
    exact desc_getD h (by omega) h2
  · intro h
    refine List.pairwise_iff_getElem.mpr fun i j hi hj hij => ?_
    have key : ∀ n j, j = i + 1 + n → j < a.length → a.getD j 0 ≤ a.getD i 0 := by
      intro n
      induction n with
      | zero =>
        intro j e hj
        have := h j (by omega) hj
        rwa [show j - 1 = i by omega] at this
      | succ n ih =>
        intro j e hj
        have h1 := h j (by omega) hj
        have h2 := ih (j - 1) (by omega) (by omega)
        omega
    have := key (j - i - 1) j (by omega) hj
    rwa [getD_get hj, getD_get hi] at this
theorem fal_l (a : List Int) (hl : a.length ≤ 9223372036854775807) : ∀ n i k, i + n = a.length → 1 ≤ i → n < k → congouref01_Falling.l0 k a (i : Int) = some (dc (Adj a i a.length)) := by
  intro n
  induction n with
  | zero =>
    intro i k hi h1 hk
    obtain ⟨k, rfl⟩ : ∃ m, k = m + 1 := ⟨k - 1, by omega⟩
    rw [congouref01_Falling.l0, if_neg (by omega), dc_true (p := Adj a i a.length) (fun j h1 h2 => absurd h1 (by omega))]
  | succ n ih =>
    intro i k hi h1 hk
    obtain ⟨k, rfl⟩ : ∃ m, k = m + 1 := ⟨k - 1, by omega⟩
    rw [congouref01_Falling.l0, if_pos (by omega), if_pos (by omega), w64 (i := (i : Int) - 1) (by omega) (by omega), w64 (i := (i : Int) + 1) (by omega) (by omega), if_pos (by omega), if_pos (by omega), show (i : Int) - 1 = ((i - 1 : Nat) : Int) by omega, show (i : Int) + 1 = ((i + 1 : Nat) : Int) by omega, rd_at, rd_at, ih (i + 1) k (by omega) (by omega) (by omega)]
    split
    · rw [dc_false fun h => absurd (h i (Nat.le_refl _) (by omega)) (by omega)]
    · congr 1; apply dc_congr
      constructor
      · intro h j h2 h3
        by_cases e : j = i
        · subst e; omega
        · exact h j (by omega) h3
      · exact fun h j h2 h3 => h j (by omega) h3
theorem Falling_f (a : List Int) (hl : a.length ≤ 9223372036854775807) (k : Nat) (hk : a.length + 1 < k) : congouref01_Falling.f k a = some (dc (Desc a)) := by
  unfold congouref01_Falling.f
  rcases Nat.eq_zero_or_pos a.length with c | c
  · obtain ⟨k, rfl⟩ : ∃ m, k = m + 1 := ⟨k - 1, by omega⟩
    rw [congouref01_Falling.l0, if_neg (by omega), dc_true]
    rw [List.eq_nil_of_length_eq_zero c]; simp [Desc]
  · have := fal_l a hl (a.length - 1) 1 k (by omega) (by omega) (by omega)
    rw [show ((1 : Nat) : Int) = 1 by rfl] at this
    rw [this]
    exact congrArg some (dc_congr (desc_adj a).symm)
theorem sor_l (a : List Int) (hl : a.length ≤ 1000) (hb : ∀ x ∈ a, 0 ≤ x ∧ x ≤ 1000) : ∀ i k, i < a.length → i + 1 < k → slices_IsSortedFunc_int_int_with72.l0 k a (i : Int) = some (dc (Adj a 1 (i + 1))) := by
  intro i
  induction i with
  | zero =>
    intro k hi hk
    obtain ⟨k, rfl⟩ : ∃ m, k = m + 1 := ⟨k - 1, by omega⟩
    rw [slices_IsSortedFunc_int_int_with72.l0, if_neg (by omega), dc_true (p := Adj a 1 (0 + 1)) (fun j h1 h2 => absurd h1 (by omega))]
  | succ i ih =>
    intro k hi hk
    obtain ⟨k, rfl⟩ : ∃ m, k = m + 1 := ⟨k - 1, by omega⟩
    have b1 := hb _ (getD_mem (l := a) (i := i + 1) hi)
    have b2 := hb _ (getD_mem (l := a) (i := i) (by omega))
    rw [slices_IsSortedFunc_int_int_with72.l0, if_pos (by omega), if_pos (by omega), if_pos (by omega), w64 (i := ((i + 1 : Nat) : Int) - 1) (by omega) (by omega), if_pos (by omega), if_pos (by omega), show ((i + 1 : Nat) : Int) - 1 = (i : Int) by omega, rd_at, rd_at, shares_down.f, Option.bind_some, w64 (by omega) (by omega), ih k (by omega) (by omega)]
    split
    · rw [dc_false fun h => absurd (h (i + 1) (by omega) (by omega)) (by rw [Nat.add_sub_cancel]; omega)]
    · congr 1; apply dc_congr
      constructor
      · intro h j h2 h3
        by_cases e : j = i + 1
        · subst e; rw [Nat.add_sub_cancel]; omega
        · exact h j h2 (by omega)
      · exact fun h j h2 h3 => h j h2 (by omega)
theorem Sorted_f (a : List Int) (h1 : 1 ≤ a.length) (hl : a.length ≤ 1000) (hb : ∀ x ∈ a, 0 ≤ x ∧ x ≤ 1000) (k : Nat) (hk : a.length < k) : slices_IsSortedFunc_int_int_with72.f k a = some (dc (Desc a)) := by
  unfold slices_IsSortedFunc_int_int_with72.f
  rw [w64 (by omega) (by omega), show (a.length : Int) - 1 = ((a.length - 1 : Nat) : Int) by omega, sor_l a hl hb (a.length - 1) k (by omega) (by omega), show a.length - 1 + 1 = a.length by omega]
  exact congrArg some (dc_congr (desc_adj a).symm)
theorem eq_l (a b : List Int) (hl : a.length = b.length) (hm : a.length ≤ 9223372036854775807) : ∀ n i k, i + n = a.length → n < k → slices_Equal_int_int.l0 k a b (a.length : Int) (i : Int) = some (dc (a.drop i = b.drop i)) := by
  intro n
  induction n with
  | zero =>
    intro i k hi hk
    obtain ⟨k, rfl⟩ : ∃ m, k = m + 1 := ⟨k - 1, by omega⟩
    rw [slices_Equal_int_int.l0, if_neg (by omega), dc_true]
    rw [List.drop_of_length_le (by omega), List.drop_of_length_le (by omega)]
  | succ n ih =>
    intro i k hi hk
    obtain ⟨k, rfl⟩ : ∃ m, k = m + 1 := ⟨k - 1, by omega⟩
    rw [slices_Equal_int_int.l0, if_pos (by omega), if_pos (by omega), if_pos (by omega), if_pos (by omega), w64 (by omega) (by omega), show (i : Int) + 1 = ((i + 1 : Nat) : Int) by omega, ih (i + 1) k (by omega) (by omega), rd_drop (l := a) (i := i) (by omega), rd_drop (l := b) (i := i) (by omega)]
    split
    · rename_i c
      congr 1; apply dc_congr
      rw [c]; simp
    · rename_i c
      rw [dc_false]
      intro h
      exact c (List.cons.inj h).1
theorem Equal_f (a b : List Int) (hm : a.length ≤ 9223372036854775807) (k : Nat) (hk : a.length < k) : slices_Equal_int_int.f k a b = some (dc (a = b)) := by
  unfold slices_Equal_int_int.f
  by_cases c : a.length = b.length
  · have := eq_l a b c hm a.length 0 k (by omega) hk
    rw [List.drop_zero, List.drop_zero] at this
    rw [if_pos (by omega)]
    exact this
  · rw [if_neg (by omega), dc_false]
    intro h; exact c (by rw [h])
end Go.Proofs.Ytefmafbbnkkpjaa.Pure
