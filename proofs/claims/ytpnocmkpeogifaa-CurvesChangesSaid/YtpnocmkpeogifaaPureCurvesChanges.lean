/- Changes answers as the law asks. -/
import Derived.Test.YtpnocmkpeogifaaSC
import Derived.Test.YtpnocmkpeogifaaXf6
namespace Go.Proofs.Ytpnocmkpeogifaa.Pure
open Go.RowKit Go.Proofs.Ytpnocmkpeogifaa.X Go.Proofs.YtpnocmkpeogifaaW.PrintWords Go.Proofs.YtpnocmkpeogifaaW.PrintLast
set_option linter.unusedVariables false
set_option linter.unusedSimpArgs false

def badx (x : Int) : Prop := x < -50 ∨ x > 50
theorem ch1 (x : Int) : curves_Changes_1.f x = some (dc (badx x)) := by
  unfold curves_Changes_1.f
  by_cases h : x < -50
  · rw [if_pos h, dc_true (show badx x from Or.inl h)]
  · rw [if_neg h, dec_dc]
    exact congrArg some (dc_congr ⟨Or.inr, fun h2 => by rcases h2 with h2 | h2 <;> omega⟩)
theorem index_l0 (l : List Int) (hL : l.length < 4611686018427387904) : ∀ n k i, i + n = l.length → n < k →
    ∃ z, slices_IndexFunc_int_int_with60.l0 k l l.length (i : Nat) = some z ∧ (z ≥ 0 ↔ ∃ j : Nat, i ≤ j ∧ j < l.length ∧ badx (rd l j)) := by
  intro n
  induction n with
  | zero =>
    intro k i hi hk
    obtain ⟨k, rfl⟩ : ∃ m, k = m + 1 := ⟨k - 1, by omega⟩
    exact ⟨-1, by rw [slices_IndexFunc_int_int_with60.l0, if_neg (by omega)], by omega, fun ⟨j, h1, h2, _⟩ => by omega⟩
  | succ n ih =>
    intro k i hi hk
    obtain ⟨k, rfl⟩ : ∃ m, k = m + 1 := ⟨k - 1, by omega⟩
    obtain ⟨z, e, h⟩ := ih k (i + 1) (by omega) (by omega)
    rw [slices_IndexFunc_int_int_with60.l0, if_pos (by omega), if_pos (by omega), if_pos (by omega), ch1, Option.bind_some]
    by_cases hb : badx (rd l i)
    · rw [dc_true hb, if_pos rfl]
      exact ⟨_, rfl, fun _ => ⟨i, Nat.le_refl _, by omega, hb⟩, fun _ => by omega⟩
    · rw [dc_false hb, if_neg (by decide), w64 (by omega) (by omega)]
      refine ⟨z, e, ?_⟩
      rw [h, ex_step (Q := fun j => badx (rd l j)) (show i < l.length by omega)]
      simp [hb]
theorem contains_f {k : Nat} {l : List Int} (hL : l.length < 4611686018427387904) (hk : l.length < k) :
    slices_ContainsFunc_int_int_with60.f k l = some (dc (∃ x, x ∈ l ∧ badx x)) := by
  unfold slices_ContainsFunc_int_int_with60.f slices_IndexFunc_int_int_with60.f
  obtain ⟨z, e, h⟩ := index_l0 l hL l.length k 0 (by omega) hk
  rw [show ((0 : Int)) = ((0 : Nat) : Int) from rfl, e, Option.bind_some, dec_dc]
  refine congrArg some (dc_congr ?_)
  rw [show (((0 : Nat) : Int)) = 0 from rfl, h]
  constructor
  · intro ⟨j, _, h1, h2⟩
    exact ⟨_, rd_mem h1, h2⟩
  · intro ⟨x, hx, hb⟩
    obtain ⟨i, hi, rfl⟩ := List.getElem_of_mem hx
    refine ⟨i, by omega, hi, ?_⟩
    rw [rd_nat l i hi]
    exact hb
theorem changes_bad {k : Nat} {l : List Int} (hL : l.length < 4611686018427387904) (hk : l.length < k) (h : l.length > 20 ∨ ∃ x, x ∈ l ∧ badx x) : curves_Changes.f k l = some (0, 2) := by
  have j0 : curves_Changes.j0 k l true = some (0, 2) := by
    obtain ⟨k, rfl⟩ : ∃ m, k = m + 1 := ⟨k - 1, by omega⟩
    rw [curves_Changes.j0, if_pos rfl]
  unfold curves_Changes.f
  by_cases h1 : (l.length : Int) > 20
  · rw [if_pos h1, j0]
  · rw [if_neg h1, contains_f hL hk, dc_true (by rcases h with h | h; omega; exact h), Option.bind_some, j0]
theorem mul_neg {a b : Int} (ha : -50 ≤ a ∧ a ≤ 50) (hb : -50 ≤ b ∧ b ≤ 50) : wrap64 (a * b) = a * b ∧ (a * b < 0 ↔ (a < 0 ∧ 0 < b) ∨ (0 < a ∧ b < 0)) := by
  have m : (a * b).natAbs ≤ 2500 := natAbs_mul_le (A := 50) (B := 50) (by omega) (by omega) (by omega)
  refine ⟨w64a m (by omega), ?_⟩
  rcases Int.lt_trichotomy a 0 with h | h | h
  · rcases Int.lt_trichotomy b 0 with g | g | g
    · have := Int.mul_pos_of_neg_of_neg h g
      omega
    · subst g; simp
    · have := Int.mul_neg_of_neg_of_pos h g
      omega
  · subst h; simp
  · rcases Int.lt_trichotomy b 0 with g | g | g
    · have := Int.mul_neg_of_pos_of_neg h g
      omega
    · subst g; simp
    · have := Int.mul_pos h g
      omega
theorem changes_l0 (l : List Int) (hL : l.length ≤ 20) (hb : ∀ x, x ∈ l → -50 ≤ x ∧ x ≤ 50) : ∀ n k i (c last : Int), i + n = l.length → n < k → 0 ≤ c → c ≤ i → -50 ≤ last ∧ last ≤ 50 →
    ∃ r, curves_Changes.l0 k c last l l.length (i : Nat) = some (r, 0) ∧ congouref04_Changes.l0 k c last l l.length (i : Nat) = some r := by
  intro n
  induction n with
  | zero =>
    intro k i c last hi hk _ _ _
    obtain ⟨k, rfl⟩ : ∃ m, k = m + 1 := ⟨k - 1, by omega⟩
    exact ⟨c, by rw [curves_Changes.l0, if_neg (by omega)], by rw [congouref04_Changes.l0, if_neg (by omega)]⟩
  | succ n ih =>
    intro k i c last hi hk h0 h1 hl
    obtain ⟨k, rfl⟩ : ∃ m, k = m + 1 := ⟨k - 1, by omega⟩
    have hx := hb _ (rd_mem (show i < l.length by omega))
    obtain ⟨m1, m2⟩ := mul_neg hx hl
    have hc1 : -9223372036854775808 ≤ c + 1 := by omega
    have hc2 : c + 1 ≤ 9223372036854775807 := by omega
    have A := ih k (i + 1) c last (by omega) (by omega) h0 (by omega) hl
    have B := ih k (i + 1) c (rd l i) (by omega) (by omega) h0 (by omega) hx
    have C := ih k (i + 1) (c + 1) (rd l i) (by omega) (by omega) (by omega) (by omega) hx
    rw [curves_Changes.l0, if_pos (by omega), if_pos (by omega), if_pos (by omega), congouref04_Changes.l0, if_pos (show (i : Int) < (l.length : Int) by omega), if_pos (show 0 ≤ (i : Int) by omega), if_pos (show (i : Int) < (l.length : Int) by omega), m1, w64 (i := (i : Int) + 1) (by omega) (by omega), w64 (i := c + 1) hc1 hc2,
      show ((i : Int) + 1) = ((i + 1 : Nat) : Int) by omega]
    by_cases g0 : rd l i = 0
    · rw [if_neg (show ¬ rd l i * last < 0 by omega), if_pos g0, if_pos g0]
      exact A
    · rw [if_neg g0, if_neg g0, if_neg g0]
      by_cases g1 : rd l i * last < 0
      · rw [if_pos g1]
        by_cases g2 : rd l i > 0
        · rw [if_pos g2, if_pos (show last < 0 by omega)]
          exact C
        · rw [if_neg g2, if_pos (show rd l i < 0 by omega), if_pos (show last > 0 by omega)]
          exact C
      · rw [if_neg g1]
        by_cases g2 : rd l i > 0
        · rw [if_pos g2, if_neg (show ¬ last < 0 by omega), if_neg (show ¬ rd l i < 0 by omega)]
          exact B
        · rw [if_neg g2, if_pos (show rd l i < 0 by omega), if_neg (show ¬ last > 0 by omega)]
          exact B
theorem changes_ok {k : Nat} {l : List Int} (hL : l.length ≤ 20) (hk : 100 ≤ k) (hb : ∀ x, x ∈ l → -50 ≤ x ∧ x ≤ 50) :
    ∃ r, curves_Changes.f k l = some (r, 0) ∧ congouref04_Changes.f k l = some r := by
  obtain ⟨r, _, e2⟩ := changes_l0 l hL hb l.length k 0 0 0 (by omega) (by omega) (by omega) (by omega) (by omega)
  obtain ⟨r', e1', e2'⟩ := changes_l0 l hL hb l.length (k - 1) 0 0 0 (by omega) (by omega) (by omega) (by omega) (by omega)
  have hr : r = r' := by
    have := leo_up (f := fun k => congouref04_Changes.f k l) (congouref04_Changes.mono l) (show k - 1 ≤ k by omega) e2'
    have h2 : congouref04_Changes.f k l = some r := e2
    rw [h2] at this
    injection this
  subst hr
  refine ⟨r, ?_, e2⟩
  unfold curves_Changes.f
  rw [if_neg (by omega), contains_f (by omega) (by omega), dc_false (fun ⟨x, hx, h⟩ => by have := hb x hx; rcases h with h | h <;> omega), Option.bind_some]
  obtain ⟨k, rfl⟩ : ∃ m, k = m + 1 := ⟨k - 1, by omega⟩
  rw [curves_Changes.j0, if_neg (by decide)]
  exact e1'
theorem law_l0 (l : List Int) (hL : l.length < 4611686018427387904) (hbad : l.length > 20 ∨ ∃ x, x ∈ l ∧ badx x) : ∀ n k (i : Nat), i + n = l.length → n + 100 < k → (∀ j : Nat, j < i → ¬ badx (rd l j)) →
    congoulaw04_CurvesChanges.l0 k l 0 2 l l.length i = some true := by
  intro n
  induction n with
  | zero =>
    intro k i hi hk hj
    obtain ⟨k, rfl⟩ : ∃ m, k = m + 1 := ⟨k - 1, by omega⟩
    have h20 : l.length > 20 := by
      rcases hbad with h | ⟨x, hx, hb⟩
      · exact h
      · obtain ⟨q, hq, rfl⟩ := List.getElem_of_mem hx
        rw [← rd_nat l q hq] at hb
        exact absurd hb (hj q (by omega))
    rw [congoulaw04_CurvesChanges.l0, if_neg (by omega), if_pos (by omega), if_pos rfl, if_pos rfl, awake_f (by omega), Option.bind_some]
  | succ n ih =>
    intro k i hi hk hj
    obtain ⟨k, rfl⟩ : ∃ m, k = m + 1 := ⟨k - 1, by omega⟩
    rw [congoulaw04_CurvesChanges.l0, if_pos (by omega), if_pos (by omega), if_pos (by omega), if_pos rfl, if_pos rfl, awake_f (by omega), Option.bind_some]
    by_cases h1 : rd l i < -50
    · rw [if_pos h1]
    rw [if_neg h1]
    by_cases h2 : rd l i > 50
    · rw [if_pos h2]
    rw [if_neg h2, w64 (by omega) (by omega)]
    refine ih k (i + 1) (by omega) (by omega) (fun j hj2 => ?_)
    by_cases e : j = i
    · subst e
      intro hb
      rcases hb with hb | hb <;> omega
    · exact hj j (by omega)
theorem law_l0_ok (l : List Int) (r : Int) (hL : l.length ≤ 20) (hb : ∀ x, x ∈ l → -50 ≤ x ∧ x ≤ 50) (hr : ∀ k, 100 ≤ k → congouref04_Changes.f k l = some r) : ∀ n k (i : Nat), i + n = l.length → n + 200 < k →
    congoulaw04_CurvesChanges.l0 k l r 0 l l.length i = some true := by
  intro n
  induction n with
  | zero =>
    intro k i hi hk
    obtain ⟨k, rfl⟩ : ∃ m, k = m + 1 := ⟨k - 1, by omega⟩
    rw [congoulaw04_CurvesChanges.l0, if_neg (by omega), if_neg (by omega), hr k (by omega), Option.bind_some, if_pos rfl, if_pos rfl, awake_f (by omega), Option.bind_some]
  | succ n ih =>
    intro k i hi hk
    obtain ⟨k, rfl⟩ : ∃ m, k = m + 1 := ⟨k - 1, by omega⟩
    have hx := hb _ (rd_mem (show i < l.length by omega))
    rw [congoulaw04_CurvesChanges.l0, if_pos (by omega), if_pos (by omega), if_pos (by omega), if_neg (by omega), if_neg (by omega), w64 (by omega) (by omega)]
    exact ih k (i + 1) (by omega) (by omega)
theorem CurvesChanges : congoulaw04_CurvesChanges.Pure := by
  intro l h1 h2 h3
  obtain ⟨k, hk⟩ : ∃ k : Nat, 18446744073709570000 ≤ k := ⟨_, Nat.le_refl _⟩
  refine ⟨k, ?_⟩
  have hL : l.length < 4611686018427387904 := by omega
  unfold congoulaw04_CurvesChanges.f
  rw [list_f, Option.bind_some]
  by_cases hbad : l.length > 20 ∨ ∃ x, x ∈ l ∧ badx x
  · have : (l.take 23).length > 20 ∨ ∃ x, x ∈ l.take 23 ∧ badx x := by
      by_cases h20 : l.length > 20
      · exact Or.inl (by rw [List.length_take]; omega)
      · rw [List.take_of_length_le (by omega)]
        exact hbad
    rw [changes_bad (by rw [List.length_take]; omega) (by rw [List.length_take]; omega) this, Option.bind_some]
    exact law_l0 l hL hbad l.length k 0 (by omega) (by omega) (fun j hj => by omega)
  · have h20 : l.length ≤ 20 := by
      apply Classical.byContradiction
      intro hc
      exact hbad (Or.inl (by omega))
    have hb : ∀ x, x ∈ l → -50 ≤ x ∧ x ≤ 50 := by
      intro x hx
      apply Classical.byContradiction
      intro hc
      refine hbad (Or.inr ⟨x, hx, ?_⟩)
      unfold badx
      omega
    rw [List.take_of_length_le (by omega)]
    obtain ⟨r, e1, e2⟩ := changes_ok (k := 100) h20 (Nat.le_refl _) hb
    obtain ⟨r', e1', e2'⟩ := changes_ok (k := k) h20 (by omega) hb
    have hr : ∀ q, 100 ≤ q → congouref04_Changes.f q l = some r := fun q hq => leo_up (f := fun q => congouref04_Changes.f q l) (congouref04_Changes.mono l) hq e2
    have : r' = r := by
      have := hr k (by omega)
      rw [e2'] at this
      injection this
    subst this
    rw [e1', Option.bind_some]
    exact law_l0_ok l r' h20 hb hr l.length k 0 (by omega) (by omega)
end Go.Proofs.Ytpnocmkpeogifaa.Pure
