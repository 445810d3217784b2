/- How often the sign changes: the program's count, and chains of signs. -/
import Derived.Test.YtpnocmkpeogifaaSV
import Derived.Test.YtpnocmkpeogifaaXG4a
import Derived.Test.YtpnocmkpeogifaaST
namespace Go.Proofs.Ytpnocmkpeogifaa.Pure
open Go.RowKit Go.Proofs.Ytpnocmkpeogifaa.X Go.Proofs.YtpnocmkpeogifaaW.PrintWords Go.Proofs.YtpnocmkpeogifaaW.PrintLast
set_option linter.unusedVariables false
set_option linter.unusedSimpArgs false

def badx (x : Int) : Prop := x < -50 ∨ x > 50
theorem ch1 (x : Int) : curves_Changes_1.f x = some (dc (badx x)) := by
 unfold curves_Changes_1.f
 by_cases h : x < -50
 ·rw [if_pos h, dc_true (show badx x from Or.inl h)]
 ·rw [if_neg h, dec_dc]
  exact congrArg some (dc_congr ⟨Or.inr, fun h2 => by rcases h2 with h2 | h2 <;> omega⟩)
theorem index_l0 (l : List Int) (hL : l.length < 4611686018427387904) : ∀ n k i, i + n = l.length → n < k →
  ∃ z, slices_IndexFunc_int_int_with60.l0 k l l.length (i : Nat) = some z ∧ (z ≥ 0 ↔ ∃ j : Nat, i ≤ j ∧ j < l.length ∧ badx (rd l j)) := by
 intro n
 induction n with
 | zero =>
  intro k i hi hk
  obtain ⟨k, rfl⟩ : ∃ m, k = m + 1 := ⟨k - 1, by omega⟩
  exact ⟨-1, by rw [slices_IndexFunc_int_int_with60.l0, if_neg (by omega)], by omega, fun ⟨j, h1, h2, _⟩ => by omega⟩
 | succ n ih =>
  intro k i hi hk
  obtain ⟨k, rfl⟩ : ∃ m, k = m + 1 := ⟨k - 1, by omega⟩
  obtain ⟨z, e, h⟩ := ih k (i + 1) (by omega) (by omega)
  rw [slices_IndexFunc_int_int_with60.l0, if_pos (by omega), if_pos (by omega), if_pos (by omega), ch1, Option.bind_some]
  by_cases hb : badx (rd l i)
  ·rw [dc_true hb, if_pos rfl]
   exact ⟨_, rfl, fun _ => ⟨i, Nat.le_refl _, by omega, hb⟩, fun _ => by omega⟩
  ·rw [dc_false hb, if_neg (by decide), w64 (by omega) (by omega)]
   refine ⟨z, e, ?_⟩
   rw [h, ex_step (Q := fun j => badx (rd l j)) (show i < l.length by omega)]
   simp [hb]
theorem contains_f {k : Nat} {l : List Int} (hL : l.length < 4611686018427387904) (hk : l.length < k) :
  slices_ContainsFunc_int_int_with60.f k l = some (dc (∃ x, x ∈ l ∧ badx x)) := by
 unfold slices_ContainsFunc_int_int_with60.f slices_IndexFunc_int_int_with60.f
 obtain ⟨z, e, h⟩ := index_l0 l hL l.length k 0 (by omega) hk
 rw [show ((0 : Int)) = ((0 : Nat) : Int) from rfl, e, Option.bind_some, dec_dc]
 refine congrArg some (dc_congr ?_)
 rw [show (((0 : Nat) : Int)) = 0 from rfl, h]
 constructor
 ·intro ⟨j, _, h1, h2⟩
  exact ⟨_, rd_mem h1, h2⟩
 ·intro ⟨x, hx, hb⟩
  obtain ⟨i, hi, rfl⟩ := List.getElem_of_mem hx
  refine ⟨i, by omega, hi, ?_⟩
  rw [rd_nat l i hi]
  exact hb
theorem mul_neg {a b : Int} (ha : -50 ≤ a ∧ a ≤ 50) (hb : -50 ≤ b ∧ b ≤ 50) : wrap64 (a * b) = a * b ∧ (a * b < 0 ↔ (a < 0 ∧ 0 < b) ∨ (0 < a ∧ b < 0)) := by
 have m : (a * b).natAbs ≤ 2500 := natAbs_mul_le (A := 50) (B := 50) (by omega) (by omega) (by omega)
 refine ⟨w64a m (by omega), ?_⟩
 rcases Int.lt_trichotomy a 0 with h | h | h
 ·rcases Int.lt_trichotomy b 0 with g | g | g
  ·have := Int.mul_pos_of_neg_of_neg h g
   omega
  ·subst g; simp
  ·have := Int.mul_neg_of_neg_of_pos h g
   omega
 ·subst h; simp
 ·rcases Int.lt_trichotomy b 0 with g | g | g
  ·have := Int.mul_neg_of_pos_of_neg h g
   omega
  ·subst g; simp
  ·have := Int.mul_pos h g
   omega
/-- how often the sign changes behind a last one -/
def chg : Int → List Int → Nat
  | _, [] => 0
  | last, x :: l => if x = 0 then chg last l else (if x * last < 0 then 1 else 0) + chg x l
theorem drop_rd {l : List Int} {i : Nat} (h : i < l.length) : l.drop i = rd l (i : Int) :: l.drop (i + 1) := by
  rw [rd_nat l i h, List.drop_eq_getElem_cons h]
theorem changes_n (l : List Int) (hL : l.length ≤ 20) (hb : ∀ x, x ∈ l → -50 ≤ x ∧ x ≤ 50) : ∀ n k i (c : Nat) (last : Int), i + n = l.length → n < k → c ≤ i → -50 ≤ last ∧ last ≤ 50 →
    curves_Changes.l0 k (c : Int) last l l.length (i : Nat) = some (((c + chg last (l.drop i) : Nat) : Int), 0) := by
  intro n
  induction n with
  | zero =>
    intro k i c last hi hk _ _
    obtain ⟨k, rfl⟩ : ∃ m, k = m + 1 := ⟨k - 1, by omega⟩
    rw [curves_Changes.l0, if_neg (by omega), List.drop_eq_nil_of_le (by omega)]
    rfl
  | succ n ih =>
    intro k i c last hi hk h1 hl
    obtain ⟨k, rfl⟩ : ∃ m, k = m + 1 := ⟨k - 1, by omega⟩
    have hx := hb _ (rd_mem (show i < l.length by omega))
    obtain ⟨m1, m2⟩ := mul_neg hx hl
    have A := ih k (i + 1) c last (by omega) (by omega) (by omega) hl
    have B := ih k (i + 1) c (rd l i) (by omega) (by omega) (by omega) hx
    have C := ih k (i + 1) (c + 1) (rd l i) (by omega) (by omega) (by omega) hx
    have U : curves_Changes.l0 (k + 1) (c : Int) last l l.length (i : Nat) = if rd l i * last < 0 then curves_Changes.l0 k ((c + 1 : Nat) : Int) (rd l i) l l.length ((i + 1 : Nat) : Int) else if rd l i = 0 then curves_Changes.l0 k (c : Int) last l l.length ((i + 1 : Nat) : Int) else curves_Changes.l0 k (c : Int) (rd l i) l l.length ((i + 1 : Nat) : Int) := by
      rw [curves_Changes.l0, if_pos (by omega), if_pos (by omega), if_pos (by omega), m1, w64 (i := (i : Int) + 1) (by omega) (by omega), w64 (i := (c : Int) + 1) (by omega) (by omega),
       show ((i : Int) + 1) = ((i + 1 : Nat) : Int) by omega, show ((c : Int) + 1) = ((c + 1 : Nat) : Int) by omega]
      by_cases g1 : rd l i * last < 0
      · have g0 : ¬ rd l i = 0 := by intro e; rw [e] at g1; omega
        simp only [if_pos g1, if_neg g0]
      · simp only [if_neg g1]
    rw [U, drop_rd (show i < l.length by omega)]
    simp only [chg]
    by_cases g0 : rd l i = 0
    · rw [if_neg (show ¬ rd l i * last < 0 by omega), if_pos g0, if_pos g0]
      exact A
    · by_cases g1 : rd l i * last < 0
      · rw [if_pos g1, if_neg g0, if_pos g1, ← Nat.add_assoc]
        exact C
      · rw [if_neg g1, if_neg g0, if_neg g0, if_neg g1, Nat.zero_add]
        exact B
theorem changes_f {k : Nat} {l : List Int} (hL : l.length ≤ 20) (hk : 100 ≤ k) (hb : ∀ x, x ∈ l → -50 ≤ x ∧ x ≤ 50) : curves_Changes.f k l = some ((chg 0 l : Int), 0) := by
  unfold curves_Changes.f
  rw [if_neg (by omega), contains_f (by omega) (by omega), dc_false (fun ⟨x, hx, h⟩ => by have := hb x hx; rcases h with h | h <;> omega), Option.bind_some]
  obtain ⟨k, rfl⟩ : ∃ m, k = m + 1 := ⟨k - 1, by omega⟩
  have e := changes_n l hL hb l.length k 0 0 0 (by omega) (by omega) (by omega) (by omega)
  rw [List.drop_zero, Nat.zero_add] at e
  rw [curves_Changes.j0, if_neg (by decide)]
  exact e

/-! ### chains -/
def SgI (s : Bool) (x : Int) : Prop := if s = true then 0 < x else x < 0
theorem sgi_iff (s : Bool) (x : Int) : Sg s (x : Rat) ↔ SgI s x := by
  cases s
  · exact Rat.intCast_lt_intCast (a := x) (b := 0)
  · exact Rat.intCast_lt_intCast (a := 0) (b := x)
def LR (l : List Int) (i : Nat) : Rat := ((rd l (i : Int) : Int) : Rat)
theorem lr_out {l : List Int} {i : Nat} (h : l.length ≤ i) : LR l i = 0 := by
  unfold LR rd
  rw [Int.toNat_natCast, List.getD_eq_getElem?_getD, List.getElem?_eq_none h]
  rfl
theorem sgi_neg {s : Bool} {x y : Int} (h : SgI s x) (g : SgI (!s) y) : x * y < 0 := by
  cases s
  · simp [SgI] at h g; exact Int.mul_neg_of_neg_of_pos h g
  · simp [SgI] at h g; exact Int.mul_neg_of_pos_of_neg h g
theorem sgi_cases {x : Int} (h : x ≠ 0) (s : Bool) : SgI s x ∨ SgI (!s) x := by
  cases s <;> simp [SgI] <;> omega
theorem sgi_same {s : Bool} {x y : Int} (h : SgI s x) (g : SgI s y) : ¬ x * y < 0 := by
  cases s
  · simp [SgI] at h g; have := Int.mul_pos_of_neg_of_neg h g; omega
  · simp [SgI] at h g; have := Int.mul_pos h g; omega
/-- a count gives a chain -/
theorem chg_ch (l : List Int) : ∀ n i, i + n = l.length → ∀ last s c, SgI s last → chg last (l.drop i) = c + 1 → Ch (LR l) c (!s) i := by
  intro n
  induction n with
  | zero =>
    intro i hi last s c hs h
    rw [List.drop_eq_nil_of_le (by omega)] at h
    simp [chg] at h
  | succ n ih =>
    intro i hi last s c hs h
    rw [drop_rd (show i < l.length by omega)] at h
    simp only [chg] at h
    by_cases g0 : rd l i = 0
    · rw [if_pos g0] at h
      exact ch_weak (Nat.le_succ i) (ih (i + 1) (by omega) last s c hs h)
    · rw [if_neg g0] at h
      rcases sgi_cases g0 s with g | g
      · rw [if_neg (sgi_same g hs), Nat.zero_add] at h
        exact ch_weak (Nat.le_succ i) (ih (i + 1) (by omega) _ s c g h)
      · have hx : Sg (!s) (LR l i) := (sgi_iff _ _).mpr g
        rw [if_pos (by rw [Int.mul_comm]; exact sgi_neg hs g)] at h
        cases c with
        | zero => exact ⟨i, Nat.le_refl _, hx⟩
        | succ c => exact ⟨i, Nat.le_refl _, hx, ih (i + 1) (by omega) _ (!s) c g (by omega)⟩
theorem chg_ch0 (l : List Int) : ∀ n i, i + n = l.length → ∀ c, chg 0 (l.drop i) = c + 1 → ∃ s, Ch (LR l) (c + 1) s i := by
  intro n
  induction n with
  | zero =>
    intro i hi c h
    rw [List.drop_eq_nil_of_le (by omega)] at h
    simp [chg] at h
  | succ n ih =>
    intro i hi c h
    rw [drop_rd (show i < l.length by omega)] at h
    simp only [chg] at h
    by_cases g0 : rd l i = 0
    · rw [if_pos g0] at h
      obtain ⟨s, e⟩ := ih (i + 1) (by omega) c h
      exact ⟨s, ch_weak (Nat.le_succ i) e⟩
    · rw [if_neg g0, Int.mul_zero, if_neg (by omega), Nat.zero_add] at h
      obtain ⟨s, g⟩ : ∃ s, SgI s (rd l i) := by
        rcases sgi_cases g0 true with g | g
        · exact ⟨_, g⟩
        · exact ⟨_, g⟩
      exact ⟨s, i, Nat.le_refl _, (sgi_iff _ _).mpr g, chg_ch l n (i + 1) (by omega) _ s c g h⟩
/-- a chain is no longer than the count -/
theorem ch_chg (l : List Int) : ∀ n i, i + n = l.length → ∀ last c s, Ch (LR l) c s i → c ≤ chg last (l.drop i) ∧ (SgI (!s) last → c + 1 ≤ chg last (l.drop i)) := by
  intro n
  induction n with
  | zero =>
    intro i hi last c s h
    have no : ∀ q, i ≤ q → Sg s (LR l q) → False := by
      intro q h1 h2
      rw [lr_out (by omega)] at h2
      cases s <;> simp [Sg] at h2
    cases c with
    | zero => obtain ⟨q, h1, h2⟩ := h; exact (no q h1 h2).elim
    | succ c => obtain ⟨q, h1, h2, _⟩ := h; exact (no q h1 h2).elim
  | succ n ih =>
    intro i hi last c s h
    rw [drop_rd (show i < l.length by omega)]
    simp only [chg]
    have later : Ch (LR l) c s (i + 1) → c ≤ (if rd l i = 0 then chg last (l.drop (i + 1)) else (if rd l i * last < 0 then 1 else 0) + chg (rd l i) (l.drop (i + 1))) ∧ (SgI (!s) last → c + 1 ≤ (if rd l i = 0 then chg last (l.drop (i + 1)) else (if rd l i * last < 0 then 1 else 0) + chg (rd l i) (l.drop (i + 1)))) := by
      intro h
      by_cases g0 : rd l i = 0
      · rw [if_pos g0]; exact ih (i + 1) (by omega) last c s h
      · rw [if_neg g0]
        obtain ⟨a1, a2⟩ := ih (i + 1) (by omega) (rd l i) c s h
        refine ⟨by omega, fun hl => ?_⟩
        rcases sgi_cases g0 s with g | g
        · rw [if_pos (sgi_neg g hl)]; omega
        · have := a2 g; omega
    have now : Sg s (LR l i) → rd l i ≠ 0 ∧ (SgI (!s) last → rd l i * last < 0) := by
      intro g
      have g2 := (sgi_iff s _).mp g
      refine ⟨fun e => ?_, fun hl => sgi_neg g2 hl⟩
      rw [e] at g2
      cases s <;> simp [SgI] at g2
    cases c with
    | zero =>
      obtain ⟨q, h1, h2⟩ := h
      by_cases e : q = i
      · rw [e] at h2
        obtain ⟨n1, n2⟩ := now h2
        rw [if_neg n1]
        exact ⟨by omega, fun hl => by rw [if_pos (n2 hl)]; omega⟩
      · exact later ⟨q, by omega, h2⟩
    | succ c =>
      obtain ⟨q, h1, h2, h3⟩ := h
      by_cases e : q = i
      · rw [e] at h2 h3
        obtain ⟨n1, n2⟩ := now h2
        have g2 := (sgi_iff s _).mp h2
        have := (ih (i + 1) (by omega) (rd l i) c (!s) h3).2 (by rw [Bool.not_not]; exact g2)
        rw [if_neg n1]
        exact ⟨by omega, fun hl => by rw [if_pos (n2 hl)]; omega⟩
      · exact later ⟨q, by omega, h2, h3⟩
end Go.Proofs.Ytpnocmkpeogifaa.Pure
