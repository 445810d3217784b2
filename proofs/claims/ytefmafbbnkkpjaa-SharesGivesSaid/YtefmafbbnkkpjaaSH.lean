/- What gives make of shares, in the reference. -/
import Derived.Test.YtefmafbbnkkpjaaXf38
import Derived.Test.YtefmafbbnkkpjaaSE
namespace Go.Proofs.Ytefmafbbnkkpjaa.Pure
open Go Go.RowKit Go.Proofs.Ytefmafbbnkkpjaa.X Go.Proofs.YtefmafbbnkkpjaaW.PrintWords Go.Proofs.YtefmafbbnkkpjaaW.PrintLast
set_option linter.unusedVariables false
set_option linter.unusedSimpArgs false

theorem given_l (l : List S78) (hl : l.length ≤ 9223372036854775807) : ∀ n i k x, i + n = l.length → Sh x → n < k →
    congouref01_Given.l0 k x l (l.length : Int) (i : Int) = some (match run ((l.drop i).map t78) x with | some z => (z, true) | none => ([], false)) := by
  intro n
  induction n with
  | zero =>
    intro i k x hi s hk
    obtain ⟨k, rfl⟩ : ∃ m, k = m + 1 := ⟨k - 1, by omega⟩
    rw [congouref01_Given.l0, if_neg (by omega), List.drop_of_length_le (by omega)]
    rfl
  | succ n ih =>
    intro i k x hi s hk
    obtain ⟨k, rfl⟩ : ∃ m, k = m + 1 := ⟨k - 1, by omega⟩
    rw [congouref01_Given.l0, if_pos (by omega), if_pos (by omega), if_pos (by omega), w64 (i := (i : Int) + 1) (by omega) (by omega), show (i : Int) + 1 = ((i + 1 : Nat) : Int) by omega, rd78_drop (l := l) (i := i) (by omega), List.map_cons, run, show t78 (rd_T78 l (i : Int)) = ((rd_T78 l (i : Int)).f0, (rd_T78 l (i : Int)).f1, (rd_T78 l (i : Int)).f2) from rfl]
    generalize (rd_T78 l (i : Int)).f0 = f
    generalize (rd_T78 l (i : Int)).f1 = t
    generalize (rd_T78 l (i : Int)).f2 = m
    have IH := fun h => ih (i + 1) k (give x f.toNat t.toNat m) (by omega) h (by omega)
    generalize run ((l.drop (i + 1)).map t78) (give x f.toNat t.toNat m) = R at *
    have hno : ¬ May x f t m → some (([] : List Int), false) = some (match if dc (May x f t m) = true then R else none with | some z => (z, true) | none => ([], false)) := by
      intro h; rw [dc_false h, if_neg (by decide)]
    have b1 := rd_bd s f
    have b2 := rd_bd s t
    show _ = some (match if dc (May x f t m) = true then R else none with | some z => (z, true) | none => ([], false))
    by_cases c1 : f < 0
    · rw [if_pos c1]; exact hno fun h => absurd h.f0 (by omega)
    rw [if_neg c1]
    by_cases c2 : f ≥ (x.length : Int)
    · rw [if_pos c2]; exact hno fun h => absurd h.f1 (by omega)
    rw [if_neg c2]
    by_cases c3 : t < 0
    · rw [if_pos c3]; exact hno fun h => absurd h.t0 (by omega)
    rw [if_neg c3]
    by_cases c4 : t ≥ (x.length : Int)
    · rw [if_pos c4]; exact hno fun h => absurd h.t1 (by omega)
    rw [if_neg c4]
    by_cases c5 : f = t
    · rw [if_pos c5]; exact hno fun h => h.ne c5
    rw [if_neg c5]
    by_cases c6 : m < 1
    · rw [if_pos c6]; exact hno fun h => absurd h.m1 (by omega)
    rw [if_neg c6]
    by_cases c7 : m > 20
    · rw [if_pos c7]; exact hno fun h => absurd h.m20 (by omega)
    rw [if_neg c7, if_pos (by omega), if_pos (by omega), if_pos (by omega), if_pos (by omega), w64 (i := 2 * m) (by omega) (by omega), w64 (i := rd x t + 2 * m) (by omega) (by omega)]
    by_cases c8 : rd x f < rd x t + 2 * m
    · rw [if_pos c8]; exact hno fun h => absurd h.two (by omega)
    · have h : May x f t m := ⟨by omega, by omega, by omega, by omega, c5, by omega, by omega, by omega⟩
      rw [if_neg c8, dc_true h, if_pos rfl, Option.bind_some, set_give h s]
      exact IH (give_sh h.may s)
theorem Given_f {x : List Int} (s : Sh x) (l : List S78) (hl : l.length ≤ 9223372036854775807) (k : Nat) (hk : l.length < k) :
    congouref01_Given.f k x l = some (match run (l.map t78) x with | some z => (z, true) | none => ([], false)) := by
  unfold congouref01_Given.f
  have := s.h6
  rw [Option.bind_some, if_pos (by rw [List.length_nil]; omega), List.nil_append]
  have := given_l l hl l.length 0 k x (by omega) s hk
  rwa [List.drop_zero] at this
theorem turns_no (y now : List Int) (hy : y.length ≤ 100) : ∀ n i k, i + n = y.length → n < k → congouref01_Turns.l0 k y now false (y.length : Int) (i : Int) = some false := by
  intro n
  induction n with
  | zero =>
    intro i k hi hk
    obtain ⟨k, rfl⟩ : ∃ m, k = m + 1 := ⟨k - 1, by omega⟩
    rw [congouref01_Turns.l0, if_neg (by omega)]
  | succ n ih =>
    intro i k hi hk
    obtain ⟨k, rfl⟩ : ∃ m, k = m + 1 := ⟨k - 1, by omega⟩
    rw [congouref01_Turns.l0, if_pos (by omega), if_neg (by decide), w64 (by omega) (by omega), show (i : Int) + 1 = ((i + 1 : Nat) : Int) by omega]
    exact ih (i + 1) k (by omega) (by omega)
theorem turns_l (y now : List Int) (hy : y.length ≤ 100) (hl : now.length = y.length) : ∀ n i k, i + n = y.length → n < k → congouref01_Turns.l0 k y now true (y.length : Int) (i : Int) = some (dc (now.drop i = y.drop i)) := by
  intro n
  induction n with
  | zero =>
    intro i k hi hk
    obtain ⟨k, rfl⟩ : ∃ m, k = m + 1 := ⟨k - 1, by omega⟩
    rw [congouref01_Turns.l0, if_neg (by omega), dc_true]
    rw [List.drop_of_length_le (by omega), List.drop_of_length_le (by omega)]
  | succ n ih =>
    intro i k hi hk
    obtain ⟨k, rfl⟩ : ∃ m, k = m + 1 := ⟨k - 1, by omega⟩
    rw [congouref01_Turns.l0, if_pos (by omega), if_pos rfl, if_pos (by omega), if_pos (by omega), if_pos (by omega), w64 (by omega) (by omega), show (i : Int) + 1 = ((i + 1 : Nat) : Int) by omega, rd_drop (l := now) (i := i) (by omega), rd_drop (l := y) (i := i) (by omega)]
    by_cases c : rd now (i : Int) = rd y (i : Int)
    · rw [c, beq_self_eq_true, ih (i + 1) k (by omega) (by omega)]
      congr 1; apply dc_congr; simp
    · rw [beq_eq_false_iff_ne.mpr c, turns_no y now hy n (i + 1) k (by omega) (by omega), dc_false]
      intro h
      exact c (List.cons.inj h).1
theorem Turns_f {x y : List Int} (h : Two x y) (l : List S78) (hl : l.length ≤ 9223372036854775807) (k : Nat) (hk : l.length + 50 < k) :
    congouref01_Turns.f k x y l = some (dc (run (l.map t78) x = some y)) := by
  unfold congouref01_Turns.f
  have := h.2.1.h6
  rw [Given_f h.1 l hl k (by omega), Option.bind_some]
  cases e : run (l.map t78) x with
  | none =>
    have := turns_no y [] (by omega) y.length 0 k (by omega) (by omega)
    rw [dc_false (by simp)]
    exact this
  | some z =>
    obtain ⟨_, h2, _, _⟩ := run_facts _ h.1 e
    have := turns_l y z (by omega) (by rw [h2]; exact h.2.2) y.length 0 k (by omega) (by omega)
    rw [List.drop_zero, List.drop_zero] at this
    refine this.trans ?_
    congr 1; apply dc_congr; simp

end Go.Proofs.Ytefmafbbnkkpjaa.Pure
