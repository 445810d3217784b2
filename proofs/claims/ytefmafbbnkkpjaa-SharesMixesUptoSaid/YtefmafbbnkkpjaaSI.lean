/- Copies of matrices, tables and fractions; all numbers of a matrix. -/
import Derived.Test.YtefmafbbnkkpjaaX0
import Derived.Test.YtefmafbbnkkpjaaXG2a
import Derived.Test.YtefmafbbnkkpjaaSF
namespace Go.Proofs.Ytefmafbbnkkpjaa.Pure
open Go Go.RowKit Go.Proofs.Ytefmafbbnkkpjaa.X Go.Proofs.YtefmafbbnkkpjaaW.PrintWords Go.Proofs.YtefmafbbnkkpjaaW.PrintLast Go.Proofs.YtefmafbbnkkpjaaW.PrintMore
set_option linter.unusedVariables false
set_option linter.unusedSimpArgs false

theorem clone62_f (l : List S62) (h : l.length < 8796093022208) : api_Frac_52.f l = some l := by
  simp [api_Frac_52.f, h]
theorem take_mn (l : List S62) (n : Nat) : l.take (mn (l.length : Int) (n : Int)).toNat = l.take n := by
  rw [mn_min, show (min (l.length : Int) (n : Int)).toNat = min l.length n by omega]
  rcases Nat.lt_or_ge l.length n with c | c
  · rw [Nat.min_eq_left (Nat.le_of_lt c), List.take_of_length_le (Nat.le_refl _), List.take_of_length_le (Nat.le_of_lt c)]
  · rw [Nat.min_eq_right c]
/-- the matrix that is copied -/
def cpM (m : List (List S62)) : List (List S62) := (m.take 9).map fun r => r.take 9
theorem matrix_l (M : List (List S62)) (hM : M.length ≤ 9223372036854775807) : ∀ (n i k : Nat) (acc : List (List S62)), i + n = M.length → acc.length ≤ i → acc.length ≤ 9 → n < k → congoulaw01_matrix.l0 k acc M (M.length : Int) (i : Int) = some (acc ++ ((M.drop i).take (9 - i)).map fun r => r.take 9) := by
  intro n
  induction n with
  | zero =>
    intro i k acc hi ha h9 hk
    obtain ⟨k, rfl⟩ : ∃ q, k = q + 1 := ⟨k - 1, by omega⟩
    rw [congoulaw01_matrix.l0, if_neg (by omega), List.drop_of_length_le (by omega)]
    simp
  | succ n ih =>
    intro i k acc hi ha h9 hk
    obtain ⟨k, rfl⟩ : ∃ q, k = q + 1 := ⟨k - 1, by omega⟩
    have hil : i < M.length := by omega
    rw [congoulaw01_matrix.l0, if_pos (by omega), if_pos (by omega), if_pos (by omega)]
    by_cases h : i < 9
    · have e : mn ((rd_L5 M (i : Int)).length : Int) 9 = min ((rd_L5 M (i : Int)).length : Int) 9 := mn_min _ _
      rw [if_pos (by omega), if_pos (by rw [e]; omega), if_pos (by rw [e]; omega), show (9 : Int) = ((9 : Nat) : Int) from rfl, take_mn, clone62_f _ (by rw [List.length_take]; omega), Option.bind_some, if_pos (by omega), w6 (by omega) (by omega), show (i : Int) + 1 = ((i + 1 : Nat) : Int) by omega, ih (i + 1) k _ (by omega) (by simp; omega) (by simp; omega) (by omega), rdM_drop hil, show 9 - i = (9 - (i + 1)) + 1 by omega, List.take_succ_cons, List.map_cons, List.append_assoc]
      rfl
    · rw [if_neg (by omega), w6 (by omega) (by omega), show (i : Int) + 1 = ((i + 1 : Nat) : Int) by omega, ih (i + 1) k _ (by omega) (by omega) h9 (by omega), show 9 - i = 0 by omega, show 9 - (i + 1) = 0 by omega]
      rfl
theorem matrix_f (M : List (List S62)) (hM : M.length ≤ 9223372036854775807) (k : Nat) (hk : M.length < k) : congoulaw01_matrix.f k M = some (cpM M) := by
  have := matrix_l M hM M.length 0 k [] (by omega) (by simp) (by simp) hk
  unfold congoulaw01_matrix.f cpM
  simpa using this
theorem cpM_same {m : List (List S62)} (h : m.length ≤ 9) (hr : ∀ r ∈ m, r.length ≤ 9) : cpM m = m := by
  unfold cpM
  rw [List.take_of_length_le h]
  conv => rhs; rw [← List.map_id m]
  exact List.map_congr_left fun r hx => List.take_of_length_le (hr r hx)
theorem cpM_len (m : List (List S62)) : (cpM m).length = min 9 m.length := by simp [cpM]
theorem cpM_at {m : List (List S62)} {r : List S62} (h : r ∈ cpM m) : r.length ≤ 9 ∧ ∃ s ∈ m, r = s.take 9 := by
  obtain ⟨s, hs, rfl⟩ := List.mem_map.mp h
  exact ⟨by rw [List.length_take]; omega, s, List.mem_of_mem_take hs, rfl⟩
/-- all numbers of a matrix -/
theorem numbers_l (M : List (List S62)) (hM : M.length ≤ 9223372036854775807) (hs : M.flatten.length < 8796093022208) : ∀ (n i k : Nat), i + n = M.length → n < k → congouref01_numbers.l0 k (M.take i).flatten M (M.length : Int) (i : Int) = some M.flatten := by
  intro n
  induction n with
  | zero =>
    intro i k hi hk
    obtain ⟨k, rfl⟩ : ∃ q, k = q + 1 := ⟨k - 1, by omega⟩
    rw [congouref01_numbers.l0, if_neg (by omega), List.take_of_length_le (by omega)]
  | succ n ih =>
    intro i k hi hk
    obtain ⟨k, rfl⟩ : ∃ q, k = q + 1 := ⟨k - 1, by omega⟩
    have hil : i < M.length := by omega
    have e : (M.take i).flatten ++ rd_L5 M (i : Int) = (M.take (i + 1)).flatten := by
      rw [List.take_succ_eq_append_getElem hil, List.flatten_append]
      simp [rd_L5, List.getD_eq_getElem?_getD, List.getElem?_eq_getElem hil]
    have hlen : (M.take (i + 1)).flatten.length ≤ M.flatten.length := by
      conv => rhs; rw [← List.take_append_drop (i + 1) M, List.flatten_append, List.length_append]
      omega
    have e2 : (M.take i).flatten.length + (rd_L5 M (i : Int)).length = (M.take (i + 1)).flatten.length := by rw [← e, List.length_append]
    rw [congouref01_numbers.l0, if_pos (by omega), if_pos (by omega), if_pos (by omega), if_pos (by omega), w6 (by omega) (by omega), show (i : Int) + 1 = ((i + 1 : Nat) : Int) by omega, e]
    exact ih (i + 1) k (by omega) (by omega)
theorem numbers_f (M : List (List S62)) (hM : M.length ≤ 9223372036854775807) (hs : M.flatten.length < 8796093022208) (k : Nat) (hk : M.length < k) : congouref01_numbers.f k M = some M.flatten := by
  have := numbers_l M hM hs M.length 0 k (by omega) hk
  unfold congouref01_numbers.f
  simpa using this
end Go.Proofs.Ytefmafbbnkkpjaa.Pure
