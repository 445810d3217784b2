/- Mixtures: what both packages tell them by; the whole numbers of a mixture. -/
import Derived.Test.YtefmafbbnkkpjaaSI
import Derived.Test.YtefmafbbnkkpjaaX0
import Derived.Test.YtefmafbbnkkpjaaXf98
import Derived.Test.YtefmafbbnkkpjaaE97
namespace Go.Proofs.Ytefmafbbnkkpjaa.Pure
open Go Go.RowKit Go.Proofs.Ytefmafbbnkkpjaa.X Go.Proofs.YtefmafbbnkkpjaaW.PrintWords Go.Proofs.YtefmafbbnkkpjaaW.PrintLast Go.Proofs.YtefmafbbnkkpjaaW.PrintMore
set_option linter.unusedVariables false
set_option linter.unusedSimpArgs false

/-- a fraction as a whole number of D-ths -/
def val (D : Int) (f : S62) : Int := f.f0 * (D / f.f1)
def rowV (D : Int) (r : List S62) : List Int := r.map (val D)
/-- the sum of a column -/
def colV (D : Int) (m : List (List S62)) (j : Nat) : Int := (m.map fun r => val D (rd_T62 r (j : Int))).sum
/-- a mixture with n rows -/
structure Mx (most : Int) (n : Nat) (m : List (List S62)) (D : Int) : Prop where
  len : m.length = n
  sq : ∀ r ∈ m, r.length = n
  mul : mulP most true m.flatten 1 = D
  ne : D ≠ 0
  rows : ∀ r ∈ m, (rowV D r).sum = D
  cols : ∀ j, j < n → colV D m j = D
/-- the fractions of a matrix are D-ths -/
structure Th (D : Int) (f : S62) : Prop where
  d1 : 1 ≤ f.f1
  dv : f.f1 ∣ D
  n0 : 0 ≤ f.f0
  n1 : f.f0 ≤ f.f1
theorem Th.bd {D : Int} {f : S62} (h : Th D f) (hD : 0 ≤ D) : 0 ≤ val D f ∧ val D f ≤ D := by
  unfold val
  have h1 : 0 ≤ D / f.f1 := Int.ediv_nonneg hD (by have := h.d1; omega)
  have h2 : f.f1 * (D / f.f1) = D := Int.mul_ediv_cancel' h.dv
  have h3 := Int.mul_le_mul_of_nonneg_right h.n1 h1
  exact ⟨Int.mul_nonneg h.n0 h1, by omega⟩
theorem Th.go {D : Int} {f : S62} (h : Th D f) (hD : 0 ≤ D) (hm : D ≤ 1000000000000) : wrap64 (f.f0 * wrap64 (Int.tdiv D f.f1)) = val D f ∧ wrap64 (wrap64 (Int.tdiv D f.f1) * f.f0) = val D f ∧ f.f1 ≠ 0 := by
  have e : Int.tdiv D f.f1 = D / f.f1 := Int.tdiv_eq_ediv_of_dvd h.dv
  have h1 : 0 ≤ D / f.f1 := Int.ediv_nonneg hD (by have := h.d1; omega)
  have h2 : D / f.f1 ≤ D := Int.ediv_le_self _ hD
  obtain ⟨b1, b2⟩ := h.bd hD
  unfold val at *
  rw [e, w6 (i := D / f.f1) (by omega) (by omega), Int.mul_comm (D / f.f1), w6 (by omega) (by omega)]
  exact ⟨rfl, rfl, by have := h.d1; omega⟩
theorem sum_bd (D : Int) : ∀ l : List S62, (∀ f ∈ l, Th D f) → 0 ≤ D → 0 ≤ (rowV D l).sum ∧ (rowV D l).sum ≤ D * (l.length : Nat)
  | [], _, _ => by simp [rowV]
  | f :: fs, h, hD => by
    have ih := sum_bd D fs (fun x hx => h x (List.mem_cons_of_mem _ hx)) hD
    have := (h f List.mem_cons_self).bd hD
    unfold rowV at *
    rw [List.map_cons, List.sum_cons, List.length_cons, Int.natCast_add, Int.mul_add]
    omega
theorem take_succ_sum (l : List Int) (c : Nat) (h : c < l.length) : (l.take (c + 1)).sum = (l.take c).sum + l[c] ∧ l.take (c + 1) = l.take c ++ [l[c]] := by
  rw [List.take_succ_eq_append_getElem h, List.sum_append]
  simp
theorem rowV_at {D : Int} {row : List S62} {c : Nat} (h : c < row.length) : (rowV D row)[c]'(by simpa [rowV] using h) = val D (rd_T62 row (c : Int)) := by
  simp [rowV, rd_T62, List.getD_eq_getElem?_getD, List.getElem?_eq_getElem h]
theorem rd_mem {row : List S62} {c : Nat} (h : c < row.length) : rd_T62 row (c : Int) ∈ row := List.mem_of_mem_drop (rdF_drop h ▸ List.mem_cons_self)
theorem rdM_mem {m : List (List S62)} {c : Nat} (h : c < m.length) : rd_L5 m (c : Int) ∈ m := List.mem_of_mem_drop (rdM_drop h ▸ List.mem_cons_self)
/-- one row, in the program -/
theorem parts_row {D : Int} (hD : 0 ≤ D) (hm : D ≤ 10000000) {M : List (List S62)} (hM : M.length ≤ 9) {N : Nat} (hN : N ≤ 9) (row : List S62) (hrl : row.length = N) (hrow : ∀ f ∈ row, Th D f) (r : Nat) (hr : r < 9) (acc : List (List Int)) (hacc : acc.length ≤ 9) :
    ∀ (n c k : Nat) (cols : List Int), c + n = N → cols.length = N → (∀ j, c ≤ j → j < N → 0 ≤ cols.getD j 0 ∧ cols.getD j 0 ≤ 100000000000) →
      ∃ cols' : List Int, cols'.length = N ∧ (∀ j, j < N → cols'.getD j 0 = cols.getD j 0 + (if c ≤ j then val D (rd_T62 row (j : Int)) else 0)) ∧
        shares_mixture_parts.l1 (n + 1 + k) D acc cols ((rowV D row).take c) ((rowV D row).take c).sum M (M.length : Int) (r : Int) row (row.length : Int) (c : Int) =
          if (rowV D row).sum = D then shares_mixture_parts.l0 k D (acc ++ [rowV D row]) cols' M (M.length : Int) ((r : Int) + 1) else some ([], false) := by
  intro n
  have hlV : (rowV D row).length = N := by simp [rowV, hrl]
  induction n with
  | zero =>
    intro c k cols hc hl hb
    refine ⟨cols, hl, fun j hj => by rw [if_neg (by omega), Int.add_zero], ?_⟩
    rw [show 0 + 1 + k = k + 1 by omega, shares_mixture_parts.l1, if_neg (by omega), List.take_of_length_le (by omega)]
    by_cases h : (rowV D row).sum = D
    · rw [if_pos h, if_pos h, if_pos (by omega), w6 (by omega) (by omega)]
    · rw [if_neg h, if_neg h]
  | succ n ih =>
    intro c k cols hc hl hb
    have hcl : c < row.length := by omega
    have hT := hrow _ (rd_mem hcl)
    obtain ⟨g1, g2, g3⟩ := hT.go hD (by omega)
    obtain ⟨v1, v2⟩ := hT.bd hD
    obtain ⟨s1, s2⟩ := take_succ_sum (rowV D row) c (by omega)
    rw [rowV_at hcl] at s1 s2
    have hs := sum_bd D (row.take c) (fun f hf => hrow f (List.mem_of_mem_take hf)) hD
    have hs2 : ((rowV D row).take c).sum = (rowV D (row.take c)).sum := by simp [rowV, List.map_take]
    have hs3 : D * ((row.take c).length : Nat) ≤ 90000000 := by
      have : ((row.take c).length : Int) ≤ 9 := by rw [List.length_take]; omega
      have := Int.mul_le_mul hm this (by omega) (by omega)
      omega
    have hcols := hb c (Nat.le_refl _) (by omega)
    have hrd : rd cols (c : Int) = cols.getD c 0 := rd_at _ _
    generalize hv : val D (rd_T62 row (c : Int)) = v at *
    rw [show n + 1 + 1 + k = (n + 1 + k) + 1 by omega, shares_mixture_parts.l1, if_pos (by omega), if_pos (by omega), if_pos (by omega), if_neg g3, if_pos (by rw [List.length_take]; omega), if_pos (by omega), g1, hrd, w6 (i := cols.getD c 0 + v) (by omega) (by omega), w6 (i := _ + v) (by omega) (by omega), w6 (i := (c : Int) + 1) (by omega) (by omega), ← s1, ← s2, show (c : Int) + 1 = ((c + 1 : Nat) : Int) by omega, Int.toNat_natCast]
    obtain ⟨cols', e1, e2, e3⟩ := ih (c + 1) k (cols.set c (cols.getD c 0 + v)) (by omega) (by rw [List.length_set]; exact hl) (fun j hcj hj => by
      rw [set_getD _ _ _ _ (by omega), if_neg (by omega)]
      exact hb j (by omega) hj)
    refine ⟨cols', e1, fun j hj => ?_, e3⟩
    rw [e2 j hj, set_getD _ _ _ _ (by omega)]
    by_cases h : j = c
    · subst h; rw [if_pos rfl, if_neg (by omega), if_pos (by omega), hv]; omega
    · rw [if_neg h]
      by_cases h2 : c + 1 ≤ j
      · rw [if_pos h2, if_pos (by omega)]
      · rw [if_neg h2, if_neg (by omega)]
theorem colV_take {D : Int} {m : List (List S62)} {r : Nat} (h : r < m.length) (j : Nat) : colV D (m.take (r + 1)) j = colV D (m.take r) j + val D (rd_T62 (rd_L5 m (r : Int)) (j : Int)) := by
  unfold colV
  rw [List.take_succ_eq_append_getElem h, List.map_append, List.sum_append]
  simp [rd_L5, List.getD_eq_getElem?_getD, List.getElem?_eq_getElem h]
theorem colV_bd {D : Int} (hD : 0 ≤ D) {N : Nat} (j : Nat) (hj : j < N) : ∀ m : List (List S62), (∀ r ∈ m, r.length = N) → (∀ r ∈ m, ∀ f ∈ r, Th D f) → 0 ≤ colV D m j ∧ colV D m j ≤ D * (m.length : Nat)
  | [], _, _ => by simp [colV]
  | r :: m, h1, h2 => by
    have ih := colV_bd hD j hj m (fun x hx => h1 x (List.mem_cons_of_mem _ hx)) (fun x hx => h2 x (List.mem_cons_of_mem _ hx))
    have hl := h1 r List.mem_cons_self
    have := (h2 r List.mem_cons_self _ (rd_mem (c := j) (by omega))).bd hD
    unfold colV at *
    rw [List.map_cons, List.sum_cons, List.length_cons, Int.natCast_add, Int.mul_add]
    omega
theorem parts_l {D : Int} (hD : 0 ≤ D) (hm : D ≤ 10000000) {M : List (List S62)} (hM : M.length ≤ 9) {N : Nat} (hN : N ≤ 9) (hsq : ∀ r ∈ M, r.length = N) (hT : ∀ r ∈ M, ∀ f ∈ r, Th D f) :
    ∀ (n r k : Nat) (cols : List Int), r + n = M.length → cols.length = N → (∀ j, j < N → cols.getD j 0 = colV D (M.take r) j) → (∀ row ∈ M.take r, (rowV D row).sum = D) →
      shares_mixture_parts.l0 (n * 12 + 1 + k) D ((M.take r).map (rowV D)) cols M (M.length : Int) (r : Int) = some (if dc (∀ row ∈ M, (rowV D row).sum = D) = true then (M.map (rowV D), dc (∀ j, j < N → colV D M j = D)) else ([], false)) := by
  intro n
  induction n with
  | zero =>
    intro r k cols hr hl hc hs
    rw [List.take_of_length_le (by omega)] at hc hs ⊢
    rw [show 0 * 12 + 1 + k = k + 1 by omega, shares_mixture_parts.l0, if_neg (by omega), xAnyNe.f, Option.bind_some, dc_true hs, if_pos rfl]
    congr 2
    rw [Bool.eq_iff_iff, dc_iff]
    simp only [Bool.not_eq_true', List.any_eq_false]
    constructor
    · intro h j hj
      rw [← hc j hj, getD_get (by omega)]
      have := h cols[j] (List.getElem_mem _)
      simpa using this
    · intro h x hx
      obtain ⟨j, hj, rfl⟩ := List.getElem_of_mem hx
      have := h j (by omega)
      rw [← hc j (by omega), getD_get hj] at this
      simp [this]
  | succ n ih =>
    intro r k cols hr hl hc hs
    have hrl : r < M.length := by omega
    have hmem := rdM_mem hrl
    obtain ⟨cols', e1, e2, e3⟩ := parts_row hD hm hM hN (rd_L5 M (r : Int)) (hsq _ hmem) (hT _ hmem) r (by omega) ((M.take r).map (rowV D)) (by simp; omega) N 0 (n * 12 + 1 + (10 - N + k)) cols (by omega) hl (fun j _ hj => by
      have := colV_bd hD j hj (M.take r) (fun x hx => hsq x (List.mem_of_mem_take hx)) (fun x hx => hT x (List.mem_of_mem_take hx))
      have h2 : D * ((M.take r).length : Nat) ≤ 90000000 := by
        have : ((M.take r).length : Int) ≤ 9 := by rw [List.length_take]; omega
        have := Int.mul_le_mul hm this (by omega) (by omega)
        omega
      rw [hc j hj]
      omega)
    rw [show (n + 1) * 12 + 1 + k = (N + 1 + (n * 12 + 1 + (10 - N + k))) + 1 by omega, shares_mixture_parts.l0, if_pos (by omega), if_pos (by omega), if_pos (by omega)]
    rw [List.take_zero] at e3
    rw [show ([] : List Int).sum = 0 from rfl] at e3
    rw [show (0 : Int) = ((0 : Nat) : Int) from rfl] at e3 ⊢
    rw [e3]
    by_cases h : (rowV D (rd_L5 M (r : Int))).sum = D
    · rw [if_pos h]
      have et : M.take (r + 1) = M.take r ++ [rd_L5 M (r : Int)] := by
        rw [List.take_succ_eq_append_getElem hrl]
        simp [rd_L5, List.getD_eq_getElem?_getD, List.getElem?_eq_getElem hrl]
      have := ih (r + 1) (10 - N + k) cols' (by omega) e1 (fun j hj => by rw [e2 j hj, if_pos (by omega), hc j hj, colV_take hrl]) (fun row hx => by
        rw [et] at hx
        rcases List.mem_append.mp hx with hx | hx
        · exact hs row hx
        · rw [List.mem_singleton.mp hx]; exact h)
      rw [et, List.map_append, show ((r + 1 : Nat) : Int) = (r : Int) + 1 by omega] at this
      exact this
    · rw [if_neg h, dc_false (fun ha => h (ha _ hmem)), if_neg (by decide)]
theorem parts_f {D : Int} (hD : 0 ≤ D) (hm : D ≤ 10000000) {M : List (List S62)} (hM : M.length ≤ 9) (hsq : ∀ r ∈ M, r.length = M.length) (hT : ∀ r ∈ M, ∀ f ∈ r, Th D f) (k : Nat) (hk : 200 < k) :
    shares_mixture_parts.f k M D = some (if dc (∀ row ∈ M, (rowV D row).sum = D) = true then (M.map (rowV D), dc (∀ j, j < M.length → colV D M j = D)) else ([], false)) := by
  have := parts_l hD hm hM hM hsq hT M.length 0 (k - (M.length * 12 + 1)) (List.replicate M.length 0) (by omega) (by simp) (fun j hj => by simp [colV, List.getD_eq_getElem?_getD, hj]) (by simp)
  rw [show M.length * 12 + 1 + (k - (M.length * 12 + 1)) = k by omega] at this
  unfold shares_mixture_parts.f
  rw [if_pos (by omega), if_pos (by omega), Int.toNat_natCast]
  simpa using this
end Go.Proofs.Ytefmafbbnkkpjaa.Pure
