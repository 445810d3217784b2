/- The sum of all differences, in both packages. -/
import Derived.Test.YtefmafbbnkkpjaaXf19
import Derived.Test.YtefmafbbnkkpjaaSA
namespace Go.Proofs.Ytefmafbbnkkpjaa.Pure
open Go Go.RowKit Go.Proofs.Ytefmafbbnkkpjaa.X Go.Proofs.YtefmafbbnkkpjaaW.PrintWords Go.Proofs.YtefmafbbnkkpjaaW.PrintLast
set_option linter.unusedVariables false
set_option linter.unusedSimpArgs false

theorem ds_bd {c : Int} (hc : 0 ≤ c ∧ c ≤ 20) : ∀ {l : List Int}, (∀ x ∈ l, 0 ≤ x ∧ x ≤ 20) → 0 ≤ ds c l ∧ ds c l ≤ 20 * l.length
  | [], _ => by simp [ds]
  | x :: l, h => by
    have h1 := h x (by simp)
    have h2 := ds_bd hc (l := l) (fun y hy => h y (by simp [hy]))
    simp only [ds, List.length_cons]; omega
theorem pr_bd : ∀ {l : List Int}, l.length ≤ 6 → (∀ x ∈ l, 0 ≤ x ∧ x ≤ 20) → 0 ≤ pr l ∧ pr l ≤ 120 * l.length
  | [], _, _ => by simp [pr]
  | x :: l, h6, h => by
    have h1 := h x (by simp)
    have h3 := ds_bd h1 (l := l) (fun y hy => h y (by simp [hy]))
    simp only [List.length_cons] at h6
    have h2 := pr_bd (l := l) (by omega) (fun y hy => h y (by simp [hy]))
    simp only [pr, List.length_cons]; omega
theorem gap_in {v : Int} (hv : 0 ≤ v ∧ v ≤ 20) {t : List Int} (ht : ∀ x ∈ t, 0 ≤ x ∧ x ≤ 20) (h6 : t.length ≤ 6) (x0 x13 : List Int) (x14 x15 : Int) : ∀ n j k acc, j + n = t.length → 0 ≤ acc → acc + ds v (t.drop j) ≤ 100000 →
    shares_Gap.l1 (k + n + 1) x0 acc v x13 x14 x15 t (t.length : Int) (j : Int) = shares_Gap.l0 k x0 (acc + ds v (t.drop j)) x13 x14 (wrap64 (x15 + 1)) := by
  intro n
  induction n with
  | zero =>
    intro j k acc hj h0 h1
    rw [shares_Gap.l1, if_neg (by omega), List.drop_of_length_le (by omega)]
    simp [ds]
  | succ n ih =>
    intro j k acc hj h0 h1
    have hb := ht _ (getD_mem (l := t) (i := j) (by omega))
    rw [rd_drop (l := t) (i := j) (by omega)] at h1 ⊢
    rw [← rd_at] at hb
    have hd := ds_bd hv (l := t.drop (j + 1)) (fun y hy => ht y (List.mem_of_mem_drop hy))
    have IH := ih (j + 1) k (acc + max (v - rd t (j : Int)) (rd t (j : Int) - v)) (by omega) (by omega) (by simp only [ds] at h1; omega)
    simp only [ds] at h1 ⊢
    rw [show k + (n + 1) + 1 = (k + n + 1) + 1 by omega, shares_Gap.l1, if_pos (by omega), if_pos (by omega), if_pos (by omega), w64 (i := v - rd t (j : Int)) (by omega) (by omega), w64 (i := rd t (j : Int) - v) (by omega) (by omega), mx_max, w64 (i := acc + _) (by omega) (by omega), w64 (i := (j : Int) + 1) (by omega) (by omega), show (j : Int) + 1 = ((j + 1 : Nat) : Int) by omega, IH, Int.add_assoc]
theorem take_sh {l : List Int} (h : Sh l) (i : Nat) : (l.take i).length ≤ 6 ∧ ∀ x ∈ l.take i, 0 ≤ x ∧ x ≤ 20 := by
  have := h.h6
  exact ⟨by rw [List.length_take]; omega, fun x hx => h.hb x (List.mem_of_mem_take hx)⟩
theorem pr_step {l : List Int} {i : Nat} (h : i < l.length) : pr (l.take i) + ds (rd l (i : Int)) (l.take i) = pr (l.take (i + 1)) := by
  rw [rd_at, getD_get h, List.take_add_one, List.getElem?_eq_getElem h]
  exact (pr_snoc _ _).symm
theorem gap_l {l : List Int} (h : Sh l) : ∀ n i k, i + n = l.length → n * 8 < k → shares_Gap.l0 k l (pr (l.take i)) l (l.length : Int) (i : Int) = some (pr l, 0) := by
  have := h.h6
  intro n
  induction n with
  | zero =>
    intro i k hi hk
    obtain ⟨k, rfl⟩ : ∃ m, k = m + 1 := ⟨k - 1, by omega⟩
    rw [shares_Gap.l0, if_neg (by omega), List.take_of_length_le (by omega)]
  | succ n ih =>
    intro i k hi hk
    obtain ⟨k, rfl⟩ : ∃ m, k = (m + i + 1) + 1 := ⟨k - i - 2, by omega⟩
    obtain ⟨t6, tb⟩ := take_sh h i
    have hv := h.hb _ (getD_mem (l := l) (i := i) (by omega))
    rw [← rd_at] at hv
    have p1 := pr_bd t6 tb
    have p2 := ds_bd hv tb
    have ht : (l.take i).length = i := by rw [List.length_take]; omega
    have G := gap_in hv tb t6 l l (l.length : Int) (i : Int) i 0 k (pr (l.take i)) (by omega) (by omega) (by rw [List.drop_zero]; omega)
    rw [List.drop_zero, pr_step (by omega), w64 (i := (i : Int) + 1) (by omega) (by omega), show (i : Int) + 1 = ((i + 1 : Nat) : Int) by omega] at G
    rw [shares_Gap.l0, if_pos (by omega), if_pos (by omega), if_pos (by omega), if_pos (by omega), Int.toNat_natCast, Option.bind_some, show ((0 : Int)) = ((0 : Nat) : Int) by rfl, G]
    exact ih (i + 1) k (by omega) (by omega)
theorem Gap_f {x : List Int} (hx : x.length ≤ 15) (k : Nat) (hk : 60 < k) : shares_Gap.f k x = some (if dc (Sh x) = true then (pr x, 0) else (0, 2)) := by
  unfold shares_Gap.f
  rw [are_one x hx k (by omega), Option.bind_some]
  by_cases h : Sh x
  · have := h.h6
    have e := gap_l h x.length 0 k (by omega) (by omega)
    rw [dc_true h, if_pos rfl, if_pos rfl]
    simpa [pr] using e
  · rw [dc_false h, if_neg (by decide), if_neg (by decide)]
theorem rgap_in {v : Int} (hv : 0 ≤ v ∧ v ≤ 20) {t : List Int} (ht : ∀ x ∈ t, 0 ≤ x ∧ x ≤ 20) (h6 : t.length ≤ 6) (x0 x13 : List Int) (x14 x15 : Int) : ∀ n j k acc, j + n = t.length → 0 ≤ acc → acc + ds v (t.drop j) ≤ 100000 →
    congouref01_Gap.l1 (k + n + 1) x0 acc v x13 x14 x15 t (t.length : Int) (j : Int) = congouref01_Gap.l0 k x0 (acc + ds v (t.drop j)) x13 x14 (wrap64 (x15 + 1)) := by
  intro n
  induction n with
  | zero =>
    intro j k acc hj h0 h1
    rw [congouref01_Gap.l1, if_neg (by omega), List.drop_of_length_le (by omega)]
    simp [ds]
  | succ n ih =>
    intro j k acc hj h0 h1
    have hb := ht _ (getD_mem (l := t) (i := j) (by omega))
    rw [rd_drop (l := t) (i := j) (by omega)] at h1 ⊢
    rw [← rd_at] at hb
    have hd := ds_bd hv (l := t.drop (j + 1)) (fun y hy => ht y (List.mem_of_mem_drop hy))
    have IH := ih (j + 1) k (acc + max (v - rd t (j : Int)) (rd t (j : Int) - v)) (by omega) (by omega) (by simp only [ds] at h1; omega)
    simp only [ds] at h1 ⊢
    rw [show k + (n + 1) + 1 = (k + n + 1) + 1 by omega, congouref01_Gap.l1, if_pos (by omega), if_pos (by omega), if_pos (by omega), w64 (i := v - rd t (j : Int)) (by omega) (by omega), w64 (i := rd t (j : Int) - v) (by omega) (by omega), mx_max, w64 (i := acc + _) (by omega) (by omega), w64 (i := (j : Int) + 1) (by omega) (by omega), show (j : Int) + 1 = ((j + 1 : Nat) : Int) by omega, IH, Int.add_assoc]
theorem rgap_l {l : List Int} (h : Sh l) : ∀ n i k, i + n = l.length → n * 8 < k → congouref01_Gap.l0 k l (pr (l.take i)) l (l.length : Int) (i : Int) = some (pr l) := by
  have := h.h6
  intro n
  induction n with
  | zero =>
    intro i k hi hk
    obtain ⟨k, rfl⟩ : ∃ m, k = m + 1 := ⟨k - 1, by omega⟩
    rw [congouref01_Gap.l0, if_neg (by omega), List.take_of_length_le (by omega)]
  | succ n ih =>
    intro i k hi hk
    obtain ⟨k, rfl⟩ : ∃ m, k = (m + i + 1) + 1 := ⟨k - i - 2, by omega⟩
    obtain ⟨t6, tb⟩ := take_sh h i
    have hv := h.hb _ (getD_mem (l := l) (i := i) (by omega))
    rw [← rd_at] at hv
    have p1 := pr_bd t6 tb
    have p2 := ds_bd hv tb
    have ht : (l.take i).length = i := by rw [List.length_take]; omega
    have G := rgap_in hv tb t6 l l (l.length : Int) (i : Int) i 0 k (pr (l.take i)) (by omega) (by omega) (by rw [List.drop_zero]; omega)
    rw [List.drop_zero, pr_step (by omega), w64 (i := (i : Int) + 1) (by omega) (by omega), show (i : Int) + 1 = ((i + 1 : Nat) : Int) by omega] at G
    rw [congouref01_Gap.l0, if_pos (by omega), if_pos (by omega), if_pos (by omega), if_pos (by omega), Int.toNat_natCast, show ((0 : Int)) = ((0 : Nat) : Int) by rfl, G]
    exact ih (i + 1) k (by omega) (by omega)
theorem RGap_f {x : List Int} (h : Sh x) (k : Nat) (hk : 60 < k) : congouref01_Gap.f k x = some (pr x) := by
  unfold congouref01_Gap.f
  have := h.h6
  have e := rgap_l h x.length 0 k (by omega) (by omega)
  simpa [pr] using e
end Go.Proofs.Ytefmafbbnkkpjaa.Pure
