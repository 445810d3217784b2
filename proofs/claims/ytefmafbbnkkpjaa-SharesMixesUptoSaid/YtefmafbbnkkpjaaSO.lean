/- Mixtures: the program's read, and the reference's Mixture. -/
import Derived.Test.YtefmafbbnkkpjaaSJ
import Derived.Test.YtefmafbbnkkpjaaXf50
namespace Go.Proofs.Ytefmafbbnkkpjaa.Pure
open Go Go.RowKit Go.Proofs.Ytefmafbbnkkpjaa.X Go.Proofs.YtefmafbbnkkpjaaW.PrintWords Go.Proofs.YtefmafbbnkkpjaaW.PrintLast Go.Proofs.YtefmafbbnkkpjaaW.PrintMore
set_option linter.unusedVariables false
set_option linter.unusedSimpArgs false

theorem Th.of {most D : Int} {f : S62} (h : OkF most true f) (hd : f.f1 ∣ D) : Th D f := ⟨h.d1, hd, h.n0, h.ns rfl⟩
theorem mul_Th {most D : Int} (h1 : 1 ≤ most) {m : List (List S62)} (h : mulP most true m.flatten 1 = D) (h0 : D ≠ 0) : 1 ≤ D ∧ D ≤ most ∧ ∀ r ∈ m, ∀ f ∈ r, OkF most true f ∧ Th D f := by
  subst h
  obtain ⟨a1, a2, _, a4, _⟩ := mulP_spec most true m.flatten 1 (by omega) h1 h0
  exact ⟨a1, a2, fun r hr f hf => by
    have := a4 f (List.mem_flatten.mpr ⟨r, hr, hf⟩)
    exact ⟨this.1, Th.of this.1 this.2⟩⟩
theorem common_f (most : Int) (h1 : 1 ≤ most) (hm : most ≤ 10000000) (m : List (List S62)) (n : Nat) (hl : m.length ≤ 9) (hr : ∀ r ∈ m, r.length ≤ 9) (hb : ∀ r ∈ m, ∀ f ∈ r, B64 f) (k : Nat) (hk : 2100000 + KG ≤ k) :
    (m.length = n ∧ (∀ r ∈ m, r.length = n) ∧ xCommon.f k m (n : Int) most = some (packM (mulP most true m.flatten 1))) ∨ (¬ (m.length = n ∧ ∀ r ∈ m, r.length = n) ∧ xCommon.f k m (n : Int) most = some (0, false)) := by
  unfold xCommon.f
  by_cases h : m.length = n
  · rw [if_pos (by omega)]
    cases ha : m.any (fun r => (r.length : Int) != (n : Int)) with
    | true =>
      rw [if_pos rfl]
      refine .inr ⟨fun h2 => ?_, rfl⟩
      obtain ⟨r, hr, h3⟩ := List.any_eq_true.mp ha
      have := h2.2 r hr
      simp [this] at h3
    | false =>
      rw [if_neg (by decide)]
      refine .inl ⟨h, fun r hr => ?_, multiple_f most h1 hm m (by omega) (fun r hx => by have := hr r hx; omega) hb k hk⟩
      rw [List.any_eq_false] at ha
      have := ha r hr
      simp at this
      omega
  · rw [if_neg (by omega)]
    exact .inr ⟨fun h2 => h h2.1, rfl⟩
/-! ### the reference -/
def le1 (f : S62) : Prop := f.f0 ≤ f.f1
def el (m : List (List S62)) (i j : Nat) : S62 := rd_T62 (rd_L5 m (i : Int)) (j : Int)
structure Lx (D : Int) (f : S62) : Prop where
  d1 : 1 ≤ f.f1
  dv : f.f1 ∣ D
  n0 : 0 ≤ f.f0
theorem Lx.th {D : Int} {f : S62} (h : Lx D f) (h1 : le1 f) : Th D f := ⟨h.d1, h.dv, h.n0, h1⟩
theorem mix_l2 {D : Int} (hD : 0 ≤ D) (hm : D ≤ 10000000) {M : List (List S62)} {N : Nat} (hM : M.length = N) (hN : N ≤ 9) (hsq : ∀ r ∈ M, r.length = N) (hL : ∀ r ∈ M, ∀ f ∈ r, Lx D f) (i : Nat) (hi : i < N) :
    ∀ (n j k : Nat), j + n = N → (∀ j', j' < j → le1 (el M i j') ∧ le1 (el M j' i)) →
      congouref01_Mixture.l2 (n * 4 + 1 + k) M (N : Int) D (i : Int) ((rowV D (rd_L5 M (i : Int))).take j).sum (colV D (M.take j) i) (N : Int) (i : Int) (N : Int) (j : Int) =
        if dc (∀ j', j' < N → le1 (el M i j') ∧ le1 (el M j' i)) = true then (if (rowV D (rd_L5 M (i : Int))).sum = D then (if colV D M i = D then congouref01_Mixture.l1 k M (N : Int) D (N : Int) ((i : Int) + 1) else some 0) else some 0) else some 0 := by
  intro n
  have hri : (rd_L5 M (i : Int)).length = N := hsq _ (rdM_mem (by omega))
  have hlV : (rowV D (rd_L5 M (i : Int))).length = N := by simp [rowV, hri]
  induction n with
  | zero =>
    intro j k hj hg
    obtain rfl : j = N := by omega
    rw [show 0 * 4 + 1 + k = k + 1 by omega, congouref01_Mixture.l2, if_neg (by omega), dc_true hg, if_pos rfl, List.take_of_length_le (by omega), List.take_of_length_le (by omega), w6 (by omega) (by omega)]
  | succ n ih =>
    intro j k hj hg
    have hjN : j < N := by omega
    have hrj : (rd_L5 M (j : Int)).length = N := hsq _ (rdM_mem (by omega))
    have ha := hL _ (rdM_mem (c := i) (by omega)) _ (rd_mem (c := j) (by omega))
    have hb := hL _ (rdM_mem (c := j) (by omega)) _ (rd_mem (c := i) (by omega))
    rw [show (n + 1) * 4 + 1 + k = (n * 4 + 1 + k) + 1 + 1 + 1 + 1 by omega, congouref01_Mixture.l2, if_pos (by omega), if_pos (by omega), if_pos (by omega), if_pos (by omega), if_pos (by omega), if_pos (by omega), if_pos (by omega), Option.bind_some, congouref01_Mixture.l3]
    have e0 : ∀ a b : S62, rd_T62 [a, b] 0 = a := fun a b => rfl
    have e1 : ∀ a b : S62, rd_T62 [a, b] 1 = b := fun a b => rfl
    have hlen : ∀ a b : S62, (([a, b] : List S62).length : Int) = 2 := fun a b => rfl
    rw [hlen, if_pos (by decide), if_pos (by decide), if_pos (by decide), e0]
    by_cases c1 : le1 (el M i j)
    · rw [if_neg (by have : (el M i j).f0 ≤ (el M i j).f1 := c1; unfold el at this; dsimp only; omega), w6 (i := 0 + 1) (by decide) (by decide), congouref01_Mixture.l3, hlen, if_pos (by decide), if_pos (by decide), if_pos (by decide), show (0 : Int) + 1 = 1 from rfl, e1]
      by_cases c2 : le1 (el M j i)
      · obtain ⟨_, g2, g3⟩ := (ha.th c1).go hD (by omega)
        obtain ⟨_, h2, h3⟩ := (hb.th c2).go hD (by omega)
        have hTa := (ha.th c1).bd hD
        have hTb := (hb.th c2).bd hD
        obtain ⟨s1, s2⟩ := take_succ_sum (rowV D (rd_L5 M (i : Int))) j (by omega)
        rw [rowV_at (by omega)] at s1
        have s3 := colV_take (D := D) (m := M) (r := j) (by omega) i
        have hs := sum_bd D ((rd_L5 M (i : Int)).take j) (fun f hf => by
          obtain ⟨q, hq, rfl⟩ := List.getElem_of_mem hf
          rw [List.length_take] at hq
          have := (hg q (by omega)).1
          rw [List.getElem_take]
          have e : (rd_L5 M (i : Int))[q]'(by omega) = el M i q := by simp [el, rd_T62, List.getD_eq_getElem?_getD, List.getElem?_eq_getElem (show q < (rd_L5 M (i : Int)).length by omega)]
          rw [e]
          exact (hL _ (rdM_mem (c := i) (by omega)) _ (rd_mem (c := q) (by omega))).th this) hD
        have hs2 : ((rowV D (rd_L5 M (i : Int))).take j).sum = (rowV D ((rd_L5 M (i : Int)).take j)).sum := by simp [rowV, List.map_take]
        have hs3 : D * (((rd_L5 M (i : Int)).take j).length : Nat) ≤ 90000000 := by
          have : (((rd_L5 M (i : Int)).take j).length : Int) ≤ 9 := by rw [List.length_take]; omega
          have := Int.mul_le_mul hm this (by omega) (by omega)
          omega
        have hc : ∀ q, q ≤ j → 0 ≤ colV D (M.take q) i ∧ colV D (M.take q) i ≤ D * (q : Nat) := by
          intro q
          induction q with
          | zero => intro _; simp [colV]
          | succ q ihq =>
            intro hq
            have h9 := ihq (by omega)
            have h8 := ((hL _ (rdM_mem (c := q) (by omega)) _ (rd_mem (c := i) (by have := hsq _ (rdM_mem (c := q) (by omega : q < M.length)); omega))).th (hg q (by omega)).2).bd hD
            rw [colV_take (by omega), Int.natCast_add, Int.mul_add]
            omega
        have hc1 := hc j (Nat.le_refl _)
        have hc2 : D * (j : Nat) ≤ 90000000 := by
          have := Int.mul_le_mul hm (show (j : Int) ≤ 9 by omega) (by omega) (by omega)
          omega
        rw [if_neg (by have : (el M j i).f0 ≤ (el M j i).f1 := c2; unfold el at this; dsimp only; omega), w6 (i := 1 + 1) (by decide) (by decide), congouref01_Mixture.l3, hlen, if_neg (by decide), if_pos (by omega), if_pos (by omega), if_pos (by omega), if_pos (by omega), if_neg g3, if_pos (by omega), if_pos (by omega), if_neg h3, g2, h2]
        rw [w6 (i := _ + val D (rd_T62 (rd_L5 M (i : Int)) (j : Int))) (by omega) (by omega), w6 (i := _ + val D (rd_T62 (rd_L5 M (j : Int)) (i : Int))) (by omega) (by omega), w6 (i := (j : Int) + 1) (by omega) (by omega), ← s1, ← s3, show (j : Int) + 1 = ((j + 1 : Nat) : Int) by omega]
        exact ih (j + 1) k (by omega) (fun j' hj' => by
          by_cases e : j' = j
          · subst e; exact ⟨c1, c2⟩
          · exact hg j' (by omega))
      · rw [if_pos (by have : ¬ (el M j i).f0 ≤ (el M j i).f1 := c2; unfold el at this; dsimp only; omega), dc_false (fun h => c2 (h j hjN).2), if_neg (by decide)]
    · rw [if_pos (by have : ¬ (el M i j).f0 ≤ (el M i j).f1 := c1; unfold el at this; dsimp only; omega), dc_false (fun h => c1 (h j hjN).1), if_neg (by decide)]
def goodI (D : Int) (M : List (List S62)) (N i : Nat) : Prop := (∀ j', j' < N → le1 (el M i j') ∧ le1 (el M j' i)) ∧ (rowV D (rd_L5 M (i : Int))).sum = D ∧ colV D M i = D
theorem mix_l1 {D : Int} (hD : 0 ≤ D) (hm : D ≤ 10000000) {M : List (List S62)} {N : Nat} (hM : M.length = N) (hN : N ≤ 9) (hsq : ∀ r ∈ M, r.length = N) (hL : ∀ r ∈ M, ∀ f ∈ r, Lx D f) :
    ∀ (n i k : Nat), i + n = N → (∀ i', i' < i → goodI D M N i') → congouref01_Mixture.l1 (n * 40 + 1 + k) M (N : Int) D (N : Int) (i : Int) = some (if dc (∀ i', i' < N → goodI D M N i') = true then D else 0) := by
  intro n
  induction n with
  | zero =>
    intro i k hi hg
    obtain rfl : i = N := by omega
    rw [show 0 * 40 + 1 + k = k + 1 by omega, congouref01_Mixture.l1, if_neg (by omega), dc_true hg, if_pos rfl]
  | succ n ih =>
    intro i k hi hg
    have := mix_l2 hD hm hM hN hsq hL i (by omega) N 0 (n * 40 + 1 + (k + 38 - N * 4)) (by omega) (fun j' h => absurd h (by omega))
    rw [List.take_zero, List.take_zero] at this
    rw [show (n + 1) * 40 + 1 + k = (N * 4 + 1 + (n * 40 + 1 + (k + 38 - N * 4))) + 1 by omega, congouref01_Mixture.l1, if_pos (by omega)]
    refine Eq.trans this ?_
    by_cases c : goodI D M N i
    · obtain ⟨c1, c2, c3⟩ := c
      rw [dc_true c1, if_pos rfl, if_pos c2, if_pos c3, show (i : Int) + 1 = ((i + 1 : Nat) : Int) by omega]
      exact ih (i + 1) _ (by omega) (fun i' h => by
        by_cases e : i' = i
        · subst e; exact ⟨c1, c2, c3⟩
        · exact hg i' (by omega))
    · have e0 : (if dc (∀ i', i' < N → goodI D M N i') = true then D else 0) = 0 := by rw [dc_false (fun h => c (h i (by omega)))]; rfl
      rw [e0]
      by_cases c1 : ∀ j', j' < N → le1 (el M i j') ∧ le1 (el M j' i)
      · rw [dc_true c1, if_pos rfl]
        by_cases c2 : (rowV D (rd_L5 M (i : Int))).sum = D
        · rw [if_pos c2, if_neg (fun c3 => c ⟨c1, c2, c3⟩)]
        · rw [if_neg c2]
      · rw [dc_false c1, if_neg (by decide)]
theorem mix_l0 {D : Int} {M : List (List S62)} {N : Nat} (hM : M.length = N) (hN : N ≤ 9) : ∀ (n i k : Nat), i + n = N → (∀ q, q < i → (rd_L5 M (q : Int)).length = N) →
    congouref01_Mixture.l0 (n + 1 + k) M (N : Int) D M (M.length : Int) (i : Int) = if dc (∀ r ∈ M, r.length = N) = true then congouref01_Mixture.l1 k M (N : Int) D (N : Int) 0 else some 0 := by
  intro n
  induction n with
  | zero =>
    intro i k hi hg
    rw [show 0 + 1 + k = k + 1 by omega, congouref01_Mixture.l0, if_neg (by omega), dc_true, if_pos rfl]
    intro r hr
    obtain ⟨q, hq, rfl⟩ := List.getElem_of_mem hr
    have := hg q (by omega)
    simpa [rd_L5, List.getD_eq_getElem?_getD, List.getElem?_eq_getElem hq] using this
  | succ n ih =>
    intro i k hi hg
    rw [show n + 1 + 1 + k = (n + 1 + k) + 1 by omega, congouref01_Mixture.l0, if_pos (by omega), if_pos (by omega), if_pos (by omega)]
    by_cases c : (rd_L5 M (i : Int)).length = N
    · rw [if_pos (by omega), w6 (by omega) (by omega), show (i : Int) + 1 = ((i + 1 : Nat) : Int) by omega]
      exact ih (i + 1) k (by omega) (fun q hq => by
        by_cases e : q = i
        · subst e; exact c
        · exact hg q (by omega))
    · rw [if_neg (by omega), dc_false (fun h => c (h _ (rdM_mem (by omega)))), if_neg (by decide)]
theorem el_all {M : List (List S62)} {N : Nat} (hM : M.length = N) (hsq : ∀ r ∈ M, r.length = N) {p : S62 → Prop} (h : ∀ i j, i < N → j < N → p (el M i j)) : ∀ r ∈ M, ∀ f ∈ r, p f := by
  intro r hr f hf
  obtain ⟨i, hi, rfl⟩ := List.getElem_of_mem hr
  obtain ⟨j, hj, rfl⟩ := List.getElem_of_mem hf
  have hl := hsq _ hr
  have := h i j (by omega) (by omega)
  simpa [el, rd_L5, rd_T62, List.getD_eq_getElem?_getD, List.getElem?_eq_getElem hi, List.getElem?_eq_getElem hj] using this
/-- the reference's Mixture -/
theorem Mixture_f (most : Int) (h1 : 1 ≤ most) (hm : most ≤ 10000000) (m : List (List S62)) (n : Nat) (hn : n ≤ 9) (hml : m.length ≤ 9000000000000000000) (hs : m.flatten.length < 8796093022208) (hb : ∀ r ∈ m, ∀ f ∈ r, B64 f) (k : Nat) (hk : m.length + m.flatten.length * 2 + 1000 + KG ≤ k) :
    ∃ R, congouref01_Mixture.f k m (n : Int) most = some R ∧ (R ≠ 0 → Mx most n m R) ∧ (∀ D, Mx most n m D → R = D) := by
  have hbf : ∀ f ∈ m.flatten, B64 f := fun f hf => by
    obtain ⟨r, hr, hf⟩ := List.mem_flatten.mp hf
    exact hb r hr f hf
  unfold congouref01_Mixture.f
  rw [numbers_f m (by omega) hs k (by unfold KG at hk; omega), Option.bind_some, Multiple_f most h1 hm m.flatten (by omega) hbf k (by omega), Option.bind_some]
  obtain ⟨k, rfl⟩ : ∃ q, k = q + 1 := ⟨k - 1, by omega⟩
  have hno : ∀ D, Mx most n m D → mulP most false m.flatten 1 = D := fun D hD => by
    rw [mulP_lax most _ _ (by omega) h1 (by rw [hD.mul]; exact hD.ne), hD.mul]
  by_cases h0 : mulP most false m.flatten 1 = 0
  · rw [if_pos h0, congouref01_Mixture.j0, if_pos rfl]
    exact ⟨0, rfl, fun h => absurd rfl h, fun D hD => by rw [← hno D hD, h0]⟩
  · rw [if_neg h0, congouref01_Mixture.j0]
    by_cases hl : m.length = n
    · rw [if_neg (by simp; omega)]
      obtain ⟨a1, a2, _, a4, _⟩ := mulP_spec most false m.flatten 1 (by omega) h1 h0
      generalize hDD : mulP most false m.flatten 1 = D at *
      have := mix_l0 (D := D) hl hn n 0 (n * 40 + 1 + (k - (n * 40 + 1) - (n + 1))) (by omega) (fun q h => absurd h (by omega))
      rw [show n + 1 + (n * 40 + 1 + (k - (n * 40 + 1) - (n + 1))) = k by omega] at this
      refine ⟨if dc (∀ r ∈ m, r.length = n) = true then (if dc (∀ i', i' < n → goodI D m n i') = true then D else 0) else 0, ?_, ?_, ?_⟩
      · refine Eq.trans this ?_
        by_cases hsq : ∀ r ∈ m, r.length = n
        · rw [dc_true hsq, if_pos rfl, if_pos rfl]
          exact mix_l1 (by omega) (by omega) hl hn hsq (fun r hr f hf => by
            have := a4 f (List.mem_flatten.mpr ⟨r, hr, hf⟩)
            exact ⟨this.1.d1, this.2, this.1.n0⟩) n 0 _ (by omega) (fun i' h => absurd h (by omega))
        · rw [dc_false hsq, if_neg (by decide), if_neg (by decide)]
      · intro hR
        by_cases hsq : ∀ r ∈ m, r.length = n
        · by_cases hg : ∀ i', i' < n → goodI D m n i'
          · rw [dc_true hsq, dc_true hg, if_pos rfl, if_pos rfl]
            have hle : ∀ r ∈ m, ∀ f ∈ r, le1 f := el_all hl hsq fun i j hi hj => ((hg i hi).1 j hj).1
            refine ⟨hl, hsq, ?_, h0, fun r hr => ?_, fun j hj => (hg j hj).2.2⟩
            · rw [mulP_strict most _ _ (fun f hf => by
                obtain ⟨r, hr, hf⟩ := List.mem_flatten.mp hf
                exact hle r hr f hf)]
              exact hDD
            · obtain ⟨i, hi, rfl⟩ := List.getElem_of_mem hr
              have := (hg i (by omega)).2.1
              simpa [rd_L5, List.getD_eq_getElem?_getD, List.getElem?_eq_getElem hi] using this
          · rw [dc_true hsq, dc_false hg] at hR; simp at hR
        · rw [dc_false hsq] at hR; simp at hR
      · intro D' hD'
        have e := hno D' hD'
        subst e
        rw [dc_true hD'.sq, if_pos rfl, dc_true, if_pos rfl]
        intro i hi
        have hT := (mul_Th h1 hD'.mul hD'.ne).2.2
        have hle : ∀ i j, i < n → j < n → le1 (el m i j) := fun i j hi hj => (hT _ (rdM_mem (c := i) (by omega)) _ (rd_mem (c := j) (by have := hD'.sq _ (rdM_mem (c := i) (by omega : i < m.length)); omega))).2.n1
        exact ⟨fun j hj => ⟨hle i j hi hj, hle j i hj hi⟩, hD'.rows _ (rdM_mem (by omega)), hD'.cols i hi⟩
    · rw [if_pos (by simp; omega)]
      exact ⟨0, rfl, fun h => absurd rfl h, fun D hD => absurd hD.len hl⟩
end Go.Proofs.Ytefmafbbnkkpjaa.Pure
