/- Parts of a number in both packages: which slices are parts; turning; meeting. -/
import Derived.Test.YtefmafbbnkkpjaaXG4a
import Derived.Test.YtefmafbbnkkpjaaXf67
import Derived.Test.YtefmafbbnkkpjaaXf68
import Derived.Test.YtefmafbbnkkpjaaXf29
import Derived.Test.YtefmafbbnkkpjaaXG3a
import Derived.Test.YtefmafbbnkkpjaaSD
import Derived.Test.YtefmafbbnkkpjaaSL
namespace Go.Proofs.Ytefmafbbnkkpjaa.Pure
open Go Go.RowKit Go.Proofs.Ytefmafbbnkkpjaa.X Go.Proofs.YtefmafbbnkkpjaaW.PrintWords Go.Proofs.YtefmafbbnkkpjaaW.PrintLast
set_option linter.unusedVariables false
set_option linter.unusedSimpArgs false

/-- parts of a number up to 12 -/
structure Pa (a : List Int) : Prop where
  h1 : 1 ≤ a.length
  desc : Desc a
  pos : ∀ x ∈ a, 1 ≤ x
  s12 : a.sum ≤ 12
theorem Pa.pt {a : List Int} (h : Pa a) : Pt a := ⟨h.desc, h.pos⟩
theorem Pa.len {a : List Int} (h : Pa a) : a.length ≤ 12 := by have := pt_len h.pos; have := h.s12; omega
theorem Pa.le {a : List Int} (h : Pa a) : ∀ x ∈ a, x ≤ 12 := fun x hx => by have := nn_mem_le h.pt.nn x hx; have := h.s12; omega
theorem Pa.sm {a : List Int} (h : Pa a) : Sm a := ⟨by have := h.len; omega, fun x hx => by have := h.pos x hx; have := h.le x hx; omega⟩
theorem Pa.s1 {a : List Int} (h : Pa a) : 1 ≤ a.sum := by have := pt_len h.pos; have := h.h1; omega
theorem pa_of {a : List Int} (h : Pt a) (h1 : 1 ≤ a.sum) (h12 : a.sum ≤ 12) : Pa a := by
  refine ⟨?_, h.desc, h.pos, h12⟩
  cases a with
  | nil => simp at h1
  | cons x a => simp
/-- parts of one number -/
def PP (a b : List Int) : Prop := Pa a ∧ Pa b ∧ a.sum = b.sum
theorem pa_take {l : List Int} : Pa (l.take 15) ↔ Pa l := by
  rcases take_or l with ⟨_, e⟩ | ⟨h, e⟩
  · rw [e]
  · exact ⟨fun s => absurd s.len (by omega), fun s => absurd s.len (by omega)⟩
theorem pa_same {l : List Int} (h : Pa l) : l.take 15 = l := List.take_of_length_le (by have := h.len; omega)
theorem pp_take {x y : List Int} : PP (x.take 15) (y.take 15) ↔ PP x y := by
  unfold PP
  constructor
  · intro ⟨a, b, c⟩
    have a := pa_take.mp a; have b := pa_take.mp b
    rw [pa_same a, pa_same b] at c
    exact ⟨a, b, c⟩
  · intro ⟨a, b, c⟩
    rw [pa_same a, pa_same b]; exact ⟨a, b, c⟩

/-! ### the reference's Parts -/
theorem psm_12 {a : List Int} {i : Nat} (h : ∀ y ∈ a.take i, 1 ≤ y ∧ y ≤ 12) (hi : i ≤ a.length) : 0 ≤ psm a i ∧ psm a i ≤ 12 * i := by
  have key : ∀ l : List Int, (∀ y ∈ l, 1 ≤ y ∧ y ≤ 12) → 0 ≤ l.sum ∧ l.sum ≤ 12 * l.length := by
    intro l
    induction l with
    | nil => simp
    | cons x l ih =>
      intro h
      have h1 := h x (by simp)
      have h2 := ih (fun y hy => h y (by simp [hy]))
      simp only [List.sum_cons, List.length_cons]; omega
  have := key _ h
  rw [List.length_take] at this
  unfold psm; omega
theorem take_snoc {a : List Int} {i : Nat} (h : i < a.length) {Q : Int → Prop} (h1 : ∀ y ∈ a.take i, Q y) (h2 : Q (rd a (i : Int))) : ∀ y ∈ a.take (i + 1), Q y := by
  intro y hy
  rw [List.take_add_one, List.getElem?_eq_getElem h] at hy
  rcases List.mem_append.mp hy with c | c
  · exact h1 y c
  · have : y = a[i] := by simpa using c
    rw [rd_at, getD_get h] at h2
    rw [this]; exact h2
theorem parts_l {a : List Int} (hl : a.length ≤ 17592186044416) : ∀ n i k, i + n = a.length → n + a.length + 2 < k → (∀ y ∈ a.take i, 1 ≤ y ∧ y ≤ 12) →
    congouref01_Parts.l0 k a (psm a i) a (a.length : Int) (i : Int) = some (if dc ((∀ y ∈ a.drop i, 1 ≤ y ∧ y ≤ 12) ∧ Desc a ∧ a.sum ≤ 12) = true then a.sum else 0) := by
  intro n
  induction n with
  | zero =>
    intro i k hi hk ht
    obtain ⟨k, rfl⟩ : ∃ m, k = m + 1 := ⟨k - 1, by omega⟩
    have hall : ∀ y ∈ a.drop i, 1 ≤ y ∧ y ≤ 12 := by rw [List.drop_of_length_le (by omega)]; simp
    rw [congouref01_Parts.l0, if_neg (by omega), Falling_f a (by omega) k (by omega), Option.bind_some, psm_all (by omega)]
    by_cases hd : Desc a
    · rw [dc_true hd, if_pos rfl]
      by_cases hs : a.sum ≤ 12
      · rw [if_neg (by omega), dc_true ⟨hall, hd, hs⟩, if_pos rfl]
      · rw [if_pos (by omega), dc_false fun h => hs h.2.2, if_neg (by decide)]
    · rw [dc_false hd, if_neg (by decide), dc_false fun h => hd h.2.1, if_neg (by decide)]
  | succ n ih =>
    intro i k hi hk ht
    obtain ⟨k, rfl⟩ : ∃ m, k = m + 1 := ⟨k - 1, by omega⟩
    have hp := psm_12 ht (by omega)
    rw [congouref01_Parts.l0, if_pos (by omega), if_pos (by omega), if_pos (by omega), rd_drop (l := a) (i := i) (by omega)]
    by_cases c1 : rd a (i : Int) < 1
    · rw [if_pos c1, dc_false, if_neg (by decide)]
      intro h
      have := h.1 (rd a (i : Int)) (by simp)
      omega
    · rw [if_neg c1]
      by_cases c2 : rd a (i : Int) > 12
      · rw [if_pos c2, dc_false, if_neg (by decide)]
        intro h
        have := h.1 (rd a (i : Int)) (by simp)
        omega
      · have e : wrap64 (psm a i + rd a (i : Int)) = psm a (i + 1) := by
          rw [psm_succ, ← rd_at, w64 (by omega) (by omega)]
        rw [if_neg c2, e, w64 (by omega) (by omega), show (i : Int) + 1 = ((i + 1 : Nat) : Int) by omega, ih (i + 1) k (by omega) (by omega) (take_snoc (by omega) ht (by omega))]
        congr 2
        rw [dc_congr]
        simp only [List.forall_mem_cons]
        exact ⟨fun ⟨x, y⟩ => ⟨⟨by omega, x⟩, y⟩, fun ⟨x, y⟩ => ⟨x.2, y⟩⟩
theorem Parts_f (a : List Int) (hl : a.length ≤ 17592186044416) (k : Nat) (hk : 2 * a.length + 2 < k) : congouref01_Parts.f k a = some (if dc (Pa a) = true then a.sum else 0) := by
  unfold congouref01_Parts.f
  have h := parts_l hl a.length 0 k (by omega) (by omega) (by simp)
  rw [psm_zero] at h
  rw [show ((0 : Nat) : Int) = 0 by rfl] at h
  rw [h]
  congr 1
  rw [List.drop_zero]
  by_cases c : Pa a
  · rw [dc_true c, dc_true ⟨fun y hy => ⟨c.pos y hy, c.le y hy⟩, c.desc, c.s12⟩]
  · simp only [dc_false c, Bool.false_eq_true, if_false]
    by_cases d : (∀ y ∈ a, 1 ≤ y ∧ y ≤ 12) ∧ Desc a ∧ a.sum ≤ 12
    · rw [dc_true d, if_pos rfl]
      cases a with
      | nil => rfl
      | cons x a => exact absurd ⟨by simp, d.2.1, fun y hy => (d.1 y hy).1, d.2.2⟩ c
    · rw [dc_false d, if_neg (by decide)]
theorem parts_f (a b : List Int) (ha : a.length ≤ 17592186044416) (hb : b.length ≤ 17592186044416) (k : Nat) (hk : 2 * a.length + 2 < k) (hk2 : 2 * b.length + 2 < k) : congoulaw01_parts.f k a b = some (dc (PP a b)) := by
  unfold congoulaw01_parts.f
  rw [Parts_f a ha k hk, Parts_f b hb k hk2]
  simp only [Option.bind_some]
  by_cases c : Pa a
  · have := c.s1
    rw [dc_true c, if_pos rfl, if_pos (by omega)]
    congr 1
    by_cases d : Pa b
    · rw [dc_true d, if_pos rfl]
      by_cases e : a.sum = b.sum
      · rw [dc_true ⟨c, d, e⟩, e]; simp
      · rw [dc_false fun h => e h.2.2]; simp [e]
    · rw [dc_false d, if_neg (by decide), dc_false fun h => d h.2.1]; simp; omega
  · rw [dc_false c, dc_false (p := PP a b) fun h => c h.1]; rfl

/-! ### the program's -/
theorem isP_step (L : List (List Int)) (i n : Nat) (k : Nat) (x3 : Int) (hi : i < L.length) (hL : L.length < 100) (hk : 60 < k) (hx : (rd_L1 L i).length ≤ 15) :
    shares_isParts.l0 (k + 1 + 1) x3 L (n : Int) (i : Int) = if i < n then (if dc (Pa (rd_L1 L i) ∧ (x3 < 0 ∨ (rd_L1 L i).sum = x3)) = true then shares_isParts.l0 k (rd_L1 L i).sum L (n : Int) ((i + 1 : Nat) : Int) else some false) else some true := by
  rw [shares_isParts.l0]
  by_cases c : i < n
  · rw [if_pos (by omega), if_pos (by omega), if_pos (by omega), if_pos c]
    generalize hr : rd_L1 L (i : Int) = r at hx
    have jt : ∀ (p : Prop), ¬ Pa r → shares_isParts.j1 (k + 1) x3 r L (n : Int) (i : Int) true = if dc (Pa r ∧ p) = true then shares_isParts.l0 k r.sum L (n : Int) ((i + 1 : Nat) : Int) else some false := by
      intro p h
      rw [shares_isParts.j1, if_pos rfl, dc_false fun t => h t.1, if_neg (by decide)]
    by_cases c1 : r.length < 1
    · rw [if_pos (by omega)]
      exact jt _ fun h => absurd h.h1 (by omega)
    · rw [if_neg (by omega)]
      by_cases c2 : r.length ≤ 12
      · rw [if_neg (by omega)]
        obtain ⟨m, e1, f1⟩ := min_f r (by omega) (by omega) (k + 1) (by omega)
        obtain ⟨M, e2, f2⟩ := max_f r (by omega) (by omega) (k + 1) (by omega)
        rw [e1, e2, Option.bind_some]
        have g1 := f1 1
        have g2 := f2 12
        by_cases d1 : m < 1
        · rw [if_pos d1]
          exact jt _ fun h => absurd (g1.mpr fun x hx => h.pos x hx) (by omega)
        · rw [if_neg d1, Option.bind_some]
          by_cases d2 : M > 12
          · rw [if_pos d2]
            exact jt _ fun h => absurd (g2.mpr fun x hx => h.le x hx) (by omega)
          · have hsm : Sm r := ⟨by omega, fun x hx => by have := g1.mp (by omega) x hx; have := g2.mp (by omega) x hx; omega⟩
            rw [if_neg d2, Sorted_f r (by omega) (by omega) hsm.hb (k + 1) (by omega), Option.bind_some]
            by_cases hd : Desc r
            · rw [dc_true hd, Bool.not_true, shares_isParts.j1, if_neg (by decide), sums_f hsm k (by omega), Option.bind_some, sumsTo_len, w64 (i := (r.length : Int) - 1) (by omega) (by omega), if_pos (by omega), if_pos (by omega), show (r.length : Int) - 1 = ((r.length - 1 : Nat) : Int) by omega, rd_at, sumsTo_getD _ _ _ (by omega), psm_all (by omega), w64 (i := (i : Int) + 1) (by omega) (by omega), show (i : Int) + 1 = ((i + 1 : Nat) : Int) by omega]
              by_cases hs : r.sum ≤ 12
              · have hp : Pa r := ⟨by omega, hd, fun x hx => g1.mp (by omega) x hx, hs⟩
                rw [if_neg (by omega)]
                by_cases h3 : x3 ≥ 0
                · rw [if_pos h3]
                  by_cases h4 : r.sum = x3
                  · rw [if_pos h4, dc_true ⟨hp, .inr h4⟩, if_pos rfl]
                  · rw [if_neg h4, dc_false (fun h => h.2.elim (fun g => absurd g (by omega)) h4), if_neg (by decide)]
                · rw [if_neg h3, dc_true ⟨hp, .inl (by omega)⟩, if_pos rfl]
              · rw [if_pos (by omega), dc_false fun h => hs h.1.s12, if_neg (by decide)]
            · rw [dc_false hd, Bool.not_false]
              exact jt _ fun h => hd h.desc
      · rw [if_pos (by omega)]
        exact jt _ fun h => c2 h.len
  · rw [if_neg (by omega), if_neg c]
theorem isP_one (a : List Int) (ha : a.length ≤ 15) (k : Nat) (hk : 70 < k) : shares_isParts.f k [a] = some (dc (Pa a)) := by
  obtain ⟨k, rfl⟩ : ∃ m, k = (m + 1) + 1 + 1 := ⟨k - 3, by omega⟩
  unfold shares_isParts.f
  have s1 := isP_step [a] 0 1 (k + 1) (-1) (by simp) (by simp) (by omega) (show a.length ≤ 15 from ha)
  have e0 : rd_L1 [a] ((0 : Nat) : Int) = a := rfl
  have e3 : (([a] : List (List Int)).length : Int) = ((1 : Nat) : Int) := rfl
  rw [e0] at s1
  rw [e3, show ((0 : Int)) = ((0 : Nat) : Int) by rfl, s1, if_pos (by omega)]
  by_cases h : Pa a
  · rw [dc_true ⟨h, .inl (by omega)⟩, if_pos rfl, dc_true h, shares_isParts.l0, if_neg (by omega)]
  · rw [dc_false fun c => h c.1, if_neg (by decide), dc_false h]
theorem isP_two (a b : List Int) (ha : a.length ≤ 15) (hb : b.length ≤ 15) (k : Nat) (hk : 70 < k) : shares_isParts.f k [a, b] = some (dc (PP a b)) := by
  obtain ⟨k, rfl⟩ : ∃ m, k = (m + 1 + 1 + 1) + 1 + 1 := ⟨k - 5, by omega⟩
  unfold shares_isParts.f
  have s1 := isP_step [a, b] 0 2 (k + 1 + 1 + 1) (-1) (by simp) (by simp) (by omega) (show a.length ≤ 15 from ha)
  have s2 := isP_step [a, b] 1 2 (k + 1) a.sum (by simp) (by simp) (by omega) (show b.length ≤ 15 from hb)
  have e0 : rd_L1 [a, b] ((0 : Nat) : Int) = a := rfl
  have e1 : rd_L1 [a, b] ((1 : Nat) : Int) = b := rfl
  have e3 : (([a, b] : List (List Int)).length : Int) = ((2 : Nat) : Int) := rfl
  rw [e0] at s1
  rw [e1] at s2
  rw [e3, show ((0 : Int)) = ((0 : Nat) : Int) by rfl, s1, if_pos (by omega)]
  by_cases h : Pa a
  · have := h.s1
    rw [dc_true ⟨h, .inl (by omega)⟩, if_pos rfl, s2, if_pos (by omega)]
    by_cases h2 : Pa b ∧ b.sum = a.sum
    · rw [dc_true ⟨h2.1, .inr h2.2⟩, if_pos rfl, dc_true ⟨h, h2.1, h2.2.symm⟩, shares_isParts.l0, if_neg (by omega)]
    · rw [dc_false fun t => h2 ⟨t.1, t.2.elim (fun g => absurd g (by omega)) id⟩, if_neg (by decide), dc_false fun t => h2 ⟨t.2.1, t.2.2.symm⟩]
  · rw [dc_false fun c => h c.1, if_neg (by decide), dc_false fun t => h t.1]

/-! ### turning -/
theorem turn_in {a : List Int} (hl : a.length ≤ 100) (x0 x3 : List Int) (v x10 x11 : Int) (h3 : x3.length < 1000) : ∀ (n j k : Nat) (acc : Int), j + n = a.length → 0 ≤ acc → acc ≤ j →
    shares_turn.l1 (k + n + 1) x0 x3 v acc x10 x11 a (a.length : Int) (j : Int) = shares_turn.l0 k x0 (x3 ++ [acc + cnt (a.drop j) v]) x10 (wrap64 (x11 + 1)) := by
  intro n
  induction n with
  | zero =>
    intro j k acc hj h0 h1
    rw [shares_turn.l1, if_neg (by omega), List.drop_of_length_le (by omega), if_pos (by omega)]
    simp [cnt]
  | succ n ih =>
    intro j k acc hj h0 h1
    rw [show k + (n + 1) + 1 = (k + n + 1) + 1 by omega, shares_turn.l1, if_pos (by omega), if_pos (by omega), if_pos (by omega), w64 (i := acc + 1) (by omega) (by omega), w64 (i := (j : Int) + 1) (by omega) (by omega), show (j : Int) + 1 = ((j + 1 : Nat) : Int) by omega, rd_drop (l := a) (i := j) (by omega)]
    simp only [cnt]
    by_cases c : rd a (j : Int) > v
    · rw [if_pos c, if_pos c, ih (j + 1) k (acc + 1) (by omega) (by omega) (by omega), Int.add_assoc]
    · rw [if_neg c, if_neg c, ih (j + 1) k acc (by omega) (by omega) (by omega), Int.zero_add]
theorem turn_l {a : List Int} (h : Pa a) (H : Nat) (hH : H ≤ 12) : ∀ n i k, i + n = H → n * 20 < k →
    shares_turn.l0 k a ((List.range i).map fun (i : Nat) => cnt a (i : Int)) (H : Int) (i : Int) = some ((List.range H).map fun (i : Nat) => cnt a (i : Int)) := by
  have := h.len
  intro n
  induction n with
  | zero =>
    intro i k hi hk
    obtain ⟨k, rfl⟩ : ∃ m, k = m + 1 := ⟨k - 1, by omega⟩
    rw [shares_turn.l0, if_neg (by omega), show i = H by omega]
  | succ n ih =>
    intro i k hi hk
    obtain ⟨k, rfl⟩ : ∃ m, k = (m + a.length + 1) + 1 := ⟨k - a.length - 2, by omega⟩
    have G := turn_in (a := a) (by omega) a ((List.range i).map fun (i : Nat) => cnt a (i : Int)) (i : Int) (H : Int) (i : Int) (by rw [List.length_map, List.length_range]; omega) a.length 0 k 0 (by omega) (by omega) (by omega)
    rw [List.drop_zero, Int.zero_add, w64 (i := (i : Int) + 1) (by omega) (by omega), show (i : Int) + 1 = ((i + 1 : Nat) : Int) by omega] at G
    have e : (List.range i).map (fun (i : Nat) => cnt a (i : Int)) ++ [cnt a (i : Int)] = (List.range (i + 1)).map (fun (i : Nat) => cnt a (i : Int)) := by
      rw [List.range_succ, List.map_append]; rfl
    rw [e] at G
    rw [shares_turn.l0, if_pos (by omega)]
    rw [show ((0 : Int)) = ((0 : Nat) : Int) by rfl] at G ⊢
    rw [G]
    exact ih (i + 1) k (by omega) (by omega)
theorem turn_f {a : List Int} (h : Pa a) (k : Nat) (hk : 300 < k) : shares_turn.f k a = some (turnOf a) := by
  have h1 := h.h1
  have e : rd a 0 = a.headD 0 := by
    cases a with
    | nil => simp at h1
    | cons x a => rfl
  have hm : a.headD 0 ≤ 12 ∧ 1 ≤ a.headD 0 := by
    cases a with
    | nil => simp at h1
    | cons x a => exact ⟨h.le x (by simp), h.pos x (by simp)⟩
  unfold shares_turn.f
  rw [if_pos (by omega), e]
  have G := turn_l h (a.headD 0).toNat (by omega) (a.headD 0).toNat 0 k (by omega) (by omega)
  rw [show (((a.headD 0).toNat : Nat) : Int) = a.headD 0 by omega] at G
  exact G
theorem turn_pa {a : List Int} (h : Pa a) : Pa (turnOf a) := by
  refine pa_of (turn_pt a) ?_ ?_
  · rw [turn_sum h.desc h.pt.nn]; exact h.s1
  · rw [turn_sum h.desc h.pt.nn]; exact h.s12

/-! ### meeting -/
def pad (a : List Int) : List Int := a ++ List.replicate (12 - a.length) 0
theorem padded_f {a : List Int} (h : a.length ≤ 12) : shares_padded.f a = some (pad a) := by
  unfold shares_padded.f
  rw [clone_f a (by omega), Option.bind_some, w64 (by omega) (by omega), if_pos (by omega), if_pos (by omega)]
  rw [show ((12 : Int) - (a.length : Int)).toNat = 12 - a.length by omega]; rfl
theorem pad_len {a : List Int} (h : a.length ≤ 12) : (pad a).length = 12 := by simp [pad]; omega
theorem pad_psm (a : List Int) (k : Nat) : psm (pad a) k = psm a k := by
  unfold psm pad
  rw [List.take_append, List.sum_append]
  have : ∀ n m, ((List.replicate n (0 : Int)).take m).sum = 0 := by
    intro n m
    rw [List.take_replicate]
    induction (min m n) with
    | zero => rfl
    | succ q ih => rw [List.replicate_succ, List.sum_cons, ih]; rfl
  rw [this]; omega
theorem pad_sm {a : List Int} (h : Pa a) : Sm (pad a) := by
  refine ⟨by rw [pad_len h.len]; omega, fun x hx => ?_⟩
  rcases List.mem_append.mp hx with c | c
  · exact h.sm.hb x c
  · have := List.eq_of_mem_replicate c; omega
theorem mu_zero (a b : List Int) : mu a b 0 = 0 := by simp [mu, psm_zero]
theorem meet_l {a b : List Int} (ha : Pa a) (hb : Pa b) : ∀ n i k acc, i + n = 12 → n < k → acc.length ≤ i →
    shares_meet.l0 k (sumsTo (pad a) 12) (sumsTo (pad b) 12) acc (mu a b i) 12 (i : Int) = some (acc ++ mt a b n i) := by
  intro n
  have la := sumsTo_len (pad a) 12
  have lb := sumsTo_len (pad b) 12
  induction n with
  | zero =>
    intro i k acc hi hk ha
    obtain ⟨k, rfl⟩ : ∃ m, k = m + 1 := ⟨k - 1, by omega⟩
    rw [shares_meet.l0, if_neg (by omega), mt, List.append_nil]
  | succ n ih =>
    intro i k acc hi hk hac
    obtain ⟨k, rfl⟩ : ∃ m, k = m + 1 := ⟨k - 1, by omega⟩
    have p1 := sm_psm ha.sm i
    have p2 := sm_psm hb.sm i
    have p3 := sm_psm ha.sm (i + 1)
    have p4 := sm_psm hb.sm (i + 1)
    have e : mn (psm (pad a) (i + 1)) (psm (pad b) (i + 1)) = mu a b (i + 1) := by rw [pad_psm, pad_psm, mn_min]; rfl
    rw [shares_meet.l0, if_pos (by omega), if_pos (by omega), if_pos (by omega), if_pos (by omega), rd_at, rd_at, sumsTo_getD _ _ _ (by omega), sumsTo_getD _ _ _ (by omega), e, w64 (i := (i : Int) + 1) (by omega) (by omega), show (i : Int) + 1 = ((i + 1 : Nat) : Int) by omega, mt]
    have hw : wrap64 (mu a b (i + 1) - mu a b i) = mu a b (i + 1) - mu a b i := w64 (by unfold mu; omega) (by unfold mu; omega)
    by_cases c : mu a b (i + 1) > mu a b i
    · rw [if_pos c, if_pos c, if_pos (by omega), hw, ih (i + 1) k _ (by omega) (by omega) (by rw [List.length_append, List.length_singleton]; omega), List.append_assoc]; rfl
    · rw [if_neg c, if_neg c, ih (i + 1) k _ (by omega) (by omega) (by omega)]
theorem meet_f {a b : List Int} (ha : Pa a) (hb : Pa b) (k : Nat) (hk : 60 < k) : shares_meet.f k a b = some (meetOf a b) := by
  unfold shares_meet.f
  rw [padded_f ha.len, padded_f hb.len, Option.bind_some, sums_f (pad_sm ha) k (by omega), Option.bind_some, Option.bind_some, sums_f (pad_sm hb) k (by omega), Option.bind_some, sumsTo_len, pad_len ha.len, pad_len hb.len]
  have G := meet_l ha hb 12 0 k [] (by omega) (by omega) (by simp)
  rw [mu_zero] at G
  exact G
theorem meet_pa {a b : List Int} (h : PP a b) : Pa (meetOf a b) := by
  obtain ⟨ha, hb, hs⟩ := h
  have e := meet_sum ha.pt hb.pt ha.len hb.len hs
  exact pa_of (meet_pt ha.pt hb.pt) (by rw [e]; exact ha.s1) (by rw [e]; exact ha.s12)
theorem turn_pp {a b : List Int} (h : PP a b) : PP (turnOf a) (turnOf b) := by
  obtain ⟨ha, hb, hs⟩ := h
  exact ⟨turn_pa ha, turn_pa hb, by rw [turn_sum ha.desc ha.pt.nn, turn_sum hb.desc hb.pt.nn, hs]⟩
theorem Meet_f {a b : List Int} (la : a.length ≤ 15) (lb : b.length ≤ 15) (k : Nat) (hk : 70 < k) : shares_Meet.f k a b = some (if dc (PP a b) = true then (meetOf a b, 0) else ([], 2)) := by
  unfold shares_Meet.f
  rw [isP_two a b la lb k hk, Option.bind_some]
  by_cases h : PP a b
  · rw [dc_true h, if_pos rfl, if_pos rfl, meet_f h.1 h.2.1 k (by omega), Option.bind_some]
  · rw [dc_false h, if_neg (by decide), if_neg (by decide)]
theorem Join_f {a b : List Int} (la : a.length ≤ 15) (lb : b.length ≤ 15) (k : Nat) (hk : 300 < k) : shares_Join.f k a b = some (if dc (PP a b) = true then (joinOf a b, 0) else ([], 2)) := by
  unfold shares_Join.f
  rw [isP_two a b la lb k (by omega), Option.bind_some]
  by_cases h : PP a b
  · have h' := turn_pp h
    rw [dc_true h, if_pos rfl, if_pos rfl, turn_f h.1 k hk, turn_f h.2.1 k hk, Option.bind_some, Option.bind_some, meet_f h'.1 h'.2.1 k (by omega), Option.bind_some, turn_f (meet_pa h') k hk, Option.bind_some]; rfl
  · rw [dc_false h, if_neg (by decide), if_neg (by decide)]
theorem Turn_f {a : List Int} (la : a.length ≤ 15) (k : Nat) (hk : 300 < k) : shares_Turn.f k a = some (if dc (Pa a) = true then (turnOf a, 0) else ([], 2)) := by
  unfold shares_Turn.f
  rw [isP_one a la k (by omega), Option.bind_some]
  by_cases h : Pa a
  · rw [dc_true h, if_pos rfl, if_pos rfl, turn_f h k hk, Option.bind_some]
  · rw [dc_false h, if_neg (by decide), if_neg (by decide)]
end Go.Proofs.Ytefmafbbnkkpjaa.Pure
