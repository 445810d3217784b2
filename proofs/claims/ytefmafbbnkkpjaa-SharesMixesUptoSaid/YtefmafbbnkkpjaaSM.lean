/- Numbers that are at least as uneven as others: first sums of the falling lists, and what is above a bound. -/
import Derived.Test.YtefmafbbnkkpjaaSB
namespace Go.Proofs.Ytefmafbbnkkpjaa.Pure
open Go Go.RowKit Go.Proofs.Ytefmafbbnkkpjaa.X
set_option linter.unusedVariables false
set_option linter.unusedSimpArgs false

/-- the sum of the first numbers -/
def psm (l : List Int) (k : Nat) : Int := (l.take k).sum
/-- what numbers have above a bound -/
def ex (t : Int) : List Int → Int
  | [] => 0
  | x :: l => max (x - t) 0 + ex t l
def Nn (l : List Int) : Prop := ∀ x ∈ l, 0 ≤ x
/-- at least as uneven -/
def Maj (x y : List Int) : Prop := (∀ k, psm (insAll y) k ≤ psm (insAll x) k) ∧ x.sum = y.sum

theorem psm_zero (l : List Int) : psm l 0 = 0 := by simp [psm]
theorem psm_cons (x : Int) (l : List Int) (k : Nat) : psm (x :: l) (k + 1) = x + psm l k := by simp [psm]
theorem psm_all {l : List Int} {k : Nat} (h : l.length ≤ k) : psm l k = l.sum := by rw [psm, List.take_of_length_le h]
theorem psm_succ : ∀ (l : List Int) (k : Nat), psm l (k + 1) = psm l k + l.getD k 0
  | [], k => by simp [psm]
  | x :: l, 0 => by simp [psm]
  | x :: l, k + 1 => by rw [psm_cons, psm_cons, psm_succ l k]; simp; omega
theorem sum_perm {a b : List Int} (h : a.Perm b) : a.sum = b.sum := by
  induction h with
  | nil => rfl
  | cons x _ ih => simp only [List.sum_cons, ih]
  | swap x y l => simp only [List.sum_cons]; omega
  | trans _ _ h1 h2 => exact h1.trans h2
theorem Maj_desc {x y : List Int} (hx : Desc x) (hy : Desc y) : Maj x y ↔ (∀ k, psm y k ≤ psm x k) ∧ x.sum = y.sum := by
  unfold Maj; rw [D_of_desc hx, D_of_desc hy]

/-! ### the sum of all differences -/
def ds (c : Int) : List Int → Int
  | [] => 0
  | x :: l => max (c - x) (x - c) + ds c l
/-! ### gives -/
theorem at_perm : ∀ (l : List Int) (i : Nat) (h : i < l.length), ∃ r, l.Perm (l[i] :: r) ∧ ∀ a, (l.set i a).Perm (a :: r)
  | [], i, h => absurd h (by simp)
  | x :: l, 0, _ => ⟨l, by simp, fun a => by simp⟩
  | x :: l, i + 1, h => by
    obtain ⟨r, h1, h2⟩ := at_perm l i (by simpa using h)
    refine ⟨x :: r, ?_, fun a => ?_⟩
    · simpa using (List.Perm.cons x h1).trans (List.Perm.swap _ _ _)
    · simpa using (List.Perm.cons x (h2 a)).trans (List.Perm.swap _ _ _)
theorem two_lt : ∀ (l : List Int) (i j : Nat) (hij : i < j) (h : j < l.length), ∃ r, l.Perm (l[i] :: l[j] :: r) ∧ ∀ a b, ((l.set i a).set j b).Perm (a :: b :: r)
  | [], i, j, _, h => absurd h (by simp)
  | x :: l, 0, j + 1, _, h => by
    obtain ⟨r, h1, h2⟩ := at_perm l j (by simpa using h)
    exact ⟨r, by simpa using List.Perm.cons x h1, fun a b => by simpa using List.Perm.cons a (h2 b)⟩
  | x :: l, i + 1, j + 1, hij, h => by
    obtain ⟨r, h1, h2⟩ := two_lt l i j (by omega) (by simpa using h)
    have sw : ∀ (a b : Int), (x :: a :: b :: r).Perm (a :: b :: x :: r) := fun a b => (List.Perm.swap _ _ _).trans (List.Perm.cons a (List.Perm.swap _ _ _))
    exact ⟨x :: r, by simpa using (List.Perm.cons x h1).trans (sw _ _), fun a b => by simpa using (List.Perm.cons x (h2 a b)).trans (sw _ _)⟩
theorem two_at (l : List Int) (i j : Nat) (hij : i ≠ j) (hi : i < l.length) (hj : j < l.length) : ∃ r, l.Perm (l[i] :: l[j] :: r) ∧ ∀ a b, ((l.set i a).set j b).Perm (a :: b :: r) := by
  rcases Nat.lt_or_ge i j with c | c
  · exact two_lt l i j c hj
  · obtain ⟨r, h1, h2⟩ := two_lt l j i (by omega) hi
    refine ⟨r, h1.trans (List.Perm.swap _ _ _), fun a b => ?_⟩
    rw [List.set_comm _ _ (by omega)]
    exact (h2 b a).trans (List.Perm.swap _ _ _)
/-- what a give makes of shares -/
def give (l : List Int) (i j : Nat) (m : Int) : List Int := (l.set i (l.getD i 0 - m)).set j (l.getD j 0 + m)
structure MayGive (l : List Int) (i j : Nat) (m : Int) : Prop where
  hi : i < l.length
  hj : j < l.length
  ne : i ≠ j
  m1 : 1 ≤ m
  two : 2 * m ≤ l.getD i 0 - l.getD j 0
theorem getD_get {l : List Int} {i : Nat} (h : i < l.length) : l.getD i 0 = l[i] := by
  rw [List.getD_eq_getElem?_getD, List.getElem?_eq_getElem h, Option.getD_some]
theorem give_perm {l : List Int} {i j : Nat} {m : Int} (h : MayGive l i j m) : ∃ r, l.Perm (l.getD i 0 :: l.getD j 0 :: r) ∧ (give l i j m).Perm ((l.getD i 0 - m) :: (l.getD j 0 + m) :: r) := by
  obtain ⟨r, h1, h2⟩ := two_at l i j h.ne h.hi h.hj
  rw [getD_get h.hi, getD_get h.hj]
  exact ⟨r, h1, by unfold give; rw [getD_get h.hi, getD_get h.hj]; exact h2 _ _⟩
theorem give_len (l : List Int) (i j : Nat) (m : Int) : (give l i j m).length = l.length := by simp [give]
theorem give_sum {l : List Int} {i j : Nat} {m : Int} (h : MayGive l i j m) : (give l i j m).sum = l.sum := by
  obtain ⟨r, h1, h2⟩ := give_perm h
  rw [sum_perm h1, sum_perm h2]; simp only [List.sum_cons]; omega
theorem give_mem {l : List Int} {i j : Nat} {m b : Int} (h : MayGive l i j m) (hb : ∀ x ∈ l, 0 ≤ x ∧ x ≤ b) : ∀ x ∈ give l i j m, 0 ≤ x ∧ x ≤ b := by
  obtain ⟨r, h1, h2⟩ := give_perm h
  have := h.m1; have := h.two
  have p1 := hb _ (h1.symm.subset (by simp : l.getD i 0 ∈ l.getD i 0 :: l.getD j 0 :: r))
  have p2 := hb _ (h1.symm.subset (by simp : l.getD j 0 ∈ l.getD i 0 :: l.getD j 0 :: r))
  intro x hx
  rcases List.mem_cons.mp (h2.subset hx) with e | e
  · omega
  · rcases List.mem_cons.mp e with e | e
    · omega
    · exact hb x (h1.symm.subset (by simp [e]))
theorem set_getD (l : List Int) (i k : Nat) (v : Int) (h : i < l.length) : (l.set i v).getD k 0 = if k = i then v else l.getD k 0 := by
  simp only [List.getD_eq_getElem?_getD, List.getElem?_set]
  by_cases e : i = k
  · subst e; simp [h]
  · simp [e, Ne.symm e]
theorem give_getD {l : List Int} {i j : Nat} {m : Int} (h : MayGive l i j m) (k : Nat) : (give l i j m).getD k 0 = if k = i then l.getD i 0 - m else if k = j then l.getD j 0 + m else l.getD k 0 := by
  unfold give
  rw [set_getD _ _ _ _ (by simpa using h.hj), set_getD _ _ _ _ h.hi]
  have := h.ne
  by_cases e : k = j
  · subst e; simp [Ne.symm this]
  · simp [e]
theorem give_psm {l : List Int} {i j : Nat} {m : Int} (h : MayGive l i j m) : ∀ k, psm (give l i j m) k = psm l k - (if i < k then m else 0) + (if j < k then m else 0)
  | 0 => by simp [psm]
  | k + 1 => by
    have := h.ne
    rw [psm_succ, psm_succ, give_psm h k, give_getD h]
    by_cases e1 : k = i
    · subst e1
      have e2 : (j < k + 1) = (j < k) := by simp; omega
      simp [e2]; omega
    · by_cases e2 : k = j
      · subst e2
        have e3 : (i < k + 1) = (i < k) := by simp; omega
        simp [e1, e3]; omega
      · have e3 : (i < k + 1) = (i < k) := by simp; omega
        have e4 : (j < k + 1) = (j < k) := by simp; omega
        simp [e1, e2, e3, e4]; omega

/-! ### the way from the uneven to the even -/
structure Way (x y : List Int) : Prop where
  hl : x.length = y.length
  dy : Desc y
  dom : ∀ k, psm y k ≤ psm x k
  sm : x.sum = y.sum
/-- the next give -/
structure Step (x y : List Int) (i j : Nat) : Prop where
  hij : i < j
  hj : j < x.length
  more : y.getD i 0 < x.getD i 0
  less : x.getD j 0 < y.getD j 0
  same : ∀ k, i < k → k < j → x.getD k 0 = y.getD k 0
def much (x y : List Int) (i j : Nat) : Int := min (x.getD i 0 - y.getD i 0) (y.getD j 0 - x.getD j 0)
theorem desc_getD {y : List Int} (h : Desc y) {i j : Nat} (hij : i < j) (hj : j < y.length) : y.getD j 0 ≤ y.getD i 0 := by
  rw [getD_get hj, getD_get (by omega)]
  exact List.pairwise_iff_getElem.mp h i j _ _ hij
theorem step_may {x y : List Int} {i j : Nat} (w : Way x y) (s : Step x y i j) : MayGive x i j (much x y i j) := by
  have h1 := desc_getD w.dy s.hij (by rw [← w.hl]; exact s.hj)
  have := s.more; have := s.less
  exact ⟨Nat.lt_trans s.hij s.hj, s.hj, Nat.ne_of_lt s.hij, by unfold much; omega, by unfold much; omega⟩
theorem between {x y : List Int} {i j : Nat} (s : Step x y i j) : ∀ n k, k = i + 1 + n → k ≤ j → psm x k - psm y k = psm x (i + 1) - psm y (i + 1)
  | 0, k, h, _ => by subst h; rfl
  | n + 1, k, h, hk => by
    subst h
    have ih := between s n (i + 1 + n) rfl (by omega)
    have e := s.same (i + 1 + n) (by omega) (by omega)
    rw [show i + 1 + (n + 1) = (i + 1 + n) + 1 by omega, psm_succ, psm_succ, e]; omega
theorem step_way {x y : List Int} {i j : Nat} (w : Way x y) (s : Step x y i j) : Way (give x i j (much x y i j)) y := by
  have h := step_may w s
  refine ⟨by rw [give_len]; exact w.hl, w.dy, fun k => ?_, by rw [give_sum h]; exact w.sm⟩
  rw [give_psm h]
  have hk := w.dom k
  by_cases c1 : i < k
  · by_cases c2 : j < k
    · simp [c1, c2]; omega
    · have e := between s (k - (i + 1)) k (by omega) (by omega)
      have e2 := w.dom i
      rw [psm_succ, psm_succ] at e
      have : much x y i j ≤ x.getD i 0 - y.getD i 0 := by unfold much; omega
      simp [c1, c2]; omega
  · have c2 : ¬ j < k := by have := s.hij; omega
    simp [c1, c2]; omega
/-- no give is left: the rows are the same -/
theorem way_end {x y : List Int} (w : Way x y) (h : ∀ i j, i < j → j < x.length → y.getD i 0 < x.getD i 0 → ¬ x.getD j 0 < y.getD j 0) : x = y := by
  have key : ∀ n, n ≤ x.length → psm x n = psm y n → (∀ k, k < n → x.getD k 0 = y.getD k 0) → ∀ m, n + m = x.length → ∀ k, k < x.length → x.getD k 0 = y.getD k 0 := by
    intro n hn he hk m
    induction m generalizing n with
    | zero => intro hm k hk2; exact hk k (by omega)
    | succ m ih =>
      intro hm
      have h1 := w.dom (n + 1)
      rw [psm_succ, psm_succ] at h1
      have h2 : ¬ y.getD n 0 < x.getD n 0 := by
        intro c
        have h3 : ∀ q, n + 1 + q ≤ x.length → psm y (n + 1 + q) < psm x (n + 1 + q) := by
          intro q
          induction q with
          | zero => intro _; rw [Nat.add_zero, psm_succ, psm_succ]; omega
          | succ q ihq =>
            intro hq
            have := ihq (by omega)
            have := h n (n + 1 + q) (by omega) (by omega) c
            rw [show n + 1 + (q + 1) = (n + 1 + q) + 1 by omega, psm_succ, psm_succ]; omega
        have h4 := h3 m (by omega)
        rw [show n + 1 + m = x.length by omega, psm_all (Nat.le_refl _), w.hl, psm_all (Nat.le_refl _)] at h4
        have := w.sm; omega
      have e : x.getD n 0 = y.getD n 0 := by omega
      refine ih (n + 1) (by omega) (by rw [psm_succ, psm_succ, he, e]) (fun k hk2 => ?_) (by omega)
      by_cases e2 : k = n
      · subst e2; exact e
      · exact hk k (by omega)
  have := key 0 (Nat.zero_le _) (by simp [psm]) (by omega) x.length (by omega)
  refine List.ext_getElem w.hl fun k h1 h2 => ?_
  have := this k h1
  rwa [getD_get h1, getD_get h2] at this
end Go.Proofs.Ytefmafbbnkkpjaa.Pure
