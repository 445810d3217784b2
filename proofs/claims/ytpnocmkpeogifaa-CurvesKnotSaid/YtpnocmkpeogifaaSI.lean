/- A knot more: the basic curves of the longer knots. -/
import Derived.Test.YtpnocmkpeogifaaSPa
namespace Go.Proofs.Ytpnocmkpeogifaa.Pure
set_option linter.unusedVariables false
set_option linter.unusedSimpArgs false

/-- knots with one more, behind a place -/
def K2 (K : Nat → Int) (j : Nat) (k : Int) (i : Nat) : Int := if i ≤ j then K i else if i = j + 1 then k else K (i - 1)
/-- the part of its own pole that a new one has -/
def al (K : Nat → Int) (j : Nat) (k : Int) (d i : Nat) : Rat := if i + d ≤ j then 1 else if j < i then 0 else ((k - K i : Int) : Rat) / ((K (i + d) - K i : Int) : Rat)
/-- where a knot is put in, and the pieces of a point -/
structure Ki (K : Nat → Int) (j : Nat) (k : Int) (p q : Nat) (t : Rat) : Prop where
  mono : ∀ i i', i ≤ i' → K i ≤ K i'
  lo : K j ≤ k
  hi : k < K (j + 1)
  b : p < j → q = p
  a : j < p → q = p + 1
  e : p = j → q = j ∨ q = j + 1
  lt : K2 K j k q < K2 K j k (q + 1)
theorem k2_mono {K : Nat → Int} {j : Nat} {k : Int} (hm : ∀ i i', i ≤ i' → K i ≤ K i') (lo : K j ≤ k) (hi : k < K (j + 1)) (i i' : Nat) (h : i ≤ i') : K2 K j k i ≤ K2 K j k i' := by
  unfold K2
  by_cases c1 : i ≤ j
  · rw [if_pos c1]
    by_cases c2 : i' ≤ j
    · rw [if_pos c2]; exact hm _ _ h
    · rw [if_neg c2]
      have h1 := hm i j c1
      by_cases c3 : i' = j + 1
      · rw [if_pos c3]; omega
      · rw [if_neg c3]
        have := hm (j + 1) (i' - 1) (by omega)
        omega
  · rw [if_neg c1, if_neg (show ¬ i' ≤ j by omega)]
    by_cases c2 : i = j + 1
    · rw [if_pos c2]
      by_cases c3 : i' = j + 1
      · rw [if_pos c3]; omega
      · rw [if_neg c3]
        have := hm (j + 1) (i' - 1) (by omega)
        omega
    · rw [if_neg c2, if_neg (show ¬ i' = j + 1 by omega)]
      exact hm _ _ (by omega)
theorem nb_flat {K : Nat → Int} {p : Nat} {t : Rat} (hm : ∀ i i', i ≤ i' → K i ≤ K i') (hp : K p < K (p + 1)) (d i : Nat) (h : K i = K (i + d + 1)) : Nb K p t d i = 0 := by
  refine nb_supp d i ?_
  by_cases c1 : p < i
  · exact .inl c1
  · by_cases c2 : i + d < p
    · exact .inr c2
    · have h1 := hm i p (by omega)
      have h2 := hm (p + 1) (i + d + 1) (by omega)
      omega
theorem rne {a b : Int} (h : a ≠ b) : (a : Rat) - (b : Rat) ≠ 0 := by
  intro e
  have : (a : Rat) = (b : Rat) := by grind
  exact h (Rat.intCast_inj.mp this)
theorem step1 {K : Nat → Int} {j : Nat} {k : Int} {p q : Nat} {t : Rat} (h : Ki K j k p q t) (d i : Nat) :
    (t - K i) / ((K (i + d + 1) - K i : Int) : Rat) * (al K j k d i * Nb (K2 K j k) q t d i) = al K j k (d + 1) i * ((t - K2 K j k i) / ((K2 K j k (i + d + 1) - K2 K j k i : Int) : Rat) * Nb (K2 K j k) q t d i) := by
  have z := nb_flat (t := t) (k2_mono h.mono h.lo h.hi) h.lt d i
  by_cases c1 : i + d + 1 ≤ j
  · have e1 : K2 K j k i = K i := if_pos (by omega)
    have e2 : K2 K j k (i + d + 1) = K (i + d + 1) := if_pos (by omega)
    rw [e1, e2, al, if_pos (by omega), al, if_pos (by omega)]; grind
  · by_cases c2 : j < i
    · rw [al, if_neg (by omega), if_pos c2, al, if_neg (by omega), if_pos c2]; grind
    · have e1 : K2 K j k i = K i := if_pos (by omega)
      by_cases c3 : i + d = j
      · have e2 : K2 K j k (i + d + 1) = k := by unfold K2; rw [if_neg (by omega), if_pos (by omega)]
        rw [e1, e2] at z ⊢
        rw [al, if_pos (by omega), al, if_neg (by omega), if_neg c2, show i + (d + 1) = i + d + 1 by omega]
        by_cases ek : K i = k
        · rw [z ek]; grind
        · have n1 := rne (show k ≠ K i by omega)
          simp only [Rat.intCast_sub]
          grind
      · have e2 : K2 K j k (i + d + 1) = K (i + d) := by unfold K2; rw [if_neg (by omega), if_neg (by omega)]; rfl
        rw [e1, e2, al, if_neg (by omega), if_neg c2, al, if_neg (by omega), if_neg c2, show i + (d + 1) = i + d + 1 by omega]
        grind
theorem step3 {K : Nat → Int} {j : Nat} {k : Int} {p q : Nat} {t : Rat} (h : Ki K j k p q t) (d m : Nat) :
    (K (m + d + 1) - t) / ((K (m + d + 1) - K m : Int) : Rat) * ((1 - al K j k d (m + 1)) * Nb (K2 K j k) q t d (m + 1)) = (1 - al K j k (d + 1) m) * ((K2 K j k (m + d + 2) - t) / ((K2 K j k (m + d + 2) - K2 K j k (m + 1) : Int) : Rat) * Nb (K2 K j k) q t d (m + 1)) := by
  by_cases c1 : m + d + 1 ≤ j
  · rw [al, if_pos (by omega), al, if_pos (by omega)]; grind
  · by_cases c2 : j < m
    · have e1 : K2 K j k (m + 1) = K m := by unfold K2; rw [if_neg (by omega), if_neg (by omega)]; rfl
      have e2 : K2 K j k (m + d + 2) = K (m + d + 1) := by unfold K2; rw [if_neg (by omega), if_neg (by omega)]; rfl
      rw [e1, e2, al, if_neg (by omega), if_pos (by omega), al, if_neg (by omega), if_pos c2]; grind
    · have e2 : K2 K j k (m + d + 2) = K (m + d + 1) := by unfold K2; rw [if_neg (by omega), if_neg (by omega)]; rfl
      have hD := h.mono (j + 1) (m + d + 1) (by omega)
      have hA := h.mono m j (by omega)
      have hk := h.hi
      have hl := h.lo
      by_cases c3 : m = j
      · subst c3
        have e1 : K2 K m k (m + 1) = k := by unfold K2; rw [if_neg (by omega), if_pos rfl]
        rw [e1, e2, al, if_neg (by omega), if_pos (by omega), al, if_neg (by omega), if_neg (by omega), show m + (d + 1) = m + d + 1 by omega]
        have n1 := rne (show K (m + d + 1) ≠ K m by omega)
        have n2 := rne (show K (m + d + 1) ≠ k by omega)
        simp only [Rat.intCast_sub]
        grind
      · have e1 : K2 K j k (m + 1) = K (m + 1) := if_pos (by omega)
        have hB := h.mono (m + 1) j (by omega)
        rw [e1, e2, al, if_neg (by omega), if_neg (by omega), al, if_neg (by omega), if_neg (by omega), show m + 1 + d = m + d + 1 by omega, show m + (d + 1) = m + d + 1 by omega]
        have n1 := rne (show K (m + d + 1) ≠ K m by omega)
        have n2 := rne (show K (m + d + 1) ≠ K (m + 1) by omega)
        simp only [Rat.intCast_sub]
        grind
theorem step2 {K : Nat → Int} {j : Nat} {k : Int} {p q : Nat} {t : Rat} (h : Ki K j k p q t) (d i : Nat) :
    ((t - K i) / ((K (i + d + 1) - K i : Int) : Rat) * (1 - al K j k d (i + 1)) + (K (i + d + 2) - t) / ((K (i + d + 2) - K (i + 1) : Int) : Rat) * al K j k d (i + 1)) * Nb (K2 K j k) q t d (i + 1) =
    (al K j k (d + 1) i * ((K2 K j k (i + d + 2) - t) / ((K2 K j k (i + d + 2) - K2 K j k (i + 1) : Int) : Rat)) + (1 - al K j k (d + 1) (i + 1)) * ((t - K2 K j k (i + 1)) / ((K2 K j k (i + d + 2) - K2 K j k (i + 1) : Int) : Rat))) * Nb (K2 K j k) q t d (i + 1) := by
  have z := nb_flat (t := t) (k2_mono h.mono h.lo h.hi) h.lt d (i + 1)
  rw [show i + 1 + d + 1 = i + d + 2 by omega] at z
  have hk := h.hi
  have hl := h.lo
  by_cases c1 : i + d + 2 ≤ j
  · have e1 : K2 K j k (i + 1) = K (i + 1) := if_pos (by omega)
    have e2 : K2 K j k (i + d + 2) = K (i + d + 2) := if_pos (by omega)
    rw [e1, e2, al, if_pos (by omega), al, if_pos (by omega), al, if_pos (by omega)]; grind
  · by_cases c2 : j < i
    · have e1 : K2 K j k (i + 1) = K i := by unfold K2; rw [if_neg (by omega), if_neg (by omega)]; rfl
      have e2 : K2 K j k (i + d + 2) = K (i + d + 1) := by unfold K2; rw [if_neg (by omega), if_neg (by omega)]; rfl
      rw [e1, e2, al, if_neg (by omega), if_pos (by omega), al, if_neg (by omega), if_pos (by omega), al, if_neg (by omega), if_pos (by omega)]; grind
    · by_cases c3 : i + d + 1 = j
      · have e1 : K2 K j k (i + 1) = K (i + 1) := if_pos (by omega)
        have e2 : K2 K j k (i + d + 2) = k := by unfold K2; rw [if_neg (by omega), if_pos (by omega)]
        rw [e1, e2] at z ⊢
        have hB := h.mono (i + 1) j (by omega)
        have hD : K (i + d + 2) = K (j + 1) := by congr 1; omega
        rw [al, if_pos (by omega), al, if_pos (by omega), al, if_neg (by omega), if_neg (by omega), show i + 1 + (d + 1) = i + d + 2 by omega]
        by_cases ek : K (i + 1) = k
        · rw [z ek]; grind
        · have n1 := rne (show k ≠ K (i + 1) by omega)
          have n2 := rne (show K (i + d + 2) ≠ K (i + 1) by omega)
          simp only [Rat.intCast_sub]
          grind
      · have e2 : K2 K j k (i + d + 2) = K (i + d + 1) := by unfold K2; rw [if_neg (by omega), if_neg (by omega)]; rfl
        have hC := h.mono (j + 1) (i + d + 1) (by omega)
        have hA := h.mono i j (by omega)
        by_cases c4 : i = j
        · subst c4
          have e1 : K2 K i k (i + 1) = k := by unfold K2; rw [if_neg (by omega), if_pos rfl]
          rw [e1, e2, al, if_neg (by omega), if_pos (by omega), al, if_neg (by omega), if_neg (by omega), al, if_neg (by omega), if_pos (by omega), show i + (d + 1) = i + d + 1 by omega]
          have n1 := rne (show K (i + d + 1) ≠ K i by omega)
          have n2 := rne (show K (i + d + 1) ≠ k by omega)
          simp only [Rat.intCast_sub]
          grind
        · have e1 : K2 K j k (i + 1) = K (i + 1) := if_pos (by omega)
          have hB := h.mono (i + 1) j (by omega)
          have hD := h.mono (j + 1) (i + d + 2) (by omega)
          rw [e1, e2, al, if_neg (by omega), if_neg (by omega), al, if_neg (by omega), if_neg (by omega), al, if_neg (by omega), if_neg (by omega), show i + 1 + d = i + d + 1 by omega, show i + (d + 1) = i + d + 1 by omega, show i + 1 + (d + 1) = i + d + 2 by omega]
          have n1 := rne (show K (i + d + 1) ≠ K i by omega)
          have n2 := rne (show K (i + d + 1) ≠ K (i + 1) by omega)
          have n3 := rne (show K (i + d + 2) ≠ K (i + 1) by omega)
          simp only [Rat.intCast_sub]
          grind
theorem knot_nb {K : Nat → Int} {j : Nat} {k : Int} {p q : Nat} {t : Rat} (h : Ki K j k p q t) : ∀ d i, Nb K p t d i = al K j k d i * Nb (K2 K j k) q t d i + (1 - al K j k d (i + 1)) * Nb (K2 K j k) q t d (i + 1)
  | 0, i => by
    have hb := h.b; have ha := h.a; have he := h.e
    simp only [Nb, al]
    rcases Nat.lt_trichotomy i j with c | c | c
    · rw [if_pos (show i + 0 ≤ j by omega), if_pos (show i + 1 + 0 ≤ j by omega)]
      by_cases e : i = p
      · rw [if_pos e, if_pos (by omega)]; grind
      · rw [if_neg e, if_neg (by omega)]; grind
    · subst c
      rw [if_pos (show i + 0 ≤ i by omega), if_neg (show ¬ i + 1 + 0 ≤ i by omega), if_pos (show i < i + 1 by omega)]
      by_cases e : i = p
      · rcases he e.symm with e2 | e2
        · rw [if_pos e, if_pos (by omega), if_neg (by omega)]; grind
        · rw [if_pos e, if_neg (by omega), if_pos (by omega)]; grind
      · rw [if_neg e, if_neg (by omega), if_neg (by omega)]; grind
    · rw [if_neg (show ¬ i + 0 ≤ j by omega), if_pos c, if_neg (show ¬ i + 1 + 0 ≤ j by omega), if_pos (show j < i + 1 by omega)]
      by_cases e : i = p
      · rw [if_pos e, if_pos (show i + 1 = q by omega)]; grind
      · rw [if_neg e, if_neg (show ¬ i + 1 = q by omega)]; grind
  | d + 1, i => by
    have s1 := step1 h d i
    have s2 := step2 h d i
    have s3 := step3 h d (i + 1)
    rw [show i + 1 + d + 1 = i + d + 2 by omega, show i + 1 + d + 2 = i + d + 3 by omega, show i + 1 + 1 = i + 2 by omega] at s3
    have r1 := knot_nb h d i
    have r2 := knot_nb h d (i + 1)
    rw [show i + 1 + 1 = i + 2 by omega] at r2
    simp only [Nb]
    rw [r1, r2, show i + 1 + d + 1 = i + d + 2 by omega, show i + 1 + d + 2 = i + d + 3 by omega, show i + 1 + 1 = i + 2 by omega]
    generalize Nb (K2 K j k) q t d i = N0 at *
    generalize Nb (K2 K j k) q t d (i + 1) = N1 at *
    generalize Nb (K2 K j k) q t d (i + 2) = N2 at *
    generalize (t - K i) / ((K (i + d + 1) - K i : Int) : Rat) = u at *
    generalize (K (i + d + 2) - t) / ((K (i + d + 2) - K (i + 1) : Int) : Rat) = v at *
    generalize (t - K2 K j k i) / ((K2 K j k (i + d + 1) - K2 K j k i : Int) : Rat) = u0 at *
    generalize (K2 K j k (i + d + 2) - t) / ((K2 K j k (i + d + 2) - K2 K j k (i + 1) : Int) : Rat) = v0 at *
    generalize (t - K2 K j k (i + 1)) / ((K2 K j k (i + d + 2) - K2 K j k (i + 1) : Int) : Rat) = u1 at *
    generalize (K2 K j k (i + d + 3) - t) / ((K2 K j k (i + d + 3) - K2 K j k (i + 2) : Int) : Rat) = v1 at *
    grind
/-- the poles of the longer knots -/
def pb (K : Nat → Int) (j : Nat) (k : Int) (d n : Nat) (P : Nat → Rat) (i : Nat) : Rat := (if i < n then al K j k d i * P i else 0) + (if 0 < i then (1 - al K j k d i) * P (i - 1) else 0)
theorem knot_sum {K : Nat → Int} {j : Nat} {k : Int} {p q : Nat} {t : Rat} (h : Ki K j k p q t) (d : Nat) (P : Nat → Rat) (n : Nat) : sm n (fun i => P i * Nb K p t d i) = sm (n + 1) (fun i => pb K j k d n P i * Nb (K2 K j k) q t d i) := by
  have key : ∀ m, m ≤ n → sm m (fun i => P i * Nb K p t d i) = sm m (fun i => pb K j k d n P i * Nb (K2 K j k) q t d i) + (if 0 < m then (1 - al K j k d m) * P (m - 1) * Nb (K2 K j k) q t d m else 0) := by
    intro m
    induction m with
    | zero => intro _; simp [sm]; grind
    | succ m ih =>
      intro hm
      have e := ih (by omega)
      simp only [sm]
      rw [e, knot_nb h d m, if_pos (show 0 < m + 1 by omega), show m + 1 - 1 = m by omega]
      unfold pb
      rw [if_pos (show m < n by omega)]
      by_cases c : 0 < m
      · rw [if_pos c, if_pos c]; grind
      · rw [if_neg c, if_neg c]; grind
  rw [key n (Nat.le_refl _)]
  simp only [sm]
  congr 1
  unfold pb
  rw [if_neg (show ¬ n < n by omega)]
  by_cases c : 0 < n
  · rw [if_pos c, if_pos c]; grind
  · rw [if_neg c, if_neg c]; grind
end Go.Proofs.Ytpnocmkpeogifaa.Pure
