/- Knots put in, over the rational numbers: the changes of the poles do not grow. -/
import Derived.Test.YtpnocmkpeogifaaSPa
namespace Go.Proofs.Ytpnocmkpeogifaa.Pure
set_option linter.unusedVariables false
set_option linter.unusedSimpArgs false

/-! ### a knot more -/
/-- the basic curves over rational knots -/
def NbR (K : Nat → Rat) (p : Nat) (t : Rat) : Nat → Nat → Rat
  | 0, i => if i = p then 1 else 0
  | d + 1, i => (t - K i) / (K (i + d + 1) - K i) * NbR K p t d i + (K (i + d + 2) - t) / (K (i + d + 2) - K (i + 1)) * NbR K p t d (i + 1)
theorem nbr_supp {K : Nat → Rat} {p : Nat} {t : Rat} : ∀ d i, p < i ∨ i + d < p → NbR K p t d i = 0
  | 0, i, h => by rw [NbR, if_neg (by omega)]
  | d + 1, i, h => by
    rw [NbR, nbr_supp d i (by omega), nbr_supp d (i + 1) (by omega)]
    grind
theorem nbr_eq {K : Nat → Rat} {Z : Nat → Int} {p : Nat} {t : Rat} : ∀ d i, (∀ m, i ≤ m → m ≤ i + d + 1 → K m = (Z m : Rat)) → NbR K p t d i = Nb Z p t d i
  | 0, i, _ => rfl
  | d + 1, i, h => by
    rw [NbR, Nb, nbr_eq d i (fun m a b => h m a (by omega)), nbr_eq d (i + 1) (fun m a b => h m (by omega) (by omega)), h i (by omega) (by omega), h (i + d + 1) (by omega) (by omega), h (i + d + 2) (by omega) (by omega), h (i + 1) (by omega) (by omega), Rat.intCast_sub, Rat.intCast_sub]
def R2 (K : Nat → Rat) (j : Nat) (k : Rat) (i : Nat) : Rat := if i ≤ j then K i else if i = j + 1 then k else K (i - 1)
def ar (K : Nat → Rat) (j : Nat) (k : Rat) (d i : Nat) : Rat := if i + d ≤ j then 1 else if j < i then 0 else (k - K i) / (K (i + d) - K i)
/-- where a knot is put in -/
structure In1 (K : Nat → Rat) (j : Nat) (k : Rat) : Prop where
  mono : ∀ i i', i ≤ i' → K i ≤ K i'
  lo : K j ≤ k
  hi : k < K (j + 1)
/-- ... and the pieces of a point -/
structure Kr (K : Nat → Rat) (j : Nat) (k : Rat) (p q : Nat) : Prop extends In1 K j k where
  b : p < j → q = p
  a : j < p → q = p + 1
  e : p = j → q = j ∨ q = j + 1
  lt : R2 K j k q < R2 K j k (q + 1)
theorem r2_lo {K : Nat → Rat} {j : Nat} {k : Rat} {i : Nat} (h : i ≤ j) : R2 K j k i = K i := if_pos h
theorem r2_at {K : Nat → Rat} {j : Nat} {k : Rat} : R2 K j k (j + 1) = k := by unfold R2; rw [if_neg (by omega), if_pos rfl]
theorem r2_hi {K : Nat → Rat} {j : Nat} {k : Rat} {i : Nat} (h : j < i) : R2 K j k (i + 1) = K i := by unfold R2; rw [if_neg (by omega), if_neg (by omega)]; rfl
theorem r2_mono {K : Nat → Rat} {j : Nat} {k : Rat} (h : In1 K j k) (i i' : Nat) (hi : i ≤ i') : R2 K j k i ≤ R2 K j k i' := by
  have hl := h.lo; have hh := h.hi
  by_cases c1 : i' ≤ j
  · rw [r2_lo (by omega), r2_lo c1]; exact h.mono _ _ hi
  · by_cases c2 : i' = j + 1
    · rw [c2, r2_at]
      by_cases c3 : i ≤ j
      · rw [r2_lo c3]; have := h.mono i j c3; grind
      · rw [show i = j + 1 by omega, r2_at]; grind
    · obtain ⟨m', rfl⟩ : ∃ m, i' = m + 1 := ⟨i' - 1, by omega⟩
      rw [r2_hi (by omega)]
      have h1 := h.mono (j + 1) m' (by omega)
      by_cases c3 : i ≤ j
      · rw [r2_lo c3]; have := h.mono i j c3; grind
      · by_cases c4 : i = j + 1
        · rw [c4, r2_at]; grind
        · obtain ⟨m, rfl⟩ : ∃ m, i = m + 1 := ⟨i - 1, by omega⟩
          rw [r2_hi (by omega)]; exact h.mono _ _ (by omega)
theorem nbr_flat {K : Nat → Rat} {p : Nat} {t : Rat} (hm : ∀ i i', i ≤ i' → K i ≤ K i') (hp : K p < K (p + 1)) (d i : Nat) (h : K i = K (i + d + 1)) : NbR K p t d i = 0 := by
  refine nbr_supp d i ?_
  by_cases c1 : p < i
  · exact .inl c1
  · by_cases c2 : i + d < p
    · exact .inr c2
    · have h1 := hm i p (by omega)
      have h2 := hm (p + 1) (i + d + 1) (by omega)
      grind
theorem rs1 {K : Nat → Rat} {j : Nat} {k : Rat} {p q : Nat} {t : Rat} (h : Kr K j k p q) (d i : Nat) :
    (t - K i) / (K (i + d + 1) - K i) * (ar K j k d i * NbR (R2 K j k) q t d i) = ar K j k (d + 1) i * ((t - R2 K j k i) / (R2 K j k (i + d + 1) - R2 K j k i) * NbR (R2 K j k) q t d i) := by
  have z := nbr_flat (t := t) (r2_mono h.toIn1) h.lt d i
  by_cases c1 : i + d + 1 ≤ j
  · rw [r2_lo (show i ≤ j by omega), r2_lo c1, ar, if_pos (by omega), ar, if_pos (by omega)]; grind
  · by_cases c2 : j < i
    · rw [ar, if_neg (by omega), if_pos c2, ar, if_neg (by omega), if_pos c2]; grind
    · have e1 : R2 K j k i = K i := r2_lo (by omega)
      by_cases c3 : i + d = j
      · have e2 : R2 K j k (i + d + 1) = k := by rw [c3, r2_at]
        rw [e1, e2] at z ⊢
        rw [ar, if_pos (by omega), ar, if_neg (by omega), if_neg c2, show i + (d + 1) = i + d + 1 by omega]
        by_cases ek : K i = k
        · rw [z ek]; grind
        · have n1 : k - K i ≠ 0 := by grind
          grind
      · have e2 : R2 K j k (i + d + 1) = K (i + d) := r2_hi (by omega)
        rw [e1, e2, ar, if_neg (by omega), if_neg c2, ar, if_neg (by omega), if_neg c2, show i + (d + 1) = i + d + 1 by omega]
        grind
theorem rs3 {K : Nat → Rat} {j : Nat} {k : Rat} {p q : Nat} {t : Rat} (h : Kr K j k p q) (d m : Nat) :
    (K (m + d + 1) - t) / (K (m + d + 1) - K m) * ((1 - ar K j k d (m + 1)) * NbR (R2 K j k) q t d (m + 1)) = (1 - ar K j k (d + 1) m) * ((R2 K j k (m + d + 2) - t) / (R2 K j k (m + d + 2) - R2 K j k (m + 1)) * NbR (R2 K j k) q t d (m + 1)) := by
  by_cases c1 : m + d + 1 ≤ j
  · rw [ar, if_pos (by omega), ar, if_pos (by omega)]; grind
  · by_cases c2 : j < m
    · rw [show m + d + 2 = m + d + 1 + 1 by omega, r2_hi (show j < m by omega), r2_hi (show j < m + d + 1 by omega), ar, if_neg (by omega), if_pos (by omega), ar, if_neg (by omega), if_pos c2]; grind
    · have e2 : R2 K j k (m + d + 2) = K (m + d + 1) := r2_hi (by omega)
      have hD := h.mono (j + 1) (m + d + 1) (by omega)
      have hA := h.mono m j (by omega)
      have hk := h.hi
      have hl := h.lo
      by_cases c3 : m = j
      · subst c3
        rw [r2_at, e2, ar, if_neg (by omega), if_pos (by omega), ar, if_neg (by omega), if_neg (by omega), show m + (d + 1) = m + d + 1 by omega]
        have n1 : K (m + d + 1) - K m ≠ 0 := by grind
        have n2 : K (m + d + 1) - k ≠ 0 := by grind
        grind
      · have e1 : R2 K j k (m + 1) = K (m + 1) := r2_lo (by omega)
        have hB := h.mono (m + 1) j (by omega)
        rw [e1, e2, ar, if_neg (by omega), if_neg (by omega), ar, if_neg (by omega), if_neg (by omega), show m + 1 + d = m + d + 1 by omega, show m + (d + 1) = m + d + 1 by omega]
        have n1 : K (m + d + 1) - K m ≠ 0 := by grind
        have n2 : K (m + d + 1) - K (m + 1) ≠ 0 := by grind
        grind
theorem rs2 {K : Nat → Rat} {j : Nat} {k : Rat} {p q : Nat} {t : Rat} (h : Kr K j k p q) (d i : Nat) :
    ((t - K i) / (K (i + d + 1) - K i) * (1 - ar K j k d (i + 1)) + (K (i + d + 2) - t) / (K (i + d + 2) - K (i + 1)) * ar K j k d (i + 1)) * NbR (R2 K j k) q t d (i + 1) =
    (ar K j k (d + 1) i * ((R2 K j k (i + d + 2) - t) / (R2 K j k (i + d + 2) - R2 K j k (i + 1))) + (1 - ar K j k (d + 1) (i + 1)) * ((t - R2 K j k (i + 1)) / (R2 K j k (i + d + 2) - R2 K j k (i + 1)))) * NbR (R2 K j k) q t d (i + 1) := by
  have z := nbr_flat (t := t) (r2_mono h.toIn1) h.lt d (i + 1)
  rw [show i + 1 + d + 1 = i + d + 2 by omega] at z
  have hk := h.hi
  have hl := h.lo
  by_cases c1 : i + d + 2 ≤ j
  · rw [r2_lo (show i + 1 ≤ j by omega), r2_lo c1, ar, if_pos (by omega), ar, if_pos (by omega), ar, if_pos (by omega)]; grind
  · by_cases c2 : j < i
    · rw [show i + d + 2 = i + d + 1 + 1 by omega, r2_hi (show j < i by omega), r2_hi (show j < i + d + 1 by omega), ar, if_neg (by omega), if_pos (by omega), ar, if_neg (by omega), if_pos (by omega), ar, if_neg (by omega), if_pos (by omega)]; grind
    · by_cases c3 : i + d + 1 = j
      · have e1 : R2 K j k (i + 1) = K (i + 1) := r2_lo (by omega)
        have e2 : R2 K j k (i + d + 2) = k := by rw [show i + d + 2 = j + 1 by omega, r2_at]
        rw [e1, e2] at z ⊢
        have hB := h.mono (i + 1) j (by omega)
        have hD : K (i + d + 2) = K (j + 1) := by congr 1; omega
        rw [ar, if_pos (by omega), ar, if_pos (by omega), ar, if_neg (by omega), if_neg (by omega), show i + 1 + (d + 1) = i + d + 2 by omega]
        by_cases ek : K (i + 1) = k
        · rw [z ek]; grind
        · have n1 : k - K (i + 1) ≠ 0 := by grind
          have n2 : K (i + d + 2) - K (i + 1) ≠ 0 := by grind
          grind
      · have e2 : R2 K j k (i + d + 2) = K (i + d + 1) := r2_hi (by omega)
        have hC := h.mono (j + 1) (i + d + 1) (by omega)
        have hA := h.mono i j (by omega)
        by_cases c4 : i = j
        · subst c4
          rw [r2_at, e2, ar, if_neg (by omega), if_pos (by omega), ar, if_neg (by omega), if_neg (by omega), ar, if_neg (by omega), if_pos (by omega), show i + (d + 1) = i + d + 1 by omega]
          have n1 : K (i + d + 1) - K i ≠ 0 := by grind
          have n2 : K (i + d + 1) - k ≠ 0 := by grind
          grind
        · have e1 : R2 K j k (i + 1) = K (i + 1) := r2_lo (by omega)
          have hB := h.mono (i + 1) j (by omega)
          have hD := h.mono (j + 1) (i + d + 2) (by omega)
          rw [e1, e2, ar, if_neg (by omega), if_neg (by omega), ar, if_neg (by omega), if_neg (by omega), ar, if_neg (by omega), if_neg (by omega), show i + 1 + d = i + d + 1 by omega, show i + (d + 1) = i + d + 1 by omega, show i + 1 + (d + 1) = i + d + 2 by omega]
          have n1 : K (i + d + 1) - K i ≠ 0 := by grind
          have n2 : K (i + d + 1) - K (i + 1) ≠ 0 := by grind
          have n3 : K (i + d + 2) - K (i + 1) ≠ 0 := by grind
          grind
theorem knot_nbr {K : Nat → Rat} {j : Nat} {k : Rat} {p q : Nat} {t : Rat} (h : Kr K j k p q) : ∀ d i, NbR K p t d i = ar K j k d i * NbR (R2 K j k) q t d i + (1 - ar K j k d (i + 1)) * NbR (R2 K j k) q t d (i + 1)
  | 0, i => by
    have hb := h.b; have ha := h.a; have he := h.e
    simp only [NbR, ar]
    rcases Nat.lt_trichotomy i j with c | c | c
    · rw [if_pos (show i + 0 ≤ j by omega), if_pos (show i + 1 + 0 ≤ j by omega)]
      by_cases e : i = p
      · rw [if_pos e, if_pos (by omega)]; grind
      · rw [if_neg e, if_neg (by omega)]; grind
    · subst c
      rw [if_pos (show i + 0 ≤ i by omega), if_neg (show ¬ i + 1 + 0 ≤ i by omega), if_pos (show i < i + 1 by omega)]
      by_cases e : i = p
      · rcases he e.symm with e2 | e2
        · rw [if_pos e, if_pos (by omega), if_neg (by omega)]; grind
        · rw [if_pos e, if_neg (by omega), if_pos (by omega)]; grind
      · rw [if_neg e, if_neg (by omega), if_neg (by omega)]; grind
    · rw [if_neg (show ¬ i + 0 ≤ j by omega), if_pos c, if_neg (show ¬ i + 1 + 0 ≤ j by omega), if_pos (show j < i + 1 by omega)]
      by_cases e : i = p
      · rw [if_pos e, if_pos (show i + 1 = q by omega)]; grind
      · rw [if_neg e, if_neg (show ¬ i + 1 = q by omega)]; grind
  | d + 1, i => by
    have s1 := rs1 (t := t) h d i
    have s2 := rs2 (t := t) h d i
    have s3 := rs3 (t := t) h d (i + 1)
    rw [show i + 1 + d + 1 = i + d + 2 by omega, show i + 1 + d + 2 = i + d + 3 by omega, show i + 1 + 1 = i + 2 by omega] at s3
    have r1 := knot_nbr (t := t) h d i
    have r2 := knot_nbr (t := t) h d (i + 1)
    rw [show i + 1 + 1 = i + 2 by omega] at r2
    simp only [NbR]
    rw [r1, r2, show i + 1 + d + 1 = i + d + 2 by omega, show i + 1 + d + 2 = i + d + 3 by omega, show i + 1 + 1 = i + 2 by omega]
    generalize NbR (R2 K j k) q t d i = N0 at *
    generalize NbR (R2 K j k) q t d (i + 1) = N1 at *
    generalize NbR (R2 K j k) q t d (i + 2) = N2 at *
    generalize (t - K i) / (K (i + d + 1) - K i) = u at *
    generalize (K (i + d + 2) - t) / (K (i + d + 2) - K (i + 1)) = v at *
    generalize (t - R2 K j k i) / (R2 K j k (i + d + 1) - R2 K j k i) = u0 at *
    generalize (R2 K j k (i + d + 2) - t) / (R2 K j k (i + d + 2) - R2 K j k (i + 1)) = v0 at *
    generalize (t - R2 K j k (i + 1)) / (R2 K j k (i + d + 2) - R2 K j k (i + 1)) = u1 at *
    generalize (R2 K j k (i + d + 3) - t) / (R2 K j k (i + d + 3) - R2 K j k (i + 2)) = v1 at *
    grind
/-- the poles of the longer knots -/
def pr (K : Nat → Rat) (j : Nat) (k : Rat) (d : Nat) (P : Nat → Rat) (i : Nat) : Rat := ar K j k d i * P i + (1 - ar K j k d i) * P (i - 1)
/-- the value at a point, by its piece -/
def vr (K P : Nat → Rat) (d p : Nat) (t : Rat) : Rat := sm (p + 1) (fun i => P i * NbR K p t d i)
theorem vr_more (K P : Nat → Rat) (d p : Nat) (t : Rat) : ∀ n, sm (p + 1 + n) (fun i => P i * NbR K p t d i) = vr K P d p t
  | 0 => rfl
  | n + 1 => by
    rw [← Nat.add_assoc, sm, vr_more K P d p t n, nbr_supp d (p + 1 + n) (by omega)]
    grind
theorem knot_val {K : Nat → Rat} {j : Nat} {k : Rat} {p q : Nat} {t : Rat} (h : Kr K j k p q) (d : Nat) (hd : d ≤ j) (P : Nat → Rat) : vr (R2 K j k) (pr K j k d P) d q t = vr K P d p t := by
  have key : ∀ m, sm m (fun i => P i * NbR K p t d i) = sm m (fun i => pr K j k d P i * NbR (R2 K j k) q t d i) + (if 0 < m then (1 - ar K j k d m) * P (m - 1) * NbR (R2 K j k) q t d m else 0) := by
    intro m
    induction m with
    | zero => simp [sm]; grind
    | succ m ih =>
      simp only [sm]
      rw [ih, knot_nbr h d m, if_pos (show 0 < m + 1 by omega), show m + 1 - 1 = m by omega]
      unfold pr
      by_cases c : 0 < m
      · rw [if_pos c]; grind
      · obtain rfl : m = 0 := by omega
        have e : ar K j k d 0 = 1 := if_pos (by omega)
        rw [if_neg (by omega), e]
        simp only [Nat.zero_sub]
        grind
  have hq : q ≤ p + 1 := by
    have := h.b; have := h.a; have := h.e
    rcases Nat.lt_trichotomy p j with c | c | c <;> omega
  have k1 := key (p + 1 + 1 + 1)
  rw [show p + 1 + 1 + 1 = p + 1 + 2 by omega, vr_more, if_pos (by omega), nbr_supp d (p + 1 + 2) (by omega)] at k1
  obtain ⟨n, hn⟩ : ∃ n, p + 1 + 2 = q + 1 + n := ⟨p + 1 + 2 - (q + 1), by omega⟩
  rw [hn, vr_more] at k1
  grind

/-! ### points, pieces, and how often a point stands -/
def On (K : Nat → Rat) (p : Nat) (t : Rat) (r : Bool) : Prop := if r = true then K p ≤ t ∧ t < K (p + 1) else K p < t ∧ t = K (p + 1)
def Mu (K : Nat → Rat) (p : Nat) (t : Rat) (r : Bool) (c : Nat) : Prop := if r = true then ∀ i, i < c → i ≤ p ∧ K (p - i) = t else ∀ i, 1 ≤ i → i ≤ c → K (p + i) = t
theorem on_step {K : Nat → Rat} {j : Nat} {k : Rat} (h : In1 K j k) {p : Nat} {t : Rat} {r : Bool} (o : On K p t r) :
    ∃ q, Kr K j k p q ∧ On (R2 K j k) q t r ∧ p ≤ q ∧ ∀ c, Mu K p t r c → Mu (R2 K j k) q t r (if t = k then c + 1 else c) := by
  have hl := h.lo; have hh := h.hi; have hm := h.mono
  cases r with
  | true =>
    unfold On at o
    rw [if_pos rfl] at o
    obtain ⟨o1, o2⟩ := o
    rcases Nat.lt_trichotomy p j with c | c | c
    · have hon : On (R2 K j k) p t true := by
        unfold On; rw [if_pos rfl, r2_lo (by omega), r2_lo (by omega)]; exact ⟨o1, o2⟩
      have hlt : R2 K j k p < R2 K j k (p + 1) := by
        unfold On at hon; rw [if_pos rfl] at hon; grind
      refine ⟨p, ⟨h, fun _ => rfl, fun g => by omega, fun g => by omega, hlt⟩, hon, Nat.le_refl _, fun c' M => ?_⟩
      have hne : ¬ t = k := by
        have := hm (p + 1) j (by omega)
        intro e; grind
      rw [if_neg hne]
      unfold Mu at M ⊢
      rw [if_pos rfl] at M ⊢
      intro i hi
      obtain ⟨m1, m2⟩ := M i hi
      exact ⟨m1, by rw [r2_lo (by omega)]; exact m2⟩
    · subst c
      by_cases g : k ≤ t
      · have hon : On (R2 K p k) (p + 1) t true := by
          unfold On; rw [if_pos rfl, r2_at, r2_hi (by omega)]; exact ⟨g, o2⟩
        have hlt : R2 K p k (p + 1) < R2 K p k (p + 1 + 1) := by
          unfold On at hon; rw [if_pos rfl] at hon; grind
        refine ⟨p + 1, ⟨h, fun g => by omega, fun g => by omega, fun _ => .inr rfl, hlt⟩, hon, by omega, fun c' M => ?_⟩
        unfold Mu at M ⊢
        rw [if_pos rfl] at M ⊢
        by_cases e : t = k
        · rw [if_pos e]
          intro i hi
          by_cases i0 : i = 0
          · rw [i0, Nat.sub_zero, r2_at]; exact ⟨by omega, e.symm⟩
          · obtain ⟨m1, m2⟩ := M (i - 1) (by omega)
            refine ⟨by omega, ?_⟩
            rw [show p + 1 - i = p - (i - 1) by omega, r2_lo (by omega)]; exact m2
        · rw [if_neg e]
          intro i hi
          obtain ⟨m1, m2⟩ := M 0 (by omega)
          rw [Nat.sub_zero] at m2
          exact absurd (show t = k by grind) e
      · have hon : On (R2 K p k) p t true := by
          unfold On; rw [if_pos rfl, r2_at, r2_lo (by omega)]; exact ⟨o1, by grind⟩
        have hlt : R2 K p k p < R2 K p k (p + 1) := by
          unfold On at hon; rw [if_pos rfl] at hon; grind
        refine ⟨p, ⟨h, fun g => by omega, fun g => by omega, fun _ => .inl rfl, hlt⟩, hon, by omega, fun c' M => ?_⟩
        rw [if_neg (by intro e; exact g (by grind))]
        unfold Mu at M ⊢
        rw [if_pos rfl] at M ⊢
        intro i hi
        obtain ⟨m1, m2⟩ := M i hi
        exact ⟨m1, by rw [r2_lo (by omega)]; exact m2⟩
    · have hjp := hm (j + 1) p (by omega)
      have hon : On (R2 K j k) (p + 1) t true := by
        unfold On; rw [if_pos rfl, r2_hi (by omega), r2_hi (by omega)]; exact ⟨o1, o2⟩
      have hlt : R2 K j k (p + 1) < R2 K j k (p + 1 + 1) := by
        unfold On at hon; rw [if_pos rfl] at hon; grind
      refine ⟨p + 1, ⟨h, fun g => by omega, fun _ => rfl, fun g => by omega, hlt⟩, hon, by omega, fun c' M => ?_⟩
      rw [if_neg (by intro e; grind)]
      unfold Mu at M ⊢
      rw [if_pos rfl] at M ⊢
      intro i hi
      obtain ⟨m1, m2⟩ := M i hi
      refine ⟨by omega, ?_⟩
      by_cases g : j < p - i
      · rw [show p + 1 - i = p - i + 1 by omega, r2_hi g]; exact m2
      · have := hm (p - i) j (by omega)
        exfalso
        grind
  | false =>
    unfold On at o
    rw [if_neg (by decide)] at o
    obtain ⟨o1, o2⟩ := o
    by_cases c : p < j
    · have hpj := hm (p + 1) j (by omega)
      have hon : On (R2 K j k) p t false := by
        unfold On; rw [if_neg (by decide), r2_lo (by omega), r2_lo (by omega)]; exact ⟨o1, o2⟩
      have hlt : R2 K j k p < R2 K j k (p + 1) := by
        unfold On at hon; rw [if_neg (by decide)] at hon; grind
      refine ⟨p, ⟨h, fun _ => rfl, fun g => by omega, fun g => by omega, hlt⟩, hon, Nat.le_refl _, fun c' M => ?_⟩
      unfold Mu at M ⊢
      rw [if_neg (by decide)] at M ⊢
      have low : ∀ i, 1 ≤ i → i ≤ c' → p + i ≤ j := by
        intro i i1 i2
        refine Classical.byContradiction fun hn => ?_
        have := hm (j + 1) (p + i) (by omega)
        have := M i i1 i2
        grind
      by_cases e : t = k
      · rw [if_pos e]
        intro i i1 i2
        by_cases g : p + i ≤ j
        · rw [r2_lo g]
          have := hm (p + 1) (p + i) (by omega)
          have := hm (p + i) j g
          grind
        · have hij : p + i = j + 1 := by
            by_cases g1 : i = 1
            · omega
            · have := low (i - 1) (by omega) (by omega); omega
          rw [hij, r2_at]; exact e.symm
      · rw [if_neg e]
        intro i i1 i2
        rw [r2_lo (low i i1 i2)]; exact M i i1 i2
    · have hjp := hm (j + 1) (p + 1) (by omega)
      have hon : On (R2 K j k) (p + 1) t false := by
        unfold On; rw [if_neg (by decide), r2_hi (i := p + 1) (by omega)]
        refine ⟨?_, o2⟩
        by_cases g : p = j
        · rw [g, r2_at]; grind
        · rw [r2_hi (by omega)]; exact o1
      have hlt : R2 K j k (p + 1) < R2 K j k (p + 1 + 1) := by
        unfold On at hon; rw [if_neg (by decide)] at hon; grind
      refine ⟨p + 1, ⟨h, fun g => by omega, fun _ => rfl, fun g => .inr (by omega), hlt⟩, hon, by omega, fun c' M => ?_⟩
      rw [if_neg (by intro e; grind)]
      unfold Mu at M ⊢
      rw [if_neg (by decide)] at M ⊢
      intro i i1 i2
      rw [show p + 1 + i = p + i + 1 by omega, r2_hi (by omega)]; exact M i i1 i2
/-- a point that stands as often as the degree: the value is a pole -/
theorem stands {K P : Nat → Rat} {d p : Nat} {t : Rat} {r : Bool} (hm : ∀ i i', i ≤ i' → K i ≤ K i') (o : On K p t r) (hd : d ≤ p) (M : Mu K p t r d) : vr K P d p t = P (if r = true then p - d else p) := by
  have pick : ∀ a, a ≤ p → (∀ i, NbR K p t d i = if i = a then 1 else 0) → vr K P d p t = P a := by
    intro a ha hN
    have : ∀ m, sm m (fun i => P i * NbR K p t d i) = if a < m then P a else 0 := by
      intro m
      induction m with
      | zero => rw [if_neg (by omega)]; rfl
      | succ m ih =>
        rw [sm, ih, hN m]
        rcases Nat.lt_trichotomy a m with c | c | c
        · rw [if_pos c, if_neg (by omega), if_pos (by omega)]; grind
        · rw [if_neg (by omega), if_pos c.symm, if_pos (by omega), c]; grind
        · rw [if_neg (by omega), if_neg (by omega), if_neg (by omega)]; grind
    rw [vr, this, if_pos (by omega)]
  cases r with
  | true =>
    unfold On at o; unfold Mu at M
    rw [if_pos rfl] at o M ⊢
    refine pick (p - d) (by omega) ?_
    have : ∀ e, e ≤ d → ∀ i, NbR K p t e i = if i = p - e then 1 else 0 := by
      intro e
      induction e with
      | zero => intro _ i; rfl
      | succ e ih =>
        intro he i
        have m1 := (M e (by omega)).2
        have i1 := ih (by omega) i
        have i2 := ih (by omega) (i + 1)
        rw [NbR, i1, i2]
        by_cases c : i = p - (e + 1)
        · have h1 : i + 1 = p - e := by omega
          have h2 : i + e + 2 = p + 1 := by omega
          rw [if_neg (by omega), if_pos h1, if_pos c, h1, h2, m1]
          have := o.2
          grind
        · by_cases c2 : i = p - e
          · rw [if_pos c2, if_neg (by omega), if_neg c, c2, m1]; grind
          · rw [if_neg c2, if_neg (by omega), if_neg c]; grind
    exact this d (Nat.le_refl _)
  | false =>
    unfold On at o; unfold Mu at M
    rw [if_neg (by decide)] at o M ⊢
    refine pick p (Nat.le_refl _) ?_
    have : ∀ e, e ≤ d → ∀ i, NbR K p t e i = if i = p then 1 else 0 := by
      intro e
      induction e with
      | zero => intro _ i; rfl
      | succ e ih =>
        intro he i
        have m1 := M (e + 1) (by omega) (by omega)
        have i1 := ih (by omega) i
        have i2 := ih (by omega) (i + 1)
        rw [NbR, i1, i2]
        by_cases c : i = p
        · rw [if_pos c, if_neg (by omega), c, show p + e + 1 = p + (e + 1) by omega, m1]
          have := o.1
          grind
        · by_cases c2 : i + 1 = p
          · rw [if_neg c, if_pos c2, show i + e + 2 = p + (e + 1) by omega, m1]; grind
          · rw [if_neg c, if_neg c2]; grind
    exact this d (Nat.le_refl _)

/-! ### changes of the sign -/
def Sg (s : Bool) (x : Rat) : Prop := if s = true then 0 < x else x < 0
/-- c changes, from a place on, the first of a sign -/
def Ch (A : Nat → Rat) : Nat → Bool → Nat → Prop
  | 0, s, lo => ∃ i, lo ≤ i ∧ Sg s (A i)
  | c + 1, s, lo => ∃ i, lo ≤ i ∧ Sg s (A i) ∧ Ch A c (!s) (i + 1)
theorem ch_weak {A : Nat → Rat} {c : Nat} {s : Bool} {a b : Nat} (hab : b ≤ a) (h : Ch A c s a) : Ch A c s b := by
  cases c with
  | zero => obtain ⟨i, h1, h2⟩ := h; exact ⟨i, by omega, h2⟩
  | succ c => obtain ⟨i, h1, h2⟩ := h; exact ⟨i, by omega, h2⟩
theorem sg_not {s : Bool} {x : Rat} (h : Sg s x) (h2 : Sg (!s) x) : False := by
  cases s <;> simp [Sg] at h h2 <;> grind
theorem ch_off {A : Nat → Rat} {c : Nat} {s : Bool} {a : Nat} (h : Ch A c (!s) a) (hs : Sg s (A a)) : Ch A c (!s) (a + 1) := by
  have ne : ∀ i, a ≤ i → Sg (!s) (A i) → a + 1 ≤ i := by
    intro i h1 h2
    by_cases e : i = a
    · rw [e] at h2; exact (sg_not hs h2).elim
    · omega
  cases c with
  | zero => obtain ⟨i, h1, h2⟩ := h; exact ⟨i, ne i h1 h2, h2⟩
  | succ c => obtain ⟨i, h1, h2, h3⟩ := h; exact ⟨i, ne i h1 h2, h2, h3⟩
/-- where each sign comes of a place that does not fall -/
theorem ch_map {A B : Nat → Rat} (g : Nat → Bool → Nat → Prop) (hg : ∀ i s, Sg s (A i) → ∃ m, g i s m ∧ Sg s (B m)) (up : ∀ i s m i' s' m', i < i' → g i s m → g i' s' m' → m ≤ m') :
    ∀ c s lo, Ch A c s lo → ∀ b, (∀ i s' m, lo ≤ i → g i s' m → b ≤ m) → Ch B c s b
  | 0, s, lo, h, b, hb => by
    obtain ⟨i, h1, h2⟩ := h
    obtain ⟨m, g1, g2⟩ := hg i s h2
    exact ⟨m, hb i s m h1 g1, g2⟩
  | c + 1, s, lo, h, b, hb => by
    obtain ⟨i, h1, h2, h3⟩ := h
    obtain ⟨m, g1, g2⟩ := hg i s h2
    have := ch_map g hg up c (!s) (i + 1) h3 m (fun i' s' m' hi g' => up i s m i' s' m' (by omega) g1 g')
    exact ⟨m, hb i s m h1 g1, g2, ch_off this g2⟩
theorem ar_01 {K : Nat → Rat} {j : Nat} {k : Rat} (h : In1 K j k) (d i : Nat) : 0 ≤ ar K j k d i ∧ ar K j k d i ≤ 1 := by
  unfold ar
  split
  · exact ⟨by decide, by decide⟩
  · split
    · exact ⟨by decide, by decide⟩
    · rename_i c1 c2
      have h1 := h.mono i j (by omega)
      have h2 := h.mono (j + 1) (i + d) (by omega)
      have h3 := h.hi; have h4 := h.lo
      have n1 : K (i + d) - K i ≠ 0 := by grind
      have q1 : 0 ≤ (k - K i) / (K (i + d) - K i) := div_nonneg (by grind) (by grind)
      have q2 : 0 ≤ (K (i + d) - k) / (K (i + d) - K i) := div_nonneg (by grind) (by grind)
      have e : (k - K i) / (K (i + d) - K i) = 1 - (K (i + d) - k) / (K (i + d) - K i) := by grind
      refine ⟨q1, ?_⟩
      rw [e]
      clear e q1 n1
      grind
theorem pr_sg {K : Nat → Rat} {j : Nat} {k : Rat} (h : In1 K j k) (d : Nat) (P : Nat → Rat) (i : Nat) (s : Bool) (hs : Sg s (pr K j k d P i)) : Sg s (P i) ∨ Sg s (P (i - 1)) := by
  obtain ⟨a0, a1⟩ := ar_01 h d i
  have a2 : 0 ≤ 1 - ar K j k d i := by grind
  unfold pr at hs
  cases s with
  | true =>
    simp only [Sg, if_pos] at hs ⊢
    refine Classical.byContradiction fun hn => ?_
    have p1 : P i ≤ 0 := by grind
    have p2 : P (i - 1) ≤ 0 := by grind
    have e1 := Rat.mul_le_mul_of_nonneg_left p1 a0
    have e2 := Rat.mul_le_mul_of_nonneg_left p2 a2
    grind
  | false =>
    simp only [Sg] at hs ⊢
    refine Classical.byContradiction fun hn => ?_
    have p1 : 0 ≤ P i := by grind
    have p2 : 0 ≤ P (i - 1) := by grind
    have e1 := Rat.mul_le_mul_of_nonneg_left p1 a0
    have e2 := Rat.mul_le_mul_of_nonneg_left p2 a2
    grind
theorem pr_ch {K : Nat → Rat} {j : Nat} {k : Rat} (h : In1 K j k) (d : Nat) (P : Nat → Rat) (c : Nat) (s : Bool) (hc : Ch (pr K j k d P) c s 0) : Ch P c s 0 := by
  refine ch_map (fun i _ m => m = i ∨ m = i - 1) (fun i s hs => ?_) (fun i s m i' s' m' hi h1 h2 => ?_) c s 0 hc 0 (fun _ _ _ _ _ => Nat.zero_le _)
  · rcases pr_sg h d P i s hs with c1 | c1
    · exact ⟨i, .inl rfl, c1⟩
    · exact ⟨i - 1, .inr rfl, c1⟩
  · omega

/-! ### many knots -/
/-- what comes of a curve's knots and poles when knots are put in; T: how often each -/
structure Fn (d : Nat) (K P K' P' : Nat → Rat) (T : Rat → Nat) : Prop where
  mono : ∀ i i', i ≤ i' → K' i ≤ K' i'
  base : K' d = K d
  top : ∃ b, 12 < K' b
  pt : ∀ t p r, On K p t r → d ≤ p → ∃ q, On K' q t r ∧ d ≤ q ∧ vr K' P' d q t = vr K P d p t ∧ ∀ c, Mu K p t r c → Mu K' q t r (c + T t)
  ch : ∀ c s, Ch P' c s 0 → Ch P c s 0
theorem find_in {K : Nat → Rat} (mono : ∀ i i', i ≤ i' → K i ≤ K i') {d b : Nat} {k : Rat} (lo : K d ≤ k) (hb : k < K b) : ∃ j, d ≤ j ∧ In1 K j k := by
  have key : ∀ n i, d ≤ i → K i ≤ k → i + n = b → ∃ j, d ≤ j ∧ In1 K j k := by
    intro n
    induction n with
    | zero => intro i h0 h1 h2; rw [show i = b by omega] at h1; grind
    | succ n ih =>
      intro i h0 h1 h2
      by_cases c : k < K (i + 1)
      · exact ⟨i, h0, mono, h1, c⟩
      · exact ih (i + 1) (by omega) (by grind) (by omega)
  have hdb : d ≤ b := by
    refine Classical.byContradiction fun hn => ?_
    have := mono b d (by omega); grind
  exact key (b - d) d (Nat.le_refl _) lo (by omega)
def cnt (t : Rat) : List Rat → Nat
  | [] => 0
  | x :: l => cnt t l + if t = x then 1 else 0
theorem many {d : Nat} {K P : Nat → Rat} (mono : ∀ i i', i ≤ i' → K i ≤ K i') (top : ∃ b, 12 < K b) : ∀ l : List Rat, (∀ x, x ∈ l → K d ≤ x ∧ x ≤ 12) → ∃ K' P', Fn d K P K' P' (fun t => cnt t l)
  | [], _ => ⟨K, P, mono, rfl, top, fun t p r o hp => ⟨p, o, hp, rfl, fun c M => M⟩, fun c s h => h⟩
  | x :: l, hl => by
    obtain ⟨K', P', F⟩ := many (P := P) mono top l (fun y hy => hl y (List.mem_cons_of_mem _ hy))
    obtain ⟨x1, x2⟩ := hl x (List.mem_cons_self ..)
    obtain ⟨b, hb⟩ := F.top
    obtain ⟨j, dj, I⟩ := find_in F.mono (d := d) (k := x) (b := b) (by rw [F.base]; exact x1) (by grind)
    refine ⟨R2 K' j x, pr K' j x d P', r2_mono I, by rw [r2_lo dj]; exact F.base, ⟨b + 1, ?_⟩, ?_, fun c s h => F.ch c s (pr_ch I d P' c s h)⟩
    · have hjb : j < b := by
        refine Classical.byContradiction fun hn => ?_
        have := F.mono b j (by omega)
        have := I.lo
        grind
      rw [r2_hi hjb]; exact hb
    · intro t p r o hp
      obtain ⟨q, o1, q1, v1, M1⟩ := F.pt t p r o hp
      obtain ⟨q', G, o2, q2, M2⟩ := on_step I o1
      refine ⟨q', o2, by omega, (knot_val G d dj P').trans v1, fun c M => ?_⟩
      have := M2 _ (M1 c M)
      simp only [cnt]
      split
      · rename_i e; rw [if_pos e] at this; rw [← Nat.add_assoc]; exact this
      · rename_i e; rw [if_neg e] at this; rw [Nat.add_zero]; exact this
theorem mu_less {K : Nat → Rat} {p : Nat} {t : Rat} {r : Bool} {a b : Nat} (h : a ≤ b) (M : Mu K p t r b) : Mu K p t r a := by
  cases r with
  | true => unfold Mu at *; rw [if_pos rfl] at *; exact fun i hi => M i (by omega)
  | false => unfold Mu at *; rw [if_neg (by decide)] at *; exact fun i h1 h2 => M i h1 (by omega)
theorem cnt_append (t : Rat) : ∀ a b, cnt t (a ++ b) = cnt t a + cnt t b
  | [], b => by simp [cnt]
  | x :: a, b => by rw [List.cons_append, cnt, cnt, cnt_append t a b]; omega
theorem cnt_rep (t : Rat) : ∀ n, cnt t (List.replicate n t) = n
  | 0 => rfl
  | n + 1 => by rw [List.replicate_succ, cnt, if_pos rfl, cnt_rep t n]
/-- each of these as often as the degree -/
def each (d : Nat) : List Rat → List Rat
  | [] => []
  | x :: l => List.replicate d x ++ each d l
theorem each_cnt {d : Nat} {t : Rat} : ∀ l, t ∈ l → d ≤ cnt t (each d l)
  | x :: l, h => by
    rw [each, cnt_append]
    rcases List.mem_cons.mp h with e | e
    · rw [← e, cnt_rep]; omega
    · have := each_cnt (d := d) l e; omega
theorem each_mem {d : Nat} {x : Rat} : ∀ l, x ∈ each d l → x ∈ l
  | y :: l, h => by
    rw [each, List.mem_append] at h
    rcases h with h | h
    · rw [List.eq_of_mem_replicate h]; exact List.mem_cons_self ..
    · exact List.mem_cons_of_mem _ (each_mem l h)
/-- THE VALUES AT RISING POINTS change their sign no more often than the poles -/
theorem turns {d : Nat} {K P : Nat → Rat} (mono : ∀ i i', i ≤ i' → K i ≤ K i') (top : ∃ b, 12 < K b) (l : List Rat) (hl : ∀ x, x ∈ l → K d ≤ x ∧ x ≤ 12)
    (V : Nat → Rat) (t : Nat → Rat) (n : Nat) (ht : ∀ i, i < n → t i ∈ l) (hz : ∀ i, n ≤ i → V i = 0) (up : ∀ i i', i < i' → i' < n → t i < t i') {E : Rat}
    (hv : ∀ i, i < n → ∃ p r, On K p (t i) r ∧ d ≤ p ∧ vr K P d p (t i) = V i ∧ (r = false → ∀ m, m < n → t m ≤ t i)) (c : Nat) (s : Bool) (h : Ch V c s 0) : Ch P c s 0 := by
  obtain ⟨K', P', F⟩ := many (d := d) (P := P) mono top (each d l) (fun x hx => hl x (each_mem l hx))
  refine F.ch c s ?_
  refine ch_map (A := V) (fun i _ m => i < n ∧ ∃ q r, On K' q (t i) r ∧ d ≤ q ∧ (r = false → ∀ m, m < n → t m ≤ t i) ∧ m = (if r = true then q - d else q)) (fun i s hs => ?_) (fun i s m i' s' m' hi h1 h2 => ?_) c s 0 h 0 (fun _ _ _ _ _ => Nat.zero_le _)
  · have hin : i < n := by
      refine Classical.byContradiction fun hn => ?_
      rw [hz i (by omega)] at hs
      cases s <;> simp [Sg] at hs
    obtain ⟨p, r, o, dp, ev, hr⟩ := hv i hin
    obtain ⟨q, o2, dq, e2, M⟩ := F.pt (t i) p r o dp
    have M0 : Mu K p (t i) r 0 := by
      cases r with
      | true => unfold Mu; rw [if_pos rfl]; exact fun i hi => absurd hi (by omega)
      | false => unfold Mu; rw [if_neg (by decide)]; exact fun i h1 h2 => absurd h1 (by omega)
    have M2 := mu_less (show d ≤ 0 + cnt (t i) (each d l) by rw [Nat.zero_add]; exact each_cnt l (ht i hin)) (M 0 M0)
    have st := stands (P := P') F.mono o2 dq M2
    refine ⟨if r = true then q - d else q, ⟨hin, q, r, o2, dq, hr, rfl⟩, ?_⟩
    rw [← st, e2, ev]; exact hs
  · obtain ⟨n1, q, r, o, dq, hr, e⟩ := h1
    obtain ⟨n2, q', r', o', dq', hr', e'⟩ := h2
    have u := up i i' hi n2
    have r1 : r = true := by
      cases r with
      | true => rfl
      | false => have := hr rfl i' n2; grind
    subst r1
    unfold On at o
    rw [if_pos rfl] at o e
    have hq : q ≤ q' := by
      refine Classical.byContradiction fun hn => ?_
      have := F.mono (q' + 1) q (by omega)
      unfold On at o'
      split at o' <;> grind
    rw [e, e']
    split <;> omega
end Go.Proofs.Ytpnocmkpeogifaa.Pure
