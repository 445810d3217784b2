/- Basic curves over the rational numbers. -/
import Derived.Test.YtpnocmkpeogifaaDoorSV
namespace Go.Proofs.YtpnocmkpeogifaaDoor.Pure
open Go.RowKit Go.Proofs.YtpnocmkpeogifaaDoor.X Go.Proofs.YtpnocmkpeogifaaDoorW.PrintWords Go.Proofs.YtpnocmkpeogifaaDoorW.PrintLast
set_option linter.unusedVariables false
set_option linter.unusedSimpArgs false
/-- a sum of the first values -/
def sm : Nat → (Nat → Rat) → Rat
  | 0, _ => 0
  | m + 1, f => sm m f + f m
theorem sm_congr {f g : Nat → Rat} : ∀ (m : Nat), (∀ i, i < m → f i = g i) → sm m f = sm m g
  | 0, _ => rfl
  | m + 1, h => by rw [sm, sm, sm_congr m (fun i hi => h i (by omega)), h m (by omega)]
theorem sm_add (f g : Nat → Rat) : ∀ m, sm m (fun i => f i + g i) = sm m f + sm m g
  | 0 => by simp only [sm]; grind
  | m + 1 => by rw [sm, sm, sm, sm_add f g m]; grind
theorem sm_shift (f : Nat → Rat) : ∀ m, sm m (fun i => f (i + 1)) + f 0 = sm m f + f m
  | 0 => by simp [sm]
  | m + 1 => by rw [sm, sm]; have := sm_shift f m; grind
theorem sm_nonneg {f : Nat → Rat} : ∀ (m : Nat), (∀ i, i < m → 0 ≤ f i) → 0 ≤ sm m f
  | 0, _ => by simp [sm]
  | m + 1, h => by rw [sm]; have := sm_nonneg m (fun i hi => h i (by omega)); have := h m (by omega); grind
theorem sm_le {f : Nat → Rat} : ∀ (m : Nat), (∀ i, i < m → 0 ≤ f i) → ∀ i, i < m → f i ≤ sm m f
  | 0, _, i, hi => absurd hi (by omega)
  | m + 1, h, i, hi => by
    rw [sm]
    have h1 := sm_nonneg m (fun i hi => h i (by omega))
    have h2 := h m (by omega)
    by_cases e : i = m
    · subst e; grind
    · have := sm_le m (fun i hi => h i (by omega)) i (by omega); grind
theorem sm_one (p : Nat) : ∀ m, p < m → sm m (fun i => if i = p then 1 else 0) = 1 := by
  have h0 : ∀ m, m ≤ p → sm m (fun i => if i = p then (1 : Rat) else 0) = 0 := by
    intro m
    induction m with
    | zero => intro _; rfl
    | succ m ih => intro h; rw [sm, ih (by omega), if_neg (by omega)]; grind
  intro m
  induction m with
  | zero => intro h; omega
  | succ m ih =>
    intro h
    rw [sm]
    by_cases e : m = p
    · subst e; rw [h0 m (by omega), if_pos rfl]; grind
    · rw [ih (by omega), if_neg e]; grind

/-- the basic curves over the rational numbers; p: the piece -/
def Nb (K : Nat → Int) (p : Nat) (t : Rat) : Nat → Nat → Rat
  | 0, i => if i = p then 1 else 0
  | d + 1, i => (t - K i) / ((K (i + d + 1) - K i : Int) : Rat) * Nb K p t d i + (K (i + d + 2) - t) / ((K (i + d + 2) - K (i + 1) : Int) : Rat) * Nb K p t d (i + 1)
/-- a point in a piece of rising knots -/
structure Pc (K : Nat → Int) (p : Nat) (t : Rat) : Prop where
  mono : ∀ i j, i ≤ j → K i ≤ K j
  lt : K p < K (p + 1)
  lo : (K p : Rat) ≤ t
  hi : t ≤ (K (p + 1) : Rat)
  bd : ∀ i, 0 ≤ K i ∧ K i ≤ 12
theorem nb_supp {K : Nat → Int} {p : Nat} {t : Rat} : ∀ d i, p < i ∨ i + d < p → Nb K p t d i = 0
  | 0, i, h => by rw [Nb, if_neg (by omega)]
  | d + 1, i, h => by
    rw [Nb, nb_supp d i (by omega), nb_supp d (i + 1) (by omega)]
    grind
theorem div_nonneg {a b : Rat} (ha : 0 ≤ a) (hb : 0 ≤ b) : 0 ≤ a / b := by
  rw [Rat.div_def]
  refine Rat.mul_nonneg ha ?_
  by_cases h : b = 0
  · rw [h, Rat.inv_zero]; decide
  · exact Rat.le_of_lt (Rat.inv_pos.mpr (Rat.lt_of_le_of_ne hb (Ne.symm h)))
theorem nb_nonneg {K : Nat → Int} {p : Nat} {t : Rat} (h : Pc K p t) : ∀ d i, 0 ≤ Nb K p t d i
  | 0, i => by rw [Nb]; split <;> decide
  | d + 1, i => by
    rw [Nb]
    have h1 : 0 ≤ (t - K i) / ((K (i + d + 1) - K i : Int) : Rat) * Nb K p t d i := by
      by_cases hs : p < i ∨ i + d < p
      · rw [nb_supp d i hs]; grind
      · refine Rat.mul_nonneg (div_nonneg ?_ ?_) (nb_nonneg h d i)
        · have : (K i : Rat) ≤ K p := Rat.intCast_le_intCast.mpr (h.mono i p (by omega))
          have := h.lo
          grind
        · have := h.mono i (i + d + 1) (by omega)
          exact Rat.intCast_nonneg.mpr (by omega)
    have h2 : 0 ≤ (K (i + d + 2) - t) / ((K (i + d + 2) - K (i + 1) : Int) : Rat) * Nb K p t d (i + 1) := by
      by_cases hs : p < i + 1 ∨ i + 1 + d < p
      · rw [nb_supp d (i + 1) hs]; grind
      · refine Rat.mul_nonneg (div_nonneg ?_ ?_) (nb_nonneg h d (i + 1))
        · have : (K (p + 1) : Rat) ≤ K (i + d + 2) := Rat.intCast_le_intCast.mpr (h.mono _ _ (by omega))
          have := h.hi
          grind
        · have := h.mono (i + 1) (i + d + 2) (by omega)
          exact Rat.intCast_nonneg.mpr (by omega)
    grind
theorem nb_ab {K : Nat → Int} {p : Nat} {t : Rat} (h : Pc K p t) (d i : Nat) :
    (t - K i) / ((K (i + d + 1) - K i : Int) : Rat) * Nb K p t d i + (K (i + d + 1) - t) / ((K (i + d + 1) - K i : Int) : Rat) * Nb K p t d i = Nb K p t d i := by
  by_cases hs : p < i ∨ i + d < p
  · rw [nb_supp d i hs]; grind
  · have h1 : K i < K (i + d + 1) := by
      have := h.mono i p (by omega)
      have := h.mono (p + 1) (i + d + 1) (by omega)
      have := h.lt
      omega
    have h2 : ((K (i + d + 1) - K i : Int) : Rat) = (K (i + d + 1) : Rat) - K i := by rw [Rat.intCast_sub]
    have h3 : (K (i + d + 1) : Rat) - K i ≠ 0 := by
      have := Rat.intCast_lt_intCast.mpr h1
      grind
    rw [h2]
    grind
theorem nb_sum {K : Nat → Int} {p : Nat} {t : Rat} (h : Pc K p t) : ∀ (d m : Nat), p < m → d ≤ p → sm m (Nb K p t d) = 1
  | 0, m, hm, _ => sm_one p m hm
  | d + 1, m, hm, hd => by
    have e := sm_shift (fun i => (K (i + d + 1) - t) / ((K (i + d + 1) - K i : Int) : Rat) * Nb K p t d i) m
    try dsimp only at e
    rw [nb_supp d 0 (by omega), nb_supp d m (by omega)] at e
    have e2 := sm_add (fun i => (t - K i) / ((K (i + d + 1) - K i : Int) : Rat) * Nb K p t d i) (fun i => (K (i + d + 2) - t) / ((K (i + d + 2) - K (i + 1) : Int) : Rat) * Nb K p t d (i + 1)) m
    have e3 := sm_add (fun i => (t - K i) / ((K (i + d + 1) - K i : Int) : Rat) * Nb K p t d i) (fun i => (K (i + d + 1) - t) / ((K (i + d + 1) - K i : Int) : Rat) * Nb K p t d i) m
    have e4 : sm m (fun i => (K (i + d + 2) - t) / ((K (i + d + 2) - K (i + 1) : Int) : Rat) * Nb K p t d (i + 1)) = sm m (fun i => (K (i + d + 1) - t) / ((K (i + d + 1) - K i : Int) : Rat) * Nb K p t d i) := by
      have e5 : (fun i => (K (i + d + 2) - t) / ((K (i + d + 2) - K (i + 1) : Int) : Rat) * Nb K p t d (i + 1)) = (fun i => (K (i + 1 + d + 1) - t) / ((K (i + 1 + d + 1) - K (i + 1) : Int) : Rat) * Nb K p t d (i + 1)) := by
        funext i
        rw [show i + 1 + d + 1 = i + d + 2 by omega]
      rw [e5]
      grind
    calc sm m (Nb K p t (d + 1)) = sm m (fun i => (t - K i) / ((K (i + d + 1) - K i : Int) : Rat) * Nb K p t d i + (K (i + d + 2) - t) / ((K (i + d + 2) - K (i + 1) : Int) : Rat) * Nb K p t d (i + 1)) := rfl
      _ = _ := e2
      _ = _ := by rw [e4]
      _ = _ := e3.symm
      _ = sm m (Nb K p t d) := sm_congr m (fun i _ => nb_ab h d i)
      _ = 1 := nb_sum h d m hm (by omega)
theorem nb_le_one {K : Nat → Int} {p : Nat} {t : Rat} (h : Pc K p t) (d i : Nat) (hd : d ≤ p) : Nb K p t d i ≤ 1 := by
  have h1 := nb_sum h d (max (p + 1) (i + 1)) (by omega) hd
  have h2 := sm_le (max (p + 1) (i + 1)) (fun j _ => nb_nonneg h d j) i (by omega)
  grind

theorem nb_t1 {K : Nat → Int} {p : Nat} {t : Rat} (h : Pc K p t) (d i : Nat) : 0 ≤ (t - K i) / ((K (i + d + 1) - K i : Int) : Rat) * Nb K p t d i := by
  by_cases hs : p < i ∨ i + d < p
  · rw [nb_supp d i hs]; grind
  · refine Rat.mul_nonneg (div_nonneg ?_ ?_) (nb_nonneg h d i)
    · have : (K i : Rat) ≤ K p := Rat.intCast_le_intCast.mpr (h.mono i p (by omega))
      have := h.lo
      grind
    · have := h.mono i (i + d + 1) (by omega)
      exact Rat.intCast_nonneg.mpr (by omega)
theorem nb_t2 {K : Nat → Int} {p : Nat} {t : Rat} (h : Pc K p t) (d i : Nat) : 0 ≤ (K (i + d + 2) - t) / ((K (i + d + 2) - K (i + 1) : Int) : Rat) * Nb K p t d (i + 1) := by
  by_cases hs : p < i + 1 ∨ i + 1 + d < p
  · rw [nb_supp d (i + 1) hs]; grind
  · refine Rat.mul_nonneg (div_nonneg ?_ ?_) (nb_nonneg h d (i + 1))
    · have : (K (p + 1) : Rat) ≤ K (i + d + 2) := Rat.intCast_le_intCast.mpr (h.mono _ _ (by omega))
      have := h.hi
      grind
    · have := h.mono (i + 1) (i + d + 2) (by omega)
      exact Rat.intCast_nonneg.mpr (by omega)
/-- what the denominators divide -/
def Dn (s w : Nat) : Nat → Nat
  | 0 => 1
  | 1 => s * w
  | d + 2 => s * 27720 * Dn s w (d + 1)
theorem sub_whole (t : Rat) (z : Int) : ∃ y : Int, (t - z) * (t.den : Rat) = (y : Rat) := by
  refine ⟨t.num - z * t.den, ?_⟩
  rw [Rat.intCast_sub, Rat.intCast_mul, ← mul_den t]
  have h2 : ((t.den : Int) : Rat) = (t.den : Rat) := rfl
  rw [h2]
  grind
theorem nat_ne {m : Nat} (h : 0 < m) : (m : Rat) ≠ 0 := by
  intro e
  have := Rat.natCast_pos.mpr h
  rw [e] at this
  exact Rat.lt_irrefl this
theorem den_div {a : Rat} {s : Nat} (hs : 0 < s) {y : Int} (ha : a * (s : Rat) = (y : Rat)) {w : Int} {M : Nat} (hM : 0 < M) (h0 : 0 ≤ w) (hw : w = 0 ∨ w.natAbs ∣ M) : (a / (w : Rat)).den ∣ s * M := by
  rcases hw with rfl | hw
  · have : a / ((0 : Int) : Rat) = 0 := by
      have : ((0 : Int) : Rat) = 0 := rfl
      rw [this]
      grind
    rw [this]
    exact Nat.one_dvd _
  · obtain ⟨m, hm⟩ := hw
    have hw0 : 0 < w.natAbs := Nat.pos_of_ne_zero (fun e => by rw [e] at hm; omega)
    refine den_of_whole (z := y * m) (Nat.mul_pos hs hM) ?_
    have e : (w : Rat) = ((w.natAbs : Nat) : Rat) := by
      have : w = ((w.natAbs : Nat) : Int) := by omega
      have h2 : ((w.natAbs : Nat) : Rat) = (((w.natAbs : Nat) : Int) : Rat) := rfl
      rw [h2, ← this]
    have hne := nat_ne hw0
    rw [Rat.natCast_mul, hm, Rat.natCast_mul, Rat.intCast_mul, e]
    have h3 : ((m : Int) : Rat) = (m : Rat) := rfl
    rw [← ha, h3]
    grind
theorem wid_dvd {w : Int} (h0 : 0 ≤ w) (h : w ≤ 12) : w = 0 ∨ w.natAbs ∣ 27720 := by
  have : w = 0 ∨ w = 1 ∨ w = 2 ∨ w = 3 ∨ w = 4 ∨ w = 5 ∨ w = 6 ∨ w = 7 ∨ w = 8 ∨ w = 9 ∨ w = 10 ∨ w = 11 ∨ w = 12 := by omega
  rcases this with rfl | rfl | rfl | rfl | rfl | rfl | rfl | rfl | rfl | rfl | rfl | rfl | rfl <;> decide
theorem neg_whole {t : Rat} {z : Int} {s : Nat} (h : ∃ y : Int, (t - z) * (s : Rat) = (y : Rat)) : ∃ y : Int, (z - t) * (s : Rat) = (y : Rat) := by
  obtain ⟨y, hy⟩ := h
  refine ⟨-y, ?_⟩
  rw [Rat.intCast_neg, ← hy]
  grind
theorem dn_pos {s w : Nat} (hs : 0 < s) (hw : 0 < w) : ∀ d, 0 < Dn s w d
  | 0 => by unfold Dn; decide
  | 1 => Nat.mul_pos hs hw
  | d + 2 => Nat.mul_pos (Nat.mul_pos hs (by decide)) (dn_pos hs hw (d + 1))
theorem nb_den {K : Nat → Int} {p : Nat} {t : Rat} (h : Pc K p t) : ∀ d i, (Nb K p t d i).den ∣ Dn t.den (K (p + 1) - K p).toNat d
  | 0, i => by rw [Nb]; split <;> exact Nat.one_dvd _
  | 1, i => by
    have hlt := h.lt
    have hp := dn_pos t.den_pos (show 0 < (K (p + 1) - K p).toNat by omega) 1
    have hw : (K (p + 1) - K p) = 0 ∨ (K (p + 1) - K p).natAbs ∣ (K (p + 1) - K p).toNat := Or.inr (by rw [show (K (p + 1) - K p).natAbs = (K (p + 1) - K p).toNat by omega]; exact Nat.dvd_refl _)
    rw [Nb, Nb, Nb]
    refine den_add_dvd hp ?_ ?_
    · by_cases e : i = p
      · subst e
        obtain ⟨y, hy⟩ := sub_whole t (K i)
        rw [if_pos rfl, Rat.mul_one]
        exact den_div t.den_pos hy (by omega) (by show 0 ≤ K (i + 1) - K i; omega) hw
      · rw [if_neg e, Rat.mul_zero]
        exact Nat.one_dvd _
    · by_cases e : i + 1 = p
      · subst e
        obtain ⟨y, hy⟩ := neg_whole (sub_whole t (K (i + 0 + 2)))
        rw [if_pos rfl, Rat.mul_one]
        exact den_div t.den_pos hy (by omega) (by show 0 ≤ K (i + 1 + 1) - K (i + 1); omega) hw
      · rw [if_neg e, Rat.mul_zero]
        exact Nat.one_dvd _
  | d + 2, i => by
    have hlt := h.lt
    have hp := dn_pos t.den_pos (show 0 < (K (p + 1) - K p).toNat by omega) (d + 2)
    have hp1 := dn_pos t.den_pos (show 0 < (K (p + 1) - K p).toNat by omega) (d + 1)
    have hs : 0 < t.den * 27720 := Nat.mul_pos t.den_pos (by decide)
    rw [Nb]
    refine den_add_dvd hp ?_ ?_
    · refine den_mul_dvd hs hp1 ?_ (nb_den h (d + 1) i)
      obtain ⟨y, hy⟩ := sub_whole t (K i)
      have := h.mono i (i + (d + 1) + 1) (by omega)
      have := h.bd i
      have := h.bd (i + (d + 1) + 1)
      exact den_div t.den_pos hy (by decide) (by omega) (wid_dvd (by omega) (by omega))
    · refine den_mul_dvd hs hp1 ?_ (nb_den h (d + 1) (i + 1))
      obtain ⟨y, hy⟩ := neg_whole (sub_whole t (K (i + (d + 1) + 2)))
      have := h.mono (i + 1) (i + (d + 1) + 2) (by omega)
      have := h.bd (i + 1)
      have := h.bd (i + (d + 1) + 2)
      exact den_div t.den_pos hy (by decide) (by omega) (wid_dvd (by omega) (by omega))
/-- the denominators of the two parts of a sum -/
theorem nb_den1 {K : Nat → Int} {p : Nat} {t : Rat} (h : Pc K p t) (d i : Nat) : ((t - K i) / ((K (i + d + 1) - K i : Int) : Rat) * Nb K p t d i).den ∣ Dn t.den (K (p + 1) - K p).toNat (d + 1) ∧
    ((K (i + d + 2) - t) / ((K (i + d + 2) - K (i + 1) : Int) : Rat) * Nb K p t d (i + 1)).den ∣ Dn t.den (K (p + 1) - K p).toNat (d + 1) := by
  have hlt := h.lt
  cases d with
  | zero =>
    have hw : (K (p + 1) - K p) = 0 ∨ (K (p + 1) - K p).natAbs ∣ (K (p + 1) - K p).toNat := Or.inr (by rw [show (K (p + 1) - K p).natAbs = (K (p + 1) - K p).toNat by omega]; exact Nat.dvd_refl _)
    rw [Nb, Nb]
    constructor
    · by_cases e : i = p
      · subst e
        obtain ⟨y, hy⟩ := sub_whole t (K i)
        rw [if_pos rfl, Rat.mul_one]
        exact den_div t.den_pos hy (by omega) (by show 0 ≤ K (i + 1) - K i; omega) hw
      · rw [if_neg e, Rat.mul_zero]
        exact Nat.one_dvd _
    · by_cases e : i + 1 = p
      · subst e
        obtain ⟨y, hy⟩ := neg_whole (sub_whole t (K (i + 0 + 2)))
        rw [if_pos rfl, Rat.mul_one]
        exact den_div t.den_pos hy (by omega) (by show 0 ≤ K (i + 1 + 1) - K (i + 1); omega) hw
      · rw [if_neg e, Rat.mul_zero]
        exact Nat.one_dvd _
  | succ d =>
    have hp1 := dn_pos t.den_pos (show 0 < (K (p + 1) - K p).toNat by omega) (d + 1)
    have hs : 0 < t.den * 27720 := Nat.mul_pos t.den_pos (by decide)
    constructor
    · refine den_mul_dvd hs hp1 ?_ (nb_den h (d + 1) i)
      obtain ⟨y, hy⟩ := sub_whole t (K i)
      have := h.mono i (i + (d + 1) + 1) (by omega)
      have := h.bd i
      have := h.bd (i + (d + 1) + 1)
      exact den_div t.den_pos hy (by decide) (by omega) (wid_dvd (by omega) (by omega))
    · refine den_mul_dvd hs hp1 ?_ (nb_den h (d + 1) (i + 1))
      obtain ⟨y, hy⟩ := neg_whole (sub_whole t (K (i + (d + 1) + 2)))
      have := h.mono (i + 1) (i + (d + 1) + 2) (by omega)
      have := h.bd (i + 1)
      have := h.bd (i + (d + 1) + 2)
      exact den_div t.den_pos hy (by decide) (by omega) (wid_dvd (by omega) (by omega))
theorem nb_sm {K : Nat → Int} {p : Nat} {t : Rat} (h : Pc K p t) (d i : Nat) (hd : d ≤ p) : Sm (Dn t.den (K (p + 1) - K p).toNat d) 1 (Nb K p t d i) := by
  have h0 := nb_nonneg h d i
  have h1 := nb_le_one h d i hd
  refine ⟨nb_den h d i, ?_, ?_⟩
  · have : (((1 : Nat) : Rat)) = 1 := rfl
    grind
  · exact h1
theorem nb_sm1 {K : Nat → Int} {p : Nat} {t : Rat} (h : Pc K p t) (d i : Nat) (hd : d + 1 ≤ p) : Sm (Dn t.den (K (p + 1) - K p).toNat (d + 1)) 1 ((t - K i) / ((K (i + d + 1) - K i : Int) : Rat) * Nb K p t d i) ∧
    Sm (Dn t.den (K (p + 1) - K p).toNat (d + 1)) 1 ((K (i + d + 2) - t) / ((K (i + d + 2) - K (i + 1) : Int) : Rat) * Nb K p t d (i + 1)) := by
  have a := nb_t1 h d i
  have b := nb_t2 h d i
  have c := nb_le_one h (d + 1) i hd
  rw [Nb] at c
  have e := nb_den1 h d i
  have o : (((1 : Nat) : Rat)) = 1 := rfl
  refine ⟨⟨e.1, ?_, ?_⟩, ⟨e.2, ?_, ?_⟩⟩ <;> grind
theorem dn_le {s w : Nat} (hs : s ≤ 12) (hw : w ≤ 12) : ∀ d, d ≤ 3 → Dn s w d ≤ 15934165401600
  | 0, _ => by unfold Dn; decide
  | 1, _ => by have := Nat.mul_le_mul hs hw; unfold Dn; omega
  | 2, _ => by
    have h1 := Nat.mul_le_mul hs hw
    have h2 := Nat.mul_le_mul (Nat.mul_le_mul_right 27720 hs) h1
    unfold Dn Dn; omega
  | 3, _ => by
    have h1 := Nat.mul_le_mul hs hw
    have h2 := Nat.mul_le_mul (Nat.mul_le_mul_right 27720 hs) h1
    have h3 := Nat.mul_le_mul (Nat.mul_le_mul_right 27720 hs) h2
    unfold Dn Dn Dn; omega
  | d + 4, h => by omega
theorem dn_le2 {s w : Nat} (hs : s ≤ 12) (hw : w ≤ 12) : ∀ d, d ≤ 2 → Dn s w d ≤ 47900160
  | 0, _ => by unfold Dn; decide
  | 1, _ => by have := Nat.mul_le_mul hs hw; unfold Dn; omega
  | 2, _ => by
    have h1 := Nat.mul_le_mul hs hw
    have h2 := Nat.mul_le_mul (Nat.mul_le_mul_right 27720 hs) h1
    unfold Dn Dn; omega
  | d + 3, h => by omega
theorem kn_le {K : List Int} (h : ∀ i, kn K i ≤ kn K (i + 1)) : ∀ i j, i ≤ j → kn K i ≤ kn K j := by
  intro i j hij
  induction j with
  | zero => rw [show i = 0 by omega]; exact Int.le_refl _
  | succ j ih =>
    by_cases e : i = j + 1
    · rw [e]; exact Int.le_refl _
    · exact Int.le_trans (ih (by omega)) (h j)
theorem Sm.zero (D B : Nat) : Sm D B 0 := by
  have h : (0 : Rat) ≤ (B : Rat) := Rat.natCast_nonneg
  refine ⟨Nat.one_dvd _, ?_, h⟩
  grind
theorem natc (n : Nat) : ((n : Int) : Rat) = (n : Rat) := rfl
/-- a curve's numbers as the program keeps them -/
def s76 (q : Rat) : S49 := ⟨⟨q.num, q.den⟩⟩
/-- the list of the curves at a point, as numbers -/
def s26 (q : Rat) : S26 := ⟨q.num, q.den⟩
/-- rounds enough for all -/
structure Rk (k : Nat) : Prop where
  a : 300 + KG ≤ k
  b : 5000 ≤ k
theorem kf_kg' {k : Nat} (hk : Rk k) : 300 + KG ≤ k ∧ 5000 ≤ k := ⟨hk.a, hk.b⟩
theorem kf_kg {k : Nat} (hk : Rk k) : KG + 1 ≤ k := Nat.le_trans (by decide) hk.a
/-- a number of rounds that is enough -/
theorem rk_any : Rk 18446744073709570000 := ⟨by decide, by decide⟩
end Go.Proofs.YtpnocmkpeogifaaDoor.Pure
