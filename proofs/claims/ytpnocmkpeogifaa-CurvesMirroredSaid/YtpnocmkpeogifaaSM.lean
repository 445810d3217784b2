/- The mirrored curve has the same value at the other side, but at knots that stand more often than the degree. -/
import Derived.Test.YtpnocmkpeogifaaSP
import Derived.Test.YtpnocmkpeogifaaSG
namespace Go.Proofs.Ytpnocmkpeogifaa.Pure
open Go.RowKit Go.Proofs.Ytpnocmkpeogifaa.X Go.Proofs.YtpnocmkpeogifaaW.PrintWords Go.Proofs.YtpnocmkpeogifaaW.PrintLast
set_option linter.unusedVariables false
set_option linter.unusedSimpArgs false

theorem mir_len (K : List Int) : (mir K).length = K.length := by simp [mir]
theorem kn_mir {K : List Int} {i : Nat} (h : i < K.length) : kn (mir K) i = 12 - kn K (K.length - 1 - i) := by
  rw [← rd_kn (show i < (mir K).length by rw [mir_len]; exact h), ← rd_kn (show K.length - 1 - i < K.length by omega)]
  unfold mir
  rw [rd_rev i (by rw [List.length_map]; exact h), List.length_map, rd_map _ _ (by omega)]
theorem kn_mir_out {K : List Int} {i : Nat} (h : K.length ≤ i) : kn (mir K) i = 12 := kn_out (by rw [mir_len]; exact h)
/-- the basic curves of the mirrored knots -/
theorem nb_mir {K : List Int} {p : Nat} (t : Rat) (hp : p + 2 ≤ K.length) : ∀ d j, j + d + 2 ≤ K.length → Nb (kn (mir K)) (K.length - 2 - p) (12 - t) d j = Nb (kn K) p t d (K.length - 2 - d - j) := by
  intro d
  induction d with
  | zero =>
    intro j hj
    rw [Nb, Nb]
    by_cases e : j = K.length - 2 - p
    · rw [if_pos e, if_pos (by omega)]
    · rw [if_neg e, if_neg (by omega)]
  | succ d ih =>
    intro j hj
    have h12 : ((12 : Int) : Rat) = 12 := rfl
    obtain ⟨i, hi⟩ : ∃ i, i = K.length - 3 - d - j := ⟨_, rfl⟩
    rw [Nb, ih j (by omega), ih (j + 1) (by omega), show K.length - 2 - (d + 1) - j = i by omega, Nb, show K.length - 2 - d - j = i + 1 by omega, show K.length - 2 - d - (j + 1) = i by omega,
      kn_mir (show j < K.length by omega), kn_mir (show j + d + 1 < K.length by omega), kn_mir (show j + d + 2 < K.length by omega), kn_mir (show j + 1 < K.length by omega),
      show K.length - 1 - j = i + d + 2 by omega, show K.length - 1 - (j + d + 1) = i + 1 by omega, show K.length - 1 - (j + d + 2) = i by omega, show K.length - 1 - (j + 1) = i + d + 1 by omega,
      show (12 - kn K (i + 1) - (12 - kn K (i + d + 2)) : Int) = kn K (i + d + 2) - kn K (i + 1) by omega, show (12 - kn K i - (12 - kn K (i + d + 1)) : Int) = kn K (i + d + 1) - kn K i by omega,
      Rat.intCast_sub (a := 12) (b := kn K (i + d + 2)), Rat.intCast_sub (a := 12) (b := kn K i), h12]
    grind
theorem sm_front (f : Nat → Rat) : ∀ m, sm (m + 1) f = f 0 + sm m (fun i => f (i + 1))
  | 0 => by simp only [sm]; grind
  | m + 1 => by rw [sm, sm_front f m, sm]; grind
theorem sm_rev (f : Nat → Rat) : ∀ m, sm m (fun j => f (m - 1 - j)) = sm m f
  | 0 => rfl
  | m + 1 => by
    rw [sm_front, sm, ← sm_rev f m]
    have e : sm m (fun i => f (m + 1 - 1 - (i + 1))) = sm m (fun j => f (m - 1 - j)) := sm_congr m (fun i _ => by rw [show m + 1 - 1 - (i + 1) = m - 1 - i by omega])
    rw [e, show m + 1 - 1 - 0 = m by omega]
    grind
theorem vs_mir {d : Nat} {K P : List Int} {p : Nat} (t : Rat) (hK : K.length = P.length + d + 1) (hp : p + 2 ≤ K.length) :
    vs (mir K) P.reverse (K.length - 2 - p) (12 - t) d P.length = vs K P p t d P.length := by
  unfold vs
  rw [← sm_rev (fun i => Nb (kn K) p t d i * ((rd P (i : Int) : Int) : Rat))]
  refine sm_congr _ (fun j hj => ?_)
  rw [nb_mir t hp d j (by omega), rd_rev j hj, show K.length - 2 - d - j = P.length - 1 - j by omega]
/-- at a knot that stands not more often than the degree both pieces tell the same -/
theorem nb_jump {K : Nat → Int} {q p : Nat} {t : Rat} (mono : ∀ i j, i ≤ j → K i ≤ K j) (hq : q < p) (h1 : (K (q + 1) : Rat) = t) (h2 : (K p : Rat) = t) (hl : K q < K (q + 1)) (hr : K p < K (p + 1)) : ∀ d, p - q ≤ d → ∀ i, Nb K q t d i = Nb K p t d i := by
  have eqk : ∀ i, q + 1 ≤ i → i ≤ p → (K i : Rat) = t := by
    intro i g1 g2
    have a := mono (q + 1) i g1
    have b := mono i p g2
    have c : K (q + 1) = K p := by
      have : ((K (q + 1) : Int) : Rat) = ((K p : Int) : Rat) := by rw [h1, h2]
      exact Rat.intCast_inj.mp this
    rw [← h1, show K i = K (q + 1) by omega]
  have lq : (K q : Rat) < t := by rw [← h1]; exact Rat.intCast_lt_intCast.mpr hl
  have gp : t < (K (p + 1) : Rat) := by rw [← h2]; exact Rat.intCast_lt_intCast.mpr hr
  have A : ∀ e, e ≤ p - q → ∀ i, Nb K q t e i = if i = q then 1 else 0 := by
    intro e
    induction e with
    | zero => intro _ i; rw [Nb]
    | succ e ih =>
      intro he i
      rw [Nb, ih (by omega), ih (by omega)]
      by_cases c1 : i = q
      · subst c1
        have k1 := eqk (i + e + 1) (by omega) (by omega)
        rw [if_pos rfl, if_neg (by omega), Rat.intCast_sub, k1, Rat.mul_zero, Rat.mul_one]
        have : t - (K i : Rat) ≠ 0 := by grind
        grind
      · rw [if_neg c1]
        by_cases c2 : i + 1 = q
        · have k1 := eqk (i + e + 2) (by omega) (by omega)
          rw [if_pos c2, k1]
          grind
        · rw [if_neg c2]
          grind
  have B : ∀ e, e ≤ p - q → ∀ i, Nb K p t e i = if i + e = p then 1 else 0 := by
    intro e
    induction e with
    | zero => intro _ i; rw [Nb, Nat.add_zero]
    | succ e ih =>
      intro he i
      rw [Nb, ih (by omega), ih (by omega)]
      by_cases c1 : i + e = p
      · have k1 := eqk i (by omega) (by omega)
        rw [if_pos c1, k1, if_neg (by omega), if_neg (by omega)]
        grind
      · rw [if_neg c1]
        by_cases c2 : i + 1 + e = p
        · have k1 := eqk (i + 1) (by omega) (by omega)
          rw [if_pos c2, if_pos (by omega), Rat.intCast_sub (a := K (i + e + 2)) (b := K (i + 1)), k1, show i + e + 2 = p + 1 by omega]
          have : (K (p + 1) : Rat) - t ≠ 0 := by grind
          grind
        · rw [if_neg c2, if_neg (by omega)]
          grind
  intro d
  induction d with
  | zero => intro h; omega
  | succ d ih =>
    intro h i
    by_cases c : p - q = d + 1
    · rw [A (d + 1) (by omega), B (d + 1) (by omega)]
      by_cases e : i = q
      · rw [if_pos e, if_pos (by omega)]
      · rw [if_neg e, if_neg (by omega)]
    · rw [Nb, Nb, ih (by omega), ih (by omega)]
end Go.Proofs.Ytpnocmkpeogifaa.Pure
