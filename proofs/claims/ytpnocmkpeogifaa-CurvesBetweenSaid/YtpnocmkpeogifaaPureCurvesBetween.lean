/- A value is from the least to the greatest of the poles, and the sum of these times the basic curves. -/
import Derived.Test.YtpnocmkpeogifaaSD
import Derived.Test.YtpnocmkpeogifaaXf3
namespace Go.Proofs.Ytpnocmkpeogifaa.Pure
open Go.RowKit Go.Proofs.Ytpnocmkpeogifaa.X Go.Proofs.YtpnocmkpeogifaaW.PrintWords Go.Proofs.YtpnocmkpeogifaaW.PrintLast
set_option linter.unusedVariables false
set_option linter.unusedSimpArgs false

theorem bad_takeB {a : Int} {K P : List Int} {x y : Int} (h : ¬ (VPI a K P ∧ IPI a K P x y)) : ¬ (VPI a (K.take 23) (P.take 23) ∧ IPI a (K.take 23) (P.take 23) x y) := by
  intro ⟨h1, h2⟩
  obtain ⟨d, e, h3⟩ := h1
  obtain ⟨e1, e2⟩ := vp_take h3
  rw [e1, e2] at h2 h3
  exact h ⟨⟨d, e, h3⟩, h2⟩
theorem sm_scale (c : Rat) (f : Nat → Rat) : ∀ m, sm m (fun i => f i * c) = sm m f * c
  | 0 => by simp only [sm]; grind
  | m + 1 => by rw [sm, sm, sm_scale c f m]; grind
/-- what the value is from, and to -/
theorem vs_ge {d : Nat} {K P : List Int} {t : Rat} {p : Nat} (h : Bs d K P t p) (c : Int) (hc : ∀ i, i < P.length → 0 < (Nb (kn K) p t d i).num → c ≤ rd P (i : Int)) : (c : Rat) ≤ vs K P p t d P.length := by
  have s1 := nb_sum h.pc d P.length h.c.pn h.c.dp
  have s2 : 0 ≤ sm P.length (fun i => Nb (kn K) p t d i * (((rd P (i : Int) : Int) : Rat) + -(c : Rat))) := by
    refine sm_nonneg _ (fun i hi => ?_)
    have n0 := nb_nonneg h.pc d i
    by_cases hn : 0 < (Nb (kn K) p t d i).num
    · have := Rat.intCast_le_intCast.mpr (hc i hi hn)
      refine Rat.mul_nonneg n0 ?_
      grind
    · have : Nb (kn K) p t d i = 0 := by
        have h1 := Rat.num_nonneg.mpr n0
        exact Rat.num_eq_zero.mp (by omega)
      rw [this]
      grind
  have s3 : sm P.length (fun i => Nb (kn K) p t d i * (((rd P (i : Int) : Int) : Rat) + -(c : Rat))) = vs K P p t d P.length + sm P.length (Nb (kn K) p t d) * -(c : Rat) := by
    rw [vs, ← sm_scale, ← sm_add]
    refine sm_congr _ (fun i _ => ?_)
    grind
  rw [s3, s1] at s2
  grind
theorem vs_le {d : Nat} {K P : List Int} {t : Rat} {p : Nat} (h : Bs d K P t p) (c : Int) (hc : ∀ i, i < P.length → 0 < (Nb (kn K) p t d i).num → rd P (i : Int) ≤ c) : vs K P p t d P.length ≤ (c : Rat) := by
  have s1 := nb_sum h.pc d P.length h.c.pn h.c.dp
  have s2 : 0 ≤ sm P.length (fun i => Nb (kn K) p t d i * ((c : Rat) + -((rd P (i : Int) : Int) : Rat))) := by
    refine sm_nonneg _ (fun i hi => ?_)
    have n0 := nb_nonneg h.pc d i
    by_cases hn : 0 < (Nb (kn K) p t d i).num
    · have := Rat.intCast_le_intCast.mpr (hc i hi hn)
      refine Rat.mul_nonneg n0 ?_
      grind
    · have : Nb (kn K) p t d i = 0 := by
        have h1 := Rat.num_nonneg.mpr n0
        exact Rat.num_eq_zero.mp (by omega)
      rw [this]
      grind
  have s3 : sm P.length (fun i => Nb (kn K) p t d i * ((c : Rat) + -((rd P (i : Int) : Int) : Rat))) + vs K P p t d P.length = sm P.length (Nb (kn K) p t d) * (c : Rat) := by
    rw [vs, ← sm_scale, ← sm_add]
    refine sm_congr _ (fun i _ => ?_)
    grind
  rw [s1] at s3
  grind
theorem between_l0 {d : Nat} {K P : List Int} {t : Rat} {p : Nat} (h : Bs d K P t p) : ∀ n k (i : Nat) (lo hi : Int), i + n = P.length → 4611686018427388000 + KG + n ≤ k →
    (-50 ≤ lo ∧ lo ≤ 50) → (-50 ≤ hi ∧ hi ≤ 50) → (∀ j, j < i → 0 < (Nb (kn K) p t d j).num → lo ≤ rd P (j : Int) ∧ rd P (j : Int) ≤ hi) →
    congoulaw04_CurvesBetween.l0 k (bn K p t d P.length) lo hi P P.length i (vs K P p t d P.length).num (vs K P p t d P.length).den (vs K P p t d i).num (vs K P p t d i).den = some true := by
  have h8 := h.v.h8
  have Dp := h.pos d
  have Dl := h.le d h.v.hd
  intro n
  induction n with
  | zero =>
    intro k i lo hi hi0 hk l1 l2 hj
    obtain ⟨k, rfl⟩ : ∃ m, k = m + 1 := ⟨k - 1, by omega⟩
    obtain rfl : i = P.length := by omega
    have hk0 : 60 ≤ k := by omega
    have g := vs_ge h lo (fun i hi hn => (hj i hi hn).1)
    have l := vs_le h hi (fun i hi hn => (hj i hi hn).2)
    rw [Rat.le_iff, Rat.num_intCast, Rat.den_intCast] at g l
    have sv := h.vs_sm P.length (Nat.le_refl _)
    have dv := sv.den Dp
    have b1 : (lo * ((vs K P p t d P.length).den : Int)).natAbs ≤ 4611686018427387904 := natAbs_mul_le (A := 50) (B := 15934165401600) (by omega) (by omega) (by omega)
    have b2 : (hi * ((vs K P p t d P.length).den : Int)).natAbs ≤ 4611686018427387904 := natAbs_mul_le (A := 50) (B := 15934165401600) (by omega) (by omega) (by omega)
    rw [congoulaw04_CurvesBetween.l0, if_neg (by omega), if_pos (by simp), w64a b1 (by omega), w64a b2 (by omega), if_pos (by simpa using g), if_pos (by simpa using l), awake_f hk0, Option.bind_some]
  | succ n ih =>
    intro k i lo hi hi0 hk l1 l2 hj
    obtain ⟨k, rfl⟩ : ∃ m, k = m + 1 := ⟨k - 1, by omega⟩
    have ni := h.sm d i (Nat.le_refl _)
    obtain ⟨p1, p2⟩ := h.v.hP _ (rd_mem (show i < P.length by omega))
    have nn := ni.num Dp
    have nd := ni.den Dp
    have mf := more_f (k := k) (by omega) (s := vs K P p t d i) (a := Nb (kn K) p t d i) (b := ((rd P (i : Int) : Int) : Rat)) Dp (h.vs_sm i (by omega)) (h.pole i (by omega))
      (by rw [Rat.num_intCast]; exact natAbs_mul_le (A := 15934165401600) (B := 50) (by omega) (by omega) (by omega)) (by rw [Rat.den_intCast]; omega) (by omega) (by rw [Rat.num_intCast]; omega) (by omega) (by rw [Rat.den_intCast]; omega) (by omega) (by omega) (by omega)
    rw [Rat.num_intCast, Rat.den_intCast] at mf
    rw [show (((1 : Nat) : Int)) = 1 from rfl] at mf
    rw [congoulaw04_CurvesBetween.l0, if_pos (by omega), if_pos (by omega), if_pos (by omega), if_pos (by rw [bn_len]; omega), congoulaw04_whole.f, Option.bind_some, bn_rd (by omega)]
    unfold s26
    dsimp only
    rw [mf, Option.bind_some, if_pos rfl, w64 (by omega) (by omega)]
    dsimp only
    by_cases hn : (Nb (kn K) p t d i).num > 0
    · rw [if_pos hn]
      refine ih k (i + 1) _ _ (by omega) (by omega) (by unfold mn; split <;> omega) (by unfold mx; split <;> omega) (fun j hj1 hj2 => ?_)
      by_cases e : j = i
      · subst e
        unfold mn mx
        constructor <;> split <;> omega
      · have := hj j (by omega) hj2
        unfold mn mx
        constructor <;> split <;> omega
    · rw [if_neg hn]
      refine ih k (i + 1) _ _ (by omega) (by omega) l1 l2 (fun j hj1 hj2 => ?_)
      by_cases e : j = i
      · subst e
        exact absurd hj2 hn
      · exact hj j (by omega) hj2
theorem CurvesBetween (a0_0 : Int) (l0_1 : List Int) (l0_2 : List Int) (a1_0 : Int) (a1_1 : Int) (h0_ : (Lit.int .i64 a0_0).wf = true) (h1_ : l0_1.length ≤ maxLen) (h2_ : (∀ x ∈ l0_1, (Lit.int .i64 x).wf = true)) (h3_ : l0_2.length ≤ maxLen) (h4_ : (∀ x ∈ l0_2, (Lit.int .i64 x).wf = true)) (h5_ : (Lit.int .i64 a1_0).wf = true) (h6_ : (Lit.int .i64 a1_1).wf = true) : ∃ k, congoulaw04_CurvesBetween.f k a0_0 l0_1 l0_2 a1_0 a1_1 = some true := by
  obtain ⟨k, hk, hk1, hk2⟩ : ∃ k, Rl k ∧ Rl (k + 1) ∧ Rl (k + 2) := ⟨27670116110564327422, rl_any, ⟨by decide, by decide⟩, ⟨by decide, by decide⟩⟩
  refine ⟨k + 2, ?_⟩
  have hP : l0_2.length ≤ 9223372036854775807 := by
    unfold maxLen at h3_
    omega
  have hT : (l0_2.take 23).length ≤ 9223372036854775807 := by rw [List.length_take]; omega
  have aw := awake_f (k := k + 1) (Nat.le_trans (by decide) hk1.b)
  unfold congoulaw04_CurvesBetween.f
  simp only [of_law, Option.bind_some]
  by_cases hf : VPI a0_0 l0_1 l0_2 ∧ IPI a0_0 l0_1 l0_2 a1_0 a1_1
  · have hff := hf
    obtain ⟨⟨d, rfl, V⟩, d', e, I⟩ := hf
    obtain rfl : d = d' := by omega
    obtain ⟨t, p, rfl, rfl, B⟩ := bs_of V I
    obtain ⟨e1, e2⟩ := vp_len V
    have h8 := V.h8
    have ha := hk.a
    rw [e1, e2, value_top hk2.rk B, Option.bind_some, if_pos rfl, fine_f hk2.rk hP, dc_true hff, Option.bind_some]
    dsimp only
    rw [congoulaw04_CurvesBetween.j0, if_neg (by decide)]
    simp only [of_law, Option.bind_some]
    rw [e1, e2, basic_top hk1.rk B, Option.bind_some, if_pos rfl, bn_len]
    rw [congoulaw04_CurvesBetween.j1, if_neg (by simp)]
    have z := between_l0 B l0_2.length k 0 50 (-50) (by omega) (by omega) (by omega) (by omega) (fun j hj => by omega)
    exact z
  · rw [value_bad hk2.rk hT (bad_takeB hf), Option.bind_some, if_neg (by decide)]
    dsimp only
    rw [congoulaw04_CurvesBetween.j0, if_pos rfl, if_pos rfl, aw, Option.bind_some]
end Go.Proofs.Ytpnocmkpeogifaa.Pure
