/- CurvesKnot: the poles that Insert returns, over the longer knots, make the same curve. -/
import Derived.Test.YtpnocmkpeogifaaXf12
import Derived.Test.YtpnocmkpeogifaaSL
import Derived.Test.YtpnocmkpeogifaaSC
import Derived.Test.YtpnocmkpeogifaaSD
namespace Go.Proofs.Ytpnocmkpeogifaa.Pure
set_option linter.unusedVariables false
set_option linter.unusedSimpArgs false
open Go.RowKit Go.Proofs.Ytpnocmkpeogifaa.X Go.Proofs.YtpnocmkpeogifaaW.PrintWords Go.Proofs.YtpnocmkpeogifaaW.PrintLast

theorem lmk_rd {f : Nat → Rat} {m i : Nat} (h : i < m) : rd_T26 (lm f m) (i : Int) = s26 (f i) := by
  simp [rd_T26, lm, List.getD_eq_getElem?_getD, List.getElem?_map, List.getElem?_range h]
theorem longer_l0 {d : Nat} {K P : List Int} {k : Int} {j : Nat} (h : Ins d K P k j) : ∀ (n q i : Nat), i + n = j + 1 → n < q → congouref04_Longer.l0 q k (i : Int) (d : Int) K P = some (LK K j k) := by
  have hK := h.V.hK; have h8 := h.V.h8; have hd3 := h.V.hd; have hjn := h.jn
  intro n
  induction n with
  | zero =>
    intro q i hi hq
    obtain ⟨q, rfl⟩ : ∃ m, q = m + 1 := ⟨q - 1, by omega⟩
    obtain rfl : i = j + 1 := by omega
    have hn : ¬ kn K (j + 1) ≤ k := by have := h.j2; omega
    rw [congouref04_Longer.l0, if_pos (by omega), if_pos (by omega), rd_kn (by omega), if_neg hn, Option.bind_some, if_pos (by omega), show (((j + 1 : Nat) : Int)).toNat = j + 1 by omega, List.nil_append]
    have l1 : (K.take (j + 1)).length = j + 1 := by rw [List.length_take]; omega
    have l2 : (K.drop (j + 1)).length = K.length - (j + 1) := List.length_drop
    rw [if_pos (by rw [l1]; simp; omega), Option.bind_some, Option.bind_some, if_pos (by rw [l1]; simp; omega), Option.bind_some, if_pos (by rw [List.length_append, l1, l2]; simp; omega)]
    rfl
  | succ n ih =>
    intro q i hi hq
    obtain ⟨q, rfl⟩ : ∃ m, q = m + 1 := ⟨q - 1, by omega⟩
    rw [congouref04_Longer.l0, if_pos (by omega), if_pos (by omega), rd_kn (by omega), if_pos ((h.le i).mpr (by omega)), w64 (by omega) (by omega), show (i : Int) + 1 = ((i + 1 : Nat) : Int) by omega]
    exact ih q (i + 1) (by omega) (by omega)
theorem knot_l0 {d : Nat} {K P : List Int} {k : Int} {j : Nat} (h : Ins d K P k j) {t : Rat} {p q : Nat} (B : Bs d K P t p) (B2 : Bs d (LK K j k) (List.replicate (P.length + 1) 0) t q) : ∀ (n f i : Nat), i + n = P.length + 1 → 4611686018427388000 + KG + n ≤ f →
    congoulaw04_CurvesKnot.l0 f (bn (LK K j k) q t d (P.length + 1)) (lm (pb (kn K) j k d P.length (PR P)) (P.length + 1)) ((P.length + 1 : Nat) : Int) (i : Int) (vs K P p t d P.length).num (vs K P p t d P.length).den (ks d K P k j q t i).num (ks d K P k j q t i).den = some true := by
  have h8 := h.V.h8
  have W := h.WD_b
  have Dp := B2.pos d
  have Dl := B2.le d B2.v.hd
  have Wp := Nat.mul_pos W.1 Dp
  have Wl : WD (kn K) j d * DB (LK K j k) t q d ≤ 27534237814164480 := Nat.le_trans (Nat.mul_le_mul W.2 Dl) (by omega)
  intro n
  induction n with
  | zero =>
    intro f i hi hf
    obtain ⟨f, rfl⟩ : ∃ m, f = m + 1 := ⟨f - 1, by omega⟩
    obtain rfl : i = P.length + 1 := by omega
    rw [congoulaw04_CurvesKnot.l0, if_neg (by omega), ks_all h B B2, if_pos (by simp), awake_f (by omega), Option.bind_some]
  | succ n ih =>
    intro f i hi hf
    obtain ⟨f, rfl⟩ : ∃ m, f = m + 1 := ⟨f - 1, by omega⟩
    have ni := B2.sm d i (Nat.le_refl _)
    have nn := ni.num Dp
    have nd := ni.den Dp
    have pd := h.pb_den i
    have ap := (al (kn K) j k d i).den_pos
    have ad := (h.al_bn i).d
    obtain ⟨b1, b2⟩ := h.pb_50 (i := i) (by omega)
    have o50 : (((50 : Nat) : Rat)) = 50 := rfl
    have ps : Sm (al (kn K) j k d i).den 50 (pb (kn K) j k d P.length (PR P) i) := ⟨pd, by rw [o50]; exact b1, by rw [o50]; exact b2⟩
    have pn := ps.num ap
    have pdl := ps.den ap
    have mf := more_f (k := f) (by omega) (s := ks d K P k j q t i) (a := pb (kn K) j k d P.length (PR P) i) (b := Nb (kn (LK K j k)) q t d i) Wp (ks_sm h B2 (by omega)) (ks_term h B2 (by omega))
      (natAbs_mul_le (A := 600) (B := 15934165401600) (by omega) (by omega) (by omega)) (Nat.le_trans (Nat.mul_le_mul (Nat.le_trans pdl ad) nd) (by omega)) (by omega) (by omega) (by omega) (by omega) (by omega) (by omega) (by omega)
    have IH := ih f (i + 1) (by omega) (by omega)
    rw [congoulaw04_CurvesKnot.l0, if_pos (by omega), if_pos (by omega), if_pos (by rw [lm_len]; omega), if_pos (by rw [bn_len]; omega), lmk_rd (by omega), bn_rd (by omega)]
    unfold s26
    dsimp only
    rw [mf, Option.bind_some, if_pos rfl, w64 (by omega) (by omega), show (i : Int) + 1 = ((i + 1 : Nat) : Int) by omega]
    exact IH
theorem CurvesKnot (a0_0 : Int) (l0_1 : List Int) (l0_2 : List Int) (a1 : Int) (a2_0 : Int) (a2_1 : Int) (h0_ : (Lit.int .i64 a0_0).wf = true) (h1_ : l0_1.length ≤ maxLen) (h2_ : (∀ x ∈ l0_1, (Lit.int .i64 x).wf = true)) (h3_ : l0_2.length ≤ maxLen) (h4_ : (∀ x ∈ l0_2, (Lit.int .i64 x).wf = true)) (h5_ : (Lit.int .i64 a1).wf = true) (h6_ : (Lit.int .i64 a2_0).wf = true) (h7_ : (Lit.int .i64 a2_1).wf = true) : ∃ k, congoulaw04_CurvesKnot.f k a0_0 l0_1 l0_2 a1 a2_0 a2_1 = some true := by
  obtain ⟨k, hk, hk1, hk2⟩ : ∃ k, Rl k ∧ Rl (k + 1) ∧ Rl (k + 2) := ⟨27670116110564327422, rl_any, ⟨by decide, by decide⟩, ⟨by decide, by decide⟩⟩
  refine ⟨k + 2, ?_⟩
  have hP : l0_2.length ≤ 9223372036854775807 := by unfold maxLen at h3_; omega
  have hT : (l0_2.take 23).length ≤ 9223372036854775807 := by rw [List.length_take]; omega
  have aw := awake_f (k := k + 1) (Nat.le_trans (by decide) hk1.b)
  have ha := hk.a
  unfold congoulaw04_CurvesKnot.f
  simp only [of_law, Option.bind_some]
  have bad : ∀ e l : _, (e = 2 ∨ e = 6 ∨ e = 4) → congoulaw04_CurvesKnot.j0 (k + 2) a1 l e true a0_0 l0_1 l0_2 a2_0 a2_1 = some true := by
    intro e l he
    rw [congoulaw04_CurvesKnot.j0, if_pos rfl, aw, Option.bind_some]
    rcases he with rfl | rfl | rfl <;> rfl
  by_cases hv : VPI a0_0 l0_1 l0_2
  · have hvv := hv
    obtain ⟨d, rfl, V⟩ := hv
    obtain ⟨e1, e2⟩ := vp_len V
    have hK := V.hK; have h8 := V.h8; have hd := V.hd; have hn := V.hn
    rw [e1, e2]
    by_cases hr : kn l0_1 d ≤ a1 ∧ a1 < kn l0_1 l0_2.length
    · obtain ⟨j, J⟩ := ins_of V hr.1 hr.2
      rw [insert_in hk2.rk J, Option.bind_some]
      unfold insR
      by_cases c1 : l0_2.length = 8
      · rw [if_pos c1, if_neg (by decide)]
        exact bad 6 _ (by omega)
      · rw [if_neg c1]
        by_cases c2 : kn l0_1 (j - d) = a1
        · rw [if_pos c2, if_neg (by decide)]
          exact bad 4 _ (by omega)
        · rw [if_neg c2, if_pos rfl, fine_f hk2.rk hP, Option.bind_some]
          dsimp only
          by_cases hi : IPI d l0_1 l0_2 a2_0 a2_1
          · obtain ⟨d', e, I⟩ := hi
            obtain rfl : d = d' := by omega
            rw [dc_true ⟨hvv, d, rfl, I⟩]
            obtain ⟨t, p, rfl, rfl, B⟩ := bs_of V I
            have V2 := J.longer c1 c2
            obtain ⟨t2, q, e3, e4, B2⟩ := bs_of V2 (J.point I)
            obtain rfl : t2 = t := Rat.ext e3 (by omega)
            obtain ⟨e5, e6⟩ := vp_len V2
            have hl := longer_l0 J (j + 1) (k + 1) 0 (by omega) (by have := J.jn; have := hk.b; omega)
            have rl : (List.replicate (l0_2.length + 1) (0 : Int)).length = l0_2.length + 1 := List.length_replicate
            rw [show (!true) = false from rfl, congoulaw04_CurvesKnot.j0, if_neg (by decide), congouref04_Longer.f]
            rw [show ((0 : Nat) : Int) = 0 by rfl] at hl
            rw [hl, Option.bind_some, w64 (by omega) (by omega), show ((l0_2.length : Int) + 1) = ((l0_2.length + 1 : Nat) : Int) by omega, if_pos (by omega), if_pos (by omega), Int.toNat_natCast, Option.bind_some]
            simp only [of_law, Option.bind_some]
            rw [e1, e2, e5, e6, value_top hk1.rk B, Option.bind_some]
            dsimp only
            rw [basic_top hk1.rk B2, Option.bind_some]
            dsimp only
            rw [if_pos rfl, if_pos rfl, rvalid_f hk1.g (by rw [rl]; omega), dc_true ⟨d, rfl, V2⟩, Option.bind_some, if_pos rfl, bn_len, if_pos rfl, lm_len, rl]
            rw [congoulaw04_CurvesKnot.j1, if_neg (by simp), lm_len]
            exact knot_l0 J B B2 (l0_2.length + 1) k 0 (by omega) (by omega)
          · rw [dc_false (fun h => hi h.2), show (!false) = true from rfl, congoulaw04_CurvesKnot.j0, if_pos rfl, if_neg (by decide), if_neg (by decide), if_neg (by decide), if_pos rfl, rvalid_f hk1.g hP, dc_true hvv, Option.bind_some, if_pos rfl, in_f hk1.g V, dc_false (fun h => hi ⟨d, rfl, h⟩), Option.bind_some, if_neg (by decide), aw, Option.bind_some]
    · rw [insert_out hk2.rk V hr, Option.bind_some, if_neg (by decide)]
      exact bad 2 _ (by omega)
  · have hvt : ¬ VPI a0_0 (l0_1.take 23) (l0_2.take 23) := fun c => hv (vpi_take.mp c)
    rw [insert_bad hk2.rk hT hvt, Option.bind_some, if_neg (by decide)]
    exact bad 2 _ (by omega)
end Go.Proofs.Ytpnocmkpeogifaa.Pure
