/- CurvesSum: the value of the sum of two curves is the sum of their values. -/
import Derived.Test.YtpnocmkpeogifaaDoorXf5
import Derived.Test.YtpnocmkpeogifaaDoorSCa
import Derived.Test.YtpnocmkpeogifaaDoorSD
import Derived.Test.YtpnocmkpeogifaaDoorSFb
namespace Go.Proofs.YtpnocmkpeogifaaDoor.Pure
set_option linter.unusedVariables false
set_option linter.unusedSimpArgs false
open Go.RowKit Go.Proofs.YtpnocmkpeogifaaDoor.X Go.Proofs.YtpnocmkpeogifaaDoorW.PrintWords Go.Proofs.YtpnocmkpeogifaaDoorW.PrintLast

/-- another curve over the same knots has the same pieces -/
theorem bs_same {d : Nat} {K P Q : List Int} {t : Rat} {p : Nat} (B : Bs d K P t p) (W : VP d K Q) (hl : Q.length = P.length) : Bs d K Q t p := by
  have i := B.i; have c := B.c
  exact ⟨W, ⟨i.y1, i.y12, i.x0, i.x12, i.g, i.lo, by rw [hl]; exact i.hi⟩, ⟨by rw [hl]; exact c.pn, c.dp, c.lt, c.lo, c.hi, by rw [hl]; exact c.top, by rw [hl]; exact c.mx⟩⟩
theorem vs_adds {d : Nat} {K P Q : List Int} {t : Rat} {p : Nat} : vs K (adds P Q) p t d P.length = vs K P p t d P.length + vs K Q p t d P.length := by
  unfold vs
  rw [← sm_add]
  refine sm_congr _ (fun i hi => ?_)
  rw [adds_rd hi, Rat.intCast_add]
  grind
theorem sum_j1 {d : Nat} {K P Q : List Int} {t : Rat} {p : Nat} (B : Bs d K P t p) (B2 : Bs d K Q t p) {x y : Int} {v : Rat} (hv : v = vs K P p t d P.length + vs K Q p t d Q.length) {k : Nat} (hk : Rl k) :
    congoulaw04_CurvesSum.j1 (k + 1) false (vs K P p t d P.length).num (vs K P p t d P.length).den (vs K Q p t d Q.length).num (vs K Q p t d Q.length).den v.num v.den = some true := by
  have Dp := B.pos d
  have Dl := B.le d B.v.hd
  have s1 := B.vs_sm P.length (Nat.le_refl _)
  have s2 := B2.vs_sm Q.length (Nat.le_refl _)
  have n2 := s2.num Dp
  have d2 := s2.den Dp
  have hb := hk.b
  have ha := hk.a
  have aw := awake_f (k := k) (by omega)
  obtain ⟨q, hq⟩ : ∃ q, q = vs K Q p t d Q.length := ⟨_, rfl⟩
  obtain ⟨s, hs⟩ : ∃ s, s = vs K P p t d P.length := ⟨_, rfl⟩
  rw [← hq] at s2 n2 d2 hv ⊢
  rw [← hs] at s1 hv ⊢
  obtain ⟨D, hD⟩ : ∃ D, D = DB K t p d := ⟨_, rfl⟩
  rw [← hD] at Dp Dl s1 s2 n2 d2
  clear hq hs hD
  have t1 : Sm D 400 (q * 1) := by rw [Rat.mul_one]; exact s2
  have o1 : ((1 : Rat).num : Int) = 1 := rfl
  have o3 : (1 : Rat).den = 1 := rfl
  have o2 : (((1 : Rat).den : Nat) : Int) = 1 := rfl
  have mf := more_f (k := k) (by omega) (s := s) (a := q) (b := 1) Dp s1 t1
      (by rw [o1, Int.mul_one]; omega) (by rw [o3, Nat.mul_one]; omega) (by omega) (by rw [o1]; decide) (by omega) (by rw [o3]; decide) (by omega) (by omega) (by omega)
  rw [o1, o2, Rat.mul_one] at mf
  clear o1 o2 o3
  rw [congoulaw04_CurvesSum.j1, if_neg Bool.false_ne_true, mf, Option.bind_some]
  dsimp only
  rw [if_pos rfl, hv, if_pos (by simp), aw, Option.bind_some]
theorem CurvesSum (a0_0 : Int) (l0_1 : List Int) (l0_2 : List Int) (a1_0 : Int) (l1_1 : List Int) (l1_2 : List Int) (a2_0 : Int) (a2_1 : Int) (h0_ : (Lit.int .i64 a0_0).wf = true) (h1_ : l0_1.length ≤ maxLen) (h2_ : (∀ x ∈ l0_1, (Lit.int .i64 x).wf = true)) (h3_ : l0_2.length ≤ maxLen) (h4_ : (∀ x ∈ l0_2, (Lit.int .i64 x).wf = true)) (h5_ : (Lit.int .i64 a1_0).wf = true) (h6_ : l1_1.length ≤ maxLen) (h7_ : (∀ x ∈ l1_1, (Lit.int .i64 x).wf = true)) (h8_ : l1_2.length ≤ maxLen) (h9_ : (∀ x ∈ l1_2, (Lit.int .i64 x).wf = true)) (h10_ : (Lit.int .i64 a2_0).wf = true) (h11_ : (Lit.int .i64 a2_1).wf = true) : ∃ k, congoulaw04_CurvesSum.f k a0_0 l0_1 l0_2 a1_0 l1_1 l1_2 a2_0 a2_1 = some true := by
  obtain ⟨q, hq, hq1, hq2, hq3⟩ : ∃ q, Rl q ∧ Rl (q + 1) ∧ Rl (q + 20) ∧ Rp (q + 20) := ⟨27670116110564327422, rl_any, ⟨by decide, by decide⟩, ⟨by decide, by decide⟩, ⟨by decide, by decide⟩⟩
  have hP : l0_2.length ≤ 9223372036854775807 := by unfold maxLen at h3_; omega
  have hP' : l1_2.length ≤ 9223372036854775807 := by
    have : l1_2.length ≤ maxLen := by assumption
    unfold maxLen at this; omega
  have hT : (l0_2.take 23).length ≤ 9223372036854775807 := by rw [List.length_take]; omega
  have hT' : (l1_2.take 23).length ≤ 9223372036854775807 := by rw [List.length_take]; omega
  have lup : ∀ m, Rl (q + m) := fun m => ⟨Nat.le_trans hq.a (Nat.le_add_right _ _), Nat.le_trans hq.b (Nat.le_add_right _ _)⟩
  have hqb := hq.b
  have rpq : Rp q := ⟨Nat.le_trans (by decide) hq.a, Nat.le_trans (by decide) hq.b⟩
  have rup : ∀ m, Rp (q + m) := fun m => ⟨Nat.le_trans rpq.a (Nat.le_add_right _ _), Nat.le_trans rpq.b (Nat.le_add_right _ _)⟩
  refine ⟨q + 1 + l0_2.length + 1, ?_⟩
  have hL : Rl (q + 1 + l0_2.length + 1) := by rw [show q + 1 + l0_2.length + 1 = q + (1 + l0_2.length + 1) by omega]; exact lup _
  have hL1 : Rl (q + 1 + l0_2.length) := by rw [show q + 1 + l0_2.length = q + (1 + l0_2.length) by omega]; exact lup _
  have hL2 : Rl (q + l0_2.length) := lup _
  have hR : Rp (q + 1 + l0_2.length + 1) := by rw [show q + 1 + l0_2.length + 1 = q + (1 + l0_2.length + 1) by omega]; exact rup _
  have aw := awake_f (k := q + 1 + l0_2.length) (Nat.le_trans (by decide) hL1.b)
  have bad : ∀ e b S1 S2 S3, (e = 2 ∨ e = 4) → b = true → congoulaw04_CurvesSum.j0 (q + 1 + l0_2.length + 1) e b a0_0 l0_1 l0_2 a1_0 l1_1 l1_2 a2_0 a2_1 S1 S2 S3 = some true := by
    intro e b S1 S2 S3 he hb
    rw [congoulaw04_CurvesSum.j0, if_pos hb]
    rcases he with rfl | rfl
    · rw [if_pos rfl, aw, Option.bind_some]
    · rw [if_neg (by decide), if_pos rfl, aw, Option.bind_some]
  unfold congoulaw04_CurvesSum.f
  simp only [of_law, Option.bind_some]
  by_cases hv : VPI a0_0 l0_1 l0_2
  · have hvv := hv
    obtain ⟨d, rfl, V⟩ := hv
    obtain ⟨e1, e2⟩ := vp_len V
    have h8 := V.h8
    have hK := V.hK
    have hd := V.hd
    rw [e1, e2]
    by_cases h2 : VPI a1_0 l1_1 l1_2 ∧ (d : Int) = a1_0 ∧ l0_1 = l1_1
    · obtain ⟨⟨d', e, W⟩, e3, e4⟩ := h2
      subst e3
      subst e4
      obtain rfl : d = d' := by omega
      obtain ⟨f1, f2⟩ := vp_len W
      have hKW := W.hK
      have hl : l1_2.length = l0_2.length := by omega
      rw [e1, f2, plusc_ok rpq (rup 20) V W, Option.bind_some]
      by_cases hA : dc (VPI d l0_1 (adds l0_2 l1_2)) = true
      · rw [if_pos hA]
        dsimp only
        obtain ⟨d', e, VA⟩ : VPI d l0_1 (adds l0_2 l1_2) := by
          refine Classical.byContradiction fun hn => ?_
          rw [dc_false hn] at hA
          exact absurd hA (by decide)
        obtain rfl : d = d' := by omega
        rw [if_pos rfl, fine_f hL.rk hP, Option.bind_some]
        by_cases hi : IPI d l0_1 l0_2 a2_0 a2_1
        · obtain ⟨d', e, I⟩ := hi
          obtain rfl : d = d' := by omega
          obtain ⟨t, p, rfl, rfl, B⟩ := bs_of V I
          have B2 := bs_same B W hl
          have B3 := bs_same B VA (adds_len _ _)
          rw [dc_true ⟨hvv, d, rfl, I⟩, if_pos rfl, rvalid_f hL.g hP', dc_true ⟨d, rfl, W⟩, Option.bind_some, if_pos rfl, like_f d d l0_1 l0_2 l0_1 l1_2 (by omega) (by omega), dc_true ⟨rfl, rfl⟩, Option.bind_some, show (!true) = false from rfl,
            congoulaw04_CurvesSum.j0, if_neg Bool.false_ne_true]
          simp only [of_law, Option.bind_some]
          rw [e1, e2, f2, value_top hL1.rk B, Option.bind_some, value_top hL1.rk B2, Option.bind_some, value_top hL1.rk B3, Option.bind_some]
          dsimp only
          rw [if_pos rfl, if_pos rfl, show ((0 : Int) != 0) = false from rfl, show q + 1 + l0_2.length = q + l0_2.length + 1 by omega]
          refine sum_j1 B B2 (x := 0) (y := 0) ?_ hL2
          rw [adds_len, hl]
          exact vs_adds
        · rw [dc_false (fun h => hi h.2), if_neg Bool.false_ne_true, congoulaw04_CurvesSum.j0, if_pos rfl, if_neg (by decide), if_neg (by decide), if_pos rfl, rvalid_f hL1.g hP, dc_true hvv, Option.bind_some, if_pos rfl, in_f hL1.g V, dc_false (fun h => hi ⟨d, rfl, h⟩), Option.bind_some, if_neg Bool.false_ne_true, aw, Option.bind_some]
      · rw [if_neg hA]
        dsimp only
        rw [if_neg (by decide)]
        exact bad 4 true _ _ _ (.inr rfl) rfl
    · have hb2 : ¬ (VPI a1_0 (l1_1.take 23) (l1_2.take 23) ∧ (d : Int) = a1_0 ∧ l0_1 = l1_1.take 23) := by
        intro ⟨g1, g2, g3⟩
        obtain ⟨d', e, W⟩ := g1
        obtain ⟨f1, f2⟩ := vp_take W
        rw [f1, f2] at W
        rw [f1] at g3
        exact h2 ⟨⟨d', e, W⟩, g2, g3⟩
      rw [plusc_bad hR V hT' hb2, Option.bind_some]
      dsimp only
      rw [if_neg (by decide)]
      exact bad 2 true _ _ _ (.inl rfl) rfl
  · have hv2 : ¬ VPI a0_0 (l0_1.take 23) (l0_2.take 23) := fun h => hv (vpi_take.mp h)
    rw [plusc_inv hR hT hv2, Option.bind_some]
    dsimp only
    rw [if_neg (by decide)]
    exact bad 2 true _ _ _ (.inl rfl) rfl
end Go.Proofs.YtpnocmkpeogifaaDoor.Pure
