/- Mirror and Plus answer as the law asks. -/
import Derived.Test.YtpnocmkpeogifaaSF
import Derived.Test.YtpnocmkpeogifaaXf9
namespace Go.Proofs.Ytpnocmkpeogifaa.Pure
open Go.RowKit Go.Proofs.Ytpnocmkpeogifaa.X Go.Proofs.YtpnocmkpeogifaaW.PrintWords Go.Proofs.YtpnocmkpeogifaaW.PrintLast
set_option linter.unusedVariables false
set_option linter.unusedSimpArgs false

/-- Plus of a valid curve and any -/
theorem plusc_bad {k : Nat} (hk : Rp k) {d : Nat} {b : Int} {K P K' P' : List Int} (V : VP d K P) (hP : P'.length ≤ 9223372036854775807) (h : ¬ (VPI b K' P' ∧ (d : Int) = b ∧ K = K')) : curves_Plus.f k d K P b K' P' = some (0, [], [], 2) := by
  have h8 := V.h8
  have hK := V.hK
  have hd := V.hd
  have hb := hk.b
  have j : curves_Plus.j0 k true d K P b K' P' = some (0, [], [], 2) := by
    obtain ⟨k, rfl⟩ : ∃ m, k = m + 1 := ⟨k - 1, by omega⟩
    rw [curves_Plus.j0, if_pos rfl]
  unfold curves_Plus.f
  rw [valid_f hk.g (by omega), dc_true ⟨d, rfl, V⟩, Option.bind_some, if_pos rfl, valid_f hk.g hP, Option.bind_some]
  by_cases h1 : VPI b K' P'
  rotate_left
  · rw [dc_false h1, if_neg (by decide), j]
  rw [dc_true h1, if_pos rfl]
  by_cases h2 : (d : Int) = b
  rotate_left
  · rw [if_neg h2, j]
  rw [if_pos h2, eql_f K K' (by omega) (by omega), dc_false (fun e => h ⟨h1, h2, e⟩), Option.bind_some]
  exact j
theorem plusc_ok {k : Nat} (hk : Rp k) (hk9 : Rp (k + 20)) {d : Nat} {K P Q : List Int} (V : VP d K P) (W : VP d K Q) :
    curves_Plus.f (k + 1 + P.length + 1) d K P d K Q = some (if dc (VPI d K (adds P Q)) = true then ((d : Int), K, adds P Q, 0) else (0, [], [], 4)) := by
  have h8 := V.h8
  have hK := V.hK
  have hd := V.hd
  have hKW := W.hK
  have hb := hk.b
  have ha := hk.a
  have g : KG ≤ k + 1 + P.length + 1 := Nat.le_trans hk.g (by omega)
  unfold curves_Plus.f
  rw [valid_f g (by omega), dc_true ⟨d, rfl, V⟩, Option.bind_some, if_pos rfl, valid_f g (by have := W.h8; omega), dc_true ⟨d, rfl, W⟩, Option.bind_some, if_pos rfl, if_pos rfl, eql_f K K (by omega) (by omega), dc_true rfl, Option.bind_some,
    curves_Plus.j0, if_neg (by decide), clone_f K (by omega), Option.bind_some, clone_f P (by omega), Option.bind_some]
  exact plusc_l0 hk V W (by omega) P.length _ 0 P (by omega) (by omega) rfl (fun t ht => by rw [if_neg (by omega)])
theorem plusc_inv {k : Nat} (hk : Rp k) {a b : Int} {K P K' P' : List Int} (hP : P.length ≤ 9223372036854775807) (h : ¬ VPI a K P) : curves_Plus.f k a K P b K' P' = some (0, [], [], 2) := by
  have hb := hk.b
  unfold curves_Plus.f
  rw [valid_f hk.g hP, dc_false h, Option.bind_some, if_neg (by decide)]
  obtain ⟨k, rfl⟩ : ∃ m, k = m + 1 := ⟨k - 1, by omega⟩
  rw [curves_Plus.j0, if_pos rfl]
theorem same_nil {k : Nat} (hk : Rp k) : congoulaw04_same.f k 0 [] [] 0 [] [] = some true := same_refl 0 [] [] (by simp) (by simp) (by have := hk.b; omega)
theorem CurvesMirrors (a0_0 : Int) (l0_1 : List Int) (l0_2 : List Int) (a1_0 : Int) (l1_1 : List Int) (l1_2 : List Int) (h0_ : (Lit.int .i64 a0_0).wf = true) (h1_ : l0_1.length ≤ maxLen) (h2_ : (∀ x ∈ l0_1, (Lit.int .i64 x).wf = true)) (h3_ : l0_2.length ≤ maxLen) (h4_ : (∀ x ∈ l0_2, (Lit.int .i64 x).wf = true)) (h5_ : (Lit.int .i64 a1_0).wf = true) (h6_ : l1_1.length ≤ maxLen) (h7_ : (∀ x ∈ l1_1, (Lit.int .i64 x).wf = true)) (h8_ : l1_2.length ≤ maxLen) (h9_ : (∀ x ∈ l1_2, (Lit.int .i64 x).wf = true)) : ∃ k, congoulaw04_CurvesMirrors.f k a0_0 l0_1 l0_2 a1_0 l1_1 l1_2 = some true := by
  have hP : l0_2.length ≤ 9223372036854775807 := by
    unfold maxLen at h3_
    omega
  have hP' : l1_2.length ≤ 9223372036854775807 := by
    unfold maxLen at h8_
    omega
  have hT : (l0_2.take 23).length ≤ 9223372036854775807 := by rw [List.length_take]; omega
  have hT' : (l1_2.take 23).length ≤ 9223372036854775807 := by rw [List.length_take]; omega
  obtain ⟨q, hq, hq20⟩ : ∃ q, Rp q ∧ Rp (q + 20) := ⟨18446744073709570000, ⟨by decide, by decide⟩, ⟨by decide, by decide⟩⟩
  have up : ∀ m, m ≤ 20 → Rp (q + m) := fun m _ => ⟨Nat.le_trans hq.a (Nat.le_add_right _ _), Nat.le_trans hq.b (Nat.le_add_right _ _)⟩
  by_cases hv : VPI a0_0 l0_1 l0_2
  · have hvv := hv
    obtain ⟨d, rfl, V⟩ := hv
    obtain ⟨e1, e2⟩ := vp_len V
    have h8 := V.h8
    have hK := V.hK
    have hd := V.hd
    refine ⟨q + 1 + l0_2.length + 1, ?_⟩
    have hk : Rp (q + 1 + l0_2.length + 1) := by
      rw [show q + 1 + l0_2.length + 1 = q + (1 + l0_2.length + 1) by omega]
      exact up _ (by omega)
    have hk' : Rp (q + 1 + l0_2.length) := by
      rw [show q + 1 + l0_2.length = q + (1 + l0_2.length) by omega]
      exact up _ (by omega)
    have hk'' : Rp (q + l0_2.length) := up _ (by omega)
    have hb := hk''.b
    have aw := awake_f (k := q + 1 + l0_2.length + 1) (by omega)
    unfold congoulaw04_CurvesMirrors.f
    simp only [of_law, Option.bind_some, congoulaw04_own.f]
    rw [e1, e2, mirror_ok hk V, Option.bind_some]
    have bad : ¬ (VPI a1_0 l1_1 l1_2 ∧ (d : Int) = a1_0 ∧ l0_1 = l1_1) → congoulaw04_CurvesMirrors.j0 (q + 1 + l0_2.length + 1) 2 false d l0_1 l0_2 a1_0 l1_1 l1_2 0 [] [] = some true := by
      intro hn
      have j1 : congoulaw04_CurvesMirrors.j1 (q + 1 + l0_2.length) 2 true d l0_1 l0_2 a1_0 l1_1 l1_2 0 [] [] = some true := by
        rw [show q + 1 + l0_2.length = q + l0_2.length + 1 by omega, congoulaw04_CurvesMirrors.j1, if_pos rfl, congoulaw04_own.f, Option.bind_some, same_nil hk'', Option.bind_some, if_pos rfl]
        rfl
      rw [congoulaw04_CurvesMirrors.j0, if_neg (by decide), rvalid_f hk'.g hP', Option.bind_some]
      by_cases h1 : VPI a1_0 l1_1 l1_2
      · rw [dc_true h1, if_pos rfl, like_f d a1_0 l0_1 l0_2 l1_1 l1_2 (by omega) (by omega), dc_false (fun e => hn ⟨h1, e.1, e.2⟩), Option.bind_some]
        exact j1
      · rw [dc_false h1, if_neg (by decide)]
        exact j1
    by_cases h2 : VPI a1_0 l1_1 l1_2 ∧ (d : Int) = a1_0 ∧ l0_1 = l1_1
    · obtain ⟨⟨d', e, W⟩, e3, e4⟩ := h2
      subst e3
      subst e4
      obtain rfl : d = d' := by omega
      obtain ⟨f1, f2⟩ := vp_len W
      have hKW := W.hK
      rw [e1, f2, plusc_ok hq hq20 V W, Option.bind_some, rvalid_f hk.g hP, dc_true hvv, Option.bind_some, if_pos rfl, rmirror_ok hk V, Option.bind_some]
      dsimp only
      rw [same_refl _ _ _ (by unfold mir; simp; omega) (by simp; omega) (by have := hk.b; omega), Option.bind_some, if_pos rfl, if_pos rfl, aw, Option.bind_some]
      have adf : congouref04_Added.f (q + l0_2.length) d l0_1 l0_2 d l0_1 l1_2 = some (if dc (VPI d l0_1 (adds l0_2 l1_2)) = true then ((d : Int), l0_1, adds l0_2 l1_2, 0) else (0, [], [], 4)) := by
        unfold congouref04_Added.f
        rw [Option.bind_some, if_pos (by simp; omega), List.nil_append]
        have := added_l0 V W (by omega) l0_2.length (q + l0_2.length) 0 (by omega) (by omega) (fun t ht => by omega)
        exact this
      have tail : ∀ (x z : Int) (y w : List Int), y.length ≤ 1000 → w.length ≤ 1000 → congouref04_Added.f (q + l0_2.length) d l0_1 l0_2 d l0_1 l1_2 = some (x, y, w, z) →
          congoulaw04_CurvesMirrors.j0 (q + 1 + l0_2.length + 1) z false d l0_1 l0_2 d l0_1 l1_2 x y w = some true := by
        intro x z y w hy hw ha
        rw [congoulaw04_CurvesMirrors.j0, if_neg (by decide), rvalid_f hk'.g hP', dc_true ⟨d, rfl, W⟩, Option.bind_some, if_pos rfl, like_f d d l0_1 l0_2 l0_1 l1_2 (by omega) (by omega), dc_true ⟨rfl, rfl⟩, Option.bind_some,
          show q + 1 + l0_2.length = q + l0_2.length + 1 by omega, congoulaw04_CurvesMirrors.j1, if_neg (by decide), ha, Option.bind_some, congoulaw04_own.f, Option.bind_some]
        dsimp only
        rw [same_refl x y w hy hw (by omega), Option.bind_some, if_pos rfl]
        simp
      by_cases hA : dc (VPI d l0_1 (adds l0_2 l1_2)) = true
      · rw [if_pos hA] at adf ⊢
        exact tail _ _ _ _ (by show l0_1.length ≤ 1000; omega) (by show (adds l0_2 l1_2).length ≤ 1000; rw [adds_len]; omega) adf
      · rw [if_neg hA] at adf ⊢
        exact tail _ _ _ _ (by simp) (by simp) adf
    · have hb2 : ¬ (VPI a1_0 (l1_1.take 23) (l1_2.take 23) ∧ (d : Int) = a1_0 ∧ l0_1 = l1_1.take 23) := by
        intro ⟨g1, g2, g3⟩
        obtain ⟨d', e, W⟩ := g1
        obtain ⟨f1, f2⟩ := vp_take W
        rw [f1, f2] at W
        rw [f1] at g3
        exact h2 ⟨⟨d', e, W⟩, g2, g3⟩
      rw [plusc_bad hk V hT' hb2, Option.bind_some, rvalid_f hk.g hP, dc_true hvv, Option.bind_some, if_pos rfl, rmirror_ok hk V, Option.bind_some]
      dsimp only
      rw [same_refl _ _ _ (by unfold mir; simp; omega) (by simp; omega) (by have := hk.b; omega), Option.bind_some, if_pos rfl, if_pos rfl, aw, Option.bind_some]
      exact bad h2
  · refine ⟨q, ?_⟩
    have hv2 : ¬ VPI a0_0 (l0_1.take 23) (l0_2.take 23) := fun h => hv (vpi_take.mp h)
    have aw := awake_f (k := q) (Nat.le_trans (by decide) hq.b)
    unfold congoulaw04_CurvesMirrors.f
    simp only [of_law, Option.bind_some, congoulaw04_own.f]
    rw [mirror_bad hq hT hv2, Option.bind_some, plusc_inv hq hT hv2, Option.bind_some, rvalid_f hq.g hP, dc_false hv, Option.bind_some, if_neg (by decide)]
    dsimp only
    rw [same_nil hq, Option.bind_some, if_pos rfl, Option.bind_some, if_pos rfl, if_pos rfl, if_pos rfl, aw, Option.bind_some]
end Go.Proofs.Ytpnocmkpeogifaa.Pure
