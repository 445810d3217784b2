/- Basic and Value answer as the law asks. -/
import Derived.Test.YtpnocmkpeogifaaSC
import Derived.Test.YtpnocmkpeogifaaXf5
namespace Go.Proofs.Ytpnocmkpeogifaa.Pure
open Go.RowKit Go.Proofs.Ytpnocmkpeogifaa.X Go.Proofs.YtpnocmkpeogifaaW.PrintWords Go.Proofs.YtpnocmkpeogifaaW.PrintLast
set_option linter.unusedVariables false
set_option linter.unusedSimpArgs false

theorem bad_take {a : Int} {K P : List Int} {x y : Int} (h : ¬ (VPI a K P ∧ IPI a K P x y)) : ¬ (VPI a (K.take 23) (P.take 23) ∧ IPI a (K.take 23) (P.take 23) x y) := by
  intro ⟨h1, h2⟩
  obtain ⟨d, e, h3⟩ := h1
  obtain ⟨e1, e2⟩ := vp_take h3
  rw [e1, e2] at h2 h3
  exact h ⟨⟨d, e, h3⟩, h2⟩
theorem take_len (P : List Int) : (P.take 23).length ≤ 9223372036854775807 := by
  rw [List.length_take]
  omega
theorem CurvesValues (a0_0 : Int) (l0_1 : List Int) (l0_2 : List Int) (a1_0 : Int) (a1_1 : Int) (h0_ : (Lit.int .i64 a0_0).wf = true) (h1_ : l0_1.length ≤ maxLen) (h2_ : (∀ x ∈ l0_1, (Lit.int .i64 x).wf = true)) (h3_ : l0_2.length ≤ maxLen) (h4_ : (∀ x ∈ l0_2, (Lit.int .i64 x).wf = true)) (h5_ : (Lit.int .i64 a1_0).wf = true) (h6_ : (Lit.int .i64 a1_1).wf = true) : ∃ k, congoulaw04_CurvesValues.f k a0_0 l0_1 l0_2 a1_0 a1_1 = some true := by
  obtain ⟨k, hk⟩ : ∃ k, Rk k := ⟨_, rk_any⟩
  refine ⟨k, ?_⟩
  have hP : l0_2.length ≤ 9223372036854775807 := by
    unfold maxLen at h3_
    omega
  have aw := awake_f (k := k) (Nat.le_trans (by decide) hk.b)
  unfold congoulaw04_CurvesValues.f
  rw [of_law, Option.bind_some]
  dsimp only
  by_cases hf : VPI a0_0 l0_1 l0_2 ∧ IPI a0_0 l0_1 l0_2 a1_0 a1_1
  · have hff := hf
    obtain ⟨⟨d, rfl, V⟩, d', e, I⟩ := hf
    obtain rfl : d = d' := by omega
    obtain ⟨t, p, rfl, rfl, B⟩ := bs_of V I
    obtain ⟨e1, e2⟩ := vp_len V
    have h8 := V.h8
    have hb := hk.b
    rw [e1, e2, basic_top hk B, Option.bind_some, Option.bind_some, value_top hk B, Option.bind_some, fine_f hk hP, dc_true hff, Option.bind_some, if_pos rfl, rBasic_top hk B, Option.bind_some]
    dsimp only
    rw [eq26_f _ (by rw [bn_len]; omega) (by rw [bn_len]; omega), Option.bind_some, if_pos rfl, rvalue_top hk B, Option.bind_some]
    dsimp only
    rw [if_pos (by simp), if_pos rfl, if_pos rfl, aw, Option.bind_some]
  · rw [basic_bad hk (take_len _) (bad_take hf), Option.bind_some, Option.bind_some]
    dsimp only
    rw [value_bad hk (take_len _) (bad_take hf), Option.bind_some, fine_f hk hP, dc_false hf, Option.bind_some, if_neg (by decide)]
    dsimp only
    rw [if_pos rfl, congoulaw04_none.f, Option.bind_some, if_pos (by decide)]
    simp only [if_true, aw, Option.bind_some]
    rfl
end Go.Proofs.Ytpnocmkpeogifaa.Pure
