/- CurvesInserts: Insert returns the poles of the same curve with a knot more, or the documented error. -/
import Derived.Test.YtpnocmkpeogifaaXf13
import Derived.Test.YtpnocmkpeogifaaSKb
namespace Go.Proofs.Ytpnocmkpeogifaa.Pure
set_option linter.unusedVariables false
set_option linter.unusedSimpArgs false
open Go.RowKit Go.Proofs.Ytpnocmkpeogifaa.X Go.Proofs.YtpnocmkpeogifaaW.PrintWords Go.Proofs.YtpnocmkpeogifaaW.PrintLast

theorem insR_len (d : Nat) (K P : List Int) (k : Int) (j : Nat) (h8 : P.length ≤ 8) : (insR d K P k j).1.length ≤ 9 := by
  unfold insR
  split
  · simp
  · split
    · simp
    · show (lm _ _).length ≤ 9
      rw [lm_len]; omega
theorem CurvesInserts (a0_0 : Int) (l0_1 : List Int) (l0_2 : List Int) (a1 : Int) (h0_ : (Lit.int .i64 a0_0).wf = true) (h1_ : l0_1.length ≤ maxLen) (h2_ : (∀ x ∈ l0_1, (Lit.int .i64 x).wf = true)) (h3_ : l0_2.length ≤ maxLen) (h4_ : (∀ x ∈ l0_2, (Lit.int .i64 x).wf = true)) (h5_ : (Lit.int .i64 a1).wf = true) : ∃ k, congoulaw04_CurvesInserts.f k a0_0 l0_1 l0_2 a1 = some true := by
  obtain ⟨k, hk⟩ : ∃ k, Rk k := ⟨_, rk_any⟩
  have hk1 : Rk (k + 1) := ⟨Nat.le_trans hk.a (Nat.le_succ k), Nat.le_trans hk.b (Nat.le_succ k)⟩
  refine ⟨k + 1, ?_⟩
  have hP : l0_2.length ≤ 9223372036854775807 := by unfold maxLen at h3_; omega
  have hT : (l0_2.take 23).length ≤ 9223372036854775807 := by rw [List.length_take]; omega
  have aw := awake_f (k := k) (Nat.le_trans (by decide) hk.b)
  have hb := hk.b
  have hkg : KG ≤ k + 1 := Nat.le_trans (by decide) hk1.a
  unfold congoulaw04_CurvesInserts.f
  rw [of_law, Option.bind_some]
  dsimp only
  rw [rvalid_f hkg hP]
  by_cases hv : VPI a0_0 l0_1 l0_2
  · have hvv := hv
    obtain ⟨d, rfl, V⟩ := hv
    obtain ⟨e1, e2⟩ := vp_len V
    have hK := V.hK; have h8 := V.h8; have hd := V.hd; have hn := V.hn
    rw [e1, e2]
    have hout : ¬ (kn l0_1 d ≤ a1 ∧ a1 < kn l0_1 l0_2.length) → (some (([] : List S26), (2 : Int))).bind (fun bt => congoulaw04_CurvesInserts.j0 (k + 1) a1 bt.1 bt.2 true d l0_1 l0_2) = some true := by
      intro _
      simp [congoulaw04_CurvesInserts.j0, aw]
    by_cases c1 : kn l0_1 d ≤ a1
    · by_cases c2 : a1 < kn l0_1 l0_2.length
      · obtain ⟨j, J⟩ := ins_of V c1 c2
        have hlen := insR_len d l0_1 l0_2 a1 j h8
        have hr := rinsert_in hk J
        rw [insert_in hk1 J, Option.bind_some, Option.bind_some, dc_true hvv, if_pos rfl, if_pos (by omega), if_pos (by omega), rd_kn (by omega), if_neg (by omega), if_pos (by omega), if_pos (by omega), rd_kn (by omega), decide_eq_false (by omega), congoulaw04_CurvesInserts.j0, if_neg (by decide), hr, Option.bind_some, eq26_f _ (by omega) (by omega), Option.bind_some, if_pos rfl, if_pos rfl, aw, Option.bind_some]
      · rw [insert_out hk1 V (fun h => c2 h.2), Option.bind_some, Option.bind_some, dc_true hvv, if_pos rfl, if_pos (by omega), if_pos (by omega), rd_kn (by omega), if_neg (by omega), if_pos (by omega), if_pos (by omega), rd_kn (by omega), decide_eq_true (by omega)]
        simp [congoulaw04_CurvesInserts.j0, aw]
    · rw [insert_out hk1 V (fun h => c1 h.1), Option.bind_some, Option.bind_some, dc_true hvv, if_pos rfl, if_pos (by omega), if_pos (by omega), rd_kn (by omega), if_pos (by omega)]
      simp [congoulaw04_CurvesInserts.j0, aw]
  · have hvt : ¬ VPI a0_0 (l0_1.take 23) (l0_2.take 23) := fun c => hv (vpi_take.mp c)
    rw [insert_bad hk1 hT hvt, Option.bind_some, Option.bind_some, dc_false hv, if_neg (by decide)]
    simp [congoulaw04_CurvesInserts.j0, aw]
end Go.Proofs.Ytpnocmkpeogifaa.Pure
