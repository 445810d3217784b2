/- Plus from its beginning. -/
import Derived.Test.YtpnocmkpeogifaaDoorSF
namespace Go.Proofs.YtpnocmkpeogifaaDoor.Pure
open Go.RowKit Go.Proofs.YtpnocmkpeogifaaDoor.X Go.Proofs.YtpnocmkpeogifaaDoorW.PrintWords Go.Proofs.YtpnocmkpeogifaaDoorW.PrintLast
set_option linter.unusedVariables false
set_option linter.unusedSimpArgs false

/-- Plus of a valid curve and any -/
theorem plusc_bad {k : Nat} (hk : Rp k) {d : Nat} {b : Int} {K P K' P' : List Int} (V : VP d K P) (hP : P'.length ≤ 9223372036854775807) (h : ¬ (VPI b K' P' ∧ (d : Int) = b ∧ K = K')) : curves_Plus.f k d K P b K' P' = some (0, [], [], 2) := by
  have h8 := V.h8
  have hK := V.hK
  have hd := V.hd
  have hb := hk.b
  have j : curves_Plus.j0 k true d K P b K' P' = some (0, [], [], 2) := by
    obtain ⟨k, rfl⟩ : ∃ m, k = m + 1 := ⟨k - 1, by omega⟩
    rw [curves_Plus.j0, if_pos rfl]
  unfold curves_Plus.f
  rw [valid_f hk.g (by omega), dc_true ⟨d, rfl, V⟩, Option.bind_some, if_pos rfl, valid_f hk.g hP, Option.bind_some]
  by_cases h1 : VPI b K' P'
  rotate_left
  · rw [dc_false h1, if_neg (by decide), j]
  rw [dc_true h1, if_pos rfl]
  by_cases h2 : (d : Int) = b
  rotate_left
  · rw [if_neg h2, j]
  rw [if_pos h2, eql_f K K' (by omega) (by omega), dc_false (fun e => h ⟨h1, h2, e⟩), Option.bind_some]
  exact j
theorem plusc_ok {k : Nat} (hk : Rp k) (hk9 : Rp (k + 20)) {d : Nat} {K P Q : List Int} (V : VP d K P) (W : VP d K Q) :
    curves_Plus.f (k + 1 + P.length + 1) d K P d K Q = some (if dc (VPI d K (adds P Q)) = true then ((d : Int), K, adds P Q, 0) else (0, [], [], 4)) := by
  have h8 := V.h8
  have hK := V.hK
  have hd := V.hd
  have hKW := W.hK
  have hb := hk.b
  have ha := hk.a
  have g : KG ≤ k + 1 + P.length + 1 := Nat.le_trans hk.g (by omega)
  unfold curves_Plus.f
  rw [valid_f g (by omega), dc_true ⟨d, rfl, V⟩, Option.bind_some, if_pos rfl, valid_f g (by have := W.h8; omega), dc_true ⟨d, rfl, W⟩, Option.bind_some, if_pos rfl, if_pos rfl, eql_f K K (by omega) (by omega), dc_true rfl, Option.bind_some,
    curves_Plus.j0, if_neg (by decide), clone_f K (by omega), Option.bind_some, clone_f P (by omega), Option.bind_some]
  exact plusc_l0 hk V W (by omega) P.length _ 0 P (by omega) (by omega) rfl (fun t ht => by rw [if_neg (by omega)])
theorem plusc_inv {k : Nat} (hk : Rp k) {a b : Int} {K P K' P' : List Int} (hP : P.length ≤ 9223372036854775807) (h : ¬ VPI a K P) : curves_Plus.f k a K P b K' P' = some (0, [], [], 2) := by
  have hb := hk.b
  unfold curves_Plus.f
  rw [valid_f hk.g hP, dc_false h, Option.bind_some, if_neg (by decide)]
  obtain ⟨k, rfl⟩ : ∃ m, k = m + 1 := ⟨k - 1, by omega⟩
  rw [curves_Plus.j0, if_pos rfl]
end Go.Proofs.YtpnocmkpeogifaaDoor.Pure
