/- Mixtures: the program's read, and the reference's Mixture. -/
import Derived.Test.YtefmafbbnkkpjaaSJ
import Derived.Test.YtefmafbbnkkpjaaX0
import Derived.Test.YtefmafbbnkkpjaaXG1a
namespace Go.Proofs.Ytefmafbbnkkpjaa.Pure
open Go Go.RowKit Go.Proofs.Ytefmafbbnkkpjaa.X Go.Proofs.YtefmafbbnkkpjaaW.PrintWords Go.Proofs.YtefmafbbnkkpjaaW.PrintLast Go.Proofs.YtefmafbbnkkpjaaW.PrintMore
set_option linter.unusedVariables false
set_option linter.unusedSimpArgs false

theorem Th.of {most D : Int} {f : S62} (h : OkF most true f) (hd : f.f1 ∣ D) : Th D f := ⟨h.d1, hd, h.n0, h.ns rfl⟩
theorem mul_Th {most D : Int} (h1 : 1 ≤ most) {m : List (List S62)} (h : mulP most true m.flatten 1 = D) (h0 : D ≠ 0) : 1 ≤ D ∧ D ≤ most ∧ ∀ r ∈ m, ∀ f ∈ r, OkF most true f ∧ Th D f := by
  subst h
  obtain ⟨a1, a2, _, a4, _⟩ := mulP_spec most true m.flatten 1 (by omega) h1 h0
  exact ⟨a1, a2, fun r hr f hf => by
    have := a4 f (List.mem_flatten.mpr ⟨r, hr, hf⟩)
    exact ⟨this.1, Th.of this.1 this.2⟩⟩
theorem common_f (most : Int) (h1 : 1 ≤ most) (hm : most ≤ 10000000) (m : List (List S62)) (n : Nat) (hl : m.length ≤ 9) (hr : ∀ r ∈ m, r.length ≤ 9) (hb : ∀ r ∈ m, ∀ f ∈ r, B64 f) (k : Nat) (hk : 2100000 + KG ≤ k) :
    (m.length = n ∧ (∀ r ∈ m, r.length = n) ∧ xCommon.f k m (n : Int) most = some (packM (mulP most true m.flatten 1))) ∨ (¬ (m.length = n ∧ ∀ r ∈ m, r.length = n) ∧ xCommon.f k m (n : Int) most = some (0, false)) := by
  unfold xCommon.f
  by_cases h : m.length = n
  · rw [if_pos (by omega)]
    cases ha : m.any (fun r => (r.length : Int) != (n : Int)) with
    | true =>
      rw [if_pos rfl]
      refine .inr ⟨fun h2 => ?_, rfl⟩
      obtain ⟨r, hr, h3⟩ := List.any_eq_true.mp ha
      have := h2.2 r hr
      simp [this] at h3
    | false =>
      rw [if_neg (by decide)]
      refine .inl ⟨h, fun r hr => ?_, multiple_f most h1 hm m (by omega) (fun r hx => by have := hr r hx; omega) hb k hk⟩
      rw [List.any_eq_false] at ha
      have := ha r hr
      simp at this
      omega
  · rw [if_neg (by omega)]
    exact .inr ⟨fun h2 => h h2.1, rfl⟩
/-! ### the reference -/
def el (m : List (List S62)) (i j : Nat) : S62 := rd_T62 (rd_L5 m (i : Int)) (j : Int)
end Go.Proofs.Ytefmafbbnkkpjaa.Pure
