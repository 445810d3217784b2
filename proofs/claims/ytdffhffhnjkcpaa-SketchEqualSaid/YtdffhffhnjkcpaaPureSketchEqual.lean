/- SketchEqual: over all dice whose i-th number is from 0 to i each place of the stream is kept equally often. -/
import Derived.Test.YtdffhffhnjkcpaaE3
namespace Go.Proofs.Ytdffhffhnjkcpaa.Pure
set_option linter.unusedVariables false
set_option maxRecDepth 100000
open Go.RowKit Go.Proofs.Ytdffhffhnjkcpaa.X Go.Proofs.YtdffhffhnjkcpaaW.PrintWords Go.Proofs.YtdffhffhnjkcpaaW.PrintLast

theorem eq0_1 : congoulaw03_SketchEqual.l0 5000 1 0 [] 1 0 0 = some true := by decide +kernel
theorem eq0_2 : congoulaw03_SketchEqual.l0 5000 2 0 [] 1 0 0 = some true := by decide +kernel
theorem eq0_3 : congoulaw03_SketchEqual.l0 5000 3 0 [] 1 0 0 = some true := by decide +kernel
theorem eq0_4 : congoulaw03_SketchEqual.l0 5000 4 0 [] 1 0 0 = some true := by decide +kernel
theorem eq0_5 : congoulaw03_SketchEqual.l0 5000 5 0 [] 1 0 0 = some true := by decide +kernel
theorem eq0_6 : congoulaw03_SketchEqual.l0 5000 6 0 [] 1 0 0 = some true := by decide +kernel
theorem eq0_7 : congoulaw03_SketchEqual.l0 5000 7 0 [] 1 0 0 = some true := by decide +kernel
theorem eq0_8 : congoulaw03_SketchEqual.l0 5000 8 0 [] 1 0 0 = some true := by decide +kernel
theorem eq1_1 : congoulaw03_SketchEqual.l0 5000 1 1 [] 1 1 0 = some true := by decide +kernel
theorem eq1_2 : congoulaw03_SketchEqual.l0 5000 2 1 [] 1 1 0 = some true := by decide +kernel
theorem eq1_3 : congoulaw03_SketchEqual.l0 5000 3 1 [] 1 1 0 = some true := by decide +kernel
theorem eq1_4 : congoulaw03_SketchEqual.l0 5000 4 1 [] 1 1 0 = some true := by decide +kernel
theorem eq1_5 : congoulaw03_SketchEqual.l0 5000 5 1 [] 1 1 0 = some true := by decide +kernel
theorem eq1_6 : congoulaw03_SketchEqual.l0 5000 6 1 [] 1 1 0 = some true := by decide +kernel
theorem eq1_7 : congoulaw03_SketchEqual.l0 5000 7 1 [] 1 1 0 = some true := by decide +kernel
theorem eq1_8 : congoulaw03_SketchEqual.l0 5000 8 1 [] 1 1 0 = some true := by decide +kernel
theorem eq2_1 : congoulaw03_SketchEqual.l0 5000 1 2 [] 1 2 0 = some true := by decide +kernel
theorem eq2_2 : congoulaw03_SketchEqual.l0 5000 2 2 [] 1 2 0 = some true := by decide +kernel
theorem eq2_3 : congoulaw03_SketchEqual.l0 5000 3 2 [] 1 2 0 = some true := by decide +kernel
theorem eq2_4 : congoulaw03_SketchEqual.l0 5000 4 2 [] 1 2 0 = some true := by decide +kernel
theorem eq2_5 : congoulaw03_SketchEqual.l0 5000 5 2 [] 1 2 0 = some true := by decide +kernel
theorem eq2_6 : congoulaw03_SketchEqual.l0 5000 6 2 [] 1 2 0 = some true := by decide +kernel
theorem eq2_7 : congoulaw03_SketchEqual.l0 5000 7 2 [] 1 2 0 = some true := by decide +kernel
theorem eq2_8 : congoulaw03_SketchEqual.l0 5000 8 2 [] 1 2 0 = some true := by decide +kernel
theorem eq3_1 : congoulaw03_SketchEqual.l0 5000 1 3 [] 1 3 0 = some true := by decide +kernel
theorem eq3_2 : congoulaw03_SketchEqual.l0 5000 2 3 [] 1 3 0 = some true := by decide +kernel
theorem eq3_3 : congoulaw03_SketchEqual.l0 5000 3 3 [] 1 3 0 = some true := by decide +kernel
theorem eq3_4 : congoulaw03_SketchEqual.l0 5000 4 3 [] 1 3 0 = some true := by decide +kernel
theorem eq3_5 : congoulaw03_SketchEqual.l0 5000 5 3 [] 1 3 0 = some true := by decide +kernel
theorem eq3_6 : congoulaw03_SketchEqual.l0 5000 6 3 [] 1 3 0 = some true := by decide +kernel
theorem eq3_7 : congoulaw03_SketchEqual.l0 5000 7 3 [] 1 3 0 = some true := by decide +kernel
theorem eq3_8 : congoulaw03_SketchEqual.l0 5000 8 3 [] 1 3 0 = some true := by decide +kernel
theorem eq4_1 : congoulaw03_SketchEqual.l0 5000 1 4 [] 1 4 0 = some true := by decide +kernel
theorem eq4_2 : congoulaw03_SketchEqual.l0 5000 2 4 [] 1 4 0 = some true := by decide +kernel
theorem eq4_3 : congoulaw03_SketchEqual.l0 5000 3 4 [] 1 4 0 = some true := by decide +kernel
theorem eq4_4 : congoulaw03_SketchEqual.l0 5000 4 4 [] 1 4 0 = some true := by decide +kernel
theorem eq4_5 : congoulaw03_SketchEqual.l0 5000 5 4 [] 1 4 0 = some true := by decide +kernel
theorem eq4_6 : congoulaw03_SketchEqual.l0 5000 6 4 [] 1 4 0 = some true := by decide +kernel
theorem eq4_7 : congoulaw03_SketchEqual.l0 5000 7 4 [] 1 4 0 = some true := by decide +kernel
theorem eq4_8 : congoulaw03_SketchEqual.l0 5000 8 4 [] 1 4 0 = some true := by decide +kernel
theorem eq5_1 : congoulaw03_SketchEqual.l0 5000 1 5 [] 1 5 0 = some true := by decide +kernel
theorem eq5_2 : congoulaw03_SketchEqual.l0 5000 2 5 [] 1 5 0 = some true := by decide +kernel
theorem eq5_3 : congoulaw03_SketchEqual.l0 5000 3 5 [] 1 5 0 = some true := by decide +kernel
theorem eq5_4 : congoulaw03_SketchEqual.l0 5000 4 5 [] 1 5 0 = some true := by decide +kernel
theorem eq5_5 : congoulaw03_SketchEqual.l0 5000 5 5 [] 1 5 0 = some true := by decide +kernel
theorem eq5_6 : congoulaw03_SketchEqual.l0 5000 6 5 [] 1 5 0 = some true := by decide +kernel
theorem eq5_7 : congoulaw03_SketchEqual.l0 5000 7 5 [] 1 5 0 = some true := by decide +kernel
theorem eq5_8 : congoulaw03_SketchEqual.l0 5000 8 5 [] 1 5 0 = some true := by decide +kernel
theorem u64_wrap3 (x : Int) : IntKind.u64.wrap x = x % 18446744073709551616 := by
  simp [IntKind.wrap, IntKind.bits, IntKind.signed]
theorem red_range (x m : Int) (h : 0 < m) (h2 : m ≤ 8) : 0 ≤ Int.tmod (IntKind.u64.wrap x) m ∧ Int.tmod (IntKind.u64.wrap x) m < m := by
  have h0 : 0 ≤ IntKind.u64.wrap x := by
    rw [u64_wrap3]
    omega
  rw [Int.tmod_eq_emod_of_nonneg h0]
  exact ⟨Int.emod_nonneg _ (by omega), Int.emod_lt_of_pos _ h⟩
theorem wr (x : Int) (h : 0 ≤ x) (h2 : x ≤ 100) : wrap64 x = x := by
  unfold wrap64
  omega
theorem eq_all (k n : Int) (hk : 1 ≤ k) (hk8 : k ≤ 8) (hn : 0 ≤ n) (hn6 : n ≤ 6) : ∃ K, congoulaw03_SketchEqual.l0 K k n [] 1 n 0 = some true := by
  have h : n = 0 ∨ n = 1 ∨ n = 2 ∨ n = 3 ∨ n = 4 ∨ n = 5 ∨ n = 6 := by omega
  have h2 : k = 1 ∨ k = 2 ∨ k = 3 ∨ k = 4 ∨ k = 5 ∨ k = 6 ∨ k = 7 ∨ k = 8 := by omega
  rcases h with rfl | rfl | rfl | rfl | rfl | rfl | rfl
  · rcases h2 with rfl | rfl | rfl | rfl | rfl | rfl | rfl | rfl
    · exact ⟨_, eq0_1⟩
    · exact ⟨_, eq0_2⟩
    · exact ⟨_, eq0_3⟩
    · exact ⟨_, eq0_4⟩
    · exact ⟨_, eq0_5⟩
    · exact ⟨_, eq0_6⟩
    · exact ⟨_, eq0_7⟩
    · exact ⟨_, eq0_8⟩
  · rcases h2 with rfl | rfl | rfl | rfl | rfl | rfl | rfl | rfl
    · exact ⟨_, eq1_1⟩
    · exact ⟨_, eq1_2⟩
    · exact ⟨_, eq1_3⟩
    · exact ⟨_, eq1_4⟩
    · exact ⟨_, eq1_5⟩
    · exact ⟨_, eq1_6⟩
    · exact ⟨_, eq1_7⟩
    · exact ⟨_, eq1_8⟩
  · rcases h2 with rfl | rfl | rfl | rfl | rfl | rfl | rfl | rfl
    · exact ⟨_, eq2_1⟩
    · exact ⟨_, eq2_2⟩
    · exact ⟨_, eq2_3⟩
    · exact ⟨_, eq2_4⟩
    · exact ⟨_, eq2_5⟩
    · exact ⟨_, eq2_6⟩
    · exact ⟨_, eq2_7⟩
    · exact ⟨_, eq2_8⟩
  · rcases h2 with rfl | rfl | rfl | rfl | rfl | rfl | rfl | rfl
    · exact ⟨_, eq3_1⟩
    · exact ⟨_, eq3_2⟩
    · exact ⟨_, eq3_3⟩
    · exact ⟨_, eq3_4⟩
    · exact ⟨_, eq3_5⟩
    · exact ⟨_, eq3_6⟩
    · exact ⟨_, eq3_7⟩
    · exact ⟨_, eq3_8⟩
  · rcases h2 with rfl | rfl | rfl | rfl | rfl | rfl | rfl | rfl
    · exact ⟨_, eq4_1⟩
    · exact ⟨_, eq4_2⟩
    · exact ⟨_, eq4_3⟩
    · exact ⟨_, eq4_4⟩
    · exact ⟨_, eq4_5⟩
    · exact ⟨_, eq4_6⟩
    · exact ⟨_, eq4_7⟩
    · exact ⟨_, eq4_8⟩
  · rcases h2 with rfl | rfl | rfl | rfl | rfl | rfl | rfl | rfl
    · exact ⟨_, eq5_1⟩
    · exact ⟨_, eq5_2⟩
    · exact ⟨_, eq5_3⟩
    · exact ⟨_, eq5_4⟩
    · exact ⟨_, eq5_5⟩
    · exact ⟨_, eq5_6⟩
    · exact ⟨_, eq5_7⟩
    · exact ⟨_, eq5_8⟩
  · rcases h2 with rfl | rfl | rfl | rfl | rfl | rfl | rfl | rfl
    · exact ⟨_, eq6_1⟩
    · exact ⟨_, eq6_2⟩
    · exact ⟨_, eq6_3⟩
    · exact ⟨_, eq6_4⟩
    · exact ⟨_, eq6_5⟩
    · exact ⟨_, eq6_6⟩
    · exact ⟨_, eq6_7⟩
    · exact ⟨_, eq6_8⟩
theorem SketchEqual : congoulaw03_SketchEqual.Pure := by
  intro a0 a1 _ _
  have h1 := red_range a0 8 (by omega) (by omega)
  have h2 := red_range a1 7 (by omega) (by omega)
  unfold congoulaw03_SketchEqual.f
  rw [wr (Int.tmod (IntKind.u64.wrap a0) 8) h1.1 (by omega), wr (1 + Int.tmod (IntKind.u64.wrap a0) 8) (by omega) (by omega), wr (Int.tmod (IntKind.u64.wrap a1) 7) h2.1 (by omega)]
  exact eq_all _ _ (by omega) (by omega) h2.1 (by omega)
end Go.Proofs.Ytdffhffhnjkcpaa.Pure
