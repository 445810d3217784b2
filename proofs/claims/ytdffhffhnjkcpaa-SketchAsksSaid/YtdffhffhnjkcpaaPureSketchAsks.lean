/- SketchAsks: Ask returns what a table says of a key, and Add two tables together, or the documented error. -/
import Derived.Test.YtdffhffhnjkcpaaXf9
import Derived.Test.YtdffhffhnjkcpaaS7
namespace Go.Proofs.Ytdffhffhnjkcpaa.Pure
set_option linter.unusedVariables false
set_option linter.unusedSimpArgs false
open Go.RowKit Go.Proofs.Ytdffhffhnjkcpaa.X Go.Proofs.YtdffhffhnjkcpaaW.PrintWords Go.Proofs.YtdffhffhnjkcpaaW.PrintLast

theorem addT_rows {s t : List (List Int)} (h : sameB s t) : (addT s t).length ≤ 4 ∧ ∀ r ∈ addT s t, r.length < 9 := by
  obtain ⟨hs, ht, hl, h0⟩ := h
  obtain ⟨hs1, hs2⟩ := (tabB_iff s).mp hs
  refine ⟨by simp [addT]; omega, fun r hr => ?_⟩
  obtain ⟨j, hj, rfl⟩ := List.getElem_of_mem hr
  simp only [addT, List.length_zipWith] at hj
  have h3 := hs2 s[j] (List.getElem_mem _)
  simp [addT, addR]
  omega
theorem Asks_j2 (l0 l1 : List (List Int)) (k : Nat) (hk : 200 < k) (hs : tabB l0 = true) (ht : tabB l1 = true) (hl : l0.length = l1.length) :
    congoulaw03_SketchAsks.j2 k l0 l1 (if sameB l0 l1 then (if tabB (addT l0 l1) = true then (addT l0 l1, (0 : Int)) else ([], 4)) else ([], 2)).1 (if sameB l0 l1 then (if tabB (addT l0 l1) = true then (addT l0 l1, (0 : Int)) else ([], 4)) else ([], 2)).2 (((rd_L1 l0 0).length : Int) != ((rd_L1 l1 0).length : Int)) = some true := by
  obtain ⟨k, rfl⟩ : ∃ m, k = m + 1 := ⟨k - 1, by omega⟩
  by_cases h0 : (rd_L1 l0 0).length = (rd_L1 l1 0).length
  · have hsame : sameB l0 l1 := ⟨hs, ht, hl, h0⟩
    have hr := addT_rows hsame
    rw [if_pos hsame, h0]
    simp only [bne_self_eq_false, congoulaw03_SketchAsks.j2]
    rw [if_neg (by decide), RAdd_f l0 l1 hsame k (by omega)]
    simp only [Option.bind_some]
    cases hv : tabB (addT l0 l1) with
    | true =>
      rw [if_pos rfl, equal_f _ _ 9 hr.2 (by omega) (by omega) k (by omega)]
      simp [awake_f]
    | false =>
      rw [if_neg (by decide), equal_f _ _ 9 (by simp) (by omega) (by simp) k (by simp; omega)]
      simp [awake_f]
  · have hn : ¬ sameB l0 l1 := fun h => h0 h.2.2.2
    have hb : (((rd_L1 l0 0).length : Int) != ((rd_L1 l1 0).length : Int)) = true := by simp; omega
    rw [if_neg hn, hb]
    simp [congoulaw03_SketchAsks.j2, awake_f]
theorem Asks_j1 (l0 l1 : List (List Int)) (k : Nat) (hk : fuelT l0 + fuelT l1 + 300 < k) (h0 : l0.length ≤ 9223372036854775807) (h1 : ∀ r ∈ l0, r.length ≤ 9223372036854775807) (h2 : l1.length ≤ 9223372036854775807) (h3 : ∀ r ∈ l1, r.length ≤ 9223372036854775807) :
    congoulaw03_SketchAsks.j1 k l0 l1 (if sameB l0 l1 then (if tabB (addT l0 l1) = true then (addT l0 l1, (0 : Int)) else ([], 4)) else ([], 2)).1 (if sameB l0 l1 then (if tabB (addT l0 l1) = true then (addT l0 l1, (0 : Int)) else ([], 4)) else ([], 2)).2 = some true := by
  obtain ⟨k, rfl⟩ : ∃ m, k = (m + 1) + 1 := ⟨k - 2, by omega⟩
  have hno : ∀ (h : ¬ sameB l0 l1), congoulaw03_SketchAsks.j2 (k + 1) l0 l1 (if sameB l0 l1 then (if tabB (addT l0 l1) = true then (addT l0 l1, (0 : Int)) else ([], 4)) else ([], 2)).1 (if sameB l0 l1 then (if tabB (addT l0 l1) = true then (addT l0 l1, (0 : Int)) else ([], 4)) else ([], 2)).2 true = some true := by
    intro h
    rw [if_neg h]
    simp [congoulaw03_SketchAsks.j2, awake_f]
  simp only [congoulaw03_SketchAsks.j1]
  rw [RIsTable_f l0 h0 h1 (k + 1) (by omega), RIsTable_f l1 h2 h3 (k + 1) (by omega)]
  simp only [Option.bind_some]
  cases hs : tabB l0 with
  | false =>
    rw [if_neg (by decide)]
    exact hno (fun h => by have := h.1; rw [hs] at this; cases this)
  | true =>
    rw [if_pos rfl]
    cases ht : tabB l1 with
    | false =>
      rw [if_neg (by decide)]
      exact hno (fun h => by have := h.2.1; rw [ht] at this; cases this)
    | true =>
      have h4 := ((tabB_iff l0).mp hs).1
      rw [if_pos rfl]
      by_cases hl : (l0.length : Int) = (l1.length : Int)
      · rw [if_pos hl, if_pos (by omega), if_pos (by omega)]
        exact Asks_j2 l0 l1 (k + 1) (by omega) hs ht (by omega)
      · rw [if_neg hl]
        exact hno (fun h => hl (by have := h.2.2.1; omega))
theorem SketchAsks (l0 : List (List Int)) (l1 : List (List Int)) (a2 : Int) (h0_ : l0.length ≤ maxLen) (h1_ : (∀ x ∈ l0, (x.length ≤ maxLen ∧ ∀ x1_ ∈ x, (Lit.int .i64 x1_).wf = true))) (h2_ : l1.length ≤ maxLen) (h3_ : (∀ x ∈ l1, (x.length ≤ maxLen ∧ ∀ x2_ ∈ x, (Lit.int .i64 x2_).wf = true))) (h4_ : (Lit.int .i64 a2).wf = true) : ∃ k, congoulaw03_SketchAsks.f k l0 l1 a2 = some true := by
  have h0 : l0.length ≤ 9223372036854775807 := by unfold maxLen at h0_; exact h0_
  have h1 : ∀ r ∈ l0, r.length ≤ 9223372036854775807 := fun r hr => by have := (h1_ r hr).1; unfold maxLen at this; exact this
  have h2 : l1.length ≤ 9223372036854775807 := by unfold maxLen at h2_; exact h2_
  have h3 : ∀ r ∈ l1, r.length ≤ 9223372036854775807 := fun r hr => by have := (h3_ r hr).1; unfold maxLen at this; exact this
  refine ⟨l0.length + l1.length + fuelT l0 + fuelT l1 + 1000 + 1, ?_⟩
  generalize hK : l0.length + l1.length + fuelT l0 + fuelT l1 + 1000 = K
  have hsame : sameB (truncT l0) (truncT l1) ↔ sameB l0 l1 := by
    unfold sameB
    rw [tabB_trunc, tabB_trunc]
    constructor
    · rintro ⟨hs, ht, h⟩
      rw [truncT_same l0 hs, truncT_same l1 ht] at h
      exact ⟨hs, ht, h⟩
    · rintro ⟨hs, ht, h⟩
      rw [truncT_same l0 hs, truncT_same l1 ht]
      exact ⟨hs, ht, h⟩
  have hval : (if sameB (truncT l0) (truncT l1) then (if tabB (addT (truncT l0) (truncT l1)) = true then (addT (truncT l0) (truncT l1), (0 : Int)) else ([], 4)) else ([], 2)) = (if sameB l0 l1 then (if tabB (addT l0 l1) = true then (addT l0 l1, (0 : Int)) else ([], 4)) else ([], 2)) := by
    by_cases h : sameB l0 l1
    · rw [if_pos (hsame.mpr h), if_pos h, truncT_same l0 h.1, truncT_same l1 h.2.1]
    · rw [if_neg (fun h2 => h (hsame.mp h2)), if_neg h]
  have hj1 := Asks_j1 l0 l1 K (by omega) h0 h1 h2 h3
  unfold congoulaw03_SketchAsks.f
  rw [table_f l0 h0 h1 _ (by omega), table_f l1 h2 h3 _ (by omega)]
  simp only [Option.bind_some]
  rw [Ask_f _ a2 _ (by omega), Add_f _ _ _ (by omega), RIsTable_f l0 h0 h1 _ (by omega), hval, tabB_trunc]
  simp only [Option.bind_some]
  cases hs : tabB l0 with
  | false =>
    rw [if_neg (by decide), if_neg (fun h => by cases h.1)]
    simp only [congoulaw03_SketchAsks.j0, if_true]
    exact hj1
  | true =>
    rw [if_pos rfl, truncT_same l0 hs]
    by_cases hneg : a2 < 0
    · have hkey : ¬ keyB a2 = true := by simp [keyB]; omega
      rw [if_pos hneg, if_neg (fun h => hkey h.2)]
      simp only [congoulaw03_SketchAsks.j0, if_true]
      exact hj1
    · by_cases hbig : a2 > 15
      · have hkey : ¬ keyB a2 = true := by simp [keyB]; omega
        rw [if_neg hneg, if_neg (fun h => hkey h.2), decide_eq_true hbig]
        simp only [congoulaw03_SketchAsks.j0, if_true]
        exact hj1
      · have hkey : keyB a2 = true := by simp [keyB]; omega
        rw [if_neg hneg, if_pos ⟨rfl, hkey⟩, decide_eq_false hbig]
        simp only [congoulaw03_SketchAsks.j0]
        rw [if_neg (by decide), RAsk_f l0 a2 hs hkey _ (by omega)]
        simp only [Option.bind_some, if_true]
        exact hj1
end Go.Proofs.Ytdffhffhnjkcpaa.Pure
