/- SketchShort: on the short list each key has at most as many as it comes, and not fewer than that less the length divided; every heavy key is on it. -/
import Derived.Test.YtdffhffhnjkcpaaXf13
import Derived.Test.YtdffhffhnjkcpaaS10
namespace Go.Proofs.Ytdffhffhnjkcpaa.Pure
set_option linter.unusedVariables false
set_option linter.unusedSimpArgs false
open Go.RowKit Go.Proofs.Ytdffhffhnjkcpaa.X Go.Proofs.YtdffhffhnjkcpaaW.PrintWords Go.Proofs.YtdffhffhnjkcpaaW.PrintLast

theorem mem_heavyU (a : Int) (l : List Int) (y : Nat) (hy : y < 16) : (y : Int) ∈ heavyU a l 16 ↔ heavyP a l y = true := by
  unfold heavyU
  rw [List.mem_map]
  constructor
  · rintro ⟨z, hz, e⟩
    have : z = y := by omega
    subst this
    exact (List.mem_filter.mp hz).2
  · intro h
    exact ⟨y, List.mem_filter.mpr ⟨List.mem_range.mpr hy, h⟩, rfl⟩
theorem cnt_cntI (l : List Int) (y : Nat) : cnt l y = cntI l (y : Int) := rfl
theorem Short_l (a0 : Int) (l1 : List Int) (ha : 1 ≤ a0 ∧ a0 ≤ 8) (hs : streamB l1 = true) (d : Nat) : ∀ (k i : Nat), i + d = 16 → d + 100 < k →
    congoulaw03_SketchShort.l0 k a0 l1 (risen (foldS a0 l1)) (heavyU a0 l1 16) (i : Int) = some true := by
  have hl := ((streamB_iff l1).mp hs).1
  have hx := ((streamB_iff l1).mp hs).2
  obtain ⟨D, hI⟩ := foldS_inv ha.1 l1
  have hkey : ∀ c ∈ foldS a0 l1, 0 ≤ c.f0 ∧ c.f0 < 16 := fun c hc => hx _ (hI.pos c hc).2.2
  have hlr := len_risen hI.nd hkey
  have hlen := hI.len
  induction d with
  | zero =>
    intro k i hi hk
    obtain ⟨k, rfl⟩ : ∃ m, k = m + 1 := ⟨k - 1, by omega⟩
    simp only [congoulaw03_SketchShort.l0]
    rw [if_neg (by omega), awake_f]
    rfl
  | succ d ih =>
    intro k i hi hk
    obtain ⟨k, rfl⟩ : ∃ m, k = m + 1 := ⟨k - 1, by omega⟩
    have hi16 : i < 16 := by omega
    have hn := ih k (i + 1) (by omega) (by omega)
    have hkB : keyB (i : Int) = true := by simp [keyB]; omega
    have hlo := hI.lo (i : Int)
    have hhi := hI.hi (i : Int)
    have htot := hI.tot
    have h0t : 0 ≤ tot (foldS a0 l1) := tot_nonneg fun c hc => by have := (hI.pos c hc).1; omega
    have hcn := cnt_nonneg l1 (i : Int)
    have hcl := cnt_leI l1 (i : Int)
    have hDd : D ≤ (l1.length : Int) / (a0 + 1) := Int.le_ediv_of_mul_le (by omega) (by omega)
    have hdl : (l1.length : Int) / (a0 + 1) ≤ l1.length := Int.ediv_le_self _ (by omega)
    have hd0 : 0 ≤ (l1.length : Int) / (a0 + 1) := Int.ediv_nonneg (by omega) (by omega)
    have hv0 : 0 ≤ val (foldS a0 l1) (i : Int) := by
      have := hI.hi (i : Int)
      unfold val
      cases hg : gt? (foldS a0 l1) (i : Int) with
      | none => simp
      | some c => have := (hI.pos c (get_some hg).1).1; simp; omega
    have hmul : wrap64 (cntI l1 (i : Int) * (a0 + 1)) = cntI l1 (i : Int) * (a0 + 1) := by
      have h2 : cntI l1 (i : Int) * (a0 + 1) ≤ 40 * (a0 + 1) := Int.mul_le_mul_of_nonneg_right (by omega) (by omega)
      have h3 : 0 ≤ cntI l1 (i : Int) * (a0 + 1) := Int.mul_nonneg hcn (by omega)
      exact w64 (by omega) (by omega)
    have hheavy : decide ((i : Int) ∈ heavyU a0 l1 16) = decide ((l1.length : Int) < cntI l1 (i : Int) * (a0 + 1)) := by
      rw [decide_eq_decide, mem_heavyU a0 l1 i hi16]
      unfold heavyP
      rw [decide_eq_true_iff, cnt_cntI]
    have hhl := heavyU_len a0 l1 16
    simp only [congoulaw03_SketchShort.l0]
    rw [if_pos (by omega), list_f l1 (by omega), take_of_stream l1 hs]
    simp only [Option.bind_some, xOften.f, hs, hkB, and_self, if_true, Int.toNat_natCast]
    rw [of_f _ _ (by omega) k (by omega)]
    simp only [Option.bind_some, if_true]
    rw [ofU_val, ofU_off (fun c hc => (hI.pos c ((mem_risen hI.nd hkey c).mp hc)).2.1), val_risen hI.nd hkey, cnt_cntI, w64 (i := a0 + 1) (by omega) (by omega), w64 (i := (l1.length : Int) / (a0 + 1)) (by omega) (by omega), w64 (i := cntI l1 (i : Int) - (l1.length : Int) / (a0 + 1)) (by omega) (by omega), hmul]
    rw [if_neg (by omega), if_neg (by omega), if_neg (by omega), if_pos rfl]
    rw [Contains_fS _ _ (by omega) k (by omega), hheavy]
    simp only [Option.bind_some]
    rw [w64 (i := (i : Int) + 1) (by omega) (by omega), show (i : Int) + 1 = ((i + 1 : Nat) : Int) by omega, hn]
    by_cases hp : (l1.length : Int) < cntI l1 (i : Int) * (a0 + 1)
    · have h1 : D < cntI l1 (i : Int) := by
        refine Classical.byContradiction fun q => ?_
        have : cntI l1 (i : Int) * (a0 + 1) ≤ D * (a0 + 1) := Int.mul_le_mul_of_nonneg_right (by omega) (by omega)
        omega
      rw [decide_eq_true hp, if_pos rfl, if_neg (by omega)]
      simp [hp]
    · rw [decide_eq_false hp, if_neg (by simp)]
      simp [hp]
theorem SketchShort : congoulaw03_SketchShort.Pure := by
  intro a0 l1 _ _ hm _
  have hlen : l1.length ≤ 17592186044416 := by omega
  refine ⟨400, ?_⟩
  unfold congoulaw03_SketchShort.f
  rw [list_f l1 hlen]
  simp only [Option.bind_some, xShort.f, xHeavy.f, streamB_take]
  by_cases h : kB a0 = true ∧ streamB l1 = true
  · obtain ⟨hk, hs⟩ := h
    have ha : 1 ≤ a0 ∧ a0 ≤ 8 := by simpa [kB] using hk
    have hx := ((streamB_iff l1).mp hs).2
    have hl := ((streamB_iff l1).mp hs).1
    obtain ⟨D, hI⟩ := foldS_inv ha.1 l1
    have hkey : ∀ c ∈ foldS a0 l1, 0 ≤ c.f0 ∧ c.f0 < 16 := fun c hc => hx _ (hI.pos c hc).2.2
    have hlr := len_risen hI.nd hkey
    have hlen := hI.len
    rw [take_of_stream l1 hs]
    simp only [hk, hs, and_self, if_true, Option.bind_some]
    rw [Counters_f, hk]
    simp only [Option.bind_some, Bool.not_true, congoulaw03_SketchShort.j0]
    rw [if_neg (by simp), order_f a0 _ (risen_rise _) (fun c hc => hkey c ((mem_risen hI.nd hkey c).mp hc)) (by omega) _ (by omega)]
    simp only [Option.bind_some]
    rw [if_pos (by simp; omega)]
    exact Short_l a0 l1 ha hs 16 399 0 (by omega) (by omega)
  · rw [if_neg h, if_neg h]
    simp [congoulaw03_SketchShort.j0, awake_f]
end Go.Proofs.Ytdffhffhnjkcpaa.Pure
