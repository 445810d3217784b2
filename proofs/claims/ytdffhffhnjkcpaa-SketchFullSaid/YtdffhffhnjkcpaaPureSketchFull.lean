/- SketchFull: on the full list each key has at least as many as it comes, and that less Off at most; all sum to the length; a key that is not on it comes no more often than the least there. -/
import Derived.Test.YtdffhffhnjkcpaaXf12
import Derived.Test.YtdffhffhnjkcpaaS12
namespace Go.Proofs.Ytdffhffhnjkcpaa.Pure
set_option linter.unusedVariables false
set_option linter.unusedSimpArgs false
open Go.RowKit Go.Proofs.Ytdffhffhnjkcpaa.X Go.Proofs.YtdffhffhnjkcpaaW.PrintWords Go.Proofs.YtdffhffhnjkcpaaW.PrintLast Go.Proofs.YtdffhffhnjkcpaaW.PrintMore

theorem cnt_cntI (l : List Int) (y : Nat) : cnt l y = cntI l (y : Int) := rfl
theorem Full_l1 (a0 : Int) (l1 : List Int) (ha : 1 ≤ a0 ∧ a0 ≤ 8) (hs : streamB l1 = true) (m : Int) (hm : ∀ q : Int, q ≤ l1.length → (∀ c ∈ foldF a0 l1, q ≤ c.f1) → q ≤ m) (d : Nat) : ∀ (k i : Nat), i + d = 16 → 2 * d + 100 < k →
    congoulaw03_SketchFull.l1 k a0 l1 (risen (foldF a0 l1)) (l1.length : Int) m (i : Int) = some true := by
  have hl := ((streamB_iff l1).mp hs).1
  have hx := ((streamB_iff l1).mp hs).2
  have hI := foldF_inv ha.1 l1
  have hkey : ∀ c ∈ foldF a0 l1, 0 ≤ c.f0 ∧ c.f0 < 16 := fun c hc => hx _ (hI.mem c hc).2.2.2.2
  have hlr := len_risen hI.nd hkey
  have hlen := hI.len
  induction d with
  | zero =>
    intro k i hi hk
    obtain ⟨k, rfl⟩ : ∃ m, k = m + 1 := ⟨k - 1, by omega⟩
    simp only [congoulaw03_SketchFull.l1]
    rw [if_neg (by omega), if_pos trivial, awake_f]
    rfl
  | succ d ih =>
    intro k i hi hk
    obtain ⟨k, rfl⟩ : ∃ m, k = m + 2 := ⟨k - 2, by omega⟩
    have hi16 : i < 16 := by omega
    have hn := ih k (i + 1) (by omega) (by omega)
    have hkB : keyB (i : Int) = true := by simp [keyB]; omega
    have hcn := cnt_nonneg l1 (i : Int)
    have hcl := cnt_leI l1 (i : Int)
    simp only [congoulaw03_SketchFull.l1]
    rw [if_pos (by omega), list_f l1 (by omega), take_of_stream l1 hs]
    simp only [Option.bind_some, xOften.f, hs, hkB, and_self, if_true, Int.toNat_natCast]
    rw [of_f _ _ (by omega) (k + 1) (by omega)]
    simp only [Option.bind_some, if_true, congoulaw03_SketchFull.j3]
    rw [w64 (i := (i : Int) + 1) (by omega) (by omega), show (i : Int) + 1 = ((i + 1 : Nat) : Int) by omega, hn, cnt_cntI]
    have hgr := get_risen hI.nd hkey (i : Int)
    unfold ofU
    rw [hgr]
    cases hg : gt? (foldF a0 l1) (i : Int) with
    | none =>
      have hoff := hI.off (i : Int) (get_none hg)
      simp only
      rw [if_neg (by simp), if_neg (by omega)]
      by_cases hc : cntI l1 (i : Int) > 0
      · have h1 : ¬ ((foldF a0 l1).length : Int) < a0 := fun q => by have := hoff.2 q; omega
        have h2 := hm _ hcl hoff.1
        rw [if_pos hc, if_neg (by omega), if_neg (by omega)]
      · rw [if_neg hc]
    | some c =>
      obtain ⟨hc, hf⟩ := get_some hg
      obtain ⟨h1, h2, h3, h4, _⟩ := hI.mem c hc
      have h5 := hI.lt c hc
      rw [hf] at h3 h4
      simp only
      rw [if_neg (by simp; omega), if_pos (by omega), if_neg (by omega), w64 (i := c.f1 - c.f2) (by omega) (by omega), if_neg (by omega)]
theorem Full_l0 (a0 : Int) (l1 : List Int) (ha : 1 ≤ a0 ∧ a0 ≤ 8) (hs : streamB l1 = true) (d : Nat) : ∀ (k i : Nat) (m : Int), i + d = (risen (foldF a0 l1)).length → d + 200 < k → (∀ q : Int, q ≤ l1.length → (∀ c ∈ (risen (foldF a0 l1)).take i, q ≤ c.f1) → q ≤ m) →
    congoulaw03_SketchFull.l0 k a0 l1 (risen (foldF a0 l1)) (tot ((risen (foldF a0 l1)).take i)) m (risen (foldF a0 l1)) ((risen (foldF a0 l1)).length : Int) (i : Int) = some true := by
  have hl := ((streamB_iff l1).mp hs).1
  have hx := ((streamB_iff l1).mp hs).2
  have hI := foldF_inv ha.1 l1
  have hkey : ∀ c ∈ foldF a0 l1, 0 ≤ c.f0 ∧ c.f0 < 16 := fun c hc => hx _ (hI.mem c hc).2.2.2.2
  have hlr := len_risen hI.nd hkey
  have hlen := hI.len
  have hsm := hI.small
  have htot := hI.tot
  induction d with
  | zero =>
    intro k i m hi hk hm
    obtain ⟨k, rfl⟩ : ∃ m, k = m + 1 := ⟨k - 1, by omega⟩
    simp only [congoulaw03_SketchFull.l0]
    rw [if_neg (by omega)]
    rw [List.take_of_length_le (by omega)] at hm ⊢
    rw [tot_risen hI.nd hkey, htot]
    exact Full_l1 a0 l1 ha hs m (fun q h1 h2 => hm q h1 (fun c hc => h2 c ((mem_risen hI.nd hkey c).mp hc))) 16 k 0 (by omega) (by omega)
  | succ d ih =>
    intro k i m hi hk hm
    obtain ⟨k, rfl⟩ : ∃ m, k = m + 1 := ⟨k - 1, by omega⟩
    have hlt : i < (risen (foldF a0 l1)).length := by omega
    have hts : (risen (foldF a0 l1)).take (i + 1) = (risen (foldF a0 l1)).take i ++ [(risen (foldF a0 l1))[i]] := by
      rw [List.take_succ_eq_append_getElem hlt]
    have hmem : (risen (foldF a0 l1))[i] ∈ risen (foldF a0 l1) := List.getElem_mem hlt
    have hb := hsm _ ((mem_risen hI.nd hkey _).mp hmem)
    have hT : ∀ j, 0 ≤ tot ((risen (foldF a0 l1)).take j) ∧ tot ((risen (foldF a0 l1)).take j) ≤ 40 := by
      intro j
      have e := tot_append ((risen (foldF a0 l1)).take j) ((risen (foldF a0 l1)).drop j)
      rw [List.take_append_drop, tot_risen hI.nd hkey, htot] at e
      have p1 := tot_nonneg (l := (risen (foldF a0 l1)).take j) (fun c hc => by have := hsm c ((mem_risen hI.nd hkey c).mp (List.mem_of_mem_take hc)); omega)
      have p2 := tot_nonneg (l := (risen (foldF a0 l1)).drop j) (fun c hc => by have := hsm c ((mem_risen hI.nd hkey c).mp (List.mem_of_mem_drop hc)); omega)
      omega
    have hTi := hT i
    simp only [congoulaw03_SketchFull.l0]
    rw [if_pos (by omega), if_pos (by omega), if_pos (by omega), rdT70_nat _ i hlt]
    have e1 : tot ((risen (foldF a0 l1)).take i) + ((risen (foldF a0 l1))[i]).f1 = tot ((risen (foldF a0 l1)).take (i + 1)) := by
      rw [hts, tot_append]
      simp [tot]
    rw [e1, w64 (i := tot ((risen (foldF a0 l1)).take (i + 1))) (by have := hT (i + 1); omega) (by have := hT (i + 1); omega), w64 (i := (i : Int) + 1) (by omega) (by omega), show (i : Int) + 1 = ((i + 1 : Nat) : Int) by omega]
    refine ih k (i + 1) _ (by omega) (by omega) (fun q h1 h2 => ?_)
    rw [hts] at h2
    have h3 := hm q h1 (fun c hc => h2 c (List.mem_append_left _ hc))
    have h4 := h2 _ (List.mem_append_right _ (List.mem_singleton.mpr rfl))
    unfold mn
    split <;> omega
theorem SketchFull : congoulaw03_SketchFull.Pure := by
  intro a0 l1 _ _ hm _
  have hlen : l1.length ≤ 17592186044416 := by omega
  refine ⟨400, ?_⟩
  unfold congoulaw03_SketchFull.f
  rw [list_f l1 hlen]
  simp only [Option.bind_some, xFull.f, streamB_take]
  by_cases h : kB a0 = true ∧ streamB l1 = true
  · obtain ⟨hk, hs⟩ := h
    have ha : 1 ≤ a0 ∧ a0 ≤ 8 := by simpa [kB] using hk
    have hx := ((streamB_iff l1).mp hs).2
    have hl := ((streamB_iff l1).mp hs).1
    have hI := foldF_inv ha.1 l1
    have hkey : ∀ c ∈ foldF a0 l1, 0 ≤ c.f0 ∧ c.f0 < 16 := fun c hc => hx _ (hI.mem c hc).2.2.2.2
    have hlr := len_risen hI.nd hkey
    have hlen := hI.len
    rw [take_of_stream l1 hs]
    simp only [hk, hs, and_self, if_true, Option.bind_some]
    rw [Counters_f, hk]
    simp only [Option.bind_some, Bool.not_true, congoulaw03_SketchFull.j0]
    rw [if_neg (by simp), order_f a0 _ (risen_rise _) (fun c hc => hkey c ((mem_risen hI.nd hkey c).mp hc)) (by omega) _ (by omega)]
    simp only [Option.bind_some]
    rw [if_pos (by simp; omega)]
    exact Full_l0 a0 l1 ha hs _ 399 0 _ (Nat.zero_add _) (by omega) (fun q h1 _ => h1)
  · rw [if_neg h]
    simp [congoulaw03_SketchFull.j0, awake_f]
end Go.Proofs.Ytdffhffhnjkcpaa.Pure
