/- What slices.MinFunc by number, then key, tells: the least counter. -/
import Derived.Test.YtdffhffhnjkcpaaXf82w83
import Derived.Test.YtdffhffhnjkcpaaS9
namespace Go.Proofs.Ytdffhffhnjkcpaa.X
open Go.RowKit Go.Proofs.YtdffhffhnjkcpaaW.PrintWords Go.Proofs.YtdffhffhnjkcpaaW.PrintLast Go.Proofs.YtdffhffhnjkcpaaW.PrintMore
set_option linter.unusedVariables false
set_option linter.unusedSimpArgs false

theorem wr64 {i : Int} (h0 : -9223372036854775808 ≤ i) (h : i ≤ 9223372036854775807) : wrap64 i = i := by
  unfold wrap64
  omega
theorem rd70_nat (l : List S70) (i : Nat) (h : i < l.length) : rd_T70 l (i : Int) = l[i] := by
  simp [rd_T70, List.getD_eq_getElem?_getD, List.getElem?_eq_getElem h]
def cmpU (a b : Int) : Int := if a < b then -1 else if a > b then 1 else 0
theorem cmp_f (a b : Int) : cmp_Compare_int.f a b = some (cmpU a b) := by
  unfold cmp_Compare_int.f cmp_isNaN_int.f cmpU
  simp
  split
  · rfl
  · split <;> rfl
theorem or_f (x y : Int) (k : Nat) (hk : 4 ≤ k) : cmp_Or_int.f k [x, y] = some (if x = 0 then y else x) := by
  obtain ⟨k, rfl⟩ : ∃ m, k = m + 4 := ⟨k - 4, by omega⟩
  unfold cmp_Or_int.f
  simp only [cmp_Or_int.l0]
  by_cases hx : x = 0
  · by_cases hy : y = 0
    · simp [rd, hx, hy, wr64]
    · simp [rd, hx, hy, wr64]
  · simp [rd, hx]
theorem rep_f (c d : S70) (k : Nat) (hk : 4 ≤ k) : ∃ r, sketch_list_replace_1.f k c.f0 c.f1 c.f2 d.f0 d.f1 d.f2 = some r ∧ (r < 0 ↔ lexlt c d = true) := by
  unfold sketch_list_replace_1.f
  rw [cmp_f, cmp_f]
  simp only [Option.bind_some]
  rw [or_f _ _ k hk]
  refine ⟨_, rfl, ?_⟩
  unfold lexlt cmpU
  rw [decide_eq_true_iff]
  by_cases h1 : c.f1 < d.f1
  · rw [if_pos h1]; simp [h1]
  · rw [if_neg h1]
    by_cases h2 : c.f1 > d.f1
    · rw [if_pos h2]; simp; omega
    · rw [if_neg h2, if_pos rfl]
      by_cases h3 : c.f0 < d.f0
      · rw [if_pos h3]; simp; omega
      · rw [if_neg h3]
        split <;> simp <;> omega
theorem min_l (l : List S70) (hl : l.length ≤ 100) (d : Nat) : ∀ (k i : Nat) (m : S70), i + d = l.length → d + 10 < k →
    sketch_Count_with83.l0 k l (i : Int) m.f0 m.f1 m.f2 = some (((l.drop i).foldl lesser m).f0, ((l.drop i).foldl lesser m).f1, ((l.drop i).foldl lesser m).f2) := by
  induction d with
  | zero =>
    intro k i m hi hk
    obtain ⟨k, rfl⟩ : ∃ m, k = m + 1 := ⟨k - 1, by omega⟩
    simp only [sketch_Count_with83.l0]
    rw [if_neg (by omega), List.drop_eq_nil_of_le (by omega)]
    rfl
  | succ d ih =>
    intro k i m hi hk
    obtain ⟨k, rfl⟩ : ∃ m, k = m + 1 := ⟨k - 1, by omega⟩
    have hlt : i < l.length := by omega
    have hd : l.drop i = l[i] :: l.drop (i + 1) := List.drop_eq_getElem_cons hlt
    obtain ⟨r, hr, hiff⟩ := rep_f l[i] m k (by omega)
    simp only [sketch_Count_with83.l0]
    rw [if_pos (by omega), if_pos (by omega), rd70_nat l i hlt, hr, hd, List.foldl_cons]
    simp only [Option.bind_some]
    rw [wr64 (i := (i : Int) + 1) (by omega) (by omega), show (i : Int) + 1 = ((i + 1 : Nat) : Int) by omega]
    by_cases h : r < 0
    · rw [if_pos h, ih k (i + 1) l[i] (by omega) (by omega)]
      have : lesser m l[i] = l[i] := by unfold lesser; rw [if_pos (hiff.mp h)]
      rw [this]
    · rw [if_neg h, ih k (i + 1) m (by omega) (by omega)]
      have : lesser m l[i] = m := by unfold lesser; rw [if_neg (fun q => h (hiff.mpr q))]
      rw [this]
theorem min_f (l : List S70) (h : l ≠ []) (hl : l.length ≤ 100) : sketch_Count_with83.f 200 l = some ((leastOf l).f0, (leastOf l).f1, (leastOf l).f2) := by
  cases l with
  | nil => exact absurd rfl h
  | cons c r =>
    unfold sketch_Count_with83.f
    have h0 : rd_T70 (c :: r) 0 = c := rfl
    rw [if_neg (by simp only [List.length_cons]; omega), if_pos (by simp only [List.length_cons]; omega), h0]
    have := min_l (c :: r) hl r.length 200 1 c (by simp; omega) (by simp at hl; omega)
    exact this
theorem idx_least {l : List S70} (hn : (keys l).Nodup) (h : l ≠ []) : ∃ i, ∃ hi : i < l.length, (match l.findIdx? (is (leastOf l).f0) with | some i => ((i : Nat) : Int) | none => -1) = (i : Int) ∧ l[i] = leastOf l ∧ ∀ n : S70, l.set i n = l.map fun d => if d.f0 = (leastOf l).f0 then n else d := by
  obtain ⟨hm, _⟩ := leastOf_mem h
  generalize leastOf l = m at *
  cases hf : l.findIdx? (is m.f0) with
  | none =>
    rw [List.findIdx?_eq_none_iff] at hf
    have := hf m hm
    simp [is] at this
  | some i =>
    rw [List.findIdx?_eq_some_iff_getElem] at hf
    obtain ⟨hi, h1, h2⟩ := hf
    have e := (is_iff _ _).mp h1
    have hp := List.pairwise_iff_getElem.mp hn
    have hinj : ∀ j (hj : j < l.length), l[j].f0 = m.f0 → j = i := by
      intro j hj ej
      rcases Nat.lt_trichotomy i j with q | q | q
      · have := hp i j (by simpa [keys] using hi) (by simpa [keys] using hj) q
        simp [keys] at this
        omega
      · exact q.symm
      · have := hp j i (by simpa [keys] using hj) (by simpa [keys] using hi) q
        simp [keys] at this
        omega
    refine ⟨i, hi, rfl, ?_, fun n => ?_⟩
    · obtain ⟨j, hj, rfl⟩ := List.getElem_of_mem hm
      have := hinj j hj rfl
      subst this
      rfl
    · apply List.ext_getElem
      · simp
      · intro j h3 h4
        have hj : j < l.length := by simpa using h3
        rw [List.getElem_set, List.getElem_map]
        by_cases hij : i = j
        · subst hij
          rw [if_pos rfl, if_pos e]
        · rw [if_neg hij, if_neg (fun q => hij (hinj j hj q).symm)]
end Go.Proofs.Ytdffhffhnjkcpaa.X
