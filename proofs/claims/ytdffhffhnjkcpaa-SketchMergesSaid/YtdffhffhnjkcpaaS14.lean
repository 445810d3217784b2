/- What the merge of two lists of counters holds, as plain laws. -/
import Derived.Test.YtdffhffhnjkcpaaE45
import Derived.Test.YtdffhffhnjkcpaaS12
import Derived.Test.YtdffhffhnjkcpaaXG2a
namespace Go.Proofs.Ytdffhffhnjkcpaa.X
open Go.RowKit Go.Proofs.YtdffhffhnjkcpaaW.PrintWords
set_option linter.unusedVariables false
set_option linter.unusedSimpArgs false

/-! ### A row that does not fall: how many lie above and how many not below its i-th -/
theorem sorted_gt {S : List Int} (h : S.Pairwise (· ≤ ·)) (i : Nat) (hi : i < S.length) : S.countP (fun x => decide (S[i] < x)) ≤ S.length - 1 - i := by
  have e : S = S.take (i + 1) ++ S.drop (i + 1) := (List.take_append_drop _ _).symm
  generalize hv : S[i] = v
  rw [e, List.countP_append]
  have h0 : (S.take (i + 1)).countP (fun x => decide (v < x)) = 0 := by
    rw [List.countP_eq_zero]
    intro x hx
    obtain ⟨j, hj, rfl⟩ := List.mem_iff_getElem.mp hx
    rw [List.length_take] at hj
    rw [List.getElem_take]
    have : S[j] ≤ S[i] := by
      by_cases he : j = i
      · subst he; exact Int.le_refl _
      · exact List.pairwise_iff_getElem.mp h j i (by omega) hi (by omega)
    simp
    omega
  have h1 := List.countP_le_length (p := fun x => decide (v < x)) (l := S.drop (i + 1))
  rw [List.length_drop] at h1
  rw [h0, ← e]
  omega
theorem sorted_ge {S : List Int} (h : S.Pairwise (· ≤ ·)) (i : Nat) (hi : i < S.length) : S.length - i ≤ S.countP (fun x => decide (S[i] ≤ x)) := by
  have e : S = S.take i ++ S.drop i := (List.take_append_drop _ _).symm
  generalize hv : S[i] = v
  rw [e, List.countP_append]
  have h0 : (S.drop i).countP (fun x => decide (v ≤ x)) = (S.drop i).length := by
    rw [List.countP_eq_length]
    intro x hx
    obtain ⟨j, hj, rfl⟩ := List.mem_iff_getElem.mp hx
    rw [List.length_drop] at hj
    rw [List.getElem_drop]
    have : S[i] ≤ S[i + j] := by
      by_cases he : j = 0
      · subst he; exact Int.le_refl _
      · exact List.pairwise_iff_getElem.mp h i (i + j) hi (by omega) (by omega)
    simp
    omega
  rw [h0, List.length_drop, ← e]
  omega
theorem countP_sum {S : List Int} (h : ∀ x ∈ S, 0 ≤ x) (v : Int) (hv : 0 ≤ v) : (S.countP (fun x => decide (v ≤ x)) : Int) * v ≤ S.sum := by
  induction S with
  | nil => simp
  | cons x r ih =>
    have := ih (fun y hy => h y (List.mem_cons_of_mem _ hy))
    have hx := h x (by simp)
    rw [List.countP_cons, List.sum_cons]
    by_cases hp : v ≤ x
    · simp only [hp, decide_true, if_true]
      have : ((r.countP (fun x => decide (v ≤ x)) + 1 : Nat) : Int) * v = (r.countP (fun x => decide (v ≤ x)) : Int) * v + v := by
        rw [Int.natCast_add, Int.add_mul]; simp
      omega
    · simp only [hp, decide_false]
      simp
      omega
theorem sumL_sorted (L : List S70) : ((sumL L).mergeSort fun x y => decide (x ≤ y)).Pairwise (· ≤ ·) := by
  have := List.pairwise_mergeSort (le := fun x y : Int => decide (x ≤ y)) (by intro a b c; simp; omega) (by intro a b; simp; omega) (sumL L)
  exact this.imp (fun h => by simpa using h)
theorem less_gt {k : Int} (h1 : 1 ≤ k) (h8 : k ≤ 8) (L : List S70) : ((sumL L).countP (fun x => decide (lessU k L < x)) : Int) ≤ k := by
  have hl : ((sumL L).mergeSort fun x y => decide (x ≤ y)).length = 16 := by rw [List.length_mergeSort, sumL_len]
  have hi : (15 - k).toNat < ((sumL L).mergeSort fun x y => decide (x ≤ y)).length := by omega
  have e : lessU k L = ((sumL L).mergeSort fun x y => decide (x ≤ y))[(15 - k).toNat] := by
    unfold lessU rd
    rw [List.getD_eq_getElem?_getD, List.getElem?_eq_getElem hi]
    rfl
  have h := sorted_gt (sumL_sorted L) _ hi
  rw [(List.mergeSort_perm _ _).countP_eq, ← e] at h
  omega
theorem less_ge {k : Int} (h1 : 1 ≤ k) (h8 : k ≤ 8) (L : List S70) : k + 1 ≤ ((sumL L).countP (fun x => decide (lessU k L ≤ x)) : Int) := by
  have hl : ((sumL L).mergeSort fun x y => decide (x ≤ y)).length = 16 := by rw [List.length_mergeSort, sumL_len]
  have hi : (15 - k).toNat < ((sumL L).mergeSort fun x y => decide (x ≤ y)).length := by omega
  have e : lessU k L = ((sumL L).mergeSort fun x y => decide (x ≤ y))[(15 - k).toNat] := by
    unfold lessU rd
    rw [List.getD_eq_getElem?_getD, List.getElem?_eq_getElem hi]
    rfl
  have h := sorted_ge (sumL_sorted L) _ hi
  rw [(List.mergeSort_perm _ _).countP_eq, ← e] at h
  omega
theorem countP_sumL (L : List S70) (n : Int) : (sumL L).countP (fun x => decide (n ≤ x)) = cntTo L n 16 := by
  unfold sumL cntTo
  rw [List.countP_map, List.countP_eq_length_filter]
  rfl
theorem sumL_sum (L : List S70) (hk : ∀ c ∈ L, 0 ≤ c.f0 ∧ c.f0 < 16) : (sumL L).sum = tot L := by
  induction L with
  | nil => rfl
  | cons c l ih =>
    rw [tot_cons, ← ih (fun d hd => hk d (List.mem_cons_of_mem _ hd))]
    have hc := hk c (by simp)
    have e : ∀ y : Nat, sumK (c :: l) y = (if c.f0 = (y : Int) then c.f1 else 0) + sumK l y := fun y => by simp [sumK]
    generalize hq : c.f0 = q at *
    obtain ⟨m, rfl⟩ : ∃ m : Nat, q = m := ⟨q.toNat, by omega⟩
    have hm : m < 16 := by omega
    simp only [sumL, show List.range 16 = [0,1,2,3,4,5,6,7,8,9,10,11,12,13,14,15] from rfl, List.map_cons, List.map_nil, List.sum_cons, List.sum_nil, e]
    have : m = 0 ∨ m = 1 ∨ m = 2 ∨ m = 3 ∨ m = 4 ∨ m = 5 ∨ m = 6 ∨ m = 7 ∨ m = 8 ∨ m = 9 ∨ m = 10 ∨ m = 11 ∨ m = 12 ∨ m = 13 ∨ m = 14 ∨ m = 15 := by omega
    rcases this with rfl | rfl | rfl | rfl | rfl | rfl | rfl | rfl | rfl | rfl | rfl | rfl | rfl | rfl | rfl | rfl <;> simp <;> omega
theorem less_tot {k : Int} (h1 : 1 ≤ k) (h8 : k ≤ 8) (L : List S70) (hk : ∀ c ∈ L, 0 ≤ c.f0 ∧ c.f0 < 16) (hn : ∀ c ∈ L, 1 ≤ c.f1 ∧ c.f1 ≤ 40) : lessU k L * (k + 1) ≤ tot L := by
  have hb := (lessU_bound h1 h8 hn).1
  have h := countP_sum (S := sumL L) (fun x hx => by
    obtain ⟨y, _, rfl⟩ := List.mem_map.mp hx
    exact (sumK_bound hn y).1) (lessU k L) hb
  rw [sumL_sum L hk] at h
  have h2 : (k + 1) * lessU k L ≤ ((sumL L).countP (fun x => decide (lessU k L ≤ x)) : Int) * lessU k L := Int.mul_le_mul_of_nonneg_right (less_ge h1 h8 L) hb
  rw [Int.mul_comm]
  omega
/-! ### The sums of lists whose keys are apart -/
theorem sumK_val {l : List S70} (hn : (keys l).Nodup) (y : Nat) : sumK l y = val l (y : Int) := by
  induction l with
  | nil => rfl
  | cons c l ih =>
    have hn2 : c.f0 ∉ keys l ∧ (keys l).Nodup := by simpa [keys] using hn
    have e : sumK (c :: l) y = (if c.f0 = (y : Int) then c.f1 else 0) + sumK l y := by simp [sumK]
    rw [e, ih hn2.2]
    by_cases h : c.f0 = (y : Int)
    · have h0 : val l (y : Int) = 0 := val_none (by rw [hasK_iff, ← h]; exact hn2.1)
      rw [h0, if_pos h]
      simp [val, gt?, is, h]
    · rw [if_neg h]
      simp [val, gt?, is, h]
theorem sumK_append (a b : List S70) (y : Nat) : sumK (a ++ b) y = sumK a y + sumK b y := by simp [sumK, List.sum_append]
theorem sumK_comm (a b : List S70) (y : Nat) : sumK (a ++ b) y = sumK (b ++ a) y := by rw [sumK_append, sumK_append, Int.add_comm]
theorem sumL_comm (a b : List S70) : sumL (a ++ b) = sumL (b ++ a) := by
  unfold sumL
  exact List.map_congr_left fun y _ => sumK_comm a b y
theorem lessU_comm (k : Int) (a b : List S70) : lessU k (a ++ b) = lessU k (b ++ a) := by unfold lessU; rw [sumL_comm]
theorem mergeU_comm (k : Int) (a b : List S70) : mergeU k (a ++ b) = mergeU k (b ++ a) := by
  unfold mergeU mergeTo
  rw [lessU_comm]
  congr 1
  funext y
  rw [sumK_comm]
/-! ### The merged list -/
theorem mem_mergeU {k : Int} {L : List S70} {c : S70} : c ∈ mergeU k L ↔ ∃ y : Nat, y < 16 ∧ lessU k L < sumK L y ∧ c = ⟨(y : Int), sumK L y - lessU k L, 0⟩ := by
  unfold mergeU mergeTo
  rw [List.mem_filterMap]
  constructor
  · rintro ⟨y, hy, h⟩
    split at h
    · rename_i hl
      exact ⟨y, List.mem_range.mp hy, hl, (Option.some.inj h).symm⟩
    · cases h
  · rintro ⟨y, hy, hl, rfl⟩
    exact ⟨y, List.mem_range.mpr hy, by rw [if_pos hl]⟩
theorem mergeU_rise (k : Int) (L : List S70) : (mergeU k L).Pairwise (fun c d => c.f0 < d.f0) := by
  have h := filterMap_rise (f := fun y : Nat => if lessU k L < sumK L y then some (⟨(y : Int), sumK L y - lessU k L, 0⟩ : S70) else none) (fun y c h => by
    split at h
    · rw [← Option.some.inj h]
    · cases h) 16 0
  unfold mergeU mergeTo
  rw [List.range_eq_range']
  exact h.1
theorem mergeU_len {k : Int} (h1 : 1 ≤ k) (h8 : k ≤ 8) (L : List S70) : ((mergeU k L).length : Int) ≤ k := by
  have h := less_gt h1 h8 L
  have e : (mergeU k L).length = (sumL L).countP (fun x => decide (lessU k L < x)) := by
    unfold mergeU mergeTo sumL
    rw [List.countP_map]
    generalize List.range 16 = r
    induction r with
    | nil => rfl
    | cons y r ih =>
      rw [List.filterMap_cons, List.countP_cons]
      by_cases hp : lessU k L < sumK L y
      · simp only [hp, if_true, Function.comp, decide_true, List.length_cons]
        rw [ih]
      · simp only [hp, if_false, Function.comp, decide_false]
        rw [ih]; rfl
  rw [e]
  exact h
theorem mergeU_nodup (k : Int) (L : List S70) : (keys (mergeU k L)).Nodup := by
  unfold keys List.Nodup
  rw [List.pairwise_map]
  exact (mergeU_rise k L).imp (fun h => by omega)
theorem val_mergeU (k : Int) (L : List S70) (y : Nat) (hy : y < 16) : val (mergeU k L) (y : Int) = if lessU k L < sumK L y then sumK L y - lessU k L else 0 := by
  by_cases h : lessU k L < sumK L y
  · rw [if_pos h]
    have hm := mem_mergeU.mpr ⟨y, hy, h, rfl⟩
    have := get_of_mem (mergeU_nodup k L) hm
    unfold val
    simp only at this
    rw [this]
    rfl
  · rw [if_neg h]
    refine val_none ?_
    rw [hasK_iff]
    intro hm
    obtain ⟨c, hc, e⟩ := List.mem_map.mp hm
    obtain ⟨z, hz, hl, rfl⟩ := mem_mergeU.mp hc
    have : z = y := by simp at e; omega
    subst this
    exact h hl
/-! ### The reference's less is the same -/
theorem lessTo_of {k : Int} {L : List S70} {v : Int} (hv : 0 ≤ v) (hin : v = 0 ∨ k < (cntTo L v 16 : Int)) (hout : ∀ n : Int, v < n → ¬ k < (cntTo L n 16 : Int)) : ∀ m : Nat, v ≤ m → lessTo k L m = v := by
  intro m
  induction m with
  | zero => intro h; rw [lessTo]; omega
  | succ m ih =>
    intro h
    rw [lessTo_succ]
    by_cases e : v = (m : Int) + 1
    · rcases hin with h0 | h0
      · omega
      · rw [← e, if_pos h0]
    · rw [if_neg (hout _ (by omega))]
      exact ih (by omega)
theorem less_same {k : Int} (h1 : 1 ≤ k) (h8 : k ≤ 8) {L : List S70} (hn : ∀ y, y < 16 → sumK L y ≤ 80) (hnum : ∀ c ∈ L, 1 ≤ c.f1 ∧ c.f1 ≤ 40) : lessTo k L 80 = lessU k L := by
  have hb := (lessU_bound h1 h8 hnum).1
  have h80 : lessU k L ≤ 80 := by
    obtain ⟨y, hy, e⟩ := List.mem_map.mp (lessU_mem h1 h8 L)
    rw [← e]
    exact hn y (List.mem_range.mp hy)
  refine lessTo_of hb (.inr ?_) (fun n hnl hk => ?_) 80 (by omega)
  · have := less_ge h1 h8 L
    rw [countP_sumL] at this
    omega
  · have h2 := less_gt h1 h8 L
    rw [← countP_sumL] at hk
    have : (sumL L).countP (fun x => decide (n ≤ x)) ≤ (sumL L).countP (fun x => decide (lessU k L < x)) := by
      refine List.countP_mono_left fun x _ h => ?_
      simp at h ⊢
      omega
    omega
theorem listB_of {k : Int} {l : List S70} (hk : kB k = true) (hl : (l.length : Int) ≤ k) (hr : l.Pairwise (fun c d => c.f0 < d.f0)) (hkey : ∀ c ∈ l, 0 ≤ c.f0 ∧ c.f0 < 16) (hnum : ∀ c ∈ l, 1 ≤ c.f1 ∧ c.f1 ≤ 40) (h0 : ∀ c ∈ l, c.f2 = 0) : listB k l = true := by
  simp only [listB, Bool.and_eq_true, decide_eq_true_eq, List.all_eq_true, List.mem_range]
  refine ⟨⟨hk, hl⟩, fun j hj => ?_⟩
  have hm := List.getElem_mem hj
  have a1 := hkey _ hm
  have a2 := hnum _ hm
  have a3 := h0 _ hm
  simp only [goodC, rd70m l j hj, Bool.and_eq_true, Bool.or_eq_true, decide_eq_true_eq, keyB]
  refine ⟨⟨⟨⟨a1, a2.1⟩, a2.2⟩, a3⟩, ?_⟩
  by_cases e : j = 0
  · exact .inl e
  · refine .inr ?_
    have ej : ((j : Int) - 1) = ((j - 1 : Nat) : Int) := by omega
    rw [ej, rd70m l (j - 1) (by omega)]
    exact List.pairwise_iff_getElem.mp hr (j - 1) j (by omega) hj (by omega)
theorem eq70_l (a : List S70) (hl : a.length ≤ 1000) (d : Nat) : ∀ (k i : Nat), i + d = a.length → d < k → sketch_Count_53.l0 k a a (a.length : Int) (i : Int) = some true := by
  induction d with
  | zero =>
    intro k i hi hk
    obtain ⟨k, rfl⟩ : ∃ m, k = m + 1 := ⟨k - 1, by omega⟩
    simp only [sketch_Count_53.l0]
    rw [if_neg (by omega)]
  | succ d ih =>
    intro k i hi hk
    obtain ⟨k, rfl⟩ : ∃ m, k = m + 1 := ⟨k - 1, by omega⟩
    simp only [sketch_Count_53.l0]
    rw [if_pos (by omega), if_pos (by omega), if_pos (by omega), if_pos (by omega), if_neg (by simp), w64 (by omega) (by omega), show (i : Int) + 1 = ((i + 1 : Nat) : Int) by omega]
    exact ih k (i + 1) (by omega) (by omega)
theorem eq70_f (a : List S70) (hl : a.length ≤ 1000) (k : Nat) (hk : a.length < k) : sketch_Count_53.f k a a = some true := by
  unfold sketch_Count_53.f
  rw [if_pos rfl]
  exact eq70_l a hl a.length k 0 (by omega) hk
theorem clone70_f (l : List S70) (h : l.length ≤ 1000) : sketch_Count_52.f l = some l := by
  simp [sketch_Count_52.f]
  omega
end Go.Proofs.Ytdffhffhnjkcpaa.X
