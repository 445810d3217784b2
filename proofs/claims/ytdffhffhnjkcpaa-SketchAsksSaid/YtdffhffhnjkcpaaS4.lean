/- What Table, the reference's Table and Size, and equal compute, as plain functions: a row counts how often each place is hit. -/
import Derived.Test.YtdffhffhnjkcpaaS2
import Derived.Test.YtdffhffhnjkcpaaXf30
import Derived.Test.YtdffhffhnjkcpaaXG1a
import Derived.Test.YtdffhffhnjkcpaaXG3a
import Derived.Test.YtdffhffhnjkcpaaXG2a
namespace Go.Proofs.Ytdffhffhnjkcpaa.X
open Go.RowKit Go.Proofs.YtdffhffhnjkcpaaW.PrintWords Go.Proofs.YtdffhffhnjkcpaaW.PrintLast Go.Proofs.YtdffhffhnjkcpaaW.PrintMore
set_option linter.unusedVariables false
set_option linter.unusedSimpArgs false

def idxU (r w key : Int) : Int := (key * (r + 1) + key / (r + 2)) % w
theorem idxU_range (r w key : Int) (hw : 1 ≤ w) : 0 ≤ idxU r w key ∧ idxU r w key < w :=
  ⟨Int.emod_nonneg _ (by omega), Int.emod_lt_of_pos _ (by omega)⟩
theorem idx_key (r key : Int) (hr : 0 ≤ r) (hr3 : r ≤ 3) (hk : 0 ≤ key) (hk15 : key ≤ 15) : wrap64 (wrap64 (key * wrap64 (r + 1)) + wrap64 (Int.tdiv key (wrap64 (r + 2)))) = key * (r + 1) + key / (r + 2) ∧ 0 ≤ key * (r + 1) + key / (r + 2) := by
  have h : r = 0 ∨ r = 1 ∨ r = 2 ∨ r = 3 := by omega
  rw [w64 (i := r + 1) (by omega) (by omega), w64 (i := r + 2) (by omega) (by omega), Int.tdiv_eq_ediv_of_nonneg hk]
  rcases h with rfl | rfl | rfl | rfl
  · rw [w64 (i := key * (0 + 1)) (by omega) (by omega), w64 (i := key / (0 + 2)) (by omega) (by omega), w64 (by omega) (by omega)]
    exact ⟨rfl, by omega⟩
  · rw [w64 (i := key * (1 + 1)) (by omega) (by omega), w64 (i := key / (1 + 2)) (by omega) (by omega), w64 (by omega) (by omega)]
    exact ⟨rfl, by omega⟩
  · rw [w64 (i := key * (2 + 1)) (by omega) (by omega), w64 (i := key / (2 + 2)) (by omega) (by omega), w64 (by omega) (by omega)]
    exact ⟨rfl, by omega⟩
  · rw [w64 (i := key * (3 + 1)) (by omega) (by omega), w64 (i := key / (3 + 2)) (by omega) (by omega), w64 (by omega) (by omega)]
    exact ⟨rfl, by omega⟩
theorem index_f (r w key : Int) (hr : 0 ≤ r) (hr3 : r ≤ 3) (hw : 1 ≤ w) (hk : 0 ≤ key) (hk15 : key ≤ 15) : sketch_index.f r w key = some (idxU r w key) := by
  obtain ⟨h1, h2⟩ := idx_key r key hr hr3 hk hk15
  unfold sketch_index.f
  rw [h1, Int.tmod_eq_emod_of_nonneg h2, w64 (i := r + 2) (by omega) (by omega), if_neg (by omega), if_neg (by omega)]
  rfl
theorem RIndex_f (r w key : Int) (hr : 0 ≤ r) (hr3 : r ≤ 3) (hw : 1 ≤ w) (hk : 0 ≤ key) (hk15 : key ≤ 15) : congouref03_Index.f r w key = some (idxU r w key) := by
  obtain ⟨h1, h2⟩ := idx_key r key hr hr3 hk hk15
  unfold congouref03_Index.f
  rw [h1, Int.tmod_eq_emod_of_nonneg h2, w64 (i := r + 2) (by omega) (by omega), if_neg (by omega), if_neg (by omega)]
  rfl
/-- A row of a table: how often each of its places is hit. -/
def hit (r w : Int) (s : List Int) (c : Nat) : Int := (s.countP (fun x => idxU r w x == (c : Int)) : Nat)
def rowC (r w : Int) (s : List Int) : List Int := (List.range w.toNat).map (hit r w s)
theorem rowC_len (r w : Int) (s : List Int) : (rowC r w s).length = w.toNat := by simp [rowC]
theorem rowC_at (r w : Int) (s : List Int) (c : Nat) (h : c < w.toNat) : (rowC r w s)[c]? = some (hit r w s c) := by
  simp [rowC, List.getElem?_range h]
theorem hit_le (r w : Int) (s : List Int) (c : Nat) : 0 ≤ hit r w s c ∧ hit r w s c ≤ s.length := by
  have := List.countP_le_length (p := fun x : Int => idxU r w x == (c : Int)) (l := s)
  unfold hit
  omega
theorem hit_snoc (r w : Int) (s : List Int) (x : Int) (c : Nat) : hit r w (s ++ [x]) c = hit r w s c + if idxU r w x = (c : Int) then 1 else 0 := by
  unfold hit
  rw [List.countP_append]
  by_cases h : idxU r w x = (c : Int) <;> simp [List.countP_cons, h]
theorem rowC_nil (r w : Int) : rowC r w [] = List.replicate w.toNat 0 := by
  apply List.ext_getElem?
  intro i
  by_cases h : i < w.toNat
  · rw [rowC_at _ _ _ _ h, List.getElem?_replicate, if_pos h]
    simp [hit]
  · rw [List.getElem?_eq_none (by rw [rowC_len]; omega), List.getElem?_eq_none (by simp; omega)]
theorem rd_rowC (r w : Int) (s : List Int) (c : Int) (h0 : 0 ≤ c) (h : c < w) : rd (rowC r w s) c = hit r w s c.toNat := by
  simp [rd, List.getD_eq_getElem?_getD, rowC_at r w s c.toNat (by omega)]
theorem rowC_set (r w : Int) (s : List Int) (x : Int) (hw : 1 ≤ w) :
    (rowC r w s).set (idxU r w x).toNat (hit r w s (idxU r w x).toNat + 1) = rowC r w (s ++ [x]) := by
  obtain ⟨h0, h1⟩ := idxU_range r w x hw
  apply List.ext_getElem?
  intro i
  by_cases hi : i < w.toNat
  · rw [rowC_at _ _ _ _ hi, hit_snoc, List.getElem?_set]
    by_cases e : (idxU r w x).toNat = i
    · rw [if_pos e, if_pos (by rw [rowC_len]; omega), if_pos (by omega), e]
    · rw [if_neg e, rowC_at _ _ _ _ hi, if_neg (by omega), Int.add_zero]
  · rw [List.getElem?_eq_none (by rw [List.length_set, rowC_len]; omega), List.getElem?_eq_none (by rw [rowC_len]; omega)]
def tabC (w : Int) (s : List Int) (n : Nat) : List (List Int) := (List.range n).map fun r : Nat => rowC (r : Int) w s
theorem tabC_succ (w : Int) (s : List Int) (n : Nat) : tabC w s (n + 1) = tabC w s n ++ [rowC (n : Int) w s] := by
  simp [tabC, List.range_succ]
theorem tabC_len (w : Int) (s : List Int) (n : Nat) : (tabC w s n).length = n := by simp [tabC]
def sizeB (d w : Int) : Bool := decide (1 ≤ d ∧ d ≤ 4 ∧ 1 ≤ w ∧ w ≤ 8)
theorem Size_f (d w : Int) : congouref03_Size.f d w = some (sizeB d w) := by
  unfold congouref03_Size.f sizeB
  by_cases h1 : d ≥ 1
  · by_cases h2 : d ≤ 4
    · by_cases h3 : w ≥ 1
      · rw [if_pos h1, if_pos h2, if_pos h3, Option.some.injEq, decide_eq_decide]
        omega
      · rw [if_pos h1, if_pos h2, if_neg h3, Option.some.injEq, eq_comm, decide_eq_false_iff_not]
        omega
    · rw [if_pos h1, if_neg h2, Option.some.injEq, eq_comm, decide_eq_false_iff_not]
      omega
  · rw [if_neg h1, Option.some.injEq, eq_comm, decide_eq_false_iff_not]
    omega

theorem Table_l1 (d w : Int) (s : List Int) (hd : d ≤ 4) (hw : 1 ≤ w) (hs : s.length ≤ 40) (hx : ∀ x ∈ s, 0 ≤ x ∧ x < 16) (r : Nat) (hr : (r : Int) < d) (t : List (List Int)) (m : Nat) : ∀ (k i : Nat), i + m = s.length →
    sketch_Table.l1 (k + m + 1) w s t (r : Int) (rowC r w (s.take i)) d (r : Int) s (s.length : Int) (i : Int) = if t.length < 5864062014805 then sketch_Table.l0 k w s (t ++ [rowC r w s]) d (wrap64 ((r : Int) + 1)) else none := by
  induction m with
  | zero =>
    intro k i hi
    simp only [sketch_Table.l1]
    rw [if_neg (by omega), List.take_of_length_le (by omega)]
  | succ m ih =>
    intro k i hi
    have hmem : rd s (i : Int) ∈ s := by rw [rd_nat s i (by omega)]; exact List.getElem_mem _
    have hb := hx _ hmem
    obtain ⟨h0, h1⟩ := idxU_range r w (rd s (i : Int)) hw
    have hh := hit_le r w (s.take i) (idxU r w (rd s (i : Int))).toNat
    rw [List.length_take] at hh
    rw [show k + (m + 1) + 1 = (k + m + 1) + 1 by omega]
    simp only [sketch_Table.l1]
    rw [if_pos (by omega), if_pos (by omega), if_pos (by omega), index_f _ _ _ (by omega) (by omega) hw hb.1 (by omega)]
    simp only [Option.bind_some]
    rw [if_pos h0, if_pos (by rw [rowC_len]; omega), rd_rowC _ _ _ _ h0 h1, w64 (i := hit _ _ _ _ + 1) (by omega) (by omega), rowC_set _ _ _ _ hw, ← take_snoc_rd s i (by omega), w64 (i := (i : Int) + 1) (by omega) (by omega)]
    exact ih k (i + 1) (by omega)
theorem Table_l0 (d w : Int) (s : List Int) (hd : d ≤ 4) (hw : 1 ≤ w) (hw8 : w ≤ 8) (hs : s.length ≤ 40) (hx : ∀ x ∈ s, 0 ≤ x ∧ x < 16) (m : Nat) : ∀ (k r : Nat), (r : Int) + m = d → m * (s.length + 2) < k →
    sketch_Table.l0 k w s (tabC w s r) d (r : Int) = some (tabC w s d.toNat, 0) := by
  induction m with
  | zero =>
    intro k r hr hk
    obtain ⟨k, rfl⟩ : ∃ m, k = m + 1 := ⟨k - 1, by omega⟩
    simp only [sketch_Table.l0]
    rw [if_neg (by omega), show d.toNat = r by omega]
  | succ m ih =>
    intro k r hr hk
    rw [Nat.succ_mul] at hk
    obtain ⟨k, rfl⟩ : ∃ q, k = (q + s.length + 1) + 1 := ⟨k - s.length - 2, by omega⟩
    simp only [sketch_Table.l0]
    rw [if_pos (by omega), if_pos (by omega), if_pos (by omega), ← rowC_nil (r : Int) w]
    have := Table_l1 d w s hd hw hs hx r (by omega) (tabC w s r) s.length k 0 (by omega)
    rw [List.take_zero] at this
    rw [show ((0 : Nat) : Int) = 0 from rfl] at this
    rw [this, if_pos (by rw [tabC_len]; omega), ← tabC_succ, w64 (by omega) (by omega)]
    exact ih k (r + 1) (by omega) (by omega)
theorem Table_f (d w : Int) (s : List Int) (k : Nat) (hk : 4 * (s.length + 2) + 2 < k) :
    sketch_Table.f k d w s = some (if sizeB d w = true ∧ streamB s = true then (tabC w s d.toNat, 0) else ([], 2)) := by
  obtain ⟨k, rfl⟩ : ∃ m, k = m + 1 := ⟨k - 1, by omega⟩
  have hj : sketch_Table.j0 (k + 1) d w s true = some ([], 2) := by simp [sketch_Table.j0]
  unfold sketch_Table.f
  by_cases h1 : d < 1
  · rw [if_pos h1, hj, if_neg (by simp [sizeB]; omega)]
  by_cases h2 : d > 4
  · rw [if_neg h1, if_pos h2, hj, if_neg (by simp [sizeB]; omega)]
  by_cases h3 : w < 1
  · rw [if_neg h1, if_neg h2, if_pos h3, hj, if_neg (by simp [sizeB]; omega)]
  by_cases h4 : w > 8
  · rw [if_neg h1, if_neg h2, if_neg h3, if_pos h4, hj, if_neg (by simp [sizeB]; omega)]
  rw [if_neg h1, if_neg h2, if_neg h3, if_neg h4]
  have hsz : sizeB d w = true := by simp [sizeB]; omega
  simp only [xStream.f, Option.bind_some, hsz, true_and]
  cases hs : streamB s with
  | false => simpa using hj
  | true =>
    obtain ⟨hl, hx⟩ := (streamB_iff s).mp hs
    have := Table_l0 d w s (by omega) (by omega) (by omega) hl hx d.toNat k 0 (by omega) (Nat.lt_of_le_of_lt (Nat.mul_le_mul_right _ (show d.toNat ≤ 4 by omega)) (by omega))
    simp only [sketch_Table.j0]
    rw [if_neg (by decide)]
    simpa [tabC] using this
theorem RTable_l1 (d w : Int) (s : List Int) (hd : d ≤ 4) (hw : 1 ≤ w) (hs : s.length ≤ 40) (hx : ∀ x ∈ s, 0 ≤ x ∧ x < 16) (r : Nat) (hr : (r : Int) < d) (t : List (List Int)) (m : Nat) : ∀ (k i : Nat), i + m = s.length →
    congouref03_Table.l1 (k + m + 1) w s t (r : Int) (rowC r w (s.take i)) d (r : Int) s (s.length : Int) (i : Int) = if t.length < 5864062014805 then congouref03_Table.l0 k w s (t ++ [rowC r w s]) d (wrap64 ((r : Int) + 1)) else none := by
  induction m with
  | zero =>
    intro k i hi
    simp only [congouref03_Table.l1]
    rw [if_neg (by omega), List.take_of_length_le (by omega)]
  | succ m ih =>
    intro k i hi
    have hmem : rd s (i : Int) ∈ s := by rw [rd_nat s i (by omega)]; exact List.getElem_mem _
    have hb := hx _ hmem
    obtain ⟨h0, h1⟩ := idxU_range r w (rd s (i : Int)) hw
    have hh := hit_le r w (s.take i) (idxU r w (rd s (i : Int))).toNat
    rw [List.length_take] at hh
    rw [show k + (m + 1) + 1 = (k + m + 1) + 1 by omega]
    simp only [congouref03_Table.l1]
    rw [if_pos (by omega), if_pos (by omega), if_pos (by omega), RIndex_f _ _ _ (by omega) (by omega) hw hb.1 (by omega)]
    simp only [Option.bind_some]
    rw [if_pos h0, if_pos (by rw [rowC_len]; omega), rd_rowC _ _ _ _ h0 h1, w64 (i := hit _ _ _ _ + 1) (by omega) (by omega), rowC_set _ _ _ _ hw, ← take_snoc_rd s i (by omega), w64 (i := (i : Int) + 1) (by omega) (by omega)]
    exact ih k (i + 1) (by omega)
theorem RTable_l0 (d w : Int) (s : List Int) (hd : d ≤ 4) (hw : 1 ≤ w) (hw8 : w ≤ 8) (hs : s.length ≤ 40) (hx : ∀ x ∈ s, 0 ≤ x ∧ x < 16) (m : Nat) : ∀ (k r : Nat), (r : Int) + m = d → m * (s.length + 2) < k →
    congouref03_Table.l0 k w s (tabC w s r) d (r : Int) = some (tabC w s d.toNat) := by
  induction m with
  | zero =>
    intro k r hr hk
    obtain ⟨k, rfl⟩ : ∃ m, k = m + 1 := ⟨k - 1, by omega⟩
    simp only [congouref03_Table.l0]
    rw [if_neg (by omega), show d.toNat = r by omega]
  | succ m ih =>
    intro k r hr hk
    rw [Nat.succ_mul] at hk
    obtain ⟨k, rfl⟩ : ∃ q, k = (q + s.length + 1) + 1 := ⟨k - s.length - 2, by omega⟩
    simp only [congouref03_Table.l0]
    rw [if_pos (by omega), if_pos (by omega), if_pos (by omega), ← rowC_nil (r : Int) w]
    have := RTable_l1 d w s hd hw hs hx r (by omega) (tabC w s r) s.length k 0 (by omega)
    rw [List.take_zero] at this
    rw [show ((0 : Nat) : Int) = 0 from rfl] at this
    rw [this, if_pos (by rw [tabC_len]; omega), ← tabC_succ, w64 (by omega) (by omega)]
    exact ih k (r + 1) (by omega) (by omega)
theorem RTable_f (d w : Int) (s : List Int) (hsz : sizeB d w = true) (hs : streamB s = true) (k : Nat) (hk : 4 * (s.length + 2) + 2 < k) :
    congouref03_Table.f k d w s = some (tabC w s d.toNat) := by
  have h : 1 ≤ d ∧ d ≤ 4 ∧ 1 ≤ w ∧ w ≤ 8 := by simpa [sizeB] using hsz
  obtain ⟨hl, hx⟩ := (streamB_iff s).mp hs
  unfold congouref03_Table.f
  have := RTable_l0 d w s h.2.1 h.2.2.1 h.2.2.2 hl hx d.toNat k 0 (by omega) (Nat.lt_of_le_of_lt (Nat.mul_le_mul_right _ (show d.toNat ≤ 4 by omega)) (by omega))
  simpa [tabC] using this
theorem rdL_nat (l : List (List Int)) (i : Nat) (h : i < l.length) : rd_L1 l (i : Int) = l[i] := by
  simp [rd_L1, List.getD_eq_getElem?_getD, List.getElem?_eq_getElem h]
theorem EqualFunc_l (a b : List (List Int)) (hab : a.length = b.length) (B : Nat) (hB : ∀ x ∈ a, x.length < B) (hB2 : B ≤ 17592186044416) (hl : a.length ≤ 17592186044416) (d : Nat) : ∀ (k i : Nat), i + d = a.length → d + B < k →
    slices_EqualFunc_int_int_int_int_with25.l0 k b a (a.length : Int) (i : Int) = some (decide (a.drop i = b.drop i)) := by
  induction d with
  | zero =>
    intro k i hi hk
    obtain ⟨k, rfl⟩ : ∃ m, k = m + 1 := ⟨k - 1, by omega⟩
    simp only [slices_EqualFunc_int_int_int_int_with25.l0]
    rw [if_neg (by omega), List.drop_eq_nil_of_le (by omega), List.drop_eq_nil_of_le (by omega)]
    simp
  | succ d ih =>
    intro k i hi hk
    obtain ⟨k, rfl⟩ : ∃ m, k = m + 1 := ⟨k - 1, by omega⟩
    have hlt : i < a.length := by omega
    have hlt2 : i < b.length := by omega
    have hd : a.drop i = a[i] :: a.drop (i + 1) := List.drop_eq_getElem_cons hlt
    have hd2 : b.drop i = b[i] :: b.drop (i + 1) := List.drop_eq_getElem_cons hlt2
    have hb := hB a[i] (List.getElem_mem _)
    simp only [slices_EqualFunc_int_int_int_int_with25.l0]
    rw [if_pos (by omega), if_pos (by omega), if_pos (by omega), if_pos (by omega), rdL_nat a i hlt, rdL_nat b i hlt2, Equal_f _ _ (by omega) k (by omega), hd, hd2, w64 (by omega) (by omega)]
    simp only [Option.bind_some]
    by_cases h0 : a[i] = b[i]
    · rw [decide_eq_true h0, if_pos rfl]
      have := ih k (i + 1) (by omega) (by omega)
      rw [show ((i : Int) + 1) = ((i + 1 : Nat) : Int) by omega, this, Option.some.injEq, decide_eq_decide, List.cons.injEq]
      exact ⟨fun h => ⟨h0, h⟩, fun h => h.2⟩
    · rw [decide_eq_false h0, if_neg (by decide), Option.some.injEq, eq_comm, decide_eq_false_iff_not, List.cons.injEq]
      exact fun h => h0 h.1
theorem equal_f (a b : List (List Int)) (B : Nat) (hB : ∀ x ∈ a, x.length < B) (hB2 : B ≤ 17592186044416) (hl : a.length ≤ 17592186044416) (k : Nat) (hk : a.length + B < k) : congoulaw03_equal.f k a b = some (decide (a = b)) := by
  unfold congoulaw03_equal.f slices_EqualFunc_int_int_int_int_with25.f
  by_cases h : a.length = b.length
  · rw [if_pos (by omega)]
    have := EqualFunc_l a b h B hB hB2 hl a.length k 0 (by omega) hk
    simp only [List.drop_zero] at this
    rw [show (0 : Int) = ((0 : Nat) : Int) from rfl, this]
    rfl
  · rw [if_neg (by omega)]
    have : a ≠ b := fun e => h (by rw [e])
    simp [this]
theorem tabC_rows (w : Int) (s : List Int) (n : Nat) (hw : w ≤ 8) : ∀ x ∈ tabC w s n, x.length < 9 := by
  intro x hx
  simp only [tabC, List.mem_map] at hx
  obtain ⟨r, _, rfl⟩ := hx
  rw [rowC_len]
  omega
end Go.Proofs.Ytdffhffhnjkcpaa.X
