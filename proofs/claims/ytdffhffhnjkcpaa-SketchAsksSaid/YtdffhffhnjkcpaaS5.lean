/- What isTable, Ask, Add, the reference's IsTable, Ask and Add and the statements' table compute, as plain functions. -/
import Derived.Test.YtdffhffhnjkcpaaS4
import Derived.Test.YtdffhffhnjkcpaaXG3a
import Derived.Test.YtdffhffhnjkcpaaXG2a
import Derived.Test.YtdffhffhnjkcpaaXf36
import Derived.Test.YtdffhffhnjkcpaaXf39
namespace Go.Proofs.Ytdffhffhnjkcpaa.X
open Go.RowKit Go.Proofs.YtdffhffhnjkcpaaW.PrintWords Go.Proofs.YtdffhffhnjkcpaaW.PrintLast Go.Proofs.YtdffhffhnjkcpaaW.PrintMore
set_option linter.unusedVariables false
set_option linter.unusedSimpArgs false

theorem rd_mid (p : List Int) (a : Int) (ys : List Int) : rd (p ++ a :: ys) (p.length : Int) = a := by
  simp [rd, List.getD_eq_getElem?_getD]
theorem rdL_mid (p : List (List Int)) (a : List Int) (ys : List (List Int)) : rd_L1 (p ++ a :: ys) (p.length : Int) = a := by
  simp [rd_L1, List.getD_eq_getElem?_getD]
theorem set_mid (p : List Int) (a x : Int) (ys : List Int) : (p ++ a :: ys).set p.length x = p ++ x :: ys := by
  simp [List.set_append]
theorem cast1 (n : Nat) : ((n : Int) + 1) = ((n + 1 : Nat) : Int) := by omega

def valB (x : Int) : Bool := decide (0 ≤ x ∧ x ≤ 80)
def rowB (n : Nat) (r : List Int) : Bool := decide (r.length = n ∧ 1 ≤ r.length ∧ r.length ≤ 8) && r.all valB
def tabB (t : List (List Int)) : Bool := decide (1 ≤ t.length ∧ t.length ≤ 4) && t.all (rowB (rd_L1 t 0).length)

theorem Min_l (l : List Int) (hl : l.length ≤ 100) (d : Nat) : ∀ (k i : Nat) (m : Int), i + d = l.length → d < k →
    ∃ r, slices_Min_int_int.l0 k l m (i : Int) = some r ∧ ∀ b, b ≤ r ↔ (b ≤ m ∧ ∀ x ∈ l.drop i, b ≤ x) := by
  induction d with
  | zero =>
    intro k i m hi hk
    obtain ⟨k, rfl⟩ : ∃ m, k = m + 1 := ⟨k - 1, by omega⟩
    refine ⟨m, ?_, ?_⟩
    · simp only [slices_Min_int_int.l0]
      rw [if_neg (by omega)]
    · intro b
      rw [List.drop_eq_nil_of_le (by omega)]
      simp
  | succ d ih =>
    intro k i m hi hk
    obtain ⟨k, rfl⟩ : ∃ m, k = m + 1 := ⟨k - 1, by omega⟩
    have hlt : i < l.length := by omega
    have hd : l.drop i = l[i] :: l.drop (i + 1) := List.drop_eq_getElem_cons hlt
    obtain ⟨r, hr, h⟩ := ih k (i + 1) (mn m l[i]) (by omega) (by omega)
    refine ⟨r, ?_, ?_⟩
    · simp only [slices_Min_int_int.l0]
      rw [if_pos (by omega), if_pos (by omega), rd_nat l i hlt, w64 (by omega) (by omega)]
      exact hr
    · intro b
      rw [h, hd]
      simp only [List.mem_cons, forall_eq_or_imp]
      have : b ≤ mn m l[i] ↔ b ≤ m ∧ b ≤ l[i] := by
        unfold mn
        split <;> omega
      rw [this]
      exact ⟨fun ⟨⟨h1, h2⟩, h3⟩ => ⟨h1, h2, h3⟩, fun ⟨h1, h2, h3⟩ => ⟨⟨h1, h2⟩, h3⟩⟩
theorem Min_f (l : List Int) (h0 : 1 ≤ l.length) (hl : l.length ≤ 100) (k : Nat) (hk : l.length < k) :
    ∃ r, slices_Min_int_int.f k l = some r ∧ ∀ b, b ≤ r ↔ ∀ x ∈ l, b ≤ x := by
  obtain ⟨r, hr, h⟩ := Min_l l hl (l.length - 1) k 1 (rd l 0) (by omega) (by omega)
  refine ⟨r, ?_, ?_⟩
  · unfold slices_Min_int_int.f
    rw [if_neg (by omega), if_pos (by omega)]
    exact hr
  · intro b
    obtain ⟨a, ys, rfl⟩ : ∃ a ys, l = a :: ys := by
      cases l with
      | nil => simp at h0
      | cons a ys => exact ⟨a, ys, rfl⟩
    rw [h]
    simp [rd]
theorem Max_l (l : List Int) (hl : l.length ≤ 100) (d : Nat) : ∀ (k i : Nat) (m : Int), i + d = l.length → d < k →
    ∃ r, slices_Max_int_int.l0 k l m (i : Int) = some r ∧ ∀ b, r ≤ b ↔ (m ≤ b ∧ ∀ x ∈ l.drop i, x ≤ b) := by
  induction d with
  | zero =>
    intro k i m hi hk
    obtain ⟨k, rfl⟩ : ∃ m, k = m + 1 := ⟨k - 1, by omega⟩
    refine ⟨m, ?_, ?_⟩
    · simp only [slices_Max_int_int.l0]
      rw [if_neg (by omega)]
    · intro b
      rw [List.drop_eq_nil_of_le (by omega)]
      simp
  | succ d ih =>
    intro k i m hi hk
    obtain ⟨k, rfl⟩ : ∃ m, k = m + 1 := ⟨k - 1, by omega⟩
    have hlt : i < l.length := by omega
    have hd : l.drop i = l[i] :: l.drop (i + 1) := List.drop_eq_getElem_cons hlt
    obtain ⟨r, hr, h⟩ := ih k (i + 1) (mx m l[i]) (by omega) (by omega)
    refine ⟨r, ?_, ?_⟩
    · simp only [slices_Max_int_int.l0]
      rw [if_pos (by omega), if_pos (by omega), rd_nat l i hlt, w64 (by omega) (by omega)]
      exact hr
    · intro b
      rw [h, hd]
      simp only [List.mem_cons, forall_eq_or_imp]
      have : mx m l[i] ≤ b ↔ m ≤ b ∧ l[i] ≤ b := by
        unfold mx
        split <;> omega
      rw [this]
      exact ⟨fun ⟨⟨h1, h2⟩, h3⟩ => ⟨h1, h2, h3⟩, fun ⟨h1, h2, h3⟩ => ⟨⟨h1, h2⟩, h3⟩⟩
theorem Max_f (l : List Int) (h0 : 1 ≤ l.length) (hl : l.length ≤ 100) (k : Nat) (hk : l.length < k) :
    ∃ r, slices_Max_int_int.f k l = some r ∧ ∀ b, r ≤ b ↔ ∀ x ∈ l, x ≤ b := by
  obtain ⟨r, hr, h⟩ := Max_l l hl (l.length - 1) k 1 (rd l 0) (by omega) (by omega)
  refine ⟨r, ?_, ?_⟩
  · unfold slices_Max_int_int.f
    rw [if_neg (by omega), if_pos (by omega)]
    exact hr
  · intro b
    obtain ⟨a, ys, rfl⟩ : ∃ a ys, l = a :: ys := by
      cases l with
      | nil => simp at h0
      | cons a ys => exact ⟨a, ys, rfl⟩
    rw [h]
    simp [rd]
theorem isTable_l (t : List (List Int)) (hl : t.length ≤ 4) (d : Nat) : ∀ (k i : Nat), i + d = t.length → d + 10 < k →
    sketch_isTable.l0 k t t (t.length : Int) (i : Int) = some ((t.drop i).all (rowB (rd_L1 t 0).length)) := by
  induction d with
  | zero =>
    intro k i hi hk
    obtain ⟨k, rfl⟩ : ∃ m, k = m + 1 := ⟨k - 1, by omega⟩
    simp only [sketch_isTable.l0]
    rw [if_neg (by omega), List.drop_eq_nil_of_le (by omega)]
    rfl
  | succ d ih =>
    intro k i hi hk
    obtain ⟨k, rfl⟩ : ∃ m, k = m + 1 := ⟨k - 1, by omega⟩
    have hlt : i < t.length := by omega
    have hd : t.drop i = t[i] :: t.drop (i + 1) := List.drop_eq_getElem_cons hlt
    simp only [sketch_isTable.l0]
    rw [if_pos (by omega), if_pos (by omega), if_pos (by omega), if_pos (by omega), rdL_nat t i hlt, hd, List.all_cons]
    by_cases h1 : (t[i].length : Int) = ((rd_L1 t 0).length : Int)
    · rw [if_pos h1]
      by_cases h2 : (t[i].length : Int) < 1
      · rw [if_pos h2]
        have : rowB (rd_L1 t 0).length t[i] = false := by
          unfold rowB
          rw [decide_eq_false (by omega)]
          rfl
        rw [this]; rfl
      · rw [if_neg h2]
        by_cases h3 : (t[i].length : Int) > 8
        · rw [if_pos h3]
          have : rowB (rd_L1 t 0).length t[i] = false := by
            unfold rowB
            rw [decide_eq_false (by omega)]
            rfl
          rw [this]; rfl
        · rw [if_neg h3]
          obtain ⟨mi, hmi, hmi2⟩ := Min_f t[i] (by omega) (by omega) k (by omega)
          obtain ⟨ma, hma, hma2⟩ := Max_f t[i] (by omega) (by omega) k (by omega)
          rw [hmi]
          simp only [Option.bind_some]
          have hdec : decide (t[i].length = (rd_L1 t 0).length ∧ 1 ≤ t[i].length ∧ t[i].length ≤ 8) = true := decide_eq_true (by omega)
          by_cases h4 : mi < 0
          · rw [if_pos h4]
            have : rowB (rd_L1 t 0).length t[i] = false := by
              unfold rowB
              rw [hdec, Bool.true_and, Bool.eq_false_iff]
              intro h
              have h5 : (0 : Int) ≤ mi := (hmi2 0).mpr fun x hx => by
                have := List.all_eq_true.mp h x hx
                simp only [valB, decide_eq_true_eq] at this
                exact this.1
              omega
            rw [this]; rfl
          · rw [if_neg h4, hma]
            simp only [Option.bind_some]
            by_cases h6 : ma > 80
            · rw [if_pos h6]
              have : rowB (rd_L1 t 0).length t[i] = false := by
                unfold rowB
                rw [hdec, Bool.true_and, Bool.eq_false_iff]
                intro h
                have h5 : ma ≤ 80 := (hma2 80).mpr fun x hx => by
                  have := List.all_eq_true.mp h x hx
                  simp only [valB, decide_eq_true_eq] at this
                  exact this.2
                omega
              rw [this]; rfl
            · rw [if_neg h6, w64 (by omega) (by omega), cast1, ih k (i + 1) (by omega) (by omega)]
              have : rowB (rd_L1 t 0).length t[i] = true := by
                unfold rowB
                rw [hdec, Bool.true_and, List.all_eq_true]
                intro x hx
                simp only [valB, decide_eq_true_eq]
                exact ⟨(hmi2 0).mp (by omega) x hx, (hma2 80).mp (by omega) x hx⟩
              rw [this, Bool.true_and]
    · rw [if_neg h1]
      have : rowB (rd_L1 t 0).length t[i] = false := by
        unfold rowB
        rw [decide_eq_false (by omega)]
        rfl
      rw [this]; rfl
theorem isTable_f (t : List (List Int)) (k : Nat) (hk : 20 < k) : sketch_isTable.f k t = some (tabB t) := by
  obtain ⟨k, rfl⟩ : ∃ m, k = m + 1 := ⟨k - 1, by omega⟩
  unfold sketch_isTable.f tabB
  by_cases h1 : (t.length : Int) < 1
  · rw [if_pos h1, decide_eq_false (by omega)]
    simp [sketch_isTable.j0]
  · rw [if_neg h1]
    by_cases h2 : (t.length : Int) > 4
    · rw [decide_eq_true h2, decide_eq_false (show ¬ (1 ≤ t.length ∧ t.length ≤ 4) by omega)]
      simp [sketch_isTable.j0]
    · rw [decide_eq_false h2, decide_eq_true (show 1 ≤ t.length ∧ t.length ≤ 4 by omega)]
      simp only [sketch_isTable.j0]
      rw [if_neg (by decide)]
      have := isTable_l t (by omega) t.length k 0 (by omega) (by omega)
      simpa using this
theorem tabB_iff (t : List (List Int)) : tabB t = true ↔ (1 ≤ t.length ∧ t.length ≤ 4) ∧ ∀ r ∈ t, (r.length = (rd_L1 t 0).length ∧ 1 ≤ r.length ∧ r.length ≤ 8) ∧ ∀ x ∈ r, 0 ≤ x ∧ x ≤ 80 := by
  simp [tabB, rowB, valB]
/-- The statements' table: seven rows and eleven columns at most. -/
def truncT (t : List (List Int)) : List (List Int) := (t.take 7).map (·.take 11)
theorem truncT_succ (t : List (List Int)) (i : Nat) (h : i < t.length) : truncT (t.take (i + 1)) = if i < 7 then truncT (t.take i) ++ [t[i].take 11] else truncT (t.take i) := by
  unfold truncT
  rw [List.take_take, List.take_take]
  by_cases h7 : i < 7
  · rw [if_pos h7, Nat.min_eq_right (show i + 1 ≤ 7 by omega), Nat.min_eq_right (show i ≤ 7 by omega), List.take_succ_eq_append_getElem h, List.map_append]
    rfl
  · rw [if_neg h7, Nat.min_eq_left (show 7 ≤ i + 1 by omega), Nat.min_eq_left (show 7 ≤ i by omega)]
theorem table_l (t : List (List Int)) (hl : t.length ≤ 9223372036854775807) (hr : ∀ r ∈ t, r.length ≤ 9223372036854775807) (d : Nat) : ∀ (k i : Nat), i + d = t.length → d < k →
    congoulaw03_table.l0 k (truncT (t.take i)) t (t.length : Int) (i : Int) = some (truncT t) := by
  induction d with
  | zero =>
    intro k i hi hk
    obtain ⟨k, rfl⟩ : ∃ m, k = m + 1 := ⟨k - 1, by omega⟩
    simp only [congoulaw03_table.l0]
    rw [if_neg (by omega), List.take_of_length_le (by omega)]
  | succ d ih =>
    intro k i hi hk
    obtain ⟨k, rfl⟩ : ∃ m, k = m + 1 := ⟨k - 1, by omega⟩
    have hlt : i < t.length := by omega
    have hn := ih k (i + 1) (by omega) (by omega)
    rw [truncT_succ t i hlt] at hn
    have hri := hr t[i] (List.getElem_mem _)
    simp only [congoulaw03_table.l0]
    rw [if_pos (by omega), if_pos (by omega), if_pos (by omega), rdL_nat t i hlt, w64 (by omega) (by omega), cast1]
    by_cases h7 : (i : Int) < 7
    · rw [if_pos (by omega)] at hn
      have hm : mn (t[i].length : Int) 11 = ((min t[i].length 11 : Nat) : Int) := by
        unfold mn
        split <;> omega
      have hlen : (truncT (t.take i)).length < 5864062014805 := by
        unfold truncT
        rw [List.length_map, List.length_take, List.length_take]
        omega
      have htk : t[i].take (min t[i].length 11) = t[i].take 11 := by
        by_cases h11 : t[i].length ≤ 11
        · rw [Nat.min_eq_left h11, List.take_of_length_le (Nat.le_refl _), List.take_of_length_le h11]
        · rw [Nat.min_eq_right (by omega)]
      rw [if_pos h7, hm, if_pos (by omega), if_pos (by omega), Int.toNat_natCast, htk, Clone_f _ (by rw [List.length_take]; omega)]
      simp only [Option.bind_some]
      rw [if_pos hlen]
      exact hn
    · rw [if_neg (by omega)] at hn
      rw [if_neg h7]
      exact hn
theorem table_f (t : List (List Int)) (hl : t.length ≤ 9223372036854775807) (hr : ∀ r ∈ t, r.length ≤ 9223372036854775807) (k : Nat) (hk : t.length < k) : congoulaw03_table.f k t = some (truncT t) := by
  unfold congoulaw03_table.f
  have := table_l t hl hr t.length k 0 (by omega) (by omega)
  simpa [truncT] using this
theorem truncT_same (t : List (List Int)) (h : tabB t = true) : truncT t = t := by
  obtain ⟨h1, h2⟩ := (tabB_iff t).mp h
  unfold truncT
  rw [List.take_of_length_le (by omega)]
  have : ∀ r ∈ t, r.take 11 = id r := fun r hr => List.take_of_length_le (by have := (h2 r hr).1; omega)
  rw [List.map_congr_left this, List.map_id]
theorem tabB_trunc (t : List (List Int)) : tabB (truncT t) = tabB t := by
  rw [Bool.eq_iff_iff]
  constructor
  · intro h
    obtain ⟨h1, h2⟩ := (tabB_iff _).mp h
    have hlen : t.length ≤ 7 := by
      unfold truncT at h1
      rw [List.length_map, List.length_take] at h1
      omega
    have hsame : truncT t = t := by
      unfold truncT at h2 ⊢
      rw [List.take_of_length_le hlen] at h2 ⊢
      have : ∀ r ∈ t, r.take 11 = id r := fun r hr => by
        have h3 := (h2 (r.take 11) (List.mem_map_of_mem hr)).1
        rw [List.length_take] at h3
        exact List.take_of_length_le (by omega)
      rw [List.map_congr_left this, List.map_id]
    rwa [hsame] at h
  · intro h
    rwa [truncT_same t h]
end Go.Proofs.Ytdffhffhnjkcpaa.X
