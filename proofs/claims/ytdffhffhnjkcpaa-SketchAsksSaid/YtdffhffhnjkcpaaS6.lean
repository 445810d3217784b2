/- What Ask and Add and the reference's IsTable, Ask and Add compute, as plain functions. -/
import Derived.Test.YtdffhffhnjkcpaaS5
namespace Go.Proofs.Ytdffhffhnjkcpaa.X
open Go.RowKit Go.Proofs.YtdffhffhnjkcpaaW.PrintWords Go.Proofs.YtdffhffhnjkcpaaW.PrintLast Go.Proofs.YtdffhffhnjkcpaaW.PrintMore
set_option linter.unusedVariables false
set_option linter.unusedSimpArgs false

def askU (key : Int) : List (List Int) → Nat → Int → Int
  | [], _, m => m
  | r :: t, i, m => askU key t (i + 1) (mn m (rd r (idxU (i : Int) (r.length : Int) key)))
theorem Ask_l (key : Int) (t : List (List Int)) (hl : t.length ≤ 4) (hr : ∀ r ∈ t, 1 ≤ r.length) (h0 : 0 ≤ key) (h1 : key ≤ 15) (d : Nat) : ∀ (k i : Nat) (m : Int), i + d = t.length → d < k →
    sketch_Ask.l0 k key m t (t.length : Int) (i : Int) = some (askU key (t.drop i) i m, 0) := by
  induction d with
  | zero =>
    intro k i m hi hk
    obtain ⟨k, rfl⟩ : ∃ m, k = m + 1 := ⟨k - 1, by omega⟩
    simp only [sketch_Ask.l0]
    rw [if_neg (by omega), List.drop_eq_nil_of_le (by omega)]
    rfl
  | succ d ih =>
    intro k i m hi hk
    obtain ⟨k, rfl⟩ : ∃ m, k = m + 1 := ⟨k - 1, by omega⟩
    have hlt : i < t.length := by omega
    have hd : t.drop i = t[i] :: t.drop (i + 1) := List.drop_eq_getElem_cons hlt
    have hri := hr t[i] (List.getElem_mem _)
    obtain ⟨h2, h3⟩ := idxU_range (i : Int) (t[i].length : Int) key (by omega)
    simp only [sketch_Ask.l0]
    rw [if_pos (by omega), if_pos (by omega), if_pos (by omega), rdL_nat t i hlt, index_f _ _ _ (by omega) (by omega) (by omega) h0 h1]
    simp only [Option.bind_some]
    rw [if_pos h2, if_pos h3, w64 (by omega) (by omega), cast1, ih k (i + 1) _ (by omega) (by omega), hd]
    rfl
theorem Ask_f (t : List (List Int)) (key : Int) (k : Nat) (hk : 30 < k) :
    sketch_Ask.f k t key = some (if tabB t = true ∧ keyB key = true then (askU key t 0 80, 0) else (0, 2)) := by
  obtain ⟨k, rfl⟩ : ∃ m, k = m + 1 := ⟨k - 1, by omega⟩
  unfold sketch_Ask.f
  rw [isTable_f t _ (by omega)]
  simp only [Option.bind_some, isKey_f]
  cases ht : tabB t with
  | false => simp [sketch_Ask.j0]
  | true =>
    cases hy : keyB key with
    | false => simp [sketch_Ask.j0]
    | true =>
      obtain ⟨h1, h2⟩ := (tabB_iff t).mp ht
      have hb : 0 ≤ key ∧ key < 16 := by simpa [keyB] using hy
      have := Ask_l key t (by omega) (fun r hr => (h2 r hr).1.2.1) hb.1 (by omega) t.length k 0 80 (by omega) (by omega)
      simp only [sketch_Ask.j0]
      simpa using this
theorem RAsk_l (key : Int) (t : List (List Int)) (hl : t.length ≤ 4) (hr : ∀ r ∈ t, 1 ≤ r.length) (h0 : 0 ≤ key) (h1 : key ≤ 15) (d : Nat) : ∀ (k i : Nat) (m : Int), i + d = t.length → d < k →
    congouref03_Ask.l0 k key m t (t.length : Int) (i : Int) = some (askU key (t.drop i) i m) := by
  induction d with
  | zero =>
    intro k i m hi hk
    obtain ⟨k, rfl⟩ : ∃ m, k = m + 1 := ⟨k - 1, by omega⟩
    simp only [congouref03_Ask.l0]
    rw [if_neg (by omega), List.drop_eq_nil_of_le (by omega)]
    rfl
  | succ d ih =>
    intro k i m hi hk
    obtain ⟨k, rfl⟩ : ∃ m, k = m + 1 := ⟨k - 1, by omega⟩
    have hlt : i < t.length := by omega
    have hd : t.drop i = t[i] :: t.drop (i + 1) := List.drop_eq_getElem_cons hlt
    have hri := hr t[i] (List.getElem_mem _)
    obtain ⟨h2, h3⟩ := idxU_range (i : Int) (t[i].length : Int) key (by omega)
    simp only [congouref03_Ask.l0]
    rw [if_pos (by omega), if_pos (by omega), if_pos (by omega), rdL_nat t i hlt, RIndex_f _ _ _ (by omega) (by omega) (by omega) h0 h1]
    simp only [Option.bind_some]
    rw [if_pos h2, if_pos h3, w64 (by omega) (by omega), cast1, ih k (i + 1) _ (by omega) (by omega), hd]
    rfl
theorem RAsk_f (t : List (List Int)) (key : Int) (ht : tabB t = true) (hy : keyB key = true) (k : Nat) (hk : 30 < k) : congouref03_Ask.f k t key = some (askU key t 0 80) := by
  obtain ⟨h1, h2⟩ := (tabB_iff t).mp ht
  have hb : 0 ≤ key ∧ key < 16 := by simpa [keyB] using hy
  have := RAsk_l key t (by omega) (fun r hr => (h2 r hr).1.2.1) hb.1 (by omega) t.length k 0 80 (by omega) (by omega)
  unfold congouref03_Ask.f
  simpa using this
/-- How many rounds the reference's IsTable takes. -/
def fuelT : List (List Int) → Nat
  | [] => 1
  | r :: t => r.length + 2 + fuelT t
theorem RIsTable_l1 (x0 x7 : List (List Int)) (a b : Int) (r : List Int) (hr : r.length ≤ 9223372036854775807) (d : Nat) : ∀ (k i : Nat), i + d = r.length →
    congouref03_IsTable.l1 (k + d + 1) x0 x7 a b r (r.length : Int) (i : Int) = if (r.drop i).all valB = true then congouref03_IsTable.l0 k x0 x7 a (wrap64 (b + 1)) else some false := by
  induction d with
  | zero =>
    intro k i hi
    simp only [congouref03_IsTable.l1]
    rw [if_neg (by omega), List.drop_eq_nil_of_le (by omega)]
    rfl
  | succ d ih =>
    intro k i hi
    have hlt : i < r.length := by omega
    have hd : r.drop i = r[i] :: r.drop (i + 1) := List.drop_eq_getElem_cons hlt
    have hn := ih k (i + 1) (by omega)
    rw [show k + (d + 1) + 1 = (k + d + 1) + 1 by omega]
    generalize k + d + 1 = q at hn ⊢
    simp only [congouref03_IsTable.l1]
    rw [if_pos (by omega), if_pos (by omega), if_pos (by omega), rd_nat r i hlt, hd, List.all_cons]
    by_cases h0 : r[i] < 0
    · have : valB r[i] = false := decide_eq_false (by omega)
      rw [if_pos h0, this]; rfl
    · rw [if_neg h0]
      by_cases h1 : r[i] > 80
      · have : valB r[i] = false := decide_eq_false (by omega)
        rw [if_pos h1, this]; rfl
      · have : valB r[i] = true := decide_eq_true (by omega)
        rw [if_neg h1, w64 (by omega) (by omega), cast1, hn, this, Bool.true_and]
theorem RIsTable_l0 (t : List (List Int)) (hl : t.length ≤ 9223372036854775807) (hr : ∀ r ∈ t, r.length ≤ 9223372036854775807) (d : Nat) : ∀ (k i : Nat), i + d = t.length → fuelT (t.drop i) ≤ k →
    congouref03_IsTable.l0 k t t (t.length : Int) (i : Int) = some ((t.drop i).all (fun r => decide (r.length = (rd_L1 t 0).length) && r.all valB) && (decide (0 < t.length) && sizeB (t.length : Int) ((rd_L1 t 0).length : Int))) := by
  induction d with
  | zero =>
    intro k i hi hk
    rw [List.drop_eq_nil_of_le (by omega)] at hk
    obtain ⟨k, rfl⟩ : ∃ m, k = m + 1 := ⟨k - 1, by simp only [fuelT] at hk; omega⟩
    simp only [congouref03_IsTable.l0]
    rw [if_neg (by omega), List.drop_eq_nil_of_le (by omega)]
    by_cases h : (t.length : Int) > 0
    · rw [if_pos h, if_pos h, Size_f, decide_eq_true (show 0 < t.length by omega)]
      rfl
    · rw [if_neg h, decide_eq_false (show ¬ 0 < t.length by omega)]
      rfl
  | succ d ih =>
    intro k i hi hk
    have hlt : i < t.length := by omega
    have hd : t.drop i = t[i] :: t.drop (i + 1) := List.drop_eq_getElem_cons hlt
    rw [hd] at hk
    simp only [fuelT] at hk
    obtain ⟨k, rfl⟩ : ∃ m, k = (m + t[i].length + 1) + 1 := ⟨k - t[i].length - 2, by omega⟩
    rw [congouref03_IsTable.l0]
    rw [if_pos (by omega), if_pos (by omega), if_pos (by omega), if_pos (by omega), rdL_nat t i hlt, hd, List.all_cons]
    by_cases h1 : (t[i].length : Int) = ((rd_L1 t 0).length : Int)
    · have hz := RIsTable_l1 t t (t.length : Int) (i : Int) t[i] (hr _ (List.getElem_mem _)) t[i].length k 0 (by omega)
      rw [List.drop_zero, show ((0 : Nat) : Int) = 0 from rfl] at hz
      rw [if_pos h1, hz, w64 (by omega) (by omega), cast1, ih k (i + 1) (by omega) (by omega)]
      rw [decide_eq_true (show t[i].length = (rd_L1 t 0).length by omega), Bool.true_and]
      cases hv : t[i].all valB with
      | true => rfl
      | false => rfl
    · rw [if_neg h1, decide_eq_false (show ¬ t[i].length = (rd_L1 t 0).length by omega)]
      rfl
theorem RIsTable_f (t : List (List Int)) (hl : t.length ≤ 9223372036854775807) (hr : ∀ r ∈ t, r.length ≤ 9223372036854775807) (k : Nat) (hk : fuelT t ≤ k) : congouref03_IsTable.f k t = some (tabB t) := by
  unfold congouref03_IsTable.f
  have := RIsTable_l0 t hl hr t.length k 0 (by omega) hk
  rw [List.drop_zero] at this
  rw [show (0 : Int) = ((0 : Nat) : Int) from rfl, this, Option.some.injEq, Bool.eq_iff_iff]
  simp only [Bool.and_eq_true, List.all_eq_true, decide_eq_true_eq, tabB, rowB, sizeB, valB]
  constructor
  · rintro ⟨h1, h2, h3⟩
    exact ⟨by omega, fun r hr => ⟨by have := (h1 r hr).1; omega, (h1 r hr).2⟩⟩
  · rintro ⟨h1, h2⟩
    have h3 : rd_L1 t 0 ∈ t := by
      rw [show (0 : Int) = ((0 : Nat) : Int) from rfl, rdL_nat t 0 (by omega)]
      exact List.getElem_mem _
    have h4 := (h2 _ h3).1
    exact ⟨fun r hr => ⟨(h2 r hr).1.1, (h2 r hr).2⟩, by omega, by omega⟩
end Go.Proofs.Ytdffhffhnjkcpaa.X
