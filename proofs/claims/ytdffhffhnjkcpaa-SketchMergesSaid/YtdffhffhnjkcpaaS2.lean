/- What the references' Stream, Often, Counters and Heavy, slices.Equal, slices.Clone and the statements' own helpers compute, as plain functions. -/
import Derived.Test.YtdffhffhnjkcpaaS1
import Derived.Test.YtdffhffhnjkcpaaE21
import Derived.Test.YtdffhffhnjkcpaaXG1a
import Derived.Test.YtdffhffhnjkcpaaXf18
import Derived.Test.YtdffhffhnjkcpaaXG2a
namespace Go.Proofs.Ytdffhffhnjkcpaa.X
open Go.RowKit Go.Proofs.YtdffhffhnjkcpaaW.PrintWords Go.Proofs.YtdffhffhnjkcpaaW.PrintLast Go.Proofs.YtdffhffhnjkcpaaW.PrintMore
set_option linter.unusedVariables false
set_option linter.unusedSimpArgs false

theorem Clone_f (l : List Int) (h : l.length < 17592186044416) : slices_Clone_int_int.f l = some l := by
  simp [slices_Clone_int_int.f, h]
theorem list_f (l : List Int) (h : l.length ≤ 17592186044416) : congoulaw03_list.f l = some (l.take 45) := by
  unfold congoulaw03_list.f mn
  by_cases h2 : (45 : Int) < (l.length : Int)
  · rw [if_pos h2, if_pos (by omega), if_pos (by omega), Clone_f _ (by rw [List.length_take]; omega)]
    rfl
  · rw [if_neg h2, if_pos (by omega), if_pos (by omega), Clone_f _ (by rw [List.length_take]; omega)]
    simp only [Option.bind_some, Int.toNat_natCast, List.take_length]
    rw [List.take_of_length_le (by omega)]
theorem streamB_take (l : List Int) : streamB (l.take 45) = streamB l := by
  by_cases h : l.length ≤ 45
  · rw [List.take_of_length_le h]
  · have h1 : ¬ l.length ≤ 40 := by omega
    have h2 : ¬ (l.take 45).length ≤ 40 := by rw [List.length_take]; omega
    unfold streamB
    rw [decide_eq_false h1, decide_eq_false h2]
    rfl
theorem take_of_stream (l : List Int) (h : streamB l = true) : l.take 45 = l := List.take_of_length_le (by have := ((streamB_iff l).mp h).1; omega)
theorem awake_f : congoulaw03_awake.f = some true := by decide
theorem Counters_f (x : Int) : congouref03_Counters.f x = some (kB x) := by
  unfold congouref03_Counters.f kB
  by_cases h : 1 ≤ x
  · rw [if_pos (show x ≥ 1 from h)]
    simp [h]
  · rw [if_neg (show ¬ x ≥ 1 from h)]
    simp [h]
theorem Stream_l (l : List Int) (hl : l.length ≤ 17592186044416) (d : Nat) : ∀ (k i : Nat), i + d = l.length → d < k →
    congouref03_Stream.l0 k l l (l.length : Int) (i : Int) = some (decide (l.length ≤ 40) && (l.drop i).all keyB) := by
  induction d with
  | zero =>
    intro k i hi hk
    obtain ⟨k, rfl⟩ : ∃ m, k = m + 1 := ⟨k - 1, by omega⟩
    simp only [congouref03_Stream.l0]
    rw [if_neg (by omega), List.drop_eq_nil_of_le (by omega)]
    simp only [List.all_nil, Bool.and_true, Option.some.injEq, decide_eq_decide]
    omega
  | succ d ih =>
    intro k i hi hk
    obtain ⟨k, rfl⟩ : ∃ m, k = m + 1 := ⟨k - 1, by omega⟩
    have hlt : i < l.length := by omega
    have hd : l.drop i = l[i] :: l.drop (i + 1) := List.drop_eq_getElem_cons hlt
    simp only [congouref03_Stream.l0]
    rw [if_pos (by omega), if_pos (by omega), if_pos (by omega), rd_nat l i hlt, hd, List.all_cons]
    by_cases h0 : l[i] < 0
    · rw [if_pos h0]
      have : keyB l[i] = false := by simp [keyB]; omega
      simp [this]
    · rw [if_neg h0]
      by_cases h1 : l[i] > 15
      · rw [if_pos h1]
        have : keyB l[i] = false := by simp [keyB]; omega
        simp [this]
      · rw [if_neg h1, w64 (by omega) (by omega)]
        have hb : keyB l[i] = true := by simp [keyB]; omega
        have := ih k (i + 1) (by omega) (by omega)
        simp only [hb, Bool.true_and]
        simpa using this
theorem Stream_f (l : List Int) (hl : l.length ≤ 17592186044416) (k : Nat) (hk : l.length < k) : congouref03_Stream.f k l = some (streamB l) := by
  unfold congouref03_Stream.f
  have := Stream_l l hl l.length k 0 (by omega) hk
  simpa [streamB] using this
theorem Often_l (l : List Int) (key : Int) (hl : l.length ≤ 17592186044416) (d : Nat) : ∀ (k i c : Nat), i + d = l.length → c ≤ i → d < k →
    congouref03_Often.l0 k key (c : Int) l (l.length : Int) (i : Int) = some ((c + (l.drop i).countP (fun x => x == key) : Nat) : Int) := by
  induction d with
  | zero =>
    intro k i c hi hc hk
    obtain ⟨k, rfl⟩ : ∃ m, k = m + 1 := ⟨k - 1, by omega⟩
    simp only [congouref03_Often.l0]
    rw [if_neg (by omega), List.drop_eq_nil_of_le (by omega)]
    simp
  | succ d ih =>
    intro k i c hi hc hk
    obtain ⟨k, rfl⟩ : ∃ m, k = m + 1 := ⟨k - 1, by omega⟩
    have hlt : i < l.length := by omega
    have hd : l.drop i = l[i] :: l.drop (i + 1) := List.drop_eq_getElem_cons hlt
    simp only [congouref03_Often.l0]
    rw [if_pos (by omega), if_pos (by omega), if_pos (by omega), rd_nat l i hlt, hd, w64 (i := (i : Int) + 1) (by omega) (by omega)]
    by_cases h0 : l[i] = key
    · rw [if_pos h0, w64 (by omega) (by omega)]
      have := ih k (i + 1) (c + 1) (by omega) (by omega) (by omega)
      rw [show ((c : Int) + 1) = ((c + 1 : Nat) : Int) by omega, show ((i : Int) + 1) = ((i + 1 : Nat) : Int) by omega, this]
      rw [List.countP_cons]
      simp [h0]
      omega
    · rw [if_neg h0]
      have := ih k (i + 1) c (by omega) (by omega) (by omega)
      rw [show ((i : Int) + 1) = ((i + 1 : Nat) : Int) by omega, this]
      rw [List.countP_cons]
      simp [h0]
theorem Often_f (l : List Int) (key : Int) (hl : l.length ≤ 17592186044416) (k : Nat) (hk : l.length < k) : congouref03_Often.f k l key = some ((l.countP (fun x => x == key) : Nat) : Int) := by
  unfold congouref03_Often.f
  have := Often_l l key hl l.length k 0 0 (by omega) (by omega) hk
  simpa using this
theorem Often_cnt (l : List Int) (key : Nat) (hl : l.length ≤ 17592186044416) (k : Nat) (hk : l.length < k) : congouref03_Often.f k l (key : Int) = some (cnt l key) := Often_f l key hl k hk
theorem Heavy_l (a : Int) (l : List Int) (ha : kB a = true) (hl : l.length ≤ 40) (d : Nat) : ∀ (k i : Nat), i + d = 16 → d + l.length + 1 < k →
    congouref03_Heavy.l0 k a l (heavyU a l i) (i : Int) = some (heavyU a l 16) := by
  have ha' : 1 ≤ a ∧ a ≤ 8 := by simpa [kB] using ha
  induction d with
  | zero =>
    intro k i hi hk
    obtain ⟨k, rfl⟩ : ∃ m, k = m + 1 := ⟨k - 1, by omega⟩
    simp only [congouref03_Heavy.l0]
    rw [if_neg (by omega), show i = 16 by omega]
  | succ d ih =>
    intro k i hi hk
    obtain ⟨k, rfl⟩ : ∃ m, k = m + 1 := ⟨k - 1, by omega⟩
    simp only [congouref03_Heavy.l0]
    rw [if_pos (by omega), Often_cnt l i (by omega) k (by omega)]
    simp only [Option.bind_some]
    have hc := cnt_le l i
    rw [mul_small _ _ hc.1 (by omega) ha'.1 ha'.2, w64 (i := (i : Int) + 1) (by omega) (by omega)]
    have hn := ih k (i + 1) (by omega) (by omega)
    rw [heavyU_succ] at hn
    have hlen := heavyU_len a l i
    by_cases hp : cnt l i * (a + 1) > (l.length : Int)
    · have hq : heavyP a l i = true := by simp [heavyP]; omega
      rw [if_pos hp, if_pos (by omega)]
      rw [if_pos hq] at hn
      simpa using hn
    · have hq : ¬ heavyP a l i = true := by simp [heavyP]; omega
      rw [if_neg hp]
      rw [if_neg hq, List.append_nil] at hn
      simpa using hn
theorem Heavy_f (a : Int) (l : List Int) (ha : kB a = true) (hl : l.length ≤ 40) (k : Nat) (hk : l.length + 17 < k) : congouref03_Heavy.f k a l = some (heavyU a l 16) := by
  unfold congouref03_Heavy.f
  exact Heavy_l a l ha hl 16 k 0 (by omega) (by omega)
theorem Equal_l (a b : List Int) (hab : a.length = b.length) (hl : a.length ≤ 17592186044416) (d : Nat) : ∀ (k i : Nat), i + d = a.length → d < k →
    slices_Equal_int_int.l0 k a b (a.length : Int) (i : Int) = some (decide (a.drop i = b.drop i)) := by
  induction d with
  | zero =>
    intro k i hi hk
    obtain ⟨k, rfl⟩ : ∃ m, k = m + 1 := ⟨k - 1, by omega⟩
    simp only [slices_Equal_int_int.l0]
    rw [if_neg (by omega), List.drop_eq_nil_of_le (by omega), List.drop_eq_nil_of_le (by omega)]
    simp
  | succ d ih =>
    intro k i hi hk
    obtain ⟨k, rfl⟩ : ∃ m, k = m + 1 := ⟨k - 1, by omega⟩
    have hlt : i < a.length := by omega
    have hlt2 : i < b.length := by omega
    have hd : a.drop i = a[i] :: a.drop (i + 1) := List.drop_eq_getElem_cons hlt
    have hd2 : b.drop i = b[i] :: b.drop (i + 1) := List.drop_eq_getElem_cons hlt2
    simp only [slices_Equal_int_int.l0]
    rw [if_pos (by omega), if_pos (by omega), if_pos (by omega), if_pos (by omega), rd_nat a i hlt, rd_nat b i hlt2, hd, hd2, w64 (by omega) (by omega)]
    by_cases h0 : a[i] = b[i]
    · rw [if_pos h0]
      have := ih k (i + 1) (by omega) (by omega)
      rw [show ((i : Int) + 1) = ((i + 1 : Nat) : Int) by omega, this, Option.some.injEq, decide_eq_decide, List.cons.injEq]
      exact ⟨fun h => ⟨h0, h⟩, fun h => h.2⟩
    · rw [if_neg h0, Option.some.injEq, eq_comm, decide_eq_false_iff_not, List.cons.injEq]
      exact fun h => h0 h.1
theorem Equal_f (a b : List Int) (hl : a.length ≤ 17592186044416) (k : Nat) (hk : a.length < k) : slices_Equal_int_int.f k a b = some (decide (a = b)) := by
  unfold slices_Equal_int_int.f
  by_cases h : a.length = b.length
  · rw [if_pos (by omega)]
    have := Equal_l a b h hl a.length k 0 (by omega) hk
    simpa using this
  · rw [if_neg (by omega)]
    have : a ≠ b := fun e => h (by rw [e])
    simp [this]
end Go.Proofs.Ytdffhffhnjkcpaa.X
