/- What Keep, the reference's Keep and Dice, and slices.Contains compute, as plain functions. -/
import Derived.Test.YtdffhffhnjkcpaaS2
import Derived.Test.YtdffhffhnjkcpaaXf16
import Derived.Test.YtdffhffhnjkcpaaXf27
import Derived.Test.YtdffhffhnjkcpaaXf28
import Derived.Test.YtdffhffhnjkcpaaXf29
namespace Go.Proofs.Ytdffhffhnjkcpaa.X
open Go.RowKit Go.Proofs.YtdffhffhnjkcpaaW.PrintWords Go.Proofs.YtdffhffhnjkcpaaW.PrintLast Go.Proofs.YtdffhffhnjkcpaaW.PrintMore
set_option linter.unusedVariables false
set_option linter.unusedSimpArgs false

def dieB (x : Int) : Bool := decide (0 ≤ x ∧ x < 40)
def diceB (s d : List Int) : Bool := decide (d.length = s.length) && d.all dieB
theorem diceB_iff (s d : List Int) : diceB s d = true ↔ d.length = s.length ∧ ∀ x ∈ d, 0 ≤ x ∧ x < 40 := by
  simp [diceB, dieB]
def keepU (k : Int) (d s : List Int) : Nat → List Int
  | 0 => []
  | i + 1 => if (i : Int) < k then keepU k d s i ++ [rd s i] else if Int.tmod (rd d i) ((i : Int) + 1) < k then (keepU k d s i).set (Int.tmod (rd d i) ((i : Int) + 1)).toNat (rd s i) else keepU k d s i
theorem keepU_succ (k : Int) (d s : List Int) (i : Nat) : keepU k d s (i + 1) = if (i : Int) < k then keepU k d s i ++ [rd s i] else if Int.tmod (rd d i) ((i : Int) + 1) < k then (keepU k d s i).set (Int.tmod (rd d i) ((i : Int) + 1)).toNat (rd s i) else keepU k d s i := rfl
theorem keepU_len (k : Int) (d s : List Int) (hk : 1 ≤ k) (i : Nat) : ((keepU k d s i).length : Int) = if (i : Int) < k then (i : Int) else k := by
  induction i with
  | zero => simp [keepU]; omega
  | succ i ih =>
    rw [keepU_succ]
    by_cases h : (i : Int) < k
    · rw [if_pos h] at ih
      rw [if_pos h, List.length_append, List.length_singleton]
      split <;> omega
    · rw [if_neg h] at ih
      rw [if_neg h, if_neg (show ¬ ((i + 1 : Nat) : Int) < k by omega)]
      split
      · rw [List.length_set]; exact ih
      · exact ih
theorem tmod_of (x : Int) (i : Nat) (h : 0 ≤ x) : 0 ≤ Int.tmod x ((i : Int) + 1) ∧ Int.tmod x ((i : Int) + 1) < (i : Int) + 1 := by
  rw [Int.tmod_eq_emod_of_nonneg h]
  exact ⟨Int.emod_nonneg _ (by omega), Int.emod_lt_of_pos _ (by omega)⟩

theorem idx57 (l : List Int) (hl : l.length ≤ 17592186044416) (d : Nat) : ∀ (k i : Nat), i + d = l.length → d < k →
    ∃ r, slices_IndexFunc_int_int_with57.l0 k l (l.length : Int) (i : Int) = some r ∧ (r ≥ 0 ↔ (l.drop i).all dieB = false) := by
  induction d with
  | zero =>
    intro k i hi hk
    obtain ⟨k, rfl⟩ : ∃ m, k = m + 1 := ⟨k - 1, by omega⟩
    refine ⟨-1, ?_, ?_⟩
    · simp only [slices_IndexFunc_int_int_with57.l0]
      rw [if_neg (by omega)]
    · rw [List.drop_eq_nil_of_le (by omega)]
      simp
  | succ d ih =>
    intro k i hi hk
    obtain ⟨k, rfl⟩ : ∃ m, k = m + 1 := ⟨k - 1, by omega⟩
    have hlt : i < l.length := by omega
    have hd : l.drop i = l[i] :: l.drop (i + 1) := List.drop_eq_getElem_cons hlt
    have hf : sketch_Keep_1.f l[i] = some (!dieB l[i]) := by
      unfold sketch_Keep_1.f dieB
      by_cases h : l[i] < 0
      · rw [if_pos h]
        simp; omega
      · rw [if_neg h, Option.some.injEq, Bool.eq_iff_iff]
        simp
        omega
    obtain ⟨r, hr, hiff⟩ := ih k (i + 1) (by omega) (by omega)
    cases hb : dieB l[i] with
    | true =>
      refine ⟨r, ?_, ?_⟩
      · simp only [slices_IndexFunc_int_int_with57.l0]
        rw [if_pos (by omega), if_pos (by omega), if_pos (by omega), rd_nat l i hlt, hf, hb, w64 (by omega) (by omega)]
        simpa using hr
      · rw [hd, List.all_cons, hb, Bool.true_and]
        exact hiff
    | false =>
      refine ⟨(i : Int), ?_, ?_⟩
      · simp only [slices_IndexFunc_int_int_with57.l0]
        rw [if_pos (by omega), if_pos (by omega), if_pos (by omega), rd_nat l i hlt, hf, hb]
        simp
      · rw [hd, List.all_cons, hb]
        simp
theorem Contains57_f (l : List Int) (hl : l.length ≤ 17592186044416) (k : Nat) (hk : l.length < k) : slices_ContainsFunc_int_int_with57.f k l = some (!l.all dieB) := by
  obtain ⟨r, hr, hiff⟩ := idx57 l hl l.length k 0 (by omega) hk
  unfold slices_ContainsFunc_int_int_with57.f slices_IndexFunc_int_int_with57.f
  rw [show (0 : Int) = ((0 : Nat) : Int) from rfl, hr]
  simp only [Option.bind_some, List.drop_zero] at hiff ⊢
  cases hb : l.all dieB with
  | true =>
    rw [hb] at hiff
    have : ¬ r ≥ 0 := fun h => by simpa using hiff.mp h
    simp; omega
  | false =>
    rw [hb] at hiff
    have : r ≥ 0 := hiff.mpr rfl
    simp; omega
theorem Keep_l (a : Int) (s d : List Int) (ha : 1 ≤ a) (hs : s.length ≤ 40) (hd : d.length = s.length) (hx : ∀ x ∈ d, 0 ≤ x ∧ x < 40) (m : Nat) : ∀ (k i : Nat), i + m = s.length → m < k →
    sketch_Keep.l0 k a d (keepU a d s i) s (s.length : Int) (i : Int) = some (keepU a d s s.length, 0) := by
  induction m with
  | zero =>
    intro k i hi hk
    obtain ⟨k, rfl⟩ : ∃ m, k = m + 1 := ⟨k - 1, by omega⟩
    simp only [sketch_Keep.l0]
    rw [if_neg (by omega), show i = s.length by omega]
  | succ m ih =>
    intro k i hi hk
    obtain ⟨k, rfl⟩ : ∃ m, k = m + 1 := ⟨k - 1, by omega⟩
    have hn := ih k (i + 1) (by omega) (by omega)
    have hl := keepU_len a d s ha i
    have hdi : rd d (i : Int) ∈ d := by rw [rd_nat d i (by omega)]; exact List.getElem_mem _
    have ht := tmod_of (rd d (i : Int)) i (hx _ hdi).1
    simp only [sketch_Keep.l0]
    rw [if_pos (by omega), if_pos (by omega), if_pos (by omega), w64 (by omega) (by omega)]
    rw [keepU_succ, show ((i + 1 : Nat) : Int) = (i : Int) + 1 by omega] at hn
    by_cases h : (i : Int) < a
    · rw [if_pos h] at hn
      rw [if_pos h, if_pos (by rw [if_pos h] at hl; omega)]
      exact hn
    · rw [if_neg h] at hn hl
      rw [if_neg h, if_pos (by omega), if_neg (by omega)]
      by_cases h2 : Int.tmod (rd d (i : Int)) ((i : Int) + 1) < a
      · rw [if_pos h2] at hn
        rw [if_pos h2, if_pos ht.1, if_pos (by omega)]
        exact hn
      · rw [if_neg h2] at hn
        rw [if_neg h2]
        exact hn
theorem Keep_f (a : Int) (s d : List Int) (hd : d.length ≤ 17592186044416) (k : Nat) (hk : s.length + d.length + 2 < k) :
    sketch_Keep.f k a s d = some (if kB a = true ∧ streamB s = true ∧ diceB s d = true then (keepU a d s s.length, 0) else ([], 2)) := by
  obtain ⟨k, rfl⟩ : ∃ m, k = m + 1 := ⟨k - 1, by omega⟩
  unfold sketch_Keep.f
  rw [isK_f]
  simp only [Option.bind_some, xStream.f]
  cases hb : kB a with
  | false => simp [sketch_Keep.j0]
  | true =>
    cases hs : streamB s with
    | false => simp [sketch_Keep.j0]
    | true =>
      have ha : 1 ≤ a ∧ a ≤ 8 := by simpa [kB] using hb
      have hl := ((streamB_iff s).mp hs).1
      by_cases hlen : d.length = s.length
      · rw [if_pos rfl, if_pos rfl, if_pos (by omega), Contains57_f d hd _ (by omega)]
        simp only [Option.bind_some]
        cases hall : d.all dieB with
        | false => simp [sketch_Keep.j0, diceB, hall]
        | true =>
          have hdb : diceB s d = true := by simp only [diceB, hall, decide_eq_true hlen, Bool.and_true]
          have hx := ((diceB_iff s d).mp hdb).2
          have hm := Keep_l a s d ha.1 hl hlen hx s.length k 0 (by omega) (by omega)
          rw [if_pos ⟨trivial, trivial, hdb⟩]
          simp only [sketch_Keep.j0]
          rw [if_neg (by decide)]
          simpa [keepU] using hm
      · have hdb : ¬ diceB s d = true := fun h => hlen ((diceB_iff s d).mp h).1
        rw [if_pos rfl, if_pos rfl, if_neg (by omega), if_neg (fun h => hdb h.2.2)]
        simp [sketch_Keep.j0]
theorem RKeep_l (a : Int) (s d : List Int) (ha : 1 ≤ a) (hs : s.length ≤ 40) (hd : d.length = s.length) (hx : ∀ x ∈ d, 0 ≤ x ∧ x < 40) (m : Nat) : ∀ (k i : Nat), i + m = s.length → m < k →
    congouref03_Keep.l0 k a d (keepU a d s i) s (s.length : Int) (i : Int) = some (keepU a d s s.length) := by
  induction m with
  | zero =>
    intro k i hi hk
    obtain ⟨k, rfl⟩ : ∃ m, k = m + 1 := ⟨k - 1, by omega⟩
    simp only [congouref03_Keep.l0]
    rw [if_neg (by omega), show i = s.length by omega]
  | succ m ih =>
    intro k i hi hk
    obtain ⟨k, rfl⟩ : ∃ m, k = m + 1 := ⟨k - 1, by omega⟩
    have hn := ih k (i + 1) (by omega) (by omega)
    have hl := keepU_len a d s ha i
    have hdi : rd d (i : Int) ∈ d := by rw [rd_nat d i (by omega)]; exact List.getElem_mem _
    have ht := tmod_of (rd d (i : Int)) i (hx _ hdi).1
    simp only [congouref03_Keep.l0]
    rw [if_pos (by omega), if_pos (by omega), if_pos (by omega), w64 (by omega) (by omega)]
    rw [keepU_succ, show ((i + 1 : Nat) : Int) = (i : Int) + 1 by omega] at hn
    by_cases h : (i : Int) < a
    · rw [if_pos h] at hn
      rw [if_pos h, if_pos (by rw [if_pos h] at hl; omega)]
      exact hn
    · rw [if_neg h] at hn hl
      rw [if_neg h, if_pos (by omega), if_neg (by omega)]
      by_cases h2 : Int.tmod (rd d (i : Int)) ((i : Int) + 1) < a
      · rw [if_pos h2] at hn
        rw [if_pos h2, if_pos ht.1, if_pos (by omega)]
        exact hn
      · rw [if_neg h2] at hn
        rw [if_neg h2]
        exact hn
theorem RKeep_f (a : Int) (s d : List Int) (ha : kB a = true) (hs : streamB s = true) (hd : diceB s d = true) (k : Nat) (hk : s.length < k) : congouref03_Keep.f k a s d = some (keepU a d s s.length) := by
  have ha' : 1 ≤ a ∧ a ≤ 8 := by simpa [kB] using ha
  obtain ⟨h1, h2⟩ := (diceB_iff s d).mp hd
  unfold congouref03_Keep.f
  have := RKeep_l a s d ha'.1 ((streamB_iff s).mp hs).1 h1 h2 s.length k 0 (by omega) (by omega)
  simpa [keepU] using this
theorem Dice_l (s l : List Int) (hl : l.length ≤ 17592186044416) (d : Nat) : ∀ (k i : Nat), i + d = l.length → d < k →
    congouref03_Dice.l0 k s l l (l.length : Int) (i : Int) = some (decide (l.length = s.length) && (l.drop i).all dieB) := by
  induction d with
  | zero =>
    intro k i hi hk
    obtain ⟨k, rfl⟩ : ∃ m, k = m + 1 := ⟨k - 1, by omega⟩
    simp only [congouref03_Dice.l0]
    rw [if_neg (by omega), List.drop_eq_nil_of_le (by omega)]
    simp only [List.all_nil, Bool.and_true, Option.some.injEq]
    rw [Bool.eq_iff_iff]
    simp
    omega
  | succ d ih =>
    intro k i hi hk
    obtain ⟨k, rfl⟩ : ∃ m, k = m + 1 := ⟨k - 1, by omega⟩
    have hlt : i < l.length := by omega
    have hd : l.drop i = l[i] :: l.drop (i + 1) := List.drop_eq_getElem_cons hlt
    simp only [congouref03_Dice.l0]
    rw [if_pos (by omega), if_pos (by omega), if_pos (by omega), rd_nat l i hlt, hd, List.all_cons]
    by_cases h0 : l[i] < 0
    · rw [if_pos h0]
      have : dieB l[i] = false := by simp [dieB]; omega
      simp [this]
    · rw [if_neg h0]
      by_cases h1 : l[i] > 39
      · rw [if_pos h1]
        have : dieB l[i] = false := by simp [dieB]; omega
        simp [this]
      · rw [if_neg h1, w64 (by omega) (by omega)]
        have hb : dieB l[i] = true := by simp [dieB]; omega
        have := ih k (i + 1) (by omega) (by omega)
        simp only [hb, Bool.true_and]
        simpa using this
theorem Dice_f (s l : List Int) (hl : l.length ≤ 17592186044416) (k : Nat) (hk : l.length < k) : congouref03_Dice.f k s l = some (diceB s l) := by
  unfold congouref03_Dice.f
  have := Dice_l s l hl l.length k 0 (by omega) hk
  simpa [diceB] using this
theorem diceB_take (s d : List Int) (hs : s.length ≤ 40) : diceB s (d.take 45) = diceB s d := by
  by_cases h : d.length ≤ 45
  · rw [List.take_of_length_le h]
  · have h1 : ¬ d.length = s.length := by omega
    have h2 : ¬ (d.take 45).length = s.length := by rw [List.length_take]; omega
    unfold diceB
    rw [decide_eq_false h1, decide_eq_false h2]
    rfl
theorem Index_l (l : List Int) (x : Int) (hl : l.length ≤ 17592186044416) (d : Nat) : ∀ (k i : Nat), i + d = l.length → d < k →
    ∃ r, slices_Index_int_int.l0 k l x (l.length : Int) (i : Int) = some r ∧ (r ≥ 0 ↔ x ∈ l.drop i) := by
  induction d with
  | zero =>
    intro k i hi hk
    obtain ⟨k, rfl⟩ : ∃ m, k = m + 1 := ⟨k - 1, by omega⟩
    refine ⟨-1, ?_, ?_⟩
    · simp only [slices_Index_int_int.l0]
      rw [if_neg (by omega)]
    · rw [List.drop_eq_nil_of_le (by omega)]
      simp
  | succ d ih =>
    intro k i hi hk
    obtain ⟨k, rfl⟩ : ∃ m, k = m + 1 := ⟨k - 1, by omega⟩
    have hlt : i < l.length := by omega
    have hd : l.drop i = l[i] :: l.drop (i + 1) := List.drop_eq_getElem_cons hlt
    obtain ⟨r, hr, hiff⟩ := ih k (i + 1) (by omega) (by omega)
    by_cases h : x = l[i]
    · refine ⟨(i : Int), ?_, ?_⟩
      · simp only [slices_Index_int_int.l0]
        rw [if_pos (by omega), if_pos (by omega), if_pos (by omega), rd_nat l i hlt, if_pos h]
      · rw [hd, List.mem_cons]
        exact ⟨fun _ => .inl h, fun _ => by omega⟩
    · refine ⟨r, ?_, ?_⟩
      · simp only [slices_Index_int_int.l0]
        rw [if_pos (by omega), if_pos (by omega), if_pos (by omega), rd_nat l i hlt, if_neg h, w64 (by omega) (by omega)]
        exact hr
      · rw [hd, List.mem_cons]
        exact ⟨fun h2 => .inr (hiff.mp h2), fun h2 => h2.elim (fun h3 => absurd h3 h) hiff.mpr⟩
theorem Contains_f (l : List Int) (x : Int) (hl : l.length ≤ 17592186044416) (k : Nat) (hk : l.length < k) : slices_Contains_int_int.f k l x = some (decide (x ∈ l)) := by
  obtain ⟨r, hr, hiff⟩ := Index_l l x hl l.length k 0 (by omega) hk
  unfold slices_Contains_int_int.f slices_Index_int_int.f
  rw [show (0 : Int) = ((0 : Nat) : Int) from rfl, hr]
  simp only [Option.bind_some, List.drop_zero, Option.some.injEq, decide_eq_decide] at hiff ⊢
  exact hiff
end Go.Proofs.Ytdffhffhnjkcpaa.X
