/- What isStream and isK compute, as plain functions. -/
import Derived.Test.YtdffhffhnjkcpaaXG5a
import Derived.Test.YtdffhffhnjkcpaaXG1a
namespace Go.Proofs.Ytdffhffhnjkcpaa.X
open Go.RowKit Go.Proofs.YtdffhffhnjkcpaaW.PrintWords Go.Proofs.YtdffhffhnjkcpaaW.PrintLast Go.Proofs.YtdffhffhnjkcpaaW.PrintMore
set_option linter.unusedVariables false
set_option linter.unusedSimpArgs false

def keyB (x : Int) : Bool := decide (0 ≤ x ∧ x < 16)
def streamB (l : List Int) : Bool := decide (l.length ≤ 40) && l.all keyB
def kB (k : Int) : Bool := decide (1 ≤ k ∧ k ≤ 8)

theorem streamB_iff (l : List Int) : streamB l = true ↔ l.length ≤ 40 ∧ ∀ x ∈ l, 0 ≤ x ∧ x < 16 := by
  simp [streamB, keyB]
theorem w64 {i : Int} (h0 : -9223372036854775808 ≤ i) (h : i ≤ 9223372036854775807) : wrap64 i = i := by
  unfold wrap64
  omega
theorem rd_nat (l : List Int) (i : Nat) (h : i < l.length) : rd l (i : Int) = l[i] := by
  simp [rd, List.getD_eq_getElem?_getD, List.getElem?_eq_getElem h]

theorem isKey_f (x : Int) : sketch_isKey.f x = some (keyB x) := by
  unfold sketch_isKey.f keyB
  by_cases h : 0 ≤ x
  · rw [if_pos (show x ≥ 0 from h)]
    simp [h]
  · rw [if_neg (show ¬ x ≥ 0 from h)]
    simp [h]
theorem isK_f (x : Int) : sketch_isK.f x = some (kB x) := by
  unfold sketch_isK.f kB
  by_cases h : 1 ≤ x
  · rw [if_pos (show x ≥ 1 from h)]
    simp [h]
  · rw [if_neg (show ¬ x ≥ 1 from h)]
    simp [h]
theorem isStream1_f (x : Int) : sketch_isStream_1.f x = some (!keyB x) := by
  simp [sketch_isStream_1.f, isKey_f]

theorem idx74 (l : List Int) (hl : l.length ≤ 40) (d : Nat) : ∀ (k i : Nat), i + d = l.length → d < k →
    ∃ r, slices_IndexFunc_int_int_with74.l0 k l (l.length : Int) (i : Int) = some r ∧ (r ≥ 0 ↔ (l.drop i).all keyB = false) := by
  induction d with
  | zero =>
    intro k i hi hk
    obtain ⟨k, rfl⟩ : ∃ m, k = m + 1 := ⟨k - 1, by omega⟩
    refine ⟨-1, ?_, ?_⟩
    · simp only [slices_IndexFunc_int_int_with74.l0]
      rw [if_neg (by omega)]
    · rw [List.drop_eq_nil_of_le (by omega)]
      simp
  | succ d ih =>
    intro k i hi hk
    obtain ⟨k, rfl⟩ : ∃ m, k = m + 1 := ⟨k - 1, by omega⟩
    have hlt : i < l.length := by omega
    have hd : l.drop i = l[i] :: l.drop (i + 1) := List.drop_eq_getElem_cons hlt
    obtain ⟨r, hr, hiff⟩ := ih k (i + 1) (by omega) (by omega)
    cases hb : keyB l[i] with
    | true =>
      refine ⟨r, ?_, ?_⟩
      · simp only [slices_IndexFunc_int_int_with74.l0]
        rw [if_pos (by omega), if_pos (by omega), if_pos (by omega), rd_nat l i hlt, isStream1_f, hb, w64 (by omega) (by omega)]
        simpa using hr
      · rw [hd, List.all_cons, hb, Bool.true_and]
        exact hiff
    | false =>
      refine ⟨(i : Int), ?_, ?_⟩
      · simp only [slices_IndexFunc_int_int_with74.l0]
        rw [if_pos (by omega), if_pos (by omega), if_pos (by omega), rd_nat l i hlt, isStream1_f, hb]
        simp
      · rw [hd, List.all_cons, hb]
        simp

theorem isStream_f (l : List Int) : ∃ k, sketch_isStream.f k l = some (streamB l) := by
  by_cases h : l.length ≤ 40
  · obtain ⟨r, hr, hiff⟩ := idx74 l h l.length (l.length + 1) 0 (by omega) (by omega)
    refine ⟨l.length + 1, ?_⟩
    unfold sketch_isStream.f
    rw [if_pos (by omega)]
    unfold slices_ContainsFunc_int_int_with74.f slices_IndexFunc_int_int_with74.f
    rw [show (0 : Int) = ((0 : Nat) : Int) from rfl, hr]
    simp only [Option.bind_some, List.drop_zero] at hiff ⊢
    unfold streamB
    rw [decide_eq_true h, Bool.true_and]
    cases hb : l.all keyB with
    | true =>
      rw [hb] at hiff
      have : ¬ r ≥ 0 := fun h => by simpa using hiff.mp h
      simp [this]
    | false =>
      rw [hb] at hiff
      have : r ≥ 0 := hiff.mpr rfl
      simp [this]
  · refine ⟨0, ?_⟩
    unfold sketch_isStream.f streamB
    rw [if_neg (by omega), decide_eq_false h]
    rfl
theorem isStream_calls (A0 : Option Addr) (c0 : Nat) (l0 : List Int) (w : World) (hr0 : Kd.C (Kd.int .i64) w A0 l0.length l0) (hc0 : l0.length ≤ c0) :
    Calls Try.prog 55 #[.slice A0 l0.length c0] w fun e w' => e = .returned (.bool (streamB l0)) ∧ Drawn0 w w' := by
  obtain ⟨k, hk⟩ := isStream_f l0
  exact sketch_isStream.calls k A0 c0 l0 _ w hr0 hc0 hk
def xStream.f (l : List Int) : Option Bool := some (streamB l)
theorem xStream.calls (A0 : Option Addr) (c0 : Nat) (l0 : List Int) (r : Bool) (w : World) (hr0 : Kd.C (Kd.int .i64) w A0 l0.length l0) (hc0 : l0.length ≤ c0) (h : xStream.f l0 = some r) :
    Calls Try.prog 55 #[.slice A0 l0.length c0] w fun e w' => e = .returned (.bool r) ∧ Drawn0 w w' := by
  obtain rfl := Option.some.inj h
  exact isStream_calls A0 c0 l0 w hr0 hc0
theorem isKey_calls (a : Int) (w : World) : Calls Try.prog 58 #[.int .i64 a] w fun e w' => e = .returned (.bool (keyB a)) ∧ Drawn0 w w' := sketch_isKey.calls a _ w (isKey_f a)
theorem isK_calls (a : Int) (w : World) : Calls Try.prog 54 #[.int .i64 a] w fun e w' => e = .returned (.bool (kB a)) ∧ Drawn0 w w' := sketch_isK.calls a _ w (isK_f a)
end Go.Proofs.Ytdffhffhnjkcpaa.X
