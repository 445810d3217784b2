/- What of and order tell of a list of counters, and the search of a number. -/
import Derived.Test.YtdffhffhnjkcpaaS8
import Derived.Test.YtdffhffhnjkcpaaS2
import Derived.Test.YtdffhffhnjkcpaaXf47
import Derived.Test.YtdffhffhnjkcpaaXG1a
import Derived.Test.YtdffhffhnjkcpaaXG2a
namespace Go.Proofs.Ytdffhffhnjkcpaa.X
open Go.RowKit Go.Proofs.YtdffhffhnjkcpaaW.PrintWords Go.Proofs.YtdffhffhnjkcpaaW.PrintLast Go.Proofs.YtdffhffhnjkcpaaW.PrintMore
set_option linter.unusedVariables false
set_option linter.unusedSimpArgs false

theorem rdT70_nat (l : List S70) (i : Nat) (h : i < l.length) : rd_T70 l (i : Int) = l[i] := by
  simp [rd_T70, List.getD_eq_getElem?_getD, List.getElem?_eq_getElem h]
def ofU (l : List S70) (y : Int) : Int × Int × Int := match gt? l y with
  | some c => (c.f0, c.f1, c.f2)
  | none => (y, 0, 0)
theorem ofU_cons (c : S70) (r : List S70) (y : Int) : ofU (c :: r) y = if c.f0 = y then (c.f0, c.f1, c.f2) else ofU r y := by
  by_cases h : c.f0 = y
  · rw [if_pos h]
    simp [ofU, gt?, is, h]
  · rw [if_neg h]
    simp [ofU, gt?, is, h]
theorem of_l (l : List S70) (y : Int) (hl : l.length ≤ 1000000) (d : Nat) : ∀ (k i : Nat), i + d = l.length → d < k →
    congoulaw03_of.l0 k y l (l.length : Int) (i : Int) = some (ofU (l.drop i) y) := by
  induction d with
  | zero =>
    intro k i hi hk
    obtain ⟨k, rfl⟩ : ∃ m, k = m + 1 := ⟨k - 1, by omega⟩
    simp only [congoulaw03_of.l0]
    rw [if_neg (by omega), List.drop_eq_nil_of_le (by omega)]
    rfl
  | succ d ih =>
    intro k i hi hk
    obtain ⟨k, rfl⟩ : ∃ m, k = m + 1 := ⟨k - 1, by omega⟩
    have hlt : i < l.length := by omega
    have hd : l.drop i = l[i] :: l.drop (i + 1) := List.drop_eq_getElem_cons hlt
    simp only [congoulaw03_of.l0]
    rw [if_pos (by omega), if_pos (by omega), if_pos (by omega), rdT70_nat l i hlt, hd]
    rw [ofU_cons]
    by_cases h : l[i].f0 = y
    · rw [if_pos h, if_pos h]
    · rw [if_neg h, if_neg h, w64 (by omega) (by omega), show (i : Int) + 1 = ((i + 1 : Nat) : Int) by omega, ih k (i + 1) (by omega) (by omega)]
theorem of_f (l : List S70) (y : Int) (hl : l.length ≤ 1000000) (k : Nat) (hk : l.length < k) : congoulaw03_of.f k l y = some (ofU l y) := of_l l y hl l.length k 0 (by omega) hk
theorem ofU_val (l : List S70) (y : Int) : (ofU l y).2.1 = val l y := by
  unfold ofU val
  cases gt? l y <;> rfl
theorem ofU_off {l : List S70} (h : ∀ c ∈ l, c.f2 = 0) (y : Int) : (ofU l y).2.2 = 0 := by
  unfold ofU
  cases hg : gt? l y with
  | none => rfl
  | some c => exact h c (get_some hg).1
theorem order_l (a : Int) (l : List S70) (hr : l.Pairwise (fun c d => c.f0 < d.f0)) (hk0 : ∀ c ∈ l, 0 ≤ c.f0 ∧ c.f0 < 16) (hl : l.length ≤ 1000000) (d : Nat) : ∀ (k i : Nat), i + d = l.length → d < k →
    congoulaw03_order.l0 k a l l (l.length : Int) (i : Int) = some (decide ((l.length : Int) ≤ a)) := by
  induction d with
  | zero =>
    intro k i hi hk
    obtain ⟨k, rfl⟩ : ∃ m, k = m + 1 := ⟨k - 1, by omega⟩
    simp only [congoulaw03_order.l0]
    rw [if_neg (by omega)]
  | succ d ih =>
    intro k i hi hk
    obtain ⟨k, rfl⟩ : ∃ m, k = m + 1 := ⟨k - 1, by omega⟩
    have hlt : i < l.length := by omega
    have hy := hk0 l[i] (List.getElem_mem hlt)
    have hn := ih k (i + 1) (by omega) (by omega)
    simp only [congoulaw03_order.l0]
    rw [if_pos (by omega), if_pos (by omega), if_pos (by omega), rdT70_nat l i hlt, if_neg (by omega), if_neg (by omega), w64 (i := (i : Int) + 1) (by omega) (by omega), show (i : Int) + 1 = ((i + 1 : Nat) : Int) by omega]
    by_cases h0 : (i : Int) > 0
    · have hp := List.pairwise_iff_getElem.mp hr (i - 1) i (by omega) hlt (by omega)
      rw [if_pos h0, w64 (i := (i : Int) - 1) (by omega) (by omega), show (i : Int) - 1 = ((i - 1 : Nat) : Int) by omega, if_pos (by omega), if_pos (by omega), rdT70_nat l (i - 1) (by omega), if_neg (by omega)]
      exact hn
    · rw [if_neg h0]
      exact hn
theorem order_f (a : Int) (l : List S70) (hr : l.Pairwise (fun c d => c.f0 < d.f0)) (hk0 : ∀ c ∈ l, 0 ≤ c.f0 ∧ c.f0 < 16) (hl : l.length ≤ 1000000) (k : Nat) (hk : l.length < k) : congoulaw03_order.f k a l = some (decide ((l.length : Int) ≤ a)) := order_l a l hr hk0 hl l.length k 0 (by omega) hk
theorem Index_lS (l : List Int) (x : Int) (hl : l.length ≤ 17592186044416) (d : Nat) : ∀ (k i : Nat), i + d = l.length → d < k →
    ∃ r, slices_Index_int_int.l0 k l x (l.length : Int) (i : Int) = some r ∧ (r ≥ 0 ↔ x ∈ l.drop i) := by
  induction d with
  | zero =>
    intro k i hi hk
    obtain ⟨k, rfl⟩ : ∃ m, k = m + 1 := ⟨k - 1, by omega⟩
    refine ⟨-1, ?_, ?_⟩
    · simp only [slices_Index_int_int.l0]
      rw [if_neg (by omega)]
    · rw [List.drop_eq_nil_of_le (by omega)]
      simp
  | succ d ih =>
    intro k i hi hk
    obtain ⟨k, rfl⟩ : ∃ m, k = m + 1 := ⟨k - 1, by omega⟩
    have hlt : i < l.length := by omega
    have hd : l.drop i = l[i] :: l.drop (i + 1) := List.drop_eq_getElem_cons hlt
    obtain ⟨r, hr, hiff⟩ := ih k (i + 1) (by omega) (by omega)
    by_cases h : x = l[i]
    · refine ⟨(i : Int), ?_, ?_⟩
      · simp only [slices_Index_int_int.l0]
        rw [if_pos (by omega), if_pos (by omega), if_pos (by omega), rd_nat l i hlt, if_pos h]
      · rw [hd, List.mem_cons]
        exact ⟨fun _ => .inl h, fun _ => by omega⟩
    · refine ⟨r, ?_, ?_⟩
      · simp only [slices_Index_int_int.l0]
        rw [if_pos (by omega), if_pos (by omega), if_pos (by omega), rd_nat l i hlt, if_neg h, w64 (by omega) (by omega)]
        exact hr
      · rw [hd, List.mem_cons]
        exact ⟨fun h2 => .inr (hiff.mp h2), fun h2 => h2.elim (fun h3 => absurd h3 h) hiff.mpr⟩
theorem Contains_fS (l : List Int) (x : Int) (hl : l.length ≤ 17592186044416) (k : Nat) (hk : l.length < k) : slices_Contains_int_int.f k l x = some (decide (x ∈ l)) := by
  obtain ⟨r, hr, hiff⟩ := Index_lS l x hl l.length k 0 (by omega) hk
  unfold slices_Contains_int_int.f slices_Index_int_int.f
  rw [show (0 : Int) = ((0 : Nat) : Int) from rfl, hr]
  simp only [Option.bind_some, List.drop_zero, Option.some.injEq, decide_eq_decide] at hiff ⊢
  exact hiff
end Go.Proofs.Ytdffhffhnjkcpaa.X
