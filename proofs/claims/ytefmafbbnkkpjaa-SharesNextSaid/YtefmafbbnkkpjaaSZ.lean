/- What SharesNext asks of the parts next below, by evaluation over the parts of the numbers up to 12. -/
import Derived.Test.YtefmafbbnkkpjaaSX
namespace Go.Proofs.Ytefmafbbnkkpjaa.Pure
open Go Go.RowKit Go.Proofs.Ytefmafbbnkkpjaa.X Go.Proofs.YtefmafbbnkkpjaaW.PrintWords Go.Proofs.YtefmafbbnkkpjaaW.PrintLast
set_option linter.unusedVariables false
set_option linter.unusedSimpArgs false

/-- Where one goes from and where it comes to, as far as place i. -/
def mvN (a b : List Int) : Nat → Option (Int × Int)
  | 0 => some (-1, -1)
  | i + 1 => match mvN a b i with
    | none => none
    | some (l, m) => if a.getD i 0 = b.getD i 0 + 1 ∧ l < 0 then some ((i : Int), m) else if b.getD i 0 = a.getD i 0 + 1 ∧ m < 0 then some (l, (i : Int)) else if a.getD i 0 = b.getD i 0 then some (l, m) else none
def mvOk (a b : List Int) : Bool := match mvN a b 13 with
  | none => false
  | some (l, m) => decide (0 ≤ l) && decide (l ≤ m)
def chkN (a : List Int) : Bool := (belowU a).all (fun b => domB a b && (a != b) && mvOk a b && (belowU a).all (fun c => (b == c) || !domB b c)) && (decide (0 < (belowU a).length) == decide (1 < a.getD 0 0))
set_option maxRecDepth 1000000 in
theorem next_all : ((List.range 12).all fun n => (allG 12 (n + 1) 12).all fun a => chkN a) = true := by decide +kernel
theorem next_of {a : List Int} (h : Pa a) : chkN a = true := by
  obtain ⟨n, hn, _, hm⟩ := pa_in h
  have := List.all_eq_true.mp next_all n (List.mem_range.mpr hn)
  exact List.all_eq_true.mp this a hm
theorem mvN_lt {a b : List Int} {i : Nat} (h : mvN a b (i + 1) ≠ none) : mvN a b i ≠ none := by
  intro e
  rw [mvN, e] at h
  exact h rfl
theorem mvN_le {a b : List Int} : ∀ (d i : Nat), i + d = 13 → mvN a b 13 ≠ none → mvN a b i ≠ none
  | 0, i, h, hn => by obtain rfl : i = 13 := by omega
                      exact hn
  | d + 1, i, h, hn => mvN_lt (mvN_le d (i + 1) (by omega) hn)
/-- The three ways of a step that does not fail. -/
theorem mvN_step {a b : List Int} {i : Nat} {l m : Int} (h : mvN a b i = some (l, m)) (hn : mvN a b (i + 1) ≠ none) :
    ((a.getD i 0 = b.getD i 0 + 1 ∧ l < 0) ∧ mvN a b (i + 1) = some ((i : Int), m)) ∨ ((¬ a.getD i 0 = b.getD i 0 + 1 ∧ b.getD i 0 = a.getD i 0 + 1 ∧ m < 0) ∧ mvN a b (i + 1) = some (l, (i : Int))) ∨ (a.getD i 0 = b.getD i 0 ∧ mvN a b (i + 1) = some (l, m)) := by
  have e : mvN a b (i + 1) = if a.getD i 0 = b.getD i 0 + 1 ∧ l < 0 then some ((i : Int), m) else if b.getD i 0 = a.getD i 0 + 1 ∧ m < 0 then some (l, (i : Int)) else if a.getD i 0 = b.getD i 0 then some (l, m) else none := by
    rw [mvN, h]
  by_cases h1 : a.getD i 0 = b.getD i 0 + 1 ∧ l < 0
  · exact .inl ⟨h1, by rw [e, if_pos h1]⟩
  · rw [if_neg h1] at e
    by_cases h2 : b.getD i 0 = a.getD i 0 + 1 ∧ m < 0
    · exact .inr (.inl ⟨⟨by omega, h2⟩, by rw [e, if_pos h2]⟩)
    · rw [if_neg h2] at e
      by_cases h3 : a.getD i 0 = b.getD i 0
      · exact .inr (.inr ⟨h3, by rw [e, if_pos h3]⟩)
      · rw [if_neg h3] at e
        exact absurd e hn
theorem below_rowsN {a : List Int} (h : Pa a) : (belowU a).length ≤ 12 ∧ ∀ r, r ∈ belowU a → Pa r ∧ r.sum = a.sum := by
  have hck := chk_of h
  simp only [chkB, Bool.and_eq_true, decide_eq_true_eq, List.all_eq_true] at hck
  obtain ⟨⟨⟨k1, k2⟩, k3⟩, k4⟩ := hck
  unfold belowU
  refine ⟨by rw [List.length_reverse]; exact k3, fun r hr => ?_⟩
  rw [List.mem_reverse] at hr
  unfold outP at hr
  have hm := List.mem_of_mem_take (List.mem_filter.mp hr).1
  exact ⟨(paB_iff r).mp (k2 r hm).1, (k2 r hm).2⟩
end Go.Proofs.Ytefmafbbnkkpjaa.Pure
