/- Split: permutations are taken off until nothing is left. -/
import Derived.Test.YtefmafbbnkkpjaaSV
import Derived.Test.YtefmafbbnkkpjaaXG2a
import Derived.Test.YtefmafbbnkkpjaaX0
import Derived.Test.YtefmafbbnkkpjaaXf98
import Derived.Test.YtefmafbbnkkpjaaE97
import Derived.Test.YtefmafbbnkkpjaaXG1a
import Derived.Lib.Hide
import Derived.Deep.RegionLawGrows
namespace Go.Proofs.Ytefmafbbnkkpjaa.Pure
open Go Go.RowKit Go.Proofs.Ytefmafbbnkkpjaa.X Go.Proofs.YtefmafbbnkkpjaaW.PrintWords Go.Proofs.YtefmafbbnkkpjaaW.PrintLast Go.Proofs.YtefmafbbnkkpjaaW.PrintMore
set_option linter.unusedVariables false
set_option linter.unusedSimpArgs false

/-- a sum over the numbers below n -/
def rs (n : Nat) (f : Nat → Int) : Int := ((List.range n).map f).sum
theorem rs_succ (n : Nat) (f : Nat → Int) : rs (n + 1) f = rs n f + f n := by
  unfold rs
  rw [List.range_succ, List.map_append, List.sum_append]
  simp
theorem rs_congr {n : Nat} {f g : Nat → Int} (h : ∀ i, i < n → f i = g i) : rs n f = rs n g := by
  unfold rs
  rw [List.map_congr_left fun i hi => h i (List.mem_range.mp hi)]
theorem rs_add (f g : Nat → Int) : ∀ n, rs n (fun i => f i + g i) = rs n f + rs n g
  | 0 => rfl
  | n + 1 => by rw [rs_succ, rs_succ, rs_succ, rs_add f g n]; omega
theorem rs_single {c : Nat} {m : Int} : ∀ n, rs n (fun i => if i = c then m else 0) = if c < n then m else 0
  | 0 => rfl
  | n + 1 => by
    rw [rs_succ, rs_single n]
    by_cases h : c < n
    · rw [if_pos h, if_neg (by omega), if_pos (by omega)]; omega
    · rw [if_neg h]
      by_cases h2 : n = c
      · rw [if_pos h2, if_pos (by omega)]; omega
      · rw [if_neg h2, if_neg (by omega)]; rfl
theorem rs_list (r : List Int) : r.sum = rs r.length (fun (j : Nat) => rd r (j : Int)) := by
  unfold rs
  congr 1
  apply List.ext_getElem
  · simp
  · intro i h1 h2
    simp [rd, List.getD_eq_getElem?_getD, List.getElem?_eq_getElem h1]
/-- a permutation comes by each number once -/
theorem rs_perm {n : Nat} {p : List Int} (hp : PermOf n p) {c : Nat} (hc : c < n) (m : Int) : rs n (fun (i : Nat) => if rd p (i : Int) = (c : Int) then m else 0) = m := by
  have e1 : rs n (fun (i : Nat) => if rd p (i : Int) = (c : Int) then m else 0) = (p.map fun x => if x = (c : Int) then m else 0).sum := by
    unfold rs
    congr 1
    apply List.ext_getElem
    · simp [hp.len]
    · intro i h1 h2
      have : i < p.length := by simpa using h2
      simp [rd, List.getD_eq_getElem?_getD, List.getElem?_eq_getElem this]
  rw [e1, Hall.perm_sum (hp.perm.map _)]
  have e2 : ((ints n).map fun x => if x = (c : Int) then m else 0).sum = rs n (fun i => if i = c then m else 0) := by
    unfold rs ints
    rw [List.map_map]
    congr 1
    apply List.map_congr_left
    intro i _
    simp only [Function.comp]
    by_cases h : i = c
    · rw [if_pos h, if_pos (by omega)]
    · rw [if_neg h, if_neg (by omega)]
  rw [e2, rs_single, if_pos hc]
def ei (l : List (List Int)) (i j : Nat) : Int := rd (rd_L1 l (i : Int)) (j : Int)
theorem countP_lt {P Q : Nat → Bool} (h : ∀ t, P t = true → Q t = true) {t0 : Nat} (hq : Q t0 = true) (hp : P t0 = false) : ∀ l : List Nat, t0 ∈ l → l.countP P < l.countP Q
  | [], hm => by cases hm
  | a :: l, hm => by
    rw [List.countP_cons, List.countP_cons]
    have hle : l.countP P ≤ l.countP Q := List.countP_mono_left fun t _ => h t
    rcases List.mem_cons.mp hm with e | hm
    · subst e
      rw [hq, hp]
      simp
      omega
    · have := countP_lt h hq hp l hm
      cases hpa : P a with
      | true => rw [h a hpa]; simp; omega
      | false => cases Q a <;> simp <;> omega
/-- a weight of D-ths -/
def fr (D x : Int) : S62 := ⟨x / (Int.gcd x D : Int), D / (Int.gcd x D : Int)⟩
end Go.Proofs.Ytefmafbbnkkpjaa.Pure
