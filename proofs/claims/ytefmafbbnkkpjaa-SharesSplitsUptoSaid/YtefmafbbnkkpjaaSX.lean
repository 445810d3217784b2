/- What Split answers is a split. -/
import Derived.Test.YtefmafbbnkkpjaaSY
namespace Go.Proofs.Ytefmafbbnkkpjaa.Pure
open Go Go.RowKit Go.Proofs.Ytefmafbbnkkpjaa.X Go.Proofs.YtefmafbbnkkpjaaW.PrintWords Go.Proofs.YtefmafbbnkkpjaaW.PrintLast Go.Proofs.YtefmafbbnkkpjaaW.PrintMore
set_option linter.unusedVariables false
set_option linter.unusedSimpArgs false

/-- where all are good and divide one number, there is a multiple -/
theorem mulP_of {most : Int} {strict : Bool} {R : Int} (h1 : 1 ≤ R) (hm : R ≤ most) : ∀ (l : List S62) (d : Int), 1 ≤ d → d ∣ R → (∀ f ∈ l, OkF most strict f ∧ f.f1 ∣ R) → mulP most strict l d ≠ 0
  | [], d, hd, _, _ => by rw [show mulP most strict [] d = d from rfl]; omega
  | f :: fs, d, hd, hdR, h => by
    have hf := h f List.mem_cons_self
    have hdv := lcm_dvd' hdR hf.2
    have hle := Int.le_of_dvd (by omega) hdv
    rw [mulP_yes hf.1 (by omega)]
    exact mulP_of h1 hm fs _ (lcm_pos hd hf.1.d1) hdv fun g hg => h g (List.mem_cons_of_mem _ hg)
theorem fr_ok {most D x : Int} (h1 : 1 ≤ x) (h2 : x ≤ D) (hm : D ≤ most) : OkF most true (fr D x) ∧ (fr D x).f1 ∣ D ∧ val D (fr D x) = x ∧ (fr D x).f0 ≠ 0 := by
  have hg : (0 : Int) < Int.gcd x D := by
    have := Int.gcd_pos_of_ne_zero_left D (show x ≠ 0 by omega)
    omega
  have hg1 := Int.gcd_ediv_gcd_ediv_gcd_of_ne_zero_left (n := x) (m := D) (by omega)
  obtain ⟨a, ha⟩ : (Int.gcd x D : Int) ∣ x := Int.gcd_dvd_left ..
  obtain ⟨b, hb⟩ : (Int.gcd x D : Int) ∣ D := Int.gcd_dvd_right ..
  have ea : x / (Int.gcd x D : Int) = a := by conv => { lhs; arg 1; rw [ha] }; exact Int.mul_ediv_cancel_left _ (by omega)
  have eb : D / (Int.gcd x D : Int) = b := by conv => { lhs; arg 1; rw [hb] }; exact Int.mul_ediv_cancel_left _ (by omega)
  have hfr : fr D x = ⟨a, b⟩ := by unfold fr; rw [ea, eb]
  rw [ea, eb] at hg1
  generalize (Int.gcd x D : Int) = g at *
  have a1 : 1 ≤ a := by
    rcases Int.lt_or_le 0 a with h | h
    · exact h
    · have := Int.mul_le_mul_of_nonneg_left h (show 0 ≤ g by omega); omega
  have b1 : 1 ≤ b := by
    rcases Int.lt_or_le 0 b with h | h
    · exact h
    · have := Int.mul_le_mul_of_nonneg_left h (show 0 ≤ g by omega); omega
  have hab : a ≤ b := by
    rcases Int.lt_or_le b a with h | h
    · have := Int.mul_lt_mul_of_pos_left h hg; omega
    · exact h
  have hbD : b ≤ D := by
    have := Int.mul_le_mul_of_nonneg_right (show 1 ≤ g by omega) (show 0 ≤ b by omega); omega
  rw [hfr]
  refine ⟨⟨b1, by show b ≤ most; omega, by show 0 ≤ a; omega, fun _ => hab, hg1⟩, ⟨g, by rw [Int.mul_comm]; exact hb⟩, ?_, by show a ≠ 0; omega⟩
  unfold val
  show a * (D / b) = x
  rw [hb, Int.mul_ediv_cancel _ (by omega), ha, Int.mul_comm]
theorem split_of {n : Nat} (hn1 : 1 ≤ n) (hn : n ≤ 5) {L0 : Nat → Nat → Int} {D : Int} (hD1 : 1 ≤ D) (hD : D ≤ 10000) {l : List (List Int)} {all : List (List Int)} {xs : List Int} (h : St n L0 D l 0 all xs) : SplitOf n L0 D all (xs.map (fr D)) := by
  have hok : ∀ f ∈ xs.map (fr D), OkF 10000000 true f ∧ f.f1 ∣ D ∧ f.f0 ≠ 0 := fun f hf => by
    obtain ⟨x, hx, rfl⟩ := List.mem_map.mp hf
    have := h.xs1 x hx
    obtain ⟨a, b, _, c⟩ := fr_ok (most := 10000000) this.1 this.2 (by omega)
    exact ⟨a, b, c⟩
  have hne := mulP_of (most := 10000000) (strict := true) hD1 (by omega) (xs.map (fr D)) 1 (by omega) ⟨D, by omega⟩ fun f hf => ⟨(hok f hf).1, (hok f hf).2.1⟩
  obtain ⟨a1, a2, _, a4, a5⟩ := mulP_spec 10000000 true (xs.map (fr D)) 1 (by omega) (by decide) hne
  obtain ⟨c, hc⟩ := a5 D ⟨D, by omega⟩ fun f hf => (hok f hf).2.1
  have hrow : rowV D (xs.map (fr D)) = xs := by
    unfold rowV
    rw [List.map_map]
    conv => { rhs; rw [← List.map_id xs] }
    refine List.map_congr_left fun x hx => ?_
    have := h.xs1 x hx
    exact (fr_ok (most := 10000) this.1 this.2 (by omega)).2.2.1
  generalize hA : mulP 10000000 true (xs.map (fr D)) 1 = A at *
  have hc1 : 1 ≤ c := by
    rcases Int.lt_or_le 0 c with h9 | h9
    · exact h9
    · have := Int.mul_le_mul_of_nonneg_left h9 (show 0 ≤ A by omega); omega
  have hsc : xs = (rowV A (xs.map (fr D))).map fun x => x * c := by
    have hr2 : rowV (A * c) (xs.map (fr D)) = (rowV A (xs.map (fr D))).map fun x => x * c := by
      unfold rowV
      rw [List.map_map, List.map_map, List.map_map]
      refine List.map_congr_left fun x hx => ?_
      have hm := a4 _ (List.mem_map.mpr ⟨x, hx, rfl⟩)
      obtain ⟨q, hq⟩ := hm.2
      have := hm.1.d1
      show val (A * c) (fr D x) = val A (fr D x) * c
      unfold val
      rw [hq, Int.mul_assoc, Int.mul_ediv_cancel_left _ (by omega), Int.mul_ediv_cancel_left _ (by omega), Int.mul_assoc]
    rw [← hr2, ← hc, hrow]
  have hcan : ∀ {a b : Int}, a * c = b * c → a = b := fun h => Int.eq_of_mul_eq_mul_right (by omega) h
  have hpos := h.pos
  have h25 := sq_le hn
  refine ⟨by rw [List.length_map, h.al], by omega, by rw [hA]; omega, h.perm, fun f hf => (hok f hf).2.2, ?_, fun i hi j hj => ?_⟩
  · rw [hA]
    have := h.sum
    rw [hsc, sum_scale] at this
    exact hcan (by omega)
  · rw [hA]
    have e := h.cnt i hi j hj
    have e0 := rs_ge n (fun j hj => h.nn i hi j hj) j hj
    rw [h.row i hi] at e0
    have e1 := h.nn i hi j hj
    have e2 : L0 i j = con i j all xs := by omega
    have e3 : con i j all xs = con i j all (rowV A (xs.map (fr D))) * c := by
      conv => { lhs; rw [hsc] }
      exact con_scale i j c all _
    rw [e2, e3, hc, Int.mul_assoc, Int.mul_comm c A]
end Go.Proofs.Ytefmafbbnkkpjaa.Pure
