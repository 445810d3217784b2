/- Gives: what both packages do with them; the program's way from shares to less uneven ones. -/
import Derived.Test.YtefmafbbnkkpjaaX0
import Derived.Test.YtefmafbbnkkpjaaXG2a
import Derived.Test.YtefmafbbnkkpjaaXf60
import Derived.Test.YtefmafbbnkkpjaaXf73
import Derived.Test.YtefmafbbnkkpjaaXG1a
import Derived.Test.YtefmafbbnkkpjaaXf74
import Derived.Test.YtefmafbbnkkpjaaSA
namespace Go.Proofs.Ytefmafbbnkkpjaa.Pure
open Go Go.RowKit Go.Proofs.Ytefmafbbnkkpjaa.X Go.Proofs.YtefmafbbnkkpjaaW.PrintWords Go.Proofs.YtefmafbbnkkpjaaW.PrintLast
set_option linter.unusedVariables false
set_option linter.unusedSimpArgs false

/-- a give is possible -/
structure May (l : List Int) (f t m : Int) : Prop where
  f0 : 0 ≤ f
  f1 : f < l.length
  t0 : 0 ≤ t
  t1 : t < l.length
  ne : f ≠ t
  m1 : 1 ≤ m
  m20 : m ≤ 20
  two : 2 * m ≤ rd l f - rd l t
theorem May.may {l : List Int} {f t m : Int} (h : May l f t m) : MayGive l f.toNat t.toNat m := by
  have := h.f0; have := h.f1; have := h.t0; have := h.t1; have := h.ne
  exact ⟨by omega, by omega, by omega, h.m1, h.two⟩
theorem may_of {l : List Int} {i j : Nat} {m : Int} (h : MayGive l i j m) (h20 : m ≤ 20) : May l i j m := by
  have := h.hi; have := h.hj; have := h.ne
  exact ⟨by omega, by omega, by omega, by omega, by omega, h.m1, h20, by rw [rd_at, rd_at]; exact h.two⟩
theorem give_sh {l : List Int} {i j : Nat} {m : Int} (h : MayGive l i j m) (s : Sh l) : Sh (give l i j m) :=
  ⟨by rw [give_len]; exact s.h1, by rw [give_len]; exact s.h6, give_mem h s.hb⟩
theorem rd_bd {l : List Int} (s : Sh l) (i : Int) : 0 ≤ rd l i ∧ rd l i ≤ 20 := by
  unfold rd
  rcases Nat.lt_or_ge i.toNat l.length with c | c
  · exact s.hb _ (getD_mem c)
  · rw [List.getD_eq_getElem?_getD, List.getElem?_eq_none c]; simp
theorem set_give {l : List Int} {f t m : Int} (h : May l f t m) (s : Sh l) :
    (l.set f.toNat (wrap64 (rd l f - m))).set t.toNat (wrap64 (rd (l.set f.toNat (wrap64 (rd l f - m))) t + m)) = give l f.toNat t.toNat m := by
  have := h.f0; have := h.f1; have := h.t0; have := h.t1; have := h.ne; have := h.m1; have := h.m20
  have b1 := rd_bd s f
  have b2 := rd_bd s t
  have e : rd (l.set f.toNat (wrap64 (rd l f - m))) t = rd l t := by
    unfold rd
    rw [set_getD _ _ _ _ (by omega), if_neg (by omega)]
  rw [e, w64 (by omega) (by omega), w64 (by omega) (by omega)]
  rfl
theorem do_f {l : List Int} (s : Sh l) (f t m : Int) : shares_Give_do.f f t m l = some (if dc (May l f t m) = true then (true, give l f.toNat t.toNat m) else (false, l)) := by
  have hno : ¬ May l f t m → some (false, l) = some (if dc (May l f t m) = true then (true, give l f.toNat t.toNat m) else (false, l)) := by
    intro h; rw [dc_false h, if_neg (by decide)]
  have b1 := rd_bd s f
  have b2 := rd_bd s t
  unfold shares_Give_do.f
  by_cases c1 : f < 0
  · rw [if_pos c1]; exact hno fun h => absurd h.f0 (by omega)
  rw [if_neg c1]
  by_cases c2 : f ≥ (l.length : Int)
  · rw [if_pos c2]; exact hno fun h => absurd h.f1 (by omega)
  rw [if_neg c2]
  by_cases c3 : t < 0
  · rw [if_pos c3]; exact hno fun h => absurd h.t0 (by omega)
  rw [if_neg c3]
  by_cases c4 : t ≥ (l.length : Int)
  · rw [if_pos c4]; exact hno fun h => absurd h.t1 (by omega)
  rw [if_neg c4]
  by_cases c5 : f = t
  · rw [if_pos c5]; exact hno fun h => h.ne c5
  rw [if_neg c5]
  by_cases c6 : m < 1
  · rw [if_pos c6]; exact hno fun h => absurd h.m1 (by omega)
  rw [if_neg c6]
  by_cases c7 : m > 20
  · rw [if_pos c7]; exact hno fun h => absurd h.m20 (by omega)
  rw [if_neg c7, if_pos (by omega), if_pos (by omega), if_pos (by omega), if_pos (by omega), w64 (i := rd l f - rd l t) (by omega) (by omega), w64 (i := 2 * m) (by omega) (by omega)]
  by_cases c8 : rd l f - rd l t < 2 * m
  · rw [if_pos c8]; exact hno fun h => absurd h.two (by omega)
  · have h : May l f t m := ⟨by omega, by omega, by omega, by omega, c5, by omega, by omega, by omega⟩
    rw [if_neg c8, dc_true h, if_pos rfl, Option.bind_some, set_give h s]

/-- gives one after the other -/
noncomputable def run : List (Int × Int × Int) → List Int → Option (List Int)
  | [], l => some l
  | g :: gs, l => if dc (May l g.1 g.2.1 g.2.2) = true then run gs (give l g.1.toNat g.2.1.toNat g.2.2) else none
def t77 (g : S77) : Int × Int × Int := (g.f0, g.f1, g.f2)
/-! ### CheckGives, Given, Turns -/
/-! ### copies of gives -/
/-! ### the program's gives -/
def NoAbove (x y : List Int) (q : Nat) : Prop := ∀ i j, q ≤ i → i < j → j < x.length → y.getD i 0 < x.getD i 0 → ¬ x.getD j 0 < y.getD j 0
def StepRes (x y : List Int) (r : Int × Int × Int × Bool) : Prop := (∃ i j, Step x y i j ∧ r = ((i : Int), (j : Int), much x y i j, true)) ∨ (r = (0, 0, 0, false) ∧ NoAbove x y 0)
theorem step_in {x y : List Int} (hx : Sh x) (hy : Sh y) (hl : x.length = y.length) (q : Nat) (hq : q < x.length) (hc : rd y q < rd x q) (hna : NoAbove x y (q + 1)) (F : Nat)
    (hA : NoAbove x y q → ∀ k, F < k → ∃ r, shares_step.l0 k x y ((q : Int) - 1) = some r ∧ StepRes x y r) :
    ∀ n j k, j + n = x.length → q < j → F + n + 1 < k → (∀ p, q < p → p < j → ¬ x.getD p 0 < y.getD p 0) → ∃ r, shares_step.l1 k x y (q : Int) (j : Int) = some r ∧ StepRes x y r := by
  have := hx.h6
  intro n
  induction n with
  | zero =>
    intro j k hj hqj hk hp
    obtain ⟨k, rfl⟩ : ∃ m, k = m + 1 := ⟨k - 1, by omega⟩
    rw [shares_step.l1, if_neg (by omega), w64 (by omega) (by omega)]
    refine hA ?_ k (by omega)
    intro i j' h1 h2 h3 h4
    by_cases e : i = q
    · subst e; exact hp j' h2 (by omega)
    · exact hna i j' (by omega) h2 h3 h4
  | succ n ih =>
    intro j k hj hqj hk hp
    obtain ⟨k, rfl⟩ : ∃ m, k = m + 1 := ⟨k - 1, by omega⟩
    rw [shares_step.l1, if_pos (by omega), if_pos (by omega), if_pos (by omega)]
    by_cases c : rd x (j : Int) < rd y (j : Int)
    · rw [if_pos c, if_pos (by omega), if_pos (by omega), if_pos (by omega)]
      have b1 := rd_bd hx q
      have b2 := rd_bd hy q
      have b3 := rd_bd hx j
      have b4 := rd_bd hy j
      refine ⟨_, rfl, .inl ⟨q, j, ?_, ?_⟩⟩
      · rw [rd_at, rd_at] at hc c
        refine ⟨hqj, by omega, hc, c, fun p h1 h2 => ?_⟩
        have h3 := hp p h1 h2
        have h4 := hna p j (by omega) h2 (by omega)
        by_cases h5 : y.getD p 0 < x.getD p 0
        · exact absurd c (h4 h5)
        · omega
      · rw [w64 (by omega) (by omega), w64 (by omega) (by omega), mn_min]
        unfold much
        rw [rd_at, rd_at, rd_at, rd_at]
    · rw [if_neg c, w64 (by omega) (by omega), show (j : Int) + 1 = ((j + 1 : Nat) : Int) by omega]
      refine ih (j + 1) k (by omega) (by omega) (by omega) fun p h1 h2 => ?_
      by_cases e : p = j
      · subst e; rwa [rd_at, rd_at] at c
      · exact hp p h1 (by omega)
theorem step_l {x y : List Int} (hx : Sh x) (hy : Sh y) (hl : x.length = y.length) : ∀ q, q ≤ x.length → NoAbove x y q → ∀ k, q * 20 < k → ∃ r, shares_step.l0 k x y ((q : Int) - 1) = some r ∧ StepRes x y r := by
  have := hx.h6
  intro q
  induction q with
  | zero =>
    intro _ hna k hk
    obtain ⟨k, rfl⟩ : ∃ m, k = m + 1 := ⟨k - 1, by omega⟩
    rw [shares_step.l0, if_neg (by omega)]
    exact ⟨_, rfl, .inr ⟨rfl, hna⟩⟩
  | succ q ih =>
    intro hq hna k hk
    obtain ⟨k, rfl⟩ : ∃ m, k = m + 1 := ⟨k - 1, by omega⟩
    rw [show ((q + 1 : Nat) : Int) - 1 = (q : Int) by omega, shares_step.l0, if_pos (by omega), if_pos (by omega), if_pos (by omega), if_pos (by omega)]
    by_cases c : rd x (q : Int) ≤ rd y (q : Int)
    · rw [if_pos c, w64 (by omega) (by omega)]
      refine ih (by omega) ?_ k (by omega)
      intro i j h1 h2 h3 h4
      by_cases e : i = q
      · subst e
        rw [rd_at, rd_at] at c
        omega
      · exact hna i j (by omega) h2 h3 h4
    · rw [if_neg c, w64 (by omega) (by omega), show (q : Int) + 1 = ((q + 1 : Nat) : Int) by omega]
      exact step_in hx hy hl q (by omega) (by omega) hna (q * 20) (fun h k hk => ih (by omega) h k hk) (x.length - (q + 1)) (q + 1) k (by omega) (by omega) (by omega) (fun p h1 h2 => absurd h1 (by omega))
theorem step_f {x y : List Int} (hx : Sh x) (hy : Sh y) (hl : x.length = y.length) (k : Nat) (hk : 150 < k) : ∃ r, shares_step.f k x y = some r ∧ StepRes x y r := by
  have := hx.h6
  unfold shares_step.f
  rw [w64 (by omega) (by omega)]
  exact step_l hx hy hl x.length (Nat.le_refl _) (fun i j h1 h2 h3 => absurd h3 (by omega)) k (by omega)
end Go.Proofs.Ytefmafbbnkkpjaa.Pure
