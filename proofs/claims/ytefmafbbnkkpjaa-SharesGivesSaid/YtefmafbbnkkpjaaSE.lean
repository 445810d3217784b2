/- Gives: what both packages do with them; the program's way from shares to less uneven ones. -/
import Derived.Test.YtefmafbbnkkpjaaXf34
import Derived.Test.YtefmafbbnkkpjaaXf35
import Derived.Test.YtefmafbbnkkpjaaXf36
import Derived.Test.YtefmafbbnkkpjaaSD
namespace Go.Proofs.Ytefmafbbnkkpjaa.Pure
open Go Go.RowKit Go.Proofs.Ytefmafbbnkkpjaa.X Go.Proofs.YtefmafbbnkkpjaaW.PrintWords Go.Proofs.YtefmafbbnkkpjaaW.PrintLast
set_option linter.unusedVariables false
set_option linter.unusedSimpArgs false

/-- a give is possible -/
structure May (l : List Int) (f t m : Int) : Prop where
  f0 : 0 ≤ f
  f1 : f < l.length
  t0 : 0 ≤ t
  t1 : t < l.length
  ne : f ≠ t
  m1 : 1 ≤ m
  m20 : m ≤ 20
  two : 2 * m ≤ rd l f - rd l t
theorem May.may {l : List Int} {f t m : Int} (h : May l f t m) : MayGive l f.toNat t.toNat m := by
  have := h.f0; have := h.f1; have := h.t0; have := h.t1; have := h.ne
  exact ⟨by omega, by omega, by omega, h.m1, h.two⟩
theorem may_of {l : List Int} {i j : Nat} {m : Int} (h : MayGive l i j m) (h20 : m ≤ 20) : May l i j m := by
  have := h.hi; have := h.hj; have := h.ne
  exact ⟨by omega, by omega, by omega, by omega, by omega, h.m1, h20, by rw [rd_at, rd_at]; exact h.two⟩
theorem give_sh {l : List Int} {i j : Nat} {m : Int} (h : MayGive l i j m) (s : Sh l) : Sh (give l i j m) :=
  ⟨by rw [give_len]; exact s.h1, by rw [give_len]; exact s.h6, give_mem h s.hb⟩
theorem rd_bd {l : List Int} (s : Sh l) (i : Int) : 0 ≤ rd l i ∧ rd l i ≤ 20 := by
  unfold rd
  rcases Nat.lt_or_ge i.toNat l.length with c | c
  · exact s.hb _ (getD_mem c)
  · rw [List.getD_eq_getElem?_getD, List.getElem?_eq_none c]; simp
theorem set_give {l : List Int} {f t m : Int} (h : May l f t m) (s : Sh l) :
    (l.set f.toNat (wrap64 (rd l f - m))).set t.toNat (wrap64 (rd (l.set f.toNat (wrap64 (rd l f - m))) t + m)) = give l f.toNat t.toNat m := by
  have := h.f0; have := h.f1; have := h.t0; have := h.t1; have := h.ne; have := h.m1; have := h.m20
  have b1 := rd_bd s f
  have b2 := rd_bd s t
  have e : rd (l.set f.toNat (wrap64 (rd l f - m))) t = rd l t := by
    unfold rd
    rw [set_getD _ _ _ _ (by omega), if_neg (by omega)]
  rw [e, w64 (by omega) (by omega), w64 (by omega) (by omega)]
  rfl
theorem do_f {l : List Int} (s : Sh l) (f t m : Int) : shares_Give_do.f f t m l = some (if dc (May l f t m) = true then (true, give l f.toNat t.toNat m) else (false, l)) := by
  have hno : ¬ May l f t m → some (false, l) = some (if dc (May l f t m) = true then (true, give l f.toNat t.toNat m) else (false, l)) := by
    intro h; rw [dc_false h, if_neg (by decide)]
  have b1 := rd_bd s f
  have b2 := rd_bd s t
  unfold shares_Give_do.f
  by_cases c1 : f < 0
  · rw [if_pos c1]; exact hno fun h => absurd h.f0 (by omega)
  rw [if_neg c1]
  by_cases c2 : f ≥ (l.length : Int)
  · rw [if_pos c2]; exact hno fun h => absurd h.f1 (by omega)
  rw [if_neg c2]
  by_cases c3 : t < 0
  · rw [if_pos c3]; exact hno fun h => absurd h.t0 (by omega)
  rw [if_neg c3]
  by_cases c4 : t ≥ (l.length : Int)
  · rw [if_pos c4]; exact hno fun h => absurd h.t1 (by omega)
  rw [if_neg c4]
  by_cases c5 : f = t
  · rw [if_pos c5]; exact hno fun h => h.ne c5
  rw [if_neg c5]
  by_cases c6 : m < 1
  · rw [if_pos c6]; exact hno fun h => absurd h.m1 (by omega)
  rw [if_neg c6]
  by_cases c7 : m > 20
  · rw [if_pos c7]; exact hno fun h => absurd h.m20 (by omega)
  rw [if_neg c7, if_pos (by omega), if_pos (by omega), if_pos (by omega), if_pos (by omega), w64 (i := rd l f - rd l t) (by omega) (by omega), w64 (i := 2 * m) (by omega) (by omega)]
  by_cases c8 : rd l f - rd l t < 2 * m
  · rw [if_pos c8]; exact hno fun h => absurd h.two (by omega)
  · have h : May l f t m := ⟨by omega, by omega, by omega, by omega, c5, by omega, by omega, by omega⟩
    rw [if_neg c8, dc_true h, if_pos rfl, Option.bind_some, set_give h s]

/-- gives one after the other -/
noncomputable def run : List (Int × Int × Int) → List Int → Option (List Int)
  | [], l => some l
  | g :: gs, l => if dc (May l g.1 g.2.1 g.2.2) = true then run gs (give l g.1.toNat g.2.1.toNat g.2.2) else none
def t77 (g : S77) : Int × Int × Int := (g.f0, g.f1, g.f2)
def t78 (g : S78) : Int × Int × Int := (g.f0, g.f1, g.f2)
def to78 (g : S77) : S78 := ⟨g.f0, g.f1, g.f2⟩
def to77 (g : S78) : S77 := ⟨g.f0, g.f1, g.f2⟩
theorem run_facts : ∀ (gs : List (Int × Int × Int)) {x z : List Int}, Sh x → run gs x = some z → Sh z ∧ z.length = x.length ∧ Maj x z ∧ pr z ≤ pr x
  | [], x, z, s, h => by
    have e : x = z := Option.some.inj h
    subst e
    exact ⟨s, rfl, Maj_refl x, Int.le_refl _⟩
  | g :: gs, x, z, s, h => by
    unfold run at h
    by_cases c : May x g.1 g.2.1 g.2.2
    · rw [dc_true c, if_pos rfl] at h
      have m := c.may
      obtain ⟨h1, h2, h3, h4⟩ := run_facts gs (give_sh m s) h
      exact ⟨h1, by rw [h2, give_len], Maj_trans (give_maj m s.nn) h3, Int.le_trans h4 (give_pr m)⟩
    · rw [dc_false c, if_neg (by decide)] at h
      cases h
theorem rd77_drop {l : List S77} {i : Nat} (h : i < l.length) : l.drop i = rd_T77 l (i : Int) :: l.drop (i + 1) := by
  unfold rd_T77
  rw [Int.toNat_natCast, List.getD_eq_getElem?_getD, List.getElem?_eq_getElem h]
  exact List.drop_eq_getElem_cons h
theorem rd78_drop {l : List S78} {i : Nat} (h : i < l.length) : l.drop i = rd_T78 l (i : Int) :: l.drop (i + 1) := by
  unfold rd_T78
  rw [Int.toNat_natCast, List.getD_eq_getElem?_getD, List.getElem?_eq_getElem h]
  exact List.drop_eq_getElem_cons h

/-! ### CheckGives, Given, Turns -/
theorem check_l (y : List Int) (l : List S77) (hl : l.length ≤ 9223372036854775807) : ∀ n i k x, i + n = l.length → Sh x → n + 50 < k →
    shares_CheckGives.l0 k y x l (l.length : Int) (i : Int) = some (dc (run ((l.drop i).map t77) x = some y), 0) := by
  intro n
  induction n with
  | zero =>
    intro i k x hi s hk
    have := s.h6
    obtain ⟨k, rfl⟩ : ∃ m, k = m + 1 := ⟨k - 1, by omega⟩
    rw [shares_CheckGives.l0, if_neg (by omega), List.drop_of_length_le (by omega), Equal_f x y (by omega) k (by omega), Option.bind_some]
    congr 2
    apply dc_congr
    simp [run]
  | succ n ih =>
    intro i k x hi s hk
    obtain ⟨k, rfl⟩ : ∃ m, k = m + 1 := ⟨k - 1, by omega⟩
    rw [shares_CheckGives.l0, if_pos (by omega), if_pos (by omega), if_pos (by omega), do_f s, Option.bind_some, w64 (by omega) (by omega), show (i : Int) + 1 = ((i + 1 : Nat) : Int) by omega, rd77_drop (l := l) (i := i) (by omega), List.map_cons, run, show t77 (rd_T77 l (i : Int)) = ((rd_T77 l (i : Int)).f0, (rd_T77 l (i : Int)).f1, (rd_T77 l (i : Int)).f2) from rfl]
    by_cases c : May x (rd_T77 l (i : Int)).f0 (rd_T77 l (i : Int)).f1 (rd_T77 l (i : Int)).f2
    · rw [dc_true c, if_pos rfl, if_pos rfl]
      rw [if_pos rfl]
      exact ih (i + 1) k _ (by omega) (give_sh c.may s) (by omega)
    · simp only [dc_false c, Bool.false_eq_true, if_false]
      rw [dc_false (by simp)]
theorem CheckGives_f (x y : List Int) (l : List S77) (hx : x.length ≤ 15) (hy : y.length ≤ 15) (hl : l.length ≤ 9223372036854775807) (k : Nat) (hk : l.length + 50 < k) :
    shares_CheckGives.f k x y l = some (if dc (Two x y) = true then (dc (run (l.map t77) x = some y), 0) else (false, 2)) := by
  unfold shares_CheckGives.f
  rw [are_two x y hx hy k (by omega), Option.bind_some]
  by_cases h : Two x y
  · rw [dc_true h, if_pos rfl, if_pos rfl, clone_f x (by omega), Option.bind_some]
    have := check_l y l hl l.length 0 k x (by omega) h.1 hk
    rwa [List.drop_zero] at this
  · rw [dc_false h, if_neg (by decide), if_neg (by decide)]
/-! ### copies of gives -/
theorem own_l (l : List S77) (hl : l.length ≤ 5864062014804) : ∀ n i k, i + n = l.length → n < k → congoulaw01_own.l0 k ((l.take i).map to78) l (l.length : Int) (i : Int) = some (l.map to78) := by
  intro n
  induction n with
  | zero =>
    intro i k hi hk
    obtain ⟨k, rfl⟩ : ∃ m, k = m + 1 := ⟨k - 1, by omega⟩
    rw [congoulaw01_own.l0, if_neg (by omega), List.take_of_length_le (by omega)]
  | succ n ih =>
    intro i k hi hk
    obtain ⟨k, rfl⟩ : ∃ m, k = m + 1 := ⟨k - 1, by omega⟩
    have hi' : i < l.length := by omega
    have e : rd_T77 l (i : Int) = l[i] := by
      unfold rd_T77
      rw [Int.toNat_natCast, List.getD_eq_getElem?_getD, List.getElem?_eq_getElem hi', Option.getD_some]
    have e2 : (l.take i).map to78 ++ [to78 (rd_T77 l (i : Int))] = (l.take (i + 1)).map to78 := by
      rw [List.take_add_one, List.getElem?_eq_getElem hi', List.map_append, e]; rfl
    rw [congoulaw01_own.l0, if_pos (by omega), if_pos (by omega), if_pos (by omega), if_pos (by rw [List.length_map, List.length_take]; omega), w64 (by omega) (by omega), show (i : Int) + 1 = ((i + 1 : Nat) : Int) by omega]
    have IH := ih (i + 1) k (by omega) (by omega)
    rw [← e2] at IH
    exact IH
theorem own_f (l : List S77) (hl : l.length ≤ 5864062014804) (k : Nat) (hk : l.length < k) : congoulaw01_own.f k l = some (l.map to78) :=
  own_l l hl l.length 0 k (by omega) hk
theorem of_l (l : List S78) (hl : l.length ≤ 9223372036854775807) : ∀ n i k, i + n = l.length → n < k → congoulaw01_Of.l0 k (((l.take 60).take i).map to77) l (l.length : Int) (i : Int) = some ((l.take 60).map to77) := by
  intro n
  induction n with
  | zero =>
    intro i k hi hk
    obtain ⟨k, rfl⟩ : ∃ m, k = m + 1 := ⟨k - 1, by omega⟩
    rw [congoulaw01_Of.l0, if_neg (by omega), List.take_of_length_le (l := l.take 60) (by rw [List.length_take]; omega)]
  | succ n ih =>
    intro i k hi hk
    obtain ⟨k, rfl⟩ : ∃ m, k = m + 1 := ⟨k - 1, by omega⟩
    have hi' : i < l.length := by omega
    have IH := ih (i + 1) k (by omega) (by omega)
    rw [congoulaw01_Of.l0, if_pos (by omega), if_pos (by omega), if_pos (by omega), w64 (by omega) (by omega), show (i : Int) + 1 = ((i + 1 : Nat) : Int) by omega]
    by_cases c : i < 60
    · have e : rd_T78 l (i : Int) = l[i] := by
        unfold rd_T78
        rw [Int.toNat_natCast, List.getD_eq_getElem?_getD, List.getElem?_eq_getElem hi', Option.getD_some]
      have e2 : ((l.take 60).take i).map to77 ++ [to77 (rd_T78 l (i : Int))] = ((l.take 60).take (i + 1)).map to77 := by
        rw [List.take_add_one (l := l.take 60), List.getElem?_take, if_pos c, List.getElem?_eq_getElem hi', List.map_append, e]; rfl
      rw [if_pos (by omega), if_pos (by rw [List.length_map, List.length_take, List.length_take]; omega)]
      rw [← e2] at IH
      exact IH
    · have hle : (l.take 60).length ≤ i := by rw [List.length_take]; omega
      rw [if_neg (by omega), List.take_of_length_le (l := l.take 60) hle]
      rw [List.take_of_length_le (l := l.take 60) (show _ ≤ i + 1 by omega)] at IH
      exact IH
theorem Of_f (l : List S78) (hl : l.length ≤ 9223372036854775807) (k : Nat) (hk : l.length < k) : congoulaw01_Of.f k l = some ((l.take 60).map to77) := by
  have := of_l l hl l.length 0 k (by omega) hk
  exact this

/-! ### the program's gives -/
def NoAbove (x y : List Int) (q : Nat) : Prop := ∀ i j, q ≤ i → i < j → j < x.length → y.getD i 0 < x.getD i 0 → ¬ x.getD j 0 < y.getD j 0
def StepRes (x y : List Int) (r : Int × Int × Int × Bool) : Prop := (∃ i j, Step x y i j ∧ r = ((i : Int), (j : Int), much x y i j, true)) ∨ (r = (0, 0, 0, false) ∧ NoAbove x y 0)
theorem step_in {x y : List Int} (hx : Sh x) (hy : Sh y) (hl : x.length = y.length) (q : Nat) (hq : q < x.length) (hc : rd y q < rd x q) (hna : NoAbove x y (q + 1)) (F : Nat)
    (hA : NoAbove x y q → ∀ k, F < k → ∃ r, shares_step.l0 k x y ((q : Int) - 1) = some r ∧ StepRes x y r) :
    ∀ n j k, j + n = x.length → q < j → F + n + 1 < k → (∀ p, q < p → p < j → ¬ x.getD p 0 < y.getD p 0) → ∃ r, shares_step.l1 k x y (q : Int) (j : Int) = some r ∧ StepRes x y r := by
  have := hx.h6
  intro n
  induction n with
  | zero =>
    intro j k hj hqj hk hp
    obtain ⟨k, rfl⟩ : ∃ m, k = m + 1 := ⟨k - 1, by omega⟩
    rw [shares_step.l1, if_neg (by omega), w64 (by omega) (by omega)]
    refine hA ?_ k (by omega)
    intro i j' h1 h2 h3 h4
    by_cases e : i = q
    · subst e; exact hp j' h2 (by omega)
    · exact hna i j' (by omega) h2 h3 h4
  | succ n ih =>
    intro j k hj hqj hk hp
    obtain ⟨k, rfl⟩ : ∃ m, k = m + 1 := ⟨k - 1, by omega⟩
    rw [shares_step.l1, if_pos (by omega), if_pos (by omega), if_pos (by omega)]
    by_cases c : rd x (j : Int) < rd y (j : Int)
    · rw [if_pos c, if_pos (by omega), if_pos (by omega), if_pos (by omega)]
      have b1 := rd_bd hx q
      have b2 := rd_bd hy q
      have b3 := rd_bd hx j
      have b4 := rd_bd hy j
      refine ⟨_, rfl, .inl ⟨q, j, ?_, ?_⟩⟩
      · rw [rd_at, rd_at] at hc c
        refine ⟨hqj, by omega, hc, c, fun p h1 h2 => ?_⟩
        have h3 := hp p h1 h2
        have h4 := hna p j (by omega) h2 (by omega)
        by_cases h5 : y.getD p 0 < x.getD p 0
        · exact absurd c (h4 h5)
        · omega
      · rw [w64 (by omega) (by omega), w64 (by omega) (by omega), mn_min]
        unfold much
        rw [rd_at, rd_at, rd_at, rd_at]
    · rw [if_neg c, w64 (by omega) (by omega), show (j : Int) + 1 = ((j + 1 : Nat) : Int) by omega]
      refine ih (j + 1) k (by omega) (by omega) (by omega) fun p h1 h2 => ?_
      by_cases e : p = j
      · subst e; rwa [rd_at, rd_at] at c
      · exact hp p h1 (by omega)
theorem step_l {x y : List Int} (hx : Sh x) (hy : Sh y) (hl : x.length = y.length) : ∀ q, q ≤ x.length → NoAbove x y q → ∀ k, q * 20 < k → ∃ r, shares_step.l0 k x y ((q : Int) - 1) = some r ∧ StepRes x y r := by
  have := hx.h6
  intro q
  induction q with
  | zero =>
    intro _ hna k hk
    obtain ⟨k, rfl⟩ : ∃ m, k = m + 1 := ⟨k - 1, by omega⟩
    rw [shares_step.l0, if_neg (by omega)]
    exact ⟨_, rfl, .inr ⟨rfl, hna⟩⟩
  | succ q ih =>
    intro hq hna k hk
    obtain ⟨k, rfl⟩ : ∃ m, k = m + 1 := ⟨k - 1, by omega⟩
    rw [show ((q + 1 : Nat) : Int) - 1 = (q : Int) by omega, shares_step.l0, if_pos (by omega), if_pos (by omega), if_pos (by omega), if_pos (by omega)]
    by_cases c : rd x (q : Int) ≤ rd y (q : Int)
    · rw [if_pos c, w64 (by omega) (by omega)]
      refine ih (by omega) ?_ k (by omega)
      intro i j h1 h2 h3 h4
      by_cases e : i = q
      · subst e
        rw [rd_at, rd_at] at c
        omega
      · exact hna i j (by omega) h2 h3 h4
    · rw [if_neg c, w64 (by omega) (by omega), show (q : Int) + 1 = ((q + 1 : Nat) : Int) by omega]
      exact step_in hx hy hl q (by omega) (by omega) hna (q * 20) (fun h k hk => ih (by omega) h k hk) (x.length - (q + 1)) (q + 1) k (by omega) (by omega) (by omega) (fun p h1 h2 => absurd h1 (by omega))
theorem step_f {x y : List Int} (hx : Sh x) (hy : Sh y) (hl : x.length = y.length) (k : Nat) (hk : 150 < k) : ∃ r, shares_step.f k x y = some r ∧ StepRes x y r := by
  have := hx.h6
  unfold shares_step.f
  rw [w64 (by omega) (by omega)]
  exact step_l hx hy hl x.length (Nat.le_refl _) (fun i j h1 h2 h3 => absurd h3 (by omega)) k (by omega)
theorem gives_l {y : List Int} (hy : Sh y) : ∀ (d : Nat) (k : Nat) (x : List Int) (acc : List S77), Sh x → Way x y → far x y x.length ≤ d → d + 200 < k → acc.length + d ≤ 1000 →
    ∃ gs, shares_gives.l0 k x y acc = some (acc ++ gs) ∧ run (gs.map t77) x = some y ∧ gs.length ≤ d := by
  intro d
  induction d with
  | zero =>
    intro k x acc hx w hf hk ha
    obtain ⟨k, rfl⟩ : ∃ m, k = m + 1 := ⟨k - 1, by omega⟩
    obtain ⟨r, e, h⟩ := step_f hx hy w.hl k (by omega)
    rw [shares_gives.l0, e, Option.bind_some]
    rcases h with ⟨i, j, s, rfl⟩ | ⟨rfl, h⟩
    · have h1 := step_far w s
      have h2 := far_nonneg (give x i j (much x y i j)) y x.length
      omega
    · refine ⟨[], ?_, ?_, Nat.le_refl _⟩
      · rw [if_neg (by decide), List.append_nil]
      · rw [way_end w fun i j => h i j (Nat.zero_le _)]; rfl
  | succ d ih =>
    intro k x acc hx w hf hk ha
    obtain ⟨k, rfl⟩ : ∃ m, k = m + 1 := ⟨k - 1, by omega⟩
    obtain ⟨r, e, h⟩ := step_f hx hy w.hl k (by omega)
    rw [shares_gives.l0, e, Option.bind_some]
    rcases h with ⟨i, j, s, rfl⟩ | ⟨rfl, h⟩
    · have h1 := step_far w s
      have m := step_may w s
      have b1 := hx.hb _ (getD_mem m.hi)
      have b2 := hy.hb (y.getD i 0) (getD_mem (by rw [← w.hl]; exact m.hi))
      have m20 : much x y i j ≤ 20 := by unfold much; omega
      have M := may_of m m20
      obtain ⟨gs, g1, g2, g3⟩ := ih k (give x i j (much x y i j)) (acc ++ [⟨(i : Int), (j : Int), much x y i j⟩]) (give_sh m hx) (step_way w s) (by rw [give_len]; omega) (by omega) (by rw [List.length_append, List.length_singleton]; omega)
      refine ⟨⟨(i : Int), (j : Int), much x y i j⟩ :: gs, ?_, ?_, by rw [List.length_cons]; omega⟩
      · rw [if_pos rfl, do_f hx, Option.bind_some, dc_true M, if_pos rfl, if_pos (by omega)]
        rw [Int.toNat_natCast, Int.toNat_natCast, g1, List.append_assoc]; rfl
      · rw [List.map_cons, run]
        show (if dc (May x (i : Int) (j : Int) (much x y i j)) = true then run (gs.map t77) (give x (i : Int).toNat (j : Int).toNat (much x y i j)) else none) = some y
        rw [dc_true M, if_pos rfl, Int.toNat_natCast, Int.toNat_natCast]
        exact g2
    · refine ⟨[], ?_, ?_, by simp⟩
      · rw [if_neg (by decide), List.append_nil]
      · rw [way_end w fun i j => h i j (Nat.zero_le _)]; rfl
theorem far_bd {x y : List Int} (hx : Sh x) (hy : Sh y) : ∀ n, far x y n ≤ 20 * n
  | 0 => by simp [far]
  | n + 1 => by
    have h := far_bd hx hy n
    have b1 := rd_bd hx n
    have b2 := rd_bd hy n
    rw [rd_at] at b1 b2
    simp only [far]; omega
theorem gives_f {x y : List Int} (hx : Sh x) (hy : Sh y) (w : Way x y) (k : Nat) (hk : 400 < k) : ∃ gs, shares_gives.f k x y = some gs ∧ run (gs.map t77) x = some y ∧ gs.length ≤ 120 := by
  have := hx.h6
  have hf := far_bd hx hy x.length
  unfold shares_gives.f
  rw [clone_f x (by omega), Option.bind_some]
  obtain ⟨gs, h1, h2, h3⟩ := gives_l hy 120 k x [] hx w (by omega) (by omega) (by simp)
  exact ⟨gs, h1, h2, h3⟩
/-- what Gives returns -/
inductive GivesRes (x y : List Int) : List S77 × Int → Prop
  | arg : ¬ (Two x y ∧ Desc x ∧ Desc y) → GivesRes x y ([], 2)
  | none : Two x y → Desc x → Desc y → ¬ Maj x y → GivesRes x y ([], 4)
  | ok (gs : List S77) : Two x y → Desc x → Desc y → Maj x y → run (gs.map t77) x = some y → gs.length ≤ 120 → GivesRes x y (gs, 0)
theorem Gives_f (x y : List Int) (hx : x.length ≤ 15) (hy : y.length ≤ 15) (k : Nat) (hk : 500 < k) : ∃ r, shares_Gives.f k x y = some r ∧ GivesRes x y r := by
  obtain ⟨k, rfl⟩ : ∃ m, k = m + 1 := ⟨k - 1, by omega⟩
  unfold shares_Gives.f
  rw [are_two x y hx hy (k + 1) (by omega), Option.bind_some]
  by_cases h : Two x y
  · have h1 := h.1.h1
    have h2 := h.2.1.h1
    have sx := sm_of_sh h.1
    have sy := sm_of_sh h.2.1
    rw [dc_true h, if_pos rfl, Sorted_f x h1 (by omega) sx.hb (k + 1) (by omega), Option.bind_some]
    by_cases d1 : Desc x
    · rw [dc_true d1, if_pos rfl, Sorted_f y h2 (by omega) sy.hb (k + 1) (by omega), Option.bind_some]
      by_cases d2 : Desc y
      · rw [dc_true d2, Bool.not_true, shares_Gives.j0, if_neg (by decide), uneven_f sx sy h1 (by have := h.1.h6; omega) h.2.2 k (by omega), Option.bind_some]
        by_cases m : Maj x y
        · have m' := (Maj_desc d1 d2).mp m
          obtain ⟨gs, g1, g2, g3⟩ := gives_f h.1 h.2.1 ⟨h.2.2, d2, m'.1, m'.2⟩ k (by omega)
          rw [dc_true m, if_pos rfl, g1, Option.bind_some]
          exact ⟨_, rfl, .ok gs h d1 d2 m g2 g3⟩
        · rw [dc_false m, if_neg (by decide)]
          exact ⟨_, rfl, .none h d1 d2 m⟩
      · rw [dc_false d2, Bool.not_false, shares_Gives.j0, if_pos rfl]
        exact ⟨_, rfl, .arg fun t => d2 t.2.2⟩
    · rw [dc_false d1, if_neg (by decide), shares_Gives.j0, if_pos rfl]
      exact ⟨_, rfl, .arg fun t => d1 t.2.1⟩
  · rw [dc_false h, if_neg (by decide), shares_Gives.j0, if_pos rfl]
    exact ⟨_, rfl, .arg fun t => h t.1⟩
theorem gives_take {x y : List Int} {r : List S77 × Int} (h : Two x y) (g : GivesRes (x.take 15) (y.take 15) r) : GivesRes x y r := by
  rwa [sh_same h.1, sh_same h.2.1] at g
end Go.Proofs.Ytefmafbbnkkpjaa.Pure
