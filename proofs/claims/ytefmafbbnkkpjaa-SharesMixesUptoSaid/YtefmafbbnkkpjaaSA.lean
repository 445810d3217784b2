/- Shares: what both packages tell them by; copies; first sums; at least as uneven; the gap. -/
import Derived.Test.YtefmafbbnkkpjaaXG2a
import Derived.Test.YtefmafbbnkkpjaaXf21
import Derived.Test.YtefmafbbnkkpjaaXf24
import Derived.Test.YtefmafbbnkkpjaaXf17
import Derived.Test.YtefmafbbnkkpjaaSM
namespace Go.Proofs.Ytefmafbbnkkpjaa.Pure
open Go Go.RowKit Go.Proofs.Ytefmafbbnkkpjaa.X Go.Proofs.YtefmafbbnkkpjaaW.PrintWords Go.Proofs.YtefmafbbnkkpjaaW.PrintLast
set_option linter.unusedVariables false
set_option linter.unusedSimpArgs false

/-- a statement as a truth value -/
noncomputable def dc (p : Prop) : Bool := @decide p (Classical.propDecidable p)
theorem dc_true {p : Prop} (h : p) : dc p = true := @decide_eq_true p (Classical.propDecidable p) h
theorem dc_false {p : Prop} (h : ¬ p) : dc p = false := @decide_eq_false p (Classical.propDecidable p) h
theorem dc_congr {p q : Prop} (h : p ↔ q) : dc p = dc q := by rw [propext h]
theorem dc_iff {p : Prop} : dc p = true ↔ p := ⟨fun h => Classical.byContradiction fun hn => by rw [dc_false hn] at h; exact absurd h (by decide), dc_true⟩
theorem dec_dc (p : Prop) [Decidable p] : decide p = dc p := by
  by_cases h : p
  · rw [dc_true h, decide_eq_true h]
  · rw [dc_false h, decide_eq_false h]

theorem w64 {i : Int} (h1 : -9223372036854775808 ≤ i) (h2 : i < 9223372036854775808) : wrap64 i = i := by unfold wrap64; omega
theorem rd_at (l : List Int) (i : Nat) : rd l (i : Int) = l.getD i 0 := by simp [rd]
theorem rd_drop {l : List Int} {i : Nat} (h : i < l.length) : l.drop i = rd l (i : Int) :: l.drop (i + 1) := by
  rw [rd_at, getD_get h]; exact List.drop_eq_getElem_cons h
theorem getD_mem {l : List Int} {i : Nat} (h : i < l.length) : l.getD i 0 ∈ l := by rw [getD_get h]; exact List.getElem_mem h
theorem mn_min (a b : Int) : mn a b = min a b := by unfold mn; split <;> omega
theorem mx_max (a b : Int) : mx a b = max a b := by unfold mx; split <;> omega

theorem clone_f (l : List Int) (h : l.length < 17592186044416) : slices_Clone_int_int.f l = some l := by
  simp [slices_Clone_int_int.f, h]
theorem list_f (l : List Int) (h : l.length ≤ 9223372036854775807) : congoulaw01_list.f l = some (l.take 15) := by
  have e : (mn (l.length : Int) 15) = ((min l.length 15 : Nat) : Int) := by rw [mn_min]; omega
  unfold congoulaw01_list.f
  rw [e, if_pos (by omega), if_pos (by omega), Int.toNat_natCast, clone_f]
  · rw [Option.bind_some]
    congr 1
    rcases Nat.lt_or_ge l.length 15 with c | c
    · rw [Nat.min_eq_left (Nat.le_of_lt c), List.take_of_length_le (Nat.le_refl _), List.take_of_length_le (Nat.le_of_lt c)]
    · rw [Nat.min_eq_right c]
  · rw [List.length_take]; omega

theorem min_l (x : List Int) (hx : x.length ≤ 9223372036854775807) : ∀ n i k acc, i + n = x.length → n < k → slices_Min_int_int.l0 k x acc (i : Int) = some ((x.drop i).foldl (fun a b => min a b) acc) := by
  intro n
  induction n with
  | zero =>
    intro i k acc hi hk
    obtain ⟨k, rfl⟩ : ∃ m, k = m + 1 := ⟨k - 1, by omega⟩
    rw [slices_Min_int_int.l0, if_neg (by omega), List.drop_of_length_le (by omega)]; rfl
  | succ n ih =>
    intro i k acc hi hk
    obtain ⟨k, rfl⟩ : ∃ m, k = m + 1 := ⟨k - 1, by omega⟩
    rw [slices_Min_int_int.l0, if_pos (by omega), if_pos (by omega), w64 (by omega) (by omega), show (i : Int) + 1 = ((i + 1 : Nat) : Int) by omega, ih (i + 1) k _ (by omega) (by omega), rd_drop (i := i) (by omega), List.foldl_cons, mn_min]
theorem max_l (x : List Int) (hx : x.length ≤ 9223372036854775807) : ∀ n i k acc, i + n = x.length → n < k → slices_Max_int_int.l0 k x acc (i : Int) = some ((x.drop i).foldl (fun a b => max a b) acc) := by
  intro n
  induction n with
  | zero =>
    intro i k acc hi hk
    obtain ⟨k, rfl⟩ : ∃ m, k = m + 1 := ⟨k - 1, by omega⟩
    rw [slices_Max_int_int.l0, if_neg (by omega), List.drop_of_length_le (by omega)]; rfl
  | succ n ih =>
    intro i k acc hi hk
    obtain ⟨k, rfl⟩ : ∃ m, k = m + 1 := ⟨k - 1, by omega⟩
    rw [slices_Max_int_int.l0, if_pos (by omega), if_pos (by omega), w64 (by omega) (by omega), show (i : Int) + 1 = ((i + 1 : Nat) : Int) by omega, ih (i + 1) k _ (by omega) (by omega), rd_drop (i := i) (by omega), List.foldl_cons, mx_max]
theorem le_foldl_min (v : Int) : ∀ (l : List Int) (a : Int), v ≤ l.foldl (fun a b => min a b) a ↔ v ≤ a ∧ ∀ x ∈ l, v ≤ x
  | [], a => by simp
  | y :: l, a => by
    rw [List.foldl_cons, le_foldl_min v l]
    simp only [List.mem_cons, forall_eq_or_imp]
    constructor
    · intro ⟨h, h'⟩; exact ⟨by omega, by omega, h'⟩
    · intro ⟨h, h', h''⟩; exact ⟨by omega, h''⟩
theorem foldl_max_le (v : Int) : ∀ (l : List Int) (a : Int), l.foldl (fun a b => max a b) a ≤ v ↔ a ≤ v ∧ ∀ x ∈ l, x ≤ v
  | [], a => by simp
  | y :: l, a => by
    rw [List.foldl_cons, foldl_max_le v l]
    simp only [List.mem_cons, forall_eq_or_imp]
    constructor
    · intro ⟨h, h'⟩; exact ⟨by omega, by omega, h'⟩
    · intro ⟨h, h', h''⟩; exact ⟨by omega, h''⟩
theorem min_f (l : List Int) (h1 : 1 ≤ l.length) (hx : l.length ≤ 9223372036854775807) (k : Nat) (hk : l.length < k) : ∃ m, slices_Min_int_int.f k l = some m ∧ ∀ v, v ≤ m ↔ ∀ x ∈ l, v ≤ x := by
  refine ⟨(l.drop 1).foldl (fun a b => min a b) (rd l (0 : Nat)), ?_, fun v => ?_⟩
  · rw [slices_Min_int_int.f, if_neg (by omega), if_pos (by omega)]
    exact min_l l hx (l.length - 1) 1 k _ (by omega) (by omega)
  · rw [le_foldl_min]
    have e := rd_drop (l := l) (i := 0) (by omega)
    rw [List.drop_zero] at e
    conv => rhs; rw [e]
    simp [List.forall_mem_cons]
theorem max_f (l : List Int) (h1 : 1 ≤ l.length) (hx : l.length ≤ 9223372036854775807) (k : Nat) (hk : l.length < k) : ∃ m, slices_Max_int_int.f k l = some m ∧ ∀ v, m ≤ v ↔ ∀ x ∈ l, x ≤ v := by
  refine ⟨(l.drop 1).foldl (fun a b => max a b) (rd l (0 : Nat)), ?_, fun v => ?_⟩
  · rw [slices_Max_int_int.f, if_neg (by omega), if_pos (by omega)]
    exact max_l l hx (l.length - 1) 1 k _ (by omega) (by omega)
  · rw [foldl_max_le]
    have e := rd_drop (l := l) (i := 0) (by omega)
    rw [List.drop_zero] at e
    conv => rhs; rw [e]
    simp [List.forall_mem_cons]

/-- shares -/
structure Sh (l : List Int) : Prop where
  h1 : 1 ≤ l.length
  h6 : l.length ≤ 6
  hb : ∀ x ∈ l, 0 ≤ x ∧ x ≤ 20
/-- two shares of the same number -/
def Two (x y : List Int) : Prop := Sh x ∧ Sh y ∧ x.length = y.length
theorem Sh.nn {l : List Int} (h : Sh l) : Nn l := fun x hx => (h.hb x hx).1
theorem take_or (l : List Int) : (l.length ≤ 15 ∧ l.take 15 = l) ∨ (15 < l.length ∧ (l.take 15).length = 15) := by
  rcases Nat.lt_or_ge 15 l.length with c | c
  · exact .inr ⟨c, by rw [List.length_take]; omega⟩
  · exact .inl ⟨c, List.take_of_length_le c⟩
theorem sh_take {l : List Int} : Sh (l.take 15) ↔ Sh l := by
  rcases take_or l with ⟨_, e⟩ | ⟨h, e⟩
  · rw [e]
  · exact ⟨fun s => absurd s.h6 (by omega), fun s => absurd s.h6 (by omega)⟩
theorem sh_same {l : List Int} (h : Sh l) : l.take 15 = l := List.take_of_length_le (by have := h.h6; omega)
theorem two_take {x y : List Int} : Two (x.take 15) (y.take 15) ↔ Two x y := by
  unfold Two
  constructor
  · intro ⟨a, b, c⟩
    have a := sh_take.mp a; have b := sh_take.mp b
    rw [sh_same a, sh_same b] at c
    exact ⟨a, b, c⟩
  · intro ⟨a, b, c⟩
    rw [sh_same a, sh_same b]; exact ⟨a, b, c⟩
theorem are_step (L x0 : List (List Int)) (i n : Nat) (k : Nat) (hi : i < L.length) (hL : L.length < 100) (h0 : 0 < x0.length) (hk : (rd_L1 L i).length < k) (hx : (rd_L1 L i).length ≤ 9223372036854775807) :
    shares_are.l0 (k + 1) x0 L (n : Int) (i : Int) = if i < n then (if dc (Sh (rd_L1 L i) ∧ (rd_L1 L i).length = (rd_L1 x0 0).length) = true then shares_are.l0 k x0 L (n : Int) ((i + 1 : Nat) : Int) else some false) else some true := by
  rw [shares_are.l0]
  by_cases c : i < n
  · rw [if_pos (by omega), if_pos (by omega), if_pos (by omega), if_pos c]
    by_cases c1 : (rd_L1 L i).length < 1
    · rw [if_pos (by omega), dc_false fun h => absurd h.1.h1 (by omega), if_neg (by decide)]
    · rw [if_neg (by omega)]
      by_cases c2 : (rd_L1 L i).length ≤ 6
      · rw [if_neg (by omega), if_pos (by omega)]
        by_cases c3 : (rd_L1 L i).length = (rd_L1 x0 0).length
        · rw [if_pos (by omega)]
          obtain ⟨m, e1, f1⟩ := min_f (rd_L1 L i) (by omega) hx k hk
          obtain ⟨M, e2, f2⟩ := max_f (rd_L1 L i) (by omega) hx k hk
          rw [e1, e2, Option.bind_some]
          have g1 := f1 0
          have g2 := f2 20
          by_cases d1 : m < 0
          · rw [if_pos d1, dc_false, if_neg (by decide)]
            intro h
            have := g1.mpr fun x hx => (h.1.hb x hx).1
            omega
          · rw [if_neg d1, Option.bind_some]
            by_cases d2 : M > 20
            · rw [if_pos d2, dc_false, if_neg (by decide)]
              intro h
              have := g2.mpr fun x hx => (h.1.hb x hx).2
              omega
            · rw [if_neg d2, dc_true, if_pos rfl, w64 (by omega) (by omega), show (i : Int) + 1 = ((i + 1 : Nat) : Int) by omega]
              exact ⟨⟨by omega, c2, fun x hx => ⟨g1.mp (by omega) x hx, g2.mp (by omega) x hx⟩⟩, c3⟩
        · rw [if_neg (by omega), dc_false fun h => c3 h.2, if_neg (by decide)]
      · rw [if_pos (by omega), dc_false fun h => c2 h.1.h6, if_neg (by decide)]
  · rw [if_neg (by omega), if_neg c]
theorem are_two (a b : List Int) (ha : a.length ≤ 15) (hb : b.length ≤ 15) (k : Nat) (hk : 20 < k) : shares_are.f k [a, b] = some (dc (Two a b)) := by
  obtain ⟨k, rfl⟩ : ∃ m, k = ((m + 1) + 1) + 1 := ⟨k - 3, by omega⟩
  unfold shares_are.f
  have s1 := are_step [a, b] [a, b] 0 2 (k + 1 + 1) (by simp) (by simp) (by simp) (show a.length < k + 1 + 1 by omega) (show a.length ≤ _ by omega)
  have s2 := are_step [a, b] [a, b] 1 2 (k + 1) (by simp) (by simp) (by simp) (show b.length < k + 1 by omega) (show b.length ≤ _ by omega)
  have e0 : rd_L1 [a, b] ((0 : Nat) : Int) = a := rfl
  have e1 : rd_L1 [a, b] ((1 : Nat) : Int) = b := rfl
  have e2 : rd_L1 [a, b] 0 = a := rfl
  rw [e0, e2] at s1
  rw [e1, e2] at s2
  have e3 : (([a, b] : List (List Int)).length : Int) = ((2 : Nat) : Int) := rfl
  rw [e3, show ((0 : Int)) = ((0 : Nat) : Int) by rfl, s1, if_pos (by omega)]
  by_cases h : Sh a
  · rw [dc_true ⟨h, rfl⟩, if_pos rfl, s2, if_pos (by omega)]
    by_cases h2 : Sh b ∧ b.length = a.length
    · rw [dc_true h2, if_pos rfl, dc_true ⟨h, h2.1, h2.2.symm⟩, shares_are.l0, if_neg (by omega)]
    · rw [dc_false h2, if_neg (by decide), dc_false]
      intro c
      exact h2 ⟨c.2.1, c.2.2.symm⟩
  · rw [dc_false fun c => h c.1, if_neg (by decide), dc_false]
    exact fun c => h c.1

theorem rsh_l (x : List Int) (hx : x.length ≤ 9223372036854775807) : ∀ n i k, i + n = x.length → n < k → congouref01_Shares.l0 k x x (x.length : Int) (i : Int) = some (dc ((∀ y ∈ x.drop i, 0 ≤ y ∧ y ≤ 20) ∧ 1 ≤ x.length ∧ x.length ≤ 6)) := by
  intro n
  induction n with
  | zero =>
    intro i k hi hk
    obtain ⟨k, rfl⟩ : ∃ m, k = m + 1 := ⟨k - 1, by omega⟩
    rw [congouref01_Shares.l0, if_neg (by omega), List.drop_of_length_le (by omega)]
    split
    · rw [dec_dc]; congr 1; apply dc_congr; simp; omega
    · rw [dc_false (by omega)]
  | succ n ih =>
    intro i k hi hk
    obtain ⟨k, rfl⟩ : ∃ m, k = m + 1 := ⟨k - 1, by omega⟩
    rw [congouref01_Shares.l0, if_pos (by omega), if_pos (by omega), if_pos (by omega), w64 (by omega) (by omega), show (i : Int) + 1 = ((i + 1 : Nat) : Int) by omega, ih (i + 1) k (by omega) (by omega), rd_drop (l := x) (i := i) (by omega)]
    simp only [List.forall_mem_cons]
    split
    · rw [dc_false (by omega)]
    · split
      · rw [dc_false (by omega)]
      · congr 1; apply dc_congr; constructor
        · intro ⟨a, b⟩; exact ⟨⟨by omega, a⟩, b⟩
        · intro ⟨a, b⟩; exact ⟨a.2, b⟩
theorem rsh_f (x : List Int) (hx : x.length ≤ 9223372036854775807) (k : Nat) (hk : x.length < k) : congouref01_Shares.f k x = some (dc (Sh x)) := by
  unfold congouref01_Shares.f
  rw [show ((0 : Int)) = ((0 : Nat) : Int) by rfl, rsh_l x hx x.length 0 k (by omega) hk]
  congr 1; apply dc_congr
  rw [List.drop_zero]
  exact ⟨fun h => ⟨h.2.1, h.2.2, h.1⟩, fun h => ⟨h.hb, h.h1, h.h6⟩⟩
theorem two_f (x y : List Int) (hx : x.length ≤ 9223372036854775807) (hy : y.length ≤ 9223372036854775807) (k : Nat) (hk : x.length < k) (hk2 : y.length < k) : congouref01_Two.f k x y = some (dc (Two x y)) := by
  unfold congouref01_Two.f
  rw [rsh_f x hx k hk, Option.bind_some]
  by_cases h : Sh x
  · rw [dc_true h, if_pos rfl, rsh_f y hy k hk2, Option.bind_some]
    by_cases h2 : Sh y
    · rw [dc_true h2, if_pos rfl]
      congr 1
      by_cases c : x.length = y.length
      · rw [dc_true ⟨h, h2, c⟩, c]; simp
      · rw [dc_false fun t => c t.2.2]; simp; omega
    · rw [dc_false h2, if_neg (by decide), dc_false fun t => h2 t.2.1]
  · rw [dc_false h, if_neg (by decide), dc_false fun t => h t.1]

/-! ### first sums -/
/-- small numbers: no sum leaves the range -/
structure Sm (l : List Int) : Prop where
  hl : l.length ≤ 40
  hb : ∀ x ∈ l, 0 ≤ x ∧ x ≤ 1000
theorem Sm.nn {l : List Int} (h : Sm l) : Nn l := fun x hx => (h.hb x hx).1
theorem sm_of_sh {l : List Int} (h : Sh l) : Sm l := ⟨by have := h.h6; omega, fun x hx => by have := h.hb x hx; omega⟩
theorem sm_sum : ∀ {l : List Int}, (∀ x ∈ l, 0 ≤ x ∧ x ≤ 1000) → 0 ≤ l.sum ∧ l.sum ≤ 1000 * l.length
  | [], _ => by simp
  | x :: l, h => by
    have h1 := h x (by simp)
    have h2 := sm_sum (l := l) (fun y hy => h y (by simp [hy]))
    simp only [List.sum_cons, List.length_cons]; omega
theorem sm_psm {l : List Int} (h : Sm l) (k : Nat) : 0 ≤ psm l k ∧ psm l k ≤ 40000 := by
  have h1 := sm_sum (l := l.take k) (fun x hx => h.hb x (List.mem_of_mem_take hx))
  have h2 : (l.take k).length ≤ 40 := by have := h.hl; rw [List.length_take]; omega
  unfold psm; omega
theorem sm_perm {a b : List Int} (h : a.Perm b) (s : Sm a) : Sm b := ⟨by rw [← h.length_eq]; exact s.hl, fun x hx => s.hb x (h.symm.subset hx)⟩
theorem sm_D {a : List Int} (s : Sm a) : Sm (insAll a) := sm_perm (D_perm a).symm s

def sumsTo (l : List Int) : Nat → List Int
  | 0 => []
  | n + 1 => sumsTo l n ++ [psm l (n + 1)]
theorem sumsTo_len (l : List Int) : ∀ n, (sumsTo l n).length = n
  | 0 => rfl
  | n + 1 => by simp [sumsTo, sumsTo_len l n]
theorem sumsTo_getD (l : List Int) : ∀ n i, i < n → (sumsTo l n).getD i 0 = psm l (i + 1)
  | 0, i, h => absurd h (by omega)
  | n + 1, i, h => by
    have hl := sumsTo_len l n
    rw [sumsTo, List.getD_eq_getElem?_getD]
    rcases Nat.lt_or_ge i n with c | c
    · rw [List.getElem?_append_left (by omega), ← List.getD_eq_getElem?_getD, sumsTo_getD l n i c]
    · have : i = n := by omega
      subst this
      rw [List.getElem?_append_right (by omega), hl]; simp
theorem sums_l {x : List Int} (hx : Sm x) : ∀ n i k, i + n = x.length → n < k → shares_sums.l0 k (sumsTo x i) (psm x i) x (x.length : Int) (i : Int) = some (sumsTo x x.length) := by
  intro n
  have := hx.hl
  induction n with
  | zero =>
    intro i k hi hk
    obtain ⟨k, rfl⟩ : ∃ m, k = m + 1 := ⟨k - 1, by omega⟩
    rw [shares_sums.l0, if_neg (by omega), show i = x.length by omega]
  | succ n ih =>
    intro i k hi hk
    obtain ⟨k, rfl⟩ : ∃ m, k = m + 1 := ⟨k - 1, by omega⟩
    have e : wrap64 (psm x i + rd x (i : Int)) = psm x (i + 1) := by
      have := sm_psm hx (i + 1)
      rw [psm_succ, ← rd_at] at *
      rw [w64 (by omega) (by omega)]
    rw [shares_sums.l0, if_pos (by omega), if_pos (by omega), if_pos (by omega), if_pos (by rw [sumsTo_len]; omega), e, w64 (i := (i : Int) + 1) (by omega) (by omega), show (i : Int) + 1 = ((i + 1 : Nat) : Int) by omega]
    exact ih (i + 1) k (by omega) (by omega)
theorem sums_f {x : List Int} (hx : Sm x) (k : Nat) (hk : 50 < k) : shares_sums.f k x = some (sumsTo x x.length) := by
  have := hx.hl
  unfold shares_sums.f
  have := sums_l hx x.length 0 k (by omega) (by omega)
  rwa [psm_zero] at this
theorem un_l {a b : List Int} (hl : a.length = b.length) (ha : Sm a) (h1 : 1 ≤ a.length) : ∀ n i k, i + n = a.length → n < k →
    shares_uneven.l0 k (sumsTo a a.length) (sumsTo b b.length) (a.length : Int) (i : Int) = some (dc ((∀ j, i ≤ j → j < a.length → psm b (j + 1) ≤ psm a (j + 1)) ∧ a.sum = b.sum)) := by
  intro n
  have := ha.hl
  have la := sumsTo_len a a.length
  have lb := sumsTo_len b b.length
  induction n with
  | zero =>
    intro i k hi hk
    obtain ⟨k, rfl⟩ : ∃ m, k = m + 1 := ⟨k - 1, by omega⟩
    rw [shares_uneven.l0, if_neg (by omega), la, lb, w64 (i := (a.length : Int) - 1) (by omega) (by omega), w64 (i := (b.length : Int) - 1) (by omega) (by omega), if_pos (by omega), if_pos (by omega), if_pos (by omega), if_pos (by omega)]
    rw [show (a.length : Int) - 1 = ((a.length - 1 : Nat) : Int) by omega, show (b.length : Int) - 1 = ((b.length - 1 : Nat) : Int) by omega, rd_at, rd_at, sumsTo_getD _ _ _ (by omega), sumsTo_getD _ _ _ (by omega), psm_all (by omega), psm_all (by omega)]
    congr 1
    by_cases c : a.sum = b.sum
    · rw [dc_true ⟨fun j h1 h2 => absurd h1 (by omega), c⟩, c]; simp
    · rw [dc_false fun h => c h.2]; simp [c]
  | succ n ih =>
    intro i k hi hk
    obtain ⟨k, rfl⟩ : ∃ m, k = m + 1 := ⟨k - 1, by omega⟩
    rw [shares_uneven.l0, if_pos (by omega), if_pos (by omega), if_pos (by omega), if_pos (by omega), rd_at, rd_at, sumsTo_getD _ _ _ (by omega), sumsTo_getD _ _ _ (by omega), w64 (by omega) (by omega), show (i : Int) + 1 = ((i + 1 : Nat) : Int) by omega, ih (i + 1) k (by omega) (by omega)]
    split
    · rw [dc_false]
      intro h
      have := h.1 i (Nat.le_refl _) (by omega)
      omega
    · congr 1; apply dc_congr
      constructor
      · intro ⟨h, s⟩
        refine ⟨fun j h1 h2 => ?_, s⟩
        by_cases e : j = i
        · subst e; omega
        · exact h j (by omega) h2
      · intro ⟨h, s⟩
        exact ⟨fun j h1 h2 => h j (by omega) h2, s⟩
theorem uneven_f {x y : List Int} (hx : Sm x) (hy : Sm y) (h1 : 1 ≤ x.length) (h12 : x.length ≤ 12) (hl : x.length = y.length) (k : Nat) (hk : 50 < k) : shares_uneven.f k x y = some (dc (Maj x y)) := by
  have ex : xFalling.f x = some (insAll x) := by
    rw [← fall_eq x hx.hb]
    exact if_pos ⟨by intro e; subst e; simp at h1, h12⟩
  have ey : xFalling.f y = some (insAll y) := by
    rw [← fall_eq y hy.hb]
    exact if_pos ⟨by intro e; subst e; rw [List.length_nil] at hl; omega, by omega⟩
  have lx := D_length x
  have ly := D_length y
  unfold shares_uneven.f
  rw [ex, ey, Option.bind_some, sums_f (sm_D hx) k hk, Option.bind_some, Option.bind_some, sums_f (sm_D hy) k hk, Option.bind_some, sumsTo_len, show ((0 : Int)) = ((0 : Nat) : Int) by rfl, un_l (by omega) (sm_D hx) (by omega) (insAll x).length 0 k (by omega) (by omega)]
  congr 1; apply dc_congr
  unfold Maj
  rw [sum_perm (D_perm x), sum_perm (D_perm y)]
  constructor
  · intro ⟨h, s⟩
    refine ⟨fun j => ?_, s⟩
    rcases j with _ | j
    · simp [psm_zero]
    · rcases Nat.lt_or_ge j (insAll x).length with c | c
      · exact h j (Nat.zero_le _) c
      · rw [psm_all (by omega), psm_all (by omega), sum_perm (D_perm x), sum_perm (D_perm y)]; omega
  · intro ⟨h, s⟩
    exact ⟨fun j _ _ => h (j + 1), s⟩

/-! ### the reference -/
theorem sum_l {x : List Int} (hx : Sm x) (q : Nat) : ∀ n i k, i + n = x.length → n < k → congouref01_sum.l0 k (q : Int) (psm x (min i q)) x (x.length : Int) (i : Int) = some (psm x q) := by
  intro n
  have := hx.hl
  induction n with
  | zero =>
    intro i k hi hk
    obtain ⟨k, rfl⟩ : ∃ m, k = m + 1 := ⟨k - 1, by omega⟩
    rw [congouref01_sum.l0, if_neg (by omega), show i = x.length by omega]
    congr 1
    unfold psm
    rw [← List.take_take, List.take_of_length_le (show (x.take q).length ≤ x.length by rw [List.length_take]; omega)]
  | succ n ih =>
    intro i k hi hk
    obtain ⟨k, rfl⟩ : ∃ m, k = m + 1 := ⟨k - 1, by omega⟩
    have IH := ih (i + 1) k (by omega) (by omega)
    rw [congouref01_sum.l0, if_pos (by omega), if_pos (by omega), if_pos (by omega), w64 (i := (i : Int) + 1) (by omega) (by omega), show (i : Int) + 1 = ((i + 1 : Nat) : Int) by omega]
    by_cases c : i < q
    · have e : wrap64 (psm x (min i q) + rd x (i : Int)) = psm x (min (i + 1) q) := by
        have := sm_psm hx (i + 1)
        rw [show min i q = i by omega, show min (i + 1) q = i + 1 by omega]
        rw [psm_succ, ← rd_at] at *
        rw [w64 (by omega) (by omega)]
      rw [if_pos (by omega), e, IH]
    · rw [if_neg (by omega), show min i q = min (i + 1) q by omega, IH]
theorem sum_f {x : List Int} (hx : Sm x) (q : Nat) (k : Nat) (hk : 50 < k) : congouref01_sum.f k x (q : Int) = some (psm x q) := by
  have := hx.hl
  unfold congouref01_sum.f
  have h := sum_l hx q x.length 0 k (by omega) (by omega)
  rwa [Nat.zero_min, psm_zero] at h
theorem run_l {a b : List Int} (ha : Sm a) (hb : Sm b) : ∀ n i k, i + n = a.length + b.length → n + 51 < k →
    congouref01_Uneven.l0 k a b ((a.length + b.length : Nat) : Int) (i : Int) = some (dc ((∀ j, i ≤ j → j < a.length + b.length → psm b j ≤ psm a j) ∧ a.sum = b.sum)) := by
  intro n
  have := ha.hl
  have := hb.hl
  induction n with
  | zero =>
    intro i k hi hk
    obtain ⟨k, rfl⟩ : ∃ m, k = m + 1 := ⟨k - 1, by omega⟩
    rw [congouref01_Uneven.l0, if_neg (by omega), sum_f ha _ k (by omega), sum_f hb _ k (by omega), Option.bind_some, Option.bind_some, psm_all (Nat.le_refl _), psm_all (Nat.le_refl _)]
    congr 1
    by_cases c : a.sum = b.sum
    · rw [dc_true ⟨fun j h1 h2 => absurd h1 (by omega), c⟩, c]; simp
    · rw [dc_false fun h => c h.2]; simp [c]
  | succ n ih =>
    intro i k hi hk
    obtain ⟨k, rfl⟩ : ∃ m, k = m + 1 := ⟨k - 1, by omega⟩
    rw [congouref01_Uneven.l0, if_pos (by omega), sum_f ha _ k (by omega), sum_f hb _ k (by omega), Option.bind_some, Option.bind_some, w64 (by omega) (by omega), show (i : Int) + 1 = ((i + 1 : Nat) : Int) by omega, ih (i + 1) k (by omega) (by omega)]
    split
    · rw [dc_false]
      intro h
      have := h.1 i (Nat.le_refl _) (by omega)
      omega
    · congr 1; apply dc_congr
      constructor
      · intro ⟨h, s⟩
        refine ⟨fun j h1 h2 => ?_, s⟩
        by_cases e : j = i
        · subst e; omega
        · exact h j (by omega) h2
      · intro ⟨h, s⟩
        exact ⟨fun j h1 h2 => h j (by omega) h2, s⟩
theorem runeven_f {x y : List Int} (hx : Sm x) (hy : Sm y) (k : Nat) (hk : 200 < k) : congouref01_Uneven.f k x y = some (dc (Maj x y)) := by
  have lx := D_length x
  have ly := D_length y
  have := hx.hl
  have := hy.hl
  unfold congouref01_Uneven.f
  rw [show xRFalling.f x = some (insAll x) from if_pos hx.hl, show xRFalling.f y = some (insAll y) from if_pos hy.hl, Option.bind_some, Option.bind_some, w64 (by omega) (by omega), show ((insAll x).length : Int) + ((insAll y).length : Int) = (((insAll x).length + (insAll y).length : Nat) : Int) by omega, show ((0 : Int)) = ((0 : Nat) : Int) by rfl, run_l (sm_D hx) (sm_D hy) ((insAll x).length + (insAll y).length) 0 k (by omega) (by omega)]
  congr 1; apply dc_congr
  unfold Maj
  rw [sum_perm (D_perm x), sum_perm (D_perm y)]
  constructor
  · intro ⟨h, s⟩
    refine ⟨fun j => ?_, s⟩
    rcases Nat.lt_or_ge j ((insAll x).length + (insAll y).length) with c | c
    · exact h j (Nat.zero_le _) c
    · rw [psm_all (by omega), psm_all (by omega), sum_perm (D_perm x), sum_perm (D_perm y)]; omega
  · intro ⟨h, s⟩
    exact ⟨fun j _ _ => h j, s⟩
theorem Uneven_f {x y : List Int} (hx : x.length ≤ 15) (hy : y.length ≤ 15) (k : Nat) (hk : 50 < k) : shares_Uneven.f k x y = some (if dc (Two x y) = true then (dc (Maj x y), 0) else (false, 2)) := by
  unfold shares_Uneven.f
  rw [are_two x y hx hy k (by omega), Option.bind_some]
  by_cases h : Two x y
  · rw [dc_true h, if_pos rfl, if_pos rfl, uneven_f (sm_of_sh h.1) (sm_of_sh h.2.1) h.1.h1 (by have := h.1.h6; omega) h.2.2 k hk, Option.bind_some]
  · rw [dc_false h, if_neg (by decide), if_neg (by decide)]
theorem awake_maj : Maj [3, 0] [2, 1] := by
  rw [Maj_desc (by simp [Desc]) (by simp [Desc])]
  refine ⟨fun k => ?_, rfl⟩
  match k with
  | 0 => decide
  | 1 => decide
  | k + 2 => rw [psm_all (by simp), psm_all (by simp)]; decide
theorem awake_f (k : Nat) (hk : 50 < k) : congoulaw01_awake.f k = some true := by
  unfold congoulaw01_awake.f
  rw [Uneven_f (by simp) (by simp) k hk, dc_true, if_pos rfl, Option.bind_some, dc_true awake_maj]
  · rfl
  · exact ⟨⟨by simp, by simp, by simp⟩, ⟨by simp, by simp, by simp⟩, rfl⟩
theorem take15 (l : List Int) : (l.take 15).length ≤ 15 := by rw [List.length_take]; omega
end Go.Proofs.Ytefmafbbnkkpjaa.Pure
