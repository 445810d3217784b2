/- Pictures: rows and columns of bits, their blocks as clues, what Clues, Filled and sums return. -/
import Derived.Test.YtkieehjpnjplmaaDoorSA
import Derived.Test.YtkieehjpnjplmaaDoorSB
import Derived.Test.YtkieehjpnjplmaaDoorXG3a
import Derived.Test.YtkieehjpnjplmaaDoorXf4
import Derived.Test.YtkieehjpnjplmaaDoorXf8
import Derived.Test.YtkieehjpnjplmaaDoorXf9
namespace Go.Proofs.YtkieehjpnjplmaaDoor.Pure
open Go.RowKit Go.Proofs.YtkieehjpnjplmaaDoor.X Go.Proofs.YtkieehjpnjplmaaDoorW.PrintWords Go.Proofs.YtkieehjpnjplmaaDoorW.PrintLast
set_option linter.unusedVariables false
set_option linter.unusedSimpArgs false

theorem up {α : Type} {f : Nat → Option α} (hm : ∀ k, LeO (f k) (f (k + 1))) {r : α} {n : Nat} (h : f n = some r) : ∀ k, n ≤ k → f k = some r := by
  intro k hk
  obtain ⟨d, rfl⟩ : ∃ d, k = n + d := ⟨k - n, by omega⟩
  clear hk
  induction d with
  | zero => exact h
  | succ d ih => exact hm _ _ ih
theorem blk_spec {x : Nat} (h : x < 32) : (squares_blocks.f 6 (x : Int) = some (blk x) ∧ (blk x).sum = pc x ∧ (blk x).length ≤ 3) ∧ ∀ y ∈ blk x, 1 ≤ y ∧ y ≤ 5 := by
  have := blk_all x h
  unfold blkOk at this
  rw [Bool.and_eq_true] at this
  exact ⟨of_decide_eq_true this.1, fun y hy => of_decide_eq_true (List.all_eq_true.mp this.2 y hy)⟩
theorem blocks_f {x : Nat} (h : x < 32) (k : Nat) (hk : 6 ≤ k) : squares_blocks.f k (x : Int) = some (blk x) := up (fun k => squares_blocks.mono _ k) (blk_spec h).1.1 k hk
theorem clue_f {w x : Nat} (hw : w < 6) (h1 : 1 ≤ w) (hx : x < 2 ^ w) (k : Nat) (hk : 60 ≤ k) : squares_isClue.f k (w : Int) (blk x) = some true := up (fun k => squares_isClue.mono _ _ k) (clue_all w hw h1 x hx) k hk
theorem tblocks_f (k : Nat) (hk : 20 ≤ k) : congoutop_blocks.f k = some true := up (fun k => congoutop_blocks.mono k) top_blocks k hk

/-- a picture's rows: numbers below 2^w -/
structure Pic (w : Nat) (p : List Int) : Prop where
  w1 : 1 ≤ w
  w5 : w ≤ 5
  h1 : 1 ≤ p.length
  h5 : p.length ≤ 5
  hb : ∀ x ∈ p, 0 ≤ x ∧ x < ((2 ^ w : Nat) : Int)
theorem pow32 {w : Nat} (h : w ≤ 5) : 2 ^ w ≤ 32 := Nat.pow_le_pow_right (n := 2) (by decide) h
/-- a row as a number -/
def rw_ (p : List Int) (i : Nat) : Nat := (p.getD i 0).toNat
theorem rw_spec {w : Nat} {p : List Int} (h : Pic w p) {i : Nat} (hi : i < p.length) : p.getD i 0 = (rw_ p i : Int) ∧ rw_ p i < 2 ^ w := by
  have := h.hb _ (getD_mem hi)
  unfold rw_
  omega
/-- a column, out of the first rows -/
def col (p : List Int) (c : Nat) : Nat → Nat
  | 0 => 0
  | i + 1 => col p c i + rw_ p i / 2 ^ c % 2 * 2 ^ i
theorem col_lt (p : List Int) (c : Nat) : ∀ i, col p c i < 2 ^ i
  | 0 => by simp [col]
  | i + 1 => by
    have := col_lt p c i
    have h2 : rw_ p i / 2 ^ c % 2 = 0 ∨ rw_ p i / 2 ^ c % 2 = 1 := by omega
    rw [col, Nat.pow_succ]
    rcases h2 with e | e <;> rw [e] <;> omega
theorem or_step : ∀ i : Nat, i < 5 → ∀ x : Nat, x < 2 ^ i → ∀ b : Nat, b < 2 → Go.bits .or .i64 (x : Int) (shl .i64 (b : Int) (i : Int)) = ((x + b * 2 ^ i : Nat) : Int) := by decide +kernel
theorem and_step : ∀ x : Nat, x < 32 → ∀ c : Nat, c < 5 → Go.bits .and .i64 (shr .i64 (x : Int) (c : Int)) 1 = ((x / 2 ^ c % 2 : Nat) : Int) := by decide +kernel
theorem column_l {w : Nat} {p : List Int} (h : Pic w p) (c : Nat) (hc : c < 5) : ∀ n i k, i + n = p.length → n < k → squares_column.l0 k (c : Int) ((col p c i : Nat) : Int) p (p.length : Int) (i : Int) = some ((col p c p.length : Nat) : Int) := by
  intro n
  induction n with
  | zero =>
    intro i k hi hk
    obtain ⟨k, rfl⟩ : ∃ m, k = m + 1 := ⟨k - 1, by omega⟩
    obtain rfl : i = p.length := by omega
    rw [squares_column.l0, if_neg (by omega)]
  | succ n ih =>
    intro i k hi hk
    obtain ⟨k, rfl⟩ : ∃ m, k = m + 1 := ⟨k - 1, by omega⟩
    have h5 := h.h5
    have hr := rw_spec h (i := i) (by omega)
    have h32 := pow32 h.w5
    rw [squares_column.l0, if_pos (by omega), if_pos (by omega), if_pos (by omega), if_pos (by omega), rd_at, hr.1, and_step _ (by omega) c hc, or_step i (by omega) _ (col_lt p c i) _ (by omega), w64 (by omega) (by omega), show (i : Int) + 1 = ((i + 1 : Nat) : Int) by omega]
    exact ih (i + 1) k (by omega) (by omega)
theorem column_f {w : Nat} {p : List Int} (h : Pic w p) (c : Nat) (hc : c < 5) (k : Nat) (hk : 5 < k) : squares_column.f k p (c : Int) = some ((col p c p.length : Nat) : Int) :=
  column_l h c hc p.length 0 k (by omega) (by have := h.h5; omega)
/-- the clues of rows and of columns -/
def rowsOf (p : List Int) (n : Nat) : List (List Int) := (List.range n).map fun i => blk (rw_ p i)
def colsOf (p : List Int) (n : Nat) : List (List Int) := (List.range n).map fun c => blk (col p c p.length)
theorem col_32 {w : Nat} {p : List Int} (h : Pic w p) (c : Nat) : col p c p.length < 32 := by
  have h1 := col_lt p c p.length
  have h2 := pow32 h.h5
  omega
theorem clues_l1 {w : Nat} {p : List Int} (h : Pic w p) (R : List (List Int)) : ∀ n c k, c + n = w → n + 10 < k → squares_clues.l1 k p (w : Int) (c : Int) R (colsOf p c) = some (R, colsOf p w) := by
  intro n
  induction n with
  | zero =>
    intro c k hc hk
    obtain ⟨k, rfl⟩ : ∃ m, k = m + 1 := ⟨k - 1, by omega⟩
    obtain rfl : c = w := by omega
    rw [squares_clues.l1, if_neg (by omega)]
  | succ n ih =>
    intro c k hc hk
    obtain ⟨k, rfl⟩ : ∃ m, k = m + 1 := ⟨k - 1, by omega⟩
    have h5 := h.w5
    have hl : (colsOf p c).length = c := by simp [colsOf]
    rw [squares_clues.l1, if_pos (by omega), column_f h c (by omega) k (by omega), Option.bind_some, blocks_f (col_32 h c) k (by omega), Option.bind_some, if_pos (by omega), w64 (by omega) (by omega), show (c : Int) + 1 = ((c + 1 : Nat) : Int) by omega]
    have e : colsOf p c ++ [blk (col p c p.length)] = colsOf p (c + 1) := by simp [colsOf, List.range_succ]
    rw [e]
    exact ih (c + 1) k (by omega) (by omega)
theorem clues_l0 {w : Nat} {p : List Int} (h : Pic w p) : ∀ n i k, i + n = p.length → n + 30 < k → squares_clues.l0 k (w : Int) p p (p.length : Int) (i : Int) (rowsOf p i) = some (rowsOf p p.length, colsOf p w) := by
  intro n
  induction n with
  | zero =>
    intro i k hi hk
    obtain ⟨k, rfl⟩ : ∃ m, k = m + 1 := ⟨k - 1, by omega⟩
    obtain rfl : i = p.length := by omega
    rw [squares_clues.l0, if_neg (by omega)]
    exact clues_l1 h _ w 0 k (by omega) (by have := h.w5; omega)
  | succ n ih =>
    intro i k hi hk
    obtain ⟨k, rfl⟩ : ∃ m, k = m + 1 := ⟨k - 1, by omega⟩
    have h5 := h.h5
    have hr := rw_spec h (i := i) (by omega)
    have h32 := pow32 h.w5
    have hl : (rowsOf p i).length = i := by simp [rowsOf]
    rw [squares_clues.l0, if_pos (by omega), if_pos (by omega), if_pos (by omega), rd_at, hr.1, blocks_f (by omega) k (by omega), Option.bind_some, if_pos (by omega), w64 (by omega) (by omega), show (i : Int) + 1 = ((i + 1 : Nat) : Int) by omega]
    have e : rowsOf p i ++ [blk (rw_ p i)] = rowsOf p (i + 1) := by simp [rowsOf, List.range_succ]
    rw [e]
    exact ih (i + 1) k (by omega) (by omega)
theorem clues_f {w : Nat} {p : List Int} (h : Pic w p) (k : Nat) (hk : 50 < k) : squares_clues.f k (w : Int) p = some (rowsOf p p.length, colsOf p w) :=
  clues_l0 h p.length 0 k (by omega) (by have := h.h5; omega)
theorem shl_small9 : ∀ w : Nat, w < 6 → shl .i64 1 (w : Int) = ((2 ^ w : Nat) : Int) := by decide +kernel
theorem isPic_of {d : Int} {l : List Int} (h : xIsPicture.f d l = some true) : ∃ w : Nat, d = (w : Int) ∧ Pic w l := by
  have h := Option.some.inj h
  rw [Bool.and_eq_true, Bool.and_eq_true] at h
  obtain ⟨⟨h1, h2⟩, h3⟩ := h
  have h1 := of_decide_eq_true h1
  have h2 := of_decide_eq_true h2
  have h3 : l.any (fun x => !setB d x) = false := by simpa using h3
  rw [List.any_eq_false] at h3
  obtain ⟨w, rfl⟩ : ∃ w : Nat, d = (w : Int) := ⟨d.toNat, by omega⟩
  refine ⟨w, rfl, by omega, by omega, by omega, by omega, fun x hx => ?_⟩
  have h4 := h3 x hx
  have h5 : setB (w : Int) x = true := by simpa using h4
  unfold setB at h5
  rw [Bool.and_eq_true] at h5
  have h6 := of_decide_eq_true h5.2
  rw [shl_small9 w (by omega)] at h6
  exact h6
theorem size9 {n : Nat} (h1 : 1 ≤ n) (h5 : n ≤ 5) : sizeB (n : Int) = true := decide_eq_true (by omega)
theorem set9 {w : Nat} (h1 : 1 ≤ w) (h5 : w ≤ 5) {x : Int} (hx : 0 ≤ x ∧ x < ((2 ^ w : Nat) : Int)) : setB (w : Int) x = true := by
  unfold setB
  rw [size9 h1 h5, Bool.true_and, shl_small9 w (by omega)]
  exact decide_eq_true hx
theorem isPic_f {w : Nat} {p : List Int} (h : Pic w p) : xIsPicture.f (w : Int) p = some true := by
  unfold xIsPicture.f
  rw [size9 h.h1 h.h5, size9 h.w1 h.w5]
  have : p.any (fun x => !setB (w : Int) x) = false := by
    rw [List.any_eq_false]
    intro x hx
    rw [set9 h.w1 h.w5 (h.hb x hx)]; decide
  rw [this]; rfl
theorem rsize_f (d : Int) : congouref07_Size.f d = some (sizeB d) := by
  unfold congouref07_Size.f sizeB
  by_cases h : d ≥ 1
  · rw [if_pos h]
    have : decide (1 ≤ d ∧ d ≤ 5) = decide (d ≤ 5) := by rw [decide_eq_decide]; omega
    rw [this]
  · rw [if_neg h]
    have : decide (1 ≤ d ∧ d ≤ 5) = false := decide_eq_false (by omega)
    rw [this]
theorem rset_f {w : Nat} (h1 : 1 ≤ w) (h5 : w ≤ 5) {x : Int} (hx : 0 ≤ x ∧ x < ((2 ^ w : Nat) : Int)) : congouref07_Set.f (w : Int) x = some true := by
  unfold congouref07_Set.f
  rw [rsize_f, size9 h1 h5, Option.bind_some, if_pos rfl, if_pos hx.1, if_pos (by omega), shl_small9 w (by omega), decide_eq_true hx.2]
theorem picture_l {w : Nat} {p : List Int} (h : Pic w p) : ∀ n i k, i + n = p.length → n < k → congouref07_Picture.l0 k (w : Int) p p (p.length : Int) (i : Int) = some true := by
  intro n
  induction n with
  | zero =>
    intro i k hi hk
    obtain ⟨k, rfl⟩ : ∃ m, k = m + 1 := ⟨k - 1, by omega⟩
    rw [congouref07_Picture.l0, if_neg (by omega), rsize_f, size9 h.w1 h.w5, Option.bind_some, if_pos rfl, rsize_f, size9 h.h1 h.h5, Option.bind_some]
  | succ n ih =>
    intro i k hi hk
    obtain ⟨k, rfl⟩ : ∃ m, k = m + 1 := ⟨k - 1, by omega⟩
    have h5 := h.h5
    rw [congouref07_Picture.l0, if_pos (by omega), if_pos (by omega), if_pos (by omega), rd_at, rset_f h.w1 h.w5 (h.hb _ (getD_mem (by omega))), Option.bind_some, if_pos rfl, w64 (by omega) (by omega), show (i : Int) + 1 = ((i + 1 : Nat) : Int) by omega]
    exact ih (i + 1) k (by omega) (by omega)
theorem picture_f {w : Nat} {p : List Int} (h : Pic w p) (k : Nat) (hk : 10 < k) : congouref07_Picture.f k (w : Int) p = some true := picture_l h p.length 0 k (by omega) (by have := h.h5; omega)
theorem Clues_f {w : Nat} {p : List Int} (h : Pic w p) (k : Nat) (hk : 50 < k) : squares_Clues.f k (w : Int) p = some (rowsOf p p.length, colsOf p w, 0) := by
  unfold squares_Clues.f
  rw [isPic_f h, Option.bind_some, if_pos rfl, clues_f h k hk, Option.bind_some]

theorem anyNot_f {k : Nat} {d : Int} : ∀ {L : List (List Int)}, (∀ l ∈ L, squares_isClue.f k d l = some true) → anyNot k d L = some false
  | [], _ => rfl
  | l :: r, h => by
    unfold anyNot
    rw [h l (by simp), Option.bind_some, if_pos rfl]
    exact anyNot_f fun x hx => h x (by simp [hx])
theorem rows_len (p : List Int) (n : Nat) : (rowsOf p n).length = n := by simp [rowsOf]
theorem cols_len (p : List Int) (n : Nat) : (colsOf p n).length = n := by simp [colsOf]
theorem valid_f {w : Nat} {p : List Int} (h : Pic w p) (k : Nat) (hk : 60 ≤ k) : xValid.f k (rowsOf p p.length) (colsOf p w) = some true := by
  unfold xValid.f
  rw [rows_len, cols_len, size9 h.h1 h.h5, size9 h.w1 h.w5, if_pos rfl, if_pos rfl]
  rw [anyNot_f (L := rowsOf p p.length) (fun l hl => ?_), Option.bind_some, if_neg (by decide), anyNot_f (L := colsOf p w) (fun l hl => ?_), Option.bind_some]
  · rfl
  · obtain ⟨c, hc, rfl⟩ := List.mem_map.mp hl
    exact clue_f (by have := h.h5; omega) h.h1 (col_lt p c p.length) k hk
  · obtain ⟨i, hi, rfl⟩ := List.mem_map.mp hl
    exact clue_f (by have := h.w5; omega) h.w1 (rw_spec h (List.mem_range.mp hi)).2 k hk
/-- rows of a picture's clues -/
structure Cl (L : List (List Int)) : Prop where
  hl : L.length ≤ 5
  hr : ∀ l ∈ L, l.length ≤ 3 ∧ ∀ y ∈ l, 1 ≤ y ∧ y ≤ 5
theorem cl_rows {w : Nat} {p : List Int} (h : Pic w p) : Cl (rowsOf p p.length) := by
  refine ⟨by rw [rows_len]; exact h.h5, fun l hl => ?_⟩
  obtain ⟨i, hi, rfl⟩ := List.mem_map.mp hl
  have h1 := (rw_spec h (List.mem_range.mp hi)).2
  have h2 := pow32 h.w5
  have h3 := blk_spec (x := rw_ p i) (by omega)
  exact ⟨h3.1.2.2, h3.2⟩
theorem cl_cols {w : Nat} {p : List Int} (h : Pic w p) : Cl (colsOf p w) := by
  refine ⟨by rw [cols_len]; exact h.w5, fun l hl => ?_⟩
  obtain ⟨c, hc, rfl⟩ := List.mem_map.mp hl
  have h3 := blk_spec (col_32 h c)
  exact ⟨h3.1.2.2, h3.2⟩
theorem flat_len : ∀ {L : List (List Int)}, (∀ l ∈ L, l.length ≤ 3) → L.flatten.length ≤ 3 * L.length
  | [], _ => by simp
  | l :: r, h => by
    have h1 := h l (by simp)
    have h2 := flat_len (L := r) fun x hx => h x (by simp [hx])
    simp only [List.flatten_cons, List.length_append, List.length_cons]; omega
theorem flat_sum : ∀ L : List (List Int), L.flatten.sum = (L.map List.sum).sum
  | [] => rfl
  | l :: r => by
    have := flat_sum r
    simp only [List.flatten_cons, List.sum_append, List.map_cons, List.sum_cons, this]
theorem psm_5 {a : List Int} (h : ∀ y ∈ a, 1 ≤ y ∧ y ≤ 5) : ∀ i, i ≤ a.length → 0 ≤ psm a i ∧ psm a i ≤ 5 * i
  | 0, _ => by simp [psm_zero]
  | i + 1, hi => by
    have h1 := psm_5 h i (by omega)
    have h2 := h _ (getD_mem (l := a) (i := i) (by omega))
    rw [psm_succ]; omega
theorem filled_l {l : List Int} (hl : l.length ≤ 15) (h : ∀ y ∈ l, 1 ≤ y ∧ y ≤ 5) : ∀ n i k, i + n = l.length → n < k → squares_Filled_1.l0 k (psm l i) l (l.length : Int) (i : Int) = some l.sum := by
  intro n
  induction n with
  | zero =>
    intro i k hi hk
    obtain ⟨k, rfl⟩ : ∃ m, k = m + 1 := ⟨k - 1, by omega⟩
    rw [squares_Filled_1.l0, if_neg (by omega), psm_all (by omega)]
  | succ n ih =>
    intro i k hi hk
    obtain ⟨k, rfl⟩ : ∃ m, k = m + 1 := ⟨k - 1, by omega⟩
    have h1 := psm_5 h (i + 1) (by omega)
    rw [squares_Filled_1.l0, if_pos (by omega), if_pos (by omega), if_pos (by omega), rd_at, ← psm_succ, w64 (by omega) (by omega), w64 (by omega) (by omega), show (i : Int) + 1 = ((i + 1 : Nat) : Int) by omega]
    exact ih (i + 1) k (by omega) (by omega)
theorem filled_f {L : List (List Int)} (h : Cl L) (k : Nat) (hk : 20 < k) : squares_Filled_1.f k L = some (L.map List.sum).sum := by
  have h1 := flat_len (L := L) fun l hl => (h.hr l hl).1
  have h2 := h.hl
  unfold squares_Filled_1.f xConcat.f
  rw [if_pos (by omega), Option.bind_some, ← flat_sum]
  refine filled_l (by omega) (fun y hy => ?_) L.flatten.length 0 k (by omega) (by omega)
  obtain ⟨l, hl, hyl⟩ := List.mem_flatten.mp hy
  exact (h.hr l hl).2 y hyl
/-- a list that is a rearrangement of values comes of a rearrangement of the places -/
theorem perm_map {α β : Type} (g : α → β) {l l' : List β} (h : l.Perm l') : ∀ m : List α, l' = m.map g → ∃ q : List α, q.Perm m ∧ l = q.map g := by
  induction h with
  | nil =>
    intro m e
    exact ⟨m, List.Perm.refl _, e⟩
  | cons x _ ih =>
    intro m e
    cases m with
    | nil => simp at e
    | cons a m =>
      simp only [List.map_cons, List.cons.injEq] at e
      obtain ⟨q, hq, e2⟩ := ih m e.2
      exact ⟨a :: q, hq.cons a, by rw [List.map_cons, e.1, e2]⟩
  | swap x y l =>
    intro m e
    match m, e with
    | [], e => simp at e
    | [a], e => simp at e
    | a :: b :: m, e =>
      simp only [List.map_cons, List.cons.injEq] at e
      exact ⟨b :: a :: m, List.Perm.swap _ _ _, by simp only [List.map_cons]; rw [e.1, e.2.1, e.2.2]⟩
  | trans _ _ h1 h2 =>
    intro m e
    obtain ⟨q, hq, e2⟩ := h2 m e
    obtain ⟨q', hq', e3⟩ := h1 q e2
    exact ⟨q', hq'.trans hq, e3⟩
/-- the sum of a table's row, over some places -/
def rowS (b : Nat → Nat → Int) (q : List Nat) (i : Nat) : Int := (q.map (b i)).sum
/-- the sum of a table's column -/
def colS (b : Nat → Nat → Int) (h : Nat) (j : Nat) : Int := ((List.range h).map fun i => b i j).sum
theorem sum_map_add {α : Type} (f g : α → Int) : ∀ l : List α, (l.map fun x => f x + g x).sum = (l.map f).sum + (l.map g).sum
  | [] => rfl
  | x :: l => by
    have := sum_map_add f g l
    simp only [List.map_cons, List.sum_cons, this]; omega
theorem sum_map_zero {α : Type} : ∀ l : List α, (l.map fun _ => (0 : Int)).sum = 0
  | [] => rfl
  | x :: l => by
    have := sum_map_zero l
    simp only [List.map_cons, List.sum_cons, this]; omega
theorem sum_swap (b : Nat → Nat → Int) (h : Nat) : ∀ q : List Nat, (q.map (colS b h)).sum = ((List.range h).map (rowS b q)).sum
  | [] => by
    have : (rowS b [] : Nat → Int) = fun _ => 0 := funext fun i => rfl
    rw [this, sum_map_zero]; rfl
  | j :: q => by
    have e : (rowS b (j :: q)) = fun i => b i j + rowS b q i := funext fun i => by simp [rowS]
    rw [e, sum_map_add, ← sum_swap b h q]
    rfl
theorem sum_le_sum {α : Type} {f g : α → Int} : ∀ {l : List α}, (∀ x ∈ l, f x ≤ g x) → (l.map f).sum ≤ (l.map g).sum
  | [], _ => Int.le_refl _
  | x :: l, h => by
    have h1 := h x (by simp)
    have h2 := sum_le_sum (l := l) fun y hy => h y (by simp [hy])
    simp only [List.map_cons, List.sum_cons]; omega
theorem ex_map {α : Type} (f : α → Int) (t : Int) : ∀ l : List α, (l.map f).sum - ex t (l.map f) = (l.map fun x => min (f x) t).sum
  | [] => rfl
  | x :: l => by
    have := ex_map f t l
    simp only [List.map_cons, List.sum_cons, ex]; omega
theorem bit_take {f : Nat → Int} (hf : ∀ j, 0 ≤ f j ∧ f j ≤ 1) : ∀ (q : List Nat) (k : Nat), ((q.take k).map f).sum ≤ k ∧ ((q.take k).map f).sum ≤ (q.map f).sum ∧ 0 ≤ (q.map f).sum
  | [], k => by simp
  | j :: q, 0 => by
    have := bit_take hf q 0
    have h1 := hf j
    simp only [List.take_zero, List.map_nil, List.sum_nil, List.map_cons, List.sum_cons] at this ⊢
    omega
  | j :: q, k + 1 => by
    have := bit_take hf q k
    have h1 := hf j
    simp only [List.take_succ_cons, List.map_cons, List.sum_cons] at this ⊢
    omega
/-- the first sums of the columns, fallen, are at most what the rows have below each bound -/
theorem gale {b : Nat → Nat → Int} (hb : ∀ i j, 0 ≤ b i j ∧ b i j ≤ 1) (h w : Nat) {c : List Int} (hc : c.Perm ((List.range w).map (colS b h))) (k : Nat) :
    psm c k ≤ ((List.range h).map (rowS b (List.range w))).sum - ex k ((List.range h).map (rowS b (List.range w))) := by
  obtain ⟨q, hq, rfl⟩ := perm_map (colS b h) hc _ rfl
  unfold psm
  rw [← List.map_take, sum_swap, ex_map]
  refine sum_le_sum fun i _ => ?_
  have h1 := bit_take (hb i) q k
  have h2 : (q.map (b i)).sum = ((List.range w).map (b i)).sum := sum_perm (hq.map (b i))
  simp only [rowS]
  omega
theorem both_sums (b : Nat → Nat → Int) (h w : Nat) : ((List.range w).map (colS b h)).sum = ((List.range h).map (rowS b (List.range w))).sum := sum_swap b h _

/-- zeros behind a falling list of numbers from 0 on change nothing -/
theorem psm_zeros (l : List Int) (n k : Nat) : psm (l ++ List.replicate n 0) k = psm l k := by
  unfold psm
  rw [List.take_append, List.sum_append]
  have : ∀ m : Nat, (List.replicate m (0 : Int)).sum = 0 := fun m => by
    induction m with
    | zero => rfl
    | succ m ih => rw [List.replicate_succ, List.sum_cons, ih]; rfl
  rw [List.take_replicate, this]; omega
theorem desc_zeros {l : List Int} (h : Desc l) (n : Nn l) (m : Nat) : Desc (l ++ List.replicate m 0) := by
  refine List.pairwise_append.mpr ⟨h, List.pairwise_replicate.mpr (.inr (Int.le_refl _)), fun a ha b hb => ?_⟩
  rw [(List.mem_replicate.mp hb).2]
  exact n a ha
theorem sum_zeros (l : List Int) (n : Nat) : (l ++ List.replicate n (0 : Int)).sum = l.sum := by
  have h := psm_zeros l n (l.length + n)
  rw [psm_all (by simp), psm_all (by omega)] at h
  exact h
theorem ex_zeros (t : Int) (ht : 0 ≤ t) : ∀ (l : List Int) (n : Nat), ex t (l ++ List.replicate n 0) = ex t l
  | [], 0 => rfl
  | [], n + 1 => by
    have := ex_zeros t ht [] n
    simp only [List.nil_append, List.replicate_succ, ex] at this ⊢
    omega
  | x :: l, n => by
    have := ex_zeros t ht l n
    simp only [List.cons_append, ex, this]

theorem inner_l1 {L : List (List Int)} {acc row r : List Int} {K j : Nat} (H : ∀ k', K ≤ k' → congoutop_sums.l0 k' (acc ++ [row.sum]) L (L.length : Int) ((j + 1 : Nat) : Int) = some r) (hr : row.length ≤ 3) (hb : ∀ y ∈ row, 1 ≤ y ∧ y ≤ 5) (ha : acc.length < 1000) (hj : j < 1000) :
    ∀ n i k, i + n = row.length → K + n + 1 ≤ k → congoutop_sums.l1 k acc (psm row i) L (L.length : Int) (j : Int) row (row.length : Int) (i : Int) = some r := by
  intro n
  induction n with
  | zero =>
    intro i k hi hk
    obtain ⟨k, rfl⟩ : ∃ m, k = m + 1 := ⟨k - 1, by omega⟩
    rw [congoutop_sums.l1, if_neg (by omega), psm_all (by omega), if_pos (by omega), w64 (by omega) (by omega), show (j : Int) + 1 = ((j + 1 : Nat) : Int) by omega]
    exact H k (by omega)
  | succ n ih =>
    intro i k hi hk
    obtain ⟨k, rfl⟩ : ∃ m, k = m + 1 := ⟨k - 1, by omega⟩
    have h1 := psm_5 hb (i + 1) (by omega)
    rw [congoutop_sums.l1, if_pos (by omega), if_pos (by omega), if_pos (by omega), rd_at, ← psm_succ, w64 (by omega) (by omega), w64 (by omega) (by omega), show (i : Int) + 1 = ((i + 1 : Nat) : Int) by omega]
    exact ih (i + 1) k (by omega) (by omega)
/-- six numbers turned around -/
theorem rev_six (l : List Int) (h : l.length = 6) (k : Nat) (hk : 10 < k) : slices_Reverse_int_int.f k l = some l.reverse := by
  match l, h with
  | [a, b, c, d, e, f], _ =>
    obtain ⟨k, rfl⟩ : ∃ m, k = m + 4 := ⟨k - 4, by omega⟩
    simp [slices_Reverse_int_int.f, slices_Reverse_int_int.l0, wrap64, Go.Proofs.YtkieehjpnjplmaaDoorW.PrintWords.rd]
/-- numbers in falling order, as sums leaves them -/
def fallOf (l : List Int) : List Int := (rise l).reverse
theorem fall_perm (l : List Int) : (fallOf l).Perm l := (List.reverse_perm _).trans (List.mergeSort_perm _ _)
theorem fall_desc (l : List Int) : Desc (fallOf l) := by
  unfold fallOf Desc rise
  rw [List.pairwise_reverse]
  have := List.pairwise_mergeSort (le := fun x y : Int => decide (x ≤ y)) (fun a b c h1 h2 => decide_eq_true (by have := of_decide_eq_true h1; have := of_decide_eq_true h2; omega)) (fun a b => by rcases Int.le_total a b with h | h <;> simp [h]) l
  exact this.imp fun h => of_decide_eq_true h
theorem pad_l2 : ∀ n (l : List Int) k, l.length + n = 6 → n + 20 < k → congoutop_sums.l2 k l = some (fallOf (l ++ List.replicate n 0)) := by
  intro n
  induction n with
  | zero =>
    intro l k hl hk
    obtain ⟨k, rfl⟩ : ∃ m, k = m + 1 := ⟨k - 1, by omega⟩
    have hne : l ≠ [] ∧ l.length < 1000000 := ⟨by intro e; subst e; simp at hl, by omega⟩
    have hr : (rise l).length = 6 := by rw [rise, List.length_mergeSort]; omega
    rw [congoutop_sums.l2, if_neg (by omega)]
    unfold xSort.f
    rw [if_pos hne, Option.bind_some, rev_six _ hr k (by omega), Option.bind_some]
    simp [fallOf]
  | succ n ih =>
    intro l k hl hk
    obtain ⟨k, rfl⟩ : ∃ m, k = m + 1 := ⟨k - 1, by omega⟩
    rw [congoutop_sums.l2, if_pos (by omega), if_pos (by omega), ih (l ++ [0]) k (by simp; omega) (by omega), List.append_assoc]
    rfl
theorem sums_l0 {L : List (List Int)} (h : Cl L) : ∀ n j k, j + n = L.length → n * 5 + 40 < k → congoutop_sums.l0 k ((L.take j).map List.sum) L (L.length : Int) (j : Int) = some (fallOf (L.map List.sum ++ List.replicate (6 - L.length) 0)) := by
  intro n
  induction n with
  | zero =>
    intro j k hj hk
    obtain ⟨k, rfl⟩ : ∃ m, k = m + 1 := ⟨k - 1, by omega⟩
    have hl := h.hl
    rw [congoutop_sums.l0, if_neg (by omega), List.take_of_length_le (by omega)]
    exact pad_l2 (6 - L.length) _ k (by simp; omega) (by omega)
  | succ n ih =>
    intro j k hj hk
    obtain ⟨k, rfl⟩ : ∃ m, k = m + 1 := ⟨k - 1, by omega⟩
    have hl := h.hl
    have hlt : j < L.length := by omega
    have hm : rd_L1 L (j : Int) = L[j] := by simp [rd_L1, List.getD_eq_getElem?_getD, List.getElem?_eq_getElem hlt]
    have hrow := h.hr L[j] (List.getElem_mem hlt)
    rw [congoutop_sums.l0, if_pos (by omega), if_pos (by omega), if_pos (by omega), hm]
    refine inner_l1 (K := n * 5 + 41) (fun k' hk' => ?_) hrow.1 hrow.2 (by simp; omega) (by omega) L[j].length 0 k (by omega) (by omega)
    have e : (L.take j).map List.sum ++ [L[j].sum] = (L.take (j + 1)).map List.sum := by
      rw [List.take_succ_eq_append_getElem hlt, List.map_append]; rfl
    rw [e]
    exact ih (j + 1) k' (by omega) (by omega)
theorem sums9_f {L : List (List Int)} (h : Cl L) (k : Nat) (hk : 70 < k) : congoutop_sums.f k L = some (fallOf (L.map List.sum ++ List.replicate (6 - L.length) 0)) :=
  sums_l0 h L.length 0 k (by omega) (by have := h.hl; omega)
end Go.Proofs.YtkieehjpnjplmaaDoor.Pure
