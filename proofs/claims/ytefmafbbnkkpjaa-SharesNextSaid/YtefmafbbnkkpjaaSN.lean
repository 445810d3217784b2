/- The reference's list of all parts of a number. -/
import Derived.Test.YtefmafbbnkkpjaaXf70
import Derived.Test.YtefmafbbnkkpjaaSK
namespace Go.Proofs.Ytefmafbbnkkpjaa.Pure
open Go Go.RowKit Go.Proofs.Ytefmafbbnkkpjaa.X Go.Proofs.YtefmafbbnkkpjaaW.PrintWords Go.Proofs.YtefmafbbnkkpjaaW.PrintLast
set_option linter.unusedVariables false
set_option linter.unusedSimpArgs false

def rowsG (g : Nat → Nat → List (List Int)) (n : Nat) : Nat → List (List Int)
  | 0 => []
  | x + 1 => (g (n - (x + 1)) (x + 1)).map (fun l => ((x + 1 : Nat) : Int) :: l) ++ rowsG g n x
/-- all parts of a number, of numbers up to a bound, the greatest first -/
def allG : Nat → Nat → Nat → List (List Int)
  | 0, n, _ => if n = 0 then [[]] else []
  | d + 1, n, m => if n = 0 then [[]] else rowsG (allG d) n (min n m)
/-- parts of a number with no number above a bound -/
structure Ps (n m : Nat) (c : List Int) : Prop where
  pt : Pt c
  sum : c.sum = n
  le : ∀ x ∈ c, x ≤ m
theorem mem_rows {g : Nat → Nat → List (List Int)} {n : Nat} {c : List Int} : ∀ {x : Nat}, c ∈ rowsG g n x ↔ ∃ y l, 1 ≤ y ∧ y ≤ x ∧ l ∈ g (n - y) y ∧ c = (y : Int) :: l
  | 0 => by simp [rowsG]; omega
  | x + 1 => by
    rw [rowsG, List.mem_append, mem_rows (x := x), List.mem_map]
    constructor
    · rintro (⟨l, h, rfl⟩ | ⟨y, l, h1, h2, h3, h4⟩)
      · exact ⟨x + 1, l, by omega, by omega, h, rfl⟩
      · exact ⟨y, l, h1, by omega, h3, h4⟩
    · rintro ⟨y, l, h1, h2, h3, h4⟩
      by_cases e : y = x + 1
      · subst e; exact .inl ⟨l, h3, h4.symm⟩
      · exact .inr ⟨y, l, h1, by omega, h3, h4⟩
theorem ps_nil {m : Nat} {c : List Int} : Ps 0 m c ↔ c = [] := by
  constructor
  · intro h
    have := pt_len h.pt.pos
    rw [h.sum] at this
    exact List.length_eq_zero_iff.mp (by omega)
  · rintro rfl
    exact ⟨⟨by simp [Desc], by simp⟩, by simp, by simp⟩
theorem ps_cons {n m y : Nat} {l : List Int} (h1 : 1 ≤ y) (hn : y ≤ n) : Ps n m ((y : Int) :: l) ↔ y ≤ m ∧ Ps (n - y) y l := by
  constructor
  · intro h
    have hd := List.pairwise_cons.mp h.pt.desc
    have hs := h.sum
    rw [List.sum_cons] at hs
    have := h.le y (by simp)
    exact ⟨by omega, pt_tail h.pt, by omega, hd.1⟩
  · intro ⟨h2, h⟩
    refine ⟨⟨List.pairwise_cons.mpr ⟨h.le, h.pt.desc⟩, fun x hx => ?_⟩, ?_, fun x hx => ?_⟩
    · rcases List.mem_cons.mp hx with e | e
      · omega
      · exact h.pt.pos x e
    · rw [List.sum_cons, h.sum]; omega
    · rcases List.mem_cons.mp hx with e | e
      · omega
      · have := h.le x e; omega
theorem mem_all : ∀ (d n m : Nat), n ≤ d → ∀ c, c ∈ allG d n m ↔ Ps n m c
  | 0, n, m, h, c => by
    have : n = 0 := by omega
    subst this
    rw [allG, if_pos rfl, ps_nil]; simp
  | d + 1, n, m, h, c => by
    rw [allG]
    by_cases e : n = 0
    · subst e; rw [if_pos rfl, ps_nil]; simp
    · rw [if_neg e, mem_rows]
      constructor
      · rintro ⟨y, l, h1, h2, h3, rfl⟩
        have := (mem_all d (n - y) y (by omega) l).mp h3
        exact (ps_cons h1 (by omega)).mpr ⟨by omega, this⟩
      · intro hp
        cases c with
        | nil => have := hp.sum; simp at this; omega
        | cons x l =>
          have hx := hp.pt.pos x (by simp)
          have hx2 := nn_mem_le hp.pt.nn x (by simp)
          rw [hp.sum] at hx2
          obtain ⟨y, rfl⟩ : ∃ y : Nat, x = y := ⟨x.toNat, by omega⟩
          have h2 := (ps_cons (by omega) (by omega)).mp hp
          exact ⟨y, l, by omega, by omega, (mem_all d (n - y) y (by omega) l).mpr h2.2, rfl⟩
theorem len_rows {g : Nat → Nat → List (List Int)} {n : Nat} (hg : ∀ y, 1 ≤ y → y ≤ n → (g (n - y) y).length ≤ 2 ^ (n - y)) : ∀ x, x ≤ n → (rowsG g n x).length + 2 ^ (n - x) ≤ 2 ^ n
  | 0, _ => by simp [rowsG]
  | x + 1, h => by
    have h1 := len_rows hg x (by omega)
    have h2 := hg (x + 1) (by omega) h
    have e : 2 ^ (n - x) = 2 * 2 ^ (n - (x + 1)) := by rw [show n - x = (n - (x + 1)) + 1 by omega, Nat.pow_succ]; omega
    rw [rowsG, List.length_append, List.length_map]; omega
theorem len_all : ∀ (d n m : Nat), n ≤ d → (allG d n m).length ≤ 2 ^ n
  | 0, n, m, h => by
    have : n = 0 := by omega
    subst this
    simp [allG]
  | d + 1, n, m, h => by
    rw [allG]
    by_cases e : n = 0
    · subst e; simp
    · rw [if_neg e]
      have := len_rows (g := allG d) (n := n) (fun y h1 h2 => len_all d (n - y) y (by omega)) (min n m) (by omega)
      exact Nat.le_trans (Nat.le_add_right _ _) this
theorem rdL_drop {l : List (List Int)} {i : Nat} (h : i < l.length) : l.drop i = rd_L1 l (i : Int) :: l.drop (i + 1) := by
  unfold rd_L1
  rw [Int.toNat_natCast, List.getD_eq_getElem?_getD, List.getElem?_eq_getElem h]
  exact List.drop_eq_getElem_cons h
theorem rdL_mem {l : List (List Int)} {i : Nat} (h : i < l.length) : rd_L1 l (i : Int) ∈ l := by
  have := rdL_drop h
  exact List.mem_of_mem_drop (i := i) (by rw [this]; simp)
theorem all_in (n v : Int) (L : List (List Int)) (hL : L.length ≤ 5000) (hb : ∀ l ∈ L, l.length ≤ 20) : ∀ m j k acc, j + m = L.length → acc.length + m ≤ 10000 →
    congouref01_All.l1 (k + m + 1) n acc v L (L.length : Int) (j : Int) = congouref01_All.l0 k n (acc ++ (L.drop j).map (fun l => v :: l)) (wrap64 (v - 1)) := by
  intro m
  induction m with
  | zero =>
    intro j k acc hj ha
    rw [congouref01_All.l1, if_neg (by omega), List.drop_of_length_le (by omega)]
    simp
  | succ m ih =>
    intro j k acc hj ha
    have h1 := hb _ (rdL_mem (l := L) (i := j) (by omega))
    rw [show k + (m + 1) + 1 = (k + m + 1) + 1 by omega, congouref01_All.l1, if_pos (by omega), if_pos (by omega), if_pos (by omega), Option.bind_some, if_pos (by rw [List.length_singleton]; omega), if_pos (by omega), w64 (i := (j : Int) + 1) (by omega) (by omega), show (j : Int) + 1 = ((j + 1 : Nat) : Int) by omega, ih (j + 1) k _ (by omega) (by rw [List.length_append, List.length_singleton]; omega), rdL_drop (l := L) (i := j) (by omega), List.map_cons, List.append_assoc]
    rfl
theorem all_rows (d n : Nat) (hn : n ≤ 12) (hnd : n ≤ d + 1) (F : Nat)
    (hf : ∀ y k, 1 ≤ y → y ≤ n → F < k → congouref01_All.f k ((n - y : Nat) : Int) (y : Int) = some (allG d (n - y) y)) :
    ∀ x k acc, x ≤ n → F + x * 5000 + 1 < k → acc.length + (rowsG (allG d) n x).length ≤ 5000 → congouref01_All.l0 k (n : Int) acc (x : Int) = some (acc ++ rowsG (allG d) n x) := by
  intro x
  induction x with
  | zero =>
    intro k acc hx hk ha
    obtain ⟨k, rfl⟩ : ∃ m, k = m + 1 := ⟨k - 1, by omega⟩
    rw [congouref01_All.l0, if_neg (by omega), rowsG, List.append_nil]
  | succ x ih =>
    intro k acc hx hk ha
    have hl := len_all d (n - (x + 1)) (x + 1) (by omega)
    have hp : 2 ^ (n - (x + 1)) ≤ 2 ^ 12 := Nat.pow_le_pow_right (by omega) (by omega)
    have hL : (allG d (n - (x + 1)) (x + 1)).length ≤ 4096 := Nat.le_trans hl (Nat.le_trans hp (by decide))
    clear hl hp
    have hm := mem_all d (n - (x + 1)) (x + 1) (by omega)
    rw [rowsG, List.length_append, List.length_map] at ha
    generalize hG : allG d (n - (x + 1)) (x + 1) = L at *
    rw [Nat.succ_mul] at hk
    generalize hC : x * 5000 = C at *
    obtain ⟨k, rfl⟩ : ∃ q, k = (q + L.length + 1) + 1 := ⟨k - L.length - 2, by omega⟩
    have hk3 : F + C + 1 < k := by omega
    have hb : ∀ l ∈ L, l.length ≤ 20 := by
      intro l hl2
      have hp2 := (hm l).mp hl2
      have := pt_len hp2.pt.pos
      rw [hp2.sum] at this
      omega
    have G := all_in (n : Int) ((x + 1 : Nat) : Int) L (by omega) hb L.length 0 k acc (by omega) (by omega)
    rw [List.drop_zero, w64 (by omega) (by omega), show ((x + 1 : Nat) : Int) - 1 = (x : Int) by omega] at G
    rw [congouref01_All.l0, if_pos (by omega), w64 (by omega) (by omega), show (n : Int) - ((x + 1 : Nat) : Int) = ((n - (x + 1) : Nat) : Int) by omega, hf (x + 1) _ (by omega) hx (by omega), Option.bind_some, hG]
    rw [show ((0 : Nat) : Int) = 0 by rfl] at G
    rw [G, ih k _ (by omega) hk3 (by rw [List.length_append, List.length_map]; omega), rowsG, hG, List.append_assoc]
theorem all_f : ∀ (d n m k : Nat), n ≤ d → d ≤ 12 → 100000 * d + 2 < k → congouref01_All.f k (n : Int) (m : Int) = some (allG d n m)
  | 0, n, m, k, hn, hd, hk => by
    obtain ⟨k, rfl⟩ : ∃ q, k = q + 1 := ⟨k - 1, by omega⟩
    have : n = 0 := by omega
    subst this
    rw [congouref01_All.f, if_pos (by rfl), allG, if_pos rfl]
  | d + 1, n, m, k, hn, hd, hk => by
    obtain ⟨k, rfl⟩ : ∃ q, k = q + 1 := ⟨k - 1, by omega⟩
    rw [congouref01_All.f, allG]
    by_cases e : n = 0
    · subst e; rw [if_pos (by rfl), if_pos rfl]
    · have hlen := len_all (d + 1) n m hn
      have hp : 2 ^ n ≤ 2 ^ 12 := Nat.pow_le_pow_right (by omega) (by omega)
      rw [allG, if_neg e] at hlen
      rw [if_neg (by omega), if_neg e, mn_min, show min (n : Int) (m : Int) = ((min n m : Nat) : Int) by omega, all_rows d n (by omega) (by omega) (100000 * d + 2) (fun y k h1 h2 h3 => all_f d (n - y) y k (by omega) (by omega) h3) (min n m) k [] (by omega) (by omega) (by rw [List.length_nil]; omega), List.nil_append]
end Go.Proofs.Ytefmafbbnkkpjaa.Pure
