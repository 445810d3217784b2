/- Nine names, the lines of an array of nine rows, and what the loops of TopPlane make of them. -/
import Derived.Test.YtkieehjpnjplmaaSPa
import Derived.Test.YtkieehjpnjplmaaXf3
namespace Go.Proofs.Ytkieehjpnjplmaa.Pure
open Go Go.Proofs Go.RowKit Go.Proofs.Ytkieehjpnjplmaa Go.Proofs.Ytkieehjpnjplmaa.X Go.Proofs.YtkieehjpnjplmaaW.PrintWords Go.Proofs.YtkieehjpnjplmaaW.PrintLast Go.Proofs.YtkieehjpnjplmaaW.PrintMore
set_option linter.unusedVariables false
set_option linter.unusedSimpArgs false
theorem w6 {x : Int} (h0 : 0 ≤ x) (h1 : x ≤ 9223372036854775806) : wrap64 (x + 1) = x + 1 := by unfold wrap64; omega
/-! ### names -/
structure PermOf (n : Nat) (q : List Int) : Prop where
  len : q.length = n
  rng : ∀ x ∈ q, 0 ≤ x ∧ x < (n : Int)
  nd : q.Nodup
theorem PermOf.all {n : Nat} {q : List Int} (h : PermOf n q) (x : Nat) (hx : x < n) : (x : Int) ∈ q :=
  (perm_of_sub q (ints n) h.nd (fun y hy => ints_mem.mpr (h.rng y hy)) (by rw [ints_len, h.len])).symm.subset (ints_mem.mpr ⟨by omega, by omega⟩)
theorem bit_and : ∀ u : Nat, u < 512 → ∀ x : Nat, x < 9 → Go.bits .and .i64 (shr .i64 (u : Int) (x : Int)) 1 = if u.testBit x = true then 1 else 0 := by decide +kernel
theorem rd_drop9 {l : List Int} {i : Nat} (h : i < l.length) : l.drop i = rd l (i : Int) :: l.drop (i + 1) := by
  rw [List.drop_eq_getElem_cons h]
  simp [rd, List.getD_eq_getElem?_getD, List.getElem?_eq_getElem h]
theorem take_rd {l : List Int} {i : Nat} (h : i < l.length) : l.take (i + 1) = l.take i ++ [rd l (i : Int)] := by
  rw [List.take_succ_eq_append_getElem h]
  simp [rd, List.getD_eq_getElem?_getD, List.getElem?_eq_getElem h]
theorem names_l (q : List Int) (hq : q.length ≤ 9000000000000000000) : ∀ (m i k u : Nat), i + m = q.length → m < k → SetB u (q.take i) → (∀ x ∈ q.take i, 0 ≤ x ∧ x < 9) → (q.take i).Nodup →
    ∃ b, congouref09_Names.l0 k 9 q (u : Int) q (q.length : Int) (i : Int) = some b ∧ (b = true → PermOf 9 q) := by
  intro m
  induction m with
  | zero =>
    intro i k u hi hk hu hr hn
    obtain ⟨k, rfl⟩ : ∃ z, k = z + 1 := ⟨k - 1, by omega⟩
    rw [List.take_of_length_le (by omega)] at hu hr hn
    rw [congouref09_Names.l0, if_neg (by omega)]
    refine ⟨_, rfl, fun h => ⟨by have := beq_iff_eq.mp h; omega, fun x hx => hr x hx, hn⟩⟩
  | succ m ih =>
    intro i k u hi hk hu hr hn
    obtain ⟨k, rfl⟩ : ∃ z, k = z + 1 := ⟨k - 1, by omega⟩
    have hil : i < q.length := by omega
    rw [congouref09_Names.l0, if_pos (by omega), if_pos (by omega), if_pos (by omega)]
    by_cases c1 : rd q (i : Int) < 0
    · rw [if_pos c1]; exact ⟨_, rfl, fun h => by cases h⟩
    · rw [if_neg c1]
      by_cases c2 : rd q (i : Int) ≥ 9
      · rw [if_pos c2]; exact ⟨_, rfl, fun h => by cases h⟩
      · rw [if_neg c2, if_pos (by omega)]
        obtain ⟨x, hx⟩ : ∃ x : Nat, rd q (i : Int) = (x : Int) := ⟨(rd q (i : Int)).toNat, by omega⟩
        have hx9 : x < 9 := by omega
        rw [hx, bit_and u hu.lt x hx9]
        by_cases c3 : u.testBit x = true
        · rw [if_pos c3, if_pos rfl]; exact ⟨_, rfl, fun h => by cases h⟩
        · rw [if_neg c3, if_neg (by decide), w6 (by omega) (by omega), show (i : Int) + 1 = ((i + 1 : Nat) : Int) by omega, shl9 x hx9, or9 hu.lt (SetB.one hx9).lt]
          have hnot : (x : Int) ∉ q.take i := fun h => c3 ((hu.bit x hx9).mpr h)
          refine ih (i + 1) k _ (by omega) (by omega) ?_ ?_ ?_
          · rw [take_rd hil, hx]; exact hu.or (SetB.one hx9)
          · rw [take_rd hil, hx]
            intro y hy
            rcases List.mem_append.mp hy with h | h
            · exact hr y h
            · rw [List.mem_singleton.mp h]; omega
          · rw [take_rd hil, hx, List.nodup_append]
            refine ⟨hn, by simp, fun a ha b hb e => ?_⟩
            rw [List.mem_singleton.mp hb] at e
            subst e; exact hnot ha
theorem names_f (q : List Int) (hq : q.length ≤ 9000000000000000000) (k : Nat) (hk : q.length < k) : ∃ b, congouref09_Names.f k 9 q = some b ∧ (b = true → PermOf 9 q) :=
  names_l q hq q.length 0 k 0 (by omega) hk SetB.zero (by simp) (by simp)
/-! ### the lines -/
def IT (R : List (List Int)) (k : Nat) : List Nat := (List.range' 0 9).filter fun (j : Nat) => rd (rd_L1 R (j : Int)) ((k / 3 : Nat) : Int) == ((k % 3 : Nat) : Int)
def pk (nm : List Int) (R : List (List Int)) (m x : Int) (i d : Nat) : List Int := ((List.range' i d).filter fun (j : Nat) => rd (rd_L1 R (j : Int)) m == x).map fun (j : Nat) => rd nm (j : Int)
def mk3 (l : List Int) : S39 := ⟨rd l 0, rd l 1, rd l 2⟩
def TT (nm : List Int) (R : List (List Int)) (k : Nat) : S39 := mk3 (rise (pk nm R ((k / 3 : Nat) : Int) ((k % 3 : Nat) : Int) 0 9))
def all12 (f : Nat → Bool) : Bool := (List.range 12).all f
def all9 (f : Nat → Bool) : Bool := (List.range 9).all f
def okR (R : List (List Int)) : Bool :=
  decide (R.length = 9) && all9 (fun j => decide ((rd_L1 R (j : Int)).length = 4)) && all12 (fun k => decide ((IT R k).length = 3)) &&
  all9 (fun p => all9 fun q => decide (p ≠ q → (List.range 12).any (fun k => decide (p ∈ IT R k) && decide (q ∈ IT R k)) = true)) &&
  all12 (fun k => all12 fun k' => decide (k = k' ∨ if k / 3 = k' / 3 then (∀ p ∈ IT R k, p ∉ IT R k') else ((∃ p ∈ IT R k, p ∈ IT R k') ∧ ∀ p ∈ IT R k, ∀ q ∈ IT R k, p ≠ q → p ∈ IT R k' → q ∉ IT R k')))
structure OkR (R : List (List Int)) : Prop where
  len : R.length = 9
  row : ∀ j : Nat, j < 9 → (rd_L1 R (j : Int)).length = 4
  three : ∀ k, k < 12 → (IT R k).length = 3
  two : ∀ p q, p < 9 → q < 9 → p ≠ q → ∃ k, k < 12 ∧ p ∈ IT R k ∧ q ∈ IT R k
  same : ∀ k k', k < 12 → k' < 12 → k ≠ k' → k / 3 = k' / 3 → ∀ p ∈ IT R k, p ∉ IT R k'
  meet : ∀ k k', k < 12 → k' < 12 → k / 3 ≠ k' / 3 → ∃ p, p ∈ IT R k ∧ p ∈ IT R k'
  one : ∀ k k', k < 12 → k' < 12 → k ≠ k' → ∀ p ∈ IT R k, ∀ q ∈ IT R k, p ≠ q → p ∈ IT R k' → q ∉ IT R k'
theorem OkR.of {R : List (List Int)} (h : okR R = true) : OkR R := by
  unfold okR all9 all12 at h
  simp only [Bool.and_eq_true, List.all_eq_true, List.mem_range, decide_eq_true_eq, List.any_eq_true] at h
  obtain ⟨⟨⟨⟨h1, h2⟩, h3⟩, h4⟩, h5⟩ := h
  refine ⟨h1, h2, h3, fun p q hp hq hn => ?_, fun k k' hk hk' hn e => ?_, fun k k' hk hk' e => ?_, fun k k' hk hk' hn => ?_⟩
  · obtain ⟨k, hk, ha, hb⟩ := h4 p hp q hq hn
    exact ⟨k, hk, ha, hb⟩
  · have := (h5 k hk k' hk').resolve_left hn
    rw [if_pos e] at this
    exact this
  · have := (h5 k hk k' hk').resolve_left (by rintro rfl; exact e rfl)
    rw [if_neg e] at this
    exact this.1
  · have := (h5 k hk k' hk').resolve_left hn
    by_cases e : k / 3 = k' / 3
    · rw [if_pos e] at this
      exact fun p hp q hq _ hp' => absurd hp' (this p hp)
    · rw [if_neg e] at this
      exact this.2
theorem pk_IT (nm : List Int) (R : List (List Int)) (k : Nat) : pk nm R ((k / 3 : Nat) : Int) ((k % 3 : Nat) : Int) 0 9 = (IT R k).map fun (j : Nat) => rd nm (j : Int) := rfl
theorem IT_lt {R : List (List Int)} {k p : Nat} (h : p ∈ IT R k) : p < 9 := by
  have := (List.mem_filter.mp h).1
  rw [List.mem_range'] at this
  obtain ⟨i, hi, rfl⟩ := this
  omega
theorem IT_nodup (R : List (List Int)) (k : Nat) : (IT R k).Nodup := (List.nodup_range').filter _
section
variable {nm : List Int} (hN : PermOf 9 nm)
include hN
theorem rd_rng {j : Nat} (h : j < 9) : 0 ≤ rd nm (j : Int) ∧ rd nm (j : Int) < 9 := by
  have hl := hN.len
  have hm : rd nm (j : Int) ∈ nm := List.mem_of_mem_drop (rd_drop9 (show j < nm.length by omega) ▸ List.mem_cons_self)
  exact hN.rng _ hm
theorem rd_inj {i j : Nat} (hi : i < 9) (hj : j < 9) (e : rd nm (i : Int) = rd nm (j : Int)) : i = j := by
  have hl := hN.len
  have e1 : ∀ {m : Nat} (h : m < nm.length), rd nm (m : Int) = nm[m] := fun h => by simp [rd, List.getD_eq_getElem?_getD, List.getElem?_eq_getElem h]
  rw [e1 (show i < nm.length by omega), e1 (show j < nm.length by omega)] at e
  have hp := List.pairwise_iff_getElem.mp (List.nodup_iff_pairwise_ne.mp hN.nd)
  rcases Nat.lt_trichotomy i j with h | h | h
  · exact absurd e (hp i j (by omega) (by omega) h)
  · exact h
  · exact absurd e.symm (hp j i (by omega) (by omega) h)
theorem rd_sur {x : Int} (h0 : 0 ≤ x) (h9 : x < 9) : ∃ j : Nat, j < 9 ∧ rd nm (j : Int) = x := by
  have hm := hN.all x.toNat (by omega)
  rw [Int.toNat_of_nonneg h0] at hm
  obtain ⟨j, hj, e⟩ := List.getElem_of_mem hm
  have := hN.len
  exact ⟨j, by omega, by simp [rd, List.getD_eq_getElem?_getD, List.getElem?_eq_getElem hj, e]⟩
variable {R : List (List Int)} (hR : OkR R)
include hR
theorem TT_spec {k : Nat} (hk : k < 12) : Tri (TT nm R k) ∧ (∀ x, x ∈ els (TT nm R k) ↔ ∃ p, p ∈ IT R k ∧ x = rd nm (p : Int)) ∧ pk nm R ((k / 3 : Nat) : Int) ((k % 3 : Nat) : Int) 0 9 ≠ [] := by
  have hnd := IT_nodup R k
  have hlt := fun p (h : p ∈ IT R k) => IT_lt h
  have hl := hR.three k hk
  unfold TT
  rw [pk_IT]
  generalize IT R k = l at *
  obtain ⟨a, b, c, rfl⟩ : ∃ a b c, l = [a, b, c] := by
    rcases l with _ | ⟨a, _ | ⟨b, _ | ⟨c, _ | ⟨d, r⟩⟩⟩⟩ <;> simp at hl
    exact ⟨a, b, c, rfl⟩
  have ha := hlt a (by simp)
  have hb := hlt b (by simp)
  have hc := hlt c (by simp)
  simp only [List.nodup_cons, List.mem_cons, List.not_mem_nil, or_false, not_or, not_false_eq_true, List.nodup_nil, and_true] at hnd
  have n3 : [rd nm (a : Int), rd nm (b : Int), rd nm (c : Int)].Nodup := by
    simp only [List.nodup_cons, List.mem_cons, List.not_mem_nil, or_false, not_or, not_false_eq_true, List.nodup_nil, and_true]
    exact ⟨⟨fun e => hnd.1.1 (rd_inj hN ha hb e), fun e => hnd.1.2 (rd_inj hN ha hc e)⟩, fun e => hnd.2 (rd_inj hN hb hc e)⟩
  obtain ⟨x, y, z, e, hxy, hyz, hm⟩ := rise3 n3
  have hr : ∀ t ∈ [x, y, z], 0 ≤ t ∧ t < 9 := by
    intro t ht
    have := (hm t).mp ht
    simp only [List.mem_cons, List.not_mem_nil, or_false] at this
    rcases this with rfl | rfl | rfl
    · exact rd_rng hN ha
    · exact rd_rng hN hb
    · exact rd_rng hN hc
  simp only [List.map_cons, List.map_nil]
  rw [e]
  have et : mk3 [x, y, z] = ⟨x, y, z⟩ := rfl
  rw [et]
  refine ⟨⟨(hr x (by simp)).1, hxy, hyz, (hr z (by simp)).2⟩, fun t => ?_, by simp⟩
  show t ∈ [x, y, z] ↔ _
  rw [hm]
  simp only [List.mem_cons, List.not_mem_nil, or_false]
  constructor
  · rintro (rfl | rfl | rfl)
    · exact ⟨a, .inl rfl, rfl⟩
    · exact ⟨b, .inr (.inl rfl), rfl⟩
    · exact ⟨c, .inr (.inr rfl), rfl⟩
  · rintro ⟨p, rfl | rfl | rfl, rfl⟩
    · exact .inl rfl
    · exact .inr (.inl rfl)
    · exact .inr (.inr rfl)
theorem plane_of : Plane (TT nm R) := by
  have hs := fun {k : Nat} (hk : k < 12) => TT_spec hN hR hk
  refine ⟨fun k hk => (hs hk).1, fun x y h0 hxy h9 => ?_, fun k k' hk hk' x y hn h1 h2 h3 h4 => ?_, fun k k' hk hk' hn e x hx hx' => ?_, fun k k' hk hk' e => ?_⟩
  · obtain ⟨i, hi, rfl⟩ := rd_sur hN h0 (show x < 9 by omega)
    obtain ⟨j, hj, rfl⟩ := rd_sur hN (show 0 ≤ y by omega) h9
    obtain ⟨k, hk, a, b⟩ := hR.two i j hi hj (by rintro rfl; omega)
    exact ⟨k, hk, ((hs hk).2.1 _).mpr ⟨i, a, rfl⟩, ((hs hk).2.1 _).mpr ⟨j, b, rfl⟩⟩
  · refine Classical.byContradiction fun hkk => ?_
    obtain ⟨i, hi, rfl⟩ := ((hs hk).2.1 _).mp h1
    obtain ⟨j, hj, rfl⟩ := ((hs hk).2.1 _).mp h2
    obtain ⟨i', hi', e1⟩ := ((hs hk').2.1 _).mp h3
    obtain ⟨j', hj', e2⟩ := ((hs hk').2.1 _).mp h4
    have := rd_inj hN (IT_lt hi) (IT_lt hi') e1
    have := rd_inj hN (IT_lt hj) (IT_lt hj') e2
    subst i' j'
    exact hR.one k k' hk hk' hkk i hi j hj (by rintro rfl; exact hn rfl) hi' hj'
  · obtain ⟨i, hi, rfl⟩ := ((hs hk).2.1 _).mp hx
    obtain ⟨i', hi', e1⟩ := ((hs hk').2.1 _).mp hx'
    have := rd_inj hN (IT_lt hi) (IT_lt hi') e1
    subst i'
    exact hR.same k k' hk hk' hn e i hi hi'
  · obtain ⟨p, h1, h2⟩ := hR.meet k k' hk hk' e
    exact ⟨_, ((hs hk).2.1 _).mpr ⟨p, h1, rfl⟩, ((hs hk').2.1 _).mpr ⟨p, h2, rfl⟩⟩
end
/-- the rows of Lines(3) -/
def L9 : List (List Int) := [[0, 0, 0, 0], [1, 1, 1, 0], [2, 2, 2, 0], [0, 1, 2, 1], [1, 2, 0, 1], [2, 0, 1, 1], [0, 2, 1, 2], [1, 0, 2, 2], [2, 1, 0, 2]]
def perms3 : List (List Int) := [[0, 1, 2], [0, 2, 1], [1, 0, 2], [1, 2, 0], [2, 0, 1], [2, 1, 0]]
def arrs : List (List (List Int)) := ([0, 1, 2, 3] : List Int).flatMap fun c => perms3.map fun t => L9.map (ren t c)
theorem arrs_ok : arrs.all okR = true := by decide +kernel
theorem L9_in : L9 ∈ arrs := by decide +kernel
end Go.Proofs.Ytkieehjpnjplmaa.Pure
