/- Small sets as bits; what is a permutation, in both packages; what match grows. -/
import Derived.Test.YtefmafbbnkkpjaaSO
import Derived.Test.YtefmafbbnkkpjaaSU
import Derived.Test.YtefmafbbnkkpjaaE107
namespace Go.Proofs.Ytefmafbbnkkpjaa.Pure
open Go Go.RowKit Go.Proofs.Ytefmafbbnkkpjaa.X Go.Proofs.YtefmafbbnkkpjaaW.PrintWords Go.Proofs.YtefmafbbnkkpjaaW.PrintLast Go.Proofs.YtefmafbbnkkpjaaW.PrintMore
set_option linter.unusedVariables false
set_option linter.unusedSimpArgs false

theorem bit_or : ∀ u : Nat, u < 32 → ∀ x : Nat, x < 5 → Go.bits .or .i64 (u : Int) (shl .i64 1 (x : Int)) = ((u ||| 2 ^ x : Nat) : Int) := by decide +kernel
theorem bit_and : ∀ u : Nat, u < 32 → ∀ x : Nat, x < 5 → Go.bits .and .i64 (shr .i64 (u : Int) (x : Int)) 1 = if u.testBit x = true then 1 else 0 := by decide +kernel
theorem bit_lt : ∀ u : Nat, u < 32 → ∀ x : Nat, x < 5 → (u ||| 2 ^ x) < 32 := by decide +kernel
theorem bit_test : ∀ u : Nat, u < 32 → ∀ x : Nat, x < 5 → ∀ y : Nat, y < 5 → (u ||| 2 ^ x).testBit y = (u.testBit y || decide (x = y)) := by decide +kernel
theorem bit_full : ∀ n : Nat, n < 6 → wrap64 (shl .i64 1 (n : Int) - 1) = ((2 ^ n - 1 : Nat) : Int) := by decide +kernel
theorem bit_eq : ∀ u : Nat, u < 32 → ∀ n : Nat, n < 6 → (u = 2 ^ n - 1 ↔ ∀ x : Nat, x < 5 → u.testBit x = decide (x < n)) := by decide +kernel
/-- the bits of a list of numbers below 5 -/
structure SetOf (u : Nat) (p : List Int) : Prop where
  lt : u < 32
  bit : ∀ x : Nat, x < 5 → (u.testBit x = true ↔ (x : Int) ∈ p)
theorem SetOf.nil : SetOf 0 [] := ⟨by decide, fun x hx => by simp⟩
theorem SetOf.snoc {u : Nat} {p : List Int} (h : SetOf u p) {x : Nat} (hx : x < 5) : SetOf (u ||| 2 ^ x) (p ++ [(x : Int)]) :=
  ⟨bit_lt u h.lt x hx, fun y hy => by
    rw [bit_test u h.lt x hx y hy, Bool.or_eq_true, h.bit y hy, decide_eq_true_eq, List.mem_append, List.mem_singleton]
    constructor
    · rintro (h | rfl)
      · exact .inl h
      · exact .inr rfl
    · rintro (h | h)
      · exact .inl h
      · exact .inr (by omega)⟩
theorem SetOf.off {u : Nat} {p : List Int} (h : SetOf u p) {x : Nat} (hx : x < 5) : Go.bits .and .i64 (shr .i64 (u : Int) (x : Int)) 1 = 0 ↔ (x : Int) ∉ p := by
  rw [bit_and u h.lt x hx, ← h.bit x hx]
  cases u.testBit x <;> simp
theorem SetOf.on {u : Nat} {p : List Int} (h : SetOf u p) {x : Nat} (hx : x < 5) : Go.bits .and .i64 (shr .i64 (u : Int) (x : Int)) 1 = 1 ↔ (x : Int) ∈ p := by
  rw [bit_and u h.lt x hx, ← h.bit x hx]
  cases u.testBit x <;> simp
/-- all numbers below n, each once -/
structure PermOf (n : Nat) (q : List Int) : Prop where
  len : q.length = n
  rng : ∀ x ∈ q, 0 ≤ x ∧ x < (n : Int)
  nd : q.Nodup
theorem perm_of_sub : ∀ (a b : List Int), a.Nodup → (∀ x ∈ a, x ∈ b) → b.length = a.length → a.Perm b
  | [], b, _, _, hl => by
    have : b = [] := List.length_eq_zero_iff.mp hl
    subst this; exact List.Perm.refl _
  | x :: a, b, hn, hs, hl => by
    have hx := hs x List.mem_cons_self
    have hn2 := List.nodup_cons.mp hn
    have hp := List.perm_cons_erase hx
    refine List.Perm.trans ((perm_of_sub a (b.erase x) hn2.2 (fun y hy => ?_) ?_).cons x) hp.symm
    · refine (List.mem_erase_of_ne (fun e => ?_)).mpr (hs y (List.mem_cons_of_mem _ hy))
      subst e; exact hn2.1 hy
    · have := hp.length_eq
      simp only [List.length_cons] at this hl
      omega
def ints (n : Nat) : List Int := (List.range n).map fun (i : Nat) => (i : Int)
theorem ints_nodup (n : Nat) : (ints n).Nodup := by
  unfold ints
  rw [List.nodup_iff_pairwise_ne, List.pairwise_map]
  exact List.nodup_range.imp fun h e => h (by omega)
theorem ints_mem {n : Nat} {x : Int} : x ∈ ints n ↔ 0 ≤ x ∧ x < (n : Int) := by
  unfold ints
  rw [List.mem_map]
  constructor
  · rintro ⟨i, hi, rfl⟩
    have := List.mem_range.mp hi
    omega
  · intro h
    exact ⟨x.toNat, List.mem_range.mpr (by omega), by omega⟩
theorem ints_len (n : Nat) : (ints n).length = n := by simp [ints]
theorem PermOf.perm {n : Nat} {q : List Int} (h : PermOf n q) : q.Perm (ints n) := perm_of_sub q _ h.nd (fun x hx => ints_mem.mpr (h.rng x hx)) (by rw [ints_len, h.len])
theorem PermOf.of {n : Nat} {q : List Int} (hl : q.length = n) (hs : ∀ x : Nat, x < n → (x : Int) ∈ q) : PermOf n q := by
  have hp : (ints n).Perm q := perm_of_sub _ _ (ints_nodup n) (fun x hx => by
    obtain ⟨h0, h1⟩ := ints_mem.mp hx
    have := hs x.toNat (by omega)
    rwa [Int.toNat_of_nonneg h0] at this) (by rw [ints_len, hl])
  exact ⟨hl, fun x hx => ints_mem.mp (hp.symm.subset hx), hp.nodup_iff.mp (ints_nodup n)⟩
theorem PermOf.all {n : Nat} {q : List Int} (h : PermOf n q) (x : Nat) (hx : x < n) : (x : Int) ∈ q := h.perm.symm.subset (ints_mem.mpr ⟨by omega, by omega⟩)

theorem rdI_drop {l : List Int} {i : Nat} (h : i < l.length) : l.drop i = rd l (i : Int) :: l.drop (i + 1) := rd_drop h
theorem take_rd {l : List Int} {i : Nat} (h : i < l.length) : l.take (i + 1) = l.take i ++ [rd l (i : Int)] := by
  rw [List.take_succ_eq_append_getElem h]
  simp [rd, List.getD_eq_getElem?_getD, List.getElem?_eq_getElem h]
theorem isPerm_l {n : Nat} (hn : n ≤ 5) (q : List Int) (hq : q.length ≤ 9000000000000000000) : ∀ (m i k u : Nat), i + m = q.length → m < k → SetOf u (q.take i) → (∀ x ∈ q.take i, 0 ≤ x ∧ x < (n : Int)) →
    shares_isPermutation.l0 k q (n : Int) (u : Int) q (q.length : Int) (i : Int) = some (dc (PermOf n q)) := by
  intro m
  induction m with
  | zero =>
    intro i k u hi hk hu hr
    obtain ⟨k, rfl⟩ : ∃ z, k = z + 1 := ⟨k - 1, by omega⟩
    rw [List.take_of_length_le (by omega)] at hu hr
    rw [shares_isPermutation.l0, if_neg (by omega)]
    by_cases hl : q.length = n
    · rw [if_pos (by omega), if_pos (by omega), bit_full n (by omega)]
      congr 1
      rw [Bool.eq_iff_iff, dc_iff, beq_iff_eq]
      rw [show ((u : Int) = ((2 ^ n - 1 : Nat) : Int)) ↔ u = 2 ^ n - 1 by omega, bit_eq u hu.lt n (by omega)]
      constructor
      · intro h
        refine PermOf.of hl fun x hx => (hu.bit x (by omega)).mp ?_
        rw [h x (by omega), decide_eq_true hx]
      · intro h x hx
        rw [Bool.eq_iff_iff, hu.bit x hx, decide_eq_true_eq]
        exact ⟨fun h2 => by have := (h.rng _ h2).2; omega, fun h2 => h.all x h2⟩
    · rw [if_neg (by omega), dc_false fun h => hl h.len]
  | succ m ih =>
    intro i k u hi hk hu hr
    obtain ⟨k, rfl⟩ : ∃ z, k = z + 1 := ⟨k - 1, by omega⟩
    have hil : i < q.length := by omega
    have hmem : rd q (i : Int) ∈ q := List.mem_of_mem_drop (rdI_drop hil ▸ List.mem_cons_self)
    rw [shares_isPermutation.l0, if_pos (by omega), if_pos (by omega), if_pos (by omega)]
    by_cases c1 : rd q (i : Int) < 0
    · rw [if_pos c1, dc_false fun h => by have := (h.rng _ hmem).1; omega]
    · rw [if_neg c1]
      by_cases c2 : rd q (i : Int) ≥ (n : Int)
      · rw [if_pos c2, dc_false fun h => by have := (h.rng _ hmem).2; omega]
      · rw [if_neg c2, if_pos (by omega), w6 (by omega) (by omega), show (i : Int) + 1 = ((i + 1 : Nat) : Int) by omega]
        obtain ⟨x, hx⟩ : ∃ x : Nat, rd q (i : Int) = (x : Int) := ⟨(rd q (i : Int)).toNat, by omega⟩
        rw [hx, bit_or u hu.lt x (by omega)]
        refine ih (i + 1) k _ (by omega) (by omega) ?_ ?_
        · rw [take_rd hil, hx]; exact hu.snoc (by omega)
        · rw [take_rd hil, hx]
          intro y hy
          rcases List.mem_append.mp hy with h | h
          · exact hr y h
          · rw [List.mem_singleton.mp h]; omega
theorem isPerm_f {n : Nat} (hn : n ≤ 5) (q : List Int) (hq : q.length ≤ 9000000000000000000) (k : Nat) (hk : q.length < k) : shares_isPermutation.f k q (n : Int) = some (dc (PermOf n q)) :=
  isPerm_l hn q hq q.length 0 k 0 (by omega) hk SetOf.nil (by simp)
theorem order_l {n : Nat} (hn : n ≤ 5) (q : List Int) (hq : q.length ≤ 9000000000000000000) : ∀ (m i k u : Nat), i + m = q.length → m < k → SetOf u (q.take i) → (∀ x ∈ q.take i, 0 ≤ x ∧ x < (n : Int)) → (q.take i).Nodup →
    congouref01_order.l0 k q (n : Int) (u : Int) q (q.length : Int) (i : Int) = some (dc (PermOf n q)) := by
  intro m
  induction m with
  | zero =>
    intro i k u hi hk hu hr hd
    obtain ⟨k, rfl⟩ : ∃ z, k = z + 1 := ⟨k - 1, by omega⟩
    rw [List.take_of_length_le (by omega)] at hu hr hd
    rw [congouref01_order.l0, if_neg (by omega)]
    congr 1
    rw [Bool.eq_iff_iff, dc_iff, beq_iff_eq]
    exact ⟨fun h => ⟨by omega, hr, hd⟩, fun h => by have := h.len; omega⟩
  | succ m ih =>
    intro i k u hi hk hu hr hd
    obtain ⟨k, rfl⟩ : ∃ z, k = z + 1 := ⟨k - 1, by omega⟩
    have hil : i < q.length := by omega
    have hmem : rd q (i : Int) ∈ q := List.mem_of_mem_drop (rdI_drop hil ▸ List.mem_cons_self)
    rw [congouref01_order.l0, if_pos (by omega), if_pos (by omega), if_pos (by omega)]
    by_cases c1 : rd q (i : Int) < 0
    · rw [if_pos c1, dc_false fun h => by have := (h.rng _ hmem).1; omega]
    · rw [if_neg c1]
      by_cases c2 : rd q (i : Int) ≥ (n : Int)
      · rw [if_pos c2, dc_false fun h => by have := (h.rng _ hmem).2; omega]
      · rw [if_neg c2, if_pos (by omega)]
        obtain ⟨x, hx⟩ : ∃ x : Nat, rd q (i : Int) = (x : Int) := ⟨(rd q (i : Int)).toNat, by omega⟩
        have hxl : x < 5 := by omega
        rw [hx]
        by_cases c3 : (x : Int) ∈ q.take i
        · rw [if_pos ((hu.on hxl).mpr c3), dc_false]
          intro h
          have := (h.nd.sublist (List.take_sublist (i + 1) q))
          rw [take_rd hil, hx, List.nodup_append] at this
          exact this.2.2 _ c3 _ (List.mem_singleton.mpr rfl) rfl
        · rw [if_neg (fun h => c3 ((hu.on hxl).mp h)), bit_or u hu.lt x hxl, w6 (by omega) (by omega), show (i : Int) + 1 = ((i + 1 : Nat) : Int) by omega]
          refine ih (i + 1) k _ (by omega) (by omega) ?_ ?_ ?_
          · rw [take_rd hil, hx]; exact hu.snoc hxl
          · rw [take_rd hil, hx]
            intro y hy
            rcases List.mem_append.mp hy with h | h
            · exact hr y h
            · rw [List.mem_singleton.mp h]; omega
          · rw [take_rd hil, hx, List.nodup_append]
            exact ⟨hd, by simp, fun a ha b hb e => c3 (by rw [List.mem_singleton.mp hb] at e; exact e ▸ ha)⟩
theorem order_f {n : Nat} (hn : n ≤ 5) (q : List Int) (hq : q.length ≤ 9000000000000000000) (k : Nat) (hk : q.length < k) : congouref01_order.f k q (n : Int) = some (dc (PermOf n q)) :=
  order_l hn q hq q.length 0 k 0 (by omega) hk SetOf.nil (by simp) (by simp)
/-! ### what match grows -/
structure Grown (l : List (List Int)) (n : Nat) (p q : List Int) : Prop where
  ext : ∃ t, q = p ++ t
  perm : PermOf n q
  up : ∀ i : Nat, p.length ≤ i → i < n → 0 < rd (rd_L1 l (i : Int)) (rd q (i : Int))
theorem rdL_drop {l : List (List Int)} {i : Nat} (h : i < l.length) : l.drop i = rd_L1 l (i : Int) :: l.drop (i + 1) := by
  rw [List.drop_eq_getElem_cons h]
  simp [rd_L1, List.getD_eq_getElem?_getD, List.getElem?_eq_getElem h]
theorem rdL_mem {l : List (List Int)} {i : Nat} (h : i < l.length) : rd_L1 l (i : Int) ∈ l := List.mem_of_mem_drop (rdL_drop h ▸ List.mem_cons_self)
def notIn (p : List Int) (c : Nat) : Bool := !decide ((c : Int) ∈ p)
theorem rd_app {p t : List Int} {x : Int} : rd (p ++ [x] ++ t) (p.length : Int) = x := by
  simp [rd, List.getD_eq_getElem?_getD]
theorem grow_spec (l : List (List Int)) {n : Nat} (hl : l.length = n) (hn : n ≤ 5) (hrw : ∀ r ∈ l, r.length = n) : ∀ (d : Nat) (p : List Int) (u : Nat), p.length + d = n → SetOf u p → (∀ x ∈ p, 0 ≤ x ∧ x < (n : Int)) → p.Nodup →
    (∀ q, growF l d p (u : Int) = some q → Grown l n p q) ∧ (growF l d p (u : Int) = none → ¬ Hall.Mt n (l.drop p.length) (notIn p)) := by
  intro d
  induction d with
  | zero =>
    intro p u hp hu hr hd
    rw [growF]
    refine ⟨fun q hq => ?_, fun h => by cases h⟩
    obtain rfl := Option.some.inj hq
    exact ⟨⟨[], by simp⟩, ⟨by omega, hr, hd⟩, fun i h1 h2 => by omega⟩
  | succ d ih =>
    intro p u hp hu hr hd
    rw [growF]
    have hpl : p.length < l.length := by omega
    have hrow := hrw _ (rdL_mem hpl)
    have hdrop := rdL_drop hpl
    obtain ⟨row, hrowe⟩ : ∃ row, rd_L1 l (p.length : Int) = row := ⟨_, rfl⟩
    rw [hrowe] at hrow hdrop ⊢
    have inner : ∀ (m j : Nat), j + m = n → (∀ q, growL (growF l d) p (u : Int) (row.drop j) (j : Int) = some q → Grown l n p q) ∧ (growL (growF l d) p (u : Int) (row.drop j) (j : Int) = none → ∀ c, j ≤ c → c < n → notIn p c = true → Hall.up row c = true → ¬ Hall.Mt n (l.drop (p.length + 1)) (fun e => notIn p e && e != c)) := by
      intro m
      induction m with
      | zero =>
        intro j hj
        rw [List.drop_of_length_le (by omega), growL]
        exact ⟨fun q h => (by cases h), fun _ c h1 h2 => (by omega)⟩
      | succ m ihm =>
        intro j hj
        have hj5 : j < 5 := by omega
        obtain ⟨i1, i2⟩ := ihm (j + 1) (by omega)
        rw [show ((j + 1 : Nat) : Int) = (j : Int) + 1 by omega] at i1 i2
        rw [rdI_drop (by omega), growL]
        have hup : Hall.up row j = decide (0 < rd row (j : Int)) := by rw [Hall.up, rd_at]
        by_cases c1 : 0 < rd row (j : Int)
        · rw [if_pos c1]
          by_cases c2 : (j : Int) ∈ p
          · rw [if_neg (fun h => (hu.off hj5).mp h c2)]
            refine ⟨i1, fun h c h1 h2 h3 h4 => ?_⟩
            by_cases e : c = j
            · subst e
              simp [notIn, c2] at h3
            · exact i2 h c (by omega) h2 h3 h4
          · rw [if_pos ((hu.off hj5).mpr c2), bit_or u hu.lt j hj5]
            obtain ⟨g1, g2⟩ := ih (p ++ [(j : Int)]) (u ||| 2 ^ j) (by simp; omega) (hu.snoc hj5) (fun x hx => by
              rcases List.mem_append.mp hx with h | h
              · exact hr x h
              · rw [List.mem_singleton.mp h]; omega) (by
              rw [List.nodup_append]
              exact ⟨hd, by simp, fun a ha b hb e => c2 (by rw [List.mem_singleton.mp hb] at e; exact e ▸ ha)⟩)
            cases hg : growF l d (p ++ [(j : Int)]) ((u ||| 2 ^ j : Nat) : Int) with
            | some q =>
              rw [nextF]
              refine ⟨fun q' hq' => ?_, fun h => by cases h⟩
              obtain rfl := Option.some.inj hq'
              obtain ⟨⟨t, ht⟩, h2, h3⟩ := g1 q hg
              refine ⟨⟨[(j : Int)] ++ t, by rw [ht, List.append_assoc]⟩, h2, fun i h4 h5 => ?_⟩
              by_cases e : i = p.length
              · subst e
                rw [hrowe, ht, rd_app]
                exact c1
              · exact h3 i (by simp; omega) h5
            | none =>
              rw [nextF]
              refine ⟨i1, fun h c h1 h2 h3 h4 => ?_⟩
              by_cases e : c = j
              · subst e
                have h9 := g2 hg
                rw [List.length_append, List.length_singleton] at h9
                refine fun hm => h9 (hm.mono fun e he => ?_)
                simp only [notIn, Bool.and_eq_true, bne_iff_ne, Bool.not_eq_true', decide_eq_false_iff_not, List.mem_append, List.mem_singleton] at he ⊢
                rintro (h | h)
                · exact he.1 h
                · exact he.2 (by omega)
              · exact i2 h c (by omega) h2 h3 h4
        · rw [if_neg c1]
          refine ⟨i1, fun h c h1 h2 h3 h4 => ?_⟩
          by_cases e : c = j
          · subst e
            rw [hup] at h4
            exact absurd (of_decide_eq_true h4) c1
          · exact i2 h c (by omega) h2 h3 h4
    obtain ⟨a1, a2⟩ := inner n 0 (by omega)
    rw [List.drop_zero] at a1 a2
    refine ⟨a1, fun h hm => ?_⟩
    rw [hdrop] at hm
    obtain ⟨c, h1, h2, h3, h4⟩ := hm
    exact a2 h c (Nat.zero_le _) h1 h2 h3 h4
theorem sum_getD (n : Nat) : ∀ r : List Int, r.length = n → Hall.rsum n (fun c => r.getD c 0) = r.sum := by
  intro r h
  unfold Hall.rsum
  congr 1
  apply List.ext_getElem
  · simp [h]
  · intro i h1 h2
    simp [List.getD_eq_getElem?_getD, List.getElem?_eq_getElem h2]
theorem zero_sum : ∀ l : List (List Int), (l.map fun _ => (0 : Int)).sum = 0
  | [] => rfl
  | a :: l => by rw [List.map_cons, List.sum_cons, zero_sum l]; rfl
/-- a matrix of one sum: match finds a permutation of numbers above 0 -/
theorem match_some (l : List (List Int)) {n : Nat} (hl : l.length = n) (hn : n ≤ 5) (hrw : ∀ r ∈ l, r.length = n) {s : Int} (hs : 0 < s) (h0 : ∀ r ∈ l, ∀ x ∈ r, 0 ≤ x) (hr : ∀ r ∈ l, r.sum = s) (hc : ∀ c, c < n → (l.map fun r => r.getD c 0).sum = s) :
    ∃ q, growF l n [] 0 = some q ∧ PermOf n q ∧ ∀ i : Nat, i < n → 0 < rd (rd_L1 l (i : Int)) (rd q (i : Int)) := by
  obtain ⟨a1, a2⟩ := grow_spec l hl hn hrw n [] 0 (by simp) SetOf.nil (by simp) (by simp)
  cases hg : growF l n [] ((0 : Nat) : Int) with
  | some q =>
    obtain ⟨_, h2, h3⟩ := a1 q hg
    exact ⟨q, rfl, h2, fun i hi => h3 i (Nat.zero_le _) hi⟩
  | none =>
    refine absurd ?_ (a2 hg)
    rw [List.length_nil, List.drop_zero]
    refine (Hall.up_match hs (fun r hr c => ?_) (fun r hr' => by rw [sum_getD n r (hrw r hr')]; exact hr r hr') (fun c => ?_)).mono fun c _ => by simp [notIn]
    · rw [List.getD_eq_getElem?_getD]
      by_cases h : c < r.length
      · rw [List.getElem?_eq_getElem h]; exact h0 r hr _ (List.getElem_mem h)
      · rw [List.getElem?_eq_none (by omega)]; decide
    · by_cases h : c < n
      · rw [hc c h]; omega
      · have : (l.map fun r => r.getD c 0).sum = 0 := by
          have e : (l.map fun r => r.getD c 0) = l.map fun _ => 0 := List.map_congr_left fun r hr => by
            rw [List.getD_eq_getElem?_getD, List.getElem?_eq_none (by have := hrw r hr; omega)]; rfl
          rw [e, zero_sum]
        rw [this]; omega
end Go.Proofs.Ytefmafbbnkkpjaa.Pure
