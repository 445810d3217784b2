/- Threes of nine players, plain: twelve lines in four classes, sorted; no program in sight but the words of its walk. -/
import Derived.Test.YtkieehjpnjplmaaE17
import Derived.Test.YtkieehjpnjplmaaE13
import Derived.Test.YtkieehjpnjplmaaE11
import Derived.Laws.BitsLemmas
import Derived.Sort.LotA
namespace Go.Proofs.Ytkieehjpnjplmaa.Pure
open Go Go.Proofs Go.RowKit Go.Sort Go.Shelf Go.Proofs.Ytkieehjpnjplmaa Go.Proofs.Ytkieehjpnjplmaa.X Go.Proofs.YtkieehjpnjplmaaW.PrintWords Go.Proofs.YtkieehjpnjplmaaW.PrintLast Go.Proofs.YtkieehjpnjplmaaW.PrintMore
set_option linter.unusedVariables false
set_option linter.unusedSectionVars false
set_option linter.unusedSimpArgs false
/-- the players of a triple -/
def els (t : S39) : List Int := [t.f0, t.f1, t.f2]
structure Tri (t : S39) : Prop where
  h0 : 0 ≤ t.f0
  h1 : t.f0 < t.f1
  h2 : t.f1 < t.f2
  h9 : t.f2 < 9
theorem mem_els {t : S39} {x : Int} : x ∈ els t ↔ x = t.f0 ∨ x = t.f1 ∨ x = t.f2 := by simp [els]
theorem Tri.rng {t : S39} (h : Tri t) {x : Int} (hx : x ∈ els t) : 0 ≤ x ∧ x < 9 := by
  have := h.h0; have := h.h1; have := h.h2; have := h.h9
  rcases mem_els.mp hx with rfl | rfl | rfl <;> omega
/-! ### sets of players as bits -/
structure SetB (u : Nat) (s : List Int) : Prop where
  lt : u < 512
  bit : ∀ x : Nat, x < 9 → (u.testBit x = true ↔ (x : Int) ∈ s)
theorem wrap9 (n : Int) (h0 : 0 ≤ n) (h1 : n < 2 ^ 9) : IntKind.i64.wrap n = n := by rw [IntKind.wrap_i64]; omega
theorem or9 {u v : Nat} (hu : u < 512) (hv : v < 512) : Go.bits .or .i64 (u : Int) (v : Int) = ((u ||| v : Nat) : Int) := (bits_nat .i64 9 (by decide) wrap9 u v hu hv).2
theorem and9 {u v : Nat} (hu : u < 512) (hv : v < 512) : Go.bits .and .i64 (u : Int) (v : Int) = ((u &&& v : Nat) : Int) := (bits_nat .i64 9 (by decide) wrap9 u v hu hv).1
theorem SetB.zero : SetB 0 [] := ⟨by decide, fun x hx => by simp⟩
theorem shl9 : ∀ x : Nat, x < 9 → shl .i64 1 (x : Int) = ((2 ^ x : Nat) : Int) := by decide +kernel
theorem SetB.one {x : Nat} (h : x < 9) : SetB (2 ^ x) [(x : Int)] :=
  ⟨Nat.lt_of_lt_of_le (Nat.pow_lt_pow_right (by decide) h) (by decide), fun y hy => by rw [Nat.testBit_two_pow, decide_eq_true_eq, List.mem_singleton]; omega⟩
theorem SetB.or {u v : Nat} {s t : List Int} (h : SetB u s) (k : SetB v t) : SetB (u ||| v) (s ++ t) :=
  ⟨Nat.or_lt_two_pow (n := 9) h.lt k.lt, fun x hx => by rw [Nat.testBit_or, Bool.or_eq_true, h.bit x hx, k.bit x hx, List.mem_append]⟩
theorem SetB.and0 {u v : Nat} {s t : List Int} (h : SetB u s) (k : SetB v t) (hs : ∀ x ∈ s, 0 ≤ x ∧ x < 9) : u &&& v = 0 ↔ ∀ x ∈ s, x ∉ t := by
  constructor
  · intro e x hx ht
    obtain ⟨h0, h9⟩ := hs x hx
    have h1 := congrArg (Nat.testBit · x.toNat) e
    simp only [Nat.testBit_and, Nat.zero_testBit] at h1
    have h2 : u.testBit x.toNat = true := (h.bit _ (by omega)).mpr (by rwa [Int.toNat_of_nonneg h0])
    have h3 : v.testBit x.toNat = true := (k.bit _ (by omega)).mpr (by rwa [Int.toNat_of_nonneg h0])
    rw [h2, h3] at h1
    cases h1
  · intro hd
    refine Nat.eq_of_testBit_eq fun i => ?_
    rw [Nat.testBit_and, Nat.zero_testBit]
    by_cases hi : i < 9
    · cases h2 : u.testBit i with
      | false => rfl
      | true =>
        have h3 := (h.bit i hi).mp h2
        have h4 := hd _ h3
        cases h5 : v.testBit i with
        | false => rfl
        | true => exact absurd ((k.bit i hi).mp h5) h4
    · rw [Nat.testBit_lt_two_pow (Nat.lt_of_lt_of_le h.lt (show 2 ^ 9 ≤ 2 ^ i from Nat.pow_le_pow_right (by decide) (by omega)))]
      rfl
theorem SetB.full {u : Nat} {s : List Int} (h : SetB u s) : u = 511 ↔ ∀ x : Nat, x < 9 → (x : Int) ∈ s := by
  rw [show 511 = 2 ^ 9 - 1 from rfl]
  constructor
  · rintro rfl x hx
    refine (h.bit x hx).mp ?_
    rw [Nat.testBit_two_pow_sub_one, decide_eq_true hx]
  · intro ha
    refine Nat.eq_of_testBit_eq fun i => ?_
    rw [Nat.testBit_two_pow_sub_one]
    by_cases hi : i < 9
    · rw [(h.bit i hi).mpr (ha i hi), decide_eq_true hi]
    · rw [Nat.testBit_lt_two_pow (Nat.lt_of_lt_of_le h.lt (show 2 ^ 9 ≤ 2 ^ i from Nat.pow_le_pow_right (by decide) (by omega))), decide_eq_false hi]
theorem mask_t {t : S39} (h : Tri t) : ∃ u : Nat, setm t = (u : Int) ∧ SetB u (els t) := by
  obtain ⟨h0, h1, h2, h9⟩ := h
  obtain ⟨a, b, c⟩ := t
  simp only at h0 h1 h2 h9
  obtain ⟨a, rfl⟩ : ∃ n : Nat, a = n := ⟨a.toNat, by omega⟩
  obtain ⟨b, rfl⟩ : ∃ n : Nat, b = n := ⟨b.toNat, by omega⟩
  obtain ⟨c, rfl⟩ : ∃ n : Nat, c = n := ⟨c.toNat, by omega⟩
  have sa := SetB.one (x := a) (by omega)
  have sb := SetB.one (x := b) (by omega)
  have sc := SetB.one (x := c) (by omega)
  have sab := sa.or sb
  refine ⟨_, ?_, sab.or sc⟩
  unfold setm
  rw [shl9 a (by omega), shl9 b (by omega), shl9 c (by omega), or9 sa.lt sb.lt, or9 sab.lt sc.lt]
/-! ### the order of triples -/
theorem cmp3_lt {x y : S39} : cmp3 x y < 0 ↔ (x.f0 < y.f0 ∨ (x.f0 = y.f0 ∧ (x.f1 < y.f1 ∨ (x.f1 = y.f1 ∧ x.f2 < y.f2)))) := by
  unfold cmp3
  repeat' split
  all_goals omega
theorem swo3 : SWO (ltOf cmp3) := by
  refine ⟨fun x => ?_, fun x y z h1 h2 => ?_, fun x y z h1 h2 => ?_⟩
  · simp only [ltOf, decide_eq_false_iff_not, cmp3_lt]; omega
  · simp only [ltOf, decide_eq_true_eq, cmp3_lt] at *; omega
  · simp only [ltOf, decide_eq_false_iff_not, cmp3_lt] at *; omega
theorem cmp3_of {x y : S39} (h : ¬ cmp3 y x < 0) (hne : x ≠ y) : cmp3 x y < 0 := by
  rw [cmp3_lt] at *
  refine Classical.byContradiction fun hn => hne ?_
  obtain ⟨a, b, c⟩ := x
  obtain ⟨a', b', c'⟩ := y
  simp only at *
  have e1 : a = a' := by omega
  have e2 : b = b' := by omega
  have e3 : c = c' := by omega
  rw [e1, e2, e3]
theorem rd_get {l : List S39} {i : Nat} (h : i < l.length) : rd_T39 l (i : Int) = l[i] := by simp [rd_T39, List.getD_eq_getElem?_getD, List.getElem?_eq_getElem h]
theorem sort3_perm {l : List S39} : (sort3 l).Perm l := by
  have h := (insertionSort_holds (lt := ltOf cmp3) swo3 l.toArray 0 l.length (Nat.zero_le _) (by simp)).1
  have h2 := h.2.2
  have h1 := h.1
  simp only [List.size_toArray] at h1
  unfold sort3
  clear h
  generalize insertionSort (ltOf cmp3) l.toArray 0 l.length = d at h1 h2 ⊢
  rw [show d.extract 0 l.length = d by rw [← h1]; simp, show l.toArray.extract 0 l.length = l.toArray by simp] at h2
  exact h2
theorem sort3_sorted {l : List S39} (hn : l.Nodup) {i j : Nat} (hij : i < j) (hj : j < l.length) : cmp3 (rd_T39 (sort3 l) (i : Int)) (rd_T39 (sort3 l) (j : Int)) < 0 := by
  have h := (insertionSort_holds (lt := ltOf cmp3) swo3 l.toArray 0 l.length (Nat.zero_le _) (by simp)).2 i j (Nat.zero_le _) hij hj
  have hs : (sort3 l).length = l.length := sort3_length l
  have hnd : (sort3 l).Nodup := sort3_perm.symm.nodup hn
  rw [rd_get (by omega), rd_get (by omega)]
  have hd : (insertionSort (ltOf cmp3) l.toArray 0 l.length).size = l.length := by have h9 := hs; unfold sort3 at h9; rwa [Array.length_toList] at h9
  have e : ∀ m (hm : m < l.length), (insertionSort (ltOf cmp3) l.toArray 0 l.length)[m]! = (sort3 l)[m]'(by omega) := fun m hm => by
    rw [getElem!_pos _ _ (by omega)]
    rfl
  rw [e _ hj, e _ (by omega)] at h
  refine cmp3_of (by simpa [ltOf] using h) ?_
  intro he
  have := (List.nodup_iff_pairwise_ne.mp hnd)
  exact (List.pairwise_iff_getElem.mp this) i j (by omega) (by omega) hij he
/-! ### twelve lines in four classes -/
structure Plane (T : Nat → S39) : Prop where
  f1 : ∀ k, k < 12 → Tri (T k)
  f3 : ∀ x y : Int, 0 ≤ x → x < y → y < 9 → ∃ k, k < 12 ∧ x ∈ els (T k) ∧ y ∈ els (T k)
  f4 : ∀ k k', k < 12 → k' < 12 → ∀ x y : Int, x ≠ y → x ∈ els (T k) → y ∈ els (T k) → x ∈ els (T k') → y ∈ els (T k') → k = k'
  f5 : ∀ k k', k < 12 → k' < 12 → k ≠ k' → k / 3 = k' / 3 → ∀ x ∈ els (T k), x ∉ els (T k')
  f6 : ∀ k k', k < 12 → k' < 12 → k / 3 ≠ k' / 3 → ∃ x, x ∈ els (T k) ∧ x ∈ els (T k')
def Cs (T : Nat → S39) : List S39 := (List.range 12).map T
def Ss (T : Nat → S39) : List S39 := sort3 (Cs T)
theorem Cs_len (T : Nat → S39) : (Cs T).length = 12 := by simp [Cs]
theorem Ss_len (T : Nat → S39) : (Ss T).length = 12 := by rw [Ss, sort3_length, Cs_len]
section
variable {T : Nat → S39} (hP : Plane T)
include hP
theorem Plane.inj {k k' : Nat} (h : k < 12) (h' : k' < 12) (e : T k = T k') : k = k' := by
  have t := hP.f1 k h
  refine hP.f4 k k' h h' (T k).f0 (T k).f1 (by have := t.h1; omega) (by simp [els]) (by simp [els]) (by rw [← e]; simp [els]) (by rw [← e]; simp [els])
theorem Plane.nodup : (Cs T).Nodup := by
  unfold Cs
  rw [List.nodup_iff_pairwise_ne, List.pairwise_map, List.pairwise_iff_getElem]
  intro i j hi hj hij e
  simp only [List.length_range] at hi hj
  simp only [List.getElem_range] at e
  have := hP.inj hi hj e
  omega
theorem Plane.kap {i : Nat} (h : i < 12) : ∃ k, k < 12 ∧ rd_T39 (Ss T) (i : Int) = T k := by
  have hl := Ss_len T
  rw [rd_get (by omega)]
  have hm : (Ss T)[i] ∈ Cs T := sort3_perm.subset (List.getElem_mem _)
  obtain ⟨k, hk, e⟩ := List.mem_map.mp hm
  exact ⟨k, List.mem_range.mp hk, e.symm⟩
theorem Plane.pos {k : Nat} (h : k < 12) : ∃ i : Nat, i < 12 ∧ rd_T39 (Ss T) (i : Int) = T k := by
  have hl := Ss_len T
  have hm : T k ∈ Ss T := sort3_perm.symm.subset (List.mem_map.mpr ⟨k, List.mem_range.mpr h, rfl⟩)
  obtain ⟨i, hi, e⟩ := List.getElem_of_mem hm
  exact ⟨i, by omega, by rw [rd_get hi, e]⟩
theorem Plane.lt {i j : Nat} (hij : i < j) (hj : j < 12) : cmp3 (rd_T39 (Ss T) (i : Int)) (rd_T39 (Ss T) (j : Int)) < 0 := sort3_sorted hP.nodup hij (by rw [Cs_len]; exact hj)
theorem Plane.sinj {i j : Nat} (hi : i < 12) (hj : j < 12) (e : rd_T39 (Ss T) (i : Int) = rd_T39 (Ss T) (j : Int)) : i = j := by
  rcases Nat.lt_trichotomy i j with h | h | h
  · have := hP.lt h hj; rw [e, cmp3_lt] at this; omega
  · exact h
  · have := hP.lt h hi; rw [e, cmp3_lt] at this; omega
theorem Plane.tri {i : Nat} (h : i < 12) : Tri (rd_T39 (Ss T) (i : Int)) := by
  obtain ⟨k, hk, e⟩ := hP.kap h
  rw [e]; exact hP.f1 k hk
end
def prs (t : S39) : List (Int × Int) := [(t.f1, t.f2), (t.f0, t.f2), (t.f0, t.f1)]
theorem mem_fold (p : Int × Int) : ∀ (l : List S39) (acc : List (Int × Int)), p ∈ l.foldl putS acc ↔ p ∈ acc ∨ ∃ t ∈ l, p ∈ prs t := by
  intro l
  induction l with
  | nil => intro acc; simp
  | cons t l ih =>
    intro acc
    rw [List.foldl_cons, ih]
    unfold putS prs
    simp only [List.mem_cons, List.not_mem_nil, or_false, exists_eq_or_imp]
    constructor
    · rintro ((h | h | h | h) | h)
      · exact .inr (.inl (.inl h))
      · exact .inr (.inl (.inr (.inl h)))
      · exact .inr (.inl (.inr (.inr h)))
      · exact .inl h
      · exact .inr (.inr h)
    · rintro (h | (h | h | h) | h)
      · exact .inl (.inr (.inr (.inr h)))
      · exact .inl (.inl h)
      · exact .inl (.inr (.inl h))
      · exact .inl (.inr (.inr (.inl h)))
      · exact .inr h
theorem mem_setOf {l : List S39} {n : Nat} {p : Int × Int} (hn : n ≤ l.length) : p ∈ setOf l n ↔ ∃ j : Nat, j < n ∧ p ∈ prs (rd_T39 l (j : Int)) := by
  unfold setOf
  rw [mem_fold]
  simp only [List.not_mem_nil, false_or]
  constructor
  · rintro ⟨t, ht, hp⟩
    obtain ⟨j, hj, e⟩ := List.getElem_of_mem ht
    rw [List.length_take] at hj
    refine ⟨j, by omega, ?_⟩
    rw [rd_get (by omega)]
    rw [List.getElem_take] at e
    rw [e]; exact hp
  · rintro ⟨j, hj, hp⟩
    rw [rd_get (by omega)] at hp
    refine ⟨l[j], List.mem_take_iff_getElem.mpr ⟨j, by omega, rfl⟩, hp⟩
theorem prs_els {t : S39} (h : Tri t) {x y : Int} : (x, y) ∈ prs t ↔ x ∈ els t ∧ y ∈ els t ∧ x < y := by
  have := h.h1; have := h.h2
  simp only [prs, List.mem_cons, Prod.mk.injEq, List.not_mem_nil, or_false, mem_els]
  omega
section
variable {T : Nat → S39} (hP : Plane T)
include hP
theorem Plane.no {i : Nat} (h : i < 12) {x y : Int} (hx : x ∈ els (rd_T39 (Ss T) (i : Int))) (hy : y ∈ els (rd_T39 (Ss T) (i : Int))) : (x, y) ∉ setOf (Ss T) i := by
  intro hm
  obtain ⟨j, hj, hp⟩ := (mem_setOf (by rw [Ss_len]; omega)).mp hm
  obtain ⟨h1, h2, h3⟩ := (prs_els (hP.tri (by omega))).mp hp
  obtain ⟨k, hk, e⟩ := hP.kap h
  obtain ⟨k', hk', e'⟩ := hP.kap (show j < 12 by omega)
  rw [e] at hx hy
  rw [e'] at h1 h2
  have := hP.f4 k k' hk hk' x y (by omega) hx hy h1 h2
  subst this
  have := hP.sinj h (by omega) (e.trans e'.symm)
  omega
theorem Plane.good : goodB (Ss T) = true := by
  unfold goodB
  rw [Ss_len, Bool.and_eq_true, Bool.and_eq_true]
  refine ⟨⟨by decide, List.all_eq_true.mpr fun i hi => ?_⟩, List.all_eq_true.mpr fun x hx => List.all_eq_true.mpr fun y hy => decide_eq_true fun hxy => ?_⟩
  · have h := List.mem_range.mp hi
    have t := hP.tri h
    unfold goodAt
    rw [Bool.and_eq_true, Bool.and_eq_true]
    refine ⟨⟨decide_eq_true ⟨t.h0, t.h1, t.h2, t.h9⟩, decide_eq_true ⟨hP.no h (by simp [els]) (by simp [els]), hP.no h (by simp [els]) (by simp [els]), hP.no h (by simp [els]) (by simp [els])⟩⟩, decide_eq_true fun h2 => hP.lt (by omega) (by rw [Ss_len] at h2; exact h2)⟩
  · have hx := List.mem_range.mp hx
    have hy := List.mem_range.mp hy
    obtain ⟨k, hk, h1, h2⟩ := hP.f3 (x : Int) (y : Int) (by omega) (by omega) (by omega)
    obtain ⟨i, hi, e⟩ := hP.pos hk
    refine (mem_setOf (by rw [Ss_len]; omega)).mpr ⟨i, hi, ?_⟩
    rw [← e] at h1 h2
    exact (prs_els (hP.tri hi)).mpr ⟨h1, h2, by omega⟩
end
/-! ### the spreads -/
theorem lp_mem (l : List S39) (r : List Int) : ∀ (d : Nat) (p : Int) (ch : List Int), d ≤ l.length → (r ∈ lpS l d p ch ↔ ∃ i : Nat, l.length - d ≤ i ∧ i < l.length ∧ Go.bits .and .i64 (setm (rd_T39 l (i : Int))) p = 0 ∧ r ∈ gS l (l.length - (i + 1)) (Go.bits .or .i64 p (setm (rd_T39 l (i : Int)))) (ch ++ [(i : Int)])) := by
  intro d
  induction d with
  | zero => intro p ch hd; simp [lpS]; omega
  | succ d ih =>
    intro p ch hd
    obtain ⟨i, hi⟩ : ∃ i : Nat, i + (d + 1) = l.length := ⟨l.length - (d + 1), by omega⟩
    rw [lpS_succ l d i hi, List.mem_append, ih p ch (by omega)]
    have e1 : l.length - (i + 1) = d := by omega
    constructor
    · rintro (h | ⟨j, h1, h2, h3, h4⟩)
      · split at h
        · rename_i hz
          exact ⟨i, by omega, by omega, hz, by rw [e1]; exact h⟩
        · simp at h
      · exact ⟨j, by omega, h2, h3, h4⟩
    · rintro ⟨j, h1, h2, h3, h4⟩
      by_cases hj : j = i
      · subst hj
        rw [if_pos h3]
        rw [e1] at h4
        exact .inl h4
      · exact .inr ⟨j, by omega, h2, h3, h4⟩
theorem gS_pre (l : List S39) : ∀ (d : Nat) (p : Int) (ch r : List Int), d ≤ l.length → r ∈ gS l d p ch → ∃ s, r = ch ++ s := by
  intro d
  induction d using Nat.strongRecOn with
  | _ d ih =>
    intro p ch r hd hr
    unfold gS at hr
    split at hr
    · exact ⟨[], by simpa using hr⟩
    · obtain ⟨i, h1, h2, _, h4⟩ := (lp_mem l r d p ch hd).mp hr
      obtain ⟨s, hs⟩ := ih (l.length - (i + 1)) (by omega) _ _ _ (by omega) h4
      exact ⟨(i : Int) :: s, by rw [hs]; simp⟩
theorem gS_nodup (l : List S39) : ∀ (d : Nat) (p : Int) (ch : List Int), d ≤ l.length → (lpS l d p ch).Nodup ∧ (gS l d p ch).Nodup := by
  intro d
  induction d with
  | zero => intro p ch _; refine ⟨by simp [lpS], ?_⟩; unfold gS; split <;> simp [lpS]
  | succ d ih =>
    intro p ch hd
    have h1 : (lpS l (d + 1) p ch).Nodup := by
      obtain ⟨i, hi⟩ : ∃ i : Nat, i + (d + 1) = l.length := ⟨l.length - (d + 1), by omega⟩
      rw [lpS_succ l d i hi]
      rw [List.nodup_append]
      refine ⟨?_, (ih p ch (by omega)).1, fun r hr r' hr' e => ?_⟩
      · split
        · exact (ih _ _ (by omega)).2
        · simp
      · subst e
        split at hr
        · obtain ⟨s, hs⟩ := gS_pre l d _ _ _ (by omega) hr
          obtain ⟨j, h1, h2, _, h4⟩ := (lp_mem l r d p ch (by omega)).mp hr'
          obtain ⟨s', hs'⟩ := gS_pre l _ _ _ _ (by omega) h4
          rw [hs] at hs'
          simp only [List.append_assoc, List.singleton_append] at hs'
          have := List.append_cancel_left hs'
          injection this with h5 _
          omega
        · simp at hr
    refine ⟨h1, ?_⟩
    unfold gS
    split
    · simp
    · exact h1
theorem perm_of_sub : ∀ (a b : List Int), a.Nodup → (∀ x ∈ a, x ∈ b) → b.length = a.length → a.Perm b
  | [], b, _, _, hl => by
    have : b = [] := List.length_eq_zero_iff.mp hl
    subst this; exact List.Perm.refl _
  | x :: a, b, hn, hs, hl => by
    have hx := hs x List.mem_cons_self
    have hn2 := List.nodup_cons.mp hn
    have hp := List.perm_cons_erase hx
    refine List.Perm.trans ((perm_of_sub a (b.erase x) hn2.2 (fun y hy => ?_) ?_).cons x) hp.symm
    · refine (List.mem_erase_of_ne (fun e => ?_)).mpr (hs y (List.mem_cons_of_mem _ hy))
      subst e; exact hn2.1 hy
    · have := hp.length_eq
      simp only [List.length_cons] at this hl
      omega
def ints (n : Nat) : List Int := (List.range n).map fun (i : Nat) => (i : Int)
theorem ints_nodup (n : Nat) : (ints n).Nodup := by
  unfold ints
  rw [List.nodup_iff_pairwise_ne, List.pairwise_map]
  exact List.nodup_range.imp fun h e => h (by omega)
theorem ints_mem {n : Nat} {x : Int} : x ∈ ints n ↔ 0 ≤ x ∧ x < (n : Int) := by
  unfold ints
  rw [List.mem_map]
  constructor
  · rintro ⟨i, hi, rfl⟩
    have := List.mem_range.mp hi
    omega
  · intro h
    exact ⟨x.toNat, List.mem_range.mpr (by omega), by omega⟩
theorem ints_len (n : Nat) : (ints n).length = n := by simp [ints]
theorem full_len {s : List Int} (h : ∀ x : Nat, x < 9 → (x : Int) ∈ s) : 9 ≤ s.length := by
  have := (ints_nodup 9).length_le_of_subset (l₂ := s) (fun x hx => by
    obtain ⟨h0, h9⟩ := ints_mem.mp hx
    have := h x.toNat (by omega)
    rwa [Int.toNat_of_nonneg h0] at this)
  rwa [ints_len] at this
theorem full_of {s : List Int} (hn : s.Nodup) (hr : ∀ x ∈ s, 0 ≤ x ∧ x < 9) (hl : s.length = 9) : ∀ x : Nat, x < 9 → (x : Int) ∈ s := by
  have hp := perm_of_sub s (ints 9) hn (fun x hx => ints_mem.mpr (hr x hx)) (by rw [ints_len, hl])
  exact fun x hx => hp.symm.subset (ints_mem.mpr ⟨by omega, by omega⟩)
theorem els_nodup {t : S39} (h : Tri t) : (els t).Nodup := by
  have := h.h1; have := h.h2
  simp only [els, List.nodup_cons, List.mem_cons, List.not_mem_nil, or_false, not_or, not_false_eq_true, List.nodup_nil, and_true]
  omega
section
variable {T : Nat → S39} (hP : Plane T)
include hP
theorem Plane.lvl {u : Nat} {s : List Int} (hu : SetB u s) (r ch : List Int) (d : Nat) (hd : d ≤ 12) : r ∈ lpS (Ss T) d (u : Int) ch ↔ ∃ i : Nat, 12 - d ≤ i ∧ i < 12 ∧ (∀ x ∈ els (rd_T39 (Ss T) (i : Int)), x ∉ s) ∧ ∃ v : Nat, SetB v (s ++ els (rd_T39 (Ss T) (i : Int))) ∧ r ∈ gS (Ss T) (12 - (i + 1)) (v : Int) (ch ++ [(i : Int)]) := by
  rw [lp_mem _ _ _ _ _ (by rw [Ss_len]; exact hd), Ss_len]
  constructor
  · rintro ⟨i, h1, h2, h3, h4⟩
    obtain ⟨v, hv, hs⟩ := mask_t (hP.tri h2)
    rw [hv] at h3 h4
    rw [and9 hs.lt hu.lt] at h3
    rw [or9 hu.lt hs.lt] at h4
    exact ⟨i, h1, h2, (hs.and0 hu (fun x hx => (hP.tri h2).rng hx)).mp (by exact_mod_cast h3), _, hu.or hs, h4⟩
  · rintro ⟨i, h1, h2, h3, v, hv, h4⟩
    obtain ⟨w, hw, hs⟩ := mask_t (hP.tri h2)
    refine ⟨i, h1, h2, ?_, ?_⟩
    · rw [hw, and9 hs.lt hu.lt, (hs.and0 hu (fun x hx => (hP.tri h2).rng hx)).mpr h3]; rfl
    · rw [hw, or9 hu.lt hs.lt]
      have : v = u ||| w := by
        have k := hu.or hs
        refine Nat.eq_of_testBit_eq fun j => ?_
        by_cases hj : j < 9
        · rw [Bool.eq_iff_iff, hv.bit j hj, k.bit j hj]
        · have hp : 512 ≤ 2 ^ j := show 2 ^ 9 ≤ 2 ^ j from Nat.pow_le_pow_right (by decide) (by omega)
          rw [Nat.testBit_lt_two_pow (Nat.lt_of_lt_of_le hv.lt hp), Nat.testBit_lt_two_pow (Nat.lt_of_lt_of_le k.lt hp)]
      rw [← this]; exact h4
theorem gS_short {u : Nat} {s : List Int} (hu : SetB u s) (hl : s.length < 9) (l : List S39) (d : Nat) (ch : List Int) : gS l d (u : Int) ch = lpS l d (u : Int) ch := by
  unfold gS
  rw [if_neg]
  intro h
  have := full_len (hu.full.mp (by omega))
  omega
theorem Plane.mem (r : List Int) : r ∈ gS (Ss T) 12 0 [] ↔ ∃ i j h : Nat, i < j ∧ j < h ∧ h < 12 ∧ (∀ x ∈ els (rd_T39 (Ss T) (j : Int)), x ∉ els (rd_T39 (Ss T) (i : Int))) ∧ (∀ x ∈ els (rd_T39 (Ss T) (h : Int)), x ∉ els (rd_T39 (Ss T) (i : Int)) ∧ x ∉ els (rd_T39 (Ss T) (j : Int))) ∧ r = [(i : Int), (j : Int), (h : Int)] := by
  have e0 : gS (Ss T) 12 0 [] = lpS (Ss T) 12 ((0 : Nat) : Int) [] := by unfold gS; rw [if_neg (by decide)]; rfl
  rw [e0, hP.lvl SetB.zero _ _ _ (Nat.le_refl _)]
  constructor
  · rintro ⟨i, _, hi, _, u1, hu1, h1⟩
    rw [gS_short hP hu1 (by simp [els]), hP.lvl hu1 _ _ _ (by omega)] at h1
    obtain ⟨j, hij, hj, d1, u2, hu2, h2⟩ := h1
    rw [gS_short hP hu2 (by simp [els]), hP.lvl hu2 _ _ _ (by omega)] at h2
    obtain ⟨h, hjh, hh, d2, u3, hu3, h3⟩ := h2
    have hf : u3 = 511 := hu3.full.mpr (full_of (by
      rw [List.nodup_append, List.nodup_append]
      refine ⟨⟨by simpa using els_nodup (hP.tri hi), els_nodup (hP.tri hj), fun x hx y hy e => ?_⟩, els_nodup (hP.tri hh), fun x hx y hy e => ?_⟩
      · subst e; exact d1 x hy hx
      · subst e; exact d2 x hy hx) (by
      intro x hx
      simp only [List.nil_append, List.mem_append] at hx
      rcases hx with (hx | hx) | hx
      · exact (hP.tri hi).rng hx
      · exact (hP.tri hj).rng hx
      · exact (hP.tri hh).rng hx) (by simp [els]))
    unfold gS at h3
    rw [if_pos (by omega)] at h3
    refine ⟨i, j, h, by omega, by omega, hh, fun x hx => by have := d1 x hx; simpa using this, fun x hx => ?_, by simpa using h3⟩
    have := d2 x hx
    simpa [not_or] using this
  · rintro ⟨i, j, h, hij, hjh, hh, d1, d2, rfl⟩
    obtain ⟨u1, hu1⟩ : ∃ u, SetB u ([] ++ els (rd_T39 (Ss T) (i : Int))) := by
      obtain ⟨v, _, hs⟩ := mask_t (hP.tri (show i < 12 by omega)); exact ⟨v, by simpa using hs⟩
    obtain ⟨v2, _, hv2⟩ := mask_t (hP.tri (show j < 12 by omega))
    obtain ⟨v3, _, hv3⟩ := mask_t (hP.tri (show h < 12 by omega))
    have hu2 := hu1.or hv2
    have hu3 := hu2.or hv3
    refine ⟨i, by omega, by omega, fun x _ => by simp, u1, hu1, ?_⟩
    rw [gS_short hP hu1 (by simp [els]), hP.lvl hu1 _ _ _ (by omega)]
    refine ⟨j, by omega, by omega, fun x hx => by simpa using d1 x hx, _, hu2, ?_⟩
    rw [gS_short hP hu2 (by simp [els]), hP.lvl hu2 _ _ _ (by omega)]
    refine ⟨h, by omega, hh, fun x hx => by have := d2 x hx; simpa [not_or] using this, _, hu3, ?_⟩
    have hf := hu3.full.mpr (full_of (by
      rw [List.nodup_append, List.nodup_append]
      refine ⟨⟨by simpa using els_nodup (hP.tri (show i < 12 by omega)), els_nodup (hP.tri (show j < 12 by omega)), fun x hx y hy e => ?_⟩, els_nodup (hP.tri hh), fun x hx y hy e => ?_⟩
      · subst e; exact d1 x hy (by simpa using hx)
      · subst e
        have := d2 x hy
        simp only [List.nil_append, List.mem_append] at hx
        rcases hx with hx | hx
        · exact this.1 hx
        · exact this.2 hx) (by
      intro x hx
      simp only [List.nil_append, List.mem_append] at hx
      rcases hx with (hx | hx) | hx
      · exact (hP.tri (by omega)).rng hx
      · exact (hP.tri (by omega)).rng hx
      · exact (hP.tri hh).rng hx) (by simp [els]))
    unfold gS
    rw [if_pos (by omega)]
    simp
end
theorem rise_perm (l : List Int) : (rise l).Perm l := List.mergeSort_perm _ _
theorem rise_sorted (l : List Int) : (rise l).Pairwise (· ≤ ·) := by
  have h := List.pairwise_mergeSort (le := fun x y : Int => decide (x ≤ y)) (by intro a b c h1 h2; simp only [decide_eq_true_eq] at *; omega) (by intro a b; simp only [Bool.or_eq_true, decide_eq_true_eq]; omega) l
  exact h.imp (fun h => by simpa using h)
theorem rise_eq {l r : List Int} (h : l.Perm r) (hs : r.Pairwise (· ≤ ·)) : rise l = r :=
  List.Perm.eq_of_pairwise (fun a b _ _ h1 h2 => by omega) (rise_sorted l) hs ((rise_perm l).trans h)
theorem rise3 {a b c : Int} (hn : [a, b, c].Nodup) : ∃ x y z, rise [a, b, c] = [x, y, z] ∧ x < y ∧ y < z ∧ (∀ t, t ∈ [x, y, z] ↔ t ∈ [a, b, c]) := by
  have hp := rise_perm [a, b, c]
  have hl : (rise [a, b, c]).length = 3 := hp.length_eq
  obtain ⟨x, y, z, e⟩ : ∃ x y z, rise [a, b, c] = [x, y, z] := by
    rcases h : rise [a, b, c] with _ | ⟨x, _ | ⟨y, _ | ⟨z, _ | ⟨t, r⟩⟩⟩⟩ <;> rw [h] at hl <;> simp at hl
    exact ⟨x, y, z, rfl⟩
  have hs := rise_sorted [a, b, c]
  have hnd := hp.symm.nodup hn
  rw [e] at hp hs hnd
  simp only [List.pairwise_cons, List.mem_cons, List.not_mem_nil, or_false, forall_eq_or_imp, forall_eq, List.nodup_cons, not_or] at hs hnd
  exact ⟨x, y, z, e, by omega, by omega, fun t => hp.mem_iff⟩
/-- the places of a class's three lines, in order -/
def atm (p : Nat → Nat) (m : Nat) : List Int := rise [(p (3 * m) : Int), (p (3 * m + 1) : Int), (p (3 * m + 2) : Int)]
section
variable {T : Nat → S39} (hP : Plane T) {p : Nat → Nat} (hp : ∀ k, k < 12 → p k < 12 ∧ rd_T39 (Ss T) (p k : Int) = T k)
include hP hp
theorem Plane.pinj {k k' : Nat} (h : k < 12) (h' : k' < 12) (e : p k = p k') : k = k' := by
  have h1 := (hp k h).2
  rw [e, (hp k' h').2] at h1
  exact (hP.inj h' h h1).symm
theorem Plane.at_nodup {m : Nat} (hm : m < 4) : [(p (3 * m) : Int), (p (3 * m + 1) : Int), (p (3 * m + 2) : Int)].Nodup := by
  have h := fun {k k' : Nat} (h : k < 12) (h' : k' < 12) (e : p k = p k') => hP.pinj hp h h' e
  simp only [List.nodup_cons, List.mem_cons, List.not_mem_nil, or_false, not_or, not_false_eq_true, List.nodup_nil, and_true]
  refine ⟨⟨fun e => ?_, fun e => ?_⟩, fun e => ?_⟩
  · have := h (k := 3 * m) (k' := 3 * m + 1) (by omega) (by omega) (by omega); omega
  · have := h (k := 3 * m) (k' := 3 * m + 2) (by omega) (by omega) (by omega); omega
  · have := h (k := 3 * m + 1) (k' := 3 * m + 2) (by omega) (by omega) (by omega); omega
theorem Plane.at_mem {m : Nat} (hm : m < 4) : atm p m ∈ gS (Ss T) 12 0 [] := by
  obtain ⟨x, y, z, e, hxy, hyz, hmem⟩ := rise3 (hP.at_nodup hp hm)
  unfold atm
  rw [e, hP.mem]
  have hk : ∀ t ∈ [x, y, z], ∃ k : Nat, k < 12 ∧ k / 3 = m ∧ t = (p k : Int) := by
    intro t ht
    have := (hmem t).mp ht
    simp only [List.mem_cons, List.not_mem_nil, or_false] at this
    rcases this with rfl | rfl | rfl
    · exact ⟨3 * m, by omega, by omega, rfl⟩
    · exact ⟨3 * m + 1, by omega, by omega, rfl⟩
    · exact ⟨3 * m + 2, by omega, by omega, rfl⟩
  obtain ⟨a, ha, ha3, rfl⟩ := hk x (by simp)
  obtain ⟨b, hb, hb3, rfl⟩ := hk y (by simp)
  obtain ⟨c, hc, hc3, rfl⟩ := hk z (by simp)
  have ea := hp a ha
  have eb := hp b hb
  have ec := hp c hc
  refine ⟨p a, p b, p c, by omega, by omega, ec.1, ?_, ?_, rfl⟩
  · rw [ea.2, eb.2]
    exact hP.f5 b a hb ha (by rintro rfl; omega) (by omega)
  · rw [ea.2, eb.2, ec.2]
    exact fun t ht => ⟨hP.f5 c a hc ha (by rintro rfl; omega) (by omega) t ht, hP.f5 c b hc hb (by rintro rfl; omega) (by omega) t ht⟩
theorem Plane.of_mem {r : List Int} (hr : r ∈ gS (Ss T) 12 0 []) : ∃ m, m < 4 ∧ r = atm p m := by
  obtain ⟨i, j, h, hij, hjh, hh, d1, d2, rfl⟩ := (hP.mem r).mp hr
  obtain ⟨a, ha, ea⟩ := hP.kap (show i < 12 by omega)
  obtain ⟨b, hb, eb⟩ := hP.kap (show j < 12 by omega)
  obtain ⟨c, hc, ec⟩ := hP.kap hh
  rw [ea, eb] at d1
  rw [ea, eb, ec] at d2
  have hab : b / 3 = a / 3 := Classical.byContradiction fun hn => by
    obtain ⟨x, h1, h2⟩ := hP.f6 b a hb ha hn
    exact d1 x h1 h2
  have hac : c / 3 = a / 3 := Classical.byContradiction fun hn => by
    obtain ⟨x, h1, h2⟩ := hP.f6 c a hc ha hn
    exact (d2 x h1).1 h2
  have nab : a ≠ b := by rintro rfl; have := hP.sinj (by omega) (by omega) (ea.trans eb.symm); omega
  have nac : a ≠ c := by rintro rfl; have := hP.sinj (by omega) (by omega) (ea.trans ec.symm); omega
  have nbc : b ≠ c := by rintro rfl; have := hP.sinj (by omega) (by omega) (eb.trans ec.symm); omega
  have pa : p a = i := hP.sinj (hp a ha).1 (by omega) ((hp a ha).2.trans ea.symm)
  have pb : p b = j := hP.sinj (hp b hb).1 (by omega) ((hp b hb).2.trans eb.symm)
  have pc : p c = h := hP.sinj (hp c hc).1 (by omega) ((hp c hc).2.trans ec.symm)
  refine ⟨a / 3, by omega, ?_⟩
  unfold atm
  refine Eq.symm (rise_eq (r := [(i : Int), (j : Int), (h : Int)]) (perm_of_sub _ _ (hP.at_nodup hp (m := a / 3) (by omega)) (fun x hx => ?_) rfl) ?_)
  · have hk : ∀ k, k < 12 → k / 3 = a / 3 → (p k : Int) ∈ [(i : Int), (j : Int), (h : Int)] := by
      intro k hk hk3
      have : k = a ∨ k = b ∨ k = c := by omega
      rcases this with rfl | rfl | rfl
      · rw [pa]; simp
      · rw [pb]; simp
      · rw [pc]; simp
    simp only [List.mem_cons, List.not_mem_nil, or_false] at hx
    rcases hx with rfl | rfl | rfl
    · exact hk _ (by omega) (by omega)
    · exact hk _ (by omega) (by omega)
    · exact hk _ (by omega) (by omega)
  · simp only [List.pairwise_cons, List.mem_cons, List.not_mem_nil, or_false, forall_eq_or_imp, forall_eq]
    refine ⟨⟨by omega, by omega⟩, by omega, fun _ h => h.elim, List.Pairwise.nil⟩
theorem Plane.four : (gS (Ss T) 12 0 []).length = 4 := by
  have hn : ((List.range 4).map (atm p)).Nodup := by
    rw [List.nodup_iff_pairwise_ne, List.pairwise_map, List.pairwise_iff_getElem]
    intro i j hi hj hij e
    simp only [List.length_range] at hi hj
    simp only [List.getElem_range] at e
    have h1 : (p (3 * i) : Int) ∈ atm p i := (rise_perm _).symm.subset (by simp)
    rw [e] at h1
    have h2 := (rise_perm _).subset h1
    simp only [List.mem_cons, List.not_mem_nil, or_false] at h2
    rcases h2 with h | h | h
    · have := hP.pinj hp (k := 3 * i) (k' := 3 * j) (by omega) (by omega) (by omega); omega
    · have := hP.pinj hp (k := 3 * i) (k' := 3 * j + 1) (by omega) (by omega) (by omega); omega
    · have := hP.pinj hp (k := 3 * i) (k' := 3 * j + 2) (by omega) (by omega) (by omega); omega
  have h1 := hn.length_le_of_subset (l₂ := gS (Ss T) 12 0 []) (fun r hr => by
    obtain ⟨m, hm, rfl⟩ := List.mem_map.mp hr
    exact hP.at_mem hp (List.mem_range.mp hm))
  have h2 := (gS_nodup (Ss T) 12 0 [] (by rw [Ss_len]; omega)).2.length_le_of_subset (l₂ := (List.range 4).map (atm p)) (fun r hr => by
    obtain ⟨m, hm, rfl⟩ := hP.of_mem hp hr
    exact List.mem_map.mpr ⟨m, List.mem_range.mpr hm, rfl⟩)
  simp only [List.length_map, List.length_range] at h1 h2
  omega
end
end Go.Proofs.Ytkieehjpnjplmaa.Pure
