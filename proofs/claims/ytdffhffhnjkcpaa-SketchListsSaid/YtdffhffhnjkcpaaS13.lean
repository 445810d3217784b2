/- The reference's Short and Full: they are the same lists, in the reference's type. -/
import Derived.Test.YtdffhffhnjkcpaaXf50
import Derived.Test.YtdffhffhnjkcpaaXf51
import Derived.Test.YtdffhffhnjkcpaaE49
import Derived.Test.YtdffhffhnjkcpaaE46
import Derived.Test.YtdffhffhnjkcpaaXG1a
import Derived.Test.YtdffhffhnjkcpaaXG2a
namespace Go.Proofs.Ytdffhffhnjkcpaa.X
open Go.RowKit Go.Proofs.YtdffhffhnjkcpaaW.PrintWords Go.Proofs.YtdffhffhnjkcpaaW.PrintLast Go.Proofs.YtdffhffhnjkcpaaW.PrintMore
set_option linter.unusedVariables false
set_option linter.unusedSimpArgs false

def cv (c : S70) : S64 := ⟨c.f0, c.f1, c.f2⟩
def ownL (l : List S70) : List S64 := l.map cv
theorem ownL_len (l : List S70) : (ownL l).length = l.length := by simp [ownL]
theorem rd_own (l : List S70) (i : Nat) (h : i < l.length) : rd_T64 (ownL l) (i : Int) = cv l[i] := by
  simp [rd_T64, ownL, List.getD_eq_getElem?_getD, List.getElem?_map, List.getElem?_eq_getElem h]
theorem rd70n (l : List S70) (i : Nat) (h : i < l.length) : rd_T70 l (i : Int) = l[i] := by
  simp [rd_T70, List.getD_eq_getElem?_getD, List.getElem?_eq_getElem h]
theorem ownL_snoc (l : List S70) (c : S70) : ownL l ++ [cv c] = ownL (l ++ [c]) := by simp [ownL]
theorem own_set (l : List S70) (i : Nat) (c : S70) : (ownL l).set i (cv c) = ownL (l.set i c) := by
  simp [ownL, List.map_set]
theorem own_l (l : List S70) (hl : l.length ≤ 1000) (d : Nat) : ∀ (k i : Nat), i + d = l.length → d < k →
    congoulaw03_own.l0 k (ownL (l.take i)) l (l.length : Int) (i : Int) = some (ownL l) := by
  induction d with
  | zero =>
    intro k i hi hk
    obtain ⟨k, rfl⟩ : ∃ m, k = m + 1 := ⟨k - 1, by omega⟩
    simp only [congoulaw03_own.l0]
    rw [if_neg (by omega), List.take_of_length_le (by omega)]
  | succ d ih =>
    intro k i hi hk
    obtain ⟨k, rfl⟩ : ∃ m, k = m + 1 := ⟨k - 1, by omega⟩
    have hlt : i < l.length := by omega
    simp only [congoulaw03_own.l0]
    rw [if_pos (by omega), if_pos (by omega), if_pos (by omega), if_pos (by rw [ownL_len, List.length_take]; omega), rd70n l i hlt, w64 (by omega) (by omega), show (i : Int) + 1 = ((i + 1 : Nat) : Int) by omega]
    have := ih k (i + 1) (by omega) (by omega)
    rw [List.take_succ_eq_append_getElem hlt, ← ownL_snoc] at this
    exact this
theorem own_f (l : List S70) (hl : l.length ≤ 1000) (k : Nat) (hk : l.length < k) : congoulaw03_own.f k l = some (ownL l) := own_l l hl l.length k 0 (by omega) hk
theorem eq64_l (a : List S64) (hl : a.length ≤ 1000) (d : Nat) : ∀ (k i : Nat), i + d = a.length → d < k → congouref03_Count.l0 k a a (a.length : Int) (i : Int) = some true := by
  induction d with
  | zero =>
    intro k i hi hk
    obtain ⟨k, rfl⟩ : ∃ m, k = m + 1 := ⟨k - 1, by omega⟩
    simp only [congouref03_Count.l0]
    rw [if_neg (by omega)]
  | succ d ih =>
    intro k i hi hk
    obtain ⟨k, rfl⟩ : ∃ m, k = m + 1 := ⟨k - 1, by omega⟩
    simp only [congouref03_Count.l0]
    rw [if_pos (by omega), if_pos (by omega), if_pos (by omega), if_pos (by omega), if_neg (by simp), w64 (by omega) (by omega), show (i : Int) + 1 = ((i + 1 : Nat) : Int) by omega]
    exact ih k (i + 1) (by omega) (by omega)
theorem eq64_f (a : List S64) (hl : a.length ≤ 1000) (k : Nat) (hk : a.length < k) : congouref03_Count.f k a a = some true := by
  unfold congouref03_Count.f
  rw [if_pos rfl]
  exact eq64_l a hl a.length k 0 (by omega) hk
theorem find_l (l : List S70) (x : Int) (hl : l.length ≤ 1000) (d : Nat) : ∀ (k i : Nat), i + d = l.length → d < k → (∀ j (hj : j < l.length), j < i → is x l[j] = false) →
    congouref03_find.l0 k x (ownL l) (l.length : Int) (i : Int) = some (idxP (is x) l) := by
  induction d with
  | zero =>
    intro k i hi hk hn
    obtain ⟨k, rfl⟩ : ∃ m, k = m + 1 := ⟨k - 1, by omega⟩
    simp only [congouref03_find.l0]
    rw [if_neg (by omega), idxP_none (fun j hj => hn j hj (by omega))]
  | succ d ih =>
    intro k i hi hk hn
    obtain ⟨k, rfl⟩ : ∃ m, k = m + 1 := ⟨k - 1, by omega⟩
    have hlt : i < l.length := by omega
    simp only [congouref03_find.l0]
    rw [if_pos (by omega), if_pos (by omega), if_pos (by rw [ownL_len]; omega), rd_own l i hlt]
    show (if l[i].f0 = x then some (i : Int) else _) = _
    by_cases h : l[i].f0 = x
    · rw [if_pos h, idxP_some hlt ((is_iff _ _).mpr h) (fun j hj => hn j (by omega) hj)]
    · rw [if_neg h, w64 (by omega) (by omega), show (i : Int) + 1 = ((i + 1 : Nat) : Int) by omega]
      refine ih k (i + 1) (by omega) (by omega) (fun j hj hji => ?_)
      by_cases e : j = i
      · subst e
        cases hc : is x l[j] with
        | false => rfl
        | true => exact absurd ((is_iff _ _).mp hc) h
      · exact hn j hj (by omega)
theorem find_f (l : List S70) (x : Int) (hl : l.length ≤ 1000) (k : Nat) (hk : l.length < k) : congouref03_find.f k (ownL l) x = some (idxP (is x) l) := by
  unfold congouref03_find.f
  rw [ownL_len]
  exact find_l l x hl l.length k 0 (by omega) hk (fun j _ h => absurd h (Nat.not_lt_zero _))
def risenTo (l : List S70) (m : Nat) : List S70 := (List.range m).filterMap fun y : Nat => gt? l (y : Int)
theorem risenTo_succ (l : List S70) (m : Nat) : risenTo l (m + 1) = risenTo l m ++ (match gt? l (m : Int) with | some c => [c] | none => []) := by
  unfold risenTo
  rw [List.range_succ, List.filterMap_append]
  congr 1
  simp only [List.filterMap_cons, List.filterMap_nil]
  cases gt? l (m : Int) <;> rfl
theorem risenTo_len (l : List S70) (m : Nat) : (risenTo l m).length ≤ m := by
  unfold risenTo
  have := List.length_filterMap_le (fun y : Nat => gt? l (y : Int)) (List.range m)
  simpa using this
theorem rising_l (l : List S70) (hn : (keys l).Nodup) (hl : l.length ≤ 1000) (d : Nat) : ∀ (k y : Nat), y + d = 16 → d + l.length + 2 < k →
    congouref03_rising.l0 k (ownL l) (ownL (risenTo l y)) (y : Int) = some (ownL (risen l)) := by
  induction d with
  | zero =>
    intro k y hy hk
    obtain ⟨k, rfl⟩ : ∃ m, k = m + 1 := ⟨k - 1, by omega⟩
    obtain rfl : y = 16 := by omega
    simp only [congouref03_rising.l0]
    rw [if_neg (by omega)]
    rfl
  | succ d ih =>
    intro k y hy hk
    obtain ⟨k, rfl⟩ : ∃ m, k = m + 1 := ⟨k - 1, by omega⟩
    have hnx := ih k (y + 1) (by omega) (by omega)
    have hlen := risenTo_len l y
    rw [risenTo_succ] at hnx
    simp only [congouref03_rising.l0]
    rw [if_pos (by omega), find_f l _ hl k (by omega), w64 (by omega) (by omega), show (y : Int) + 1 = ((y + 1 : Nat) : Int) by omega]
    simp only [Option.bind_some]
    by_cases hx : hasK (y : Int) l = true
    · obtain ⟨i, hi, hidx, hf, _⟩ := idx_has hn hx
      have hg := get_of_mem hn (List.getElem_mem hi)
      rw [hf] at hg
      rw [hg] at hnx
      simp only at hnx
      rw [hidx, if_pos (by omega), if_pos (by omega), if_pos (by rw [ownL_len]; omega), if_pos (by rw [ownL_len]; omega), rd_own l i hi]
      rw [← ownL_snoc] at hnx
      exact hnx
    · have hg : gt? l (y : Int) = none := by
        cases hq : gt? l (y : Int) with
        | none => rfl
        | some c => have := get_isSome (y : Int) l; rw [hq] at this; exact absurd this.symm hx
      rw [hg] at hnx
      simp only [List.append_nil] at hnx
      rw [idx_hasnot hx, if_neg (by omega)]
      exact hnx
theorem rising_f (l : List S70) (hn : (keys l).Nodup) (hl : l.length ≤ 1000) (k : Nat) (hk : l.length + 18 < k) : congouref03_rising.f k (ownL l) = some (ownL (risen l)) := rising_l l hn hl 16 k 0 (by omega) (by omega)
theorem lessen_snoc (l : List S70) (c : S70) : lessen (l ++ [c]) = lessen l ++ if c.f1 - 1 = 0 then [] else [dec1 c] := by
  unfold lessen
  rw [List.map_append, List.filter_append]
  congr 1
  have : nz (dec1 c) = !decide (c.f1 - 1 = 0) := rfl
  simp only [List.map_cons, List.map_nil, List.filter_cons, List.filter_nil, this]
  by_cases h : c.f1 - 1 = 0 <;> simp [h]
theorem RShort_l1 (a : Int) (s : List Int) (j : Nat) (l : List S70) (hl : l.length ≤ 1000) (hsm : ∀ c ∈ l, 1 ≤ c.f1 ∧ c.f1 ≤ 1000) (d : Nat) : ∀ (k i : Nat), i + d = l.length → d < k →
    congouref03_Short.l1 k a (ownL (lessen (l.take i))) s (s.length : Int) (j : Int) (ownL l) (l.length : Int) (i : Int) = congouref03_Short.l0 (k - d - 1) a (ownL (lessen l)) s (s.length : Int) (wrap64 ((j : Int) + 1)) := by
  induction d with
  | zero =>
    intro k i hi hk
    obtain ⟨k, rfl⟩ : ∃ m, k = m + 1 := ⟨k - 1, by omega⟩
    simp only [congouref03_Short.l1]
    rw [if_neg (by omega), List.take_of_length_le (by omega)]
    rfl
  | succ d ih =>
    intro k i hi hk
    obtain ⟨k, rfl⟩ : ∃ m, k = m + 1 := ⟨k - 1, by omega⟩
    have hlt : i < l.length := by omega
    have hnx := ih k (i + 1) (by omega) (by omega)
    rw [List.take_succ_eq_append_getElem hlt, lessen_snoc] at hnx
    have hb := hsm l[i] (List.getElem_mem hlt)
    have hle := len_lessen (l.take i)
    rw [List.length_take] at hle
    simp only [congouref03_Short.l1]
    rw [if_pos (by omega), if_pos (by omega), if_pos (by rw [ownL_len]; omega), rd_own l i hlt, w64 (i := (i : Int) + 1) (by omega) (by omega), show (i : Int) + 1 = ((i + 1 : Nat) : Int) by omega]
    have e : (cv l[i]).f1 = l[i].f1 := rfl
    rw [e, w64 (i := l[i].f1 - 1) (by omega) (by omega), show k + 1 - (d + 1) - 1 = k - d - 1 by omega]
    by_cases hc : l[i].f1 - 1 = 0
    · rw [if_neg (by omega)]
      rw [if_pos hc, List.append_nil] at hnx
      exact hnx
    · rw [if_pos (by omega), if_pos (by rw [ownL_len]; omega)]
      rw [if_neg hc, ← ownL_snoc] at hnx
      exact hnx
theorem RShort_l0 (a : Int) (s : List Int) (ha : 1 ≤ a ∧ a ≤ 8) (hs : s.length ≤ 40) (hx : ∀ x ∈ s, 0 ≤ x ∧ x < 16) (d : Nat) : ∀ (k j : Nat), j + d = s.length → d * 20 + 100 < k →
    congouref03_Short.l0 k a (ownL (foldS a (s.take j))) s (s.length : Int) (j : Int) = some (ownL (risen (foldS a s))) := by
  induction d with
  | zero =>
    intro k j hj hk
    obtain ⟨k, rfl⟩ : ∃ m, k = m + 1 := ⟨k - 1, by omega⟩
    have hI := short_rinv ha.1 hs hx s.length
    rw [List.take_length, foldS_G] at hI
    have := hI.len
    simp only [congouref03_Short.l0]
    rw [if_neg (by omega), List.take_of_length_le (by omega), rising_f _ hI.nd (by omega) k (by omega)]
    rfl
  | succ d ih =>
    intro k j hj hk
    obtain ⟨k, rfl⟩ : ∃ m, k = m + 1 := ⟨k - 1, by omega⟩
    have hlt : j < s.length := by omega
    have hI := short_rinv ha.1 hs hx j
    rw [foldS_G] at hI
    have hlen := hI.len
    have hts : foldS a (s.take (j + 1)) = stepS a (foldS a (s.take j)) s[j] := by
      rw [List.take_succ_eq_append_getElem hlt, foldS_snoc]
    have hnx := fun k' hk' => ih k' (j + 1) (by omega) hk'
    rw [hts] at hnx
    simp only [congouref03_Short.l0]
    rw [if_pos (by omega), if_pos (by omega), if_pos (by omega), rd_nat s j hlt]
    generalize s[j] = x at *
    generalize foldS a (s.take j) = l at *
    rw [find_f l x (by omega) k (by omega)]
    simp only [Option.bind_some]
    by_cases hk0 : hasK x l = true
    · obtain ⟨i, hi, hidx, hf, hset⟩ := idx_has hI.nd hk0
      have hb := hI.sm l[i] (List.getElem_mem hi)
      have hstep : stepS a l x = upd x l := by unfold stepS; rw [if_pos hk0]
      rw [hstep] at hnx
      rw [hidx, if_pos (by omega), if_pos (by omega), if_pos (by rw [ownL_len]; omega), rd_own l i hi, Int.toNat_natCast]
      have e1 : (cv l[i]).f0 = l[i].f0 := rfl
      have e2 : (cv l[i]).f1 = l[i].f1 := rfl
      have e3 : (cv l[i]).f2 = l[i].f2 := rfl
      rw [e1, e2, e3, w64 (i := l[i].f1 + 1) (by omega) (by omega), w64 (i := (j : Int) + 1) (by omega) (by omega), show (j : Int) + 1 = ((j + 1 : Nat) : Int) by omega]
      have hs2 := own_set l i ⟨l[i].f0, l[i].f1 + 1, l[i].f2⟩
      rw [hset] at hs2
      show congouref03_Short.l0 k a ((ownL l).set i (cv ⟨l[i].f0, l[i].f1 + 1, l[i].f2⟩)) s _ _ = _
      rw [hs2]
      exact hnx k (by omega)
    · rw [idx_hasnot hk0, if_neg (by omega), ownL_len]
      by_cases hlk : (l.length : Int) < a
      · have hstep : stepS a l x = l ++ [⟨x, 1, 0⟩] := by unfold stepS; rw [if_neg hk0, if_pos hlk]
        rw [hstep, ← ownL_snoc] at hnx
        rw [if_pos hlk, if_pos (by omega), w64 (i := (j : Int) + 1) (by omega) (by omega), show (j : Int) + 1 = ((j + 1 : Nat) : Int) by omega]
        exact hnx k (by omega)
      · have hstep : stepS a l x = lessen l := by unfold stepS; rw [if_neg hk0, if_neg hlk]
        rw [hstep] at hnx
        rw [if_neg hlk]
        have := RShort_l1 a s j l (by omega) hI.sm l.length k 0 (by omega) (by omega)
        refine Eq.trans this ?_
        rw [w64 (i := (j : Int) + 1) (by omega) (by omega), show (j : Int) + 1 = ((j + 1 : Nat) : Int) by omega]
        exact hnx _ (by omega)
theorem RShort_f (a : Int) (s : List Int) (ha : 1 ≤ a ∧ a ≤ 8) (hs : s.length ≤ 40) (hx : ∀ x ∈ s, 0 ≤ x ∧ x < 16) (k : Nat) (hk : 1000 < k) : congouref03_Short.f k a s = some (ownL (risen (foldS a s))) :=
  RShort_l0 a s ha hs hx s.length k 0 (by omega) (by omega)
/-! Full -/
theorem set_least {l : List S70} (hn : (keys l).Nodup) {j : Nat} (hj : j < l.length) (n : S70) : l.set j n = l.map fun d => if d.f0 = l[j].f0 then n else d := by
  have hp := List.pairwise_iff_getElem.mp hn
  apply List.ext_getElem
  · simp
  · intro i h3 h4
    have hi : i < l.length := by simpa using h3
    rw [List.getElem_set, List.getElem_map]
    by_cases hij : j = i
    · subst hij
      rw [if_pos rfl, if_pos rfl]
    · rw [if_neg hij, if_neg]
      intro e
      rcases Nat.lt_trichotomy i j with q | q | q
      · have := hp i j (by simpa [keys] using hi) (by simpa [keys] using hj) q
        simp [keys] at this
        omega
      · exact hij q.symm
      · have := hp j i (by simpa [keys] using hj) (by simpa [keys] using hi) q
        simp [keys] at this
        omega
theorem leastOf_snoc (l : List S70) (c : S70) (h : l ≠ []) : leastOf (l ++ [c]) = lesser (leastOf l) c := by
  cases l with
  | nil => exact absurd rfl h
  | cons a r => simp [leastOf, List.foldl_append]
theorem lexlt_self (c : S70) : lexlt c c = false := by simp [lexlt]
theorem RFull_l1 (a : Int) (s : List Int) (x : Int) (j : Nat) (l : List S70) (hl : l.length ≤ 1000) (hn : (keys l).Nodup) (hsm : ∀ c ∈ l, 1 ≤ c.f1 ∧ c.f1 ≤ 1000) (d : Nat) : ∀ (k i q : Nat) (hq : q < l.length), i + d = l.length → d < k → (if i = 0 then q = 0 else l[q] = leastOf (l.take i)) →
    congouref03_Full.l1 k a (ownL l) x (q : Int) s (s.length : Int) (j : Int) (ownL l) (l.length : Int) (i : Int) = congouref03_Full.l0 (k - d - 1) a (ownL (repl x l)) s (s.length : Int) (wrap64 ((j : Int) + 1)) := by
  induction d with
  | zero =>
    intro k i q hq hi hk hm
    obtain ⟨k, rfl⟩ : ∃ m, k = m + 1 := ⟨k - 1, by omega⟩
    rw [if_neg (by omega), List.take_of_length_le (by omega)] at hm
    have hb := hsm l[q] (List.getElem_mem hq)
    simp only [congouref03_Full.l1]
    rw [if_neg (by omega), if_pos (by omega), if_pos (by rw [ownL_len]; omega), rd_own l q hq, Int.toNat_natCast]
    have e2 : (cv l[q]).f1 = l[q].f1 := rfl
    rw [e2, w64 (i := l[q].f1 + 1) (by omega) (by omega)]
    have hset := set_least hn hq ⟨x, l[q].f1 + 1, l[q].f1⟩
    have hrep : repl x l = l.set q ⟨x, l[q].f1 + 1, l[q].f1⟩ := by
      rw [hset]
      unfold repl
      rw [← hm]
    rw [hrep, ← own_set]
    rfl
  | succ d ih =>
    intro k i q hq hi hk hm
    obtain ⟨k, rfl⟩ : ∃ m, k = m + 1 := ⟨k - 1, by omega⟩
    have hlt : i < l.length := by omega
    have hts : l.take (i + 1) = l.take i ++ [l[i]] := by rw [List.take_succ_eq_append_getElem hlt]
    have key : ∃ b : Bool, b = lexlt l[i] l[q] ∧ (l[if b = true then i else q]'(by split <;> omega)) = leastOf (l.take (i + 1)) := by
      refine ⟨_, rfl, ?_⟩
      by_cases h0 : i = 0
      · subst h0
        rw [if_pos rfl] at hm
        subst hm
        rw [hts, lexlt_self]
        rfl
      · rw [if_neg h0] at hm
        rw [hts, leastOf_snoc _ _ (by intro e; have := congrArg List.length e; rw [List.length_take, List.length_nil] at this; omega), ← hm]
        unfold lesser
        cases hc : lexlt l[i] l[q] with
        | true => rfl
        | false => rfl
    obtain ⟨b, hb, hkey⟩ := key
    simp only [congouref03_Full.l1]
    rw [if_pos (by omega), if_pos (by omega), if_pos (by rw [ownL_len]; omega), if_pos (by omega), if_pos (by rw [ownL_len]; omega), rd_own l i hlt, rd_own l q hq, w64 (i := (i : Int) + 1) (by omega) (by omega), show (i : Int) + 1 = ((i + 1 : Nat) : Int) by omega, show k + 1 - (d + 1) - 1 = k - d - 1 by omega]
    show (if l[i].f1 < l[q].f1 then _ else if l[i].f1 = l[q].f1 then if l[i].f0 < l[q].f0 then _ else _ else _) = _
    cases b with
    | true =>
      have hlx : l[i].f1 < l[q].f1 ∨ (l[i].f1 = l[q].f1 ∧ l[i].f0 < l[q].f0) := by
        have := hb.symm; unfold lexlt at this; exact of_decide_eq_true this
      have hnx := ih k (i + 1) i hlt (by omega) (by omega) (by rw [if_neg (by omega)]; exact hkey)
      by_cases h1 : l[i].f1 < l[q].f1
      · rw [if_pos h1]; exact hnx
      · rw [if_neg h1, if_pos (by omega), if_pos (by omega)]; exact hnx
    | false =>
      have hlx : ¬ (l[i].f1 < l[q].f1 ∨ (l[i].f1 = l[q].f1 ∧ l[i].f0 < l[q].f0)) := by
        have := hb.symm; unfold lexlt at this; exact of_decide_eq_false this
      have hnx := ih k (i + 1) q hq (by omega) (by omega) (by rw [if_neg (by omega)]; exact hkey)
      rw [if_neg (by omega)]
      by_cases h2 : l[i].f1 = l[q].f1
      · rw [if_pos h2, if_neg (by omega)]; exact hnx
      · rw [if_neg h2]; exact hnx
theorem RFull_l0 (a : Int) (s : List Int) (ha : 1 ≤ a ∧ a ≤ 8) (hs : s.length ≤ 40) (hx : ∀ x ∈ s, 0 ≤ x ∧ x < 16) (d : Nat) : ∀ (k j : Nat), j + d = s.length → d * 20 + 100 < k →
    congouref03_Full.l0 k a (ownL (foldF a (s.take j))) s (s.length : Int) (j : Int) = some (ownL (risen (foldF a s))) := by
  induction d with
  | zero =>
    intro k j hj hk
    obtain ⟨k, rfl⟩ : ∃ m, k = m + 1 := ⟨k - 1, by omega⟩
    have hI := full_rinv ha.1 hs hx s.length
    rw [List.take_length, foldF_G] at hI
    have := hI.len
    simp only [congouref03_Full.l0]
    rw [if_neg (by omega), List.take_of_length_le (by omega), rising_f _ hI.nd (by omega) k (by omega)]
    rfl
  | succ d ih =>
    intro k j hj hk
    obtain ⟨k, rfl⟩ : ∃ m, k = m + 1 := ⟨k - 1, by omega⟩
    have hlt : j < s.length := by omega
    have hI := full_rinv ha.1 hs hx j
    rw [foldF_G] at hI
    have hlen := hI.len
    have hts : foldF a (s.take (j + 1)) = stepF a (foldF a (s.take j)) s[j] := by
      rw [List.take_succ_eq_append_getElem hlt, foldF_snoc]
    have hnx := fun k' hk' => ih k' (j + 1) (by omega) hk'
    rw [hts] at hnx
    simp only [congouref03_Full.l0]
    rw [if_pos (by omega), if_pos (by omega), if_pos (by omega), rd_nat s j hlt]
    generalize s[j] = x at *
    generalize foldF a (s.take j) = l at *
    rw [find_f l x (by omega) k (by omega)]
    simp only [Option.bind_some]
    by_cases hk0 : hasK x l = true
    · obtain ⟨i, hi, hidx, hf, hset⟩ := idx_has hI.nd hk0
      have hb := hI.sm l[i] (List.getElem_mem hi)
      have hstep : stepF a l x = upd x l := by unfold stepF; rw [if_pos hk0]
      rw [hstep] at hnx
      rw [hidx, if_pos (by omega), if_pos (by omega), if_pos (by rw [ownL_len]; omega), rd_own l i hi, Int.toNat_natCast]
      have e1 : (cv l[i]).f0 = l[i].f0 := rfl
      have e2 : (cv l[i]).f1 = l[i].f1 := rfl
      have e3 : (cv l[i]).f2 = l[i].f2 := rfl
      rw [e1, e2, e3, w64 (i := l[i].f1 + 1) (by omega) (by omega), w64 (i := (j : Int) + 1) (by omega) (by omega), show (j : Int) + 1 = ((j + 1 : Nat) : Int) by omega]
      have hs2 := own_set l i ⟨l[i].f0, l[i].f1 + 1, l[i].f2⟩
      rw [hset] at hs2
      show congouref03_Full.l0 k a ((ownL l).set i (cv ⟨l[i].f0, l[i].f1 + 1, l[i].f2⟩)) s _ _ = _
      rw [hs2]
      exact hnx k (by omega)
    · rw [idx_hasnot hk0, if_neg (by omega), ownL_len]
      by_cases hlk : (l.length : Int) < a
      · have hstep : stepF a l x = l ++ [⟨x, 1, 0⟩] := by unfold stepF; rw [if_neg hk0, if_pos hlk]
        rw [hstep, ← ownL_snoc] at hnx
        rw [if_pos hlk, if_pos (by omega), w64 (i := (j : Int) + 1) (by omega) (by omega), show (j : Int) + 1 = ((j + 1 : Nat) : Int) by omega]
        exact hnx k (by omega)
      · have hstep : stepF a l x = repl x l := by unfold stepF; rw [if_neg hk0, if_neg hlk]
        rw [hstep] at hnx
        rw [if_neg hlk]
        have := RFull_l1 a s x j l (by omega) hI.nd hI.sm l.length k 0 0 (by omega) (by omega) (by omega) (by simp)
        refine Eq.trans this ?_
        rw [w64 (i := (j : Int) + 1) (by omega) (by omega), show (j : Int) + 1 = ((j + 1 : Nat) : Int) by omega]
        exact hnx _ (by omega)
theorem RFull_f (a : Int) (s : List Int) (ha : 1 ≤ a ∧ a ≤ 8) (hs : s.length ≤ 40) (hx : ∀ x ∈ s, 0 ≤ x ∧ x < 16) (k : Nat) (hk : 1000 < k) : congouref03_Full.f k a s = some (ownL (risen (foldF a s))) :=
  RFull_l0 a s ha hs hx s.length k 0 (by omega) (by omega)
end Go.Proofs.Ytdffhffhnjkcpaa.X
