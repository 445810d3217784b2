/- Lists of counters: what a key's number is, one key more, all less by one, the order of the keys. -/
import Derived.Test.YtdffhffhnjkcpaaX0
namespace Go.Proofs.Ytdffhffhnjkcpaa.X
open Go.RowKit
set_option linter.unusedVariables false
set_option linter.unusedSimpArgs false

abbrev keys (l : List S70) : List Int := l.map (·.f0)
def is (y : Int) (c : S70) : Bool := c.f0 == y
def one (x : Int) (c : S70) : S70 := if c.f0 = x then ⟨c.f0, c.f1 + 1, c.f2⟩ else c
def upd (x : Int) (l : List S70) : List S70 := l.map (one x)
def hasK (x : Int) (l : List S70) : Bool := l.any (is x)
def dec1 (c : S70) : S70 := ⟨c.f0, c.f1 - 1, c.f2⟩
def nz (c : S70) : Bool := !(c.f1 == 0)
def lessen (l : List S70) : List S70 := (l.map dec1).filter nz
def stepS (k : Int) (l : List S70) (x : Int) : List S70 := if hasK x l = true then upd x l else if (l.length : Int) < k then l ++ [⟨x, 1, 0⟩] else lessen l
def foldS (k : Int) (s : List Int) : List S70 := s.foldl (stepS k) []
def gt? (l : List S70) (y : Int) : Option S70 := l.find? (is y)
def val (l : List S70) (y : Int) : Int := ((gt? l y).map (·.f1)).getD 0
def tot (l : List S70) : Int := (l.map (·.f1)).sum
def cntI (p : List Int) (y : Int) : Int := (p.countP (fun x => x == y) : Nat)
def risen (l : List S70) : List S70 := (List.range 16).filterMap fun y : Nat => gt? l (y : Int)

theorem is_iff (y : Int) (c : S70) : is y c = true ↔ c.f0 = y := by simp [is]
theorem get_some {l : List S70} {y : Int} {c : S70} (h : gt? l y = some c) : c ∈ l ∧ c.f0 = y :=
  ⟨List.mem_of_find?_eq_some h, (is_iff y c).mp (List.find?_some h)⟩
theorem get_none {l : List S70} {y : Int} (h : gt? l y = none) : y ∉ keys l := by
  intro hm
  obtain ⟨c, hc, e⟩ := List.mem_map.mp hm
  exact (List.find?_eq_none.mp h c hc) ((is_iff y c).mpr e)
theorem get_of_mem {l : List S70} (hn : (keys l).Nodup) {c : S70} (hc : c ∈ l) : gt? l c.f0 = some c := by
  induction l with
  | nil => cases hc
  | cons a l ih =>
    rw [keys, List.map_cons, List.nodup_cons] at hn
    unfold gt? at *
    rw [List.find?_cons]
    rcases List.mem_cons.mp hc with rfl | hc
    · have : is c.f0 c = true := (is_iff _ _).mpr rfl
      rw [this]
    · have : is c.f0 a = false := by
        cases h : is c.f0 a with
        | false => rfl
        | true =>
          have e := (is_iff _ _).mp h
          exact absurd (by rw [e]; exact List.mem_map_of_mem hc) hn.1
      rw [this]
      exact ih hn.2 hc
theorem hasK_iff (x : Int) (l : List S70) : hasK x l = true ↔ x ∈ keys l := by
  simp [hasK, is]
theorem get_isSome (x : Int) (l : List S70) : (gt? l x).isSome = hasK x l := by
  unfold gt? hasK
  rw [Bool.eq_iff_iff, List.find?_isSome]
  simp
theorem val_none {l : List S70} {y : Int} (h : ¬ hasK y l = true) : val l y = 0 := by
  have := get_isSome y l
  have e : gt? l y = none := by
    cases hg : gt? l y with
    | none => rfl
    | some c => rw [hg] at this; exact absurd this.symm h
  simp [val, e]
theorem one_key (x : Int) (c : S70) : (one x c).f0 = c.f0 := by unfold one; split <;> rfl
theorem keys_upd (x : Int) (l : List S70) : keys (upd x l) = keys l := by
  simp [keys, upd, one_key, Function.comp_def]
theorem get_upd (x y : Int) (l : List S70) : gt? (upd x l) y = (gt? l y).map (one x) := by
  unfold gt? upd
  rw [List.find?_map]
  have : is y ∘ one x = is y := by funext c; simp [is, one_key]
  rw [this]
theorem val_upd {x : Int} {l : List S70} (h : hasK x l = true) (y : Int) : val (upd x l) y = val l y + if x = y then 1 else 0 := by
  unfold val
  rw [get_upd]
  cases hg : gt? l y with
  | none =>
    have hy := get_none hg
    rw [if_neg (by rintro rfl; exact hy ((hasK_iff _ _).mp h))]
    rfl
  | some c =>
    have hc := (get_some hg).2
    simp only [Option.map_some, Option.getD_some, one, hc]
    by_cases e : x = y
    · subst e; simp
    · rw [if_neg (fun q => e q.symm), if_neg e]; omega
theorem val_snoc {x : Int} {l : List S70} (h : ¬ hasK x l = true) (y : Int) : val (l ++ [⟨x, 1, 0⟩]) y = val l y + if x = y then 1 else 0 := by
  by_cases e : x = y
  · subst e
    rw [val_none h]
    have hn : gt? l x = none := by
      cases hg : gt? l x with
      | none => rfl
      | some c => have := get_isSome x l; rw [hg] at this; exact absurd this.symm h
    unfold gt? at hn
    simp [val, gt?, List.find?_append, hn, is]
  · rw [if_neg e]
    have : is y ⟨x, 1, 0⟩ = false := by simp [is, e]
    simp [val, gt?, List.find?_append, this]
theorem tot_cons (c : S70) (l : List S70) : tot (c :: l) = c.f1 + tot l := by simp [tot]
theorem tot_append (a b : List S70) : tot (a ++ b) = tot a + tot b := by simp [tot, List.sum_append]
theorem upd_none {x : Int} {l : List S70} (h : x ∉ keys l) : upd x l = l := by
  unfold upd
  rw [List.map_congr_left (g := id), List.map_id]
  intro c hc
  unfold one
  rw [if_neg]
  · rfl
  · intro e
    exact h (List.mem_map.mpr ⟨c, hc, e⟩)
theorem tot_upd {x : Int} : ∀ {l : List S70}, (keys l).Nodup → hasK x l = true → tot (upd x l) = tot l + 1
  | [], _, h => by simp [hasK] at h
  | c :: l, hn, h => by
    rw [keys, List.map_cons, List.nodup_cons] at hn
    have e : upd x (c :: l) = one x c :: upd x l := rfl
    rw [e, tot_cons, tot_cons]
    by_cases hc : c.f0 = x
    · subst hc
      rw [upd_none hn.1]
      simp [one]
      omega
    · have h2 : hasK x l = true := by
        rw [hasK_iff] at h ⊢
        rcases List.mem_cons.mp h with h | h
        · exact absurd h.symm hc
        · exact h
      rw [tot_upd hn.2 h2]
      simp [one, hc]
      omega
theorem lessen_cons (c : S70) (l : List S70) : lessen (c :: l) = if c.f1 - 1 = 0 then lessen l else dec1 c :: lessen l := by
  unfold lessen
  rw [List.map_cons, List.filter_cons]
  have : nz (dec1 c) = !decide (c.f1 - 1 = 0) := rfl
  rw [this]
  by_cases h : c.f1 - 1 = 0 <;> simp [h]
theorem keys_lessen : ∀ l : List S70, (keys (lessen l)).Sublist (keys l)
  | [] => List.Sublist.refl _
  | c :: l => by
    rw [lessen_cons]
    split
    · exact (keys_lessen l).cons _
    · exact (keys_lessen l).cons_cons _
theorem mem_lessen {l : List S70} {c : S70} (h : c ∈ lessen l) : ∃ d ∈ l, c = dec1 d ∧ c.f1 ≠ 0 := by
  unfold lessen at h
  obtain ⟨h1, h2⟩ := List.mem_filter.mp h
  obtain ⟨d, hd, rfl⟩ := List.mem_map.mp h1
  exact ⟨d, hd, rfl, by simpa [nz] using h2⟩
theorem tot_lessen : ∀ l : List S70, tot (lessen l) = tot l - l.length
  | [] => rfl
  | c :: l => by
    rw [lessen_cons, tot_cons]
    have := tot_lessen l
    split
    · rw [this]; simp; omega
    · rw [tot_cons, this]; simp [dec1]; omega
theorem len_lessen (l : List S70) : (lessen l).length ≤ l.length := by
  unfold lessen
  have := List.length_filter_le nz (l.map dec1)
  simpa using this
theorem val_lessen {y : Int} : ∀ {l : List S70}, (keys l).Nodup → (∀ c ∈ l, 1 ≤ c.f1) → val (lessen l) y = if hasK y l = true then val l y - 1 else 0
  | [], _, _ => by simp [lessen, val, gt?, hasK]
  | c :: l, hn, hp => by
    rw [keys, List.map_cons, List.nodup_cons] at hn
    have ih := val_lessen (y := y) hn.2 (fun d hd => hp d (List.mem_cons_of_mem _ hd))
    rw [lessen_cons]
    by_cases hc : c.f0 = y
    · subst hc
      have hnot : ¬ hasK c.f0 l = true := fun h => hn.1 ((hasK_iff _ _).mp h)
      rw [if_neg hnot] at ih
      have h1 : hasK c.f0 (c :: l) = true := (hasK_iff _ _).mpr (by simp [keys])
      rw [if_pos h1]
      have h2 : val (c :: l) c.f0 = c.f1 := by simp [val, gt?, is]
      rw [h2]
      split
      · rw [ih]; omega
      · simp [val, gt?, is, dec1]
    · have h1 : hasK y (c :: l) = hasK y l := by simp [hasK, is, hc]
      have h2 : val (c :: l) y = val l y := by simp [val, gt?, is, hc]
      rw [h1, h2, ← ih]
      split
      · rfl
      · simp [val, gt?, is, dec1, hc]
theorem cnt_snocI (p : List Int) (x y : Int) : cntI (p ++ [x]) y = cntI p y + if x = y then 1 else 0 := by
  unfold cntI
  rw [List.countP_append]
  by_cases h : x = y <;> simp [List.countP_cons, h]
theorem cnt_nonneg (p : List Int) (y : Int) : 0 ≤ cntI p y := by unfold cntI; omega
theorem cnt_leI (p : List Int) (y : Int) : cntI p y ≤ p.length := by
  have := List.countP_le_length (p := fun x => x == y) (l := p)
  unfold cntI
  omega
theorem tot_nonneg {l : List S70} (h : ∀ c ∈ l, 0 ≤ c.f1) : 0 ≤ tot l := by
  induction l with
  | nil => simp [tot]
  | cons c l ih =>
    rw [tot_cons]
    have := h c (by simp)
    have := ih (fun d hd => h d (List.mem_cons_of_mem _ hd))
    omega
theorem mem_le_tot {l : List S70} (h : ∀ c ∈ l, 0 ≤ c.f1) {c : S70} (hc : c ∈ l) : c.f1 ≤ tot l := by
  induction l with
  | nil => cases hc
  | cons d l ih =>
    rw [tot_cons]
    have h0 := tot_nonneg (l := l) (fun d hd => h d (List.mem_cons_of_mem _ hd))
    have hd := h d (by simp)
    rcases List.mem_cons.mp hc with rfl | hc
    · omega
    · have := ih (fun d hd => h d (List.mem_cons_of_mem _ hd)) hc
      omega

/-- The short list behind a part of the stream; D: how often all were made less. -/
structure InvS (k : Int) (p : List Int) (l : List S70) (D : Int) : Prop where
  nd : (keys l).Nodup
  pos : ∀ c ∈ l, 1 ≤ c.f1 ∧ c.f2 = 0 ∧ c.f0 ∈ p
  len : (l.length : Int) ≤ k
  d0 : 0 ≤ D
  lo : ∀ y, val l y ≤ cntI p y
  hi : ∀ y, cntI p y ≤ val l y + D
  tot : tot l + D * (k + 1) = p.length
theorem InvS.start {k : Int} (hk : 1 ≤ k) : InvS k [] [] 0 :=
  ⟨by simp [keys], by simp, by simp; omega, by omega, by simp [val, gt?, cntI], by simp [val, gt?, cntI], by simp [X.tot]⟩
theorem InvS.step {k : Int} {p : List Int} {l : List S70} {D : Int} (h : InvS k p l D) (x : Int) : ∃ D', InvS k (p ++ [x]) (stepS k l x) D' := by
  unfold stepS
  by_cases hx : hasK x l = true
  · rw [if_pos hx]
    refine ⟨D, ?_, ?_, ?_, h.d0, ?_, ?_, ?_⟩
    · rw [keys_upd]; exact h.nd
    · intro c hc
      obtain ⟨d, hd, rfl⟩ := List.mem_map.mp hc
      have := h.pos d hd
      unfold one
      split
      · exact ⟨by simp; omega, this.2.1, by simp [this.2.2]⟩
      · exact ⟨this.1, this.2.1, by simp [this.2.2]⟩
    · simpa [upd] using h.len
    · intro y; rw [val_upd hx, cnt_snocI]; have := h.lo y; omega
    · intro y; rw [val_upd hx, cnt_snocI]; have := h.hi y; omega
    · rw [tot_upd h.nd hx]; have := h.tot; simp; omega
  · rw [if_neg hx]
    by_cases hl : (l.length : Int) < k
    · rw [if_pos hl]
      refine ⟨D, ?_, ?_, ?_, h.d0, ?_, ?_, ?_⟩
      · have : keys (l ++ [⟨x, 1, 0⟩]) = keys l ++ [x] := by simp [keys]
        rw [this, List.nodup_append]
        exact ⟨h.nd, by simp, by
          intro a ha b hb
          rw [List.mem_singleton] at hb
          subst hb
          rintro rfl
          exact hx ((hasK_iff _ _).mpr ha)⟩
      · intro c hc
        rcases List.mem_append.mp hc with hc | hc
        · have := h.pos c hc
          exact ⟨this.1, this.2.1, by simp [this.2.2]⟩
        · rw [List.mem_singleton] at hc
          subst hc
          exact ⟨by simp, rfl, by simp⟩
      · simp; omega
      · intro y; rw [val_snoc hx, cnt_snocI]; have := h.lo y; omega
      · intro y; rw [val_snoc hx, cnt_snocI]; have := h.hi y; omega
      · rw [tot_append]; have := h.tot; simp [X.tot] at *; omega
    · rw [if_neg hl]
      have hpos : ∀ c ∈ l, 1 ≤ c.f1 := fun c hc => (h.pos c hc).1
      have hlen := h.len
      have hkl : (l.length : Int) = k := by omega
      refine ⟨D + 1, ?_, ?_, ?_, by have := h.d0; omega, ?_, ?_, ?_⟩
      · exact h.nd.sublist (keys_lessen l)
      · intro c hc
        obtain ⟨d, hd, rfl, hne⟩ := mem_lessen hc
        have := h.pos d hd
        have h1 : (dec1 d).f1 = d.f1 - 1 := rfl
        exact ⟨by omega, this.2.1, by simpa [dec1] using Or.inl this.2.2⟩
      · have := len_lessen l; omega
      · intro y
        rw [val_lessen h.nd hpos, cnt_snocI]
        have := h.lo y
        have := cnt_nonneg p y
        split <;> split <;> omega
      · intro y
        rw [val_lessen h.nd hpos, cnt_snocI]
        have := h.hi y
        by_cases hy : hasK y l = true
        · rw [if_pos hy]
          have : x ≠ y := by rintro rfl; exact hx hy
          rw [if_neg this]; omega
        · rw [if_neg hy]
          rw [val_none hy] at this
          split <;> omega
      · rw [tot_lessen]
        have := h.tot
        rw [Int.add_mul, List.length_append, List.length_singleton]
        omega
theorem foldS_snoc (k : Int) (p : List Int) (x : Int) : foldS k (p ++ [x]) = stepS k (foldS k p) x := by
  simp [foldS, List.foldl_append]
theorem foldS_inv {k : Int} (hk : 1 ≤ k) (s : List Int) : ∃ D, InvS k s (foldS k s) D := by
  suffices h : ∀ n, ∀ s : List Int, s.length = n → ∃ D, InvS k s (foldS k s) D from h _ s rfl
  intro n
  induction n with
  | zero =>
    intro s hs
    obtain rfl := List.length_eq_zero_iff.mp hs
    exact ⟨0, InvS.start hk⟩
  | succ n ih =>
    intro s hs
    have hne : s ≠ [] := by rintro rfl; simp at hs
    obtain ⟨D, hD⟩ := ih s.dropLast (by simp [hs])
    have e := List.dropLast_concat_getLast hne
    rw [← e, foldS_snoc]
    exact hD.step _
theorem InvS.small {k : Int} {p : List Int} {l : List S70} {D : Int} (h : InvS k p l D) (hk : 1 ≤ k) : ∀ c ∈ l, 1 ≤ c.f1 ∧ c.f1 ≤ p.length := by
  intro c hc
  have h1 := mem_le_tot (fun d hd => by have := (h.pos d hd).1; omega) hc
  have h2 := h.tot
  have h3 : 0 ≤ D * (k + 1) := Int.mul_nonneg h.d0 (by omega)
  exact ⟨(h.pos c hc).1, by omega⟩

/-! the order of the keys -/
theorem mem_risen {l : List S70} (hn : (keys l).Nodup) (hk : ∀ c ∈ l, 0 ≤ c.f0 ∧ c.f0 < 16) (c : S70) : c ∈ risen l ↔ c ∈ l := by
  unfold risen
  rw [List.mem_filterMap]
  constructor
  · rintro ⟨y, _, h⟩
    exact (get_some h).1
  · intro h
    have := hk c h
    refine ⟨c.f0.toNat, List.mem_range.mpr (by omega), ?_⟩
    rw [show ((c.f0.toNat : Nat) : Int) = c.f0 by omega]
    exact get_of_mem hn h
theorem filterMap_rise {f : Nat → Option S70} (hf : ∀ y c, f y = some c → c.f0 = (y : Int)) : ∀ (m a : Nat), ((List.range' a m).filterMap f).Pairwise (fun c d => c.f0 < d.f0) ∧ ∀ c ∈ (List.range' a m).filterMap f, (a : Int) ≤ c.f0 ∧ c.f0 < (a + m : Nat)
  | 0, a => by simp
  | m + 1, a => by
    obtain ⟨h1, h2⟩ := filterMap_rise hf m (a + 1)
    rw [List.range'_succ, List.filterMap_cons]
    cases hfa : f a with
    | none =>
      exact ⟨h1, fun c hc => by have := h2 c hc; omega⟩
    | some c =>
      have e := hf a c hfa
      refine ⟨List.pairwise_cons.mpr ⟨fun d hd => by have := h2 d hd; omega, h1⟩, fun d hd => ?_⟩
      rcases List.mem_cons.mp hd with rfl | hd
      · omega
      · have := h2 d hd; omega
theorem risen_rise (l : List S70) : (risen l).Pairwise (fun c d => c.f0 < d.f0) := by
  unfold risen
  rw [List.range_eq_range']
  exact (filterMap_rise (f := fun y => gt? l (y : Int)) (fun y c h => (get_some h).2) 16 0).1
/-- Two rising lists of the same counters are one. -/
theorem rise_unique : ∀ {a b : List S70}, a.Pairwise (fun c d => c.f0 < d.f0) → b.Pairwise (fun c d => c.f0 < d.f0) → (∀ c, c ∈ a ↔ c ∈ b) → a = b
  | [], [], _, _, _ => rfl
  | [], b :: _, _, _, h => absurd ((h b).mpr (by simp)) (by simp)
  | a :: _, [], _, _, h => absurd ((h a).mp (by simp)) (by simp)
  | a :: ar, b :: br, ha, hb, h => by
    rw [List.pairwise_cons] at ha hb
    have hab : a = b := by
      rcases List.mem_cons.mp ((h a).mp (by simp)) with e | e
      · exact e
      · rcases List.mem_cons.mp ((h b).mpr (by simp)) with e' | e'
        · exact e'.symm
        · have := ha.1 b e'; have := hb.1 a e; omega
    subst hab
    congr 1
    refine rise_unique ha.2 hb.2 fun c => ⟨fun hc => ?_, fun hc => ?_⟩
    · rcases List.mem_cons.mp ((h c).mp (List.mem_cons_of_mem _ hc)) with e | e
      · subst e; have := ha.1 c hc; omega
      · exact e
    · rcases List.mem_cons.mp ((h c).mpr (List.mem_cons_of_mem _ hc)) with e | e
      · subst e; have := hb.1 c hc; omega
      · exact e
theorem get_risen {l : List S70} (hn : (keys l).Nodup) (hk : ∀ c ∈ l, 0 ≤ c.f0 ∧ c.f0 < 16) (y : Int) : gt? (risen l) y = gt? l y := by
  have hr : (keys (risen l)).Nodup := by
    have := risen_rise l
    unfold keys List.Nodup
    rw [List.pairwise_map]
    exact this.imp (fun h => by omega)
  cases hg : gt? l y with
  | none =>
    cases hr2 : gt? (risen l) y with
    | none => rfl
    | some c =>
      have h := get_some hr2
      exact absurd (by rw [← h.2]; exact List.mem_map_of_mem ((mem_risen hn hk c).mp h.1)) (get_none hg)
  | some c =>
    have h := get_some hg
    have := get_of_mem hr ((mem_risen hn hk c).mpr h.1)
    rwa [h.2] at this
theorem val_risen {l : List S70} (hn : (keys l).Nodup) (hk : ∀ c ∈ l, 0 ≤ c.f0 ∧ c.f0 < 16) (y : Int) : val (risen l) y = val l y := by
  unfold val
  rw [get_risen hn hk]
theorem len_risen {l : List S70} (hn : (keys l).Nodup) (hk : ∀ c ∈ l, 0 ≤ c.f0 ∧ c.f0 < 16) : (risen l).length = l.length := by
  have hd : l.Nodup := by
    have := hn
    unfold keys List.Nodup at this
    rw [List.pairwise_map] at this
    exact this.imp (fun h => by rintro rfl; exact h rfl)
  have hr : (risen l).Nodup := (risen_rise l).imp (fun h => by rintro rfl; omega)
  exact ((List.perm_ext_iff_of_nodup hr hd).mpr (mem_risen hn hk)).length_eq
end Go.Proofs.Ytdffhffhnjkcpaa.X
