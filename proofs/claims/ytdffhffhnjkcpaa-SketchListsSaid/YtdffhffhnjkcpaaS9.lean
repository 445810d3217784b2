/- The full list: the least number makes room. -/
import Derived.Test.YtdffhffhnjkcpaaS8
namespace Go.Proofs.Ytdffhffhnjkcpaa.X
open Go.RowKit
set_option linter.unusedVariables false
set_option linter.unusedSimpArgs false

def lexlt (c d : S70) : Bool := decide (c.f1 < d.f1 ∨ (c.f1 = d.f1 ∧ c.f0 < d.f0))
def lesser (m c : S70) : S70 := if lexlt c m = true then c else m
def leastOf : List S70 → S70
  | [] => z70
  | c :: r => r.foldl lesser c
def repl (x : Int) (l : List S70) : List S70 := l.map fun d => if d.f0 = (leastOf l).f0 then ⟨x, (leastOf l).f1 + 1, (leastOf l).f1⟩ else d
def stepF (k : Int) (l : List S70) (x : Int) : List S70 := if hasK x l = true then upd x l else if (l.length : Int) < k then l ++ [⟨x, 1, 0⟩] else repl x l
def foldF (k : Int) (s : List Int) : List S70 := s.foldl (stepF k) []

theorem lesser_cases (m c : S70) : (lesser m c = m ∨ lesser m c = c) ∧ (lesser m c).f1 ≤ m.f1 ∧ (lesser m c).f1 ≤ c.f1 := by
  unfold lesser lexlt
  split
  · rename_i h
    have := of_decide_eq_true h
    exact ⟨.inr rfl, by omega, by omega⟩
  · rename_i h
    have : ¬ (c.f1 < m.f1 ∨ (c.f1 = m.f1 ∧ c.f0 < m.f0)) := fun q => h (decide_eq_true q)
    exact ⟨.inl rfl, by omega, by omega⟩
theorem fold_lesser : ∀ (r : List S70) (c : S70), (r.foldl lesser c = c ∨ r.foldl lesser c ∈ r) ∧ (r.foldl lesser c).f1 ≤ c.f1 ∧ ∀ d ∈ r, (r.foldl lesser c).f1 ≤ d.f1
  | [], c => by simp
  | d :: r, c => by
    obtain ⟨h1, h2, h3⟩ := fold_lesser r (lesser c d)
    obtain ⟨g1, g2, g3⟩ := lesser_cases c d
    rw [List.foldl_cons]
    refine ⟨?_, by omega, fun e he => ?_⟩
    · rcases h1 with h1 | h1
      · rcases g1 with g1 | g1
        · left; rw [h1, g1]
        · right; rw [h1, g1]; simp
      · right; exact List.mem_cons_of_mem _ h1
    · rcases List.mem_cons.mp he with rfl | he
      · omega
      · exact h3 e he
theorem leastOf_mem {l : List S70} (h : l ≠ []) : leastOf l ∈ l ∧ ∀ c ∈ l, (leastOf l).f1 ≤ c.f1 := by
  cases l with
  | nil => exact absurd rfl h
  | cons c r =>
    obtain ⟨h1, h2, h3⟩ := fold_lesser r c
    refine ⟨?_, fun d hd => ?_⟩
    · show r.foldl lesser c ∈ c :: r
      rcases h1 with h1 | h1
      · rw [h1]; simp
      · exact List.mem_cons_of_mem _ h1
    · show (r.foldl lesser c).f1 ≤ d.f1
      rcases List.mem_cons.mp hd with rfl | hd
      · exact h2
      · exact h3 d hd
structure InvF (k : Int) (p : List Int) (l : List S70) : Prop where
  nd : (keys l).Nodup
  len : (l.length : Int) ≤ k
  mem : ∀ c ∈ l, 1 ≤ c.f1 ∧ 0 ≤ c.f2 ∧ c.f1 - c.f2 ≤ cntI p c.f0 ∧ cntI p c.f0 ≤ c.f1 ∧ c.f0 ∈ p
  off : ∀ y, y ∉ keys l → (∀ c ∈ l, cntI p y ≤ c.f1) ∧ ((l.length : Int) < k → cntI p y = 0)
  lt : ∀ c ∈ l, c.f2 < c.f1
  tot : tot l = p.length
theorem InvF.start {k : Int} (hk : 1 ≤ k) : InvF k [] [] :=
  ⟨by simp [keys], by simp; omega, by simp, by simp [cntI], by simp, by simp [X.tot]⟩
theorem tot_map_one {m n : S70} (hn1 : n.f1 = m.f1 + 1) : ∀ {l : List S70}, (keys l).Nodup → m ∈ l → tot (l.map fun d => if d.f0 = m.f0 then n else d) = tot l + 1
  | [], _, h => by cases h
  | c :: l, hn, h => by
    rw [keys, List.map_cons, List.nodup_cons] at hn
    rw [List.map_cons, tot_cons, tot_cons]
    rcases List.mem_cons.mp h with rfl | h
    · rw [if_pos rfl]
      have : (l.map fun d => if d.f0 = m.f0 then n else d) = l := by
        rw [List.map_congr_left (g := id), List.map_id]
        intro d hd
        rw [if_neg]
        · rfl
        · intro e; exact hn.1 (List.mem_map.mpr ⟨d, hd, e⟩)
      rw [this]
      omega
    · have : c.f0 ≠ m.f0 := by
        intro e
        exact hn.1 (by rw [e]; exact List.mem_map_of_mem h)
      rw [if_neg this, tot_map_one hn1 hn.2 h]
      omega
theorem InvF.step {k : Int} {p : List Int} {l : List S70} (hk : 1 ≤ k) (h : InvF k p l) (x : Int) : InvF k (p ++ [x]) (stepF k l x) := by
  unfold stepF
  by_cases hx : hasK x l = true
  · rw [if_pos hx]
    have hxk := (hasK_iff _ _).mp hx
    refine ⟨?_, ?_, ?_, ?_, ?_, ?_⟩
    · rw [keys_upd]; exact h.nd
    · simpa [upd] using h.len
    · intro c hc
      obtain ⟨d, hd, rfl⟩ := List.mem_map.mp hc
      have := h.mem d hd
      rw [one_key, cnt_snocI]
      unfold one
      by_cases e : d.f0 = x
      · rw [if_pos e, if_pos e.symm]
        exact ⟨by simp; omega, this.2.1, by simp; omega, by simp; omega, by simp [this.2.2.2.2]⟩
      · rw [if_neg e, if_neg (fun q => e q.symm)]
        exact ⟨this.1, this.2.1, by omega, by omega, by simp [this.2.2.2.2]⟩
    · intro y hy
      rw [keys_upd] at hy
      obtain ⟨h1, h2⟩ := h.off y hy
      have hne : x ≠ y := by rintro rfl; exact hy hxk
      rw [cnt_snocI, if_neg hne, Int.add_zero]
      refine ⟨fun c hc => ?_, fun hl => h2 (by simpa [upd] using hl)⟩
      obtain ⟨d, hd, rfl⟩ := List.mem_map.mp hc
      have := h1 d hd
      unfold one
      split
      · simp; omega
      · exact this
    · intro c hc
      obtain ⟨d, hd, rfl⟩ := List.mem_map.mp hc
      have := h.lt d hd
      unfold one
      split
      · simp; omega
      · exact this
    · rw [tot_upd h.nd hx]; have := h.tot; simp; omega
  · rw [if_neg hx]
    have hxk : x ∉ keys l := fun q => hx ((hasK_iff _ _).mpr q)
    obtain ⟨hx1, hx2⟩ := h.off x hxk
    by_cases hl : (l.length : Int) < k
    · rw [if_pos hl]
      have hx0 := hx2 hl
      refine ⟨?_, by simp; omega, ?_, ?_, ?_, ?_⟩
      · have : keys (l ++ [⟨x, 1, 0⟩]) = keys l ++ [x] := by simp [keys]
        rw [this, List.nodup_append]
        exact ⟨h.nd, by simp, by
          intro a ha b hb
          rw [List.mem_singleton] at hb
          subst hb
          rintro rfl
          exact hxk ha⟩
      · intro c hc
        rw [cnt_snocI]
        rcases List.mem_append.mp hc with hc1 | hc
        · have := h.mem c hc1
          have hne : x ≠ c.f0 := by intro e; exact hxk (by rw [e]; exact List.mem_map_of_mem hc1)
          rw [if_neg hne]
          exact ⟨this.1, this.2.1, by omega, by omega, by simp [this.2.2.2.2]⟩
        · rw [List.mem_singleton] at hc
          subst hc
          exact ⟨by simp, by simp, by simp [hx0], by simp [hx0], by simp⟩
      · intro y hy
        have hy1 : y ∉ keys l := fun q => hy (by simp [keys] at q ⊢; exact Or.inl q)
        have hy2 : x ≠ y := by rintro rfl; exact hy (by simp [keys])
        have h0 := (h.off y hy1).2 hl
        rw [cnt_snocI, if_neg hy2, h0]
        refine ⟨fun c hc => ?_, fun _ => rfl⟩
        rcases List.mem_append.mp hc with hc | hc
        · have := (h.mem c hc).1; omega
        · rw [List.mem_singleton] at hc; subst hc; simp
      · intro c hc
        rcases List.mem_append.mp hc with hc | hc
        · exact h.lt c hc
        · rw [List.mem_singleton] at hc; subst hc; simp
      · rw [tot_append]; have := h.tot; simp [X.tot] at *; omega
    · rw [if_neg hl]
      have hlen := h.len
      have hne : l ≠ [] := by rintro rfl; simp at hl; omega
      obtain ⟨hm, hmin⟩ := leastOf_mem hne
      unfold repl
      generalize hmm : leastOf l = m at *
      have hlenr : (l.map fun d => if d.f0 = m.f0 then (⟨x, m.f1 + 1, m.f1⟩ : S70) else d).length = l.length := by simp
      have hm1 := h.mem m hm
      have hxm := hx1 m hm
      refine ⟨?_, by rw [hlenr]; exact hlen, ?_, ?_, ?_, ?_⟩
      · have hnd := h.nd
        unfold keys List.Nodup at hnd ⊢
        rw [List.pairwise_map] at hnd
        rw [List.pairwise_map, List.pairwise_map]
        refine List.Pairwise.imp_of_mem ?_ hnd
        intro a b ha hb hab
        have ha' : a.f0 ≠ x := by rintro rfl; exact hxk (List.mem_map_of_mem ha)
        have hb' : b.f0 ≠ x := by rintro rfl; exact hxk (List.mem_map_of_mem hb)
        by_cases ea : a.f0 = m.f0
        · have eb : b.f0 ≠ m.f0 := by omega
          rw [if_pos ea, if_neg eb]; exact fun q => hb' q.symm
        · rw [if_neg ea]
          by_cases eb : b.f0 = m.f0
          · rw [if_pos eb]; exact ha'
          · rw [if_neg eb]; exact hab
      · intro c hc
        rw [cnt_snocI]
        obtain ⟨d, hd, rfl⟩ := List.mem_map.mp hc
        by_cases e : d.f0 = m.f0
        · rw [if_pos e]
          have := cnt_nonneg p x
          exact ⟨by simp; omega, by simp; omega, by simp; omega, by simp; omega, by simp⟩
        · rw [if_neg e]
          have := h.mem d hd
          have hne : x ≠ d.f0 := by rintro rfl; exact hxk (List.mem_map_of_mem hd)
          rw [if_neg hne]
          exact ⟨this.1, this.2.1, by omega, by omega, by simp [this.2.2.2.2]⟩
      · intro y hy
        have hyx : x ≠ y := by
          rintro rfl
          exact hy (List.mem_map.mpr ⟨_, List.mem_map.mpr ⟨m, hm, rfl⟩, by simp⟩)
        rw [cnt_snocI, if_neg hyx, Int.add_zero]
        have hle : ∀ c ∈ l, cntI p y ≤ c.f1 := by
          by_cases e : y ∈ keys l
          · obtain ⟨d, hd, rfl⟩ := List.mem_map.mp e
            have e2 : d.f0 = m.f0 := by
              refine Classical.byContradiction fun q => hy ?_
              exact List.mem_map.mpr ⟨_, List.mem_map.mpr ⟨d, hd, rfl⟩, by rw [if_neg q]⟩
            intro c hc
            have := hmin c hc
            have h5 := hm1.2.2.2.1
            rw [e2]
            omega
          · exact (h.off y e).1
        refine ⟨fun c hc => ?_, fun q => by rw [hlenr] at q; omega⟩
        obtain ⟨d, hd, rfl⟩ := List.mem_map.mp hc
        split
        · have := hle m hm; simp; omega
        · exact hle d hd
      · intro c hc
        obtain ⟨d, hd, rfl⟩ := List.mem_map.mp hc
        split
        · simp; omega
        · exact h.lt d hd
      · rw [tot_map_one (m := m) rfl h.nd hm]
        have := h.tot
        simp; omega
theorem foldF_snoc (k : Int) (p : List Int) (x : Int) : foldF k (p ++ [x]) = stepF k (foldF k p) x := by
  simp [foldF, List.foldl_append]
theorem foldF_inv {k : Int} (hk : 1 ≤ k) (s : List Int) : InvF k s (foldF k s) := by
  suffices h : ∀ n, ∀ s : List Int, s.length = n → InvF k s (foldF k s) from h _ s rfl
  intro n
  induction n with
  | zero =>
    intro s hs
    obtain rfl := List.length_eq_zero_iff.mp hs
    exact InvF.start hk
  | succ n ih =>
    intro s hs
    have hne : s ≠ [] := by rintro rfl; simp at hs
    have hD := ih s.dropLast (by simp [hs])
    have e := List.dropLast_concat_getLast hne
    rw [← e, foldF_snoc]
    exact hD.step hk _
theorem InvF.small {k : Int} {p : List Int} {l : List S70} (h : InvF k p l) : ∀ c ∈ l, 1 ≤ c.f1 ∧ c.f1 ≤ p.length := by
  intro c hc
  have h1 := mem_le_tot (fun d hd => by have := (h.mem d hd).1; omega) hc
  have h2 := h.tot
  exact ⟨(h.mem c hc).1, by omega⟩
end Go.Proofs.Ytdffhffhnjkcpaa.X
