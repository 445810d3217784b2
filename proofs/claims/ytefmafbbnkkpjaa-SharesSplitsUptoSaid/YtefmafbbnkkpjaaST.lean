/- Splits of the reference: the same permutations and weights. -/
import Derived.Test.YtefmafbbnkkpjaaSY
import Derived.Test.YtefmafbbnkkpjaaXf51
namespace Go.Proofs.Ytefmafbbnkkpjaa.Pure
open Go Go.RowKit Go.Proofs.Ytefmafbbnkkpjaa.X Go.Proofs.YtefmafbbnkkpjaaW.PrintWords Go.Proofs.YtefmafbbnkkpjaaW.PrintLast Go.Proofs.YtefmafbbnkkpjaaW.PrintMore
set_option linter.unusedVariables false
set_option linter.unusedSimpArgs false

theorem rdL_rep {n : Nat} {q : Nat} : rd_L1 (List.replicate n []) (q : Int) = [] := by
  unfold rd_L1
  rw [List.getD_eq_getElem?_getD, Int.toNat_natCast, List.getElem?_replicate]
  split <;> rfl
/-- the matrix as whole numbers, row by row -/
theorem rl1 {R : Int} (hR : 1 ≤ R) (hR2 : R ≤ 10000000000000) {m : List (List S62)} {n : Nat} (hm : m.length = n) (hn : n ≤ 9) (p : List (List Int)) (ws : List S62) (total : Int) (r : Nat) (hr : r < n) (row : List S62) (hrl : row.length = n) (hT : ∀ f ∈ row, Th R f) (hR3 : R ≤ 1000000000000) :
    ∀ (c j k : Nat) (X : List (List Int)), j + c = n → X.length = n → rd_L1 X (r : Int) = (rowV R row).take j →
      ∃ X' : List (List Int), X'.length = n ∧ (∀ q : Nat, rd_L1 X' (q : Int) = if q = r then rowV R row else rd_L1 X (q : Int)) ∧
        congouref01_Splits.l1 (c + 1 + k) p ws (n : Int) R total X (r : Int) m (m.length : Int) (r : Int) row (row.length : Int) (j : Int) = congouref01_Splits.l0 k p ws (n : Int) R total X' m (m.length : Int) ((r : Int) + 1) := by
  intro c
  have hlV : (rowV R row).length = n := by simp [rowV, hrl]
  induction c with
  | zero =>
    intro j k X hj hX hx
    refine ⟨X, hX, fun q => ?_, ?_⟩
    · by_cases e : q = r
      · subst e; rw [if_pos rfl, hx, List.take_of_length_le (by omega)]
      · rw [if_neg e]
    · rw [show 0 + 1 + k = k + 1 by omega, congouref01_Splits.l1, if_neg (by omega), w6 (by omega) (by omega)]
  | succ c ih =>
    intro j k X hj hX hx
    have hjl : j < row.length := by omega
    have hTh := hT _ (rd_mem hjl)
    obtain ⟨_, g2, g3⟩ := hTh.go (by omega) (by omega)
    obtain ⟨_, s2⟩ := take_succ_sum (rowV R row) j (by omega)
    rw [rowV_at hjl] at s2
    rw [show c + 1 + 1 + k = (c + 1 + k) + 1 by omega, congouref01_Splits.l1, if_pos (by omega), if_pos (by omega), if_pos (by omega), if_pos (by omega), if_pos (by omega), if_neg g3, if_pos (by rw [hx, List.length_take]; omega), g2, w6 (by omega) (by omega), Int.toNat_natCast, hx, ← s2, show (j : Int) + 1 = ((j + 1 : Nat) : Int) by omega]
    obtain ⟨X', a1, a2, a3⟩ := ih (j + 1) k (X.set r ((rowV R row).take (j + 1))) (by omega) (by rw [List.length_set]; exact hX) (by rw [rdL_set (by omega), if_pos rfl])
    refine ⟨X', a1, fun q => ?_, a3⟩
    rw [a2 q]
    by_cases e : q = r
    · rw [if_pos e, if_pos e]
    · rw [if_neg e, if_neg e, rdL_set (by omega), if_neg e]
theorem rl0 {R : Int} (hR : 1 ≤ R) (hR3 : R ≤ 1000000000000) {m : List (List S62)} {n : Nat} (hm : m.length = n) (hn : n ≤ 9) (hsq : ∀ r ∈ m, r.length = n) (hT : ∀ r ∈ m, ∀ f ∈ r, Th R f) (p : List (List Int)) (ws : List S62) (total : Int) :
    ∀ (c r k : Nat) (X : List (List Int)), r + c = n → X.length = n → (∀ q : Nat, rd_L1 X (q : Int) = if q < r then rowV R (rd_L5 m (q : Int)) else []) →
      ∃ X' : List (List Int), X'.length = n ∧ (∀ q : Nat, q < n → rd_L1 X' (q : Int) = rowV R (rd_L5 m (q : Int))) ∧
        congouref01_Splits.l0 (c * (n + 2) + 1 + k) p ws (n : Int) R total X m (m.length : Int) (r : Int) = congouref01_Splits.l2 k ws (n : Int) R total X' p (p.length : Int) 0 := by
  intro c
  induction c with
  | zero =>
    intro r k X hr hX hx
    refine ⟨X, hX, fun q hq => by rw [hx q, if_pos (by omega)], ?_⟩
    rw [show 0 * (n + 2) + 1 + k = k + 1 by rw [Nat.zero_mul]; omega, congouref01_Splits.l0, if_neg (by omega)]
  | succ c ih =>
    intro r k X hr hX hx
    have hrm : r < m.length := by omega
    have hmem := rdM_mem hrm
    obtain ⟨X1, a1, a2, a3⟩ := rl1 hR (by omega) hm hn p ws total r (by omega) (rd_L5 m (r : Int)) (hsq _ hmem) (hT _ hmem) hR3 n 0 (c * (n + 2) + 1 + k) X (by omega) hX (by rw [hx r, if_neg (by omega), List.take_zero])
    obtain ⟨X', b1, b2, b3⟩ := ih (r + 1) k X1 (by omega) a1 (fun q => by
      rw [a2 q]
      by_cases e : q = r
      · subst e; rw [if_pos rfl, if_pos (by omega)]
      · rw [if_neg e, hx q]
        by_cases h : q < r
        · rw [if_pos h, if_pos (by omega)]
        · rw [if_neg h, if_neg (by omega)])
    refine ⟨X', b1, b2, ?_⟩
    rw [show (c + 1) * (n + 2) + 1 + k = (n + 1 + (c * (n + 2) + 1 + k)) + 1 by rw [Nat.succ_mul]; omega, congouref01_Splits.l0, if_pos (by omega), if_pos (by omega), if_pos (by omega)]
    rw [show (0 : Int) = ((0 : Nat) : Int) from rfl]
    rw [a3, show (r : Int) + 1 = ((r + 1 : Nat) : Int) by omega, b3]
    rfl
/-- a permutation's weight taken off -/
theorem rl3 {R : Int} {n : Nat} (hn : n ≤ 9) (ws : List S62) (total x : Int) (p : List (List Int)) (c0 : Nat) (hc0 : c0 < 1000) (q : List Int) (hq : PermOf n q) :
    ∀ (c i k : Nat) (X : List (List Int)), i + c = n → X.length = n → (∀ a : Nat, a < n → (rd_L1 X (a : Int)).length = n) →
      ∃ X' : List (List Int), X'.length = n ∧ (∀ a : Nat, a < n → rd_L1 X' (a : Int) = if i ≤ a then (rd_L1 X (a : Int)).set (rd q (a : Int)).toNat (wrap64 (rd (rd_L1 X (a : Int)) (rd q (a : Int)) - x)) else rd_L1 X (a : Int)) ∧
        congouref01_Splits.l3 (c + 1 + k) ws (n : Int) R total X x p (p.length : Int) (c0 : Int) q (q.length : Int) (i : Int) = congouref01_Splits.l2 k ws (n : Int) R total X' p (p.length : Int) ((c0 : Int) + 1) := by
  intro c
  induction c with
  | zero =>
    intro i k X hi hX hX2
    refine ⟨X, hX, fun a ha => by rw [if_neg (by omega)], ?_⟩
    rw [show 0 + 1 + k = k + 1 by omega, congouref01_Splits.l3, if_neg (by rw [hq.len]; omega), w6 (by omega) (by omega)]
  | succ c ih =>
    intro i k X hi hX hX2
    have hin : i < n := by omega
    have hr := hq.rng _ (List.mem_of_mem_drop (rdI_drop (by rw [hq.len]; exact hin) ▸ List.mem_cons_self))
    obtain ⟨X', a1, a2, a3⟩ := ih (i + 1) k (X.set i ((rd_L1 X (i : Int)).set (rd q (i : Int)).toNat (wrap64 (rd (rd_L1 X (i : Int)) (rd q (i : Int)) - x)))) (by omega) (by rw [List.length_set]; exact hX) (fun a ha => by
      rw [rdL_set (by omega)]
      by_cases e : a = i
      · subst e; rw [if_pos rfl, List.length_set]; exact hX2 a ha
      · rw [if_neg e]; exact hX2 a ha)
    refine ⟨X', a1, fun a ha => ?_, ?_⟩
    · rw [a2 a ha, rdL_set (by omega)]
      by_cases e : a = i
      · subst e; rw [if_neg (by omega), if_pos rfl, if_pos (Nat.le_refl _)]
      · rw [if_neg e]
        by_cases h : i + 1 ≤ a
        · rw [if_pos h, if_pos (by omega)]
        · rw [if_neg h, if_neg (by omega)]
    · rw [show c + 1 + 1 + k = (c + 1 + k) + 1 by omega, congouref01_Splits.l3, if_pos (by rw [hq.len]; omega), if_pos (by omega), if_pos (by rw [hq.len]; omega), if_pos (by omega), if_pos (by omega), if_pos (by rw [hX2 i hin]; omega), w6 (i := (i : Int) + 1) (by omega) (by omega), Int.toNat_natCast, show (i : Int) + 1 = ((i + 1 : Nat) : Int) by omega]
      exact a3
/-- nothing is left, and all is told -/
theorem rl5 {R total : Int} (X : List (List Int)) (r : Nat) (hr : r < 1000) (row : List Int) (hrl : row.length ≤ 9) : ∀ (c j k : Nat), j + c = row.length →
    congouref01_Splits.l5 (c + 1 + k) R total X (X.length : Int) (r : Int) row (row.length : Int) (j : Int) = if dc (∀ b : Nat, j ≤ b → b < row.length → rd row (b : Int) = 0) = true then congouref01_Splits.l4 k R total X (X.length : Int) ((r : Int) + 1) else some false := by
  intro c
  induction c with
  | zero =>
    intro j k hj
    rw [show 0 + 1 + k = k + 1 by omega, congouref01_Splits.l5, if_neg (by omega), w6 (by omega) (by omega), dc_true (fun b h1 h2 => by omega), if_pos rfl]
  | succ c ih =>
    intro j k hj
    rw [show c + 1 + 1 + k = (c + 1 + k) + 1 by omega, congouref01_Splits.l5, if_pos (by omega), if_pos (by omega), if_pos (by omega)]
    by_cases e : rd row (j : Int) = 0
    · rw [if_pos e, w6 (by omega) (by omega), show (j : Int) + 1 = ((j + 1 : Nat) : Int) by omega, ih (j + 1) k (by omega)]
      congr 2
      rw [dc_congr]
      constructor
      · intro h b h1 h2
        by_cases e2 : b = j
        · subst e2; exact e
        · exact h b (by omega) h2
      · intro h b h1 h2
        exact h b (by omega) h2
    · rw [if_neg e, dc_false (fun h => e (h j (Nat.le_refl _) (by omega))), if_neg (by decide)]
theorem rl4 {R total : Int} (X : List (List Int)) {n : Nat} (hn : n ≤ 9) (hX : X.length = n) (hX2 : ∀ a : Nat, a < n → (rd_L1 X (a : Int)).length = n) : ∀ (c i k : Nat), i + c = n →
    congouref01_Splits.l4 (c * 11 + 1 + k) R total X (X.length : Int) (i : Int) = some (dc ((∀ a : Nat, i ≤ a → a < n → ∀ b : Nat, b < n → rd (rd_L1 X (a : Int)) (b : Int) = 0) ∧ total = R)) := by
  intro c
  induction c with
  | zero =>
    intro i k hi
    rw [show 0 * 11 + 1 + k = k + 1 by omega, congouref01_Splits.l4, if_neg (by omega)]
    congr 1
    rw [Bool.eq_iff_iff, dc_iff, beq_iff_eq]
    exact ⟨fun h => ⟨fun a h1 h2 => by omega, h⟩, fun h => h.2⟩
  | succ c ih =>
    intro i k hi
    have hl := hX2 i (by omega)
    have := rl5 (R := R) (total := total) X i (by omega) (rd_L1 X (i : Int)) (by omega) n 0 (c * 11 + 1 + (9 - n + k)) (by omega)
    rw [show (c + 1) * 11 + 1 + k = (n + 1 + (c * 11 + 1 + (9 - n + k))) + 1 by omega, congouref01_Splits.l4, if_pos (by omega), if_pos (by omega), if_pos (by omega)]
    refine Eq.trans this ?_
    by_cases e : ∀ b : Nat, 0 ≤ b → b < (rd_L1 X (i : Int)).length → rd (rd_L1 X (i : Int)) (b : Int) = 0
    · rw [dc_true e, if_pos rfl, show (i : Int) + 1 = ((i + 1 : Nat) : Int) by omega, ih (i + 1) _ (by omega)]
      congr 1
      rw [dc_congr]
      constructor
      · intro ⟨h, h9⟩
        refine ⟨fun a h1 h2 b h3 => ?_, h9⟩
        by_cases e2 : a = i
        · subst e2; exact e b (Nat.zero_le _) (by omega)
        · exact h a (by omega) h2 b h3
      · intro ⟨h, h9⟩
        exact ⟨fun a h1 h2 b h3 => h a (by omega) h2 b h3, h9⟩
    · rw [dc_false e, if_neg (by decide), dc_false]
      intro h
      exact e fun b _ h2 => h.1 i (Nat.le_refl _) (by omega) b (by omega)
/-- the reference's test -/
structure GoodR (n : Nat) (V : Nat → Nat → Int) (R : Int) (p : List (List Int)) (ws : List S62) : Prop where
  perm : ∀ q ∈ p, PermOf n q
  pos : ∀ f ∈ ws, 1 ≤ f.f0 ∧ f.f0 ≤ f.f1
  cnt : ∀ i, i < n → ∀ j, j < n → V i j = con i j p (rowV R ws)
  sum : (rowV R ws).sum = R
theorem rl2 {R : Int} (hR : 1 ≤ R) (hR3 : R ≤ 1000000000000) {n : Nat} (hn : n ≤ 5) (V : Nat → Nat → Int) (hV : ∀ i, i < n → ∀ j, j < n → 0 ≤ V i j ∧ V i j ≤ R) (p : List (List Int)) (ws : List S62) (hlen : p.length = ws.length) (h100 : p.length ≤ 100) (hq : ∀ q ∈ p, q.length ≤ 9000000000000000000) (hL : ∀ f ∈ ws, Lx R f) (K : Nat) (hK : ∀ q ∈ p, q.length < K) :
    ∀ (c i k : Nat) (X : List (List Int)), i + c = p.length → X.length = n → (∀ a : Nat, a < n → (rd_L1 X (a : Int)).length = n) → (∀ a : Nat, a < n → ∀ b : Nat, b < n → rd (rd_L1 X (a : Int)) (b : Int) = V a b - con a b (p.take i) ((rowV R ws).take i)) →
      (∀ q ∈ p.take i, PermOf n q) → (∀ f ∈ ws.take i, 1 ≤ f.f0 ∧ f.f0 ≤ f.f1) → ((rowV R ws).take i).sum ≤ R →
      congouref01_Splits.l2 (c * (n + 3) + 100 + K + k) ws (n : Int) R ((rowV R ws).take i).sum X p (p.length : Int) (i : Int) = some (dc (GoodR n V R p ws)) := by
  intro c
  have hlV : (rowV R ws).length = p.length := by simp [rowV, hlen]
  induction c with
  | zero =>
    intro i k X hi hX hX2 hx hp1 hw1 hs
    rw [List.take_of_length_le (by omega)] at hp1 hw1 hs ⊢
    rw [List.take_of_length_le (by omega), List.take_of_length_le (by omega)] at hx
    rw [show 0 * (n + 3) + 100 + K + k = (n * 11 + 1 + (98 - n * 11 + K + k)) + 1 by rw [Nat.zero_mul]; omega, congouref01_Splits.l2, if_neg (by omega)]
    refine Eq.trans (rl4 (R := R) (total := (rowV R ws).sum) X (by omega) hX hX2 n 0 (98 - n * 11 + K + k) (by omega)) ?_
    congr 1
    rw [dc_congr]
    constructor
    · intro ⟨h, h2⟩
      exact ⟨hp1, hw1, fun a ha b hb => by have := h a (Nat.zero_le _) ha b hb; rw [hx a ha b hb] at this; omega, h2⟩
    · intro h
      exact ⟨fun a _ ha b hb => by rw [hx a ha b hb, h.cnt a ha b hb]; omega, h.sum⟩
  | succ c ih =>
    intro i k X hi hX hX2 hx hp1 hw1 hs
    have hip : i < p.length := by omega
    have hiw : i < ws.length := by omega
    have hqm := rdL_mem hip
    have hwm := rd_mem hiw
    have hLx := hL _ hwm
    have hno : ∀ k b, b = true → congouref01_Splits.j4 (k + 1) ws (n : Int) R ((rowV R ws).take i).sum X (i : Int) (rd_L1 p (i : Int)) p (p.length : Int) (i : Int) b = some false := fun k b h => by rw [congouref01_Splits.j4, if_pos h]
    rw [show (c + 1) * (n + 3) + 100 + K + k = (n + 1 + (c * (n + 3) + 100 + K + k)) + 1 + 1 by rw [Nat.succ_mul]; omega, congouref01_Splits.l2, if_pos (by omega), if_pos (by omega), if_pos (by omega), if_pos (by omega)]
    by_cases c1 : (rd_T62 ws (i : Int)).f0 < 1
    · rw [if_pos c1, hno _ _ rfl, dc_false fun h => by have := (h.pos _ hwm).1; omega]
    · rw [if_neg c1]
      by_cases c2 : (rd_T62 ws (i : Int)).f0 > (rd_T62 ws (i : Int)).f1
      · rw [if_pos c2, hno _ _ rfl, dc_false fun h => by have := (h.pos _ hwm).2; omega]
      · rw [if_neg c2, order_f hn _ (hq _ hqm) _ (by have := hK _ hqm; omega), Option.bind_some]
        by_cases c3 : PermOf n (rd_L1 p (i : Int))
        · have hTh : Th R (rd_T62 ws (i : Int)) := hLx.th (by unfold le1; omega)
          obtain ⟨_, g2, g3⟩ := hTh.go (by omega) hR3
          have hTi := hTh.bd (by omega)
          have hTs : ∀ f ∈ ws.take i, Th R f := fun f hf => (hL f (List.mem_of_mem_take hf)).th (hw1 f hf).2
          have hsb := sum_bd R (ws.take i) hTs (by omega)
          have hs2 : ((rowV R ws).take i).sum = (rowV R (ws.take i)).sum := by simp [rowV, List.map_take]
          obtain ⟨s1, s2⟩ := take_succ_sum (rowV R ws) i (by omega)
          rw [rowV_at hiw] at s1
          rw [dc_true c3, show (!true) = false from rfl, congouref01_Splits.j4, if_neg (by decide), if_pos (by omega), if_pos (by omega), if_neg g3, g2, w6 (by omega) (by omega), ← s1]
          by_cases c4 : ((rowV R ws).take (i + 1)).sum > R
          · rw [if_pos c4, dc_false]
            intro h
            have hTw : ∀ f ∈ ws, Th R f := fun f hf => (hL f hf).th (h.pos f hf).2
            have e : (rowV R ws).sum = ((rowV R ws).take (i + 1)).sum + ((rowV R ws).drop (i + 1)).sum := by
              conv => lhs; rw [← List.take_append_drop (i + 1) (rowV R ws), List.sum_append]
            have h2 := sum_bd R (ws.drop (i + 1)) (fun f hf => hTw f (List.mem_of_mem_drop hf)) (by omega)
            have h3 : ((rowV R ws).drop (i + 1)).sum = (rowV R (ws.drop (i + 1))).sum := by simp [rowV, List.map_drop]
            have := h.sum
            omega
          · rw [if_neg c4]
            obtain ⟨X', a1, a2, a3⟩ := rl3 (R := R) (by omega) ws ((rowV R ws).take (i + 1)).sum (val R (rd_T62 ws (i : Int))) p i (by omega) (rd_L1 p (i : Int)) c3 n 0 (c * (n + 3) + 100 + K + k) X (by omega) hX hX2
            rw [show (0 : Int) = ((0 : Nat) : Int) from rfl, a3, show (i : Int) + 1 = ((i + 1 : Nat) : Int) by omega]
            have hpr : ∀ a : Nat, a < n → 0 ≤ rd (rd_L1 p (i : Int)) (a : Int) ∧ rd (rd_L1 p (i : Int)) (a : Int) < (n : Int) := fun a ha => c3.rng _ (List.mem_of_mem_drop (rdI_drop (by rw [c3.len]; exact ha) ▸ List.mem_cons_self))
            have hvb : ∀ x ∈ (rowV R ws).take i, 0 ≤ x ∧ x ≤ R := fun x hx => by
              rw [rowV, ← List.map_take] at hx
              obtain ⟨f, hf, rfl⟩ := List.mem_map.mp hx
              exact (hTs f hf).bd (by omega)
            refine ih (i + 1) k X' (by omega) a1 (fun a ha => by rw [a2 a ha, if_pos (Nat.zero_le _), List.length_set]; exact hX2 a ha) (fun a ha b hb => ?_) (fun q hq' => ?_) (fun f hf => ?_) (by omega)
            · have hpa := hpr a ha
              have hcb := con_bd (i := a) (j := (rd (rd_L1 p (i : Int)) (a : Int)).toNat) (B := R) (by omega) (p.take i) ((rowV R ws).take i) hvb
              have hlt : R * (((rowV R ws).take i).length : Nat) ≤ 100000000000000 := by
                have : (((rowV R ws).take i).length : Int) ≤ 100 := by rw [List.length_take]; omega
                have := Int.mul_le_mul hR3 this (by omega) (by omega)
                omega
              have hg := hx a ha _ (show (rd (rd_L1 p (i : Int)) (a : Int)).toNat < n by omega)
              rw [Int.toNat_of_nonneg hpa.1] at hg
              have hv := hV a ha _ (show (rd (rd_L1 p (i : Int)) (a : Int)).toNat < n by omega)
              rw [a2 a ha, if_pos (Nat.zero_le _), rd_set_ne _ (by rw [hX2 a ha]; omega), con_take hip (by omega), rowV_at hiw, w6 (by omega) (by omega)]
              by_cases e : b = (rd (rd_L1 p (i : Int)) (a : Int)).toNat
              · have e2 : rd (rd_L1 p (i : Int)) (a : Int) = (b : Int) := by omega
                rw [if_pos e, if_pos e2, e2, hx a ha b hb]; omega
              · rw [if_neg e, if_neg (by omega), hx a ha b hb]; omega
            · have e : p.take (i + 1) = p.take i ++ [rd_L1 p (i : Int)] := by
                rw [List.take_succ_eq_append_getElem hip]
                simp [rd_L1, List.getD_eq_getElem?_getD, List.getElem?_eq_getElem hip]
              rw [e] at hq'
              rcases List.mem_append.mp hq' with h | h
              · exact hp1 q h
              · rw [List.mem_singleton.mp h]; exact c3
            · have e : ws.take (i + 1) = ws.take i ++ [rd_T62 ws (i : Int)] := by
                rw [List.take_succ_eq_append_getElem hiw]
                simp [rd_T62, List.getD_eq_getElem?_getD, List.getElem?_eq_getElem hiw]
              rw [e] at hf
              rcases List.mem_append.mp hf with h | h
              · exact hw1 f h
              · rw [List.mem_singleton.mp h]; omega
        · rw [dc_false c3, show (!false) = true from rfl, hno _ _ rfl, dc_false fun h => c3 (h.perm _ hqm)]
theorem val_scale {A c : Int} {f : S62} (h1 : 1 ≤ f.f1) (hd : f.f1 ∣ A) : val (A * c) f = val A f * c := by
  obtain ⟨a, rfl⟩ := hd
  unfold val
  rw [Int.mul_assoc, Int.mul_ediv_cancel_left _ (by omega), Int.mul_ediv_cancel_left _ (by omega), Int.mul_assoc]
theorem rowV_scale {A c : Int} {ws : List S62} (h : ∀ f ∈ ws, 1 ≤ f.f1 ∧ f.f1 ∣ A) : rowV (A * c) ws = (rowV A ws).map fun x => x * c := by
  unfold rowV
  rw [List.map_map]
  exact List.map_congr_left fun f hf => val_scale (h f hf).1 (h f hf).2
theorem mulc {a b c : Int} (hc : 1 ≤ c) (h : a * c = b * c) : a = b := Int.eq_of_mul_eq_mul_right (by omega) h
theorem good_iff {n : Nat} {m : List (List S62)} {D A c e : Int} {p : List (List Int)} {ws : List S62} (hD : 1 ≤ D) (hA : 1 ≤ A) (hc : 1 ≤ c) (he : 1 ≤ e) (hR : A * c = D * e) (hAm : mulP 10000000 false ws 1 = A) (hm : ∀ i, i < n → ∀ j, j < n → Th D (el m i j)) (hw : ∀ f ∈ ws, 1 ≤ f.f1 ∧ f.f1 ∣ A) (hlen : p.length = ws.length) (h100 : p.length ≤ 100) :
    GoodR n (mxv (D * e) m) (D * e) p ws ↔ SplitOf n (mxv D m) D p ws := by
  have hrow : rowV (D * e) ws = (rowV A ws).map fun x => x * c := by rw [← hR]; exact rowV_scale hw
  have hmx : ∀ i, i < n → ∀ j, j < n → mxv (D * e) m i j = mxv D m i j * e := fun i hi j hj => val_scale (hm i hi j hj).d1 (hm i hi j hj).dv
  constructor
  · intro h
    have hst : mulP 10000000 true ws 1 = A := by rw [mulP_strict _ _ _ fun f hf => (h.pos f hf).2, hAm]
    refine ⟨hlen, h100, by rw [hst]; omega, h.perm, fun f hf => by have := (h.pos f hf).1; omega, ?_, fun i hi j hj => ?_⟩
    · have := h.sum
      rw [hrow, sum_scale, ← hR] at this
      rw [hst]
      exact mulc hc this
    · have := h.cnt i hi j hj
      rw [hmx i hi j hj, hrow, con_scale] at this
      rw [hst]
      refine mulc hc ?_
      have e2 : con i j p (rowV A ws) * D * c = con i j p (rowV A ws) * c * D := by rw [Int.mul_assoc, Int.mul_comm D c, ← Int.mul_assoc]
      rw [e2, ← this, Int.mul_assoc, Int.mul_assoc, hR, Int.mul_comm e D]
  · intro h
    have hst : mulP 10000000 true ws 1 = A := by rw [← mulP_lax _ _ _ (by omega) (by decide) h.ne, hAm]
    have hok := (mulP_spec 10000000 true ws 1 (by omega) (by decide) h.ne).2.2.2.1
    refine ⟨h.perm, fun f hf => ?_, fun i hi j hj => ?_, ?_⟩
    · have h1 := (hok f hf).1.n0
      have h2 := (hok f hf).1.ns rfl
      have := h.pos f hf
      omega
    · have := h.cnt i hi j hj
      rw [hst] at this
      rw [hmx i hi j hj, hrow, con_scale]
      refine mulc hD ?_
      have e2 : con i j p (rowV A ws) * c * D = con i j p (rowV A ws) * D * c := by rw [Int.mul_assoc, Int.mul_comm c D, ← Int.mul_assoc]
      rw [e2, this, Int.mul_assoc, Int.mul_assoc, hR, Int.mul_comm e D]
    · have := h.sum
      rw [hst] at this
      rw [hrow, sum_scale, this, hR]
/-- the reference's Splits -/
theorem Splits_f {n : Nat} {m : List (List S62)} {D : Int} (hM : Mx 10000 n m D) (h1 : 1 ≤ n) (h5 : n ≤ 5) (p : List (List Int)) (hpl : p.length ≤ 9000000000000000000) (hq : ∀ q ∈ p, q.length ≤ 9000000000000000000) (ws : List S62) (hwb : ∀ f ∈ ws, B64 f) (hmb : ∀ r ∈ m, ∀ f ∈ r, B64 f) (hs : m.flatten.length + ws.length < 8796093022208) (k : Nat) (hk : 100000000000000000000 + KG ≤ k) :
    congouref01_Splits.f k m p ws = some (dc (SplitOf n (mxv D m) D p ws)) := by
  obtain ⟨d1, d2, hT⟩ := mul_Th (by decide) hM.mul hM.ne
  have hml := hM.len
  have hfb : ∀ f ∈ m.flatten ++ ws, B64 f := fun f hf => by
    rcases List.mem_append.mp hf with h | h
    · obtain ⟨r, hr, hf'⟩ := List.mem_flatten.mp h
      exact hmb r hr f hf'
    · exact hwb f h
  have hbad : ∀ k R, congouref01_Splits.j0 (k + 1) m p ws (m.length : Int) R true = some false := fun k R => by rw [congouref01_Splits.j0, if_pos rfl]
  obtain ⟨k, rfl⟩ : ∃ z, k = z + 1 := ⟨k - 1, by omega⟩
  unfold congouref01_Splits.f
  rw [numbers_f m (by omega) (by omega) (k + 1) (by omega), Option.bind_some, if_pos hs]
  have hMu := Multiple_f 10000000 (by decide) (by decide) ws (by omega) hwb (k + 1) (by omega)
  by_cases hA : mulP 10000000 false ws 1 = 0
  · have hno : ¬ SplitOf n (mxv D m) D p ws := fun h => h.ne (by
      have := mulP_lax 10000000 ws 1 (by omega) (by decide) h.ne
      omega)
    obtain ⟨r, hr⟩ := rmul_any 10000000000000 (m.flatten ++ ws) (by rw [List.length_append]; omega) hfb (m.flatten ++ ws).length 0 (k + 1) 1 (by omega) (by rw [List.length_append]; omega)
    have hr2 : congouref01_Multiple.f (k + 1) (m.flatten ++ ws) 10000000000000 = some r := hr
    rw [hr2, Option.bind_some, dc_false hno]
    by_cases hr0 : r = 0
    · rw [if_pos hr0, hbad]
    · rw [if_neg hr0, hMu, Option.bind_some, if_pos hA, hbad]
  · obtain ⟨a1, a2, _, a4, _⟩ := mulP_spec 10000000 false ws 1 (by omega) (by decide) hA
    generalize hAe : mulP 10000000 false ws 1 = A at *
    have hl1 : ∀ x : Int, 1 ≤ x → (Int.lcm 1 x : Int) = x := fun x hx => by rw [Int.lcm_comm, Int.lcm_one]; omega
    have hl2 : ∀ x : Int, 1 ≤ x → (Int.lcm x 1 : Int) = x := fun x hx => by rw [Int.lcm_one]; omega
    have hlax : mulP 10000 false m.flatten 1 = D := by
      rw [mulP_lax _ _ _ (by omega) (by decide) (by rw [hM.mul]; exact hM.ne), hM.mul]
    have e1 : mulP 10000000000000 false m.flatten 1 = D := by
      have := mulP_join (m := 10000) (M := 10000000000000) (strict := false) (by decide) m.flatten 1 1 (by omega) (by omega) (by omega) (by rw [hlax]; omega) (by rw [hlax, hl1 D d1]; omega)
      rw [hlax, hl1 D d1] at this
      exact this
    have hlc : (Int.lcm D A : Int) ≤ 100000000000 := by
      rw [← lcm_eq d1 a1]
      have := tdiv_bd d1 A
      have := Int.mul_le_mul (show Int.tdiv D (Int.gcd D A) ≤ 10000 by omega) a2 (by omega) (by omega)
      omega
    have hlp := lcm_pos d1 a1
    have e2 : mulP 10000000000000 false (m.flatten ++ ws) 1 = (Int.lcm D A : Int) := by
      rw [mulP_append _ _ _ _ _ (by omega), e1, if_neg (by omega)]
      have := mulP_join (m := 10000000) (M := 10000000000000) (strict := false) (by decide) ws 1 D (by omega) (by omega) (by omega) (by rw [hAe]; omega) (by rw [hAe]; omega)
      rw [hAe, hl2 D d1] at this
      exact this
    have e3 : congouref01_Multiple.f (k + 1) (m.flatten ++ ws) 10000000000000 = some (Int.lcm D A : Int) := by
      have := rmul_big 10000000000000 (by decide) (m.flatten ++ ws) (by rw [List.length_append]; omega) hfb (m.flatten ++ ws).length 0 (k + 1) 1 (by omega) (by omega) (by decide) (by rw [List.drop_zero, e2]; omega) (by rw [List.length_append]; omega)
      rw [List.drop_zero, e2] at this
      exact this
    rw [e3, Option.bind_some, if_neg (by omega), hMu, Option.bind_some, if_neg (by omega)]
    by_cases hlen : (p.length : Int) = (ws.length : Int)
    · rw [if_pos hlen]
      by_cases h100 : (p.length : Int) > 100
      · rw [decide_eq_true h100, hbad, dc_false fun h => by have := h.h100; omega]
      · rw [decide_eq_false h100, congouref01_Splits.j0, if_neg (by decide), if_pos (by omega), if_pos (by omega), hml, Int.toNat_natCast]
        obtain ⟨e, he⟩ : D ∣ (Int.lcm D A : Int) := dvd_lcm_l _ _
        obtain ⟨c, hc⟩ : A ∣ (Int.lcm D A : Int) := dvd_lcm_r _ _
        generalize (Int.lcm D A : Int) = R at *
        have hRm : R ≤ 1000000000000 := by omega
        have he1 : 1 ≤ e := by
          rcases Int.lt_or_le 0 e with h | h
          · exact h
          · have := Int.mul_le_mul_of_nonneg_left h (show 0 ≤ D by omega); omega
        have hc1 : 1 ≤ c := by
          rcases Int.lt_or_le 0 c with h | h
          · exact h
          · have := Int.mul_le_mul_of_nonneg_left h (show 0 ≤ A by omega); omega
        have hTR : ∀ r ∈ m, ∀ f ∈ r, Th R f := fun r hr f hf => by
          have h := (hT r hr f hf).2
          exact ⟨h.d1, Int.dvd_trans h.dv (he ▸ Int.dvd_mul_right ..), h.n0, h.n1⟩
        have hLR : ∀ f ∈ ws, Lx R f := fun f hf => ⟨(a4 f hf).1.d1, Int.dvd_trans (a4 f hf).2 (hc ▸ Int.dvd_mul_right ..), (a4 f hf).1.n0⟩
        have hThm : ∀ i, i < n → ∀ j, j < n → Th D (el m i j) := fun i hi j hj => (hT _ (rdM_mem (by omega)) _ (rd_mem (by rw [hM.sq _ (rdM_mem (by omega))]; exact hj))).2
        have hThR : ∀ i, i < n → ∀ j, j < n → Th R (el m i j) := fun i hi j hj => hTR _ (rdM_mem (by omega)) _ (rd_mem (by rw [hM.sq _ (rdM_mem (by omega))]; exact hj))
        have hn7 : n * (n + 2) ≤ 35 := Nat.mul_le_mul h5 (show n + 2 ≤ 7 by omega)
        have hp8 : p.length * (n + 3) ≤ 800 := Nat.mul_le_mul (show p.length ≤ 100 by omega) (show n + 3 ≤ 8 by omega)
        obtain ⟨K, hK⟩ : ∃ K : Nat, K = 9000000000000000001 := ⟨_, rfl⟩
        obtain ⟨k2, hk2⟩ : ∃ k2, k = n * (n + 2) + 1 + (p.length * (n + 3) + 100 + K + k2) := ⟨k - (n * (n + 2) + 1 + (p.length * (n + 3) + 100 + K)), by omega⟩
        rw [hk2]
        obtain ⟨X', x1, x2, x3⟩ := rl0 (by omega) hRm hml (by omega) hM.sq hTR p ws 0 n 0 (p.length * (n + 3) + 100 + K + k2) (List.replicate n []) (by omega) (by simp) (fun q => by rw [rdL_rep, if_neg (by omega)])
        rw [hml] at x3
        refine Eq.trans x3 ?_
        have hx5 : ∀ a : Nat, a < n → (rd_L1 X' (a : Int)).length = n := fun a ha => by rw [x2 a ha]; simp [rowV, hM.sq _ (rdM_mem (show a < m.length by omega))]
        have := rl2 (by omega) hRm h5 (mxv R m) (fun i hi j hj => (hThR i hi j hj).bd (by omega)) p ws (by omega) (by omega) hq hLR K (fun q hq' => by have := hq q hq'; omega) p.length 0 k2 X' (by omega) x1 hx5 (fun a ha b hb => by
          rw [x2 a ha, rd_at, getD_get (by simpa [rowV, hM.sq _ (rdM_mem (show a < m.length by omega))] using hb), rowV_at (by rw [hM.sq _ (rdM_mem (show a < m.length by omega))]; exact hb), List.take_zero, List.take_zero]
          simp [con, mxv, el]) (by simp) (by simp) (by rw [List.take_zero, List.sum_nil]; omega)
        rw [List.take_zero, List.sum_nil] at this
        have hg := good_iff d1 a1 hc1 he1 (show A * c = D * e by omega) hAe hThm (fun f hf => ⟨(a4 f hf).1.d1, (a4 f hf).2⟩) (show p.length = ws.length by omega) (show p.length ≤ 100 by omega)
        rw [← he] at hg
        rw [dc_congr hg] at this
        exact this
    · rw [if_neg hlen, hbad, dc_false fun h => hlen (by have := h.len; omega)]
end Go.Proofs.Ytefmafbbnkkpjaa.Pure
