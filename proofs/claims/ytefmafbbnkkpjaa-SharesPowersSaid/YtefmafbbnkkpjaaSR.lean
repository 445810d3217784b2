/- The reference's Power is the sum over all orders. -/
import Derived.Test.YtefmafbbnkkpjaaXf27
import Derived.Test.YtefmafbbnkkpjaaSQ
namespace Go.Proofs.Ytefmafbbnkkpjaa.Pure
open Go Go.RowKit Go.Proofs.Ytefmafbbnkkpjaa.X Go.Proofs.YtefmafbbnkkpjaaW.PrintWords Go.Proofs.YtefmafbbnkkpjaaW.PrintLast
set_option linter.unusedVariables false
set_option linter.unusedSimpArgs false

theorem rp_in {x a : List Int} {b : Int} (hb : 1 ≤ b ∧ b ≤ 5) (l4 : x.length ≤ 4) (ha : a.length ≤ 4) (hb0 : rd a 0 = b) (h1 : 1 ≤ a.length) (acc : Int) (j : Nat) (hj : j < x.length) (e : Nat) (he : e ≤ 6) :
    ∀ (n t k : Nat), t + n = e → congouref01_Power.l1 (k + n + 1) x a acc (j : Int) (b ^ t) x (x.length : Int) (j : Int) (e : Int) (t : Int) = (congouref01_Power.f k (x.take j ++ x.drop (j + 1)) (a.drop 1)).bind fun r => congouref01_Power.l0 k x a (wrap64 (acc + wrap64 (b ^ e * r))) x (x.length : Int) ((j + 1 : Nat) : Int) := by
  intro n
  induction n with
  | zero =>
    intro t k ht
    rw [congouref01_Power.l1, if_neg (by omega), Option.bind_some, if_pos (by omega), if_pos (by omega), w64 (i := (j : Int) + 1) (by omega) (by omega), show (j : Int) + 1 = ((j + 1 : Nat) : Int) by omega, Int.toNat_natCast, Int.toNat_natCast, if_pos (by rw [List.length_nil, List.length_take]; omega), List.nil_append, Option.bind_some, if_pos (by omega), if_pos (by omega), if_pos (by rw [List.length_take, List.length_drop]; omega), if_pos (by omega), show t = e by omega]
  | succ n ih =>
    intro t k ht
    have p := pow_bd (b := b) (by omega) (by omega) (n := t + 1) (by omega)
    rw [Int.pow_succ] at p
    rw [show k + (n + 1) + 1 = (k + n + 1) + 1 by omega, congouref01_Power.l1, if_pos (by omega), if_pos (by omega), hb0, w64 (i := b ^ t * b) (by omega) (by omega), ← Int.pow_succ, w64 (i := (t : Int) + 1) (by omega) (by omega), show (t : Int) + 1 = ((t + 1 : Nat) : Int) by omega]
    exact ih (t + 1) k (by omega)
theorem rp_loop {x a : List Int} {b : Int} (hb : 1 ≤ b ∧ b ≤ 5) (hx : ∀ y ∈ x, 0 ≤ y ∧ y ≤ 6) (haa : ∀ c ∈ a, 1 ≤ c ∧ c ≤ 5) (l4 : x.length ≤ 4) (ha : a.length ≤ 4) (hb0 : rd a 0 = b) (h1 : 1 ≤ a.length) (F : Nat)
    (ih : ∀ j k, j < x.length → F < k → congouref01_Power.f k (x.take j ++ x.drop (j + 1)) (a.drop 1) = some (PS (a.drop 1) (x.take j ++ x.drop (j + 1)))) :
    ∀ (n j k : Nat) (acc : Int), j + n = x.length → F + n * 10 + 20 < k → 0 ≤ acc → acc + sp (fun y r => b ^ y.toNat * PS (a.drop 1) (x.take j ++ r)) (x.drop j) ≤ 4000000000000000000 →
    congouref01_Power.l0 k x a acc x (x.length : Int) (j : Int) = some (acc + sp (fun y r => b ^ y.toNat * PS (a.drop 1) (x.take j ++ r)) (x.drop j)) := by
  intro n
  induction n with
  | zero =>
    intro j k acc hj hk h0 hS
    obtain ⟨k, rfl⟩ : ∃ m, k = m + 1 := ⟨k - 1, by omega⟩
    rw [congouref01_Power.l0, if_neg (by omega), List.drop_of_length_le (l := x) (i := j) (by omega)]
    simp [sp]
  | succ n ihn =>
    intro j k acc hj hk h0 hS
    have hjl : j < x.length := by omega
    have hy := hx _ (getD_mem hjl)
    rw [← rd_at] at hy
    obtain ⟨k, rfl⟩ : ∃ m, k = (m + (rd x (j : Int)).toNat + 1) + 1 := ⟨k - (rd x (j : Int)).toNat - 2, by omega⟩
    have G := rp_in hb l4 ha hb0 h1 acc j hjl (rd x (j : Int)).toNat (by omega) (rd x (j : Int)).toNat 0 k (by omega)
    rw [Int.pow_zero, Int.toNat_of_nonneg hy.1, ih j k hjl (by omega), Option.bind_some] at G
    rw [rd_drop hjl] at hS ⊢
    simp only [sp] at hS ⊢
    have p3 : 0 ≤ PS (a.drop 1) (x.take j ++ x.drop (j + 1)) := PS_nonneg _ _ fun c hc => by have := haa c (List.mem_of_mem_drop hc); omega
    have p4 : 0 ≤ b ^ (rd x (j : Int)).toNat := pow_nonneg' (by omega) _
    have p5 := Int.mul_nonneg p4 p3
    have e : (fun (y : Int) (r : List Int) => b ^ y.toNat * PS (a.drop 1) (x.take j ++ (rd x (j : Int) :: r))) = (fun (y : Int) (r : List Int) => b ^ y.toNat * PS (a.drop 1) (x.take (j + 1) ++ r)) := by
      funext y r
      rw [List.take_add_one, List.getElem?_eq_getElem hjl, List.append_assoc, rd_at, getD_get hjl]; rfl
    rw [e] at hS ⊢
    have p6 : 0 ≤ sp (fun (y : Int) (r : List Int) => b ^ y.toNat * PS (a.drop 1) (x.take (j + 1) ++ r)) (x.drop (j + 1)) := sp_nonneg _ fun y r _ _ => Int.mul_nonneg (pow_nonneg' (by omega) _) (PS_nonneg _ _ fun c hc => by have := haa c (List.mem_of_mem_drop hc); omega)
    rw [congouref01_Power.l0, if_pos (by omega), if_pos (by omega), if_pos (by omega)]
    rw [show ((0 : Nat) : Int) = 0 by rfl] at G
    rw [G, w64 (i := _ * _) (by omega) (by omega), w64 (i := acc + _) (by omega) (by omega), ihn (j + 1) k _ (by omega) (by omega) (by omega) (by omega), Int.add_assoc]
theorem rp_f : ∀ (q : Nat) (x a : List Int) (k : Nat), x.length = q → a.length = q → q ≤ 4 → (∀ y ∈ x, 0 ≤ y ∧ y ≤ 6) → (∀ b ∈ a, 1 ≤ b ∧ b ≤ 5) → q * 100 < k → congouref01_Power.f k x a = some (PS a x) := by
  intro q
  induction q with
  | zero =>
    intro x a k hx ha _ _ _ hk
    obtain ⟨k, rfl⟩ : ∃ m, k = m + 1 := ⟨k - 1, by omega⟩
    rw [congouref01_Power.f, if_pos (by omega), List.eq_nil_of_length_eq_zero hx, List.eq_nil_of_length_eq_zero ha]
    rfl
  | succ q ih =>
    intro x a k hx ha h4 bx ba hk
    obtain ⟨k, rfl⟩ : ∃ m, k = m + 1 := ⟨k - 1, by omega⟩
    cases a with
    | nil => simp at ha
    | cons b a =>
      have ha' : a.length = q := by simpa using ha
      have hb := ba b (by simp)
      have hbd := PS_bd (b :: a) x (by omega) ba bx
      have hs := bd_small (n := (b :: a).length) (by omega)
      have L := rp_loop (x := x) (a := b :: a) (b := b) hb bx ba (by omega) (by omega) rfl (by simp) (q * 100) (fun j k hj hk2 => by
        refine ih (x.take j ++ x.drop (j + 1)) a k ?_ ha' (by omega) (fun y hy => ?_) (fun c hc => ba c (by simp [hc])) hk2
        · rw [List.length_append, List.length_take, List.length_drop]; omega
        · rcases List.mem_append.mp hy with c | c
          · exact bx y (List.mem_of_mem_take c)
          · exact bx y (List.mem_of_mem_drop c)) x.length 0 k 0 (by omega) (by omega) (by omega)
      simp only [PS] at hbd ⊢
      simp only [List.take_zero, List.nil_append, List.drop_zero, Int.zero_add, List.drop_succ_cons] at L
      rw [congouref01_Power.f, if_neg (by omega)]
      exact L (by omega)
end Go.Proofs.Ytefmafbbnkkpjaa.Pure
