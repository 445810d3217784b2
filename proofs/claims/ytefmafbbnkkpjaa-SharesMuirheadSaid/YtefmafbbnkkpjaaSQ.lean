/- Power, in both packages, is the sum over all orders. -/
import Derived.Test.YtefmafbbnkkpjaaXf25
import Derived.Test.YtefmafbbnkkpjaaSA
import Derived.Test.YtefmafbbnkkpjaaSP
namespace Go.Proofs.Ytefmafbbnkkpjaa.Pure
open Go Go.RowKit Go.Proofs.Ytefmafbbnkkpjaa.X Go.Proofs.YtefmafbbnkkpjaaW.PrintWords Go.Proofs.YtefmafbbnkkpjaaW.PrintLast
set_option linter.unusedVariables false
set_option linter.unusedSimpArgs false

/-- arguments of Power -/
structure Fw (x a : List Int) : Prop where
  sx : Sh x
  x6 : ∀ y ∈ x, y ≤ 6
  a15 : ∀ b ∈ a, 1 ≤ b ∧ b ≤ 5
  l4 : x.length ≤ 4
  hl : a.length = x.length
theorem Fw.x06 {x a : List Int} (h : Fw x a) : ∀ y ∈ x, 0 ≤ y ∧ y ≤ 6 := fun y hy => ⟨(h.sx.hb y hy).1, h.x6 y hy⟩

/-! ### bounds -/
def bd : Nat → Int
  | 0 => 1
  | n + 1 => (n + 1 : Nat) * (15625 * bd n)
theorem bd_nonneg : ∀ n, 0 ≤ bd n
  | 0 => by decide
  | n + 1 => by
    have := bd_nonneg n
    exact Int.mul_nonneg (by omega) (by omega)
theorem sp_bd {C : Int} : ∀ (l : List Int) {F : Int → List Int → Int}, (∀ y r, y ∈ l → (∀ z ∈ r, z ∈ l) → r.length + 1 = l.length → F y r ≤ C) → sp F l ≤ l.length * C
  | [], _, _ => by simp [sp]
  | x :: l, F, h => by
    have h1 := h x l (by simp) (fun z hz => by simp [hz]) (by simp)
    have h2 := sp_bd l (F := fun y r => F y (x :: r)) (fun y r hy hr hl => h y (x :: r) (by simp [hy]) (fun z hz => by
      rcases List.mem_cons.mp hz with e | e
      · simp [e]
      · simp [hr z e]) (by simp [hl]))
    simp only [sp, List.length_cons]
    have e : ((l.length + 1 : Nat) : Int) * C = l.length * C + C := by rw [Int.natCast_add, Int.add_mul]; simp
    rw [e]; omega
theorem pow_bd {b : Int} (h0 : 0 ≤ b) (h5 : b ≤ 5) {n : Nat} (hn : n ≤ 6) : 0 ≤ b ^ n ∧ b ^ n ≤ 15625 := by
  refine ⟨pow_nonneg' h0 n, Int.le_trans (pow_mono' h0 h5 n) ?_⟩
  have : n = 0 ∨ n = 1 ∨ n = 2 ∨ n = 3 ∨ n = 4 ∨ n = 5 ∨ n = 6 := by omega
  rcases this with rfl | rfl | rfl | rfl | rfl | rfl | rfl <;> decide
theorem PS_bd : ∀ (a x : List Int), a.length = x.length → (∀ b ∈ a, 1 ≤ b ∧ b ≤ 5) → (∀ y ∈ x, 0 ≤ y ∧ y ≤ 6) → PS a x ≤ bd a.length
  | [], x, h, _, _ => by
    simp only [PS]; split <;> decide
  | b :: a, x, h, ha, hx => by
    simp only [List.length_cons] at h
    simp only [PS, List.length_cons]
    have hb := ha b (by simp)
    have := sp_bd (C := 15625 * bd a.length) x (F := fun y r => b ^ y.toNat * PS a r) (fun y r hy hr hl => by
      have hy6 := hx y hy
      have p1 := pow_bd (b := b) (by omega) (by omega) (n := y.toNat) (by omega)
      have p2 := PS_bd a r (by omega) (fun c hc => ha c (by simp [hc])) (fun z hz => hx z (hr z hz))
      have p3 := PS_nonneg a r (fun c hc => by have := ha c (by simp [hc]); omega)
      exact Int.mul_le_mul p1.2 p2 p3 (by decide))
    rw [← h] at this
    exact this
theorem bd_small {n : Nat} (h : n ≤ 4) : bd n ≤ 2000000000000000000 := by
  have : n = 0 ∨ n = 1 ∨ n = 2 ∨ n = 3 ∨ n = 4 := by omega
  rcases this with rfl | rfl | rfl | rfl | rfl <;> decide

/-! ### powers -/
theorem power_l {b : Int} (h0 : 0 ≤ b) (h5 : b ≤ 5) (e : Nat) (he : e ≤ 6) : ∀ n i k, i + n = e → n < k → shares_power.l0 k b (b ^ i) (e : Int) (i : Int) = some (b ^ e) := by
  intro n
  induction n with
  | zero =>
    intro i k hi hk
    obtain ⟨k, rfl⟩ : ∃ m, k = m + 1 := ⟨k - 1, by omega⟩
    rw [shares_power.l0, if_neg (by omega), show i = e by omega]
  | succ n ih =>
    intro i k hi hk
    obtain ⟨k, rfl⟩ : ∃ m, k = m + 1 := ⟨k - 1, by omega⟩
    have p := pow_bd h0 h5 (n := i + 1) (by omega)
    rw [Int.pow_succ] at p
    rw [shares_power.l0, if_pos (by omega), w64 (i := b ^ i * b) (by omega) (by omega), ← Int.pow_succ, w64 (i := (i : Int) + 1) (by omega) (by omega), show (i : Int) + 1 = ((i + 1 : Nat) : Int) by omega]
    exact ih (i + 1) k (by omega) (by omega)
theorem power_f {b y : Int} (h0 : 0 ≤ b) (h5 : b ≤ 5) (hy0 : 0 ≤ y) (hy6 : y ≤ 6) (k : Nat) (hk : 10 < k) : shares_power.f k b y = some (b ^ y.toNat) := by
  have h := power_l h0 h5 y.toNat (by omega) y.toNat 0 k (by omega) (by omega)
  rw [Int.pow_zero, Int.toNat_of_nonneg hy0] at h
  exact h

/-! ### what is not used -/
def restM : Nat → List Int → List Int
  | _, [] => []
  | u, x :: l => if u % 2 = 0 then x :: restM (u / 2) l else restM (u / 2) l
theorem rest_split : ∀ (l : List Int) (u j : Nat), restM u l = restM u (l.take j) ++ restM (u / 2 ^ j) (l.drop j)
  | [], u, j => by simp [restM]
  | x :: l, u, 0 => by simp [restM]
  | x :: l, u, j + 1 => by
    have e : u / 2 ^ (j + 1) = u / 2 / 2 ^ j := by rw [Nat.div_div_eq_div_mul, Nat.pow_succ, Nat.mul_comm]
    rw [List.take_succ_cons, List.drop_succ_cons, e]
    simp only [restM]
    rw [rest_split l (u / 2) j]
    split <;> rfl
theorem rest_low : ∀ (l : List Int) (u j : Nat), l.length ≤ j → restM (u + 2 ^ j) l = restM u l
  | [], u, j, _ => by simp [restM]
  | x :: l, u, 0, h => by simp at h
  | x :: l, u, j + 1, h => by
    have e1 : (u + 2 ^ (j + 1)) % 2 = u % 2 := by rw [Nat.pow_succ]; omega
    have e2 : (u + 2 ^ (j + 1)) / 2 = u / 2 + 2 ^ j := by rw [Nat.pow_succ]; omega
    simp only [restM]
    rw [e1, e2, rest_low l (u / 2) j (by simpa using h)]
theorem div_succ (u j : Nat) : u / 2 ^ j / 2 = u / 2 ^ (j + 1) := by rw [Nat.div_div_eq_div_mul, Nat.pow_succ]
theorem rest_drop {l : List Int} {j : Nat} (h : j < l.length) (v : Nat) : restM v (l.drop j) = if v % 2 = 0 then rd l (j : Int) :: restM (v / 2) (l.drop (j + 1)) else restM (v / 2) (l.drop (j + 1)) := by
  rw [rd_drop h]; rfl
theorem rest_take {l : List Int} {j : Nat} (h : j < l.length) (u : Nat) : restM u (l.take (j + 1)) = restM u (l.take j) ++ (if u / 2 ^ j % 2 = 0 then [rd l (j : Int)] else []) := by
  have e1 : (l.take (j + 1)).take j = l.take j := by rw [List.take_take, Nat.min_eq_left (by omega)]
  have e2 : (l.take (j + 1)).drop j = [rd l (j : Int)] := by
    rw [List.drop_take, rd_drop h]; simp
  rw [rest_split (l.take (j + 1)) u j, e1, e2]
  simp only [restM]
theorem rest_use {l : List Int} {j : Nat} (h : j < l.length) (u : Nat) (hu : u / 2 ^ j % 2 = 0) : restM (u + 2 ^ j) l = restM u (l.take j) ++ restM (u / 2 ^ (j + 1)) (l.drop (j + 1)) := by
  have e : (u + 2 ^ j) / 2 ^ j = u / 2 ^ j + 1 := by rw [Nat.add_div_right _ (Nat.two_pow_pos j)]
  rw [rest_split l (u + 2 ^ j) j, rest_low _ _ _ (by rw [List.length_take]; omega), e, rest_drop h, if_neg (by omega), ← div_succ]
  congr 2
  omega
theorem bit_and : ∀ u : Nat, u < 16 → ∀ j : Nat, j < 4 → (Go.bits .and .i64 (shr .i64 (u : Int) (j : Int)) 1) = ((u / 2 ^ j % 2 : Nat) : Int) := by decide
theorem bit_or : ∀ u : Nat, u < 16 → ∀ j : Nat, j < 4 → u / 2 ^ j % 2 = 0 → Go.bits .or .i64 (u : Int) (shl .i64 1 (j : Int)) = ((u + 2 ^ j : Nat) : Int) ∧ u + 2 ^ j < 16 := by decide

/-! ### the program's -/
theorem pw_loop {x a : List Int} (hx : ∀ y ∈ x, 0 ≤ y ∧ y ≤ 6) (ha : ∀ b ∈ a, 1 ≤ b ∧ b ≤ 5) (l4 : x.length ≤ 4) (a4 : a.length ≤ 4) (i : Nat) (hi : i < a.length) (u : Nat) (hu : u < 16) (F : Nat)
    (hr : (restM u x).length + i = a.length)
    (ih : ∀ v k : Nat, v < 16 → (restM v x).length + (i + 1) = a.length → F < k → shares_Power_1.f k ((i + 1 : Nat) : Int) (v : Int) a x 0 = some (PS (a.drop (i + 1)) (restM v x))) :
    ∀ (n j k : Nat) (acc : Int), j + n = x.length → F + n + 20 < k → 0 ≤ acc → acc + sp (fun y r => (rd a (i : Int)) ^ y.toNat * PS (a.drop (i + 1)) (restM u (x.take j) ++ r)) (restM (u / 2 ^ j) (x.drop j)) ≤ 4000000000000000000 →
    shares_Power_1.l0 k (i : Int) (u : Int) a x 0 acc x (x.length : Int) (j : Int) = some (acc + sp (fun y r => (rd a (i : Int)) ^ y.toNat * PS (a.drop (i + 1)) (restM u (x.take j) ++ r)) (restM (u / 2 ^ j) (x.drop j))) := by
  have hb := ha _ (getD_mem hi)
  rw [← rd_at] at hb
  intro n
  induction n with
  | zero =>
    intro j k acc hj hk h0 hS
    obtain ⟨k, rfl⟩ : ∃ m, k = m + 1 := ⟨k - 1, by omega⟩
    rw [shares_Power_1.l0, if_neg (by omega), List.drop_of_length_le (l := x) (i := j) (by omega)]
    simp [restM, sp]
  | succ n ihn =>
    intro j k acc hj hk h0 hS
    obtain ⟨k, rfl⟩ : ∃ m, k = m + 1 := ⟨k - 1, by omega⟩
    have hjl : j < x.length := by omega
    have hy := hx _ (getD_mem hjl)
    rw [← rd_at] at hy
    rw [shares_Power_1.l0, if_pos (by omega), if_pos (by omega), if_pos (by omega), bit_and u hu j (by omega), w64 (i := (j : Int) + 1) (by omega) (by omega), show (j : Int) + 1 = ((j + 1 : Nat) : Int) by omega]
    rw [rest_drop hjl, div_succ] at hS ⊢
    by_cases c : u / 2 ^ j % 2 = 0
    · obtain ⟨o1, o2⟩ := bit_or u hu j (by omega) c
      have hlen := congrArg List.length (rest_split x u j)
      rw [rest_drop hjl, if_pos c, div_succ, List.length_append, List.length_cons] at hlen
      have huse := rest_use hjl u c
      have hlen2 := congrArg List.length huse
      rw [List.length_append] at hlen2
      have IH := ih (u + 2 ^ j) k o2 (by omega) (by omega)
      rw [huse] at IH
      rw [if_pos c] at hS ⊢
      rw [if_pos (by rw [c]; rfl), if_pos (by omega), if_pos (by omega), power_f (by omega) (by omega) hy.1 hy.2 k (by omega), Option.bind_some, o1, w64 (i := (i : Int) + 1) (by omega) (by omega), show (i : Int) + 1 = ((i + 1 : Nat) : Int) by omega, IH, Option.bind_some]
      simp only [sp] at hS ⊢
      have hsub : ∀ z ∈ restM u (x.take j) ++ restM (u / 2 ^ (j + 1)) (x.drop (j + 1)), True := fun _ _ => trivial
      have p3 : 0 ≤ PS (a.drop (i + 1)) (restM u (x.take j) ++ restM (u / 2 ^ (j + 1)) (x.drop (j + 1))) := PS_nonneg _ _ fun c hc => by have := ha c (List.mem_of_mem_drop hc); omega
      have p4 : 0 ≤ (rd a (i : Int)) ^ (rd x (j : Int)).toNat := pow_nonneg' (by omega) _
      have p5 := Int.mul_nonneg p4 p3
      have e : (fun (y : Int) (r : List Int) => (rd a (i : Int)) ^ y.toNat * PS (a.drop (i + 1)) (restM u (x.take j) ++ (rd x (j : Int) :: r))) = (fun (y : Int) (r : List Int) => (rd a (i : Int)) ^ y.toNat * PS (a.drop (i + 1)) (restM u (x.take (j + 1)) ++ r)) := by
        funext y r
        rw [rest_take hjl, if_pos c, List.append_assoc]; rfl
      rw [e] at hS ⊢
      have p6 : 0 ≤ sp (fun (y : Int) (r : List Int) => (rd a (i : Int)) ^ y.toNat * PS (a.drop (i + 1)) (restM u (x.take (j + 1)) ++ r)) (restM (u / 2 ^ (j + 1)) (x.drop (j + 1))) := sp_nonneg _ fun y r _ _ => Int.mul_nonneg (pow_nonneg' (by omega) _) (PS_nonneg _ _ fun c hc => by have := ha c (List.mem_of_mem_drop hc); omega)
      rw [w64 (i := _ * _) (by omega) (by omega), w64 (i := acc + _) (by omega) (by omega), ihn (j + 1) k _ (by omega) (by omega) (by omega) (by omega), Int.add_assoc]
    · rw [if_neg c] at hS ⊢
      have e : restM u (x.take j) = restM u (x.take (j + 1)) := by rw [rest_take hjl, if_neg c, List.append_nil]
      rw [if_neg (by omega)]
      rw [e] at hS ⊢
      exact ihn (j + 1) k acc (by omega) (by omega) h0 hS
theorem rest_mem : ∀ (l : List Int) (u : Nat), ∀ z ∈ restM u l, z ∈ l
  | [], u, z, h => by simp [restM] at h
  | x :: l, u, z, h => by
    simp only [restM] at h
    split at h
    · rcases List.mem_cons.mp h with e | e
      · simp [e]
      · simp [rest_mem l _ z e]
    · simp [rest_mem l _ z h]
theorem pw_f {x a : List Int} (hx : ∀ y ∈ x, 0 ≤ y ∧ y ≤ 6) (ha : ∀ b ∈ a, 1 ≤ b ∧ b ≤ 5) (l4 : x.length ≤ 4) (a4 : a.length ≤ 4) : ∀ q i u k : Nat, i + q = a.length → u < 16 → (restM u x).length = q → q * 30 < k →
    shares_Power_1.f k (i : Int) (u : Int) a x 0 = some (PS (a.drop i) (restM u x)) := by
  intro q
  induction q with
  | zero =>
    intro i u k hi hu hr hk
    obtain ⟨k, rfl⟩ : ∃ m, k = m + 1 := ⟨k - 1, by omega⟩
    rw [shares_Power_1.f, if_pos (by omega), List.drop_of_length_le (by omega), List.eq_nil_of_length_eq_zero hr]
    simp [PS]
  | succ q ih =>
    intro i u k hi hu hr hk
    obtain ⟨k, rfl⟩ : ∃ m, k = m + 1 := ⟨k - 1, by omega⟩
    have hil : i < a.length := by omega
    have hd : a.drop i = rd a (i : Int) :: a.drop (i + 1) := rd_drop hil
    have hb := PS_bd (a.drop i) (restM u x) (by rw [List.length_drop, hr]; omega) (fun b hb => ha b (List.mem_of_mem_drop hb)) (fun y hy => hx y (rest_mem x u y hy))
    have hs := bd_small (n := (a.drop i).length) (by rw [List.length_drop]; omega)
    have L := pw_loop hx ha l4 a4 i hil u hu (q * 30) (by omega) (fun v k hv hr2 hk2 => ih (i + 1) v k (by omega) hv (by omega) hk2) x.length 0 k 0 (by omega) (by omega) (by omega)
    rw [hd] at hb ⊢
    simp only [PS] at hb ⊢
    simp only [List.take_zero, restM, List.nil_append, Nat.pow_zero, Nat.div_one, List.drop_zero, Int.zero_add] at L
    rw [shares_Power_1.f, if_neg (by omega)]
    exact L (by rw [hd] at hs; omega)
theorem Power_f {x a : List Int} (hx : x.length ≤ 15) (ha : a.length ≤ 15) (k : Nat) (hk : 300 < k) : shares_Power.f k x a = some (if dc (Fw x a) = true then (PS a x, 0) else (0, 2)) := by
  have hno : ¬ Fw x a → some ((0 : Int), (2 : Int)) = some (if dc (Fw x a) = true then (PS a x, 0) else (0, 2)) := by
    intro h; rw [dc_false h, if_neg (by decide)]
  unfold shares_Power.f
  rw [are_two x a hx ha k (by omega), Option.bind_some]
  by_cases h : Two x a
  · have h1 := h.1.h1
    have h2 := h.2.1.h1
    rw [dc_true h, if_pos rfl]
    by_cases c1 : (x.length : Int) > 4
    · rw [if_pos c1]; exact hno fun f => by have := f.l4; omega
    rw [if_neg c1]
    obtain ⟨M, e1, f1⟩ := max_f x h1 (by omega) k (by omega)
    obtain ⟨m2, e2, f2⟩ := min_f a h2 (by omega) k (by omega)
    obtain ⟨M3, e3, f3⟩ := max_f a h2 (by omega) k (by omega)
    rw [e1, Option.bind_some]
    have g1 := f1 6
    have g2 := f2 1
    have g3 := f3 5
    by_cases c2 : M > 6
    · rw [if_pos c2]; exact hno fun f => absurd (g1.mpr f.x6) (by omega)
    rw [if_neg c2, e2, Option.bind_some]
    by_cases c3 : m2 < 1
    · rw [if_pos c3]; exact hno fun f => absurd (g2.mpr fun b hb => (f.a15 b hb).1) (by omega)
    rw [if_neg c3, e3, Option.bind_some]
    by_cases c4 : M3 > 5
    · rw [if_pos c4]; exact hno fun f => absurd (g3.mpr fun b hb => (f.a15 b hb).2) (by omega)
    rw [if_neg c4]
    have F : Fw x a := ⟨h.1, g1.mp (by omega), fun b hb => ⟨g2.mp (by omega) b hb, g3.mp (by omega) b hb⟩, by omega, h.2.2.symm⟩
    have r0 : restM 0 x = x := by
      clear f1 g1 e1 F h h1 hx c1 hno
      induction x with
      | nil => rfl
      | cons y l ih => simp [restM, ih]
    have P := pw_f F.x06 F.a15 F.l4 (by rw [F.hl]; exact F.l4) a.length 0 0 k (by omega) (by omega) (by rw [r0]; exact F.hl.symm) (by have := F.l4; have := F.hl; omega)
    rw [r0, List.drop_zero] at P
    rw [dc_true F, if_pos rfl]
    rw [show ((0 : Nat) : Int) = 0 by rfl] at P
    rw [P, Option.bind_some]
  · rw [dc_false h, if_neg (by decide)]
    refine hno fun f => h ⟨f.sx, ⟨by rw [f.hl]; exact f.sx.h1, by rw [f.hl]; exact f.sx.h6, fun b hb => by have := f.a15 b hb; omega⟩, f.hl.symm⟩

/-! ### the reference's questions -/
theorem few_l1 (x a : List Int) (hx : x.length ≤ 9223372036854775807) (ha : a.length ≤ 9223372036854775807) : ∀ n i k, i + n = a.length → n + x.length + 1 < k →
    congouref01_Few.l1 k x a a (a.length : Int) (i : Int) = some (dc ((∀ b ∈ a.drop i, 1 ≤ b ∧ b ≤ 5) ∧ Sh x ∧ x.length ≤ 4 ∧ a.length = x.length)) := by
  intro n
  induction n with
  | zero =>
    intro i k hi hk
    obtain ⟨k, rfl⟩ : ∃ m, k = m + 1 := ⟨k - 1, by omega⟩
    have h0 : ∀ b ∈ a.drop i, 1 ≤ b ∧ b ≤ 5 := by rw [List.drop_of_length_le (by omega)]; simp
    rw [congouref01_Few.l1, if_neg (by omega), rsh_f x hx k (by omega), Option.bind_some]
    by_cases c : Sh x
    · rw [dc_true c, if_pos rfl]
      by_cases d : x.length ≤ 4
      · rw [if_pos (by omega)]
        by_cases e : a.length = x.length
        · rw [dc_true ⟨h0, c, d, e⟩, e]; simp
        · rw [dc_false fun h => e h.2.2.2]; simp; omega
      · rw [if_neg (by omega), dc_false fun h => d h.2.2.1]
    · rw [dc_false c, if_neg (by decide), dc_false fun h => c h.2.1]
  | succ n ih =>
    intro i k hi hk
    obtain ⟨k, rfl⟩ : ∃ m, k = m + 1 := ⟨k - 1, by omega⟩
    rw [congouref01_Few.l1, if_pos (by omega), if_pos (by omega), if_pos (by omega), w64 (by omega) (by omega), show (i : Int) + 1 = ((i + 1 : Nat) : Int) by omega, ih (i + 1) k (by omega) (by omega), rd_drop (l := a) (i := i) (by omega)]
    simp only [List.forall_mem_cons]
    split
    · rw [dc_false (by omega)]
    · split
      · rw [dc_false (by omega)]
      · congr 1; apply dc_congr
        exact ⟨fun ⟨p, q⟩ => ⟨⟨by omega, p⟩, q⟩, fun ⟨p, q⟩ => ⟨p.2, q⟩⟩
theorem few_l0 (x a : List Int) (hx : x.length ≤ 9223372036854775807) (ha : a.length ≤ 9223372036854775807) : ∀ n i k, i + n = x.length → n + a.length + x.length + 2 < k →
    congouref01_Few.l0 k x a x (x.length : Int) (i : Int) = some (dc ((∀ y ∈ x.drop i, y ≤ 6) ∧ (∀ b ∈ a, 1 ≤ b ∧ b ≤ 5) ∧ Sh x ∧ x.length ≤ 4 ∧ a.length = x.length)) := by
  intro n
  induction n with
  | zero =>
    intro i k hi hk
    obtain ⟨k, rfl⟩ : ∃ m, k = m + 1 := ⟨k - 1, by omega⟩
    have h0 : ∀ y ∈ x.drop i, y ≤ 6 := by rw [List.drop_of_length_le (by omega)]; simp
    have L := few_l1 x a hx ha a.length 0 k (by omega) (by omega)
    rw [List.drop_zero] at L
    rw [congouref01_Few.l0, if_neg (by omega)]
    refine L.trans ?_
    congr 1; apply dc_congr
    exact ⟨fun h => ⟨h0, h⟩, fun h => h.2⟩
  | succ n ih =>
    intro i k hi hk
    obtain ⟨k, rfl⟩ : ∃ m, k = m + 1 := ⟨k - 1, by omega⟩
    rw [congouref01_Few.l0, if_pos (by omega), if_pos (by omega), if_pos (by omega), w64 (by omega) (by omega), show (i : Int) + 1 = ((i + 1 : Nat) : Int) by omega, ih (i + 1) k (by omega) (by omega), rd_drop (l := x) (i := i) (by omega)]
    simp only [List.forall_mem_cons]
    split
    · rw [dc_false (by omega)]
    · congr 1; apply dc_congr
      exact ⟨fun ⟨p, q⟩ => ⟨⟨by omega, p⟩, q⟩, fun ⟨p, q⟩ => ⟨p.2, q⟩⟩
theorem Few_f (x a : List Int) (hx : x.length ≤ 9223372036854775807) (ha : a.length ≤ 9223372036854775807) (k : Nat) (hk : 2 * x.length + a.length + 2 < k) : congouref01_Few.f k x a = some (dc (Fw x a)) := by
  have L := few_l0 x a hx ha x.length 0 k (by omega) (by omega)
  rw [List.drop_zero] at L
  refine Eq.trans L ?_
  congr 1; apply dc_congr
  exact ⟨fun h => ⟨h.2.2.1, h.1, h.2.1, h.2.2.2.1, h.2.2.2.2⟩, fun h => ⟨h.x6, h.a15, h.sx, h.l4, h.hl⟩⟩
theorem fw_take {x a : List Int} : Fw (x.take 15) (a.take 15) ↔ Fw x a := by
  constructor
  · intro h
    have sx := sh_take.mp h.sx
    have e := sh_same sx
    have hl := h.hl
    rw [e] at h
    have l4 := h.l4
    rcases take_or a with ⟨_, ea⟩ | ⟨_, ea⟩
    · rw [ea] at h; exact h
    · have := h.hl; omega
  · intro h
    have l4 := h.l4
    have hl := h.hl
    rw [sh_same h.sx, List.take_of_length_le (l := a) (by omega)]
    exact h
theorem fw_same {x a : List Int} (h : Fw x a) : a.take 15 = a := List.take_of_length_le (by have := h.l4; have := h.hl; omega)
end Go.Proofs.Ytefmafbbnkkpjaa.Pure
