/- What Add and the reference's Add compute, as plain functions. -/
import Derived.Test.YtdffhffhnjkcpaaS6
namespace Go.Proofs.Ytdffhffhnjkcpaa.X
open Go.RowKit Go.Proofs.YtdffhffhnjkcpaaW.PrintWords Go.Proofs.YtdffhffhnjkcpaaW.PrintLast Go.Proofs.YtdffhffhnjkcpaaW.PrintMore
set_option linter.unusedVariables false
set_option linter.unusedSimpArgs false

def addR (a b : List Int) : List Int := List.zipWith (· + ·) a b
def addT (s t : List (List Int)) : List (List Int) := List.zipWith addR s t

theorem Add_l1 (t acc x38 : List (List Int)) (x39 x40 : Int) (ys : List Int) : ∀ (zs p q : List Int) (k : Nat), p.length = q.length → ys.length = zs.length → p.length + ys.length ≤ 100 → (∀ x ∈ ys, 0 ≤ x ∧ x ≤ 80) → (∀ x ∈ zs, 0 ≤ x ∧ x ≤ 80) →
    sketch_Add.l1 (k + ys.length + 1) t acc (p ++ ys) x38 x39 x40 (q ++ zs) ((q ++ zs).length : Int) (p.length : Int) = if acc.length < 5864062014805 then sketch_Add.l0 k t (acc ++ [p ++ addR ys zs]) x38 x39 (wrap64 (x40 + 1)) else none := by
  induction ys with
  | nil =>
    intro zs p q k hpq hyz hl hy hz
    obtain rfl : zs = [] := List.eq_nil_of_length_eq_zero hyz.symm
    simp only [sketch_Add.l1]
    rw [if_neg (by simp only [List.append_nil]; omega)]
    simp [addR]
  | cons a ys ih =>
    intro zs p q k hpq hyz hl hy hz
    obtain ⟨b, zs, rfl⟩ : ∃ b zs', zs = b :: zs' := by
      cases zs with
      | nil => simp at hyz
      | cons b zs' => exact ⟨b, zs', rfl⟩
    have ha := hy a (by simp)
    have hb := hz b (by simp)
    simp only [List.length_cons] at hyz hl
    have hn := ih zs (p ++ [a + b]) (q ++ [b]) k (by simp; omega) (by omega) (by simp; omega) (fun x hx => hy x (by simp [hx])) (fun x hx => hz x (by simp [hx]))
    rw [show k + (a :: ys).length + 1 = (k + ys.length + 1) + 1 by simp; omega]
    generalize k + ys.length + 1 = m at hn ⊢
    simp only [sketch_Add.l1]
    have hlq : ((q ++ b :: zs).length : Int) = q.length + zs.length + 1 := by simp; omega
    have hlp : ((p ++ a :: ys).length : Int) = p.length + ys.length + 1 := by simp; omega
    rw [if_pos (by omega), if_pos (by omega), if_pos (by omega), if_pos (by omega), rd_mid, hpq, rd_mid, ← hpq, Int.toNat_natCast, set_mid, w64 (i := a + b) (by omega) (by omega), w64 (i := (p.length : Int) + 1) (by omega) (by omega)]
    simp only [List.append_assoc, List.singleton_append, List.length_append, List.length_singleton] at hn
    rw [show ((p.length : Int) + 1) = ((p.length + 1 : Nat) : Int) by omega]
    rw [show ((q ++ b :: zs).length : Int) = ((q.length + ([b] ++ zs).length : Nat) : Int) by simp] 
    simpa [addR] using hn
theorem Add_l0 (ys : List (List Int)) : ∀ (zs p q acc : List (List Int)) (k : Nat), p.length = q.length → ys.length = zs.length → p.length + ys.length ≤ 4 → acc.length = p.length →
    (∀ r ∈ ys, r.length ≤ 8 ∧ ∀ x ∈ r, 0 ≤ x ∧ x ≤ 80) → (∀ r ∈ zs, ∀ x ∈ r, 0 ≤ x ∧ x ≤ 80) → (∀ j (h : j < ys.length) (h2 : j < zs.length), ys[j].length = zs[j].length) → 40 ≤ k →
    sketch_Add.l0 (k + 10 * ys.length) (q ++ zs) acc (p ++ ys) ((p ++ ys).length : Int) (p.length : Int) = some (if tabB (acc ++ addT ys zs) = true then (acc ++ addT ys zs, 0) else ([], 4)) := by
  induction ys with
  | nil =>
    intro zs p q acc k hpq hyz hl ha hy hz hlen hk
    obtain rfl : zs = [] := List.eq_nil_of_length_eq_zero hyz.symm
    obtain ⟨k, rfl⟩ : ∃ m, k = m + 1 := ⟨k - 1, by omega⟩
    simp only [List.length_nil, Nat.mul_zero, Nat.add_zero, sketch_Add.l0, List.append_nil]
    rw [if_neg (by omega), isTable_f _ _ (by omega)]
    simp only [addT, List.zipWith_nil_left, List.append_nil, Option.bind_some]
    split <;> rfl
  | cons a ys ih =>
    intro zs p q acc k hpq hyz hl ha hy hz hlen hk
    obtain ⟨b, zs, rfl⟩ : ∃ b zs', zs = b :: zs' := by
      cases zs with
      | nil => simp at hyz
      | cons b zs' => exact ⟨b, zs', rfl⟩
    simp only [List.length_cons] at hyz hl
    have hab : a.length = b.length := hlen 0 (by simp) (by simp)
    have ha8 := hy a (by simp)
    have hb8 := hz b (by simp)
    have hn := ih zs (p ++ [a]) (q ++ [b]) (acc ++ [addR a b]) (k + 8 - a.length) (by simp; omega) (by omega) (by simp; omega) (by simp; omega) (fun r hr => hy r (by simp [hr])) (fun r hr => hz r (by simp [hr])) (fun j h h2 => by
      have := hlen (j + 1) (by simp; omega) (by simp; omega)
      simpa using this) (by omega)
    obtain ⟨m, hm, hm2⟩ : ∃ m, k + 10 * (a :: ys).length = (m + a.length + 1) + 1 ∧ m = k + 8 - a.length + 10 * ys.length := ⟨k + 8 - a.length + 10 * ys.length, by simp; omega, rfl⟩
    rw [hm]
    rw [← hm2] at hn
    rw [sketch_Add.l0]
    have hlp : ((p ++ a :: ys).length : Int) = p.length + ys.length + 1 := by simp; omega
    have hlq : ((q ++ b :: zs).length : Int) = q.length + zs.length + 1 := by simp; omega
    rw [if_pos (by omega), if_pos (by omega), if_pos (by omega), rdL_mid, Clone_f a (by omega)]
    simp only [Option.bind_some]
    rw [if_pos (by omega), hpq, rdL_mid, ← hpq]
    have h1 := Add_l1 (q ++ b :: zs) acc (p ++ a :: ys) ((p ++ a :: ys).length : Int) (p.length : Int) a b [] [] m rfl hab (by simp; omega) ha8.2 hb8
    simp only [List.nil_append, List.length_nil] at h1
    rw [show ((0 : Nat) : Int) = 0 from rfl] at h1
    rw [h1, if_pos (by omega), w64 (by omega) (by omega)]
    rw [show ((p.length : Int) + 1) = (((p ++ [a]).length : Nat) : Int) by simp, List.append_cons p a ys, List.append_cons q b zs]
    have he : acc ++ addT (a :: ys) (b :: zs) = acc ++ [addR a b] ++ addT ys zs := by simp [addT]
    rw [he]
    exact hn
def sameB (s t : List (List Int)) : Prop := tabB s = true ∧ tabB t = true ∧ s.length = t.length ∧ (rd_L1 s 0).length = (rd_L1 t 0).length
instance (s t : List (List Int)) : Decidable (sameB s t) := by unfold sameB; infer_instance
theorem same_rows {s t : List (List Int)} (h : sameB s t) : ∀ j (h1 : j < s.length) (h2 : j < t.length), s[j].length = t[j].length := by
  obtain ⟨hs, ht, hl, h0⟩ := h
  intro j h1 h2
  have h3 := ((tabB_iff s).mp hs).2 s[j] (List.getElem_mem _)
  have h4 := ((tabB_iff t).mp ht).2 t[j] (List.getElem_mem _)
  omega
theorem Add_f (s t : List (List Int)) (k : Nat) (hk : 100 < k) :
    sketch_Add.f k s t = some (if sameB s t then (if tabB (addT s t) = true then (addT s t, 0) else ([], 4)) else ([], 2)) := by
  obtain ⟨k, rfl⟩ : ∃ m, k = m + 1 := ⟨k - 1, by omega⟩
  have hj : sketch_Add.j0 (k + 1) s t true = some ([], 2) := by simp [sketch_Add.j0]
  unfold sketch_Add.f
  rw [isTable_f s _ (by omega), isTable_f t _ (by omega)]
  simp only [Option.bind_some]
  cases hs : tabB s with
  | false => rw [if_neg (by decide), hj, if_neg (fun h => by have := h.1; rw [hs] at this; cases this)]
  | true =>
    rw [if_pos rfl]
    cases ht : tabB t with
    | false => rw [if_neg (by decide), hj, if_neg (fun h => by have := h.2.1; rw [ht] at this; cases this)]
    | true =>
      rw [if_pos rfl]
      obtain ⟨hs1, hs2⟩ := (tabB_iff s).mp hs
      obtain ⟨ht1, ht2⟩ := (tabB_iff t).mp ht
      by_cases hl : (s.length : Int) = (t.length : Int)
      · rw [if_pos hl, if_pos (by omega), if_pos (by omega)]
        by_cases h0 : (rd_L1 s 0).length = (rd_L1 t 0).length
        · have hsame : sameB s t := ⟨hs, ht, by omega, h0⟩
          rw [if_pos hsame, h0]
          have h := Add_l0 s t [] [] [] (k - 10 * s.length) rfl (by omega) (by simp; omega) rfl (fun r hr => ⟨(hs2 r hr).1.2.2, (hs2 r hr).2⟩) (fun r hr => (ht2 r hr).2) (same_rows hsame) (by omega)
          rw [show k - 10 * s.length + 10 * s.length = k by omega] at h
          simp only [List.nil_append, List.length_nil] at h
          simp only [sketch_Add.j0]
          simpa using h
        · rw [if_neg (fun h => h0 h.2.2.2)]
          have : (((rd_L1 s 0).length : Int) != ((rd_L1 t 0).length : Int)) = true := by simp; omega
          rw [this, hj]
      · rw [if_neg hl, hj, if_neg (fun h => hl (by have := h.2.2.1; omega))]

def okR (r : List Int) : Bool := r.all (fun x => decide (x ≤ 80))
theorem RAdd_l1 (t acc x12 : List (List Int)) (x13 x14 : Int) (b : List Int) (r : Nat) (hr : r < t.length) (hb : rd_L1 t (r : Int) = b) (ys : List Int) : ∀ (zs p q sums : List Int) (k : Nat), b = q ++ zs → p.length = q.length → ys.length = zs.length → p.length + ys.length ≤ 100 → sums.length ≤ p.length → (∀ x ∈ ys, 0 ≤ x ∧ x ≤ 80) → (∀ x ∈ zs, 0 ≤ x ∧ x ≤ 80) →
    congouref03_Add.l1 (k + ys.length + 1) t acc (r : Int) sums x12 x13 x14 (p ++ ys) ((p ++ ys).length : Int) (p.length : Int) = if okR (addR ys zs) = true then (if acc.length < 5864062014805 then congouref03_Add.l0 k t (acc ++ [sums ++ addR ys zs]) x12 x13 (wrap64 (x14 + 1)) else none) else some ([], 4) := by
  induction ys with
  | nil =>
    intro zs p q sums k hbq hpq hyz hl hsl hy hz
    obtain rfl : zs = [] := List.eq_nil_of_length_eq_zero hyz.symm
    simp only [congouref03_Add.l1]
    rw [if_neg (by simp only [List.append_nil]; omega)]
    simp [addR, okR]
  | cons a ys ih =>
    intro zs p q sums k hbq hpq hyz hl hsl hy hz
    obtain ⟨c, zs, rfl⟩ : ∃ b zs', zs = b :: zs' := by
      cases zs with
      | nil => simp at hyz
      | cons b zs' => exact ⟨b, zs', rfl⟩
    have ha := hy a (by simp)
    have hc := hz c (by simp)
    simp only [List.length_cons] at hyz hl
    have hn := ih zs (p ++ [a]) (q ++ [c]) (sums ++ [a + c]) k (by rw [hbq]; simp) (by simp; omega) (by omega) (by simp; omega) (by simp; omega) (fun x hx => hy x (by simp [hx])) (fun x hx => hz x (by simp [hx]))
    rw [show k + (a :: ys).length + 1 = (k + ys.length + 1) + 1 by simp; omega]
    generalize k + ys.length + 1 = m at hn ⊢
    simp only [congouref03_Add.l1]
    have hlp : ((p ++ a :: ys).length : Int) = p.length + ys.length + 1 := by simp; omega
    have hlb : (b.length : Int) = q.length + zs.length + 1 := by rw [hbq]; simp; omega
    rw [if_pos (by omega), if_pos (by omega), if_pos (by omega), if_pos (by omega), if_pos (by omega), hb, if_pos (by omega), rd_mid]
    have hrb : rd b (p.length : Int) = c := by rw [hbq, hpq, rd_mid]
    rw [hrb, w64 (i := a + c) (by omega) (by omega), w64 (i := (p.length : Int) + 1) (by omega) (by omega)]
    have hadd : addR (a :: ys) (c :: zs) = (a + c) :: addR ys zs := rfl
    rw [hadd]
    by_cases h80 : a + c > 80
    · rw [if_pos h80]
      have : okR ((a + c) :: addR ys zs) = false := by
        unfold okR
        rw [List.all_cons, decide_eq_false (by omega)]
        rfl
      rw [this, if_neg (by decide)]
    · rw [if_neg h80, if_pos (by omega)]
      have : okR ((a + c) :: addR ys zs) = okR (addR ys zs) := by
        unfold okR
        rw [List.all_cons, decide_eq_true (show a + c ≤ 80 by omega), Bool.true_and]
      rw [this, show ((p.length : Int) + 1) = (((p ++ [a]).length : Nat) : Int) by simp, List.append_cons p a ys, List.append_cons sums (a + c) (addR ys zs)]
      exact hn
theorem RAdd_l0 (t : List (List Int)) (ys : List (List Int)) : ∀ (zs p q acc : List (List Int)) (k : Nat), t = q ++ zs → p.length = q.length → ys.length = zs.length → p.length + ys.length ≤ 4 → acc.length = p.length →
    (∀ r ∈ ys, r.length ≤ 8 ∧ ∀ x ∈ r, 0 ≤ x ∧ x ≤ 80) → (∀ r ∈ zs, ∀ x ∈ r, 0 ≤ x ∧ x ≤ 80) → (∀ j (h : j < ys.length) (h2 : j < zs.length), ys[j].length = zs[j].length) → 40 ≤ k →
    congouref03_Add.l0 (k + 10 * ys.length) t acc (p ++ ys) ((p ++ ys).length : Int) (p.length : Int) = some (if (addT ys zs).all okR = true then (acc ++ addT ys zs, 0) else ([], 4)) := by
  induction ys with
  | nil =>
    intro zs p q acc k ht hpq hyz hl ha hy hz hlen hk
    obtain rfl : zs = [] := List.eq_nil_of_length_eq_zero hyz.symm
    obtain ⟨k, rfl⟩ : ∃ m, k = m + 1 := ⟨k - 1, by omega⟩
    simp only [List.length_nil, Nat.mul_zero, Nat.add_zero, congouref03_Add.l0, List.append_nil]
    rw [if_neg (by omega)]
    simp [addT]
  | cons a ys ih =>
    intro zs p q acc k ht hpq hyz hl ha hy hz hlen hk
    obtain ⟨b, zs, rfl⟩ : ∃ b zs', zs = b :: zs' := by
      cases zs with
      | nil => simp at hyz
      | cons b zs' => exact ⟨b, zs', rfl⟩
    simp only [List.length_cons] at hyz hl
    have hab : a.length = b.length := hlen 0 (by simp) (by simp)
    have ha8 := hy a (by simp)
    have hb8 := hz b (by simp)
    have hn := ih zs (p ++ [a]) (q ++ [b]) (acc ++ [addR a b]) (k + 8 - a.length) (by rw [ht]; simp) (by simp; omega) (by omega) (by simp; omega) (by simp; omega) (fun r hr => hy r (by simp [hr])) (fun r hr => hz r (by simp [hr])) (fun j h h2 => by
      have := hlen (j + 1) (by simp; omega) (by simp; omega)
      simpa using this) (by omega)
    obtain ⟨m, hm, hm2⟩ : ∃ m, k + 10 * (a :: ys).length = (m + a.length + 1) + 1 ∧ m = k + 8 - a.length + 10 * ys.length := ⟨k + 8 - a.length + 10 * ys.length, by simp; omega, rfl⟩
    rw [hm]
    rw [← hm2] at hn
    rw [congouref03_Add.l0]
    have hlp : ((p ++ a :: ys).length : Int) = p.length + ys.length + 1 := by simp; omega
    rw [if_pos (by omega), if_pos (by omega), if_pos (by omega), rdL_mid]
    have hrt : rd_L1 t (p.length : Int) = b := by rw [ht, hpq, rdL_mid]
    have h1 := RAdd_l1 t acc (p ++ a :: ys) ((p ++ a :: ys).length : Int) (p.length : Int) b p.length (by rw [ht]; simp; omega) hrt a b [] [] [] m rfl rfl hab (by simp; omega) (by simp) ha8.2 hb8
    simp only [List.nil_append, List.length_nil] at h1
    rw [show ((0 : Nat) : Int) = 0 from rfl] at h1
    have he : addT (a :: ys) (b :: zs) = addR a b :: addT ys zs := rfl
    rw [h1, he, List.all_cons]
    cases hok : okR (addR a b) with
    | false =>
      rw [if_neg (by decide), Bool.false_and, if_neg (by decide)]
    | true =>
      rw [if_pos rfl, if_pos (by omega), w64 (by omega) (by omega), Bool.true_and, show ((p.length : Int) + 1) = (((p ++ [a]).length : Nat) : Int) by simp, List.append_cons p a ys, List.append_cons acc (addR a b) (addT ys zs)]
      exact hn
theorem addT_tab {s t : List (List Int)} (h : sameB s t) : tabB (addT s t) = (addT s t).all okR := by
  have hrows := same_rows h
  obtain ⟨hs, ht, hl, h0⟩ := h
  obtain ⟨hs1, hs2⟩ := (tabB_iff s).mp hs
  obtain ⟨ht1, ht2⟩ := (tabB_iff t).mp ht
  have hlen : (addT s t).length = s.length := by simp [addT]; omega
  have hmem : ∀ r ∈ addT s t, r.length = (rd_L1 s 0).length ∧ ∀ x ∈ r, 0 ≤ x := by
    intro r hr
    obtain ⟨j, hj, rfl⟩ := List.getElem_of_mem hr
    rw [hlen] at hj
    have he : (addT s t)[j] = addR s[j] (t[j]'(by omega)) := by simp [addT]
    have h3 := hs2 s[j] (List.getElem_mem _)
    have h4 := ht2 (t[j]'(by omega)) (List.getElem_mem _)
    have h5 := hrows j hj (by omega)
    rw [he]
    refine ⟨by simp [addR]; omega, ?_⟩
    intro x hx
    obtain ⟨i, hi, rfl⟩ := List.getElem_of_mem hx
    simp only [addR, List.length_zipWith] at hi
    have he2 : (addR s[j] (t[j]'(by omega)))[i]'(by simp [addR]; omega) = s[j][i]'(by omega) + (t[j]'(by omega))[i]'(by omega) := by simp [addR]
    rw [he2]
    have h6 := h3.2 _ (List.getElem_mem (show i < s[j].length by omega))
    have h7 := h4.2 _ (List.getElem_mem (show i < (t[j]'(by omega)).length by omega))
    omega
  rw [Bool.eq_iff_iff, tabB_iff, List.all_eq_true]
  have h00 : rd_L1 (addT s t) 0 ∈ addT s t := by
    rw [show (0 : Int) = ((0 : Nat) : Int) from rfl, rdL_nat _ 0 (by omega)]
    exact List.getElem_mem _
  have h000 := (hmem _ h00).1
  have h8 : (1 ≤ (rd_L1 s 0).length ∧ (rd_L1 s 0).length ≤ 8) := by
    have : rd_L1 s 0 ∈ s := by
      rw [show (0 : Int) = ((0 : Nat) : Int) from rfl, rdL_nat _ 0 (by omega)]
      exact List.getElem_mem _
    exact (hs2 _ this).1.2
  constructor
  · rintro ⟨_, h9⟩ r hr
    unfold okR
    rw [List.all_eq_true]
    intro x hx
    exact decide_eq_true ((h9 r hr).2 x hx).2
  · intro h9
    refine ⟨by omega, fun r hr => ⟨?_, fun x hx => ⟨(hmem r hr).2 x hx, ?_⟩⟩⟩
    · have := (hmem r hr).1
      omega
    · have := List.all_eq_true.mp (h9 r hr) x hx
      exact of_decide_eq_true this
theorem RAdd_f (s t : List (List Int)) (h : sameB s t) (k : Nat) (hk : 100 < k) : congouref03_Add.f k s t = some (if tabB (addT s t) = true then (addT s t, 0) else ([], 4)) := by
  have hrows := same_rows h
  rw [addT_tab h]
  obtain ⟨hs, ht, hl, h0⟩ := h
  obtain ⟨hs1, hs2⟩ := (tabB_iff s).mp hs
  obtain ⟨ht1, ht2⟩ := (tabB_iff t).mp ht
  have h := RAdd_l0 t s t [] [] [] (k - 10 * s.length) rfl rfl hl (by simp; omega) rfl (fun r hr => ⟨(hs2 r hr).1.2.2, (hs2 r hr).2⟩) (fun r hr => (ht2 r hr).2) hrows (by omega)
  rw [show k - 10 * s.length + 10 * s.length = k by omega] at h
  simp only [List.nil_append, List.length_nil] at h
  unfold congouref03_Add.f
  simpa using h
end Go.Proofs.Ytdffhffhnjkcpaa.X
