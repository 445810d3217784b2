/- Slope and Means answer as the law asks. -/
import Derived.Test.YtpnocmkpeogifaaSC
import Derived.Test.YtpnocmkpeogifaaXf11
namespace Go.Proofs.Ytpnocmkpeogifaa.Pure
open Go.RowKit Go.Proofs.Ytpnocmkpeogifaa.X Go.Proofs.YtpnocmkpeogifaaW.PrintWords Go.Proofs.YtpnocmkpeogifaaW.PrintLast
set_option linter.unusedVariables false
set_option linter.unusedSimpArgs false

theorem eqi_l0 (l : List Int) (hL : l.length < 4611686018427387904) : ∀ n k i, i + n = l.length → n < k → slices_Equal_int_int.l0 k l l l.length (i : Nat) = some true := by
  intro n
  induction n with
  | zero =>
    intro k i hi hk
    obtain ⟨k, rfl⟩ : ∃ m, k = m + 1 := ⟨k - 1, by omega⟩
    rw [slices_Equal_int_int.l0, if_neg (by omega)]
  | succ n ih =>
    intro k i hi hk
    obtain ⟨k, rfl⟩ : ∃ m, k = m + 1 := ⟨k - 1, by omega⟩
    rw [slices_Equal_int_int.l0, if_pos (by omega), if_pos (by omega), if_pos (by omega), if_pos (by omega), if_pos rfl, w64 (by omega) (by omega)]
    exact ih k (i + 1) (by omega) (by omega)
theorem eqi_f {k : Nat} (l : List Int) (hL : l.length < 4611686018427387904) (hk : l.length < k) : slices_Equal_int_int.f k l l = some true := by
  rw [slices_Equal_int_int.f, if_pos rfl]
  exact eqi_l0 l hL l.length k 0 (by omega) hk
/-- fractions as the lists of both packages -/
def lm (f : Nat → Rat) (m : Nat) : List S26 := (List.range m).map (fun i => s26 (f i))
theorem lm_len (f : Nat → Rat) (m : Nat) : (lm f m).length = m := by simp [lm]
theorem lm_succ (f : Nat → Rat) (m : Nat) : lm f (m + 1) = lm f m ++ [s26 (f m)] := by simp [lm, List.range_succ]
def lm7 (f : Nat → Rat) (m : Nat) : List S76 := (List.range m).map (fun i => s76 (f i))
theorem lm7_len (f : Nat → Rat) (m : Nat) : (lm7 f m).length = m := by simp [lm7]
theorem lm7_succ (f : Nat → Rat) (m : Nat) : lm7 f (m + 1) = lm7 f m ++ [s76 (f m)] := by simp [lm7, List.range_succ]
theorem lm7_rd {f : Nat → Rat} {m i : Nat} (h : i < m) : rd_T76 (lm7 f m) (i : Int) = s76 (f i) := by
  simp [rd_T76, lm7, List.getD_eq_getElem?_getD, List.getElem?_map, List.getElem?_range h]
theorem told7_l0 {f : Nat → Rat} {m : Nat} (hm : m ≤ 1000) : ∀ n k i, i + n = m → n < k → curves_told.l0 k (lm f i) (lm7 f m) m i = some (lm f m) := by
  intro n
  induction n with
  | zero =>
    intro k i hi hk
    obtain ⟨k, rfl⟩ : ∃ m, k = m + 1 := ⟨k - 1, by omega⟩
    rw [curves_told.l0, if_neg (by omega), show i = m by omega]
  | succ n ih =>
    intro k i hi hk
    obtain ⟨k, rfl⟩ : ∃ m, k = m + 1 := ⟨k - 1, by omega⟩
    have IH := ih k (i + 1) (by omega) (by omega)
    rw [lm_succ] at IH
    rw [curves_told.l0, if_pos (by omega), if_pos (by omega), if_pos (by rw [lm7_len]; omega), if_pos (by rw [lm_len]; omega), lm7_rd (by omega), w64 (by omega) (by omega)]
    exact IH
theorem told7_f {k : Nat} {f : Nat → Rat} {m : Nat} (hm : m ≤ 20) (hk : 20 < k) : curves_told.f k (lm7 f m) = some (lm f m) := by
  rw [curves_told.f, lm7_len]
  exact told7_l0 (by omega) m k 0 (by omega) (by omega)
/-- a slope -/
def slq (d : Nat) (K P : List Int) (i : Nat) : Rat := Rat.divInt ((d : Int) * (rd P ((i + 1 : Nat) : Int) - rd P (i : Int))) (kn K (i + d + 1) - kn K (i + 1))
theorem slope_num {d : Nat} {K P : List Int} (V : VP d K P) (i : Nat) (hi : i + 1 < P.length) : (rd P ((i + 1 : Nat) : Int) - rd P (i : Int)).natAbs ≤ 100 ∧ ((d : Int) * (rd P ((i + 1 : Nat) : Int) - rd P (i : Int))).natAbs ≤ 300 := by
  obtain ⟨p1, p2⟩ := V.hP _ (rd_mem hi)
  obtain ⟨q1, q2⟩ := V.hP _ (rd_mem (show i < P.length by omega))
  have hd := V.hd
  have : (rd P ((i + 1 : Nat) : Int) - rd P (i : Int)).natAbs ≤ 100 := by omega
  exact ⟨this, natAbs_mul_le (A := 3) (by omega) this (by omega)⟩
theorem slope_l0 {d : Nat} {K P : List Int} (V : VP d K P) (hd1 : 1 ≤ d) : ∀ n k (i : Nat), i + n + 1 = P.length → n + KG + 200 < k →
    curves_Slope.l0 k (lm (slq d K P) i) d ((P.length - 1 : Nat) : Int) i d K P = some ((d : Int) - 1, (K.take (K.length - 1)).drop 1, lm (slq d K P) (P.length - 1), 0) := by
  have hK := V.hK
  have h8 := V.h8
  have hd := V.hd
  intro n
  induction n with
  | zero =>
    intro k i hi hk
    obtain ⟨k, rfl⟩ : ∃ m, k = m + 1 := ⟨k - 1, by omega⟩
    rw [curves_Slope.l0, if_neg (by omega), w64 (i := (K.length : Int) - 1) (by omega) (by omega), if_pos (by omega), if_pos (by omega), slices_Clone_int_int.f, Option.bind_some, if_pos (by simp; omega), Option.bind_some, w64 (by omega) (by omega), List.nil_append,
      show ((K.length : Int) - 1).toNat = K.length - 1 by omega, show i = P.length - 1 by omega]
  | succ n ih =>
    intro k i hi hk
    obtain ⟨k, rfl⟩ : ∃ m, k = m + 1 := ⟨k - 1, by omega⟩
    have IH := ih k (i + 1) (by omega) (by omega)
    rw [lm_succ] at IH
    have z1 := V.h0 (i + d + 1)
    have z2 := V.h0 (i + 1)
    have m1 := kn_le V.mono (i + 1) (i + d + 1) (by omega)
    obtain ⟨s1, s2⟩ := slope_num V i (by omega)
    rw [curves_Slope.l0, if_pos (by omega), of_one (by omega) (by omega) (by omega), Option.bind_some, w64 (i := (i : Int) + d) (by omega) (by omega), w64 (i := (i : Int) + d + 1) (by omega) (by omega), w64 (i := (i : Int) + 1) (by omega) (by omega), if_pos (by omega), if_pos (by omega), if_pos (by omega), if_pos (by omega),
      show ((i : Int) + d + 1) = ((i + d + 1 : Nat) : Int) by omega, show ((i : Int) + 1) = ((i + 1 : Nat) : Int) by omega, rd_kn (show i + d + 1 < K.length by omega), rd_kn (show i + 1 < K.length by omega), w64 (i := kn K (i + d + 1) - kn K (i + 1)) (by omega) (by omega)]
    by_cases hw : kn K (i + d + 1) - kn K (i + 1) > 0
    · rw [if_pos hw, if_pos (by omega), if_pos (by omega), if_pos (by omega), w64a s1 (by omega), w64a s2 (by omega), of_f (by omega) (by omega) (by omega) hw (by omega), Option.bind_some, if_pos (by rw [lm_len]; omega)]
      exact IH
    · rw [if_neg hw, if_pos (by rw [lm_len]; omega)]
      have e : slq d K P i = 0 := by
        unfold slq
        rw [show kn K (i + d + 1) - kn K (i + 1) = 0 by omega, Rat.divInt_zero]
      rw [e] at IH
      exact IH
theorem rslope_l0 {d : Nat} {K P : List Int} (V : VP d K P) (hd1 : 1 ≤ d) : ∀ n k (i : Nat), i + n + 1 = P.length → n + KG + 200 < k →
    congouref04_Slope.l0 k (lm (slq d K P) i) ((P.length - 1 : Nat) : Int) i d K P = some ((d : Int) - 1, (K.take (K.length - 1)).drop 1, lm (slq d K P) (P.length - 1)) := by
  have hK := V.hK
  have h8 := V.h8
  have hd := V.hd
  intro n
  induction n with
  | zero =>
    intro k i hi hk
    obtain ⟨k, rfl⟩ : ∃ m, k = m + 1 := ⟨k - 1, by omega⟩
    rw [congouref04_Slope.l0, if_neg (by omega), Option.bind_some, w64 (i := (K.length : Int) - 1) (by omega) (by omega), if_pos (by omega), if_pos (by omega), if_pos (by simp; omega), w64 (by omega) (by omega), List.nil_append,
      show ((K.length : Int) - 1).toNat = K.length - 1 by omega, show i = P.length - 1 by omega]
  | succ n ih =>
    intro k i hi hk
    obtain ⟨k, rfl⟩ : ∃ m, k = m + 1 := ⟨k - 1, by omega⟩
    have IH := ih k (i + 1) (by omega) (by omega)
    rw [lm_succ] at IH
    have z1 := V.h0 (i + d + 1)
    have z2 := V.h0 (i + 1)
    have m1 := kn_le V.mono (i + 1) (i + d + 1) (by omega)
    obtain ⟨s1, s2⟩ := slope_num V i (by omega)
    rw [congouref04_Slope.l0, if_pos (by omega), w64 (i := (i : Int) + d) (by omega) (by omega), w64 (i := (i : Int) + d + 1) (by omega) (by omega), w64 (i := (i : Int) + 1) (by omega) (by omega), if_pos (by omega), if_pos (by omega), if_pos (by omega), if_pos (by omega),
      show ((i : Int) + d + 1) = ((i + d + 1 : Nat) : Int) by omega, show ((i : Int) + 1) = ((i + 1 : Nat) : Int) by omega, rd_kn (show i + d + 1 < K.length by omega), rd_kn (show i + 1 < K.length by omega), w64 (i := kn K (i + d + 1) - kn K (i + 1)) (by omega) (by omega)]
    by_cases hw : kn K (i + d + 1) - kn K (i + 1) = 0
    · rw [if_pos hw, congouref04_whole.f, Option.bind_some, if_pos (by rw [lm_len]; omega)]
      have e : slq d K P i = 0 := by
        unfold slq
        rw [hw, Rat.divInt_zero]
      rw [e] at IH
      exact IH
    · rw [if_neg hw, if_pos (by omega), if_pos (by omega), if_pos (by omega), w64a s1 (by omega), w64a s2 (by omega), frac_f (by omega) (by omega) (by omega) (by omega) (by omega), Option.bind_some, if_pos (by rw [lm_len]; omega)]
      exact IH
/-- a sum of a list's numbers from a place on -/
def sumr (l : List Int) : Nat → Nat → Int
  | _, 0 => 0
  | j, n + 1 => rd l (j : Int) + sumr l (j + 1) n
def seg (K : List Int) (d i : Nat) : List Int := (K.take (i + 1 + d)).drop (i + 1)
def meanq (d : Nat) (K : List Int) (i : Nat) : Rat := Rat.divInt (sumr (seg K d i) 0 d) d
theorem seg_len {K : List Int} {d i : Nat} (h : i + 1 + d ≤ K.length) : (seg K d i).length = d := by
  unfold seg
  rw [List.length_drop, List.length_take]
  omega
theorem seg_bd {d : Nat} {K P : List Int} (V : VP d K P) {i : Nat} (x : Int) (hx : x ∈ seg K d i) : 0 ≤ x ∧ x ≤ 12 := by
  have h1 : x ∈ K := List.mem_of_mem_take (List.mem_of_mem_drop hx)
  obtain ⟨j, hj, rfl⟩ := List.getElem_of_mem h1
  have := V.h0 j
  rw [← rd_kn hj, rd_nat K j hj] at this
  exact this
theorem sumr_bd {l : List Int} (h : ∀ x, x ∈ l → 0 ≤ x ∧ x ≤ 12) : ∀ n (j : Nat), j + n ≤ l.length → 0 ≤ sumr l j n ∧ sumr l j n ≤ 12 * n
  | 0, _, _ => by simp [sumr]
  | n + 1, j, hj => by
    have h1 := sumr_bd h n (j + 1) (by omega)
    have h2 := h _ (rd_mem (show j < l.length by omega))
    unfold sumr
    omega
theorem means_l1 {d : Nat} {K P : List Int} (V : VP d K P) (hd1 : 1 ≤ d) (x4 : List S76) (i : Nat) (l : List Int) (hl : l.length ≤ 3) (hb : ∀ x, x ∈ l → 0 ≤ x ∧ x ≤ 12) (h4 : x4.length ≤ 100) (B : Nat) (hi : i ≤ 100) (R : List S26 × Int) (s0 : Int)
    (next : ∀ k, B ≤ k → curves_Means.l0 k (x4 ++ [s76 (Rat.divInt s0 d)]) P.length ((i + 1 : Nat) : Int) d K P = some R) (hB : 50 + KG ≤ B) : ∀ n k (j : Nat) (s : Int), j + n = l.length → n + B < k → 0 ≤ s → s ≤ 12 * j → s0 = s + sumr l j n →
    curves_Means.l1 k x4 s P.length i l l.length j d K P = some R := by
  have hd := V.hd
  intro n
  induction n with
  | zero =>
    intro k j s hj hk hs hs2 e
    obtain ⟨k, rfl⟩ : ∃ m, k = m + 1 := ⟨k - 1, by omega⟩
    have e2 : s0 = s := by simpa [sumr] using e
    rw [curves_Means.l1, if_neg (by omega), of_f (by omega) (by omega) (by omega) (by omega) (by omega), Option.bind_some, if_pos (by omega), w64 (by omega) (by omega), ← e2]
    exact next k (by omega)
  | succ n ih =>
    intro k j s hj hk hs hs2 e
    obtain ⟨k, rfl⟩ : ∃ m, k = m + 1 := ⟨k - 1, by omega⟩
    have h2 := hb _ (rd_mem (show j < l.length by omega))
    rw [curves_Means.l1, if_pos (by omega), if_pos (by omega), if_pos (by omega), w64 (i := s + _) (by omega) (by omega), w64 (by omega) (by omega)]
    refine ih k (j + 1) _ (by omega) (by omega) (by omega) (by omega) ?_
    rw [e, sumr]
    omega
theorem rmeans_l1 {d : Nat} {K P : List Int} (V : VP d K P) (hd1 : 1 ≤ d) (x4 : List S26) (i : Nat) (l : List Int) (hl : l.length ≤ 3) (hb : ∀ x, x ∈ l → 0 ≤ x ∧ x ≤ 12) (h4 : x4.length ≤ 100) (B : Nat) (hi : i ≤ 100) (R : List S26) (s0 : Int)
    (next : ∀ k, B ≤ k → congouref04_Means.l0 k (x4 ++ [s26 (Rat.divInt s0 d)]) P.length ((i + 1 : Nat) : Int) d K P = some R) (hB : 50 + KG ≤ B) : ∀ n k (j : Nat) (s : Int), j + n = l.length → n + B < k → 0 ≤ s → s ≤ 12 * j → s0 = s + sumr l j n →
    congouref04_Means.l1 k x4 s P.length i l l.length j d K P = some R := by
  have hd := V.hd
  intro n
  induction n with
  | zero =>
    intro k j s hj hk hs hs2 e
    obtain ⟨k, rfl⟩ : ∃ m, k = m + 1 := ⟨k - 1, by omega⟩
    have e2 : s0 = s := by simpa [sumr] using e
    rw [congouref04_Means.l1, if_neg (by omega), frac_f (by omega) (by omega) (by omega) (by omega) (by omega), Option.bind_some, if_pos (by omega), w64 (by omega) (by omega), ← e2]
    exact next k (by omega)
  | succ n ih =>
    intro k j s hj hk hs hs2 e
    obtain ⟨k, rfl⟩ : ∃ m, k = m + 1 := ⟨k - 1, by omega⟩
    have h2 := hb _ (rd_mem (show j < l.length by omega))
    rw [congouref04_Means.l1, if_pos (by omega), if_pos (by omega), if_pos (by omega), w64 (i := s + _) (by omega) (by omega), w64 (by omega) (by omega)]
    refine ih k (j + 1) _ (by omega) (by omega) (by omega) (by omega) ?_
    rw [e, sumr]
    omega
theorem means_l0 {d : Nat} {K P : List Int} (V : VP d K P) (hd1 : 1 ≤ d) : ∀ n k (i : Nat), i + n = P.length → 10 * n + KG + 100 < k →
    curves_Means.l0 k (lm7 (meanq d K) i) P.length i d K P = some (lm (meanq d K) P.length, 0) := by
  have hK := V.hK
  have h8 := V.h8
  have hd := V.hd
  intro n
  induction n with
  | zero =>
    intro k i hi hk
    obtain ⟨k, rfl⟩ : ∃ m, k = m + 1 := ⟨k - 1, by omega⟩
    rw [curves_Means.l0, if_neg (by omega), show i = P.length by omega, told7_f (by omega) (by omega), Option.bind_some]
  | succ n ih =>
    intro k i hi hk
    obtain ⟨k, rfl⟩ : ∃ m, k = m + 1 := ⟨k - 1, by omega⟩
    have sl := seg_len (K := K) (d := d) (i := i) (by omega)
    rw [curves_Means.l0, if_pos (by omega), w64 (i := (i : Int) + 1) (by omega) (by omega), w64 (i := (i : Int) + 1 + d) (by omega) (by omega), if_pos (by omega), if_pos (by omega), if_pos (by omega),
      show ((i : Int) + 1 + d).toNat = i + 1 + d by omega, show ((i : Int) + 1).toNat = i + 1 by omega]
    refine means_l1 V hd1 _ i (seg K d i) (by omega) (fun x hx => seg_bd V x hx) (by rw [lm7_len]; omega) (10 * n + KG + 101) (by omega) _ (sumr (seg K d i) 0 d) (fun k' hk' => ?_) (by omega) d k 0 0 (by omega) (by omega) (by omega) (by omega) (by omega)
    have IH := ih k' (i + 1) (by omega) (by omega)
    rw [lm7_succ] at IH
    exact IH
theorem rmeans_l0 {d : Nat} {K P : List Int} (V : VP d K P) (hd1 : 1 ≤ d) : ∀ n k (i : Nat), i + n = P.length → 10 * n + KG + 100 < k →
    congouref04_Means.l0 k (lm (meanq d K) i) P.length i d K P = some (lm (meanq d K) P.length) := by
  have hK := V.hK
  have h8 := V.h8
  have hd := V.hd
  intro n
  induction n with
  | zero =>
    intro k i hi hk
    obtain ⟨k, rfl⟩ : ∃ m, k = m + 1 := ⟨k - 1, by omega⟩
    rw [congouref04_Means.l0, if_neg (by omega), show i = P.length by omega]
  | succ n ih =>
    intro k i hi hk
    obtain ⟨k, rfl⟩ : ∃ m, k = m + 1 := ⟨k - 1, by omega⟩
    have sl := seg_len (K := K) (d := d) (i := i) (by omega)
    rw [congouref04_Means.l0, if_pos (by omega), w64 (i := (i : Int) + 1) (by omega) (by omega), w64 (i := (i : Int) + 1 + d) (by omega) (by omega), if_pos (by omega), if_pos (by omega), if_pos (by omega),
      show ((i : Int) + 1 + d).toNat = i + 1 + d by omega, show ((i : Int) + 1).toNat = i + 1 by omega]
    refine rmeans_l1 V hd1 _ i (seg K d i) (by omega) (fun x hx => seg_bd V x hx) (by rw [lm_len]; omega) (10 * n + KG + 101) (by omega) _ (sumr (seg K d i) 0 d) (fun k' hk' => ?_) (by omega) d k 0 0 (by omega) (by omega) (by omega) (by omega) (by omega)
    have IH := ih k' (i + 1) (by omega) (by omega)
    rw [lm_succ] at IH
    exact IH
/-- a number of rounds that is enough here -/
structure Rm (k : Nat) : Prop where
  a : 3000 + KG ≤ k
  b : 5000 ≤ k
theorem Rm.rk {k : Nat} (h : Rm k) : Rk k := ⟨Nat.le_trans (by decide) h.a, h.b⟩
theorem rm_any : Rm 18446744073709570000 := ⟨by decide, by decide⟩
theorem means_ok {k : Nat} (hk : Rm k) {d : Nat} {K P : List Int} (V : VP d K P) (hd1 : 1 ≤ d) : curves_Means.f k d K P = some (lm (meanq d K) P.length, 0) := by
  have h8 := V.h8
  have ha := hk.a
  unfold curves_Means.f
  rw [valid_f (Nat.le_trans (by decide) ha) (by omega), dc_true ⟨d, rfl, V⟩, Option.bind_some, if_pos rfl, if_neg (by omega)]
  exact means_l0 V hd1 P.length k 0 (by omega) (by omega)
theorem rmeans_ok {k : Nat} (hk : Rm k) {d : Nat} {K P : List Int} (V : VP d K P) (hd1 : 1 ≤ d) : congouref04_Means.f k d K P = some (lm (meanq d K) P.length) := by
  have h8 := V.h8
  have ha := hk.a
  exact rmeans_l0 V hd1 P.length k 0 (by omega) (by omega)
theorem slope_ok {k : Nat} (hk : Rm k) {d : Nat} {K P : List Int} (V : VP d K P) (hd1 : 1 ≤ d) : curves_Slope.f k d K P = some ((d : Int) - 1, (K.take (K.length - 1)).drop 1, lm (slq d K P) (P.length - 1), 0) := by
  have h8 := V.h8
  have hn := V.hn
  have ha := hk.a
  unfold curves_Slope.f
  rw [valid_f (Nat.le_trans (by decide) ha) (by omega), dc_true ⟨d, rfl, V⟩, Option.bind_some, if_pos rfl, if_neg (by omega), w64 (by omega) (by omega), show ((P.length : Int) - 1) = ((P.length - 1 : Nat) : Int) by omega]
  exact slope_l0 V hd1 (P.length - 1) k 0 (by omega) (by omega)
theorem rslope_ok {k : Nat} (hk : Rm k) {d : Nat} {K P : List Int} (V : VP d K P) (hd1 : 1 ≤ d) : congouref04_Slope.f k d K P = some ((d : Int) - 1, (K.take (K.length - 1)).drop 1, lm (slq d K P) (P.length - 1)) := by
  have h8 := V.h8
  have hn := V.hn
  have ha := hk.a
  unfold congouref04_Slope.f
  rw [w64 (by omega) (by omega), show ((P.length : Int) - 1) = ((P.length - 1 : Nat) : Int) by omega]
  exact rslope_l0 V hd1 (P.length - 1) k 0 (by omega) (by omega)
theorem CurvesSlopes (a0_0 : Int) (l0_1 : List Int) (l0_2 : List Int) (h0_ : (Lit.int .i64 a0_0).wf = true) (h1_ : l0_1.length ≤ maxLen) (h2_ : (∀ x ∈ l0_1, (Lit.int .i64 x).wf = true)) (h3_ : l0_2.length ≤ maxLen) (h4_ : (∀ x ∈ l0_2, (Lit.int .i64 x).wf = true)) : ∃ k, congoulaw04_CurvesSlopes.f k a0_0 l0_1 l0_2 = some true := by
  obtain ⟨k, hk⟩ : ∃ k, Rm (k + 1) ∧ Rm k := ⟨18446744073709570000, ⟨by decide, by decide⟩, rm_any⟩
  refine ⟨k + 1, ?_⟩
  have hP : l0_2.length ≤ 9223372036854775807 := by
    unfold maxLen at h3_
    omega
  have hT : (l0_2.take 23).length ≤ 9223372036854775807 := by rw [List.length_take]; omega
  have kg1 : KG ≤ k + 1 := Nat.le_trans (by decide) hk.1.a
  have kg2 : KG ≤ k := Nat.le_trans (by decide) hk.2.a
  have aw := awake_f (k := k) (Nat.le_trans (by decide) hk.2.b)
  unfold congoulaw04_CurvesSlopes.f
  simp only [of_law, Option.bind_some]
  by_cases hv : VPI a0_0 l0_1 l0_2
  · have hvv := hv
    obtain ⟨d, rfl, V⟩ := hv
    obtain ⟨e1, e2⟩ := vp_len V
    have h8 := V.h8
    have hK := V.hK
    have hd := V.hd
    rw [e1, e2]
    by_cases h0 : d = 0
    · subst h0
      unfold curves_Slope.f curves_Means.f
      rw [valid_f kg1 hP, dc_true hvv, Option.bind_some, if_pos rfl, if_pos (show ((0 : Nat) : Int) = 0 from rfl), Option.bind_some, Option.bind_some, if_pos rfl, if_pos (show ((0 : Nat) : Int) = 0 from rfl), Option.bind_some, rvalid_f kg1 hP, dc_true hvv, Option.bind_some, if_pos rfl]
      dsimp only
      rw [congoulaw04_CurvesSlopes.j0, if_pos (show (((0 : Nat) : Int) == 0) = true by decide), rvalid_f kg2 hP, dc_true hvv, Option.bind_some, if_pos rfl, if_pos rfl, if_pos (show wrap64 (wrap64 ((([] : List Int).length : Int) + (([] : List S26).length : Int)) + (([] : List S26).length : Int)) = 0 by decide +kernel), if_pos rfl, if_pos rfl, aw, Option.bind_some]
    · rw [slope_ok hk.1 V (by omega), Option.bind_some, means_ok hk.1 V (by omega), Option.bind_some, rvalid_f kg1 hP, dc_true hvv, Option.bind_some, if_pos rfl]
      dsimp only
      rw [congoulaw04_CurvesSlopes.j0, if_neg (by simp; omega), rslope_ok hk.2 V (by omega), Option.bind_some, if_pos rfl]
      dsimp only
      have hb := hk.2.b
      rw [eqi_f _ (by simp; omega) (by simp; omega), Option.bind_some, if_pos rfl, eq26_f _ (by rw [lm_len]; omega) (by rw [lm_len]; omega), Option.bind_some, if_pos rfl, rmeans_ok hk.2 V (by omega), Option.bind_some,
        eq26_f _ (by rw [lm_len]; omega) (by rw [lm_len]; omega), Option.bind_some, if_pos rfl, if_pos rfl, if_pos rfl, aw, Option.bind_some]
  · have hv2 : ¬ VPI a0_0 (l0_1.take 23) (l0_2.take 23) := fun h => hv (vpi_take.mp h)
    unfold curves_Slope.f curves_Means.f
    rw [valid_f kg1 hT, dc_false hv2, Option.bind_some, if_neg (by decide), Option.bind_some, Option.bind_some, if_neg (by decide), Option.bind_some, rvalid_f kg1 hP, dc_false hv, Option.bind_some, if_neg (by decide)]
    dsimp only
    rw [congoulaw04_CurvesSlopes.j0, if_pos rfl, rvalid_f kg2 hP, dc_false hv, Option.bind_some, if_neg (by decide), if_pos rfl, if_pos (show wrap64 (wrap64 ((([] : List Int).length : Int) + (([] : List S26).length : Int)) + (([] : List S26).length : Int)) = 0 by decide +kernel), if_pos rfl, if_pos rfl, aw, Option.bind_some]
end Go.Proofs.Ytpnocmkpeogifaa.Pure
