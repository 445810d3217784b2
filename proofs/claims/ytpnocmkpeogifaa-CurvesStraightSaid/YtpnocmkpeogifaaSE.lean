/- Means of both packages. -/
import Derived.Test.YtpnocmkpeogifaaSC
import Derived.Test.YtpnocmkpeogifaaXG2a
import Derived.Test.YtpnocmkpeogifaaXf34
import Derived.Test.YtpnocmkpeogifaaXG3a
namespace Go.Proofs.Ytpnocmkpeogifaa.Pure
open Go.RowKit Go.Proofs.Ytpnocmkpeogifaa.X Go.Proofs.YtpnocmkpeogifaaW.PrintWords Go.Proofs.YtpnocmkpeogifaaW.PrintLast
set_option linter.unusedVariables false
set_option linter.unusedSimpArgs false

theorem eqi_l0 (l : List Int) (hL : l.length < 4611686018427387904) : ∀ n k i, i + n = l.length → n < k → slices_Equal_int_int.l0 k l l l.length (i : Nat) = some true := by
 intro n
 induction n with
 | zero =>
  intro k i hi hk
  obtain ⟨k, rfl⟩ : ∃ m, k = m + 1 := ⟨k - 1, by omega⟩
  rw [slices_Equal_int_int.l0, if_neg (by omega)]
 | succ n ih =>
  intro k i hi hk
  obtain ⟨k, rfl⟩ : ∃ m, k = m + 1 := ⟨k - 1, by omega⟩
  rw [slices_Equal_int_int.l0, if_pos (by omega), if_pos (by omega), if_pos (by omega), if_pos (by omega), if_pos rfl, w64 (by omega) (by omega)]
  exact ih k (i + 1) (by omega) (by omega)
theorem eqi_f {k : Nat} (l : List Int) (hL : l.length < 4611686018427387904) (hk : l.length < k) : slices_Equal_int_int.f k l l = some true := by
 rw [slices_Equal_int_int.f, if_pos rfl]
 exact eqi_l0 l hL l.length k 0 (by omega) hk
/-- fractions as the lists of both packages -/
def lm (f : Nat → Rat) (m : Nat) : List S26 := (List.range m).map (fun i => s26 (f i))
theorem lm_len (f : Nat → Rat) (m : Nat) : (lm f m).length = m := by simp [lm]
theorem lm_succ (f : Nat → Rat) (m : Nat) : lm f (m + 1) = lm f m ++ [s26 (f m)] := by simp [lm, List.range_succ]
def lm7 (f : Nat → Rat) (m : Nat) : List S76 := (List.range m).map (fun i => s76 (f i))
theorem lm7_len (f : Nat → Rat) (m : Nat) : (lm7 f m).length = m := by simp [lm7]
theorem lm7_succ (f : Nat → Rat) (m : Nat) : lm7 f (m + 1) = lm7 f m ++ [s76 (f m)] := by simp [lm7, List.range_succ]
theorem lm7_rd {f : Nat → Rat} {m i : Nat} (h : i < m) : rd_T76 (lm7 f m) (i : Int) = s76 (f i) := by
 simp [rd_T76, lm7, List.getD_eq_getElem?_getD, List.getElem?_map, List.getElem?_range h]
theorem told7_l0 {f : Nat → Rat} {m : Nat} (hm : m ≤ 1000) : ∀ n k i, i + n = m → n < k → curves_told.l0 k (lm f i) (lm7 f m) m i = some (lm f m) := by
 intro n
 induction n with
 | zero =>
  intro k i hi hk
  obtain ⟨k, rfl⟩ : ∃ m, k = m + 1 := ⟨k - 1, by omega⟩
  rw [curves_told.l0, if_neg (by omega), show i = m by omega]
 | succ n ih =>
  intro k i hi hk
  obtain ⟨k, rfl⟩ : ∃ m, k = m + 1 := ⟨k - 1, by omega⟩
  have IH := ih k (i + 1) (by omega) (by omega)
  rw [lm_succ] at IH
  rw [curves_told.l0, if_pos (by omega), if_pos (by omega), if_pos (by rw [lm7_len]; omega), if_pos (by rw [lm_len]; omega), lm7_rd (by omega), w64 (by omega) (by omega)]
  exact IH
theorem told7_f {k : Nat} {f : Nat → Rat} {m : Nat} (hm : m ≤ 20) (hk : 20 < k) : curves_told.f k (lm7 f m) = some (lm f m) := by
 rw [curves_told.f, lm7_len]
 exact told7_l0 (by omega) m k 0 (by omega) (by omega)
/-- a sum of a list's numbers from a place on -/
def sumr (l : List Int) : Nat → Nat → Int
 | _, 0 => 0
 | j, n + 1 => rd l (j : Int) + sumr l (j + 1) n
def seg (K : List Int) (d i : Nat) : List Int := (K.take (i + 1 + d)).drop (i + 1)
def meanq (d : Nat) (K : List Int) (i : Nat) : Rat := Rat.divInt (sumr (seg K d i) 0 d) d
theorem seg_len {K : List Int} {d i : Nat} (h : i + 1 + d ≤ K.length) : (seg K d i).length = d := by
 unfold seg
 rw [List.length_drop, List.length_take]
 omega
theorem seg_bd {d : Nat} {K P : List Int} (V : VP d K P) {i : Nat} (x : Int) (hx : x ∈ seg K d i) : 0 ≤ x ∧ x ≤ 12 := by
 have h1 : x ∈ K := List.mem_of_mem_take (List.mem_of_mem_drop hx)
 obtain ⟨j, hj, rfl⟩ := List.getElem_of_mem h1
 have := V.h0 j
 rw [← rd_kn hj, rd_nat K j hj] at this
 exact this
theorem sumr_bd {l : List Int} (h : ∀ x, x ∈ l → 0 ≤ x ∧ x ≤ 12) : ∀ n (j : Nat), j + n ≤ l.length → 0 ≤ sumr l j n ∧ sumr l j n ≤ 12 * n
 | 0, _, _ => by simp [sumr]
 | n + 1, j, hj => by
  have h1 := sumr_bd h n (j + 1) (by omega)
  have h2 := h _ (rd_mem (show j < l.length by omega))
  unfold sumr
  omega
theorem means_l1 {d : Nat} {K P : List Int} (V : VP d K P) (hd1 : 1 ≤ d) (x4 : List S76) (i : Nat) (l : List Int) (hl : l.length ≤ 3) (hb : ∀ x, x ∈ l → 0 ≤ x ∧ x ≤ 12) (h4 : x4.length ≤ 100) (B : Nat) (hi : i ≤ 100) (R : List S26 × Int) (s0 : Int)
  (next : ∀ k, B ≤ k → curves_Means.l0 k (x4 ++ [s76 (Rat.divInt s0 d)]) P.length ((i + 1 : Nat) : Int) d K P = some R) (hB : 50 + KG ≤ B) : ∀ n k (j : Nat) (s : Int), j + n = l.length → n + B < k → 0 ≤ s → s ≤ 12 * j → s0 = s + sumr l j n →
  curves_Means.l1 k x4 s P.length i l l.length j d K P = some R := by
 have hd := V.hd
 intro n
 induction n with
 | zero =>
  intro k j s hj hk hs hs2 e
  obtain ⟨k, rfl⟩ : ∃ m, k = m + 1 := ⟨k - 1, by omega⟩
  have e2 : s0 = s := by simpa [sumr] using e
  rw [curves_Means.l1, if_neg (by omega), of_f (by omega) (by omega) (by omega) (by omega) (by omega), Option.bind_some, if_pos (by omega), w64 (by omega) (by omega), ← e2]
  exact next k (by omega)
 | succ n ih =>
  intro k j s hj hk hs hs2 e
  obtain ⟨k, rfl⟩ : ∃ m, k = m + 1 := ⟨k - 1, by omega⟩
  have h2 := hb _ (rd_mem (show j < l.length by omega))
  rw [curves_Means.l1, if_pos (by omega), if_pos (by omega), if_pos (by omega), w64 (i := s + _) (by omega) (by omega), w64 (by omega) (by omega)]
  refine ih k (j + 1) _ (by omega) (by omega) (by omega) (by omega) ?_
  rw [e, sumr]
  omega
theorem rmeans_l1 {d : Nat} {K P : List Int} (V : VP d K P) (hd1 : 1 ≤ d) (x4 : List S26) (i : Nat) (l : List Int) (hl : l.length ≤ 3) (hb : ∀ x, x ∈ l → 0 ≤ x ∧ x ≤ 12) (h4 : x4.length ≤ 100) (B : Nat) (hi : i ≤ 100) (R : List S26) (s0 : Int)
  (next : ∀ k, B ≤ k → congouref04_Means.l0 k (x4 ++ [s26 (Rat.divInt s0 d)]) P.length ((i + 1 : Nat) : Int) d K P = some R) (hB : 50 + KG ≤ B) : ∀ n k (j : Nat) (s : Int), j + n = l.length → n + B < k → 0 ≤ s → s ≤ 12 * j → s0 = s + sumr l j n →
  congouref04_Means.l1 k x4 s P.length i l l.length j d K P = some R := by
 have hd := V.hd
 intro n
 induction n with
 | zero =>
  intro k j s hj hk hs hs2 e
  obtain ⟨k, rfl⟩ : ∃ m, k = m + 1 := ⟨k - 1, by omega⟩
  have e2 : s0 = s := by simpa [sumr] using e
  rw [congouref04_Means.l1, if_neg (by omega), frac_f (by omega) (by omega) (by omega) (by omega) (by omega), Option.bind_some, if_pos (by omega), w64 (by omega) (by omega), ← e2]
  exact next k (by omega)
 | succ n ih =>
  intro k j s hj hk hs hs2 e
  obtain ⟨k, rfl⟩ : ∃ m, k = m + 1 := ⟨k - 1, by omega⟩
  have h2 := hb _ (rd_mem (show j < l.length by omega))
  rw [congouref04_Means.l1, if_pos (by omega), if_pos (by omega), if_pos (by omega), w64 (i := s + _) (by omega) (by omega), w64 (by omega) (by omega)]
  refine ih k (j + 1) _ (by omega) (by omega) (by omega) (by omega) ?_
  rw [e, sumr]
  omega
theorem means_l0 {d : Nat} {K P : List Int} (V : VP d K P) (hd1 : 1 ≤ d) : ∀ n k (i : Nat), i + n = P.length → 10 * n + KG + 100 < k →
  curves_Means.l0 k (lm7 (meanq d K) i) P.length i d K P = some (lm (meanq d K) P.length, 0) := by
 have hK := V.hK
 have h8 := V.h8
 have hd := V.hd
 intro n
 induction n with
 | zero =>
  intro k i hi hk
  obtain ⟨k, rfl⟩ : ∃ m, k = m + 1 := ⟨k - 1, by omega⟩
  rw [curves_Means.l0, if_neg (by omega), show i = P.length by omega, told7_f (by omega) (by omega), Option.bind_some]
 | succ n ih =>
  intro k i hi hk
  obtain ⟨k, rfl⟩ : ∃ m, k = m + 1 := ⟨k - 1, by omega⟩
  have sl := seg_len (K := K) (d := d) (i := i) (by omega)
  rw [curves_Means.l0, if_pos (by omega), w64 (i := (i : Int) + 1) (by omega) (by omega), w64 (i := (i : Int) + 1 + d) (by omega) (by omega), if_pos (by omega), if_pos (by omega), if_pos (by omega),
   show ((i : Int) + 1 + d).toNat = i + 1 + d by omega, show ((i : Int) + 1).toNat = i + 1 by omega]
  refine means_l1 V hd1 _ i (seg K d i) (by omega) (fun x hx => seg_bd V x hx) (by rw [lm7_len]; omega) (10 * n + KG + 101) (by omega) _ (sumr (seg K d i) 0 d) (fun k' hk' => ?_) (by omega) d k 0 0 (by omega) (by omega) (by omega) (by omega) (by omega)
  have IH := ih k' (i + 1) (by omega) (by omega)
  rw [lm7_succ] at IH
  exact IH
theorem rmeans_l0 {d : Nat} {K P : List Int} (V : VP d K P) (hd1 : 1 ≤ d) : ∀ n k (i : Nat), i + n = P.length → 10 * n + KG + 100 < k →
  congouref04_Means.l0 k (lm (meanq d K) i) P.length i d K P = some (lm (meanq d K) P.length) := by
 have hK := V.hK
 have h8 := V.h8
 have hd := V.hd
 intro n
 induction n with
 | zero =>
  intro k i hi hk
  obtain ⟨k, rfl⟩ : ∃ m, k = m + 1 := ⟨k - 1, by omega⟩
  rw [congouref04_Means.l0, if_neg (by omega), show i = P.length by omega]
 | succ n ih =>
  intro k i hi hk
  obtain ⟨k, rfl⟩ : ∃ m, k = m + 1 := ⟨k - 1, by omega⟩
  have sl := seg_len (K := K) (d := d) (i := i) (by omega)
  rw [congouref04_Means.l0, if_pos (by omega), w64 (i := (i : Int) + 1) (by omega) (by omega), w64 (i := (i : Int) + 1 + d) (by omega) (by omega), if_pos (by omega), if_pos (by omega), if_pos (by omega),
   show ((i : Int) + 1 + d).toNat = i + 1 + d by omega, show ((i : Int) + 1).toNat = i + 1 by omega]
  refine rmeans_l1 V hd1 _ i (seg K d i) (by omega) (fun x hx => seg_bd V x hx) (by rw [lm_len]; omega) (10 * n + KG + 101) (by omega) _ (sumr (seg K d i) 0 d) (fun k' hk' => ?_) (by omega) d k 0 0 (by omega) (by omega) (by omega) (by omega) (by omega)
  have IH := ih k' (i + 1) (by omega) (by omega)
  rw [lm_succ] at IH
  exact IH
/-- a number of rounds that is enough here -/
structure Rm (k : Nat) : Prop where
 a : 3000 + KG ≤ k
 b : 5000 ≤ k
theorem Rm.rk {k : Nat} (h : Rm k) : Rk k := ⟨Nat.le_trans (by decide) h.a, h.b⟩
theorem rm_any : Rm 18446744073709570000 := ⟨by decide, by decide⟩
theorem means_ok {k : Nat} (hk : Rm k) {d : Nat} {K P : List Int} (V : VP d K P) (hd1 : 1 ≤ d) : curves_Means.f k d K P = some (lm (meanq d K) P.length, 0) := by
 have h8 := V.h8
 have ha := hk.a
 unfold curves_Means.f
 rw [valid_f (Nat.le_trans (by decide) ha) (by omega), dc_true ⟨d, rfl, V⟩, Option.bind_some, if_pos rfl, if_neg (by omega)]
 exact means_l0 V hd1 P.length k 0 (by omega) (by omega)
theorem rmeans_ok {k : Nat} (hk : Rm k) {d : Nat} {K P : List Int} (V : VP d K P) (hd1 : 1 ≤ d) : congouref04_Means.f k d K P = some (lm (meanq d K) P.length) := by
 have h8 := V.h8
 have ha := hk.a
 exact rmeans_l0 V hd1 P.length k 0 (by omega) (by omega)
end Go.Proofs.Ytpnocmkpeogifaa.Pure
