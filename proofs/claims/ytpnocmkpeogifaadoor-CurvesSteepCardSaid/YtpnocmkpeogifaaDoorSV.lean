/- Both packages tell the same curves valid; copies of lists; the waking question. -/
import Derived.Test.YtpnocmkpeogifaaDoorSA
import Derived.Test.YtpnocmkpeogifaaDoorXf12
import Derived.Test.YtpnocmkpeogifaaDoorXf23
import Derived.Test.YtpnocmkpeogifaaDoorXf9
import Derived.Test.YtpnocmkpeogifaaDoorXf7
namespace Go.Proofs.YtpnocmkpeogifaaDoor.Pure
open Go.RowKit Go.Proofs.YtpnocmkpeogifaaDoor.X Go.Proofs.YtpnocmkpeogifaaDoorW.PrintWords Go.Proofs.YtpnocmkpeogifaaDoorW.PrintLast
set_option linter.unusedVariables false
set_option linter.unusedSimpArgs false

/-- a statement as a truth value -/
noncomputable def dc (p : Prop) : Bool := @decide p (Classical.propDecidable p)
theorem dc_true {p : Prop} (h : p) : dc p = true := @decide_eq_true p (Classical.propDecidable p) h
theorem dc_false {p : Prop} (h : ¬ p) : dc p = false := @decide_eq_false p (Classical.propDecidable p) h
theorem dc_congr {p q : Prop} (h : p ↔ q) : dc p = dc q := by rw [propext h]
theorem dc_iff {p : Prop} : dc p = true ↔ p := ⟨fun h => Classical.byContradiction fun hn => by rw [dc_false hn] at h; exact absurd h (by decide), dc_true⟩
theorem dc_iff_false {p : Prop} : dc p = false ↔ ¬ p := ⟨fun h hp => by rw [dc_true hp] at h; exact absurd h (by decide), dc_false⟩
theorem dec_dc (p : Prop) [Decidable p] : decide p = dc p := by
 by_cases h : p
 ·rw [dc_true h, decide_eq_true h]
 ·rw [dc_false h, decide_eq_false h]

/-- the knot at a place; 12 behind the last -/
def kn (K : List Int) (i : Nat) : Int := K.getD i 12
theorem rd_kn {K : List Int} {i : Nat} (h : i < K.length) : rd K (i : Int) = kn K i := by
 rw [rd_nat K i h, kn, List.getD_eq_getElem?_getD, List.getElem?_eq_getElem h, Option.getD_some]
theorem rd_mem {P : List Int} {i : Nat} (h : i < P.length) : rd P (i : Int) ∈ P := by
 rw [rd_nat P i h]
 exact List.getElem_mem h
theorem kn_out {K : List Int} {i : Nat} (h : K.length ≤ i) : kn K i = 12 := by
 rw [kn, List.getD_eq_getElem?_getD, List.getElem?_eq_none h, Option.getD_none]
/-- a valid curve -/
structure VP (d : Nat) (K P : List Int) : Prop where
 hd : d ≤ 3
 hn : d + 1 ≤ P.length
 h8 : P.length ≤ 8
 hK : K.length = P.length + d + 1
 hP : ∀ x, x ∈ P → -50 ≤ x ∧ x ≤ 50
 h0 : ∀ i, 0 ≤ kn K i ∧ kn K i ≤ 12
 mono : ∀ i, kn K i ≤ kn K (i + 1)
 ne : ∀ i, i < P.length → kn K i ≠ kn K (i + d + 1)
 span : kn K d < kn K P.length
def VPI (a : Int) (K P : List Int) : Prop := ∃ d : Nat, a = d ∧ VP d K P

/-- what the reference asks of a knot -/
def OKr (d : Nat) (K : List Int) (j : Nat) : Prop := (0 ≤ kn K j ∧ kn K j ≤ 12) ∧ (0 < j → kn K (j - 1) ≤ kn K j) ∧ (d < j → kn K j ≠ kn K (j - d - 1))
theorem all_step {Q : Nat → Prop} {i n : Nat} (h : i < n) : (∀ j, i ≤ j → j < n → Q j) ↔ Q i ∧ ∀ j, i + 1 ≤ j → j < n → Q j := by
 constructor
 ·intro H
  exact ⟨H i (Nat.le_refl _) h, fun j h1 h2 => H j (by omega) h2⟩
 ·intro ⟨H1, H2⟩ j h1 h2
  by_cases e : j = i
  ·subst e; exact H1
  ·exact H2 j (by omega) h2
theorem rv_l1 {d : Nat} {K P : List Int} (hd : d < K.length) (hn : P.length < K.length) (hL : K.length ≤ 64) (hd3 : d ≤ 3) : ∀ n k i, i + n = K.length → n < k →
  congouref04_Valid.l1 k P.length K K.length i d K P = some (dc ((∀ j, i ≤ j → j < K.length → OKr d K j) ∧ kn K d < kn K P.length)) := by
 intro n
 induction n with
 | zero =>
  intro k i hi hk
  obtain ⟨k, rfl⟩ : ∃ m, k = m + 1 := ⟨k - 1, by omega⟩
  rw [congouref04_Valid.l1, if_neg (by omega), if_pos (by omega), if_pos (by omega), if_pos (by omega), if_pos (by omega), rd_kn hd, rd_kn hn, dec_dc]
  refine congrArg some ?_
  apply dc_congr
  constructor
  ·exact fun h => ⟨fun j h1 h2 => absurd h1 (by omega), h⟩
  ·exact fun h => h.2
 | succ n ih =>
  intro k i hi hk
  obtain ⟨k, rfl⟩ : ∃ m, k = m + 1 := ⟨k - 1, by omega⟩
  have IH := ih k (i + 1) (by omega) (by omega)
  rw [congouref04_Valid.l1, if_pos (by omega), if_pos (by omega), if_pos (by omega), rd_kn (show i < K.length by omega), w64 (i := (i : Int) + 1) (by omega) (by omega)]
  rw [show ((i : Int) + 1) = ((i + 1 : Nat) : Int) by omega, IH]
  rw [all_step (show i < K.length by omega)]
  have no : ∀ {p : Prop}, ¬ OKr d K i → some false = some (dc ((OKr d K i ∧ p) ∧ kn K d < kn K P.length)) := by
   intro p h
   rw [dc_false]
   intro h2
   exact h h2.1.1
  by_cases h1 : kn K i < 0
  ·rw [if_pos h1]; exact no (fun h => by have := h.1; omega)
  rw [if_neg h1]
  by_cases h2 : kn K i > 12
  ·rw [if_pos h2]; exact no (fun h => by have := h.1; omega)
  rw [if_neg h2]
  by_cases h3 : i = 0
  ·subst h3
   rw [if_neg (by omega), if_neg (by omega)]
   refine congrArg some ?_
   apply dc_congr
   have : OKr d K 0 := ⟨by omega, fun h => absurd h (by omega), fun h => absurd h (by omega)⟩
   simp [this]
  ·rw [if_pos (by omega), w64 (by omega) (by omega), if_pos (by omega), if_pos (by omega), show ((i : Int) - 1) = ((i - 1 : Nat) : Int) by omega, rd_kn (show i - 1 < K.length by omega)]
   by_cases h4 : kn K i < kn K (i - 1)
   ·rw [if_pos h4]; exact no (fun h => by have := h.2.1 (by omega); omega)
   rw [if_neg h4]
   by_cases h5 : d < i
   ·rw [if_pos (by omega), w64 (i := (i : Int) - d) (by omega) (by omega), w64 (by omega) (by omega), if_pos (by omega), if_pos (by omega), show ((i : Int) - d - 1) = ((i - d - 1 : Nat) : Int) by omega, rd_kn (show i - d - 1 < K.length by omega)]
    by_cases h6 : kn K i = kn K (i - d - 1)
    ·rw [if_pos h6]; exact no (fun h => h.2.2 h5 h6)
    ·rw [if_neg h6]
     refine congrArg some ?_
     apply dc_congr
     have : OKr d K i := ⟨by omega, fun h => by omega, fun h => h6⟩
     simp [this]
   ·rw [if_neg (by omega)]
    refine congrArg some ?_
    apply dc_congr
    have : OKr d K i := ⟨by omega, fun h => by omega, fun h => absurd h h5⟩
    simp [this]
theorem rv_l0 {d : Nat} {K P : List Int} (hd : d < K.length) (hn : P.length < K.length) (hL : K.length ≤ 64) (hd3 : d ≤ 3) : ∀ n k i, i + n = P.length → n + 66 < k →
  congouref04_Valid.l0 k P.length P P.length i d K P = some (dc ((∀ j, i ≤ j → j < P.length → -50 ≤ rd P j ∧ rd P j ≤ 50) ∧ (∀ j, 0 ≤ j → j < K.length → OKr d K j) ∧ kn K d < kn K P.length)) := by
 intro n
 induction n with
 | zero =>
  intro k i hi hk
  obtain ⟨k, rfl⟩ : ∃ m, k = m + 1 := ⟨k - 1, by omega⟩
  have := rv_l1 hd hn hL hd3 K.length k 0 (by omega) (by omega)
  rw [congouref04_Valid.l0, if_neg (by omega)]
  refine Eq.trans this ?_
  refine congrArg some ?_
  apply dc_congr
  constructor
  ·exact fun h => ⟨fun j h1 h2 => absurd h1 (by omega), h⟩
  ·exact fun h => h.2
 | succ n ih =>
  intro k i hi hk
  obtain ⟨k, rfl⟩ : ∃ m, k = m + 1 := ⟨k - 1, by omega⟩
  have IH := ih k (i + 1) (by omega) (by omega)
  rw [congouref04_Valid.l0, if_pos (by omega), if_pos (by omega), if_pos (by omega), w64 (i := (i : Int) + 1) (by omega) (by omega)]
  rw [show ((i : Int) + 1) = ((i + 1 : Nat) : Int) by omega, IH]
  rw [all_step (show i < P.length by omega)]
  by_cases h1 : rd P i < -50
  ·rw [if_pos h1, dc_false]; intro h; have := h.1.1; omega
  rw [if_neg h1]
  by_cases h2 : rd P i > 50
  ·rw [if_pos h2, dc_false]; intro h; have := h.1.1; omega
  rw [if_neg h2]
  refine congrArg some ?_
  apply dc_congr
  have : -50 ≤ rd P i ∧ rd P i ≤ 50 := by omega
  simp [this]
theorem all_mem {P : List Int} {Q : Int → Prop} : (∀ j : Nat, 0 ≤ j → j < P.length → Q (rd P (j : Int))) ↔ ∀ x, x ∈ P → Q x := by
 constructor
 ·intro h x hx
  obtain ⟨i, hi, rfl⟩ := List.getElem_of_mem hx
  rw [← rd_nat P i hi]
  exact h i (by omega) hi
 ·intro h j _ hj
  exact h _ (rd_mem hj)
theorem kn_range {K : List Int} (h : ∀ j, j < K.length → 0 ≤ kn K j ∧ kn K j ≤ 12) (j : Nat) : 0 ≤ kn K j ∧ kn K j ≤ 12 := by
 by_cases hj : j < K.length
 ·exact h j hj
 ·rw [kn_out (by omega)]
  omega
theorem kn_mono {K : List Int} (h : ∀ j, j < K.length → 0 ≤ kn K j ∧ kn K j ≤ 12) (h2 : ∀ j, j + 1 < K.length → kn K j ≤ kn K (j + 1)) (j : Nat) : kn K j ≤ kn K (j + 1) := by
 by_cases hj : j + 1 < K.length
 ·exact h2 j hj
 ·rw [kn_out (i := j + 1) (by omega)]
  exact (kn_range h j).2
theorem vp_r {d : Nat} {K P : List Int} (hd : d ≤ 3) (hn : d + 1 ≤ P.length) (h8 : P.length ≤ 8) (hK : K.length = P.length + d + 1) :
  ((∀ j : Nat, 0 ≤ j → j < P.length → -50 ≤ rd P j ∧ rd P j ≤ 50) ∧ (∀ j, 0 ≤ j → j < K.length → OKr d K j) ∧ kn K d < kn K P.length) ↔ VP d K P := by
 constructor
 ·intro ⟨h1, h2, h3⟩
  have h4 : ∀ j, j < K.length → 0 ≤ kn K j ∧ kn K j ≤ 12 := fun j hj => (h2 j (by omega) hj).1
  refine ⟨hd, hn, h8, hK, all_mem.mp h1, kn_range h4, kn_mono h4 ?_, ?_, h3⟩
  ·intro j hj
   exact (h2 (j + 1) (by omega) hj).2.1 (by omega)
  ·intro i hi e
   refine (h2 (i + d + 1) (by omega) (by omega)).2.2 (by omega) ?_
   rw [show i + d + 1 - d - 1 = i by omega]
   exact e.symm
 ·intro h
  refine ⟨all_mem.mpr h.hP, ?_, h.span⟩
  intro j _ hj
  refine ⟨h.h0 j, ?_, ?_⟩
  ·intro hj0
   have := h.mono (j - 1)
   rwa [show j - 1 + 1 = j by omega] at this
  ·intro hjd e
   refine h.ne (j - d - 1) (by omega) ?_
   rw [show j - d - 1 + d + 1 = j by omega]
   exact e.symm
theorem rvalid_f {k : Nat} (hk : KG ≤ k) {a : Int} {K P : List Int} (hP : P.length ≤ 9223372036854775807) :
  congouref04_Valid.f k a K P = some (dc (VPI a K P)) := by
 unfold KG at hk
 have bad : ¬ VPI a K P → ∀ x3 : Int, congouref04_Valid.j0 k x3 true a K P = some (dc (VPI a K P)) := by
  intro h x3
  obtain ⟨k, rfl⟩ : ∃ m, k = m + 1 := ⟨k - 1, by omega⟩
  rw [congouref04_Valid.j0, if_pos rfl, dc_false h]
 unfold congouref04_Valid.f
 by_cases h1 : a < 0
 ·rw [if_pos h1]
  exact bad (fun ⟨d, e, h⟩ => by omega) _
 rw [if_neg h1]
 by_cases h2 : a > 3
 ·rw [if_pos h2]
  exact bad (fun ⟨d, e, h⟩ => by have := h.hd; omega) _
 rw [if_neg h2, w64 (by omega) (by omega)]
 by_cases h3 : (P.length : Int) < a + 1
 ·rw [if_pos h3]
  exact bad (fun ⟨d, e, h⟩ => by have := h.hn; omega) _
 rw [if_neg h3]
 by_cases h4 : (P.length : Int) > 8
 ·rw [if_pos h4]
  exact bad (fun ⟨d, e, h⟩ => by have := h.h8; omega) _
 rw [if_neg h4, w64 (i := (P.length : Int) + a) (by omega) (by omega), w64 (by omega) (by omega)]
 by_cases h5 : (K.length : Int) = P.length + a + 1
 ·obtain ⟨d, rfl⟩ : ∃ d : Nat, a = d := ⟨a.toNat, by omega⟩
  obtain ⟨k, rfl⟩ : ∃ m, k = m + 1 := ⟨k - 1, by omega⟩
  rw [congouref04_Valid.j0, if_neg (by simp [h5])]
  have e := rv_l0 (d := d) (K := K) (P := P) (by omega) (by omega) (by omega) (by omega) P.length k 0 (by omega) (by omega)
  refine Eq.trans e ?_
  refine congrArg some ?_
  apply dc_congr
  rw [vp_r (by omega) (by omega) (by omega) (by omega)]
  constructor
  ·exact fun h => ⟨d, rfl, h⟩
  ·intro ⟨d', e, h⟩
   obtain rfl : d = d' := by omega
   exact h
 ·have : ((K.length : Int) != (P.length : Int) + a + 1) = true := by simpa using h5
  rw [this]
  exact bad (fun ⟨d, e, h⟩ => by have := h.hK; omega) _
end Go.Proofs.YtpnocmkpeogifaaDoor.Pure
namespace Go.Proofs.YtpnocmkpeogifaaDoor.Pure
open Go.RowKit Go.Proofs.YtpnocmkpeogifaaDoor.X Go.Proofs.YtpnocmkpeogifaaDoorW.PrintWords Go.Proofs.YtpnocmkpeogifaaDoorW.PrintLast
set_option linter.unusedVariables false
set_option linter.unusedSimpArgs false

theorem ex_step {Q : Nat → Prop} {i n : Nat} (h : i < n) : (∃ j, i ≤ j ∧ j < n ∧ Q j) ↔ Q i ∨ ∃ j, i + 1 ≤ j ∧ j < n ∧ Q j := by
 constructor
 ·intro ⟨j, h1, h2, h3⟩
  by_cases e : j = i
  ·subst e; exact Or.inl h3
  ·exact Or.inr ⟨j, by omega, h2, h3⟩
 ·intro H
  rcases H with H | ⟨j, h1, h2, h3⟩
  ·exact ⟨i, Nat.le_refl _, h, H⟩
  ·exact ⟨j, by omega, h2, h3⟩
theorem min_l0 (l : List Int) (hL : l.length < 4611686018427387904) : ∀ n k i c, i + n = l.length → n < k →
  ∃ m, slices_Min_int_int.l0 k l c (i : Nat) = some m ∧ ∀ z : Int, m < z ↔ (c < z ∨ ∃ j : Nat, i ≤ j ∧ j < l.length ∧ rd l j < z) := by
 intro n
 induction n with
 | zero =>
  intro k i c hi hk
  obtain ⟨k, rfl⟩ : ∃ m, k = m + 1 := ⟨k - 1, by omega⟩
  refine ⟨c, by rw [slices_Min_int_int.l0, if_neg (by omega)], fun z => ⟨Or.inl, fun h => ?_⟩⟩
  rcases h with h | ⟨j, h1, h2, _⟩
  ·exact h
  ·omega
 | succ n ih =>
  intro k i c hi hk
  obtain ⟨k, rfl⟩ : ∃ m, k = m + 1 := ⟨k - 1, by omega⟩
  obtain ⟨m, e, h⟩ := ih k (i + 1) (mn c (rd l i)) (by omega) (by omega)
  refine ⟨m, ?_, fun z => ?_⟩
  ·rw [slices_Min_int_int.l0, if_pos (by omega), if_pos (by omega), w64 (by omega) (by omega)]
   exact e
  ·rw [h z, ex_step (Q := fun j => rd l j < z) (show i < l.length by omega), ← or_assoc]
   have : mn c (rd l i) < z ↔ c < z ∨ rd l i < z := by unfold mn; split <;> omega
   rw [this]
theorem max_l0 (l : List Int) (hL : l.length < 4611686018427387904) : ∀ n k i c, i + n = l.length → n < k →
  ∃ m, slices_Max_int_int.l0 k l c (i : Nat) = some m ∧ ∀ z : Int, z < m ↔ (z < c ∨ ∃ j : Nat, i ≤ j ∧ j < l.length ∧ z < rd l j) := by
 intro n
 induction n with
 | zero =>
  intro k i c hi hk
  obtain ⟨k, rfl⟩ : ∃ m, k = m + 1 := ⟨k - 1, by omega⟩
  refine ⟨c, by rw [slices_Max_int_int.l0, if_neg (by omega)], fun z => ⟨Or.inl, fun h => ?_⟩⟩
  rcases h with h | ⟨j, h1, h2, _⟩
  ·exact h
  ·omega
 | succ n ih =>
  intro k i c hi hk
  obtain ⟨k, rfl⟩ : ∃ m, k = m + 1 := ⟨k - 1, by omega⟩
  obtain ⟨m, e, h⟩ := ih k (i + 1) (mx c (rd l i)) (by omega) (by omega)
  refine ⟨m, ?_, fun z => ?_⟩
  ·rw [slices_Max_int_int.l0, if_pos (by omega), if_pos (by omega), w64 (by omega) (by omega)]
   exact e
  ·rw [h z, ex_step (Q := fun j => z < rd l j) (show i < l.length by omega), ← or_assoc]
   have : z < mx c (rd l i) ↔ z < c ∨ z < rd l i := by unfold mx; split <;> omega
   rw [this]
theorem min_f {k : Nat} {l : List Int} (hk : l.length < k) (h0 : 0 < l.length) (hL : l.length < 4611686018427387904) :
  ∃ m, slices_Min_int_int.f k l = some m ∧ (m < -50 ↔ ¬ ∀ x, x ∈ l → -50 ≤ x) := by
 obtain ⟨m, e, h⟩ := min_l0 l hL (l.length - 1) k 1 (rd l 0) (by omega) (by omega)
 refine ⟨m, ?_, ?_⟩
 ·rw [slices_Min_int_int.f, if_neg (by omega), if_pos (by omega)]
  exact e
 ·rw [h, ← all_mem (Q := fun x => -50 ≤ x)]
  constructor
  ·intro H hn
   rcases H with H | ⟨j, _, h2, h3⟩
   ·have := hn 0 (by omega) (by omega)
    rw [show ((0 : Nat) : Int) = 0 from rfl] at this
    omega
   ·have := hn j (by omega) h2
    omega
  ·intro H
   apply Classical.byContradiction
   intro hn
   refine H (fun j _ hj => ?_)
   by_cases e : j = 0
   ·subst e
    rw [show ((0 : Nat) : Int) = 0 from rfl]
    apply Classical.byContradiction
    intro h2
    exact hn (Or.inl (by omega))
   ·apply Classical.byContradiction
    intro h2
    exact hn (Or.inr ⟨j, by omega, hj, by omega⟩)
theorem max_f {k : Nat} {l : List Int} (hk : l.length < k) (h0 : 0 < l.length) (hL : l.length < 4611686018427387904) :
  ∃ m, slices_Max_int_int.f k l = some m ∧ (m > 50 ↔ ¬ ∀ x, x ∈ l → x ≤ 50) := by
 obtain ⟨m, e, h⟩ := max_l0 l hL (l.length - 1) k 1 (rd l 0) (by omega) (by omega)
 refine ⟨m, ?_, ?_⟩
 ·rw [slices_Max_int_int.f, if_neg (by omega), if_pos (by omega)]
  exact e
 ·rw [show (m > 50) = ((50 : Int) < m) from rfl, h, ← all_mem (Q := fun x => x ≤ 50)]
  constructor
  ·intro H hn
   rcases H with H | ⟨j, _, h2, h3⟩
   ·have := hn 0 (by omega) (by omega)
    rw [show ((0 : Nat) : Int) = 0 from rfl] at this
    omega
   ·have := hn j (by omega) h2
    omega
  ·intro H
   apply Classical.byContradiction
   intro hn
   refine H (fun j _ hj => ?_)
   by_cases e : j = 0
   ·subst e
    rw [show ((0 : Nat) : Int) = 0 from rfl]
    apply Classical.byContradiction
    intro h2
    exact hn (Or.inl (by omega))
   ·apply Classical.byContradiction
    intro h2
    exact hn (Or.inr ⟨j, by omega, hj, by omega⟩)
theorem cmpless_f (a b : Int) : cmp_Less_int.f a b = some (decide (a < b)) := by
 unfold cmp_Less_int.f cmp_isNaN_int.f
 simp
theorem sorted_l0 (K : List Int) (hL : K.length < 4611686018427387904) : ∀ i k, i < K.length → i < k →
  slices_IsSorted_int_int.l0 k K (i : Nat) = some (dc (∀ j, j < i → kn K j ≤ kn K (j + 1))) := by
 intro i
 induction i with
 | zero =>
  intro k hi hk
  obtain ⟨k, rfl⟩ : ∃ m, k = m + 1 := ⟨k - 1, by omega⟩
  rw [slices_IsSorted_int_int.l0, if_neg (by omega), dc_true]
  intro j hj
  omega
 | succ i ih =>
  intro k hi hk
  obtain ⟨k, rfl⟩ : ∃ m, k = m + 1 := ⟨k - 1, by omega⟩
  rw [slices_IsSorted_int_int.l0, if_pos (by omega), if_pos (by omega), if_pos (by omega), w64 (by omega) (by omega), if_pos (by omega), if_pos (by omega), cmpless_f, Option.bind_some,
   rd_kn hi, show (((i + 1 : Nat) : Int) - 1) = (i : Nat) by omega, rd_kn (show i < K.length by omega), ih k (by omega) (by omega)]
  by_cases h : kn K (i + 1) < kn K i
  ·rw [decide_eq_true h, if_pos rfl, dc_false]
   intro h2
   have := h2 i (by omega)
   omega
  ·rw [decide_eq_false h, if_neg (by simp)]
   refine congrArg some (dc_congr ⟨fun h2 j hj => ?_, fun h2 j hj => h2 j (by omega)⟩)
   by_cases e : j = i
   ·subst e; omega
   ·exact h2 j (by omega)
theorem sorted_f {k : Nat} {K : List Int} (hk : K.length < k) (h0 : 0 < K.length) (hL : K.length < 4611686018427387904) :
  slices_IsSorted_int_int.f k K = some (dc (∀ j, j + 1 < K.length → kn K j ≤ kn K (j + 1))) := by
 rw [slices_IsSorted_int_int.f, w64 (by omega) (by omega), show ((K.length : Int) - 1) = ((K.length - 1 : Nat) : Int) by omega, sorted_l0 K hL _ k (by omega) (by omega)]
 refine congrArg some (dc_congr ⟨fun h j hj => h j (by omega), fun h j hj => h j (by omega)⟩)
theorem v_l0 {d : Nat} {K P : List Int} (hK : K.length = P.length + d + 1) (hn : P.length ≤ 64) (hd3 : d ≤ 3) (hd : d + 1 ≤ P.length) : ∀ n k i, i + n = P.length → n < k →
  curves_Curve_valid.l0 k P.length d P.length i d K P = some (dc ((∀ j, i ≤ j → j < P.length → kn K j ≠ kn K (j + d + 1)) ∧ kn K d < kn K P.length)) := by
 intro n
 induction n with
 | zero =>
  intro k i hi hk
  obtain ⟨k, rfl⟩ : ∃ m, k = m + 1 := ⟨k - 1, by omega⟩
  rw [curves_Curve_valid.l0, if_neg (by omega), if_pos (by omega), if_pos (by omega), if_pos (by omega), if_pos (by omega), rd_kn (show d < K.length by omega), rd_kn (show P.length < K.length by omega), dec_dc]
  refine congrArg some (dc_congr ⟨fun h => ⟨fun j h1 h2 => absurd h1 (by omega), h⟩, fun h => h.2⟩)
 | succ n ih =>
  intro k i hi hk
  obtain ⟨k, rfl⟩ : ∃ m, k = m + 1 := ⟨k - 1, by omega⟩
  have IH := ih k (i + 1) (by omega) (by omega)
  rw [curves_Curve_valid.l0, if_pos (by omega), w64 (i := (i : Int) + d) (by omega) (by omega), w64 (i := (i : Int) + d + 1) (by omega) (by omega), if_pos (by omega), if_pos (by omega), if_pos (by omega), if_pos (by omega),
   rd_kn (show i < K.length by omega), show ((i : Int) + d + 1) = ((i + d + 1 : Nat) : Int) by omega, rd_kn (show i + d + 1 < K.length by omega), w64 (i := (i : Int) + 1) (by omega) (by omega),
   show ((i : Int) + 1) = ((i + 1 : Nat) : Int) by omega, IH, all_step (show i < P.length by omega)]
  by_cases h : kn K i = kn K (i + d + 1)
  ·rw [if_pos h, dc_false]
   intro h2
   exact h2.1.1 h
  ·rw [if_neg h]
   refine congrArg some (dc_congr ?_)
   simp [h]
theorem vp_v {d : Nat} {K P : List Int} (hd : d ≤ 3) (hn : d + 1 ≤ P.length) (h8 : P.length ≤ 8) (hK : K.length = P.length + d + 1) :
  ((∀ x, x ∈ P → -50 ≤ x) ∧ (∀ x, x ∈ P → x ≤ 50) ∧ (∀ j, j + 1 < K.length → kn K j ≤ kn K (j + 1)) ∧ 0 ≤ kn K 0 ∧ kn K (P.length + d) ≤ 12 ∧ (∀ j, 0 ≤ j → j < P.length → kn K j ≠ kn K (j + d + 1)) ∧ kn K d < kn K P.length) ↔ VP d K P := by
 constructor
 ·intro ⟨h1, h2, h3, h4, h5, h6, h7⟩
  have up : ∀ j, j < K.length → 0 ≤ kn K j := by
   intro j
   induction j with
   | zero => intro _; exact h4
   | succ j ih =>
    intro hj
    have := ih (by omega)
    have := h3 j hj
    omega
  have dn : ∀ j, j < K.length → kn K (P.length + d - j) ≤ 12 := by
   intro j
   induction j with
   | zero => intro _; exact h5
   | succ j ih =>
    intro hj
    have := ih (by omega)
    have := h3 (P.length + d - (j + 1)) (by omega)
    rw [show P.length + d - (j + 1) + 1 = P.length + d - j by omega] at this
    omega
  have h8' : ∀ j, j < K.length → 0 ≤ kn K j ∧ kn K j ≤ 12 := by
   intro j hj
   have := dn (P.length + d - j) (by omega)
   rw [show P.length + d - (P.length + d - j) = j by omega] at this
   exact ⟨up j hj, this⟩
  exact ⟨hd, hn, h8, hK, fun x hx => ⟨h1 x hx, h2 x hx⟩, kn_range h8', kn_mono h8' h3, fun i hi => h6 i (by omega) hi, h7⟩
 ·intro h
  exact ⟨fun x hx => (h.hP x hx).1, fun x hx => (h.hP x hx).2, fun j _ => h.mono j, (h.h0 0).1, (h.h0 _).2, fun j _ hj => h.ne j hj, h.span⟩
theorem valid_f {k : Nat} (hk : KG ≤ k) {a : Int} {K P : List Int} (hP : P.length ≤ 9223372036854775807) :
  curves_Curve_valid.f k a K P = some (dc (VPI a K P)) := by
 unfold KG at hk
 have bad : ¬ VPI a K P → ∀ x3 x4 : Int, curves_Curve_valid.j0 k x3 x4 true a K P = some (dc (VPI a K P)) := by
  intro h x3 x4
  obtain ⟨k, rfl⟩ : ∃ m, k = m + 1 := ⟨k - 1, by omega⟩
  rw [curves_Curve_valid.j0, if_pos rfl, dc_false h]
 unfold curves_Curve_valid.f
 by_cases h1 : a < 0
 ·rw [if_pos h1]
  exact bad (fun ⟨d, e, h⟩ => by omega) _ _
 rw [if_neg h1]
 by_cases h2 : a > 3
 ·rw [if_pos h2]
  exact bad (fun ⟨d, e, h⟩ => by have := h.hd; omega) _ _
 rw [if_neg h2, w64 (by omega) (by omega)]
 by_cases h3 : (P.length : Int) < a + 1
 ·rw [if_pos h3]
  exact bad (fun ⟨d, e, h⟩ => by have := h.hn; omega) _ _
 rw [if_neg h3]
 by_cases h4 : (P.length : Int) > 8
 ·rw [if_pos h4]
  exact bad (fun ⟨d, e, h⟩ => by have := h.h8; omega) _ _
 rw [if_neg h4, w64 (i := (P.length : Int) + a) (by omega) (by omega), w64 (by omega) (by omega)]
 by_cases h5 : (K.length : Int) = P.length + a + 1
 ·obtain ⟨d, rfl⟩ : ∃ d : Nat, a = d := ⟨a.toNat, by omega⟩
  obtain ⟨k, rfl⟩ : ∃ m, k = m + 1 := ⟨k - 1, by omega⟩
  have goal2 : VPI d K P ↔ VP d K P := by
   constructor
   ·intro ⟨d', e, h⟩
    obtain rfl : d = d' := by omega
    exact h
   ·exact fun h => ⟨d, rfl, h⟩
  rw [dc_congr goal2, ← dc_congr (vp_v (d := d) (K := K) (P := P) (by omega) (by omega) (by omega) (by omega))]
  rw [curves_Curve_valid.j0, if_neg (by simp [h5])]
  obtain ⟨m1, e1, i1⟩ := min_f (k := k) (l := P) (by omega) (by omega) (by omega)
  obtain ⟨m2, e2, i2⟩ := max_f (k := k) (l := P) (by omega) (by omega) (by omega)
  have j1 : ∀ {p : Prop}, ¬ p → curves_Curve_valid.j1 k P.length d true d K P = some (dc p) := by
   intro p h
   obtain ⟨k, rfl⟩ : ∃ m, k = m + 1 := ⟨k - 1, by omega⟩
   rw [curves_Curve_valid.j1, if_pos rfl, dc_false h]
  rw [e1, Option.bind_some]
  by_cases g1 : m1 < -50
  ·rw [if_pos g1]
   exact j1 (fun h => i1.mp g1 h.1)
  rw [if_neg g1, e2, Option.bind_some]
  by_cases g2 : m2 > 50
  ·rw [if_pos g2]
   exact j1 (fun h => i2.mp g2 h.2.1)
  rw [if_neg g2, sorted_f (k := k) (K := K) (by omega) (by omega) (by omega), Option.bind_some]
  have f1 : ∀ x, x ∈ P → -50 ≤ x := Classical.byContradiction fun h => g1 (i1.mpr h)
  have f2 : ∀ x, x ∈ P → x ≤ 50 := Classical.byContradiction fun h => g2 (i2.mpr h)
  by_cases g3 : ∀ j, j + 1 < K.length → kn K j ≤ kn K (j + 1)
  ·rw [dc_true g3, if_pos rfl, if_pos (by omega), show (0 : Int) = ((0 : Nat) : Int) from rfl, rd_kn (show 0 < K.length by omega)]
   by_cases g4 : kn K 0 < 0
   ·rw [show ((0 : Nat) : Int) = (0 : Int) from rfl, if_pos g4]
    exact j1 (fun h => by have := h.2.2.2.1; omega)
   rw [show ((0 : Nat) : Int) = (0 : Int) from rfl, if_neg g4, w64 (by omega) (by omega), if_pos (by omega), if_pos (by omega), show ((P.length : Int) + d) = ((P.length + d : Nat) : Int) by omega, rd_kn (show P.length + d < K.length by omega)]
   by_cases g5 : kn K (P.length + d) > 12
   ·rw [decide_eq_true g5]
    exact j1 (fun h => by have := h.2.2.2.2.1; omega)
   ·rw [decide_eq_false g5]
    obtain ⟨k, rfl⟩ : ∃ m, k = m + 1 := ⟨k - 1, by omega⟩
    rw [curves_Curve_valid.j1, if_neg (by decide)]
    refine Eq.trans (v_l0 (d := d) (K := K) (P := P) (by omega) (by omega) (by omega) (by omega) P.length k 0 (by omega) (by omega)) ?_
    refine congrArg some (dc_congr ⟨fun h => ⟨f1, f2, g3, by omega, by omega, h⟩, fun h => h.2.2.2.2.2⟩)
  ·rw [dc_false g3, if_neg (by decide)]
   exact j1 (fun h => g3 h.2.2.1)
 ·have : ((K.length : Int) != (P.length : Int) + a + 1) = true := by simpa using h5
  rw [this]
  exact bad (fun ⟨d, e, h⟩ => by have := h.hK; omega) _ _
end Go.Proofs.YtpnocmkpeogifaaDoor.Pure
namespace Go.Proofs.YtpnocmkpeogifaaDoor.Pure
open Go.RowKit Go.Proofs.YtpnocmkpeogifaaDoor.X Go.Proofs.YtpnocmkpeogifaaDoorW.PrintWords Go.Proofs.YtpnocmkpeogifaaDoorW.PrintLast
set_option linter.unusedVariables false
set_option linter.unusedSimpArgs false
theorem leo_up {α : Type} {f : Nat → Option α} (h : ∀ k, LeO (f k) (f (k + 1))) {a b : Nat} {r : α} (hab : a ≤ b) (e : f a = some r) : f b = some r := by
  induction b with
  | zero => rw [show a = 0 by omega] at e; exact e
  | succ b ih =>
    by_cases c : a = b + 1
    · rw [← c]; exact e
    · exact h b r (ih (by omega))
theorem awake60 : congoulaw04_awake.f 60 = some true := by decide +kernel
theorem awake_f {k : Nat} (hk : 60 ≤ k) : congoulaw04_awake.f k = some true := leo_up (f := congoulaw04_awake.f) congoulaw04_awake.mono hk awake60
theorem list_f (l : List Int) : congoulaw04_list.f l = some (l.take 23) := by
  unfold congoulaw04_list.f slices_Clone_int_int.f
  have h1 : 0 ≤ mn (l.length : Int) 23 := by unfold mn; split <;> omega
  have h2 : mn (l.length : Int) 23 ≤ l.length := by unfold mn; split <;> omega
  rw [if_pos h1, if_pos h2, Option.bind_some]
  have h3 : (mn (l.length : Int) 23).toNat = min 23 l.length := by unfold mn; split <;> omega
  rw [h3, if_pos (by rw [List.length_take, List.length_nil]; omega), Option.bind_some, List.nil_append]
  congr 1
  rw [List.take_eq_take_iff]
  omega
theorem of_law (a : Int) (K P : List Int) : congoulaw04_Of.f a K P = some (a, K.take 23, P.take 23) := by
  unfold congoulaw04_Of.f
  rw [list_f, Option.bind_some, list_f, Option.bind_some]
/-- a copy cut off behind 23 is valid just where the lists are -/
theorem vp_take {d : Nat} {K P : List Int} : VP d (K.take 23) (P.take 23) → K.take 23 = K ∧ P.take 23 = P := by
  intro h
  have h1 := h.h8
  have h2 := h.hK
  have h3 := h.hd
  rw [List.length_take] at h1 h2
  rw [List.length_take] at h2
  exact ⟨List.take_of_length_le (by omega), List.take_of_length_le (by omega)⟩
theorem vp_len {d : Nat} {K P : List Int} (h : VP d K P) : K.take 23 = K ∧ P.take 23 = P := by
  have h1 := h.h8
  have h2 := h.hK
  have h3 := h.hd
  exact ⟨List.take_of_length_le (by omega), List.take_of_length_le (by omega)⟩
theorem vpi_take {a : Int} {K P : List Int} : VPI a (K.take 23) (P.take 23) ↔ VPI a K P := by
  constructor
  · intro ⟨d, e, h⟩
    obtain ⟨e1, e2⟩ := vp_take h
    rw [e1, e2] at h
    exact ⟨d, e, h⟩
  · intro ⟨d, e, h⟩
    obtain ⟨e1, e2⟩ := vp_len h
    rw [e1, e2]
    exact ⟨d, e, h⟩
end Go.Proofs.YtpnocmkpeogifaaDoor.Pure
