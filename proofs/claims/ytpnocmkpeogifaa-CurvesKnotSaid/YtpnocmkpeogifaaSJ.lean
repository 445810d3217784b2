/- Insert, in both packages: the poles of the longer knots. -/
import Derived.Test.YtpnocmkpeogifaaXf44
import Derived.Test.YtpnocmkpeogifaaSI
import Derived.Test.YtpnocmkpeogifaaSEa
namespace Go.Proofs.Ytpnocmkpeogifaa.Pure
open Go.RowKit Go.Proofs.Ytpnocmkpeogifaa.X Go.Proofs.YtpnocmkpeogifaaW.PrintWords Go.Proofs.YtpnocmkpeogifaaW.PrintLast
set_option linter.unusedVariables false
set_option linter.unusedSimpArgs false

/-- where a knot is put in -/
structure Ins (d : Nat) (K P : List Int) (k : Int) (j : Nat) : Prop where
  V : VP d K P
  lo : kn K d ≤ k
  hi : k < kn K P.length
  j1 : kn K j ≤ k
  j2 : k < kn K (j + 1)
theorem Ins.jn {d : Nat} {K P : List Int} {k : Int} {j : Nat} (h : Ins d K P k j) : j < P.length := by
  refine Classical.byContradiction fun c => ?_
  have := kn_le h.V.mono P.length j (by omega)
  have := h.hi; have := h.j1; omega
theorem Ins.dj {d : Nat} {K P : List Int} {k : Int} {j : Nat} (h : Ins d K P k j) : d ≤ j := by
  refine Classical.byContradiction fun c => ?_
  have := kn_le h.V.mono (j + 1) d (by omega)
  have := h.lo; have := h.j2; omega
theorem Ins.le {d : Nat} {K P : List Int} {k : Int} {j : Nat} (h : Ins d K P k j) (i : Nat) : kn K i ≤ k ↔ i ≤ j := by
  constructor
  · intro c
    refine Classical.byContradiction fun hn => ?_
    have := kn_le h.V.mono (j + 1) i (by omega)
    have := h.j2; omega
  · intro c
    have := kn_le h.V.mono i j c
    have := h.j1; omega
theorem Ins.kb {d : Nat} {K P : List Int} {k : Int} {j : Nat} (h : Ins d K P k j) : 0 ≤ k ∧ k ≤ 12 := by
  have := h.V.h0 j; have := h.V.h0 (j + 1); have := h.j1; have := h.j2; omega
theorem ins_of {d : Nat} {K P : List Int} {k : Int} (V : VP d K P) (lo : kn K d ≤ k) (hi : k < kn K P.length) : ∃ j, Ins d K P k j := by
  have key : ∀ n i, kn K i ≤ k → i + n = P.length → ∃ j, kn K j ≤ k ∧ k < kn K (j + 1) := by
    intro n
    induction n with
    | zero => intro i h1 h2; rw [show i = P.length by omega] at h1; omega
    | succ n ih =>
      intro i h1 h2
      by_cases c : k < kn K (i + 1)
      · exact ⟨i, h1, c⟩
      · exact ih (i + 1) (by omega) (by omega)
  obtain ⟨j, h1, h2⟩ := key (P.length - d) d lo (by have := V.hn; omega)
  exact ⟨j, V, lo, hi, h1, h2⟩

/-! ### how often a knot stands -/
theorem Ins.first {d : Nat} {K P : List Int} {k : Int} {j : Nat} (h : Ins d K P k j) : ∃ s, s ≤ j + 1 ∧ (∀ i, i < s → kn K i < k) ∧ ∀ i, s ≤ i → i ≤ j → kn K i = k := by
  have key : ∀ n, n ≤ j + 1 → ∃ s, s ≤ n ∧ (∀ i, i < s → kn K i < k) ∧ ∀ i, s ≤ i → i < n → kn K i = k := by
    intro n
    induction n with
    | zero => intro _; exact ⟨0, Nat.le_refl _, fun i hi => absurd hi (by omega), fun i _ hi => absurd hi (by omega)⟩
    | succ n ih =>
      intro hn
      obtain ⟨s, h1, h2, h3⟩ := ih (by omega)
      have hk := (h.le n).mpr (by omega)
      by_cases c : kn K n = k
      · refine ⟨s, by omega, h2, fun i a b => ?_⟩
        by_cases e : i = n
        · subst e; exact c
        · exact h3 i a (by omega)
      · refine ⟨n + 1, by omega, fun i hi => ?_, fun i a b => by omega⟩
        have := kn_le h.V.mono i n (by omega)
        omega
  obtain ⟨s, h1, h2, h3⟩ := key (j + 1) (Nat.le_refl _)
  exact ⟨s, h1, h2, fun i a b => h3 i a (by omega)⟩
def eqs (k : Int) (l : List Int) : Nat := (l.filter fun x => decide (x = k)).length
theorem eqs_take {K : List Int} {k : Int} {i : Nat} (h : i < K.length) : eqs k (K.take (i + 1)) = eqs k (K.take i) + if kn K i = k then 1 else 0 := by
  have e : K[i] = kn K i := by rw [kn, List.getD_eq_getElem?_getD, List.getElem?_eq_getElem h, Option.getD_some]
  rw [eqs, eqs, List.take_add_one, List.getElem?_eq_getElem h, List.filter_append, List.length_append]
  congr 1
  rw [← e]
  by_cases c : K[i] = k
  · simp [c]
  · simp [c]
theorem Ins.eqs_at {d : Nat} {K P : List Int} {k : Int} {j : Nat} (h : Ins d K P k j) {s : Nat} (s1 : s ≤ j + 1) (s2 : ∀ i, i < s → kn K i < k) (s3 : ∀ i, s ≤ i → i ≤ j → kn K i = k) : ∀ i, i ≤ K.length → eqs k (K.take i) = min i (j + 1) - min i s
  | 0, _ => by simp [eqs]
  | i + 1, hi => by
    rw [eqs_take (by omega), h.eqs_at s1 s2 s3 i (by omega)]
    by_cases c1 : i < s
    · have := s2 i c1
      rw [if_neg (by omega)]; omega
    · by_cases c2 : i ≤ j
      · rw [if_pos (s3 i (by omega) c2)]; omega
      · have := fun e : kn K i ≤ k => (h.le i).mp e
        rw [if_neg (by omega)]; omega
theorem Ins.times {d : Nat} {K P : List Int} {k : Int} {j : Nat} (h : Ins d K P k j) : eqs k K ≤ d + 1 ∧ (d < eqs k K ↔ kn K (j - d) = k) := by
  obtain ⟨s, s1, s2, s3⟩ := h.first
  have e := h.eqs_at s1 s2 s3 K.length (Nat.le_refl _)
  rw [List.take_of_length_le (Nat.le_refl _)] at e
  have hK := h.V.hK
  have hj := h.jn
  have hd := h.dj
  rw [Nat.min_eq_right (by omega), Nat.min_eq_right (by omega)] at e
  have hs : j ≤ s + d := by
    refine Classical.byContradiction fun c => ?_
    have h1 := s3 s (Nat.le_refl _) (by omega)
    have h2 := s3 (s + d + 1) (by omega) (by omega)
    exact h.V.ne s (by omega) (h1.trans h2.symm)
  refine ⟨by omega, fun c => s3 (j - d) (by omega) (by omega), fun c => ?_⟩
  refine Classical.byContradiction fun hn => ?_
  have := s2 (j - d) (by omega)
  omega
theorem filter_rest (k : Int) : ∀ l : List Int, (l.filter fun x => !decide (x = k)).length + eqs k l = l.length
  | [] => rfl
  | x :: l => by
    have := filter_rest k l
    unfold eqs at *
    by_cases c : x = k
    · simp [c]; omega
    · simp [c]; omega

/-! ### the part of a pole -/
/-- bounds of a fraction by its numbers -/
structure Bn (N D : Nat) (q : Rat) : Prop where
  n : q.num.natAbs ≤ N
  d : q.den ≤ D
theorem sm_of {q : Rat} {N D : Nat} (hn : q.num.natAbs ≤ N) (hd : q.den ∣ D) : Sm D N q := by
  have hp := den_pos q
  have h1 : (N : Int) ≤ N * (q.den : Int) := by
    have := Int.mul_le_mul_of_nonneg_left (show (1 : Int) ≤ q.den by omega) (show (0 : Int) ≤ N by omega)
    omega
  refine ⟨hd, ?_, ?_⟩
  · rw [Rat.le_iff]
    have e1 : (-(N : Rat)).num = -(N : Int) := by rw [Rat.neg_num]; rfl
    have e2 : (-(N : Rat)).den = 1 := by rw [Rat.neg_den]; rfl
    rw [e1, e2]
    have e3 : -(N : Int) * (q.den : Int) = -((N : Int) * q.den) := Int.neg_mul _ _
    rw [e3]
    simp; omega
  · rw [Rat.le_iff]
    have e1 : ((N : Nat) : Rat).num = (N : Int) := rfl
    have e2 : ((N : Nat) : Rat).den = 1 := rfl
    rw [e1, e2]; simp; omega
def PR (P : List Int) (i : Nat) : Rat := ((rd P (i : Int) : Int) : Rat)
theorem Ins.al_bn {d : Nat} {K P : List Int} {k : Int} {j : Nat} (h : Ins d K P k j) (i : Nat) : Bn 12 12 (al (kn K) j k d i) := by
  unfold al
  split
  · exact ⟨by decide, by decide⟩
  · split
    · exact ⟨by decide, by decide⟩
    · rename_i c1 c2
      have h1 := (h.le i).mpr (by omega)
      have h2 := kn_le h.V.mono (j + 1) (i + d) (by omega)
      have h3 := h.j2
      have b1 := h.V.h0 i; have b2 := h.V.h0 (i + d); have b3 := h.kb
      rw [← Rat.divInt_eq_div]
      obtain ⟨n1, n2⟩ := num_abs (k - kn K i) (kn K (i + d) - kn K i) (by omega)
      exact ⟨by omega, by omega⟩
theorem one_less (q : Rat) : (1 : Rat) - q = Rat.divInt ((q.den : Int) - q.num) q.den ∧ (1 - q).den ∣ q.den := by
  have hm := mul_den q
  have h3 : (q.den : Rat) ≠ 0 := nat_ne q.den_pos
  have e : (1 : Rat) - q = Rat.divInt ((q.den : Int) - q.num) q.den := by
    rw [Rat.divInt_eq_div, Rat.intCast_sub]
    have h2 : ((q.den : Int) : Rat) = (q.den : Rat) := rfl
    rw [h2]
    grind
  refine ⟨e, den_of_whole q.den_pos (z := (q.den : Int) - q.num) ?_⟩
  rw [Rat.intCast_sub]
  have h2 : ((q.den : Int) : Rat) = (q.den : Rat) := rfl
  rw [h2]
  grind
theorem less_bn {q : Rat} {N D : Nat} (h : Bn N D q) : Bn (N + D) D (1 - q) := by
  obtain ⟨e, _⟩ := one_less q
  rw [e]
  obtain ⟨n1, n2⟩ := num_abs ((q.den : Int) - q.num) q.den (den_pos q)
  have := h.n; have := h.d
  exact ⟨by omega, by omega⟩
theorem mul_bn {q : Rat} {N D : Nat} (h : Bn N D q) {z : Int} (hz : z.natAbs ≤ 50) : Bn (N * 50) D (q * (z : Rat)) ∧ (q * (z : Rat)).den ∣ q.den := by
  have e : q * (z : Rat) = Rat.divInt (q.num * z) q.den := by
    rw [← divInt_one z]
    conv => lhs; rw [← Rat.num_divInt_den q]
    rw [Rat.divInt_mul_divInt, Int.mul_one]
  have hd : (q * (z : Rat)).den ∣ q.den := by
    have := den_mul_dvd q.den_pos (show 0 < 1 by decide) (Nat.dvd_refl q.den) (show (z : Rat).den ∣ 1 by rw [(whole_num z).2]; exact Nat.dvd_refl 1)
    rwa [Nat.mul_one] at this
  refine ⟨?_, hd⟩
  obtain ⟨n1, n2⟩ := num_abs (q.num * z) q.den (den_pos q)
  rw [e]
  have := h.d
  exact ⟨Nat.le_trans n1 (natAbs_mul_le h.n hz (Nat.le_refl _)), by omega⟩
theorem Ins.pole {d : Nat} {K P : List Int} {k : Int} {j : Nat} (h : Ins d K P k j) {i : Nat} (hi : i < P.length) : (rd P (i : Int)).natAbs ≤ 50 := by
  have := h.V.hP _ (rd_mem hi)
  omega
/-- both products are of one denominator -/
theorem Ins.prods {d : Nat} {K P : List Int} {k : Int} {j : Nat} (h : Ins d K P k j) (i : Nat) (z y : Int) (hz : z.natAbs ≤ 50) (hy : y.natAbs ≤ 50) :
    Sm (al (kn K) j k d i).den 600 (al (kn K) j k d i * (z : Rat)) ∧ Sm (al (kn K) j k d i).den 1200 ((1 - al (kn K) j k d i) * (y : Rat)) := by
  have hb := h.al_bn i
  obtain ⟨m1, m2⟩ := mul_bn hb hz
  obtain ⟨m3, m4⟩ := mul_bn (less_bn hb) hy
  exact ⟨sm_of m1.n m2, sm_of m3.n (Nat.dvd_trans m4 (one_less _).2)⟩

/-! ### the program's -/
theorem find_l0 {d : Nat} {K P : List Int} {k : Int} {j : Nat} (h : Ins d K P k j) : ∀ (n q i : Nat), i + n = K.length →
    curves_Insert.l0 (q + n + 1) k ((min (i - 1) j : Nat) : Int) K (K.length : Int) (i : Int) (d : Int) K P = curves_Insert.l1 q k (j : Int) [] ((P.length + 1 : Nat) : Int) 0 (d : Int) K P := by
  have hK := h.V.hK; have h8 := h.V.h8; have hd3 := h.V.hd; have hjn := h.jn
  intro n
  induction n with
  | zero =>
    intro q i hi
    rw [curves_Insert.l0, if_neg (by omega), w64 (by omega) (by omega), show (P.length : Int) + 1 = ((P.length + 1 : Nat) : Int) by omega, show min (i - 1) j = j by omega]
  | succ n ih =>
    intro q i hi
    rw [show q + (n + 1) + 1 = (q + n + 1) + 1 by omega, curves_Insert.l0, if_pos (by omega), if_pos (by omega), if_pos (by omega), rd_kn (by omega), w64 (by omega) (by omega), show (i : Int) + 1 = ((i + 1 : Nat) : Int) by omega]
    have IH := ih q (i + 1) (by omega)
    by_cases c : i ≤ j
    · rw [if_pos ((h.le i).mpr c)]
      rw [show min (i + 1 - 1) j = i by omega] at IH
      exact IH
    · rw [if_neg fun e => c ((h.le i).mp e)]
      rw [show min (i + 1 - 1) j = min (i - 1) j by omega] at IH
      exact IH
theorem poles_j4 {d : Nat} {K P : List Int} {k : Int} {j : Nat} (h : Ins d K P k j) (q i : Nat) (hq : KG ≤ q) (hi : i ≤ P.length) (s : Rat) (hs : s = if i < P.length then al (kn K) j k d i * PR P i else 0) :
    curves_Insert.j4 (q + 1) k (j : Int) (lm7 (pb (kn K) j k d P.length (PR P)) i) (i : Int) ((P.length + 1 : Nat) : Int) (i : Int) (d : Int) K P (al (kn K) j k d i).num (al (kn K) j k d i).den s.num s.den
     = curves_Insert.l1 q k (j : Int) (lm7 (pb (kn K) j k d P.length (PR P)) (i + 1)) ((P.length + 1 : Nat) : Int) ((i + 1 : Nat) : Int) (d : Int) K P := by
  have h8 := h.V.h8
  have hb := h.al_bn i
  rw [curves_Insert.j4]
  by_cases c : 0 < i
  · have hp1 := h.pole (show i - 1 < P.length by omega)
    have hl := less_bn hb
    rw [if_pos (by omega), from_f hq hb.d (by have := hb.n; omega) (by omega), Option.bind_some]
    simp only [w64 (i := (i : Int) - 1) (by omega) (by omega)]
    rw [if_pos (by omega), if_pos (by omega), show (i : Int) - 1 = ((i - 1 : Nat) : Int) by omega, of_one hq (by omega) (by omega), Option.bind_some]
    have hT := times_f hq (a := 1 - al (kn K) j k d i) (b := PR P (i - 1)) (A := 24) (B := 50) (D := 12) (E := 1) hl.n (by unfold PR; rw [(whole_num _).1]; exact hp1) hl.d (by unfold PR; rw [(whole_num _).2]; exact Nat.le_refl _) (by decide) (by decide) (by decide) (by decide) (by decide) (by decide)
    have hw1 : (PR P (i - 1)).num = rd P ((i - 1 : Nat) : Int) := (whole_num _).1
    have hw2 : ((PR P (i - 1)).den : Int) = 1 := by unfold PR; rw [(whole_num _).2]; rfl
    rw [hw1, hw2] at hT
    simp only [cn, Rat.intCast_one] at hT ⊢
    rw [hT, Option.bind_some]
    have hS : Sm (al (kn K) j k d i).den 600 s := by
      rw [hs]
      split
      · rename_i c2
        exact (h.prods i (rd P (i : Int)) 0 (h.pole c2) (by decide)).1
      · exact Sm.zero _ _
    have hS2 := (h.prods i 0 (rd P ((i - 1 : Nat) : Int)) (by decide) hp1).2
    have hPl := plus_f hq (al (kn K) j k d i).den_pos hS hS2 (by have := hb.d; omega) (by have := hb.d; omega)
    unfold PR at *
    rw [hPl, Option.bind_some, if_pos (by rw [lm7_len]; omega), w64 (i := (i : Int) + 1) (by omega) (by omega), show (i : Int) + 1 = ((i + 1 : Nat) : Int) by omega, lm7_succ]
    have e : pb (kn K) j k d P.length (fun i => ((rd P (i : Int) : Int) : Rat)) i = s + (1 - al (kn K) j k d i) * ((rd P ((i - 1 : Nat) : Int) : Int) : Rat) := by
      unfold pb; rw [hs, if_pos c]
    rw [e]; rfl
  · have hi0 : i = 0 := by omega
    rw [if_neg (by omega), if_pos (by rw [lm7_len]; omega), w64 (i := (i : Int) + 1) (by omega) (by omega), show (i : Int) + 1 = ((i + 1 : Nat) : Int) by omega, lm7_succ]
    have e : pb (kn K) j k d P.length (PR P) i = s := by
      unfold pb; rw [hs, if_neg c]; grind
    rw [e]; rfl
theorem poles_j3 {d : Nat} {K P : List Int} {k : Int} {j : Nat} (h : Ins d K P k j) (q i : Nat) (hq : KG ≤ q) (hi : i ≤ P.length) :
    curves_Insert.j3 (q + 1 + 1) k (j : Int) (lm7 (pb (kn K) j k d P.length (PR P)) i) (i : Int) ((P.length + 1 : Nat) : Int) (i : Int) (d : Int) K P (al (kn K) j k d i).num (al (kn K) j k d i).den
     = curves_Insert.l1 q k (j : Int) (lm7 (pb (kn K) j k d P.length (PR P)) (i + 1)) ((P.length + 1 : Nat) : Int) ((i + 1 : Nat) : Int) (d : Int) K P := by
  have h8 := h.V.h8
  have hb := h.al_bn i
  have hq1 : KG ≤ q + 1 := by omega
  rw [curves_Insert.j3, of_one hq1 (by omega) (by omega), Option.bind_some]
  by_cases c : i < P.length
  · have hp := h.pole c
    rw [if_pos (by omega), if_pos (by omega), of_one hq1 (by omega) (by omega), Option.bind_some]
    have hT := times_f hq1 (a := al (kn K) j k d i) (b := PR P i) (A := 12) (B := 50) (D := 12) (E := 1) hb.n (by unfold PR; rw [(whole_num _).1]; exact hp) hb.d (by unfold PR; rw [(whole_num _).2]; exact Nat.le_refl _) (by decide) (by decide) (by decide) (by decide) (by decide) (by decide)
    have hw1 : (PR P i).num = rd P (i : Int) := (whole_num _).1
    have hw2 : ((PR P i).den : Int) = 1 := by unfold PR; rw [(whole_num _).2]; rfl
    rw [hw1, hw2] at hT
    simp only [cn] at hT ⊢
    rw [hT, Option.bind_some]
    exact poles_j4 h q i hq hi _ (by rw [if_pos c])
  · rw [if_neg (by omega)]
    exact poles_j4 h q i hq hi 0 (by rw [if_neg c])
theorem al_of {d : Nat} {K P : List Int} {k : Int} {j : Nat} (h : Ins d K P k j) (i : Nat) (h1 : ¬ i + d ≤ j) (h2 : i ≤ j) : al (kn K) j k d i = Rat.divInt (k - kn K i) (kn K (i + d) - kn K i) := by
  rw [al, if_neg h1, if_neg (by omega), Rat.divInt_eq_div]
theorem poles_l1 {d : Nat} {K P : List Int} {k : Int} {j : Nat} (h : Ins d K P k j) : ∀ (n q i : Nat), i + n = P.length + 1 → KG + 3 * n + 40 < q →
    curves_Insert.l1 q k (j : Int) (lm7 (pb (kn K) j k d P.length (PR P)) i) ((P.length + 1 : Nat) : Int) (i : Int) (d : Int) K P = some (lm (pb (kn K) j k d P.length (PR P)) (P.length + 1), 0) := by
  have hK := h.V.hK; have h8 := h.V.h8; have hd3 := h.V.hd; have hjn := h.jn; have hdj := h.dj; have hkb := h.kb
  intro n
  induction n with
  | zero =>
    intro q i hi hq
    obtain ⟨q, rfl⟩ : ∃ m, q = m + 1 := ⟨q - 1, by omega⟩
    rw [curves_Insert.l1, if_neg (by omega), show i = P.length + 1 by omega, told7_f (by omega) (by omega), Option.bind_some]
  | succ n ih =>
    intro q i hi hq
    obtain ⟨q, rfl⟩ : ∃ m, q = m + 1 + 1 + 1 := ⟨q - 3, by omega⟩
    have IH := ih q (i + 1) (by omega) (by omega)
    have J := poles_j3 h q i (by omega) (by omega)
    rw [IH] at J
    have hq2 : KG ≤ q + 1 + 1 := by omega
    rw [curves_Insert.l1, if_pos (by omega), of_one hq2 (by omega) (by omega), Option.bind_some, w64 (i := (j : Int) - d) (by omega) (by omega)]
    by_cases c1 : i + d ≤ j
    · have e : al (kn K) j k d i = 1 := by rw [al, if_pos c1]
      rw [if_pos (by omega), of_one hq2 (by omega) (by omega), Option.bind_some]
      rw [e] at J
      exact J
    · rw [if_neg (by omega)]
      by_cases c2 : i ≤ j
      · have h2 := kn_le h.V.mono (j + 1) (i + d) (by omega)
        have h3 := h.j2
        have h1 := (h.le i).mpr c2
        have b1 := h.V.h0 i; have b2 := h.V.h0 (i + d)
        have e := al_of h i c1 c2
        rw [if_pos (by omega), if_pos (by omega), if_pos (by omega), w64 (i := (i : Int) + d) (by omega) (by omega), if_pos (by omega), if_pos (by omega), rd_kn (by omega), show (i : Int) + d = ((i + d : Nat) : Int) by omega, rd_kn (by omega), w64 (by omega) (by omega), w64 (by omega) (by omega), of_f hq2 (by omega) (by omega) (by omega) (by omega), Option.bind_some, ← e]
        exact J
      · have e : al (kn K) j k d i = 0 := by rw [al, if_neg c1, if_pos (by omega)]
        rw [if_neg (by omega)]
        rw [e] at J
        exact J
end Go.Proofs.Ytpnocmkpeogifaa.Pure
