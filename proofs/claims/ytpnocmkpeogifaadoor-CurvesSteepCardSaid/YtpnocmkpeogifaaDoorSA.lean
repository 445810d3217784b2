/- The arithmetic of small fractions: each operation of both packages is that of the rational numbers. -/
import Derived.Test.YtpnocmkpeogifaaDoorXG3a
import Derived.Test.YtpnocmkpeogifaaDoorXG2a
import Derived.Test.YtpnocmkpeogifaaDoorXf26
import Derived.Test.YtpnocmkpeogifaaDoorXf27
namespace Go.Proofs.YtpnocmkpeogifaaDoor.Pure
open Go.RowKit Go.Proofs.YtpnocmkpeogifaaDoor.X Go.Proofs.YtpnocmkpeogifaaDoorW.PrintWords Go.Proofs.YtpnocmkpeogifaaDoorW.PrintLast
set_option linter.unusedVariables false
set_option linter.unusedSimpArgs false

theorem w64 {i : Int} (h0 : -9223372036854775808 ≤ i) (h : i ≤ 9223372036854775807) : wrap64 i = i := by
 unfold wrap64
 omega
theorem rd_nat (l : List Int) (i : Nat) (h : i < l.length) : rd l (i : Int) = l[i] := by
 simp [rd, List.getD_eq_getElem?_getD, List.getElem?_eq_getElem h]
theorem mx_abs (a : Int) : mx a (-a) = (a.natAbs : Int) := by
 unfold mx
 split <;> omega

theorem gcd_step (a b : Int) : Int.gcd b (Int.tmod a b) = Int.gcd a b := by
 rw [Int.gcd, Int.gcd, Int.natAbs_tmod, Nat.gcd_comm a.natAbs b.natAbs, Nat.gcd_rec b.natAbs a.natAbs, Nat.gcd_comm]
theorem gcd_l0 : ∀ (n k : Nat) (a b : Int), b.natAbs ≤ n → n < k → -9223372036854775807 ≤ a → a ≤ 9223372036854775807 → -9223372036854775807 ≤ b → b ≤ 9223372036854775807 →
  curves_gcd.l0 k a b = some (Int.gcd a b : Int) := by
 intro n
 induction n with
 | zero =>
  intro k a b hb hk h1 h2 h3 h4
  obtain ⟨k, rfl⟩ : ∃ m, k = m + 1 := ⟨k - 1, by omega⟩
  obtain rfl : b = 0 := by omega
  rw [curves_gcd.l0, if_pos rfl, w64 (by omega) (by omega), mx_abs]
  simp
 | succ n ih =>
  intro k a b hb hk h1 h2 h3 h4
  obtain ⟨k, rfl⟩ : ∃ m, k = m + 1 := ⟨k - 1, by omega⟩
  by_cases h0 : b = 0
  ·subst h0
   rw [curves_gcd.l0, if_pos rfl, w64 (by omega) (by omega), mx_abs]
   simp
  ·have hlt : (Int.tmod a b).natAbs < b.natAbs := by rw [Int.natAbs_tmod]; exact Nat.mod_lt _ (by omega)
   rw [curves_gcd.l0, if_neg h0, ih k b _ (by omega) (by omega) h3 h4 (by omega) (by omega), gcd_step]
theorem rgcd_l0 : ∀ (n k : Nat) (a b : Int), b.natAbs ≤ n → n < k → 0 ≤ a → 0 ≤ b → congouref04_gcd.l0 k a b = some (Int.gcd a b : Int) := by
 intro n
 induction n with
 | zero =>
  intro k a b hb hk h1 h2
  obtain ⟨k, rfl⟩ : ∃ m, k = m + 1 := ⟨k - 1, by omega⟩
  obtain rfl : b = 0 := by omega
  rw [congouref04_gcd.l0, if_pos rfl]
  simp
  omega
 | succ n ih =>
  intro k a b hb hk h1 h2
  obtain ⟨k, rfl⟩ : ∃ m, k = m + 1 := ⟨k - 1, by omega⟩
  by_cases h0 : b = 0
  ·subst h0
   rw [congouref04_gcd.l0, if_pos rfl]
   simp
   omega
  ·have hlt : (Int.tmod a b).natAbs < b.natAbs := by rw [Int.natAbs_tmod]; exact Nat.mod_lt _ (by omega)
   rw [congouref04_gcd.l0, if_neg h0, ih k b _ (by omega) (by omega) h2 (Int.tmod_nonneg _ h1), gcd_step]

/-- rounds enough for each greatest common divisor -/
def KG : Nat := 18446744073709551616
theorem gcd_f {k : Nat} (hk : KG ≤ k) {a b : Int} (h1 : -9223372036854775807 ≤ a) (h2 : a ≤ 9223372036854775807) (h3 : -9223372036854775807 ≤ b) (h4 : b ≤ 9223372036854775807) :
  curves_gcd.f k a b = some (Int.gcd a b : Int) := gcd_l0 b.natAbs k a b (Nat.le_refl _) (by unfold KG at hk; omega) h1 h2 h3 h4
theorem rgcd_f {k : Nat} (hk : KG ≤ k) {a b : Int} (h1 : 0 ≤ a) (h3 : 0 ≤ b) (h4 : b ≤ 9223372036854775807) :
  congouref04_gcd.f k a b = some (Int.gcd a b : Int) := rgcd_l0 b.natAbs k a b (Nat.le_refl _) (by unfold KG at hk; omega) h1 h3

/-- a fraction as the pair of its numbers -/
def cn (q : Rat) : Int × Int := (q.num, (q.den : Int))
theorem cn_inj {p q : Rat} (h : cn p = cn q) : p = q := by
 unfold cn at h
 simp only [Prod.mk.injEq] at h
 exact Rat.ext h.1 (by omega)
theorem divInt_pos (a b : Int) (h : 0 < b) : (Rat.divInt a b).num = a / Int.gcd b a ∧ ((Rat.divInt a b).den : Int) = b / Int.gcd b a := by
 rw [Rat.num_divInt, Rat.den_divInt, Int.sign_eq_one_of_pos h, if_neg (by omega)]
 refine ⟨by simp, ?_⟩
 rw [Int.natCast_ediv]
 congr 1
 omega
theorem ediv_small {a b : Int} {M : Int} (hb : 0 < b) (h1 : -M ≤ a) (h2 : a ≤ M) (hM : 0 ≤ M) : -M ≤ a / b ∧ a / b ≤ M := by
 constructor
 ·have := Int.ediv_le_ediv hb h1
  have h3 : -M ≤ (-M) / b := by
   rw [Int.le_ediv_iff_mul_le hb]
   have : M * 1 ≤ M * b := Int.mul_le_mul_of_nonneg_left (by omega) hM
   rw [Int.neg_mul]
   omega
  omega
 ·have := Int.ediv_le_ediv hb h2
  have h3 := Int.ediv_le_self b hM
  omega
theorem of_f {k : Nat} (hk : KG ≤ k) {a b : Int} (h1 : -9223372036854775807 ≤ a) (h2 : a ≤ 9223372036854775807) (h3 : 0 < b) (h4 : b ≤ 9223372036854775807) :
  curves_of.f k a b = some (cn (Rat.divInt a b)) := by
 have hg : (0 : Int) < Int.gcd b a := by
  have := Int.gcd_pos_of_ne_zero_left a (show b ≠ 0 by omega)
  omega
 have e1 : Int.tdiv a (Int.gcd b a) = a / Int.gcd b a := Int.tdiv_eq_ediv_of_dvd (Int.gcd_dvd_right ..)
 have e2 : Int.tdiv b (Int.gcd b a) = b / Int.gcd b a := Int.tdiv_eq_ediv_of_dvd (Int.gcd_dvd_left ..)
 have b1 := ediv_small hg h1 h2 (by omega)
 have b2 := ediv_small (a := b) (M := 9223372036854775807) hg (by omega) h4 (by omega)
 obtain ⟨d1, d2⟩ := divInt_pos a b h3
 unfold curves_of.f
 rw [if_neg (by omega), gcd_f hk h1 h2 (by omega) h4, Option.bind_some, if_neg (by rw [Int.gcd_comm]; omega), Int.gcd_comm, e1, e2, w64 (by omega) (by omega), w64 (by omega) (by omega)]
 unfold cn
 rw [d1, d2]
theorem frac_f {k : Nat} (hk : KG ≤ k) {a b : Int} (h1 : -9223372036854775807 ≤ a) (h2 : a ≤ 9223372036854775807) (h3 : 0 < b) (h4 : b ≤ 9223372036854775807) :
  congouref04_Frac.f k a b = some (cn (Rat.divInt a b)) := by
 have hg : (0 : Int) < Int.gcd b a := by
  have := Int.gcd_pos_of_ne_zero_left a (show b ≠ 0 by omega)
  omega
 have e1 : Int.tdiv a (Int.gcd b a) = a / Int.gcd b a := Int.tdiv_eq_ediv_of_dvd (Int.gcd_dvd_right ..)
 have e2 : Int.tdiv b (Int.gcd b a) = b / Int.gcd b a := Int.tdiv_eq_ediv_of_dvd (Int.gcd_dvd_left ..)
 have b1 := ediv_small hg h1 h2 (by omega)
 have b2 := ediv_small (a := b) (M := 9223372036854775807) hg (by omega) h4 (by omega)
 obtain ⟨d1, d2⟩ := divInt_pos a b h3
 have e3 : Int.gcd (a.natAbs : Int) b = Int.gcd b a := by rw [Int.gcd_comm, Int.gcd, Int.gcd, Int.natAbs_natCast]
 unfold congouref04_Frac.f
 rw [w64 (i := -a) (by omega) (by omega), mx_abs, rgcd_f hk (by omega) (by omega) h4, Option.bind_some, e3, if_neg (by omega), e1, e2, w64 (by omega) (by omega), w64 (by omega) (by omega)]
 unfold cn
 rw [d1, d2]
end Go.Proofs.YtpnocmkpeogifaaDoor.Pure
namespace Go.Proofs.YtpnocmkpeogifaaDoor.Pure
open Go.RowKit Go.Proofs.YtpnocmkpeogifaaDoor.X Go.Proofs.YtpnocmkpeogifaaDoorW.PrintWords Go.Proofs.YtpnocmkpeogifaaDoorW.PrintLast
set_option linter.unusedVariables false
set_option linter.unusedSimpArgs false

/-- the denominator divides D, and the fraction is from -B to B -/
def Sm (D B : Nat) (q : Rat) : Prop := q.den ∣ D ∧ -(B : Rat) ≤ q ∧ q ≤ (B : Rat)
theorem den_pos (q : Rat) : (0 : Int) < (q.den : Int) := by have := q.den_pos; omega
theorem num_le {B : Nat} {q : Rat} (h1 : -(B : Rat) ≤ q) (h2 : q ≤ (B : Rat)) : q.num.natAbs ≤ B * q.den := by
 have e1 := (Rat.le_iff _ _).mp h1
 have e2 := (Rat.le_iff _ _).mp h2
 rw [Rat.neg_num, Rat.num_natCast, Rat.neg_den, Rat.den_natCast] at e1
 rw [Rat.num_natCast, Rat.den_natCast] at e2
 have e3 : (B : Int) * (q.den : Int) = ((B * q.den : Nat) : Int) := (Int.natCast_mul _ _).symm
 rw [Int.neg_mul, e3] at e1
 rw [e3] at e2
 omega
theorem Sm.num {D B : Nat} {q : Rat} (h : Sm D B q) (hD : 0 < D) : q.num.natAbs ≤ B * D :=
 Nat.le_trans (num_le h.2.1 h.2.2) (Nat.mul_le_mul_left _ (Nat.le_of_dvd hD h.1))
theorem Sm.den {D B : Nat} {q : Rat} (h : Sm D B q) (hD : 0 < D) : q.den ≤ D := Nat.le_of_dvd hD h.1
theorem mul_den (q : Rat) : q * (q.den : Rat) = (q.num : Rat) := by
 have h := Rat.num_divInt_den q
 rw [Rat.divInt_eq_div] at h
 have h2 : ((q.den : Int) : Rat) = (q.den : Rat) := rfl
 have h3 : (q.den : Rat) ≠ 0 := by
  intro h
  have := Rat.natCast_pos.mpr q.den_pos
  rw [h] at this
  exact Rat.lt_irrefl this
 rw [h2] at h
 calc q * (q.den : Rat) = (q.num : Rat) / (q.den : Rat) * (q.den : Rat) := by rw [h]
  _ = (q.num : Rat) := Rat.div_mul_cancel h3
theorem whole_of_den {q : Rat} {D : Nat} (h : q.den ∣ D) : ∃ z : Int, q * (D : Rat) = (z : Rat) := by
 obtain ⟨m, rfl⟩ := h
 refine ⟨q.num * m, ?_⟩
 rw [Rat.natCast_mul, ← Rat.mul_assoc, mul_den, Rat.intCast_mul]
 rfl
theorem den_of_whole {q : Rat} {D : Nat} (hD : 0 < D) {z : Int} (h : q * (D : Rat) = (z : Rat)) : q.den ∣ D := by
 have h3 : (D : Rat) ≠ 0 := by
  intro h
  have := Rat.natCast_pos.mpr hD
  rw [h] at this
  exact Rat.lt_irrefl this
 have e : q = Rat.divInt z (D : Int) := by
  rw [Rat.divInt_eq_div, ← h]
  exact (Rat.mul_div_cancel h3).symm
 rw [e, Rat.den_divInt, if_neg (by omega)]
 exact Nat.div_dvd_of_dvd (Int.gcd_dvd_natAbs_left _ _)
theorem den_add_dvd {a b : Rat} {D : Nat} (hD : 0 < D) (ha : a.den ∣ D) (hb : b.den ∣ D) : (a + b).den ∣ D := by
 obtain ⟨y, hy⟩ := whole_of_den ha
 obtain ⟨z, hz⟩ := whole_of_den hb
 exact den_of_whole (z := y + z) hD (by rw [Rat.add_mul, hy, hz, Rat.intCast_add])
theorem den_mul_dvd {a b : Rat} {D E : Nat} (hD : 0 < D) (hE : 0 < E) (ha : a.den ∣ D) (hb : b.den ∣ E) : (a * b).den ∣ D * E := by
 obtain ⟨y, hy⟩ := whole_of_den ha
 obtain ⟨z, hz⟩ := whole_of_den hb
 refine den_of_whole (z := y * z) (Nat.mul_pos hD hE) ?_
 rw [Rat.natCast_mul, Rat.intCast_mul, ← hy, ← hz]
 grind
theorem plus_core {a b : Rat} {D A B : Nat} (hD : 0 < D) (ha : Sm D A a) (hb : Sm D B b) :
  ∃ g : Int, 0 < g ∧ g = Int.gcd a.den b.den ∧ (a.den : Int) = (a.den : Int) / g * g ∧ (b.den : Int) = (b.den : Int) / g * g ∧
   0 < (a.den : Int) / g * b.den ∧ (a.den : Int) / g * b.den ≤ D ∧ (a.den : Int) / g * b.den = a.den * ((b.den : Int) / g) ∧
   (a.num * ((b.den : Int) / g)).natAbs ≤ A * D ∧ (b.num * ((a.den : Int) / g)).natAbs ≤ B * D ∧
   Rat.divInt (a.num * ((b.den : Int) / g) + b.num * ((a.den : Int) / g)) ((a.den : Int) / g * b.den) = a + b := by
 have hg : (0 : Int) < Int.gcd a.den b.den := by
  have := Int.gcd_pos_of_ne_zero_left (b.den : Int) (show (a.den : Int) ≠ 0 by have := den_pos a; omega)
  omega
 have p1 := den_pos a
 have p2 := den_pos b
 have na := num_le ha.2.1 ha.2.2
 have nb := num_le hb.2.1 hb.2.2
 have hl : Nat.lcm a.den b.den ∣ D := Nat.lcm_dvd ha.1 hb.1
 have hlD := Nat.le_of_dvd hD hl
 have e1 : (a.den : Int) = (a.den : Int) / (Int.gcd a.den b.den) * (Int.gcd a.den b.den) := (Int.ediv_mul_cancel (Int.gcd_dvd_left ..)).symm
 have e2 : (b.den : Int) = (b.den : Int) / (Int.gcd a.den b.den) * (Int.gcd a.den b.den) := (Int.ediv_mul_cancel (Int.gcd_dvd_right ..)).symm
 have hdef : (Int.gcd (a.den : Int) b.den) = Nat.gcd a.den b.den := rfl
 have hlcm : (a.den : Int) / (Int.gcd a.den b.den) * b.den = (Nat.lcm a.den b.den : Int) := by
  rw [Nat.lcm, hdef, ← Int.natCast_ediv, ← Int.natCast_mul]
  congr 1
  rw [Nat.mul_comm, Nat.mul_comm a.den, Nat.mul_div_assoc _ (Nat.gcd_dvd_left ..)]
 generalize Int.gcd (a.den : Int) b.den = g at *
 have hx : (a.den : Int) / g * b.den = a.den * ((b.den : Int) / g) := by
  calc (a.den : Int) / g * b.den = (a.den : Int) / g * ((b.den : Int) / g * g) := by rw [← e2]
   _ = ((a.den : Int) / g * g) * ((b.den : Int) / g) := by grind
   _ = a.den * ((b.den : Int) / g) := by rw [← e1]
 have q1 : 0 < (a.den : Int) / g := by
  apply Classical.byContradiction
  intro hn
  have : (a.den : Int) / g * g ≤ 0 := Int.mul_nonpos_of_nonpos_of_nonneg (by omega) (by omega)
  omega
 have q2 : 0 < (b.den : Int) / g := by
  apply Classical.byContradiction
  intro hn
  have : (b.den : Int) / g * g ≤ 0 := Int.mul_nonpos_of_nonpos_of_nonneg (by omega) (by omega)
  omega
 refine ⟨g, hg, rfl, e1, e2, Int.mul_pos q1 p2, by rw [hlcm]; omega, hx, ?_, ?_, ?_⟩
 ·rw [Int.natAbs_mul]
  have h1 : a.den * ((b.den : Int) / g).natAbs ≤ D := by
   have : ((a.den * ((b.den : Int) / g).natAbs : Nat) : Int) = (Nat.lcm a.den b.den : Int) := by
    rw [Int.natCast_mul, Int.natAbs_of_nonneg (by omega), ← hx, hlcm]
   omega
  calc a.num.natAbs * ((b.den : Int) / g).natAbs ≤ A * a.den * ((b.den : Int) / g).natAbs := Nat.mul_le_mul_right _ na
   _ = A * (a.den * ((b.den : Int) / g).natAbs) := Nat.mul_assoc ..
   _ ≤ A * D := Nat.mul_le_mul_left _ h1
 ·rw [Int.natAbs_mul]
  have h1 : b.den * ((a.den : Int) / g).natAbs ≤ D := by
   have : ((b.den * ((a.den : Int) / g).natAbs : Nat) : Int) = (Nat.lcm a.den b.den : Int) := by
    rw [Int.natCast_mul, Int.natAbs_of_nonneg (by omega), ← hlcm, Int.mul_comm]
   omega
  calc b.num.natAbs * ((a.den : Int) / g).natAbs ≤ B * b.den * ((a.den : Int) / g).natAbs := Nat.mul_le_mul_right _ nb
   _ = B * (b.den * ((a.den : Int) / g).natAbs) := Nat.mul_assoc ..
   _ ≤ B * D := Nat.mul_le_mul_left _ h1
 ·have hne : g ≠ 0 := by omega
  have h5 := Rat.divInt_mul_right (n := a.num * ((b.den : Int) / g) + b.num * ((a.den : Int) / g)) (d := (a.den : Int) / g * b.den) (show (g : Int) ≠ 0 by omega)
  rw [← h5]
  have h6 : (a.num * ((b.den : Int) / g) + b.num * ((a.den : Int) / g)) * g = a.num * b.den + b.num * a.den := by
   calc (a.num * ((b.den : Int) / g) + b.num * ((a.den : Int) / g)) * g = a.num * ((b.den : Int) / g * g) + b.num * ((a.den : Int) / g * g) := by grind
    _ = _ := by rw [← e1, ← e2]
  have h7 : (a.den : Int) / g * b.den * g = a.den * b.den := by
   calc (a.den : Int) / g * b.den * g = ((a.den : Int) / g * g) * b.den := by grind
    _ = _ := by rw [← e1]
  rw [h6, h7, Rat.add_def', ← Rat.divInt_ofNat, Int.natCast_mul]
end Go.Proofs.YtpnocmkpeogifaaDoor.Pure
namespace Go.Proofs.YtpnocmkpeogifaaDoor.Pure
open Go.RowKit Go.Proofs.YtpnocmkpeogifaaDoor.X Go.Proofs.YtpnocmkpeogifaaDoorW.PrintWords Go.Proofs.YtpnocmkpeogifaaDoorW.PrintLast
set_option linter.unusedVariables false
set_option linter.unusedSimpArgs false

theorem w64a {i : Int} {M : Nat} (h : i.natAbs ≤ M) (hM : M ≤ 4611686018427387904) : wrap64 i = i := w64 (by omega) (by omega)
theorem tdiv_gcd_l (a b : Int) (hb : 0 < b) : Int.tdiv a (Int.gcd a b) = a / (Int.gcd a b : Int) := Int.tdiv_eq_ediv_of_dvd (Int.gcd_dvd_left ..)
theorem tdiv_gcd_r (a b : Int) (hb : 0 < b) : Int.tdiv b (Int.gcd a b) = b / (Int.gcd a b : Int) := Int.tdiv_eq_ediv_of_dvd (Int.gcd_dvd_right ..)
theorem plus_f {k : Nat} (hk : KG ≤ k) {a b : Rat} {D A B : Nat} (hD : 0 < D) (ha : Sm D A a) (hb : Sm D B b) (hM : (A + B) * D ≤ 4611686018427387904) (hM' : D ≤ 4611686018427387904) :
  curves_ratio_plus.f k a.num a.den b.num b.den = some (cn (a + b)) := by
 obtain ⟨g, hg, hgd, e1, e2, l1, l2, l3, n1, n2, e⟩ := plus_core hD ha hb
 have da := ha.den hD
 have db := hb.den hD
 have p1 := den_pos a
 have p2 := den_pos b
 have sA := ediv_small (a := (a.den : Int)) (b := g) (M := 4611686018427387904) hg (by omega) (by omega) (by omega)
 have sB := ediv_small (a := (b.den : Int)) (b := g) (M := 4611686018427387904) hg (by omega) (by omega) (by omega)
 rw [Nat.add_mul] at hM
 unfold curves_ratio_plus.f
 rw [gcd_f hk (by omega) (by omega) (by omega) (by omega), Option.bind_some, ← hgd, if_neg (by omega)]
 have t1 : Int.tdiv b.den g = (b.den : Int) / g := by rw [hgd]; exact tdiv_gcd_r _ _ p2
 have t2 : Int.tdiv a.den g = (a.den : Int) / g := by rw [hgd]; exact tdiv_gcd_l _ _ p2
 rw [t1, t2, w64 (i := (b.den : Int) / g) (by omega) (by omega), w64 (i := (a.den : Int) / g) (by omega) (by omega), w64a n1 (by omega), w64a n2 (by omega),
  w64 (i := _ + _) (by omega) (by omega), w64 (i := (a.den : Int) / g * b.den) (by omega) (by omega), of_f hk (by omega) (by omega) l1 (by omega), e, Option.bind_some]
theorem natAbs_mul_le {a b : Int} {A B M : Nat} (ha : a.natAbs ≤ A) (hb : b.natAbs ≤ B) (h : A * B ≤ M) : (a * b).natAbs ≤ M := by
 rw [Int.natAbs_mul]
 exact Nat.le_trans (Nat.mul_le_mul ha hb) h
theorem ediv_abs {a b : Int} (hb : 0 < b) : (a / b).natAbs ≤ a.natAbs := by
 have := ediv_small (a := a) (M := (a.natAbs : Int)) hb (by omega) (by omega) (by omega)
 omega
theorem num_abs (a b : Int) (hb : 0 < b) : (Rat.divInt a b).num.natAbs ≤ a.natAbs ∧ (Rat.divInt a b).den ≤ b.natAbs := by
 obtain ⟨h1, h2⟩ := divInt_pos a b hb
 have hg : (0 : Int) < Int.gcd b a := by
  have := Int.gcd_pos_of_ne_zero_left a (show b ≠ 0 by omega)
  omega
 have h3 := ediv_abs (a := a) hg
 have h4 := ediv_abs (a := b) hg
 rw [← h1] at h3
 rw [← h2] at h4
 omega
theorem times_f {k : Nat} (hk : KG ≤ k) {a b : Rat} {A B D E : Nat} (ha : a.num.natAbs ≤ A) (hb : b.num.natAbs ≤ B) (hd : a.den ≤ D) (he : b.den ≤ E)
  (h1 : A * B ≤ 4611686018427387904) (h2 : D * E ≤ 4611686018427387904) (hA : A ≤ 4611686018427387904) (hB : B ≤ 4611686018427387904) (hD : D ≤ 4611686018427387904) (hE : E ≤ 4611686018427387904) :
  curves_ratio_times.f k a.num a.den b.num b.den = some (cn (a * b)) := by
 have p1 := den_pos a
 have p2 := den_pos b
 unfold curves_ratio_times.f
 obtain ⟨x1, x2⟩ := num_abs a.num b.den p2
 obtain ⟨y1, y2⟩ := num_abs b.num a.den p1
 have q1 := den_pos (Rat.divInt a.num b.den)
 have q2 := den_pos (Rat.divInt b.num a.den)
 rw [of_f hk (by omega) (by omega) p2 (by omega), Option.bind_some, of_f hk (by omega) (by omega) p1 (by omega), Option.bind_some]
 unfold cn
 dsimp only
 have m1 : ((Rat.divInt a.num b.den).num * (Rat.divInt b.num a.den).num).natAbs ≤ 4611686018427387904 := natAbs_mul_le (Nat.le_trans x1 ha) (Nat.le_trans y1 hb) h1
 have m2 : (((Rat.divInt a.num b.den).den : Int) * (Rat.divInt b.num a.den).den).natAbs ≤ 4611686018427387904 := by
  rw [Int.natAbs_mul, Int.natAbs_natCast, Int.natAbs_natCast]
  refine Nat.le_trans (Nat.mul_le_mul x2 y2) ?_
  rw [Int.natAbs_natCast, Int.natAbs_natCast, Nat.mul_comm]
  exact Nat.le_trans (Nat.mul_le_mul hd he) h2
 have m3 : 0 < ((Rat.divInt a.num b.den).den : Int) * (Rat.divInt b.num a.den).den := Int.mul_pos q1 q2
 rw [w64a m1 (by omega), w64a m2 (by omega), of_f hk (by omega) (by omega) m3 (by omega), Option.bind_some]
 have e : Rat.divInt ((Rat.divInt a.num b.den).num * (Rat.divInt b.num a.den).num) (((Rat.divInt a.num b.den).den : Int) * (Rat.divInt b.num a.den).den) = a * b := by
  rw [← Rat.divInt_mul_divInt, Rat.num_divInt_den, Rat.num_divInt_den, Rat.divInt_mul_divInt, Int.mul_comm (b.den : Int), ← Rat.divInt_mul_divInt, Rat.num_divInt_den, Rat.num_divInt_den]
 rw [e, cn]
theorem whole_num (z : Int) : (z : Rat).num = z ∧ (z : Rat).den = 1 := ⟨Rat.num_intCast z, Rat.den_intCast z⟩
theorem divInt_one (z : Int) : Rat.divInt z 1 = (z : Rat) := by
 have h := Rat.num_divInt_den (z : Rat)
 rwa [Rat.num_intCast, Rat.den_intCast] at h
theorem of_one {k : Nat} (hk : KG ≤ k) {a : Int} (h1 : -9223372036854775807 ≤ a) (h2 : a ≤ 9223372036854775807) : curves_of.f k a 1 = some (a, 1) := by
 rw [of_f hk h1 h2 (by omega) (by omega), divInt_one, cn, Rat.num_intCast, Rat.den_intCast]
 rfl
/-- a fraction less a whole number -/
theorem less_f {k : Nat} (hk : KG ≤ k) {t : Rat} {z : Int} (hd : t.den ≤ 12) (hn : t.num.natAbs ≤ 144) (hz : z.natAbs ≤ 50) :
  curves_ratio_less.f k t.num t.den z = some (cn (t - z)) := by
 have p := den_pos t
 have m : (z * t.den).natAbs ≤ 600 := natAbs_mul_le hz (B := 12) (by omega) (by omega)
 unfold curves_ratio_less.f
 rw [w64a m (by omega), w64 (i := _ - _) (by omega) (by omega), of_f hk (by omega) (by omega) p (by omega), Option.bind_some]
 have e : Rat.divInt (t.num - z * t.den) t.den = t - z := by
  rw [Rat.divInt_eq_div, Rat.intCast_sub, Rat.intCast_mul]
  have h := mul_den t
  have h3 : (t.den : Rat) ≠ 0 := by
   intro h
   have := Rat.natCast_pos.mpr t.den_pos
   rw [h] at this
   exact Rat.lt_irrefl this
  have h2 : ((t.den : Int) : Rat) = (t.den : Rat) := rfl
  rw [h2]
  grind
 rw [e]
theorem from_f {k : Nat} (hk : KG ≤ k) {t : Rat} {z : Int} (hd : t.den ≤ 12) (hn : t.num.natAbs ≤ 144) (hz : z.natAbs ≤ 50) :
  curves_ratio_from.f k t.num t.den z = some (cn (z - t)) := by
 have p := den_pos t
 have m : (z * t.den).natAbs ≤ 600 := natAbs_mul_le hz (B := 12) (by omega) (by omega)
 unfold curves_ratio_from.f
 rw [w64a m (by omega), w64 (i := _ - _) (by omega) (by omega), of_f hk (by omega) (by omega) p (by omega), Option.bind_some]
 have e : Rat.divInt (z * t.den - t.num) t.den = z - t := by
  rw [Rat.divInt_eq_div, Rat.intCast_sub, Rat.intCast_mul]
  have h := mul_den t
  have h3 : (t.den : Rat) ≠ 0 := by
   intro h
   have := Rat.natCast_pos.mpr t.den_pos
   rw [h] at this
   exact Rat.lt_irrefl this
  have h2 : ((t.den : Int) : Rat) = (t.den : Rat) := rfl
  rw [h2]
  grind
 rw [e]
end Go.Proofs.YtpnocmkpeogifaaDoor.Pure
