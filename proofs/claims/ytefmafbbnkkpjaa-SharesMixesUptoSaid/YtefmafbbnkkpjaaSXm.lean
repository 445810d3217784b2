/- A mixture made give by give: fractions, rows, the invariant, at most five gives, what Mix returns, what CheckMix and the reference's Mixes tell. -/
import Derived.Test.YtefmafbbnkkpjaaSX
import Derived.Test.YtefmafbbnkkpjaaXf117
import Derived.Test.YtefmafbbnkkpjaaXf118
import Derived.Test.YtefmafbbnkkpjaaE96
import Derived.Test.YtefmafbbnkkpjaaSE
import Derived.Test.YtefmafbbnkkpjaaE56
import Derived.Test.YtefmafbbnkkpjaaXf57
import Derived.Test.YtefmafbbnkkpjaaXf58
namespace Go.Proofs.Ytefmafbbnkkpjaa.Pure
open Go Go.RowKit Go.Proofs.Ytefmafbbnkkpjaa.X Go.Proofs.YtefmafbbnkkpjaaW.PrintWords Go.Proofs.YtefmafbbnkkpjaaW.PrintLast Go.Proofs.YtefmafbbnkkpjaaW.PrintMore
set_option linter.unusedVariables false
set_option linter.unusedSimpArgs false

structure Low (D x : Int) (f : S62) : Prop where
  d1 : 1 ≤ f.f1
  n0 : 0 ≤ f.f0
  g : Int.gcd f.f0 f.f1 = 1
  e : f.f0 * D = x * f.f1
theorem fr_low {D x : Int} (hD : 1 ≤ D) (hx : 0 ≤ x) : Low D x (fr D x) ∧ (fr D x).f1 ∣ D ∧ (fr D x).f1 ≤ D ∧ (fr D x).f0 ≤ x := by
  have hg0 : 0 < Int.gcd x D := Int.gcd_pos_of_ne_zero_right x (show D ≠ 0 by omega)
  have hg : (0 : Int) < (Int.gcd x D : Int) := by omega
  have hg1 := Int.gcd_ediv_gcd_ediv_gcd (i := x) (j := D) hg0
  obtain ⟨a, ha⟩ : (Int.gcd x D : Int) ∣ x := Int.gcd_dvd_left ..
  obtain ⟨b, hb⟩ : (Int.gcd x D : Int) ∣ D := Int.gcd_dvd_right ..
  have ea : x / (Int.gcd x D : Int) = a := by conv => { lhs; arg 1; rw [ha] }; exact Int.mul_ediv_cancel_left _ (by omega)
  have eb : D / (Int.gcd x D : Int) = b := by conv => { lhs; arg 1; rw [hb] }; exact Int.mul_ediv_cancel_left _ (by omega)
  have hfr : fr D x = ⟨a, b⟩ := by unfold fr; rw [ea, eb]
  rw [ea, eb] at hg1
  generalize (Int.gcd x D : Int) = g at *
  have a0 : 0 ≤ a := by
    rcases Int.lt_or_le a 0 with h | h
    · have := Int.mul_lt_mul_of_pos_left h hg; omega
    · exact h
  have b1 : 1 ≤ b := by
    rcases Int.lt_or_le 0 b with h | h
    · exact h
    · have := Int.mul_le_mul_of_nonneg_left h (show 0 ≤ g by omega); omega
  have hbD : b ≤ D := by
    have := Int.mul_le_mul_of_nonneg_right (show 1 ≤ g by omega) (show 0 ≤ b by omega); omega
  have hax : a ≤ x := by
    have := Int.mul_le_mul_of_nonneg_right (show 1 ≤ g by omega) a0; omega
  rw [hfr]
  refine ⟨⟨b1, a0, hg1, ?_⟩, ⟨g, by rw [Int.mul_comm]; exact hb⟩, hbD, hax⟩
  show a * D = x * b
  rw [hb, ha, ← Int.mul_assoc, Int.mul_comm a g]
theorem cop_dvd {a b c : Int} (h : Int.gcd a b = 1) (hd : b ∣ a * c) : b ∣ c := by
  have h1 : Nat.Coprime b.natAbs a.natAbs := by
    have : Nat.gcd a.natAbs b.natAbs = 1 := h
    exact Nat.Coprime.symm this
  have h2 : b.natAbs ∣ a.natAbs * c.natAbs := by
    rw [← Int.natAbs_mul]
    exact Int.natAbs_dvd_natAbs.mpr hd
  exact Int.natAbs_dvd_natAbs.mp (Nat.Coprime.dvd_of_dvd_mul_left h1 h2)
theorem Low.uniq {D x : Int} {f g : S62} (hD : 1 ≤ D) (hf : Low D x f) (hg : Low D x g) : f = g := by
  have e1 : f.f0 * g.f1 = g.f0 * f.f1 := by
    refine Int.eq_of_mul_eq_mul_right (a := D) (by omega) ?_
    have h1 : f.f0 * g.f1 * D = f.f0 * D * g.f1 := by rw [Int.mul_assoc, Int.mul_comm g.f1 D, ← Int.mul_assoc]
    have h2 : g.f0 * f.f1 * D = g.f0 * D * f.f1 := by rw [Int.mul_assoc, Int.mul_comm f.f1 D, ← Int.mul_assoc]
    rw [h1, h2, hf.e, hg.e, Int.mul_assoc, Int.mul_assoc, Int.mul_comm f.f1]
  have d1 : f.f1 ∣ g.f1 := cop_dvd hf.g ⟨g.f0, by rw [e1, Int.mul_comm]⟩
  have d2 : g.f1 ∣ f.f1 := cop_dvd hg.g ⟨f.f0, by rw [← e1, Int.mul_comm]⟩
  have hq : f.f1 = g.f1 := Int.dvd_antisymm (by have := hf.d1; omega) (by have := hg.d1; omega) d1 d2
  have h0 : f.f0 = g.f0 := by
    rw [hq] at e1
    exact Int.eq_of_mul_eq_mul_right (by have := hg.d1; omega) e1
  cases f; cases g; simp_all
theorem fr_of {D x : Int} {f : S62} (hD : 1 ≤ D) (hx : 0 ≤ x) (hf : Low D x f) : f = fr D x := hf.uniq hD (fr_low hD hx).1
/-- the fraction in lowest terms -/
theorem frac_f {k : Nat} (hk : KG ≤ k) {x D : Int} (h1 : 0 ≤ x) (h2 : x ≤ 1000000000000000000) (hD : 1 ≤ D) (hD2 : D ≤ 1000000000000000000) : shares_frac.f k x D = some ((fr D x).f0, (fr D x).f1) := by
  have hg : (0 : Int) < Int.gcd x D := by
    have := Int.gcd_pos_of_ne_zero_right x (show D ≠ 0 by omega)
    omega
  have e1 : Int.tdiv x (Int.gcd x D) = x / Int.gcd x D := Int.tdiv_eq_ediv_of_dvd (Int.gcd_dvd_left ..)
  have e2 : Int.tdiv D (Int.gcd x D) = D / Int.gcd x D := Int.tdiv_eq_ediv_of_dvd (Int.gcd_dvd_right ..)
  have b1 : 0 ≤ x / (Int.gcd x D : Int) := Int.ediv_nonneg h1 (by omega)
  have b2 : x / (Int.gcd x D : Int) ≤ x := Int.ediv_le_self _ h1
  have b3 : 0 ≤ D / (Int.gcd x D : Int) := Int.ediv_nonneg (by omega) (by omega)
  have b4 : D / (Int.gcd x D : Int) ≤ D := Int.ediv_le_self _ (by omega)
  unfold shares_frac.f
  rw [gcd_f hk (by omega) (by omega) (by omega) (by omega), Option.bind_some, if_neg (by omega), e1, e2, w6 (by omega) (by omega), w6 (by omega) (by omega)]
  rfl
theorem cop_mul {a b c d : Int} (h1 : Int.gcd a c = 1) (h2 : Int.gcd a d = 1) (h3 : Int.gcd b c = 1) (h4 : Int.gcd b d = 1) : Int.gcd (a * b) (c * d) = 1 := by
  have h1' : Nat.Coprime a.natAbs c.natAbs := h1
  have h2' : Nat.Coprime a.natAbs d.natAbs := h2
  have h3' : Nat.Coprime b.natAbs c.natAbs := h3
  have h4' : Nat.Coprime b.natAbs d.natAbs := h4
  show Nat.gcd (a * b).natAbs (c * d).natAbs = 1
  rw [Int.natAbs_mul, Int.natAbs_mul]
  exact Nat.Coprime.mul_left (Nat.Coprime.mul_right h1' h2') (Nat.Coprime.mul_right h3' h4')
theorem cop_of {a b c d : Int} (h : Int.gcd a b = 1) (h1 : c ∣ a) (h2 : d ∣ b) : Int.gcd c d = 1 := by
  have h' : Nat.Coprime a.natAbs b.natAbs := h
  exact Nat.Coprime.coprime_dvd_left (Int.natAbs_dvd_natAbs.mpr h1) (Nat.Coprime.coprime_dvd_right (Int.natAbs_dvd_natAbs.mpr h2) h')
theorem fr_dvd (D x : Int) (hD : 1 ≤ D) (hx : 0 ≤ x) : (fr D x).f0 ∣ x ∧ (fr D x).f1 ∣ D := by
  refine ⟨?_, (fr_low hD hx).2.1⟩
  have h := (fr_low hD hx).1
  have : (fr D x).f0 ∣ (fr D x).f1 * x := ⟨D, by rw [h.e, Int.mul_comm]⟩
  refine cop_dvd ?_ this
  have h' : Nat.Coprime (fr D x).f0.natAbs (fr D x).f1.natAbs := h.g
  exact h'.symm
theorem times_f {k : Nat} (hk : KG ≤ k) {d p D a : Int} (hd : 1 ≤ d) (hd2 : d ≤ 1000) (hp : 0 ≤ p) (hp2 : p ≤ d) (hD : 1 ≤ D) (hD2 : D ≤ 1000000000) (ha : 0 ≤ a) (ha2 : a ≤ D) :
    shares_times.f k (fr d p).f0 (fr d p).f1 (fr D a).f0 (fr D a).f1 = some ((fr (d * D) (p * a)).f0, (fr (d * D) (p * a)).f1) := by
  obtain ⟨hA, _, hA1, hA0⟩ := fr_low hd hp
  obtain ⟨hB, _, hB1, hB0⟩ := fr_low hD ha
  have a1 := hA.d1
  have a0 := hA.n0
  have b1 := hB.d1
  have b0 := hB.n0
  generalize fr d p = A at *
  generalize fr D a = B at *
  unfold shares_times.f
  obtain ⟨hX, _, hX1, hX0⟩ := fr_low b1 a0
  obtain ⟨hY, _, hY1, hY0⟩ := fr_low a1 b0
  have xd := fr_dvd B.f1 A.f0 b1 a0
  have yd := fr_dvd A.f1 B.f0 a1 b0
  rw [frac_f hk a0 (by omega) b1 (by omega), Option.bind_some, frac_f hk b0 (by omega) a1 (by omega), Option.bind_some]
  generalize fr B.f1 A.f0 = X at *
  generalize fr A.f1 B.f0 = Y at *
  have x0 := hX.n0
  have x1 := hX.d1
  have y0 := hY.n0
  have y1 := hY.d1
  have m0 : X.f0 * Y.f0 ≤ 1000 * 1000000000 := Int.mul_le_mul (by omega) (by omega) y0 (by omega)
  have m1 : X.f1 * Y.f1 ≤ 1000000000 * 1000 := Int.mul_le_mul (by omega) (by omega) (by omega) (by omega)
  have n0 := Int.mul_nonneg x0 y0
  have n1 := Int.mul_le_mul (show 1 ≤ X.f1 by omega) y1 (by omega) (by omega)
  have hdD := Int.mul_le_mul hd hD (by omega) (by omega)
  have hpa := Int.mul_nonneg hp ha
  dsimp only
  rw [w6 (by omega) (by omega), w6 (by omega) (by omega)]
  have hlow : Low (d * D) (p * a) ⟨X.f0 * Y.f0, X.f1 * Y.f1⟩ := by
    refine ⟨by show 1 ≤ X.f1 * Y.f1; omega, n0, cop_mul hX.g (cop_of hA.g xd.1 yd.2) (cop_of hB.g yd.1 xd.2) hY.g, ?_⟩
    show X.f0 * Y.f0 * (d * D) = p * a * (X.f1 * Y.f1)
    refine Int.eq_of_mul_eq_mul_right (a := A.f1 * B.f1) (by have := Int.mul_le_mul a1 b1 (by omega) (by omega); omega) ?_
    have e1 := hA.e
    have e2 := hB.e
    have e3 := hX.e
    have e4 := hY.e
    calc X.f0 * Y.f0 * (d * D) * (A.f1 * B.f1) = (X.f0 * B.f1) * (Y.f0 * A.f1) * (d * D) := by ac_rfl
      _ = (A.f0 * X.f1) * (B.f0 * Y.f1) * (d * D) := by rw [e3, e4]
      _ = (A.f0 * d) * (B.f0 * D) * (X.f1 * Y.f1) := by ac_rfl
      _ = (p * A.f1) * (a * B.f1) * (X.f1 * Y.f1) := by rw [e1, e2]
      _ = p * a * (X.f1 * Y.f1) * (A.f1 * B.f1) := by ac_rfl
  have := fr_of (by omega) hpa hlow
  rw [← this]
theorem plus_f {k : Nat} (hk : KG ≤ k) {E a b : Int} (hE : 1 ≤ E) (hE2 : E ≤ 500000000) (ha : 0 ≤ a) (ha2 : a ≤ E) (hb : 0 ≤ b) (hb2 : b ≤ E) :
    shares_plus.f k (fr E a).f0 (fr E a).f1 (fr E b).f0 (fr E b).f1 = some ((fr E (a + b)).f0, (fr E (a + b)).f1) := by
  obtain ⟨hA, _, hA1, hA0⟩ := fr_low hE ha
  obtain ⟨hB, _, hB1, hB0⟩ := fr_low hE hb
  have a1 := hA.d1
  have a0 := hA.n0
  have b1 := hB.d1
  have b0 := hB.n0
  generalize fr E a = A at *
  generalize fr E b = B at *
  have hg : (0 : Int) < Int.gcd A.f1 B.f1 := by
    have := Int.gcd_pos_of_ne_zero_left B.f1 (show A.f1 ≠ 0 by omega)
    omega
  obtain ⟨u, hu⟩ : (Int.gcd A.f1 B.f1 : Int) ∣ A.f1 := Int.gcd_dvd_left ..
  obtain ⟨v, hv⟩ : (Int.gcd A.f1 B.f1 : Int) ∣ B.f1 := Int.gcd_dvd_right ..
  have eu : Int.tdiv A.f1 (Int.gcd A.f1 B.f1) = u := by
    rw [Int.tdiv_eq_ediv_of_dvd (Int.gcd_dvd_left ..)]
    conv => { lhs; arg 1; rw [hu] }
    exact Int.mul_ediv_cancel_left _ (by omega)
  have ev : Int.tdiv B.f1 (Int.gcd A.f1 B.f1) = v := by
    rw [Int.tdiv_eq_ediv_of_dvd (Int.gcd_dvd_right ..)]
    conv => { lhs; arg 1; rw [hv] }
    exact Int.mul_ediv_cancel_left _ (by omega)
  unfold shares_plus.f
  rw [gcd_f hk (by omega) (by omega) (by omega) (by omega), Option.bind_some, if_neg (by omega), eu, ev]
  generalize (Int.gcd A.f1 B.f1 : Int) = g at *
  have u1 : 1 ≤ u := by
    rcases Int.lt_or_le 0 u with h | h
    · exact h
    · have := Int.mul_le_mul_of_nonneg_left h (show 0 ≤ g by omega); omega
  have v1 : 1 ≤ v := by
    rcases Int.lt_or_le 0 v with h | h
    · exact h
    · have := Int.mul_le_mul_of_nonneg_left h (show 0 ≤ g by omega); omega
  have uA : u ≤ A.f1 := by have := Int.mul_le_mul_of_nonneg_right (show 1 ≤ g by omega) (show 0 ≤ u by omega); omega
  have vB : v ≤ B.f1 := by have := Int.mul_le_mul_of_nonneg_right (show 1 ≤ g by omega) (show 0 ≤ v by omega); omega
  have m1 : A.f0 * v ≤ 500000000 * 500000000 := Int.mul_le_mul (by omega) (by omega) (by omega) (by omega)
  have m2 : B.f0 * u ≤ 500000000 * 500000000 := Int.mul_le_mul (by omega) (by omega) (by omega) (by omega)
  have m3 : u * B.f1 ≤ 500000000 * 500000000 := Int.mul_le_mul (by omega) (by omega) (by omega) (by omega)
  have n1 := Int.mul_nonneg a0 (show 0 ≤ v by omega)
  have n2 := Int.mul_nonneg b0 (show 0 ≤ u by omega)
  have n3 := Int.mul_le_mul u1 b1 (by omega) (by omega)
  rw [w6 (i := u) (by omega) (by omega), w6 (i := v) (by omega) (by omega), w6 (i := A.f0 * v) (by omega) (by omega), w6 (i := B.f0 * u) (by omega) (by omega), w6 (i := A.f0 * v + B.f0 * u) (by omega) (by omega), w6 (i := u * B.f1) (by omega) (by omega), frac_f hk (by omega) (by omega) (by omega) (by omega), Option.bind_some]
  obtain ⟨hF, _, _, _⟩ := fr_low (D := u * B.f1) (x := A.f0 * v + B.f0 * u) (by omega) (by omega)
  have hlow : Low E (a + b) (fr (u * B.f1) (A.f0 * v + B.f0 * u)) := by
    refine ⟨hF.d1, hF.n0, hF.g, ?_⟩
    refine Int.eq_of_mul_eq_mul_right (a := u * B.f1) (by omega) ?_
    have e1 := hA.e
    have e2 := hB.e
    have e3 := hF.e
    generalize fr (u * B.f1) (A.f0 * v + B.f0 * u) = F at *
    have eN : (A.f0 * v + B.f0 * u) * E = (a + b) * (u * B.f1) := by
      calc (A.f0 * v + B.f0 * u) * E = (A.f0 * E) * v + (B.f0 * E) * u := by rw [Int.add_mul]; congr 1 <;> ac_rfl
        _ = (a * A.f1) * v + (b * B.f1) * u := by rw [e1, e2]
        _ = (a * (g * u)) * v + (b * (g * v)) * u := by rw [← hu, ← hv]
        _ = (a + b) * (u * (g * v)) := by rw [Int.add_mul]; congr 1 <;> ac_rfl
        _ = (a + b) * (u * B.f1) := by rw [← hv]
    calc F.f0 * E * (u * B.f1) = F.f0 * (u * B.f1) * E := by ac_rfl
      _ = (A.f0 * v + B.f0 * u) * F.f1 * E := by rw [e3]
      _ = (A.f0 * v + B.f0 * u) * E * F.f1 := by ac_rfl
      _ = (a + b) * (u * B.f1) * F.f1 := by rw [eN]
      _ = (a + b) * F.f1 * (u * B.f1) := by ac_rfl
  have := fr_of hE (by omega) hlow
  rw [← this]
end Go.Proofs.Ytefmafbbnkkpjaa.Pure
namespace Go.Proofs.Ytefmafbbnkkpjaa.Pure
open Go Go.RowKit Go.Proofs.Ytefmafbbnkkpjaa.X Go.Proofs.YtefmafbbnkkpjaaW.PrintWords Go.Proofs.YtefmafbbnkkpjaaW.PrintLast Go.Proofs.YtefmafbbnkkpjaaW.PrintMore
set_option linter.unusedVariables false
set_option linter.unusedSimpArgs false

/-- a matrix of D-ths -/
structure FM (n : Nat) (D : Int) (m : List (List S62)) (L : Nat → Nat → Int) : Prop where
  len : m.length = n
  sq : ∀ r ∈ m, r.length = n
  el : ∀ i, i < n → ∀ j, j < n → el m i j = fr D (L i j)
  bd : ∀ i, i < n → ∀ j, j < n → 0 ≤ L i j ∧ L i j ≤ D
/-- what is kept, and what comes in -/
def mixA (d p : Int) (a b : Int) : Int := (d - p) * a + p * b
theorem mixA_bd {d p a b D : Int} (hd : 1 ≤ d) (hp : 0 ≤ p) (hp2 : p ≤ d) (ha : 0 ≤ a) (ha2 : a ≤ D) (hb : 0 ≤ b) (hb2 : b ≤ D) : 0 ≤ (d - p) * a ∧ 0 ≤ p * b ∧ mixA d p a b ≤ d * D ∧ (d - p) * a ≤ d * D ∧ p * b ≤ d * D := by
  have h1 := Int.mul_nonneg (show 0 ≤ d - p by omega) ha
  have h2 := Int.mul_nonneg hp hb
  have h3 := Int.mul_le_mul_of_nonneg_left ha2 (show 0 ≤ d - p by omega)
  have h4 := Int.mul_le_mul_of_nonneg_left hb2 hp
  have h5 : (d - p) * D + p * D = d * D := by rw [← Int.add_mul]; congr 1; omega
  have h6 := Int.mul_nonneg (show 0 ≤ d - p by omega) (show 0 ≤ D by omega)
  have h7 := Int.mul_nonneg hp (show 0 ≤ D by omega)
  unfold mixA
  omega
/-- the loop's rows -/
structure AfI (n : Nat) (m : List (List S62)) (f t : Nat) (A B : List S62) (o : List (List S62)) : Prop where
  len : o.length = n
  a : rd_L5 o (f : Int) = A
  b : rd_L5 o (t : Int) = B
  r : ∀ i : Nat, i ≠ f → i ≠ t → rd_L5 o (i : Int) = rd_L5 m (i : Int)
theorem rd5_setN {l : List (List S62)} {i : Nat} {r : List S62} (hi : i < l.length) (q : Nat) : rd_L5 (l.set i r) (q : Int) = if q = i then r else rd_L5 l (q : Int) := by
  have := rd5_set (l := l) (i := (i : Int)) (r := r) (by omega) (by omega) (q : Int) (by omega)
  rw [Int.toNat_natCast] at this
  rw [this]
  by_cases e : q = i
  · rw [if_pos e, if_pos (by omega)]
  · rw [if_neg e, if_neg (by omega)]
theorem AfI.set {n : Nat} {m o : List (List S62)} {f t : Nat} {A B A' B' : List S62} (h : AfI n m f t A B o) (hf : f < n) (ht : t < n) (hft : f ≠ t) : AfI n m f t A' B' ((o.set f A').set t B') := by
  have hl := h.len
  refine ⟨by rw [List.length_set, List.length_set]; exact hl, ?_, ?_, fun i h1 h2 => ?_⟩
  · rw [rd5_setN (by rw [List.length_set]; omega), if_neg hft, rd5_setN (by omega), if_pos rfl]
  · rw [rd5_setN (by rw [List.length_set]; omega), if_pos rfl]
  · rw [rd5_setN (by rw [List.length_set]; omega), if_neg h2, rd5_setN (by omega), if_neg h1]
    exact h.r i h1 h2
/-- a row of n elements, j of them -/
def rowTo (D : Int) (g : Nat → Int) (j : Nat) : List S62 := (List.range j).map fun q => fr D (g q)
theorem rowTo_succ (D : Int) (g : Nat → Int) (j : Nat) : rowTo D g (j + 1) = rowTo D g j ++ [fr D (g j)] := by simp [rowTo, List.range_succ]
theorem rowTo_len (D : Int) (g : Nat → Int) (j : Nat) : (rowTo D g j).length = j := by simp [rowTo]
theorem after_l {n : Nat} (hn : n ≤ 6) {D : Int} (hD : 1 ≤ D) (hD2 : D ≤ 10000000) {m : List (List S62)} {L : Nat → Nat → Int} (h : FM n D m L) {f t : Nat} (hf : f < n) (ht : t < n) (hft : f ≠ t) {d p : Int} (hd : 1 ≤ d) (hd2 : d ≤ 50) (hp : 0 ≤ p) (hp2 : p ≤ d) (pz : Int) :
    ∀ (c j k : Nat) (o : List (List S62)), j + c = n → c + KG ≤ k → AfI n m f t (rowTo (d * D) (fun q => mixA d p (L f q) (L t q)) j) (rowTo (d * D) (fun q => mixA d p (L t q) (L f q)) j) o →
      ∃ o', shares_mixture_after.l0 (k + 1) m o (n : Int) (j : Int) (f : Int) (t : Int) pz (fr d p).f0 (fr d p).f1 (fr d (d - p)).f0 (fr d (d - p)).f1 = some o' ∧ AfI n m f t (rowTo (d * D) (fun q => mixA d p (L f q) (L t q)) n) (rowTo (d * D) (fun q => mixA d p (L t q) (L f q)) n) o' := by
  intro c
  have hml := h.len
  have hrf := h.sq _ (rdM_mem (show f < m.length by omega))
  have hrt := h.sq _ (rdM_mem (show t < m.length by omega))
  induction c with
  | zero =>
    intro j k o hj hk hI
    obtain rfl : j = n := by omega
    exact ⟨o, by rw [shares_mixture_after.l0, if_neg (by omega)], hI⟩
  | succ c ih =>
    intro j k o hj hk hI
    have hjn : j < n := by omega
    have hol := hI.len
    have ea := h.el f hf j hjn
    have eb := h.el t ht j hjn
    have ba := h.bd f hf j hjn
    have bb := h.bd t ht j hjn
    obtain ⟨m1, m2, m3, m4, m5⟩ := mixA_bd hd hp hp2 ba.1 ba.2 bb.1 bb.2
    obtain ⟨n1, n2, n3, n4, n5⟩ := mixA_bd hd hp hp2 bb.1 bb.2 ba.1 ba.2
    have hdD : d * D ≤ 50 * 10000000 := Int.mul_le_mul hd2 hD2 (by omega) (by omega)
    have hdD1 := Int.mul_le_mul hd hD (by omega) (by omega)
    have hKG : KG ≤ k := by omega
    unfold el at ea eb
    rw [shares_mixture_after.l0, if_pos (by omega), if_pos (by omega), if_pos (by omega), if_pos (by omega), if_pos (by rw [hrf]; omega), if_pos (by omega), if_pos (by omega), if_pos (by rw [hrt]; omega), if_pos (by omega), ea, eb]
    rw [times_f hKG hd (by omega) (show 0 ≤ d - p by omega) (by omega) hD (by omega) ba.1 ba.2, Option.bind_some, times_f hKG hd (by omega) hp hp2 hD (by omega) bb.1 bb.2, Option.bind_some]
    dsimp only
    rw [plus_f hKG (by omega) (by omega) m1 m4 m2 m5, Option.bind_some, hI.a, if_pos (by rw [rowTo_len]; omega), Option.bind_some, if_pos (by omega), times_f hKG hd (by omega) hp hp2 hD (by omega) ba.1 ba.2, Option.bind_some, times_f hKG hd (by omega) (show 0 ≤ d - p by omega) (by omega) hD (by omega) bb.1 bb.2, Option.bind_some]
    dsimp only
    rw [plus_f hKG (by omega) (by omega) n2 n5 n1 n4, Option.bind_some, Int.toNat_natCast, Int.toNat_natCast, rd5_setN (by omega), if_neg (Ne.symm hft), hI.b, if_pos (by rw [rowTo_len]; omega), w6 (i := (j : Int) + 1) (by omega) (by omega), show (j : Int) + 1 = ((j + 1 : Nat) : Int) by omega]
    obtain ⟨k, rfl⟩ : ∃ z, k = z + 1 := ⟨k - 1, by omega⟩
    refine ih (j + 1) k _ (by omega) (by omega) ?_
    rw [rowTo_succ, rowTo_succ]
    have e2 : p * L f j + (d - p) * L t j = mixA d p (L t j) (L f j) := by unfold mixA; omega
    rw [e2]
    exact hI.set hf ht hft
def mixL2 (d p : Int) (f t : Nat) (L : Nat → Nat → Int) (i j : Nat) : Int := if i = f then mixA d p (L f j) (L t j) else if i = t then mixA d p (L t j) (L f j) else d * L i j
theorem fr_mul {D x d : Int} (hD : 1 ≤ D) (hx : 0 ≤ x) (hd : 1 ≤ d) : fr D x = fr (d * D) (d * x) := by
  have h := (fr_low hD hx).1
  have h1 := Int.mul_le_mul hd hD (by omega) (by omega)
  refine fr_of (by omega) (Int.mul_nonneg (by omega) hx) ⟨h.d1, h.n0, h.g, ?_⟩
  rw [← Int.mul_assoc, Int.mul_comm _ d, Int.mul_assoc, h.e, ← Int.mul_assoc]
theorem fr_keep {d p : Int} (hd : 1 ≤ d) (hp : 0 ≤ p) (hp2 : p ≤ d) : 0 ≤ (fr d p).f1 - (fr d p).f0 ∧ fr (fr d p).f1 ((fr d p).f1 - (fr d p).f0) = fr d (d - p) := by
  obtain ⟨h, _, _, _⟩ := fr_low hd hp
  have h1 := h.d1
  have he := h.e
  generalize fr d p = T at *
  have hle : 0 ≤ T.f1 - T.f0 := by
    rcases Int.lt_or_le T.f1 T.f0 with h2 | h2
    · have a1 := Int.mul_lt_mul_of_pos_right h2 (show 0 < d by omega)
      have a2 := Int.mul_le_mul_of_nonneg_right hp2 (show 0 ≤ T.f1 by omega)
      rw [Int.mul_comm d T.f1] at a2
      omega
    · omega
  refine ⟨hle, ?_⟩
  obtain ⟨g, _, _, _⟩ := fr_low (D := T.f1) (x := T.f1 - T.f0) h1 hle
  refine fr_of hd (by omega) ⟨g.d1, g.n0, g.g, ?_⟩
  have ge := g.e
  generalize fr T.f1 (T.f1 - T.f0) = G at *
  refine Int.eq_of_mul_eq_mul_right (a := T.f1) (by omega) ?_
  have e1 : (T.f1 - T.f0) * d = (d - p) * T.f1 := by rw [Int.sub_mul, Int.sub_mul, he, Int.mul_comm d]
  calc G.f0 * d * T.f1 = G.f0 * T.f1 * d := by ac_rfl
    _ = (T.f1 - T.f0) * G.f1 * d := by rw [ge]
    _ = (T.f1 - T.f0) * d * G.f1 := by ac_rfl
    _ = (d - p) * T.f1 * G.f1 := by rw [e1]
    _ = (d - p) * G.f1 * T.f1 := by ac_rfl
theorem rowTo_at {D : Int} {g : Nat → Int} {n q : Nat} (h : q < n) : rd_T62 (rowTo D g n) (q : Int) = fr D (g q) := by
  simp [rd_T62, rowTo, List.getD_eq_getElem?_getD, h]
/-- what a give makes of a mixture -/
theorem after_f {n : Nat} (hn : n ≤ 6) {D : Int} (hD : 1 ≤ D) (hD2 : D ≤ 10000000) {m : List (List S62)} {L : Nat → Nat → Int} (h : FM n D m L) {f t : Nat} (hf : f < n) (ht : t < n) (hft : f ≠ t) (now : List Int) (hnl : now.length = n) {d p : Int} (hde : rd now (f : Int) - rd now (t : Int) = d) (hd : 1 ≤ d) (hd2 : d ≤ 50) (hp : 0 ≤ p) (hp2 : p ≤ d) (k : Nat) (hk : KG + 10 ≤ k) :
    ∃ m', shares_mixture_after.f k m (f : Int) (t : Int) p now = some m' ∧ FM n (d * D) m' (mixL2 d p f t L) := by
  have hml := h.len
  obtain ⟨kp0, kp⟩ := fr_keep hd hp hp2
  obtain ⟨hT, _, hT1, hT0⟩ := fr_low hd hp
  have t1 := hT.d1
  have t0 := hT.n0
  have hI0 : AfI n m f t (rowTo (d * D) (fun q => mixA d p (L f q) (L t q)) 0) (rowTo (d * D) (fun q => mixA d p (L t q) (L f q)) 0) ((m.set f []).set t []) := AfI.set (A := rd_L5 m (f : Int)) (B := rd_L5 m (t : Int)) ⟨hml, rfl, rfl, fun _ _ _ => rfl⟩ hf ht hft
  obtain ⟨k, rfl⟩ : ∃ z, k = z + 1 := ⟨k - 1, by omega⟩
  obtain ⟨o, e, hI⟩ := after_l hn hD hD2 h hf ht hft hd hd2 hp hp2 p n 0 k _ (by omega) (by omega) hI0
  refine ⟨o, ?_, ?_⟩
  · unfold shares_mixture_after.f
    rw [if_pos (by omega), if_pos (by omega), if_pos (by omega), if_pos (by omega), hde, w6 (i := d) (by omega) (by omega), frac_f (by omega) hp (by omega) hd (by omega), Option.bind_some]
    dsimp only
    rw [w6 (i := (fr d p).f1 - (fr d p).f0) (by omega) (by omega), frac_f (by omega) kp0 (by omega) t1 (by omega), Option.bind_some, show xCloneM.f m = some m from rfl, Option.bind_some, if_pos (by omega), if_pos (by omega), Int.toNat_natCast, Int.toNat_natCast, kp, hml]
    exact e
  · have hol := hI.len
    have hrow : ∀ i : Nat, i < n → rd_L5 o (i : Int) = rowTo (d * D) (mixL2 d p f t L i) n := by
      intro i hi
      unfold mixL2
      by_cases e1 : i = f
      · subst e1
        rw [hI.a]
        unfold rowTo
        exact List.map_congr_left fun q _ => by dsimp only; rw [if_pos rfl]
      · by_cases e2 : i = t
        · subst e2
          rw [hI.b]
          unfold rowTo
          exact List.map_congr_left fun q _ => by dsimp only; rw [if_neg e1, if_pos rfl]
        · rw [hI.r i e1 e2]
          have hrl := h.sq _ (rdM_mem (show i < m.length by omega))
          apply List.ext_getElem
          · rw [rowTo_len, hrl]
          · intro q h1 h2
            rw [hrl] at h1
            have he := h.el i hi q h1
            have hb := h.bd i hi q h1
            have e3 : (rd_L5 m (i : Int))[q]'(by rw [hrl]; exact h1) = el m i q := by
              unfold Pure.el rd_T62
              rw [List.getD_eq_getElem?_getD, Int.toNat_natCast, List.getElem?_eq_getElem (by rw [hrl]; exact h1)]
              rfl
            rw [e3, he]
            simp only [rowTo, List.getElem_map, List.getElem_range, if_neg e1, if_neg e2]
            exact fr_mul hD hb.1 hd
    refine ⟨hol, fun r hr => ?_, fun i hi j hj => ?_, fun i hi j hj => ?_⟩
    · obtain ⟨i, hi, rfl⟩ := List.getElem_of_mem hr
      have := hrow i (by omega)
      have e4 : o[i] = rd_L5 o (i : Int) := by simp [rd_L5, List.getD_eq_getElem?_getD, List.getElem?_eq_getElem hi]
      rw [e4, this, rowTo_len]
    · unfold Pure.el
      rw [hrow i hi, rowTo_at hj]
    · unfold mixL2
      have b1 := h.bd f hf j hj
      have b2 := h.bd t ht j hj
      obtain ⟨m1, m2, m3, _, _⟩ := mixA_bd hd hp hp2 b1.1 b1.2 b2.1 b2.2
      obtain ⟨n1, n2, n3, _, _⟩ := mixA_bd hd hp hp2 b2.1 b2.2 b1.1 b1.2
      by_cases e1 : i = f
      · rw [if_pos e1]
        have : mixA d p (L f j) (L t j) = (d - p) * L f j + p * L t j := rfl
        omega
      · rw [if_neg e1]
        by_cases e2 : i = t
        · rw [if_pos e2]
          have : mixA d p (L t j) (L f j) = (d - p) * L t j + p * L f j := rfl
          omega
        · rw [if_neg e2]
          have b3 := h.bd i hi j hj
          exact ⟨Int.mul_nonneg (by omega) b3.1, Int.mul_le_mul_of_nonneg_left b3.2 (by omega)⟩
end Go.Proofs.Ytefmafbbnkkpjaa.Pure
namespace Go.Proofs.Ytefmafbbnkkpjaa.Pure
open Go Go.RowKit Go.Proofs.Ytefmafbbnkkpjaa.X Go.Proofs.YtefmafbbnkkpjaaW.PrintWords Go.Proofs.YtefmafbbnkkpjaaW.PrintLast Go.Proofs.YtefmafbbnkkpjaaW.PrintMore
set_option linter.unusedVariables false
set_option linter.unusedSimpArgs false

theorem rs_mul (c : Int) (f : Nat → Int) : ∀ n, rs n (fun i => c * f i) = c * rs n f
  | 0 => by simp [rs]
  | n + 1 => by rw [rs_succ, rs_succ, rs_mul c f n, Int.mul_add]
theorem rs_mix (d p : Int) (f g : Nat → Int) (n : Nat) : rs n (fun i => mixA d p (f i) (g i)) = (d - p) * rs n f + p * rs n g := by
  unfold mixA
  rw [rs_add, rs_mul, rs_mul]
/-- a mixture of D-ths that makes now out of x -/
structure FMI (n : Nat) (D : Int) (m : List (List S62)) (L : Nat → Nat → Int) (x now : Nat → Int) : Prop extends FM n D m L where
  rows : ∀ i, i < n → rs n (L i) = D
  cols : ∀ j, j < n → rs n (fun i => L i j) = D
  val : ∀ i, i < n → rs n (fun j => L i j * x j) = now i * D
theorem FMI.give {n : Nat} {D : Int} {m m' : List (List S62)} {L : Nat → Nat → Int} {x : Nat → Int} {now : Nat → Int} (h : FMI n D m L x now) {f t : Nat} (hf : f < n) (ht : t < n) (hft : f ≠ t) {d p : Int} (hd : now f - now t = d) (hm : FM n (d * D) m' (mixL2 d p f t L)) :
    FMI n (d * D) m' (mixL2 d p f t L) x (fun i => if i = f then now f - p else if i = t then now t + p else now i) := by
  refine ⟨hm, fun i hi => ?_, fun j hj => ?_, fun i hi => ?_⟩
  · unfold mixL2
    by_cases e1 : i = f
    · rw [show (fun j => if i = f then mixA d p (L f j) (L t j) else if i = t then mixA d p (L t j) (L f j) else d * L i j) = fun j => mixA d p (L f j) (L t j) from funext fun j => if_pos e1, rs_mix, h.rows f hf, h.rows t ht, ← Int.add_mul]
      congr 1; omega
    · by_cases e2 : i = t
      · rw [show (fun j => if i = f then mixA d p (L f j) (L t j) else if i = t then mixA d p (L t j) (L f j) else d * L i j) = fun j => mixA d p (L t j) (L f j) from funext fun j => by rw [if_neg e1, if_pos e2], rs_mix, h.rows f hf, h.rows t ht, ← Int.add_mul]
        congr 1; omega
      · rw [show (fun j => if i = f then mixA d p (L f j) (L t j) else if i = t then mixA d p (L t j) (L f j) else d * L i j) = fun j => d * L i j from funext fun j => by rw [if_neg e1, if_neg e2], rs_mul, h.rows i hi]
  · have e : rs n (fun i => mixL2 d p f t L i j) = rs n (fun i => d * L i j + ((if i = f then p * (L t j - L f j) else 0) + (if i = t then p * (L f j - L t j) else 0))) := rs_congr fun i hi => by
      unfold mixL2 mixA
      by_cases e1 : i = f
      · subst e1
        rw [if_pos rfl, if_pos rfl, if_neg hft, Int.sub_mul, Int.mul_sub]; omega
      · by_cases e2 : i = t
        · subst e2
          rw [if_neg e1, if_pos rfl, if_neg e1, if_pos rfl, Int.sub_mul, Int.mul_sub]; omega
        · rw [if_neg e1, if_neg e2, if_neg e1, if_neg e2]; omega
    rw [e, rs_add, rs_add, rs_mul, rs_single, rs_single, if_pos hf, if_pos ht, h.cols j hj, Int.mul_sub, Int.mul_sub]
    omega
  · have vf := h.val f hf
    have vt := h.val t ht
    unfold mixL2
    by_cases e1 : i = f
    · rw [if_pos e1, show (fun j => (if i = f then mixA d p (L f j) (L t j) else if i = t then mixA d p (L t j) (L f j) else d * L i j) * x j) = fun j => mixA d p (L f j * x j) (L t j * x j) from funext fun j => by rw [if_pos e1]; unfold mixA; rw [Int.add_mul, Int.mul_assoc, Int.mul_assoc], rs_mix, vf, vt]
      have : (now f - p) * (d * D) = ((d - p) * now f + p * now t) * D := by
        rw [← Int.mul_assoc]
        congr 1
        subst hd
        rw [Int.sub_mul, Int.sub_mul, Int.mul_sub p, Int.mul_comm (now f) (now f - now t)]; omega
      rw [this, Int.add_mul, Int.mul_assoc, Int.mul_assoc]
    · rw [if_neg e1]
      by_cases e2 : i = t
      · rw [if_pos e2, show (fun j => (if i = f then mixA d p (L f j) (L t j) else if i = t then mixA d p (L t j) (L f j) else d * L i j) * x j) = fun j => mixA d p (L t j * x j) (L f j * x j) from funext fun j => by rw [if_neg e1, if_pos e2]; unfold mixA; rw [Int.add_mul, Int.mul_assoc, Int.mul_assoc], rs_mix, vf, vt]
        have : (now t + p) * (d * D) = ((d - p) * now t + p * now f) * D := by
          rw [← Int.mul_assoc]
          congr 1
          subst hd
          rw [Int.add_mul, Int.sub_mul, Int.mul_sub p, Int.mul_comm (now t) (now f - now t)]; omega
        rw [this, Int.add_mul, Int.mul_assoc, Int.mul_assoc]
      · rw [if_neg e2, show (fun j => (if i = f then mixA d p (L f j) (L t j) else if i = t then mixA d p (L t j) (L f j) else d * L i j) * x j) = fun j => d * (L i j * x j) from funext fun j => by rw [if_neg e1, if_neg e2, Int.mul_assoc], rs_mul, h.val i hi]
        ac_rfl
end Go.Proofs.Ytefmafbbnkkpjaa.Pure
namespace Go.Proofs.Ytefmafbbnkkpjaa.Pure
open Go Go.RowKit Go.Proofs.Ytefmafbbnkkpjaa.X Go.Proofs.YtefmafbbnkkpjaaW.PrintWords Go.Proofs.YtefmafbbnkkpjaaW.PrintLast Go.Proofs.YtefmafbbnkkpjaaW.PrintMore
set_option linter.unusedVariables false
set_option linter.unusedSimpArgs false

/-- how many places differ -/
def df (x y : List Int) : Nat := (List.range x.length).countP fun i => decide (x.getD i 0 ≠ y.getD i 0)
theorem df_le (x y : List Int) : df x y ≤ x.length := by
  have := List.countP_le_length (p := fun i => decide (x.getD i 0 ≠ y.getD i 0)) (l := List.range x.length)
  simpa [df] using this
theorem step_df {x y : List Int} {i j : Nat} (w : Way x y) (s : Step x y i j) : df (give x i j (much x y i j)) y + 1 ≤ df x y ∧ 2 ≤ df x y := by
  have m := step_may w s
  have hi := m.hi
  have hj := m.hj
  have hne := m.ne
  have more := s.more
  have less := s.less
  constructor
  · unfold df
    rw [give_len]
    have hm : much x y i j = x.getD i 0 - y.getD i 0 ∨ much x y i j = y.getD j 0 - x.getD j 0 := by unfold much; omega
    have key : ∃ t0, t0 < x.length ∧ decide (x.getD t0 0 ≠ y.getD t0 0) = true ∧ decide ((give x i j (much x y i j)).getD t0 0 ≠ y.getD t0 0) = false := by
      rcases hm with h | h
      · refine ⟨i, hi, decide_eq_true (by omega), decide_eq_false ?_⟩
        rw [give_getD m, if_pos rfl, h]; omega
      · refine ⟨j, hj, decide_eq_true (by omega), decide_eq_false ?_⟩
        rw [give_getD m, if_neg (Ne.symm hne), if_pos rfl, h]; omega
    obtain ⟨t0, h0, hq, hp⟩ := key
    refine countP_lt (fun t ht => ?_) hq hp _ (List.mem_range.mpr h0)
    have ht := of_decide_eq_true ht
    rw [give_getD m] at ht
    by_cases e1 : t = i
    · subst e1; exact decide_eq_true (by omega)
    · by_cases e2 : t = j
      · subst e2; exact decide_eq_true (by omega)
      · rw [if_neg e1, if_neg e2] at ht; exact decide_eq_true ht
  · have h1 : (List.range x.length).countP (fun t => decide (t = i)) < df x y := countP_lt (fun t ht => by
      have ht := of_decide_eq_true ht
      subst ht
      exact decide_eq_true (by omega)) (t0 := j) (decide_eq_true (by omega)) (decide_eq_false (Ne.symm hne)) _ (List.mem_range.mpr hj)
    have h2 : 0 < (List.range x.length).countP (fun t => decide (t = i)) := List.countP_pos_iff.mpr ⟨i, List.mem_range.mpr hi, decide_eq_true rfl⟩
    omega
theorem gives_l2 {y : List Int} (hy : Sh y) : ∀ (d : Nat) (k : Nat) (x : List Int) (acc : List S77), Sh x → Way x y → df x y ≤ d → d + 200 < k → acc.length + d ≤ 1000 →
    ∃ gs, shares_gives.l0 k x y acc = some (acc ++ gs) ∧ run (gs.map t77) x = some y ∧ gs.length ≤ d - 1 := by
  intro d
  induction d with
  | zero =>
    intro k x acc hx w hf hk ha
    obtain ⟨k, rfl⟩ : ∃ m, k = m + 1 := ⟨k - 1, by omega⟩
    obtain ⟨r, e, h⟩ := step_f hx hy w.hl k (by omega)
    rw [shares_gives.l0, e, Option.bind_some]
    rcases h with ⟨i, j, s, rfl⟩ | ⟨rfl, h⟩
    · have h1 := step_df w s
      omega
    · refine ⟨[], ?_, ?_, Nat.zero_le _⟩
      · rw [if_neg (by decide), List.append_nil]
      · rw [way_end w fun i j => h i j (Nat.zero_le _)]; rfl
  | succ d ih =>
    intro k x acc hx w hf hk ha
    obtain ⟨k, rfl⟩ : ∃ m, k = m + 1 := ⟨k - 1, by omega⟩
    obtain ⟨r, e, h⟩ := step_f hx hy w.hl k (by omega)
    rw [shares_gives.l0, e, Option.bind_some]
    rcases h with ⟨i, j, s, rfl⟩ | ⟨rfl, h⟩
    · have h1 := step_df w s
      have m := step_may w s
      have b1 := hx.hb _ (getD_mem m.hi)
      have b2 := hy.hb (y.getD i 0) (getD_mem (by rw [← w.hl]; exact m.hi))
      have m20 : much x y i j ≤ 20 := by unfold much; omega
      have M := may_of m m20
      obtain ⟨gs, g1, g2, g3⟩ := ih k (give x i j (much x y i j)) (acc ++ [⟨(i : Int), (j : Int), much x y i j⟩]) (give_sh m hx) (step_way w s) (by omega) (by omega) (by rw [List.length_append, List.length_singleton]; omega)
      refine ⟨⟨(i : Int), (j : Int), much x y i j⟩ :: gs, ?_, ?_, by rw [List.length_cons]; omega⟩
      · rw [if_pos rfl, do_f hx, Option.bind_some, dc_true M, if_pos rfl, if_pos (by omega)]
        rw [Int.toNat_natCast, Int.toNat_natCast, g1, List.append_assoc]; rfl
      · rw [List.map_cons, run]
        show (if dc (May x (i : Int) (j : Int) (much x y i j)) = true then run (gs.map t77) (give x (i : Int).toNat (j : Int).toNat (much x y i j)) else none) = some y
        rw [dc_true M, if_pos rfl, Int.toNat_natCast, Int.toNat_natCast]
        exact g2
    · refine ⟨[], ?_, ?_, by simp⟩
      · rw [if_neg (by decide), List.append_nil]
      · rw [way_end w fun i j => h i j (Nat.zero_le _)]; rfl
/-- at most five gives -/
theorem gives_f2 {x y : List Int} (hx : Sh x) (hy : Sh y) (w : Way x y) (k : Nat) (hk : 400 < k) : ∃ gs, shares_gives.f k x y = some gs ∧ run (gs.map t77) x = some y ∧ gs.length ≤ 5 := by
  have h6 := hx.h6
  have hf := df_le x y
  unfold shares_gives.f
  rw [clone_f x (by omega), Option.bind_some]
  obtain ⟨gs, h1, h2, h3⟩ := gives_l2 hy 6 k x [] hx w (by omega) (by omega) (by simp)
  exact ⟨gs, h1, h2, h3⟩
theorem okM_of {n : Nat} {m : List (List S62)} (h1 : m.length = n) (h2 : ∀ r ∈ m, r.length = n) : okM n m = true := by
  unfold okM
  simp only [Bool.and_eq_true, decide_eq_true_eq, List.all_eq_true]
  exact ⟨h1, h2⟩
/-- what all gives make -/
theorem mix_run {n : Nat} (hn : n ≤ 6) {x : Nat → Int} {k : Nat} (hk : KG + 10 ≤ k) {z : List Int} : ∀ (gs : List S77) (now : List Int) (D : Int) (m : List (List S62)) (L : Nat → Nat → Int), now.length = n → Sh now → run (gs.map t77) now = some z → FMI n D m L x (fun i => rd now (i : Int)) → 1 ≤ D → D * 20 ^ gs.length ≤ 10000000 →
    ∃ m' D' L', mixL k n gs m now = some m' ∧ FMI n D' m' L' x (fun i => rd z (i : Int)) ∧ 1 ≤ D' ∧ D' ≤ 10000000
  | [], now, D, m, L, hl, hs, hr, hI, hD, hb => by
    obtain rfl : now = z := Option.some.inj hr
    exact ⟨m, D, L, by rw [mixL, if_pos (okM_of hI.len hI.sq)], hI, hD, by simpa using hb⟩
  | g :: gs, now, D, m, L, hl, hs, hr, hI, hD, hb => by
    rw [List.map_cons, run] at hr
    by_cases hM : May now g.f0 g.f1 g.f2
    · have hr' : run (gs.map t77) (give now g.f0.toNat g.f1.toNat g.f2) = some z := by
        have h9 : (if dc (May now g.f0 g.f1 g.f2) = true then run (gs.map t77) (give now g.f0.toNat g.f1.toNat g.f2) else none) = some z := hr
        rwa [dc_true hM, if_pos rfl] at h9
      have mm := hM.may
      obtain ⟨f, hf⟩ : ∃ f : Nat, g.f0 = (f : Int) := ⟨g.f0.toNat, by have := hM.f0; omega⟩
      obtain ⟨t, ht⟩ : ∃ t : Nat, g.f1 = (t : Int) := ⟨g.f1.toNat, by have := hM.t0; omega⟩
      obtain ⟨p, hp⟩ : ∃ p, g.f2 = p := ⟨_, rfl⟩
      rw [hf, ht, hp] at hM mm hr'
      rw [Int.toNat_natCast, Int.toNat_natCast] at mm hr'
      have hfn : f < n := by have := hM.f1; omega
      have htn : t < n := by have := hM.t1; omega
      have hft : f ≠ t := mm.ne
      have b1 := rd_bd hs (f : Int)
      have b2 := rd_bd hs (t : Int)
      have hm1 := hM.m1
      have h2 := hM.two
      obtain ⟨d, hd⟩ : ∃ d, rd now (f : Int) - rd now (t : Int) = d := ⟨_, rfl⟩
      have hpow : (0 : Int) < 20 ^ gs.length := Int.pow_pos (by decide)
      have hpw : (20 : Int) ^ (gs.length + 1) = 20 ^ gs.length * 20 := Int.pow_succ ..
      rw [List.length_cons, hpw] at hb
      have hD2 : D ≤ 10000000 := by
        have h3 := Int.mul_le_mul_of_nonneg_left (show (1 : Int) ≤ 20 ^ gs.length * 20 by omega) (show 0 ≤ D by omega)
        omega
      obtain ⟨m', e, hF⟩ := after_f hn hD hD2 hI.toFM hfn htn hft now hl hd (by omega) (by omega) (show 0 ≤ p by omega) (by omega) k hk
      have hG := hI.give hfn htn hft hd hF
      have hnow : (fun i => if i = f then rd now (f : Int) - p else if i = t then rd now (t : Int) + p else rd now (i : Int)) = fun (i : Nat) => rd (give now f t p) (i : Int) := funext fun i => by
        rw [rd_at (give now f t p), give_getD mm, rd_at, rd_at, rd_at]
      rw [hnow] at hG
      have hdD := Int.mul_le_mul (show 1 ≤ d by omega) hD (by omega) (by omega)
      have hb2 : d * D * 20 ^ gs.length ≤ 10000000 := by
        have h4 : d * D ≤ 20 * D := Int.mul_le_mul_of_nonneg_right (by omega) (by omega)
        have h5 := Int.mul_le_mul_of_nonneg_right h4 (show (0 : Int) ≤ 20 ^ gs.length by omega)
        have h6 : 20 * D * 20 ^ gs.length = D * (20 ^ gs.length * 20) := by ac_rfl
        omega
      obtain ⟨m2, D2, L2, e2, h7, h8, h9⟩ := mix_run hn hk gs (give now f t p) (d * D) m' _ (by rw [give_len]; exact hl) (give_sh mm hs) hr' hG (by omega) hb2
      refine ⟨m2, D2, L2, ?_, h7, h8, h9⟩
      rw [mixL, if_pos ⟨okM_of hI.len hI.sq, hl, by omega, by omega, by omega, by omega, by omega⟩, hf, ht, hp, e]
      dsimp only
      rw [do_f hs, dc_true hM, if_pos rfl]
      dsimp only
      rw [Int.toNat_natCast, Int.toNat_natCast]
      exact e2
    · have h9 : (if dc (May now g.f0 g.f1 g.f2) = true then run (gs.map t77) (give now g.f0.toNat g.f1.toNat g.f2) else none) = some z := hr
      rw [dc_false hM, if_neg (by decide)] at h9
      cases h9
end Go.Proofs.Ytefmafbbnkkpjaa.Pure
namespace Go.Proofs.Ytefmafbbnkkpjaa.Pure
open Go Go.RowKit Go.Proofs.Ytefmafbbnkkpjaa.X Go.Proofs.YtefmafbbnkkpjaaW.PrintWords Go.Proofs.YtefmafbbnkkpjaaW.PrintLast Go.Proofs.YtefmafbbnkkpjaaW.PrintMore
set_option linter.unusedVariables false
set_option linter.unusedSimpArgs false

def zrow (n : Nat) : List S62 := List.replicate n ⟨0, 1⟩
/-- a matrix of 0s -/
theorem empty_l {n : Nat} (h1 : 1 ≤ n) (hn : n ≤ 20) : ∀ (c i k : Nat) (o : List (List S62)), i + c = n → c < k → o.length = n → (∀ q : Nat, q < i → rd_L5 o (q : Int) = zrow n) →
    ∃ o', shares_empty.l0 k (n : Int) o (n : Int) (i : Int) = some o' ∧ o'.length = n ∧ ∀ q : Nat, q < n → rd_L5 o' (q : Int) = zrow n := by
  intro c
  induction c with
  | zero =>
    intro i k o hi hk hol ho
    obtain ⟨k, rfl⟩ : ∃ z, k = z + 1 := ⟨k - 1, by omega⟩
    exact ⟨o, by rw [shares_empty.l0, if_neg (by omega)], hol, fun q hq => ho q (by omega)⟩
  | succ c ih =>
    intro i k o hi hk hol ho
    obtain ⟨k, rfl⟩ : ∃ z, k = z + 1 := ⟨k - 1, by omega⟩
    rw [shares_empty.l0, if_pos (by omega), show shares_whole.f 0 = some (0, 1) from rfl, Option.bind_some]
    dsimp only
    have hrep : xRepeat.f [(⟨0, 1⟩ : S62)] (n : Int) = some (zrow n) := by
      unfold xRepeat.f
      rw [if_pos ⟨rfl, by omega, by omega⟩, Int.toNat_natCast]
      rfl
    rw [hrep, Option.bind_some, if_pos (by omega), if_pos (by omega), Int.toNat_natCast, w6 (by omega) (by omega), show (i : Int) + 1 = ((i + 1 : Nat) : Int) by omega]
    refine ih (i + 1) k _ (by omega) (by omega) (by rw [List.length_set]; exact hol) (fun q hq => ?_)
    rw [rd5_setN (by omega)]
    by_cases e : q = i
    · rw [if_pos e]
    · rw [if_neg e]; exact ho q (by omega)
theorem empty_f {n : Nat} (h1 : 1 ≤ n) (hn : n ≤ 20) (k : Nat) (hk : 50 < k) : ∃ m, shares_empty.f k (n : Int) = some m ∧ m.length = n ∧ ∀ q : Nat, q < n → rd_L5 m (q : Int) = zrow n := by
  unfold shares_empty.f
  rw [if_pos (by omega), if_pos (by omega), Option.bind_some, Int.toNat_natCast, List.length_replicate]
  exact empty_l h1 hn n 0 k _ (by omega) (by omega) (by simp) (fun q hq => by omega)
theorem mem_rd5 {m : List (List S62)} {r : List S62} (h : r ∈ m) : ∃ i : Nat, i < m.length ∧ r = rd_L5 m (i : Int) := by
  obtain ⟨i, hi, rfl⟩ := List.getElem_of_mem h
  exact ⟨i, hi, by simp [rd_L5, List.getD_eq_getElem?_getD, List.getElem?_eq_getElem hi]⟩
/-- 1s are put -/
theorem putL_spec : ∀ (ps : List Int) (i : Nat) (m : List (List S62)), i + ps.length ≤ m.length →
    (putL m ps (i : Int)).length = m.length ∧ ∀ q : Nat, rd_L5 (putL m ps (i : Int)) (q : Int) = if i ≤ q ∧ q < i + ps.length then (rd_L5 m (q : Int)).set (rd ps ((q - i : Nat) : Int)).toNat wOne else rd_L5 m (q : Int)
  | [], i, m, _ => ⟨rfl, fun q => by rw [if_neg (by rw [List.length_nil]; omega)]; rfl⟩
  | j :: js, i, m, h => by
    rw [putL]
    rw [List.length_cons] at h
    rw [Int.toNat_natCast]
    obtain ⟨a1, a2⟩ := putL_spec js (i + 1) (m.set i ((rd_L5 m (i : Int)).set j.toNat wOne)) (by rw [List.length_set]; omega)
    rw [show ((i + 1 : Nat) : Int) = (i : Int) + 1 by omega] at a1 a2
    refine ⟨by rw [a1, List.length_set], fun q => ?_⟩
    rw [a2 q, rd5_setN (by omega)]
    by_cases e : q = i
    · subst e
      rw [if_neg (by omega), if_pos rfl, if_pos (by simp), Nat.sub_self]
      rfl
    · rw [if_neg e]
      by_cases h2 : i + 1 ≤ q ∧ q < i + 1 + js.length
      · have es : rd (j :: js) ((q - i : Nat) : Int) = rd js ((q - (i + 1) : Nat) : Int) := by
          rw [rd_at, rd_at, show q - i = (q - (i + 1)) + 1 by omega]; rfl
        rw [if_pos h2, if_pos (by rw [List.length_cons]; omega), es]
      · rw [if_neg h2, if_neg (by rw [List.length_cons]; omega)]
/-- rows are laid -/
theorem outL_spec (m : List (List S62)) : ∀ (ps : List Int) (i : Nat) (o : List (List S62)), (∀ p ∈ ps, 0 ≤ p ∧ p < (o.length : Int)) → ps.Nodup →
    (outL m o ps (i : Int)).length = o.length ∧ (∀ q : Nat, q < ps.length → rd_L5 (outL m o ps (i : Int)) (rd ps (q : Int)) = rd_L5 m ((i + q : Nat) : Int)) ∧ ∀ r : Nat, (r : Int) ∉ ps → rd_L5 (outL m o ps (i : Int)) (r : Int) = rd_L5 o (r : Int)
  | [], i, o, _, _ => ⟨rfl, fun q hq => absurd hq (Nat.not_lt_zero _), fun r _ => rfl⟩
  | j :: js, i, o, h, hd => by
    rw [outL]
    have hj := h j List.mem_cons_self
    have hd2 := List.nodup_cons.mp hd
    obtain ⟨a1, a2, a3⟩ := outL_spec m js (i + 1) (o.set j.toNat (rd_L5 m (i : Int))) (fun p hp => by rw [List.length_set]; exact h p (List.mem_cons_of_mem _ hp)) hd2.2
    rw [show ((i + 1 : Nat) : Int) = (i : Int) + 1 by omega] at a1 a2 a3
    refine ⟨by rw [a1, List.length_set], fun q hq => ?_, fun r hr => ?_⟩
    · cases q with
      | zero =>
        have e0 : rd (j :: js) ((0 : Nat) : Int) = j := rfl
        rw [e0, Nat.add_zero]
        have := a3 j.toNat (by rw [Int.toNat_of_nonneg hj.1]; exact hd2.1)
        rw [Int.toNat_of_nonneg hj.1] at this
        rw [this]
        have := rd5_setN (l := o) (i := j.toNat) (r := rd_L5 m (i : Int)) (by omega) j.toNat
        rw [if_pos rfl, Int.toNat_of_nonneg hj.1] at this
        exact this
      | succ q =>
        have es : rd (j :: js) ((q + 1 : Nat) : Int) = rd js (q : Int) := by rw [rd_at, rd_at]; rfl
        rw [es, a2 q (by simpa using hq)]
        congr 1
        omega
    · rw [List.mem_cons, not_or] at hr
      rw [a3 r hr.2, rd5_setN (by omega), if_neg (by omega)]
end Go.Proofs.Ytefmafbbnkkpjaa.Pure
namespace Go.Proofs.Ytefmafbbnkkpjaa.Pure
open Go Go.RowKit Go.Proofs.Ytefmafbbnkkpjaa.X Go.Proofs.YtefmafbbnkkpjaaW.PrintWords Go.Proofs.YtefmafbbnkkpjaaW.PrintLast Go.Proofs.YtefmafbbnkkpjaaW.PrintMore
set_option linter.unusedVariables false
set_option linter.unusedSimpArgs false

theorem rdI_get {l : List Int} {q : Nat} (h : q < l.length) : rd l (q : Int) = l[q] := by rw [rd_at, getD_get h]
theorem list_range (x : List Int) : (List.range x.length).map (fun (i : Nat) => rd x (i : Int)) = x := by
  apply List.ext_getElem
  · simp
  · intro i h1 h2
    simp [rd, List.getD_eq_getElem?_getD, List.getElem?_eq_getElem h2]
/-- order's indices -/
theorem order_spec {x : List Int} (hx : Sh x) : PermOf x.length (orderF x) ∧ ∀ i : Nat, i < x.length → rd x (rd (orderF x) (i : Int)) = rd (insAll x) (i : Int) := by
  have h1 := hx.h1
  obtain ⟨hp, hd⟩ := Ord.srt_spec (l := x) h1 (fun v hv => by have := hx.hb v hv; omega)
  have hlt : ∀ i ∈ Ord.srt x, i < x.length := fun i hi => List.mem_range.mp (hp.subset hi)
  have ho : orderF x = (Ord.srt x).map fun (i : Nat) => (i : Int) := by
    unfold orderF
    exact List.map_congr_left fun i hi => by rw [Nat.mod_eq_of_lt (hlt i hi)]
  have hl : (orderF x).length = x.length := by rw [ho, List.length_map, hp.length_eq, List.length_range]
  have hperm : (orderF x).Perm (ints x.length) := by rw [ho]; exact hp.map _
  refine ⟨⟨hl, fun v hv => ints_mem.mp (hperm.subset hv), hperm.nodup_iff.mpr (ints_nodup _)⟩, ?_⟩
  have e : (orderF x).map (rd x) = insAll x := by
    refine desc_unique _ _ ?_ ?_ (D_desc x)
    · have h2 : ((Ord.srt x).map fun (i : Nat) => rd x (i : Int)).Perm x := by
        have := hp.map (fun (i : Nat) => rd x (i : Int))
        rwa [list_range] at this
      rw [ho, List.map_map]
      exact h2.trans (D_perm x).symm
    · rw [ho, List.map_map]
      unfold Desc
      rw [List.pairwise_map]
      exact hd
  intro i hi
  rw [← e, rdI_get (l := (orderF x).map (rd x)) (by rw [List.length_map]; omega), List.getElem_map, rdI_get (l := orderF x) (by omega)]
theorem fr_one : fr 1 1 = ⟨1, 1⟩ ∧ fr 1 0 = ⟨0, 1⟩ := ⟨rfl, rfl⟩
/-- the mixture before the gives -/
theorem start_mix {x : List Int} (hx : Sh x) {m0 : List (List S62)} (hl : m0.length = x.length) (hz : ∀ q : Nat, q < x.length → rd_L5 m0 (q : Int) = zrow x.length) :
    FMI x.length 1 (putL m0 (orderF x) 0) (fun i j => if rd (orderF x) (i : Int) = (j : Int) then 1 else 0) (fun j => rd x (j : Int)) (fun i => rd (insAll x) (i : Int)) := by
  obtain ⟨hp, hv⟩ := order_spec hx
  obtain ⟨a1, a2⟩ := putL_spec (orderF x) 0 m0 (by rw [hp.len, hl]; omega)
  rw [show ((0 : Nat) : Int) = 0 from rfl] at a1 a2
  have hrow : ∀ i : Nat, i < x.length → rd_L5 (putL m0 (orderF x) 0) (i : Int) = (zrow x.length).set (rd (orderF x) (i : Int)).toNat wOne := fun i hi => by
    rw [a2 i, if_pos (by rw [hp.len]; omega), hz i hi, Nat.sub_zero]
  have hr : ∀ i : Nat, i < x.length → 0 ≤ rd (orderF x) (i : Int) ∧ rd (orderF x) (i : Int) < (x.length : Int) := fun i hi => hp.rng _ (List.mem_of_mem_drop (rdI_drop (by rw [hp.len]; exact hi) ▸ List.mem_cons_self))
  have hsum : ∀ (i : Nat) (g : Nat → Int), i < x.length → rs x.length (fun j => (if rd (orderF x) (i : Int) = (j : Int) then 1 else 0) * g j) = g (rd (orderF x) (i : Int)).toNat := fun i g hi => by
    have h9 := hr i hi
    rw [rs_congr (g := fun j => if j = (rd (orderF x) (i : Int)).toNat then g (rd (orderF x) (i : Int)).toNat else 0) (fun j hj => by
      by_cases e : rd (orderF x) (i : Int) = (j : Int)
      · rw [if_pos e, if_pos (by omega), Int.one_mul]; congr 1; omega
      · rw [if_neg e, if_neg (by omega), Int.zero_mul]), rs_single, if_pos (by omega)]
  refine ⟨⟨by rw [a1, hl], fun r hrm => ?_, fun i hi j hj => ?_, fun i hi j hj => ?_⟩, fun i hi => ?_, fun j hj => ?_, fun i hi => ?_⟩
  · obtain ⟨i, hi, rfl⟩ := mem_rd5 hrm
    rw [a1, hl] at hi
    rw [hrow i hi, List.length_set]
    simp [zrow]
  · have h9 := hr i hi
    unfold Pure.el rd_T62
    rw [hrow i hi, Int.toNat_natCast, List.getD_eq_getElem?_getD, List.getElem?_set]
    by_cases e : rd (orderF x) (i : Int) = (j : Int)
    · rw [if_pos (show (rd (orderF x) (i : Int)).toNat = j by omega), if_pos (by simp [zrow]; omega), if_pos e, fr_one.1]; rfl
    · rw [if_neg (by omega), if_neg e, fr_one.2]
      simp [zrow, hj]
  · split <;> omega
  · have := hsum i (fun _ => 1) hi
    refine Eq.trans (rs_congr fun j hj => ?_) this
    rw [Int.mul_one]
  · exact rs_perm hp hj 1
  · have := hsum i (fun j => rd x (j : Int)) hi
    rw [this, Int.mul_one, ← hv i hi, Int.toNat_of_nonneg (hr i hi).1]
/-- the rows in the order that was asked for -/
theorem end_mix {x y : List Int} (hy : Sh y) {D : Int} {m : List (List S62)} {L : Nat → Nat → Int} {xs : Nat → Int} (h : FMI y.length D m L xs (fun i => rd (insAll y) (i : Int))) :
    ∃ L', FMI y.length D (outL m (List.replicate y.length []) (orderF y) 0) L' xs (fun i => rd y (i : Int)) := by
  obtain ⟨hp, hv⟩ := order_spec hy
  have hrng := hp.rng
  obtain ⟨a1, a2, _⟩ := outL_spec m (orderF y) 0 (List.replicate y.length []) (fun p hpm => by rw [List.length_replicate]; exact hp.rng p hpm) hp.nd
  rw [show ((0 : Nat) : Int) = 0 from rfl] at a1 a2
  rw [List.length_replicate] at a1
  have hex : ∀ r : Nat, ∃ q : Nat, r < y.length → q < y.length ∧ rd (orderF y) (q : Int) = (r : Int) := fun r => by
    by_cases hr : r < y.length
    · obtain ⟨q, hq, e⟩ := List.getElem_of_mem (hp.all r hr)
      exact ⟨q, fun _ => ⟨by rw [← hp.len]; exact hq, by rw [rdI_get hq, e]⟩⟩
    · exact ⟨0, fun h => absurd h hr⟩
  obtain ⟨q, hq⟩ := Classical.axiomOfChoice hex
  have hqq : ∀ i : Nat, i < y.length → q (rd (orderF y) (i : Int)).toNat = i := fun i hi => by
    have h9 := hp.rng _ (List.mem_of_mem_drop (rdI_drop (by rw [hp.len]; exact hi) ▸ List.mem_cons_self) : rd (orderF y) (i : Int) ∈ orderF y)
    obtain ⟨b1, b2⟩ := hq (rd (orderF y) (i : Int)).toNat (by omega)
    rw [Int.toNat_of_nonneg h9.1] at b2
    generalize q (rd (orderF y) (i : Int)).toNat = q0 at *
    have c1 : q0 < (orderF y).length := by rw [hp.len]; exact b1
    have c2 : i < (orderF y).length := by rw [hp.len]; exact hi
    rw [rdI_get c1, rdI_get c2] at b2
    exact (List.getElem_inj hp.nd).mp b2
  have hrow : ∀ r : Nat, r < y.length → rd_L5 (outL m (List.replicate y.length []) (orderF y) 0) (r : Int) = rd_L5 m (q r : Int) := fun r hr => by
    obtain ⟨b1, b2⟩ := hq r hr
    have := a2 (q r) (by rw [hp.len]; exact b1)
    rw [b2, Nat.zero_add] at this
    exact this
  refine ⟨fun r j => L (q r) j, ⟨a1, fun r hrm => ?_, fun i hi j hj => ?_, fun i hi j hj => h.bd _ (hq i hi).1 j hj⟩, fun i hi => h.rows _ (hq i hi).1, fun j hj => ?_, fun i hi => ?_⟩
  · obtain ⟨i, hi, rfl⟩ := mem_rd5 hrm
    rw [a1] at hi
    rw [hrow i hi]
    exact h.sq _ (rdM_mem (by rw [h.len]; exact (hq i hi).1))
  · have := h.el _ (hq i hi).1 j hj
    unfold Pure.el at this ⊢
    rw [hrow i hi]
    exact this
  · rw [← h.cols j hj]
    have e1 : rs y.length (fun r => L (q r) j) = ((ints y.length).map fun v => L (q v.toNat) j).sum := by
      unfold rs ints
      rw [List.map_map]
      congr 1
    have e2 : rs y.length (fun i => L i j) = ((orderF y).map fun v => L (q v.toNat) j).sum := by
      unfold rs
      congr 1
      apply List.ext_getElem
      · simp [hp.len]
      · intro i h1 h2
        have hi : i < y.length := by simpa using h1
        have := hqq i hi
        rw [rdI_get (by rw [hp.len]; exact hi)] at this
        simp only [List.getElem_map, List.getElem_range]
        rw [this]
    rw [e1, e2, Hall.perm_sum (hp.perm.map _)]
  · obtain ⟨b1, b2⟩ := hq i hi
    have h9 := h.val _ b1
    refine Eq.trans h9 ?_
    rw [← hv _ b1, b2]
end Go.Proofs.Ytefmafbbnkkpjaa.Pure
namespace Go.Proofs.Ytefmafbbnkkpjaa.Pure
open Go Go.RowKit Go.Proofs.Ytefmafbbnkkpjaa.X Go.Proofs.YtefmafbbnkkpjaaW.PrintWords Go.Proofs.YtefmafbbnkkpjaaW.PrintLast Go.Proofs.YtefmafbbnkkpjaaW.PrintMore
set_option linter.unusedVariables false
set_option linter.unusedSimpArgs false

theorem okX_of {x : List Int} (h : Sh x) : okX x = true := by
  unfold okX
  simp only [Bool.and_eq_true, decide_eq_true_eq, List.all_eq_true]
  exact ⟨h.h1, by have := h.h6; omega, fun v hv => by have := h.hb v hv; omega⟩
theorem okI_of {n : Nat} {p : List Int} (h : PermOf n p) : okI n p = true := by
  unfold okI
  simp only [Bool.and_eq_true, decide_eq_true_eq, List.all_eq_true]
  exact ⟨h.len, h.rng⟩
theorem falling_f {x : List Int} (hx : Sh x) : xFalling.f x = some (insAll x) := by
  rw [← fall_eq x (fun v hv => by have := hx.hb v hv; omega)]
  exact if_pos ⟨by intro e; have := hx.h1; subst e; simp at this, by have := hx.h6; omega⟩
theorem sh_D {x : List Int} (hx : Sh x) : Sh (insAll x) := ⟨by rw [D_length]; exact hx.h1, by rw [D_length]; exact hx.h6, fun v hv => hx.hb v ((D_perm x).subset hv)⟩
theorem Mix_f (x y : List Int) (hx : x.length ≤ 15) (hy : y.length ≤ 15) (k : Nat) (hk : 1000 + KG ≤ k) :
    (¬ Two x y ∧ xMix.f k x y = some ([], 2)) ∨ (Two x y ∧ ¬ Maj x y ∧ xMix.f k x y = some ([], 4)) ∨ (Two x y ∧ Maj x y ∧ ∃ m D L, xMix.f k x y = some (m, 0) ∧ FMI x.length D m L (fun j => rd x (j : Int)) (fun i => rd y (i : Int)) ∧ 1 ≤ D ∧ D ≤ 10000000) := by
  unfold xMix.f
  rw [are_two x y hx hy k (by omega)]
  dsimp only
  by_cases h : Two x y
  · obtain ⟨sx, sy, hl⟩ := h
    have h1 := sx.h1
    have h6 := sx.h6
    rw [dc_true ⟨sx, sy, hl⟩, if_pos rfl, uneven_f (sm_of_sh sx) (sm_of_sh sy) h1 (by omega) hl k (by omega)]
    dsimp only
    by_cases hM : Maj x y
    · rw [dc_true hM, if_pos rfl]
      refine .inr (.inr ⟨⟨sx, sy, hl⟩, hM, ?_⟩)
      obtain ⟨m0, e0, hl0, hz0⟩ := empty_f (n := x.length) h1 (by omega) k (by omega)
      have hst := start_mix sx hl0 hz0
      have hw : Way (insAll x) (insAll y) := ⟨by rw [D_length, D_length, hl], D_desc y, hM.1, by rw [sum_perm (D_perm x), sum_perm (D_perm y)]; exact hM.2⟩
      obtain ⟨gs, eg, hr, hg5⟩ := gives_f2 (sh_D sx) (sh_D sy) hw k (by omega)
      have hpw : (1 : Int) * 20 ^ gs.length ≤ 10000000 := by
        have h9 : gs.length = 0 ∨ gs.length = 1 ∨ gs.length = 2 ∨ gs.length = 3 ∨ gs.length = 4 ∨ gs.length = 5 := by omega
        rcases h9 with h9 | h9 | h9 | h9 | h9 | h9 <;> rw [h9] <;> decide
      obtain ⟨m', D', L', em, hI, d1, d2⟩ := mix_run (n := x.length) h6 (k := k) (by omega) gs (insAll x) 1 _ _ (D_length x) (sh_D sx) hr hst (by omega) hpw
      have hsq : ∀ r ∈ m0, r.length = x.length := fun r hrm => by
        obtain ⟨i, hi, rfl⟩ := mem_rd5 hrm
        rw [hz0 i (by omega)]
        simp [zrow]
      have hI' : FMI y.length D' m' L' (fun j => rd x (j : Int)) (fun i => rd (insAll y) (i : Int)) := by rw [← hl]; exact hI
      obtain ⟨L2, h2⟩ := end_mix (x := x) sy hI'
      rw [← hl] at h2
      refine ⟨_, D', L2, ?_, h2, d1, d2⟩
      unfold xMix.g
      rw [if_pos ⟨okX_of sx, okX_of sy, hl.symm, okI_of (order_spec sx).1, by rw [hl]; exact okI_of (order_spec sy).1⟩, e0]
      dsimp only
      rw [if_pos (okM_of hl0 hsq), falling_f sx]
      dsimp only
      rw [falling_f sy]
      dsimp only
      rw [eg]
      dsimp only
      rw [if_pos (by omega), em]
    · rw [dc_false hM, if_neg (by decide)]
      exact .inr (.inl ⟨⟨sx, sy, hl⟩, hM, rfl⟩)
  · rw [dc_false h, if_neg (by decide)]
    exact .inl ⟨h, rfl⟩
/-- what a matrix makes of x -/
def Makes (n : Nat) (D : Int) (m : List (List S62)) (x y : List Int) : Prop := ∀ i, i < n → rs n (fun j => val D (el m i j) * rd x (j : Int)) = rd y (i : Int) * D
/-- a matrix of D-ths that mixes is a mixture -/
theorem FMI.mx {n : Nat} (h1 : 1 ≤ n) {D : Int} {m : List (List S62)} {L : Nat → Nat → Int} {x y : List Int} (h : FMI n D m L (fun j => rd x (j : Int)) (fun i => rd y (i : Int))) (hD : 1 ≤ D) (hD2 : D ≤ 10000000) : ∃ A, Mx 10000000 n m A ∧ Makes n A m x y := by
  have hel : ∀ i, i < n → ∀ j, j < n → OkF 10000000 true (el m i j) ∧ (el m i j).f1 ∣ D ∧ Pure.val D (el m i j) = L i j := fun i hi j hj => by
    have e := h.el i hi j hj
    have b := h.bd i hi j hj
    obtain ⟨l, l2, l3, l4⟩ := fr_low hD b.1
    rw [e]
    have hle : (fr D (L i j)).f0 ≤ (fr D (L i j)).f1 := by
      have he := l.e
      have a1 := Int.mul_le_mul_of_nonneg_right b.2 (show 0 ≤ (fr D (L i j)).f1 by have := l.d1; omega)
      rw [← he, Int.mul_comm D] at a1
      exact Int.le_of_mul_le_mul_right a1 (by omega)
    refine ⟨⟨l.d1, by omega, l.n0, fun _ => hle, l.g⟩, l2, ?_⟩
    have he := l.e
    have d1 := l.d1
    obtain ⟨c, hc⟩ := l2
    generalize fr D (L i j) = F at *
    unfold Pure.val
    have e2 : D / F.f1 = c := by rw [hc]; exact Int.mul_ediv_cancel_left _ (by omega)
    rw [e2]
    refine Int.eq_of_mul_eq_mul_right (a := F.f1) (by omega) ?_
    rw [← he, hc, Int.mul_assoc, Int.mul_comm c]
  have hall : ∀ f ∈ m.flatten, OkF 10000000 true f ∧ f.f1 ∣ D := fun f hf => by
    obtain ⟨r, hr, hfr⟩ := List.mem_flatten.mp hf
    obtain ⟨i, hi, rfl⟩ := mem_rd5 hr
    obtain ⟨j, hj, rfl⟩ := List.getElem_of_mem hfr
    have hrl := h.sq _ hr
    rw [h.len] at hi
    have := hel i hi j (by omega)
    have e : (rd_L5 m (i : Int))[j] = el m i j := by
      unfold Pure.el rd_T62
      rw [List.getD_eq_getElem?_getD, Int.toNat_natCast, List.getElem?_eq_getElem hj]; rfl
    rw [e]
    exact ⟨this.1, this.2.1⟩
  have hne := mulP_of (most := 10000000) (strict := true) hD hD2 m.flatten 1 (by omega) ⟨D, by omega⟩ hall
  obtain ⟨a1, a2, _, a4, a5⟩ := mulP_spec 10000000 true m.flatten 1 (by omega) (by decide) hne
  obtain ⟨c, hc⟩ := a5 D ⟨D, by omega⟩ fun f hf => (hall f hf).2
  refine ⟨mulP 10000000 true m.flatten 1, ?_⟩
  generalize hA : mulP 10000000 true m.flatten 1 = A at *
  have hc1 : 1 ≤ c := by
    rcases Int.lt_or_le 0 c with h9 | h9
    · exact h9
    · have := Int.mul_le_mul_of_nonneg_left h9 (show 0 ≤ A by omega); omega
  have hcan : ∀ {a b : Int}, a * c = b * c → a = b := fun h => Int.eq_of_mul_eq_mul_right (by omega) h
  have hval : ∀ i, i < n → ∀ j, j < n → Pure.val A (el m i j) * c = L i j := fun i hi j hj => by
    have hm : el m i j ∈ m.flatten := List.mem_flatten.mpr ⟨_, rdM_mem (by rw [h.len]; exact hi), rd_mem (by rw [h.sq _ (rdM_mem (by rw [h.len]; exact hi))]; exact hj)⟩
    obtain ⟨q, hq⟩ := (a4 _ hm).2
    have d1 := (a4 _ hm).1.d1
    rw [← (hel i hi j hj).2.2, hc, hq]
    unfold Pure.val
    rw [Int.mul_ediv_cancel_left _ (by omega), Int.mul_assoc (el m i j).f1, Int.mul_ediv_cancel_left _ (by omega), Int.mul_assoc]
  have hrs : ∀ (n : Nat) (f : Nat → Int), rs n f * c = rs n (fun i => f i * c) := fun n f => by
    rw [Int.mul_comm, ← rs_mul]
    exact rs_congr fun i _ => Int.mul_comm _ _
  refine ⟨⟨h.len, h.sq, hA, by omega, fun r hr => ?_, fun j hj => ?_⟩, fun i hi => ?_⟩
  · obtain ⟨i, hi, rfl⟩ := mem_rd5 hr
    rw [h.len] at hi
    have hrl := h.sq _ hr
    refine hcan ?_
    rw [rs_list, show (rowV A (rd_L5 m (i : Int))).length = n by simp [rowV, hrl], hrs, ← hc, ← h.rows i hi]
    exact rs_congr fun j hj => by
      rw [rd_at, getD_get (by simpa [rowV, hrl] using hj), rowV_at (by rw [hrl]; exact hj)]
      exact hval i hi j hj
  · refine hcan ?_
    have e : colV A m j = rs n (fun i => Pure.val A (el m i j)) := by
      unfold colV rs
      congr 1
      apply List.ext_getElem
      · simp [h.len]
      · intro i h1 h2
        have hi : i < m.length := by simpa using h1
        simp [Pure.el, rd_L5, List.getD_eq_getElem?_getD, List.getElem?_eq_getElem hi]
    rw [e, hrs, ← hc, ← h.cols j hj]
    exact rs_congr fun i hi => hval i hi j hj
  · refine hcan ?_
    rw [hrs, Int.mul_assoc, ← hc]
    refine Eq.trans (rs_congr fun j hj => ?_) (h.val i hi)
    rw [← hval i hi j hj]
    ac_rfl
end Go.Proofs.Ytefmafbbnkkpjaa.Pure
namespace Go.Proofs.Ytefmafbbnkkpjaa.Pure
open Go Go.RowKit Go.Proofs.Ytefmafbbnkkpjaa.X Go.Proofs.YtefmafbbnkkpjaaW.PrintWords Go.Proofs.YtefmafbbnkkpjaaW.PrintLast Go.Proofs.YtefmafbbnkkpjaaW.PrintMore
set_option linter.unusedVariables false
set_option linter.unusedSimpArgs false

theorem rs_bd {B : Int} {f : Nat → Int} : ∀ n, (∀ i, i < n → 0 ≤ f i ∧ f i ≤ B) → 0 ≤ rs n f ∧ rs n f ≤ B * (n : Nat)
  | 0, _ => by simp [rs]
  | n + 1, h => by
    have ih := rs_bd n fun i hi => h i (by omega)
    have := h n (by omega)
    rw [rs_succ, show ((n + 1 : Nat) : Int) = (n : Int) + 1 by omega, Int.mul_add, Int.mul_one]
    omega
theorem chk_l1 {n : Nat} (hn : n ≤ 6) {d : Int} (hd : 0 ≤ d) (hd2 : d ≤ 10000000) {x y : List Int} (hx : Sh x) (hy : Sh y) (hxl : x.length = n) (hyl : y.length = n) (G : List (List Int)) (i : Nat) (hi : i < n) (row : List Int) (hrl : row.length = n) (hb : ∀ j : Nat, j < n → 0 ≤ rd row (j : Int) ∧ rd row (j : Int) ≤ d) :
    ∀ (c j k : Nat), j + c = n → shares_CheckMix.l1 (c + 1 + k) x y d (i : Int) (rs j fun q => rd row (q : Int) * rd x (q : Int)) G (G.length : Int) (i : Int) row (row.length : Int) (j : Int) =
      if rs n (fun q => rd row (q : Int) * rd x (q : Int)) = rd y (i : Int) * d then shares_CheckMix.l0 k x y d G (G.length : Int) ((i : Int) + 1) else some (false, 0) := by
  have hyb := rd_bd hy (i : Int)
  have hterm : ∀ q : Nat, q < n → 0 ≤ rd row (q : Int) * rd x (q : Int) ∧ rd row (q : Int) * rd x (q : Int) ≤ 200000000 := fun q hq => by
    have b1 := hb q hq
    have b2 := rd_bd hx (q : Int)
    have := Int.mul_le_mul (show rd row (q : Int) ≤ 10000000 by omega) b2.2 b2.1 (by omega)
    exact ⟨Int.mul_nonneg b1.1 b2.1, by omega⟩
  intro c
  induction c with
  | zero =>
    intro j k hj
    obtain rfl : j = n := by omega
    have hyd := Int.mul_le_mul hyb.2 hd2 hd (by omega)
    have hyd0 := Int.mul_nonneg hyb.1 hd
    rw [show 0 + 1 + k = k + 1 by omega, shares_CheckMix.l1, if_neg (by omega), if_pos (by omega), if_pos (by omega), w6 (i := rd y (i : Int) * d) (by omega) (by omega), w6 (i := (i : Int) + 1) (by omega) (by omega)]
  | succ c ih =>
    intro j k hj
    have hs := rs_bd (B := 200000000) j (fun q hq => hterm q (by omega))
    have ht := hterm j (by omega)
    rw [show c + 1 + 1 + k = (c + 1 + k) + 1 by omega, shares_CheckMix.l1, if_pos (by omega), if_pos (by omega), if_pos (by omega), if_pos (by omega), w6 (i := rd row (j : Int) * rd x (j : Int)) (by omega) (by omega), w6 (i := _ + _) (by omega) (by omega), w6 (i := (j : Int) + 1) (by omega) (by omega), show (j : Int) + 1 = ((j + 1 : Nat) : Int) by omega, ← rs_succ]
    exact ih (j + 1) k (by omega)
theorem chk_l0 {n : Nat} (hn : n ≤ 6) {d : Int} (hd : 0 ≤ d) (hd2 : d ≤ 10000000) {x y : List Int} (hx : Sh x) (hy : Sh y) (hxl : x.length = n) (hyl : y.length = n) (G : List (List Int)) (hG : G.length = n) (hrl : ∀ i : Nat, i < n → (rd_L1 G (i : Int)).length = n) (hb : ∀ i : Nat, i < n → ∀ j : Nat, j < n → 0 ≤ ei G i j ∧ ei G i j ≤ d) :
    ∀ (c i k : Nat), i + c = n → shares_CheckMix.l0 (c * 8 + 1 + k) x y d G (G.length : Int) (i : Int) = some (dc (∀ a : Nat, i ≤ a → a < n → rs n (fun q => ei G a q * rd x (q : Int)) = rd y (a : Int) * d), 0) := by
  intro c
  induction c with
  | zero =>
    intro i k hi
    rw [show 0 * 8 + 1 + k = k + 1 by omega, shares_CheckMix.l0, if_neg (by omega), dc_true (fun a h1 h2 => by omega)]
  | succ c ih =>
    intro i k hi
    have := chk_l1 hn hd hd2 hx hy hxl hyl G i (by omega) (rd_L1 G (i : Int)) (hrl i (by omega)) (fun j hj => hb i (by omega) j hj) n 0 (c * 8 + 1 + (6 - n + k)) (by omega)
    rw [show (c + 1) * 8 + 1 + k = (n + 1 + (c * 8 + 1 + (6 - n + k))) + 1 by omega, shares_CheckMix.l0, if_pos (by omega), if_pos (by omega), if_pos (by omega)]
    refine Eq.trans this ?_
    by_cases e : rs n (fun q => rd (rd_L1 G (i : Int)) (q : Int) * rd x (q : Int)) = rd y (i : Int) * d
    · rw [if_pos e, show (i : Int) + 1 = ((i + 1 : Nat) : Int) by omega, ih (i + 1) _ (by omega)]
      congr 2
      rw [dc_congr]
      constructor
      · intro h a h1 h2
        by_cases e2 : a = i
        · subst e2; exact e
        · exact h a (by omega) h2
      · intro h a h1 h2
        exact h a (by omega) h2
    · rw [if_neg e, dc_false fun h => e (h i (Nat.le_refl _) (by omega))]
/-- a matrix is a mixture that makes y out of x -/
def IsMix (x y : List Int) (m : List (List S62)) : Prop := ∃ D, Mx 10000000 x.length m D ∧ Makes x.length D m x y
theorem CheckMix_f (x y : List Int) (hx : x.length ≤ 15) (hy : y.length ≤ 15) (m : List (List S62)) (hl : m.length ≤ 9) (hr : ∀ r ∈ m, r.length ≤ 9) (hb : ∀ r ∈ m, ∀ f ∈ r, B64 f) (k : Nat) (hk : 2200000 + KG ≤ k) :
    shares_CheckMix.f k x y m = some (if dc (Two x y) = true then (dc (IsMix x y m), 0) else (false, 2)) := by
  unfold shares_CheckMix.f
  rw [are_two x y hx hy k (by omega), Option.bind_some]
  by_cases h2 : Two x y
  · obtain ⟨sx, sy, hxy⟩ := h2
    have h6 := sx.h6
    rw [dc_true ⟨sx, sy, hxy⟩, if_pos rfl, if_pos rfl]
    rcases common_f 10000000 (by decide) (by decide) m x.length hl hr hb k (by omega) with ⟨hml, hsq, e⟩ | ⟨hno, e⟩
    · rw [e, Option.bind_some, packM]
      by_cases h0 : mulP 10000000 true m.flatten 1 = 0
      · rw [if_pos h0]
        dsimp only
        rw [if_neg (by decide), dc_false fun ⟨D, hM, _⟩ => hM.ne (by rw [← hM.mul]; exact h0)]
      · rw [if_neg h0]
        dsimp only
        rw [if_pos rfl]
        obtain ⟨D, hD⟩ : ∃ D, mulP 10000000 true m.flatten 1 = D := ⟨_, rfl⟩
        rw [hD] at h0 ⊢
        obtain ⟨d1, d2, hT⟩ := mul_Th (by decide) hD h0
        rw [parts_f (by omega) d2 hl (fun r hrm => by rw [hsq r hrm, hml]) (fun r hrm f hf => (hT r hrm f hf).2) k (by omega), Option.bind_some]
        by_cases hrow : ∀ row ∈ m, (rowV D row).sum = D
        · rw [dc_true hrow, if_pos rfl]
          dsimp only
          by_cases hcol : ∀ j, j < m.length → colV D m j = D
          · rw [dc_true hcol, if_pos rfl]
            have hG : (m.map (rowV D)).length = x.length := by rw [List.length_map, hml]
            have hei : ∀ i : Nat, i < x.length → ∀ j : Nat, j < x.length → ei (m.map (rowV D)) i j = val D (el m i j) := fun i hi j hj => ei_rowV (by omega) (by rw [hsq _ (rdM_mem (by omega))]; exact hj)
            have hth : ∀ i : Nat, i < x.length → ∀ j : Nat, j < x.length → Th D (el m i j) := fun i hi j hj => (hT _ (rdM_mem (by omega)) _ (rd_mem (by rw [hsq _ (rdM_mem (by omega))]; exact hj))).2
            have hrl : ∀ i : Nat, i < x.length → (rd_L1 (m.map (rowV D)) (i : Int)).length = x.length := fun i hi => by
              have : rd_L1 (m.map (rowV D)) (i : Int) ∈ m.map (rowV D) := rdL_mem (by omega)
              obtain ⟨s, hs, e9⟩ := List.mem_map.mp this
              rw [← e9]
              simp [rowV, hsq s hs]
            have := chk_l0 h6 (by omega) d2 sx sy rfl hxy.symm (m.map (rowV D)) hG hrl (fun i hi j hj => by rw [hei i hi j hj]; exact (hth i hi j hj).bd (by omega)) x.length 0 (k - (x.length * 8 + 1)) (by omega)
            rw [show x.length * 8 + 1 + (k - (x.length * 8 + 1)) = k by omega] at this
            refine Eq.trans this ?_
            congr 2
            rw [dc_congr]
            constructor
            · intro h
              refine ⟨D, ⟨hml, hsq, hD, h0, hrow, fun j hj => hcol j (by omega)⟩, fun i hi => ?_⟩
              rw [← h i (Nat.zero_le _) hi]
              exact rs_congr fun j hj => by rw [hei i hi j hj]
            · rintro ⟨D', hM, hMk⟩ a _ ha
              obtain rfl : D' = D := by rw [← hM.mul, hD]
              rw [← hMk a ha]
              exact rs_congr fun j hj => by rw [hei a ha j hj]
          · rw [dc_false hcol, if_neg (by decide), dc_false]
            rintro ⟨D', hM, _⟩
            obtain rfl : D' = D := by rw [← hM.mul, hD]
            exact hcol fun j hj => hM.cols j (by omega)
        · rw [dc_false hrow]
          simp only [Bool.false_eq_true, if_false]
          rw [dc_false]
          rintro ⟨D', hM, _⟩
          obtain rfl : D' = D := by rw [← hM.mul, hD]
          exact hrow hM.rows
    · rw [e, Option.bind_some]
      dsimp only
      rw [if_neg (by decide), dc_false fun ⟨D, hM, _⟩ => hno ⟨hM.len, hM.sq⟩]
  · rw [dc_false h2, if_neg (by decide), if_neg (by decide)]
/-! ### the reference -/
theorem rm_l1 {n : Nat} (hn : n ≤ 6) {D : Int} (hd : 0 ≤ D) (hd2 : D ≤ 10000000) {x y : List Int} (hx : Sh x) (hy : Sh y) (hxl : x.length = n) (hyl : y.length = n) (m : List (List S62)) (i : Nat) (hi : i < n) (row : List S62) (hrl : row.length = n) (hT : ∀ f ∈ row, Th D f) (nn : Int) (hnn : nn = rd y (i : Int)) :
    ∀ (c j k : Nat), j + c = n → congouref01_Mixes.l1 (c + 1 + k) x m D nn (rs j fun q => val D (rd_T62 row (q : Int)) * rd x (q : Int)) y (n : Int) (i : Int) row (row.length : Int) (j : Int) =
      if rs n (fun q => val D (rd_T62 row (q : Int)) * rd x (q : Int)) = rd y (i : Int) * D then congouref01_Mixes.l0 k x m D y (n : Int) ((i : Int) + 1) else some false := by
  have hyb := rd_bd hy (i : Int)
  have hterm : ∀ q : Nat, q < n → 0 ≤ val D (rd_T62 row (q : Int)) * rd x (q : Int) ∧ val D (rd_T62 row (q : Int)) * rd x (q : Int) ≤ 200000000 := fun q hq => by
    have b1 := (hT _ (rd_mem (by rw [hrl]; exact hq))).bd hd
    have b2 := rd_bd hx (q : Int)
    have := Int.mul_le_mul (show val D (rd_T62 row (q : Int)) ≤ 10000000 by omega) b2.2 b2.1 (by omega)
    exact ⟨Int.mul_nonneg b1.1 b2.1, by omega⟩
  subst hnn
  intro c
  induction c with
  | zero =>
    intro j k hj
    obtain rfl : j = n := by omega
    have hyd := Int.mul_le_mul hyb.2 hd2 hd (by omega)
    have hyd0 := Int.mul_nonneg hyb.1 hd
    rw [show 0 + 1 + k = k + 1 by omega, congouref01_Mixes.l1, if_neg (by omega), w6 (i := rd y (i : Int) * D) (by omega) (by omega), w6 (i := (i : Int) + 1) (by omega) (by omega)]
  | succ c ih =>
    intro j k hj
    have hs := rs_bd (B := 200000000) j (fun q hq => hterm q (by omega))
    have ht := hterm j (by omega)
    obtain ⟨_, g2, g3⟩ := (hT _ (rd_mem (c := j) (by rw [hrl]; omega))).go hd (by omega)
    rw [show c + 1 + 1 + k = (c + 1 + k) + 1 by omega, congouref01_Mixes.l1, if_pos (by omega), if_pos (by omega), if_pos (by omega), if_neg g3, if_pos (by omega), g2, w6 (i := val D (rd_T62 row (j : Int)) * rd x (j : Int)) (by omega) (by omega), w6 (i := _ + _) (by omega) (by omega), w6 (i := (j : Int) + 1) (by omega) (by omega), show (j : Int) + 1 = ((j + 1 : Nat) : Int) by omega, ← rs_succ]
    exact ih (j + 1) k (by omega)
theorem rm_l0 {n : Nat} (hn : n ≤ 6) {D : Int} (hd : 0 ≤ D) (hd2 : D ≤ 10000000) {x y : List Int} (hx : Sh x) (hy : Sh y) (hxl : x.length = n) (hyl : y.length = n) (m : List (List S62)) (hm : m.length = n) (hsq : ∀ r ∈ m, r.length = n) (hT : ∀ r ∈ m, ∀ f ∈ r, Th D f) :
    ∀ (c i k : Nat), i + c = n → congouref01_Mixes.l0 (c * 8 + 1 + k) x m D y (n : Int) (i : Int) = some (dc (∀ a : Nat, i ≤ a → a < n → rs n (fun q => val D (el m a q) * rd x (q : Int)) = rd y (a : Int) * D)) := by
  intro c
  induction c with
  | zero =>
    intro i k hi
    rw [show 0 * 8 + 1 + k = k + 1 by omega, congouref01_Mixes.l0, if_neg (by omega), dc_true (fun a h1 h2 => by omega)]
  | succ c ih =>
    intro i k hi
    have hmem := rdM_mem (show i < m.length by omega)
    have := rm_l1 hn hd hd2 hx hy hxl hyl m i (by omega) (rd_L5 m (i : Int)) (hsq _ hmem) (hT _ hmem) _ rfl n 0 (c * 8 + 1 + (6 - n + k)) (by omega)
    rw [show (c + 1) * 8 + 1 + k = (n + 1 + (c * 8 + 1 + (6 - n + k))) + 1 by omega, congouref01_Mixes.l0, if_pos (by omega), if_pos (by omega), if_pos (by omega), if_pos (by omega)]
    refine Eq.trans this ?_
    by_cases e : rs n (fun q => val D (rd_T62 (rd_L5 m (i : Int)) (q : Int)) * rd x (q : Int)) = rd y (i : Int) * D
    · rw [if_pos e, show (i : Int) + 1 = ((i + 1 : Nat) : Int) by omega, ih (i + 1) _ (by omega)]
      congr 1
      rw [dc_congr]
      constructor
      · intro h a h1 h2
        by_cases e2 : a = i
        · subst e2; exact e
        · exact h a (by omega) h2
      · intro h a h1 h2
        exact h a (by omega) h2
    · rw [if_neg e, dc_false fun h => e (h i (Nat.le_refl _) (by omega))]
/-- the reference's Mixes -/
theorem Mixes_f {x y : List Int} (h2 : Two x y) (m : List (List S62)) (hml : m.length ≤ 9000000000000000000) (hs : m.flatten.length < 8796093022208) (hb : ∀ r ∈ m, ∀ f ∈ r, B64 f) (k : Nat) (hk : m.length + m.flatten.length * 2 + 1000 + KG ≤ k) :
    congouref01_Mixes.f k x y m = some (dc (IsMix x y m)) := by
  obtain ⟨sx, sy, hxy⟩ := h2
  have h6 := sx.h6
  unfold congouref01_Mixes.f
  obtain ⟨R, eR, r1, r2⟩ := Mixture_f 10000000 (by decide) (by decide) m x.length (by omega) hml hs hb k hk
  rw [eR, Option.bind_some]
  by_cases h0 : R = 0
  · rw [if_pos h0, dc_false fun ⟨D, hM, _⟩ => hM.ne (by rw [← r2 D hM]; exact h0)]
  · rw [if_neg h0]
    have hM := r1 h0
    obtain ⟨d1, d2, hT⟩ := mul_Th (by decide) hM.mul hM.ne
    have := rm_l0 h6 (by omega) d2 sx sy rfl hxy.symm m hM.len hM.sq (fun r hr f hf => (hT r hr f hf).2) x.length 0 (k - (x.length * 8 + 1)) (by omega)
    rw [show x.length * 8 + 1 + (k - (x.length * 8 + 1)) = k by omega] at this
    rw [← hxy]
    refine Eq.trans this ?_
    congr 1
    rw [dc_congr]
    constructor
    · intro h
      exact ⟨R, hM, fun i hi => h i (Nat.zero_le _) hi⟩
    · rintro ⟨D', hM', hMk⟩ a _ ha
      obtain rfl : R = D' := r2 D' hM'
      exact hMk a ha
end Go.Proofs.Ytefmafbbnkkpjaa.Pure
