/- What the laws' sum of a fraction and a product tells, where the numbers are small. -/
import Derived.Test.YtpnocmkpeogifaaDoorSCa
import Derived.Test.YtpnocmkpeogifaaDoorXf10
namespace Go.Proofs.YtpnocmkpeogifaaDoor.Pure
open Go.RowKit Go.Proofs.YtpnocmkpeogifaaDoor.X Go.Proofs.YtpnocmkpeogifaaDoorW.PrintWords Go.Proofs.YtpnocmkpeogifaaDoorW.PrintLast
set_option linter.unusedVariables false
set_option linter.unusedSimpArgs false

theorem product_f {x y : Int} (hx : x.natAbs ≤ 4611686018427387904) (hy : y.natAbs ≤ 4611686018427387904) (h : (x * y).natAbs ≤ 4611686018427387904) : congoulaw04_product.f x y = some (x * y, true) := by
 unfold congoulaw04_product.f
 rw [if_neg (by omega), if_neg (by omega), if_neg (by omega), if_neg (by omega), w64a h (by omega)]
 by_cases h0 : x = 0
 ·rw [if_pos h0]
 ·have q0 : (0 : Int) < (x.natAbs : Int) := by omega
  have b := ediv_small (a := 4611686018427387904) (b := (x.natAbs : Int)) (M := 4611686018427387904) q0 (by omega) (by omega) (by omega)
  rw [if_neg h0, w64 (i := -x) (by omega) (by omega), w64 (i := -y) (by omega) (by omega), mx_abs, mx_abs, if_neg (by omega), w64 (by omega) (by omega), if_neg]
  have : (y.natAbs : Int) ≤ 4611686018427387904 / (x.natAbs : Int) := by
   rw [Int.le_ediv_iff_mul_le q0]
   rw [Int.natAbs_mul] at h
   have : ((y.natAbs : Int) * (x.natAbs : Int)) = ((x.natAbs * y.natAbs : Nat) : Int) := by rw [Int.natCast_mul, Int.mul_comm]
   omega
  omega
theorem more_l0 {sn sd pn pd : Int} {R : Int × Int × Bool} {g : Int} (next : ∀ k, KG ≤ k → congoulaw04_more.l0 (k + 1) g 0 sn sd pn pd = some R) : ∀ (n k : Nat) (a b : Int), b.natAbs ≤ n → n + KG < k → 0 ≤ a → 0 ≤ b → g = (Int.gcd a b : Int) →
  congoulaw04_more.l0 k a b sn sd pn pd = some R := by
 intro n
 induction n with
 | zero =>
  intro k a b hb hk h1 h2 hg
  obtain ⟨k, rfl⟩ : ∃ m, k = m + 1 := ⟨k - 1, by omega⟩
  obtain rfl : b = 0 := by omega
  have e : g = a := by
   rw [hg, Int.gcd_zero_right]
   omega
  rw [← e]
  exact next k (by omega)
 | succ n ih =>
  intro k a b hb hk h1 h2 hg
  obtain ⟨k, rfl⟩ : ∃ m, k = m + 1 := ⟨k - 1, by omega⟩
  by_cases h0 : b = 0
  ·subst h0
   have e : g = a := by
    rw [hg, Int.gcd_zero_right]
    omega
   rw [← e]
   exact next k (by omega)
  ·have hlt : (Int.tmod a b).natAbs < b.natAbs := by rw [Int.natAbs_tmod]; exact Nat.mod_lt _ (by omega)
   rw [congoulaw04_more.l0, if_neg h0]
   exact ih k b _ (by omega) (by omega) h2 (Int.tmod_nonneg _ h1) (by rw [hg, gcd_step])
/-- rounds enough for a sum of the laws -/
structure Rl (k : Nat) : Prop where
 a : 4611686018427389000 + KG ≤ k
 b : 5000 ≤ k
theorem rl_any : Rl 27670116110564327422 := ⟨by decide, by decide⟩
theorem Rl.rk {k : Nat} (h : Rl k) : Rk k := ⟨Nat.le_trans (by decide) h.a, h.b⟩
theorem Rl.g {k : Nat} (h : Rl k) : KG ≤ k := Nat.le_trans (by decide) h.a
theorem more_f {k : Nat} (hk : 4611686018427387910 + KG ≤ k) {s a b : Rat} {D A B : Nat} (hD : 0 < D) (hs : Sm D A s) (hp : Sm D B (a * b)) (hn : (a.num * b.num).natAbs ≤ 4611686018427387904) (hd : a.den * b.den ≤ 4611686018427387904)
  (ha : a.num.natAbs ≤ 4611686018427387904) (hb : b.num.natAbs ≤ 4611686018427387904) (ha' : a.den ≤ 4611686018427387904) (hb' : b.den ≤ 4611686018427387904)
  (hA : A * D ≤ 2305843009213693952) (hB : B * D ≤ 2305843009213693952) (hDM : D ≤ 2305843009213693952) :
  congoulaw04_more.f k s.num s.den a.num a.den b.num b.den = some ((s + a * b).num, ((s + a * b).den : Int), true) := by
 have p1 := den_pos a
 have p2 := den_pos b
 have p3 := den_pos s
 have p4 := den_pos (a * b)
 have d1 := hs.den hD
 have d2 := hp.den hD
 have hk0 : KG ≤ k := Nat.le_trans (by decide) hk
 have hd2 : ((a.den : Int) * b.den).natAbs ≤ 4611686018427387904 := by rw [Int.natAbs_mul]; exact hd
 have hpos : 0 < (a.den : Int) * b.den := Int.mul_pos p1 p2
 unfold congoulaw04_more.f
 rw [product_f ha hb hn, Option.bind_some, product_f (by omega) (by omega) hd2, Option.bind_some, if_neg (by omega), if_neg (by omega), if_neg (by omega), if_pos rfl]
 obtain ⟨k, rfl⟩ : ∃ m, k = m + 1 := ⟨k - 1, by omega⟩
 have e : Rat.divInt (a.num * b.num) ((a.den : Int) * b.den) = a * b := by rw [← Rat.divInt_mul_divInt, Rat.num_divInt_den, Rat.num_divInt_den]
 have hk2 : 4611686018427387909 + KG ≤ k := by omega
 have hk1 : KG ≤ k := Nat.le_trans (by decide) hk2
 rw [congoulaw04_more.j0, if_neg (by simp), frac_f hk1 (by omega) (by omega) hpos (by omega), e, Option.bind_some]
 unfold cn
 dsimp only
 obtain ⟨g, hg, hgd, e1, e2, l1, l2, l3, n1, n2, e3⟩ := plus_core hD hs hp
 refine more_l0 (g := g) (fun q hq => ?_) (a * b).den k s.den (a * b).den (by omega) (by omega) (by omega) (by omega) hgd
 have t2 : Int.tdiv s.den g = (s.den : Int) / g := by rw [hgd]; exact tdiv_gcd_l _ _ p4
 have u1 : Int.tdiv ((s.den : Int) / g * (a * b).den) s.den = ((a * b).den : Int) / g := by rw [l3]; exact Int.mul_tdiv_cancel_left _ (by omega)
 have u2 : Int.tdiv ((s.den : Int) / g * (a * b).den) (a * b).den = (s.den : Int) / g := Int.mul_tdiv_cancel _ (by omega)
 have sA := ediv_small (a := (s.den : Int)) (b := g) (M := 4611686018427387904) hg (by omega) (by omega) (by omega)
 have sB := ediv_small (a := ((a * b).den : Int)) (b := g) (M := 4611686018427387904) hg (by omega) (by omega) (by omega)
 have ns := hs.num hD
 have np := hp.num hD
 rw [congoulaw04_more.l0, if_pos rfl, if_neg (by omega), t2, w64 (i := (s.den : Int) / g) (by omega) (by omega), product_f (by omega) (by omega) (by omega), Option.bind_some, if_pos rfl, if_neg (by omega)]
 dsimp only
 rw [u1, w64 (i := ((a * b).den : Int) / g) (by omega) (by omega), product_f (by omega) (by omega) (by omega), Option.bind_some, if_neg (by omega), u2, w64 (i := (s.den : Int) / g) (by omega) (by omega), product_f (by omega) (by omega) (by omega), Option.bind_some, if_pos rfl, if_pos rfl]
 dsimp only
 rw [w64 (i := -(s.num * _)) (by omega) (by omega), w64 (i := -((a * b).num * _)) (by omega) (by omega), if_neg (by unfold mx; (repeat' split) <;> omega), w64 (i := _ + _) (by omega) (by omega), frac_f hq (by omega) (by omega) l1 (by omega), e3, Option.bind_some, cn]
end Go.Proofs.YtpnocmkpeogifaaDoor.Pure
