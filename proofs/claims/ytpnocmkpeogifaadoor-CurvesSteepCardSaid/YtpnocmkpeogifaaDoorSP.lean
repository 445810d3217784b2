/- The program's basic curves and values over the rational numbers. -/
import Derived.Test.YtpnocmkpeogifaaDoorSPa
import Derived.Test.YtpnocmkpeogifaaDoorSA
import Derived.Test.YtpnocmkpeogifaaDoorSB
import Derived.Test.YtpnocmkpeogifaaDoorXf33
import Derived.Test.YtpnocmkpeogifaaDoorXf19
import Derived.Test.YtpnocmkpeogifaaDoorXf14
import Derived.Test.YtpnocmkpeogifaaDoorXf7
namespace Go.Proofs.YtpnocmkpeogifaaDoor.Pure
open Go.RowKit Go.Proofs.YtpnocmkpeogifaaDoor.X Go.Proofs.YtpnocmkpeogifaaDoorW.PrintWords Go.Proofs.YtpnocmkpeogifaaDoorW.PrintLast
set_option linter.unusedVariables false
set_option linter.unusedSimpArgs false
/-- a point of a curve's span, and its piece -/
structure PcI (d : Nat) (K P : List Int) (x y : Int) (p : Nat) : Prop where
  pn : p < P.length
  dp : d ≤ p
  lt : kn K p < kn K (p + 1)
  lo : kn K p * y ≤ x
  hi : x ≤ kn K (p + 1) * y
  top : x = kn K (p + 1) * y → x = kn K P.length * y
  mx : ∀ j, p < j → j < P.length → kn K j < kn K (j + 1) → x < kn K j * y
/-- where knots rise, there is a first step up -/
theorem kn_rise {K : List Int} (h : ∀ i, kn K i ≤ kn K (i + 1)) : ∀ n i, kn K i < kn K (i + n) → ∃ j, i ≤ j ∧ j < i + n ∧ kn K j = kn K i ∧ kn K j < kn K (j + 1) := by
  intro n
  induction n with
  | zero => intro i hi; rw [Nat.add_zero] at hi; omega
  | succ n ih =>
    intro i hi
    by_cases e : kn K i < kn K (i + 1)
    · exact ⟨i, Nat.le_refl _, by omega, rfl, e⟩
    · have e2 : kn K (i + 1) = kn K i := by have := h i; omega
      obtain ⟨j, h1, h2, h3, h4⟩ := ih (i + 1) (by rw [e2, show i + 1 + n = i + (n + 1) by omega]; exact hi)
      exact ⟨j, by omega, by omega, by omega, h4⟩
theorem mul_le_y {a b y : Int} (h : a ≤ b) (hy : 1 ≤ y) : a * y ≤ b * y := Int.mul_le_mul_of_nonneg_right h (by omega)
theorem mul_lt_y {a b y : Int} (h : a < b) (hy : 1 ≤ y) : a * y < b * y := Int.mul_lt_mul_of_pos_right h (by omega)
theorem lt_of_mul_y {a b y : Int} (h : a * y < b * y) (hy : 1 ≤ y) : a < b := Classical.byContradiction fun hn => by have := mul_le_y (show b ≤ a by omega) hy; omega
theorem piece_l0 {d : Nat} {K P : List Int} {x y : Int} (hv : VP d K P) (hy : 1 ≤ y) (hy2 : y ≤ 12) : ∀ n k i (c : Nat), i + n = P.length → n < k →
    ∃ p : Nat, curves_Curve_piece.l0 k c P.length i d K P x y = some (p : Int) ∧
      ((p = c ∧ ∀ j, i ≤ j → j < P.length → ¬ (kn K j < kn K (j + 1) ∧ kn K j * y ≤ x)) ∨
       (i ≤ p ∧ p < P.length ∧ (kn K p < kn K (p + 1) ∧ kn K p * y ≤ x) ∧ ∀ j, p < j → j < P.length → ¬ (kn K j < kn K (j + 1) ∧ kn K j * y ≤ x))) := by
  intro n
  have hK := hv.hK
  have h8 := hv.h8
  induction n with
  | zero =>
    intro k i c hi hk
    obtain ⟨k, rfl⟩ : ∃ m, k = m + 1 := ⟨k - 1, by omega⟩
    exact ⟨c, by rw [curves_Curve_piece.l0, if_neg (by omega)], Or.inl ⟨rfl, fun j h1 h2 => by omega⟩⟩
  | succ n ih =>
    intro k i c hi hk
    obtain ⟨k, rfl⟩ : ∃ m, k = m + 1 := ⟨k - 1, by omega⟩
    have b1 := kn_le_mul (hv.h0 i) hy hy2
    rw [curves_Curve_piece.l0, if_pos (by omega), if_pos (by omega), if_pos (by omega), w64 (by omega) (by omega), if_pos (by omega), if_pos (by omega),
      show ((i : Int) + 1) = ((i + 1 : Nat) : Int) by omega, rd_kn (show i < K.length by omega), rd_kn (show i + 1 < K.length by omega)]
    unfold curves_ratio_below.f
    rw [Option.bind_some, w64 (by omega) (by omega)]
    have no : ¬ (kn K i < kn K (i + 1) ∧ kn K i * y ≤ x) → ∃ p : Nat, curves_Curve_piece.l0 k c P.length ((i + 1 : Nat) : Int) d K P x y = some (p : Int) ∧
      ((p = c ∧ ∀ j, i ≤ j → j < P.length → ¬ (kn K j < kn K (j + 1) ∧ kn K j * y ≤ x)) ∨
       (i ≤ p ∧ p < P.length ∧ (kn K p < kn K (p + 1) ∧ kn K p * y ≤ x) ∧ ∀ j, p < j → j < P.length → ¬ (kn K j < kn K (j + 1) ∧ kn K j * y ≤ x))) := by
      intro hno
      obtain ⟨p, e, h⟩ := ih k (i + 1) c (by omega) (by omega)
      refine ⟨p, e, ?_⟩
      rcases h with ⟨h1, h2⟩ | ⟨h1, h2, h3, h4⟩
      · refine Or.inl ⟨h1, fun j hj hj2 => ?_⟩
        by_cases e : j = i
        · subst e; exact hno
        · exact h2 j (by omega) hj2
      · exact Or.inr ⟨by omega, h2, h3, h4⟩
    by_cases h1 : kn K i < kn K (i + 1)
    · rw [if_pos h1]
      by_cases h2 : x < kn K i * y
      · rw [decide_eq_true h2, if_pos rfl]
        exact no (fun h => by omega)
      · rw [decide_eq_false h2, if_neg (by decide)]
        obtain ⟨p, e, h⟩ := ih k (i + 1) i (by omega) (by omega)
        refine ⟨p, e, ?_⟩
        rcases h with ⟨h3, h4⟩ | ⟨h3, h4, h5, h6⟩
        · subst h3
          exact Or.inr ⟨by omega, by omega, ⟨h1, by omega⟩, fun j hj hj2 => h4 j (by omega) hj2⟩
        · exact Or.inr ⟨by omega, h4, h5, h6⟩
    · rw [if_neg h1]
      exact no (fun h => h1 h.1)
theorem piece_f {k : Nat} {d : Nat} {K P : List Int} {x y : Int} (hk : 10 ≤ k) (hv : VP d K P) (hi : IP d K P x y) :
    ∃ p : Nat, curves_Curve_piece.f k d K P x y = some (p : Int) ∧ PcI d K P x y p := by
  have h8 := hv.h8
  have hn := hv.hn
  have y1 := hi.y1
  have le := kn_le hv.mono
  obtain ⟨p, e, h⟩ := piece_l0 (x := x) hv y1 hi.y12 P.length k 0 0 (by omega) (by omega)
  refine ⟨p, e, ?_⟩
  obtain ⟨j, j1, j2, j3, j4⟩ := kn_rise hv.mono (P.length - d) d (by rw [show d + (P.length - d) = P.length by omega]; exact hv.span)
  have hlo := hi.lo
  have hj5 : kn K j * y ≤ x := by rw [j3]; exact hlo
  rcases h with ⟨h1, h2⟩ | ⟨h1, h2, h3, h4⟩
  · exact absurd ⟨j4, hj5⟩ (h2 j (by omega) (by omega))
  have dp : d ≤ p := by
    apply Classical.byContradiction
    intro hc
    exact h4 j (by omega) (by omega) ⟨j4, hj5⟩
  have next : kn K (p + 1) * y ≤ x → ¬ kn K (p + 1) < kn K P.length := by
    intro g1 g2
    have hpn : p + 1 < P.length := by
      apply Classical.byContradiction
      intro hc
      have : p + 1 = P.length := by omega
      rw [this] at g2
      omega
    obtain ⟨q, q1, q2, q3, q4⟩ := kn_rise hv.mono (P.length - (p + 1)) (p + 1) (by rw [show p + 1 + (P.length - (p + 1)) = P.length by omega]; exact g2)
    exact h4 q (by omega) (by omega) ⟨q4, by rw [q3]; exact g1⟩
  have hhi := hi.hi
  refine ⟨h2, dp, h3.1, h3.2, ?_, ?_, ?_⟩
  · apply Classical.byContradiction
    intro hc
    refine next (by omega) (lt_of_mul_y (y := y) (by omega) y1)
  · intro ex
    have := next (by omega)
    have h5 := le (p + 1) P.length (by omega)
    have h6 : kn K (p + 1) = kn K P.length := by omega
    rw [← h6]
    exact ex
  · intro j hj1 hj2 hj3
    have := h4 j hj1 hj2
    apply Classical.byContradiction
    intro hc
    exact this ⟨hj3, by omega⟩
theorem PcI.pc {d : Nat} {K P : List Int} {t : Rat} {p : Nat} (hv : VP d K P) (h : PcI d K P t.num t.den p) : Pc (kn K) p t := by
  have l := h.lo
  have u := h.hi
  refine ⟨kn_le hv.mono, h.lt, ?_, ?_, hv.h0⟩
  · rw [Rat.le_iff, Rat.num_intCast, Rat.den_intCast]
    simpa using l
  · rw [Rat.le_iff, Rat.num_intCast, Rat.den_intCast]
    simpa using u
/-- the piece told as the reference tells it -/
theorem PcI.iff_in {d : Nat} {K P : List Int} {x y : Int} {p : Nat} (hv : VP d K P) (hi : IP d K P x y) (h : PcI d K P x y p) (hx : x ≠ kn K P.length * y) (i : Nat) :
    (kn K i * y ≤ x ∧ x < kn K (i + 1) * y) ↔ i = p := by
  have y1 := hi.y1
  have le := kn_le hv.mono
  constructor
  · intro ⟨h1, h2⟩
    have h3 : kn K i < kn K (i + 1) := lt_of_mul_y (y := y) (by omega) y1
    have hhi := hi.hi
    have h4 : i < P.length := by
      apply Classical.byContradiction
      intro hc
      have := mul_le_y (le P.length i (by omega)) y1
      omega
    have h5 : i ≤ p := by
      apply Classical.byContradiction
      intro hc
      have := h.mx i (by omega) h4 h3
      omega
    apply Classical.byContradiction
    intro hc
    have := mul_le_y (le (i + 1) p (by omega)) y1
    have := h.lo
    omega
  · rintro rfl
    refine ⟨h.lo, ?_⟩
    have := h.hi
    have := h.top
    apply Classical.byContradiction
    intro hc
    exact hx (h.top (by omega))
theorem PcI.last {d : Nat} {K P : List Int} {x y : Int} {p : Nat} (hv : VP d K P) (hi : IP d K P x y) (h : PcI d K P x y p) (hx : x = kn K P.length * y) (j : Nat) (h1 : p < j) (h2 : j < P.length) : kn K j = kn K (j + 1) := by
  have := hv.mono j
  apply Classical.byContradiction
  intro hc
  have h3 := h.mx j h1 h2 (by omega)
  have h4 := mul_le_y (kn_le hv.mono j P.length (by omega)) hi.y1
  omega
end Go.Proofs.YtpnocmkpeogifaaDoor.Pure
namespace Go.Proofs.YtpnocmkpeogifaaDoor.Pure
open Go.RowKit Go.Proofs.YtpnocmkpeogifaaDoor.X Go.Proofs.YtpnocmkpeogifaaDoorW.PrintWords Go.Proofs.YtpnocmkpeogifaaDoorW.PrintLast
set_option linter.unusedVariables false
set_option linter.unusedSimpArgs false

/-- a valid curve, a point of its span, and the piece -/
structure Bs (d : Nat) (K P : List Int) (t : Rat) (p : Nat) : Prop where
  v : VP d K P
  i : IP d K P t.num t.den
  c : PcI d K P t.num t.den p
theorem Bs.pc {d : Nat} {K P : List Int} {t : Rat} {p : Nat} (h : Bs d K P t p) : Pc (kn K) p t := h.c.pc h.v
/-- what the denominators of the curves of a degree divide -/
def DB (K : List Int) (t : Rat) (p e : Nat) : Nat := Dn t.den (kn K (p + 1) - kn K p).toNat e
theorem Bs.pos {d : Nat} {K P : List Int} {t : Rat} {p : Nat} (h : Bs d K P t p) (e : Nat) : 0 < DB K t p e := by
  have := h.c.lt
  exact dn_pos t.den_pos (by omega) e
theorem Bs.le {d : Nat} {K P : List Int} {t : Rat} {p : Nat} (h : Bs d K P t p) (e : Nat) (he : e ≤ 3) : DB K t p e ≤ 15934165401600 := by
  have h1 := h.v.h0 p
  have h2 := h.v.h0 (p + 1)
  have := h.i.y12
  exact dn_le (by omega) (by omega) e he
theorem Bs.le2 {d : Nat} {K P : List Int} {t : Rat} {p : Nat} (h : Bs d K P t p) (e : Nat) (he : e ≤ 2) : DB K t p e ≤ 47900160 := by
  have h1 := h.v.h0 p
  have h2 := h.v.h0 (p + 1)
  have := h.i.y12
  exact dn_le2 (by omega) (by omega) e he
theorem Bs.sm {d : Nat} {K P : List Int} {t : Rat} {p : Nat} (h : Bs d K P t p) (e i : Nat) (he : e ≤ d) : Sm (DB K t p e) 1 (Nb (kn K) p t e i) := nb_sm h.pc e i (Nat.le_trans he h.c.dp)
theorem Bs.sm1 {d : Nat} {K P : List Int} {t : Rat} {p : Nat} (h : Bs d K P t p) (e i : Nat) (he : e + 1 ≤ d) : Sm (DB K t p (e + 1)) 1 ((t - kn K i) / ((kn K (i + e + 1) - kn K i : Int) : Rat) * Nb (kn K) p t e i) ∧
    Sm (DB K t p (e + 1)) 1 ((kn K (i + e + 2) - t) / ((kn K (i + e + 2) - kn K (i + 1) : Int) : Rat) * Nb (kn K) p t e (i + 1)) := nb_sm1 h.pc e i (Nat.le_trans he h.c.dp)
/-- a point less a knot, by a width -/
theorem coef {t : Rat} {z w : Int} (hw : 0 < w) : Rat.divInt (t.num - z * t.den) (t.den * w) = (t - z) / (w : Rat) := by
  have h1 := nat_ne t.den_pos
  have h2 : (w : Rat) ≠ 0 := by
    have := Rat.intCast_pos.mpr hw
    intro e
    rw [e] at this
    exact Rat.lt_irrefl this
  rw [Rat.divInt_eq_div, Rat.intCast_sub, Rat.intCast_mul, Rat.intCast_mul, ← mul_den t, natc]
  grind
theorem coef' {t : Rat} {z w : Int} (hw : 0 < w) : Rat.divInt (z * t.den - t.num) (t.den * w) = (z - t) / (w : Rat) := by
  have h1 := nat_ne t.den_pos
  have h2 : (w : Rat) ≠ 0 := by
    have := Rat.intCast_pos.mpr hw
    intro e
    rw [e] at this
    exact Rat.lt_irrefl this
  rw [Rat.divInt_eq_div, Rat.intCast_sub, Rat.intCast_mul, Rat.intCast_mul, ← mul_den t, natc]
  grind
theorem coef_abs {t : Rat} {z w : Int} (hw : 0 < w) (hw2 : w ≤ 12) (hz : 0 ≤ z ∧ z ≤ 12) (h1 : 1 ≤ (t.den : Int)) (h2 : (t.den : Int) ≤ 12) (h3 : 0 ≤ t.num) (h4 : t.num ≤ 144) :
    ((t - z) / (w : Rat)).num.natAbs ≤ 144 ∧ ((t - z) / (w : Rat)).den ≤ 144 ∧ ((z - t) / (w : Rat)).num.natAbs ≤ 144 ∧ ((z - t) / (w : Rat)).den ≤ 144 := by
  have b := kn_le_mul (y := (t.den : Int)) hz h1 h2
  have m : 0 < (t.den : Int) * w := Int.mul_pos (by omega) hw
  have m2 : (t.den : Int) * w ≤ 144 := by
    calc (t.den : Int) * w ≤ 12 * 12 := Int.mul_le_mul h2 hw2 (by omega) (by omega)
      _ = 144 := rfl
  have a1 := num_abs (t.num - z * t.den) _ m
  have a2 := num_abs (z * t.den - t.num) _ m
  rw [coef hw] at a1
  rw [coef' hw] at a2
  omega
theorem coef1 {t : Rat} {z w : Int} (hw : 0 < w) : (t - z) * Rat.divInt 1 w = (t - z) / (w : Rat) ∧ (z - t) * Rat.divInt 1 w = (z - t) / (w : Rat) := by
  have h2 : (w : Rat) ≠ 0 := by
    have := Rat.intCast_pos.mpr hw
    intro e
    rw [e] at this
    exact Rat.lt_irrefl this
  have h3 : Rat.divInt 1 w = 1 / (w : Rat) := by rw [Rat.divInt_eq_div]; rfl
  rw [h3]
  constructor <;> grind
theorem whole_abs {t : Rat} {z : Int} (hz : 0 ≤ z ∧ z ≤ 12) (h1 : 1 ≤ (t.den : Int)) (h2 : (t.den : Int) ≤ 12) (h3 : 0 ≤ t.num) (h4 : t.num ≤ 144) :
    (t - z).num.natAbs ≤ 144 ∧ (t - z).den ≤ 12 ∧ (z - t).num.natAbs ≤ 144 ∧ (z - t).den ≤ 12 := by
  have b := kn_le_mul (y := (t.den : Int)) hz h1 h2
  have a1 := num_abs (t.num - z * t.den) t.den (by omega)
  have a2 := num_abs (z * t.den - t.num) t.den (by omega)
  have e1 : Rat.divInt (t.num - z * t.den) t.den = t - z := by
    have := coef (t := t) (z := z) (w := 1) (by omega)
    rw [Int.mul_one] at this
    rw [this]
    have : ((1 : Int) : Rat) = 1 := rfl
    rw [this]
    grind
  have e2 : Rat.divInt (z * t.den - t.num) t.den = z - t := by
    have := coef' (t := t) (z := z) (w := 1) (by omega)
    rw [Int.mul_one] at this
    rw [this]
    have : ((1 : Int) : Rat) = 1 := rfl
    rw [this]
    grind
  rw [e1] at a1
  rw [e2] at a2
  omega
theorem inv_abs {w : Int} (hw : 0 < w) (hw2 : w ≤ 12) : (Rat.divInt 1 w).num.natAbs ≤ 1 ∧ (Rat.divInt 1 w).den ≤ 12 := by
  have := num_abs 1 w hw
  omega
def bl (K : List Int) (p : Nat) (t : Rat) (e m : Nat) : List S49 := (List.range m).map (fun i => s76 (Nb (kn K) p t e i))
theorem bl_len (K : List Int) (p : Nat) (t : Rat) (e m : Nat) : (bl K p t e m).length = m := by simp [bl]
theorem bl_succ (K : List Int) (p : Nat) (t : Rat) (e m : Nat) : bl K p t e (m + 1) = bl K p t e m ++ [s76 (Nb (kn K) p t e m)] := by simp [bl, List.range_succ]
theorem bl_rd {K : List Int} {p : Nat} {t : Rat} {e m i : Nat} (h : i < m) : rd_T49 (bl K p t e m) (i : Int) = s76 (Nb (kn K) p t e i) := by
  simp [rd_T49, bl, List.getD_eq_getElem?_getD, List.getElem?_map, List.getElem?_range h]
theorem bl_get {K : List Int} {p : Nat} {t : Rat} {e m i : Nat} (h : i < (bl K p t e m).length) : (bl K p t e m)[i] = s76 (Nb (kn K) p t e i) := by simp [bl]
theorem cn_zero : cn 0 = (0, 1) := rfl
theorem zero_nd : (0 : Rat).num = 0 ∧ ((0 : Rat).den : Int) = 1 := ⟨rfl, rfl⟩
theorem basic0_f {k : Nat} (hk : KG + 1 ≤ k) {d : Nat} {K P : List Int} {t : Rat} {p : Nat} (h : Bs d K P t p) (hp : curves_Curve_piece.f (k - 1) d K P t.num t.den = some (p : Int)) :
    curves_Curve_basic.f k d K P 0 t.num t.den = some (bl K p t 0 (K.length - 1)) := by
  obtain ⟨k, rfl⟩ : ∃ m, k = m + 1 := ⟨k - 1, by unfold KG at hk; omega⟩
  have hK := h.v.hK
  have h8 := h.v.h8
  have hn := h.v.hn
  have hd := h.v.hd
  have pn := h.c.pn
  rw [Nat.add_sub_cancel] at hp
  rw [curves_Curve_basic.f, if_pos rfl, of_one (by omega) (by omega) (by omega), Option.bind_some, w64 (by omega) (by omega), xRepeat.f, if_pos ⟨rfl, by omega, by omega⟩, Option.bind_some, hp, Option.bind_some,
    of_one (by omega) (by omega) (by omega), Option.bind_some, if_pos (by omega), if_pos (by rw [List.length_replicate]; omega)]
  refine congrArg some (List.ext_getElem ?_ ?_)
  · rw [List.length_set, List.length_replicate, bl_len]
    omega
  · intro i h1 h2
    rw [bl_len] at h2
    rw [List.getElem_set, List.getElem_replicate]
    rw [bl_get]
    by_cases e : p = i
    · subst e
      rw [if_pos (by omega), Nb, if_pos rfl]
      rfl
    · rw [if_neg (by omega), Nb, if_neg (by omega)]
      rfl
theorem basic_l0 {d : Nat} {K P : List Int} {t : Rat} {p e : Nat} (h : Bs d K P t p) (he : e + 1 ≤ d) : ∀ n k i, i + n = K.length - 2 - e → 2 * n + KG + 1 < k →
    curves_Curve_basic.l0 k ((e + 1 : Nat) : Int) (bl K p t e (K.length - 1 - e)) (bl K p t (e + 1) i) ((K.length - 2 - e : Nat) : Int) i d K P t.num t.den = some (bl K p t (e + 1) (K.length - 2 - e)) := by
  intro n
  have hK := h.v.hK
  have h8 := h.v.h8
  have hn := h.v.hn
  have hd := h.v.hd
  have d12 := h.i.y12
  have t0 := h.i.x0
  have t12 := h.i.x12
  have td := den_pos t
  have Dp := h.pos (e + 1)
  have Dl := h.le (e + 1) (by omega)
  have El := h.le2 e (by omega)
  have Ep := h.pos e
  induction n with
  | zero =>
    intro k i hi hk
    obtain ⟨k, rfl⟩ : ∃ m, k = m + 1 := ⟨k - 1, by omega⟩
    rw [curves_Curve_basic.l0, if_neg (by omega), show i = K.length - 2 - e by omega]
  | succ n ih =>
    intro k i hi hk
    obtain ⟨k, rfl⟩ : ∃ m, k = m + 2 := ⟨k - 2, by omega⟩
    have IH := ih k (i + 1) (by omega) (by omega)
    have z1 := h.v.h0 i
    have z2 := h.v.h0 (i + e + 1)
    have z3 := h.v.h0 (i + 1)
    have z4 := h.v.h0 (i + e + 2)
    have le := kn_le h.v.mono
    have m1 := le i (i + e + 1) (by omega)
    have m2 := le (i + 1) (i + e + 2) (by omega)
    have ni := h.sm e i (by omega)
    have ni1 := h.sm e (i + 1) (by omega)
    obtain ⟨s1, s2⟩ := h.sm1 e i he
    -- what the second half makes of a first part
    have half : ∀ q1 : Rat, q1 = (t - kn K i) / ((kn K (i + e + 1) - kn K i : Int) : Rat) * Nb (kn K) p t e i →
        curves_Curve_basic.j1 (k + 1) ((e + 1 : Nat) : Int) (bl K p t e (K.length - 1 - e)) (bl K p t (e + 1) i) i ((K.length - 2 - e : Nat) : Int) i d K P t.num t.den q1.num q1.den = some (bl K p t (e + 1) (K.length - 2 - e)) := by
      intro q1 hq1
      rw [curves_Curve_basic.j1, w64 (i := (i : Int) + ((e + 1 : Nat) : Int)) (by omega) (by omega), w64 (i := (i : Int) + ((e + 1 : Nat) : Int) + 1) (by omega) (by omega), w64 (i := (i : Int) + 1) (by omega) (by omega),
        if_pos (by omega), if_pos (by omega), if_pos (by omega), if_pos (by omega), show ((i : Int) + ((e + 1 : Nat) : Int) + 1) = ((i + e + 2 : Nat) : Int) by omega, show ((i : Int) + 1) = ((i + 1 : Nat) : Int) by omega,
        rd_kn (show i + e + 2 < K.length by omega), rd_kn (show i + 1 < K.length by omega), w64 (i := kn K (i + e + 2) - kn K (i + 1)) (by omega) (by omega)]
      by_cases hw : kn K (i + e + 2) - kn K (i + 1) > 0
      · obtain ⟨_, _, c1, c2⟩ := coef_abs (t := t) hw (by omega) z4 (by omega) (by omega) (by omega) (by omega)
        obtain ⟨_, _, c3, c4⟩ := whole_abs (t := t) z4 (by omega) (by omega) (by omega) (by omega)
        obtain ⟨c5, c6⟩ := inv_abs hw (by omega)
        rw [if_pos hw, from_f (by omega) (by omega) (by omega) (by omega), Option.bind_some, of_f (by omega) (by omega) (by omega) hw (by omega), Option.bind_some]
        unfold cn
        dsimp only
        rw [times_f (by omega) c3 c5 c4 c6 (by decide) (by decide) (by decide) (by decide) (by decide) (by decide), (coef1 hw).2, Option.bind_some]
        unfold cn
        dsimp only
        rw [if_pos (by rw [bl_len]; omega), bl_rd (show i + 1 < K.length - 1 - e by omega)]
        unfold s76
        dsimp only
        rw [times_f (by omega) c1 (ni1.num Ep) c2 (ni1.den Ep) (by omega) (by omega) (by omega) (by omega) (by omega) (by omega), Option.bind_some]
        unfold cn
        dsimp only
        rw [plus_f (by omega) Dp (by rw [hq1]; exact s1) s2 (by omega) (by omega), Option.bind_some, if_pos (by rw [bl_len]; omega)]
        rw [bl_succ] at IH
        rw [← IH, Nb, hq1]
        rfl
      · rw [if_neg hw, if_pos (by rw [bl_len]; omega)]
        rw [bl_succ] at IH
        have e0 : kn K (i + e + 2) - kn K (i + 1) = 0 := by omega
        have e1 : Nb (kn K) p t (e + 1) i = q1 := by
          rw [Nb, e0, hq1]
          have : ((0 : Int) : Rat) = 0 := rfl
          rw [this]
          grind
        rw [← IH, e1]
        rfl
    rw [curves_Curve_basic.l0, if_pos (by omega), of_one (by omega) (by omega) (by omega), Option.bind_some, w64 (i := (i : Int) + ((e + 1 : Nat) : Int)) (by omega) (by omega), if_pos (by omega), if_pos (by omega), if_pos (by omega), if_pos (by omega),
      show ((i : Int) + ((e + 1 : Nat) : Int)) = ((i + e + 1 : Nat) : Int) by omega, rd_kn (show i + e + 1 < K.length by omega), rd_kn (show i < K.length by omega), w64 (i := kn K (i + e + 1) - kn K i) (by omega) (by omega)]
    by_cases hw : kn K (i + e + 1) - kn K i > 0
    · obtain ⟨c1, c2, _, _⟩ := coef_abs (t := t) hw (by omega) z1 (by omega) (by omega) (by omega) (by omega)
      obtain ⟨c3, c4, _, _⟩ := whole_abs (t := t) z1 (by omega) (by omega) (by omega) (by omega)
      obtain ⟨c5, c6⟩ := inv_abs hw (by omega)
      rw [if_pos hw, less_f (by omega) (by omega) (by omega) (by omega), Option.bind_some, of_f (by omega) (by omega) (by omega) hw (by omega), Option.bind_some]
      unfold cn
      dsimp only
      rw [times_f (by omega) c3 c5 c4 c6 (by decide) (by decide) (by decide) (by decide) (by decide) (by decide), (coef1 hw).1, Option.bind_some]
      unfold cn
      dsimp only
      rw [if_pos (by rw [bl_len]; omega), bl_rd (show i < K.length - 1 - e by omega)]
      unfold s76
      dsimp only
      rw [times_f (by omega) c1 (ni.num Ep) c2 (ni.den Ep) (by omega) (by omega) (by omega) (by omega) (by omega) (by omega), Option.bind_some]
      unfold cn
      dsimp only
      have z := plus_f (k := k + 1) (by omega) (a := 0) Dp (Sm.zero _ 1) s1 (by omega) (by omega)
      rw [zero_nd.1, zero_nd.2, Rat.zero_add] at z
      rw [z, Option.bind_some]
      unfold cn
      dsimp only
      exact half _ rfl
    · rw [if_neg hw]
      have e0 : kn K (i + e + 1) - kn K i = 0 := by omega
      refine half 0 ?_
      rw [e0]
      have : ((0 : Int) : Rat) = 0 := rfl
      rw [this]
      grind
theorem basic_f {d : Nat} {K P : List Int} {t : Rat} {p : Nat} (h : Bs d K P t p) : ∀ e k, e ≤ d → KG + 50 + 30 * e ≤ k →
    curves_Curve_basic.f k d K P (e : Int) t.num t.den = some (bl K p t e (K.length - 1 - e)) := by
  have hK := h.v.hK
  have h8 := h.v.h8
  have hn := h.v.hn
  have hd := h.v.hd
  intro e
  induction e with
  | zero =>
    intro k _ hk
    obtain ⟨q, e1, e2⟩ := piece_f (k := k - 1) (by omega) h.v h.i
    refine basic0_f (by omega) h ?_
    rw [e1]
    have : q = p := by
      rcases Nat.lt_trichotomy q p with c | c | c
      · have := e2.mx p c h.c.pn h.c.lt
        have := h.c.lo
        omega
      · exact c
      · have := h.c.mx q c e2.pn e2.lt
        have := e2.lo
        omega
    rw [this]
  | succ e ih =>
    intro k he hk
    obtain ⟨k, rfl⟩ : ∃ m, k = m + 1 := ⟨k - 1, by omega⟩
    rw [curves_Curve_basic.f, if_neg (by omega), w64 (by omega) (by omega), show (((e + 1 : Nat) : Int) - 1) = (e : Int) by omega, ih k (by omega) (by omega), Option.bind_some, bl_len, w64 (by omega) (by omega),
      show (((K.length - 1 - e : Nat) : Int) - 1) = ((K.length - 2 - e : Nat) : Int) by omega]
    have := basic_l0 h he (K.length - 2 - e) k 0 (by omega) (by omega)
    rw [show K.length - 1 - (e + 1) = K.length - 2 - e by omega]
    exact this
end Go.Proofs.YtpnocmkpeogifaaDoor.Pure
namespace Go.Proofs.YtpnocmkpeogifaaDoor.Pure
open Go.RowKit Go.Proofs.YtpnocmkpeogifaaDoor.X Go.Proofs.YtpnocmkpeogifaaDoorW.PrintWords Go.Proofs.YtpnocmkpeogifaaDoorW.PrintLast
set_option linter.unusedVariables false
set_option linter.unusedSimpArgs false

def bn (K : List Int) (p : Nat) (t : Rat) (e m : Nat) : List S26 := (List.range m).map (fun i => s26 (Nb (kn K) p t e i))
theorem bn_len (K : List Int) (p : Nat) (t : Rat) (e m : Nat) : (bn K p t e m).length = m := by simp [bn]
theorem bn_succ (K : List Int) (p : Nat) (t : Rat) (e m : Nat) : bn K p t e (m + 1) = bn K p t e m ++ [s26 (Nb (kn K) p t e m)] := by simp [bn, List.range_succ]
theorem bn_rd {K : List Int} {p : Nat} {t : Rat} {e m i : Nat} (h : i < m) : rd_T26 (bn K p t e m) (i : Int) = s26 (Nb (kn K) p t e i) := by
  simp [rd_T26, bn, List.getD_eq_getElem?_getD, List.getElem?_map, List.getElem?_range h]
theorem told_l0 {K : List Int} {p : Nat} {t : Rat} {e m : Nat} (hm : m ≤ 1000) : ∀ n k i, i + n = m → n < k → curves_told.l0 k (bn K p t e i) (bl K p t e m) m i = some (bn K p t e m) := by
  intro n
  induction n with
  | zero =>
    intro k i hi hk
    obtain ⟨k, rfl⟩ : ∃ m, k = m + 1 := ⟨k - 1, by omega⟩
    rw [curves_told.l0, if_neg (by omega), show i = m by omega]
  | succ n ih =>
    intro k i hi hk
    obtain ⟨k, rfl⟩ : ∃ m, k = m + 1 := ⟨k - 1, by omega⟩
    have IH := ih k (i + 1) (by omega) (by omega)
    rw [bn_succ] at IH
    rw [curves_told.l0, if_pos (by omega), if_pos (by omega), if_pos (by rw [bl_len]; omega), if_pos (by rw [bn_len]; omega), bl_rd (by omega), w64 (by omega) (by omega)]
    exact IH
theorem told_f {k : Nat} {K : List Int} {p : Nat} {t : Rat} {e m : Nat} (hm : m ≤ 1000) (hk : 1000 < k) : curves_told.f k (bl K p t e m) = some (bn K p t e m) := by
  rw [curves_told.f, bl_len]
  exact told_l0 hm m k 0 (by omega) (by omega)
theorem at_bs {k : Nat} (hk : Rk k) {d : Nat} {K P : List Int} {t : Rat} {p : Nat} (h : Bs d K P t p) : curves_Curve_at.f k d K P t.num t.den = some (t.num, (t.den : Int), true) := by
  have h8 := h.v.h8
  obtain ⟨hk2, hk3⟩ := kf_kg' hk
  rw [at_f (by omega) (by omega), dc_true ⟨⟨d, rfl, h.v⟩, d, rfl, h.i⟩]
/-- the value: the sum of the first poles times the curves -/
def vs (K P : List Int) (p : Nat) (t : Rat) (e m : Nat) : Rat := sm m (fun i => Nb (kn K) p t e i * ((rd P (i : Int) : Int) : Rat))
theorem den_sum {D : Nat} (hD : 0 < D) {f : Nat → Rat} : ∀ m, (∀ i, i < m → (f i).den ∣ D) → (sm m f).den ∣ D
  | 0, _ => Nat.one_dvd _
  | m + 1, h => den_add_dvd hD (den_sum hD m (fun i hi => h i (by omega))) (h m (by omega))
theorem abs_sum {B : Nat} {f : Nat → Rat} : ∀ m, (∀ i, i < m → -(B : Rat) ≤ f i ∧ f i ≤ (B : Rat)) → -((B * m : Nat) : Rat) ≤ sm m f ∧ sm m f ≤ ((B * m : Nat) : Rat)
  | 0, _ => by rw [Nat.mul_zero]; exact ⟨by rw [sm]; decide, by rw [sm]; decide⟩
  | m + 1, h => by
    have h1 := abs_sum m (fun i hi => h i (by omega))
    have h2 := h m (by omega)
    rw [sm, Nat.mul_succ, Rat.natCast_add]
    constructor <;> grind
theorem Sm.sum {D B : Nat} (hD : 0 < D) {f : Nat → Rat} (m : Nat) (h : ∀ i, i < m → Sm D B (f i)) : Sm D (B * m) (sm m f) :=
  ⟨den_sum hD m (fun i hi => (h i hi).1), abs_sum m (fun i hi => (h i hi).2)⟩
theorem Bs.pole {d : Nat} {K P : List Int} {t : Rat} {p : Nat} (h : Bs d K P t p) (i : Nat) (hi : i < P.length) : Sm (DB K t p d) 50 (Nb (kn K) p t d i * ((rd P (i : Int) : Int) : Rat)) := by
  obtain ⟨h1, h2, h3⟩ := h.sm d i (Nat.le_refl _)
  obtain ⟨p1, p2⟩ := h.v.hP _ (rd_mem hi)
  have n0 := nb_nonneg h.pc d i
  have q1 : (-50 : Rat) ≤ ((rd P (i : Int) : Int) : Rat) := by
    have := Rat.intCast_le_intCast.mpr p1
    exact this
  have q2 : ((rd P (i : Int) : Int) : Rat) ≤ (50 : Rat) := by
    have := Rat.intCast_le_intCast.mpr p2
    exact this
  have o1 : (((1 : Nat) : Rat)) = 1 := rfl
  have o50 : (((50 : Nat) : Rat)) = 50 := rfl
  rw [o1] at h3
  refine ⟨?_, ?_, ?_⟩
  · have := den_mul_dvd (D := DB K t p d) (E := 1) (b := ((rd P (i : Int) : Int) : Rat)) (h.pos d) (by decide) h1 (by rw [Rat.den_intCast]; exact Nat.dvd_refl _)
    rwa [Nat.mul_one] at this
  · rw [o50]
    have a := Rat.mul_le_mul_of_nonneg_left (c := Nb (kn K) p t d i) q1 n0
    grind
  · rw [o50]
    have a := Rat.mul_le_mul_of_nonneg_left (c := Nb (kn K) p t d i) q2 n0
    grind
theorem Bs.vs_sm {d : Nat} {K P : List Int} {t : Rat} {p : Nat} (h : Bs d K P t p) (m : Nat) (hm : m ≤ P.length) : Sm (DB K t p d) 400 (vs K P p t d m) := by
  have := Sm.sum (h.pos d) m (fun i hi => h.pole i (by omega))
  refine ⟨this.1, ?_, ?_⟩
  · have a := this.2.1
    have b : ((50 * m : Nat) : Rat) ≤ ((400 : Nat) : Rat) := Rat.natCast_le_natCast.mpr (by have := h.v.h8; omega)
    unfold vs
    grind
  · have a := this.2.2
    have b : ((50 * m : Nat) : Rat) ≤ ((400 : Nat) : Rat) := Rat.natCast_le_natCast.mpr (by have := h.v.h8; omega)
    unfold vs
    grind
theorem value_l0 {d : Nat} {K P : List Int} {t : Rat} {p : Nat} (h : Bs d K P t p) : ∀ n k i, i + n = P.length → n + KG + 200 < k →
    curves_Value.l0 k (bl K p t d P.length) P.length i d K P (vs K P p t d i).num (vs K P p t d i).den = some ((vs K P p t d P.length).num, ((vs K P p t d P.length).den : Int), 0) := by
  have hK := h.v.hK
  have h8 := h.v.h8
  have hd := h.v.hd
  have Dp := h.pos d
  have Dl := h.le d hd
  intro n
  induction n with
  | zero =>
    intro k i hi hk
    obtain ⟨k, rfl⟩ : ∃ m, k = m + 1 := ⟨k - 1, by omega⟩
    rw [curves_Value.l0, if_neg (by omega), show i = P.length by omega]
  | succ n ih =>
    intro k i hi hk
    obtain ⟨k, rfl⟩ : ∃ m, k = m + 1 := ⟨k - 1, by omega⟩
    have IH := ih k (i + 1) (by omega) (by omega)
    have ni := h.sm d i (Nat.le_refl _)
    obtain ⟨p1, p2⟩ := h.v.hP _ (rd_mem (show i < P.length by omega))
    rw [curves_Value.l0, if_pos (by omega), if_pos (by omega), if_pos (by rw [bl_len]; omega), if_pos (by omega), of_one (by omega) (by omega) (by omega), Option.bind_some, bl_rd (by omega)]
    unfold s76
    dsimp only
    have tm := times_f (k := k) (by omega) (a := Nb (kn K) p t d i) (b := ((rd P (i : Int) : Int) : Rat)) (B := 50) (E := 1) (ni.num Dp) (by rw [Rat.num_intCast]; omega) (ni.den Dp) (by rw [Rat.den_intCast]; omega) (by omega) (by omega) (by omega) (by omega) (by omega) (by omega)
    rw [Rat.num_intCast, Rat.den_intCast] at tm
    have tm' := tm
    rw [show (((1 : Nat) : Int)) = 1 from rfl] at tm'
    rw [tm', Option.bind_some]
    unfold cn
    dsimp only
    rw [plus_f (by omega) Dp (h.vs_sm i (by omega)) (h.pole i (by omega)) (by omega) (by omega), Option.bind_some, w64 (by omega) (by omega)]
    exact IH
theorem value_top {k : Nat} (hk : Rk k) {d : Nat} {K P : List Int} {t : Rat} {p : Nat} (h : Bs d K P t p) :
    curves_Value.f k d K P t.num t.den = some ((vs K P p t d P.length).num, ((vs K P p t d P.length).den : Int), 0) := by
  have hK := h.v.hK
  have h8 := h.v.h8
  have hd := h.v.hd
  obtain ⟨hk2, hk3⟩ := kf_kg' hk
  unfold curves_Value.f
  rw [at_bs hk h, Option.bind_some, if_pos rfl, of_one (by omega) (by omega) (by omega), Option.bind_some, basic_f h d k (Nat.le_refl _) (by omega), Option.bind_some, bl_len, show K.length - 1 - d = P.length by omega]
  exact value_l0 h P.length k 0 (by omega) (by omega)
/-- a fine curve and point have a piece -/
theorem bs_of {d : Nat} {K P : List Int} {x y : Int} (hv : VP d K P) (hi : IP d K P x y) : ∃ t p, t.num = x ∧ (t.den : Int) = y ∧ Bs d K P t p := by
  have e := hi.rat
  unfold cn at e
  injection e with e1 e2
  obtain ⟨p, _, hp⟩ := piece_f (k := 100) (by omega) hv hi
  refine ⟨Rat.divInt x y, p, e1, e2, ?_⟩
  exact ⟨hv, by rw [e1, e2]; exact hi, by rw [e1, e2]; exact hp⟩
theorem value_bad {k : Nat} (hk : Rk k) {a : Int} {K P : List Int} (hP : P.length ≤ 9223372036854775807) {x y : Int} (h : ¬ (VPI a K P ∧ IPI a K P x y)) : curves_Value.f k a K P x y = some (0, 0, 2) := by
  unfold curves_Value.f
  rw [at_f (kf_kg hk) hP, dc_false h, Option.bind_some, if_neg (by simp)]
end Go.Proofs.YtpnocmkpeogifaaDoor.Pure
