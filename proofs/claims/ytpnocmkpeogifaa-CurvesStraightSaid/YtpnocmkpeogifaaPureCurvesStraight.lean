/- The means of the knots times the basic curves sum to the point itself. -/
import Derived.Test.YtpnocmkpeogifaaSD
import Derived.Test.YtpnocmkpeogifaaSE
import Derived.Test.YtpnocmkpeogifaaXf8
namespace Go.Proofs.Ytpnocmkpeogifaa.Pure
open Go.RowKit Go.Proofs.Ytpnocmkpeogifaa.X Go.Proofs.YtpnocmkpeogifaaW.PrintWords Go.Proofs.YtpnocmkpeogifaaW.PrintLast
set_option linter.unusedVariables false
set_option linter.unusedSimpArgs false

/-- a sum of knots -/
def ksum (K : Nat → Int) : Nat → Nat → Int
 | _, 0 => 0
 | s, n + 1 => K s + ksum K (s + 1) n
theorem ksum_back (K : Nat → Int) : ∀ n s, ksum K s (n + 1) = ksum K s n + K (s + n)
 | 0, s => by simp [ksum]
 | n + 1, s => by
  rw [ksum, ksum_back K n (s + 1), ksum, show s + 1 + n = s + (n + 1) by omega]
  omega
theorem sm_scaleS (c : Rat) (f : Nat → Rat) : ∀ m, sm m (fun i => f i * c) = sm m f * c
 | 0 => by simp only [sm]; grind
 | m + 1 => by rw [sm, sm, sm_scaleS c f m]; grind
theorem wid_mul {K : Nat → Int} {p : Nat} {t : Rat} (h : Pc K p t) (d i : Nat) :
  ((K (i + d + 1) : Rat) - K i) * ((t - K i) / ((K (i + d + 1) - K i : Int) : Rat) * Nb K p t d i) = (t - K i) * Nb K p t d i := by
 by_cases hs : p < i ∨ i + d < p
 ·rw [nb_supp d i hs]; grind
 ·have h1 : K i < K (i + d + 1) := by
   have := h.mono i p (by omega)
   have := h.mono (p + 1) (i + d + 1) (by omega)
   have := h.lt
   omega
  have h2 : ((K (i + d + 1) - K i : Int) : Rat) = (K (i + d + 1) : Rat) - K i := by rw [Rat.intCast_sub]
  have h3 : (K (i + d + 1) : Rat) - K i ≠ 0 := by
   have := Rat.intCast_lt_intCast.mpr h1
   grind
  rw [h2]
  grind
/-- the sums of knots times the basic curves -/
theorem marsden {K : Nat → Int} {p : Nat} {t : Rat} (h : Pc K p t) : ∀ (d m : Nat), p < m → d ≤ p → sm m (fun i => (ksum K (i + 1) d : Rat) * Nb K p t d i) = (d : Rat) * t
 | 0, m, hm, _ => by
  have : ∀ m, sm m (fun i => (ksum K (i + 1) 0 : Rat) * Nb K p t 0 i) = 0 := by
   intro m
   induction m with
   | zero => rfl
   | succ m ih =>
    rw [sm, ih, ksum]
    have : ((0 : Int) : Rat) = 0 := rfl
    rw [this]
    grind
  rw [this]
  have : ((0 : Nat) : Rat) = 0 := rfl
  rw [this]
  grind
 | d + 1, m, hm, hd => by
  have ih := marsden h d m hm (by omega)
  have one := nb_sum h d m hm (by omega)
  have e := sm_shift (fun i => ((K i : Rat) + (ksum K (i + 1) d : Rat)) * ((K (i + d + 1) - t) / ((K (i + d + 1) - K i : Int) : Rat) * Nb K p t d i)) m
  rw [nb_supp d 0 (by omega), nb_supp d m (by omega)] at e
  have e1 : sm m (fun i => (ksum K (i + 1) (d + 1) : Rat) * Nb K p t (d + 1) i) =
    sm m (fun i => (ksum K (i + 1) (d + 1) : Rat) * ((t - K i) / ((K (i + d + 1) - K i : Int) : Rat) * Nb K p t d i)) +
    sm m (fun i => ((K (i + 1) : Rat) + (ksum K (i + 1 + 1) d : Rat)) * ((K (i + 1 + d + 1) - t) / ((K (i + 1 + d + 1) - K (i + 1) : Int) : Rat) * Nb K p t d (i + 1))) := by
   rw [← sm_add]
   refine sm_congr m (fun i _ => ?_)
   rw [Nb, show i + 1 + d + 1 = i + d + 2 by omega]
   have : (ksum K (i + 1) (d + 1) : Rat) = (K (i + 1) : Rat) + (ksum K (i + 1 + 1) d : Rat) := by rw [ksum, Rat.intCast_add]
   rw [← this]
   grind
  have e2 : sm m (fun i => (ksum K (i + 1) (d + 1) : Rat) * ((t - K i) / ((K (i + d + 1) - K i : Int) : Rat) * Nb K p t d i)) +
    sm m (fun i => ((K i : Rat) + (ksum K (i + 1) d : Rat)) * ((K (i + d + 1) - t) / ((K (i + d + 1) - K i : Int) : Rat) * Nb K p t d i)) =
    sm m (fun i => (ksum K (i + 1) d : Rat) * Nb K p t d i) + sm m (Nb K p t d) * t := by
   rw [← sm_add, ← sm_scaleS, ← sm_add]
   refine sm_congr m (fun i _ => ?_)
   have w := wid_mul h d i
   have ab := nb_ab h d i
   have kb : (ksum K (i + 1) (d + 1) : Rat) = (ksum K (i + 1) d : Rat) + (K (i + d + 1) : Rat) := by rw [ksum_back, Rat.intCast_add, show i + 1 + d = i + d + 1 by omega]
   rw [kb]
   grind
  have hd1 : ((d + 1 : Nat) : Rat) = (d : Rat) + 1 := by rw [Rat.natCast_add]; rfl
  rw [e1, hd1]
  grind
theorem seg_rd {d : Nat} {K P : List Int} (V : VP d K P) {i j : Nat} (hj : j < d) (hi : i + 1 + d ≤ K.length) : rd (seg K d i) (j : Int) = kn K (i + 1 + j) := by
 have sl := seg_len (K := K) (d := d) (i := i) hi
 rw [rd_nat _ j (by omega), ← rd_kn (show i + 1 + j < K.length by omega), rd_nat K (i + 1 + j) (by omega)]
 unfold seg
 rw [List.getElem_drop, List.getElem_take]
theorem seg_sum {d : Nat} {K P : List Int} (V : VP d K P) {i : Nat} (hi : i + 1 + d ≤ K.length) : ∀ n j, j + n ≤ d → sumr (seg K d i) j n = ksum (kn K) (i + 1 + j) n
 | 0, j, _ => rfl
 | n + 1, j, hj => by
  rw [sumr, ksum, seg_rd V (by omega) hi, seg_sum V hi n (j + 1) (by omega), show i + 1 + (j + 1) = i + 1 + j + 1 by omega]
theorem mean_eq {d : Nat} {K P : List Int} (V : VP d K P) (hd1 : 1 ≤ d) {i : Nat} (hi : i + 1 + d ≤ K.length) : (d : Rat) * meanq d K i = (ksum (kn K) (i + 1) d : Rat) := by
 unfold meanq
 rw [seg_sum V hi d 0 (by omega), Nat.add_zero, Rat.divInt_eq_div, natc]
 have := nat_ne (show 0 < d by omega)
 grind
theorem mean_bd {d : Nat} {K P : List Int} (V : VP d K P) (hd1 : 1 ≤ d) {i : Nat} (hi : i + 1 + d ≤ K.length) : (meanq d K i).num.natAbs ≤ 36 ∧ (meanq d K i).den ∣ 6 ∧ (meanq d K i).den ≤ 3 ∧ 0 ≤ meanq d K i ∧ meanq d K i ≤ 12 := by
 have hd := V.hd
 have sl := seg_len (K := K) (d := d) (i := i) hi
 have b := sumr_bd (l := seg K d i) (fun x hx => seg_bd V x hx) d 0 (by omega)
 have na := num_abs (sumr (seg K d i) 0 d) d (by omega)
 obtain ⟨g1, g2⟩ := divInt_pos (sumr (seg K d i) 0 d) d (by omega)
 have dv : (meanq d K i).den ∣ d := by
  have h : ((meanq d K i).den : Int) ∣ (d : Int) := by
   unfold meanq
   rw [g2]
   exact ⟨Int.gcd (d : Int) (sumr (seg K d i) 0 d), by rw [Int.ediv_mul_cancel (Int.gcd_dvd_left ..)]⟩
  exact Int.natCast_dvd_natCast.mp h
 have d6 : d ∣ 6 := by
  have : d = 1 ∨ d = 2 ∨ d = 3 := by omega
  rcases this with rfl | rfl | rfl <;> decide
 have e : (d : Rat) * meanq d K i = ((sumr (seg K d i) 0 d : Int) : Rat) := by
  unfold meanq
  rw [Rat.divInt_eq_div, natc]
  have := nat_ne (show 0 < d by omega)
  grind
 have dp : (0 : Rat) < (d : Rat) := Rat.natCast_pos.mpr (by omega)
 have s0 : (0 : Rat) ≤ ((sumr (seg K d i) 0 d : Int) : Rat) := Rat.intCast_nonneg.mpr b.1
 have s1 : ((sumr (seg K d i) 0 d : Int) : Rat) ≤ (12 : Rat) * (d : Rat) := by
  have := Rat.intCast_le_intCast.mpr b.2
  rw [Rat.intCast_mul] at this
  exact this
 refine ⟨by unfold meanq; omega, Nat.dvd_trans dv d6, Nat.le_trans (Nat.le_of_dvd (by omega) dv) hd, ?_, ?_⟩
 ·exact Rat.le_of_mul_le_mul_left (by rw [e, Rat.mul_zero]; exact s0) dp
 ·exact Rat.le_of_mul_le_mul_left (by rw [e, Rat.mul_comm]; exact s1) dp
/-- the sum that the law makes -/
def ms (d : Nat) (K : List Int) (p : Nat) (t : Rat) (m : Nat) : Rat := sm m (fun i => meanq d K i * Nb (kn K) p t d i)
theorem ms_all {d : Nat} {K P : List Int} {t : Rat} {p : Nat} (B : Bs d K P t p) (hd1 : 1 ≤ d) : ms d K p t P.length = t := by
 have hK := B.v.hK
 have h := marsden B.pc d P.length B.c.pn B.c.dp
 have e : sm P.length (fun i => (ksum (kn K) (i + 1) d : Rat) * Nb (kn K) p t d i) = ms d K p t P.length * (d : Rat) := by
  unfold ms
  rw [← sm_scaleS]
  refine sm_congr _ (fun i hi => ?_)
  rw [← mean_eq B.v hd1 (by omega)]
  grind
 rw [e] at h
 have := nat_ne (show 0 < d by omega)
 have hq : (d : Rat) * (ms d K p t P.length - t) = 0 := by grind
 rcases Rat.mul_eq_zero.mp hq with c | c
 ·exact absurd c this
 ·grind
theorem ms_term {d : Nat} {K P : List Int} {t : Rat} {p : Nat} (B : Bs d K P t p) (hd1 : 1 ≤ d) (i : Nat) (hi : i < P.length) : Sm (DB K t p d * 6) 12 (meanq d K i * Nb (kn K) p t d i) := by
 have hK := B.v.hK
 obtain ⟨m1, m2, m3, m4, m5⟩ := mean_bd B.v hd1 (i := i) (by omega)
 have ni := B.sm d i (Nat.le_refl _)
 have n0 := nb_nonneg B.pc d i
 have n1 := nb_le_one B.pc d i B.c.dp
 have o12 : (((12 : Nat) : Rat)) = 12 := rfl
 refine ⟨?_, ?_, ?_⟩
 ·have := den_mul_dvd (D := 6) (E := DB K t p d) (by decide) (B.pos d) m2 ni.1
  rwa [Nat.mul_comm] at this
 ·rw [o12]
  have := Rat.mul_nonneg m4 n0
  grind
 ·rw [o12]
  have a := Rat.mul_le_mul_of_nonneg_left (c := meanq d K i) n1 m4
  grind
theorem ms_sm {d : Nat} {K P : List Int} {t : Rat} {p : Nat} (B : Bs d K P t p) (hd1 : 1 ≤ d) (m : Nat) (hm : m ≤ P.length) : Sm (DB K t p d * 6) 96 (ms d K p t m) := by
 have h6 : 0 < DB K t p d * 6 := Nat.mul_pos (B.pos d) (by decide)
 have := Sm.sum h6 m (fun i hi => ms_term B hd1 i (by omega))
 have b : ((12 * m : Nat) : Rat) ≤ ((96 : Nat) : Rat) := Rat.natCast_le_natCast.mpr (by have := B.v.h8; omega)
 refine ⟨this.1, ?_, ?_⟩
 ·have a := this.2.1
  unfold ms
  grind
 ·have a := this.2.2
  unfold ms
  grind
theorem lm_rd {f : Nat → Rat} {m i : Nat} (h : i < m) : rd_T26 (lm f m) (i : Int) = s26 (f i) := by
 simp [rd_T26, lm, List.getD_eq_getElem?_getD, List.getElem?_map, List.getElem?_range h]
theorem straight_l0 {d : Nat} {K P : List Int} {t : Rat} {p : Nat} (B : Bs d K P t p) (hd1 : 1 ≤ d) : ∀ n k (i : Nat), i + n = P.length → 4611686018427388000 + KG + n ≤ k →
  congoulaw04_CurvesStraight.l0 k (bn K p t d P.length) (lm (meanq d K) P.length) P.length i t.num t.den (ms d K p t i).num (ms d K p t i).den = some true := by
 have h8 := B.v.h8
 have hK := B.v.hK
 have Dp := B.pos d
 have Dl := B.le d B.v.hd
 intro n
 induction n with
 | zero =>
  intro k i hi hk
  obtain ⟨k, rfl⟩ : ∃ m, k = m + 1 := ⟨k - 1, by omega⟩
  obtain rfl : i = P.length := by omega
  rw [congoulaw04_CurvesStraight.l0, if_neg (by omega), ms_all B hd1, if_pos (by simp), awake_f (by omega), Option.bind_some]
 | succ n ih =>
  intro k i hi hk
  obtain ⟨k, rfl⟩ : ∃ m, k = m + 1 := ⟨k - 1, by omega⟩
  obtain ⟨m1, m2, m3, m4, m5⟩ := mean_bd B.v hd1 (i := i) (by omega)
  have ni := B.sm d i (Nat.le_refl _)
  have nn := ni.num Dp
  have nd := ni.den Dp
  have h6 : 0 < DB K t p d * 6 := Nat.mul_pos Dp (by decide)
  have mf := more_f (k := k) (by omega) (s := ms d K p t i) (a := meanq d K i) (b := Nb (kn K) p t d i) h6 (ms_sm B hd1 i (by omega)) (ms_term B hd1 i (by omega))
   (natAbs_mul_le (A := 36) (B := 15934165401600) (by omega) (by omega) (by omega)) (Nat.le_trans (Nat.mul_le_mul m3 nd) (by omega)) (by omega) (by omega) (by omega) (by omega) (by omega) (by omega) (by omega)
  have IH := ih k (i + 1) (by omega) (by omega)
  rw [congoulaw04_CurvesStraight.l0, if_pos (by omega), if_pos (by omega), if_pos (by rw [lm_len]; omega), if_pos (by rw [bn_len]; omega), lm_rd (by omega), bn_rd (by omega)]
  unfold s26
  dsimp only
  rw [mf, Option.bind_some, if_pos rfl, w64 (by omega) (by omega)]
  exact IH
theorem CurvesStraight (a0_0 : Int) (l0_1 : List Int) (l0_2 : List Int) (a1_0 : Int) (a1_1 : Int) (h0_ : (Lit.int .i64 a0_0).wf = true) (h1_ : l0_1.length ≤ maxLen) (h2_ : (∀ x ∈ l0_1, (Lit.int .i64 x).wf = true)) (h3_ : l0_2.length ≤ maxLen) (h4_ : (∀ x ∈ l0_2, (Lit.int .i64 x).wf = true)) (h5_ : (Lit.int .i64 a1_0).wf = true) (h6_ : (Lit.int .i64 a1_1).wf = true) : ∃ k, congoulaw04_CurvesStraight.f k a0_0 l0_1 l0_2 a1_0 a1_1 = some true := by
 obtain ⟨k, hk, hk1, hk2, hm2⟩ : ∃ k, Rl k ∧ Rl (k + 1) ∧ Rl (k + 2) ∧ Rm (k + 2) := ⟨27670116110564327422, rl_any, ⟨by decide, by decide⟩, ⟨by decide, by decide⟩, ⟨by decide, by decide⟩⟩
 refine ⟨k + 2, ?_⟩
 have hP : l0_2.length ≤ 9223372036854775807 := by
  unfold maxLen at h3_
  omega
 have hT : (l0_2.take 23).length ≤ 9223372036854775807 := by rw [List.length_take]; omega
 have aw := awake_f (k := k + 1) (Nat.le_trans (by decide) hk1.b)
 unfold congoulaw04_CurvesStraight.f
 simp only [of_law, Option.bind_some]
 have mres : ∀ K P : List Int, P.length ≤ 9223372036854775807 → ∃ l z, curves_Means.f (k + 2) a0_0 K P = some (l, z) ∧ (VPI a0_0 K P → a0_0 = 0 → z = 4) := by
  intro K P hP
  by_cases hv : VPI a0_0 K P
  ·by_cases h0 : a0_0 = 0
   ·refine ⟨[], 4, ?_, fun _ _ => rfl⟩
    unfold curves_Means.f
    rw [valid_f hk2.g hP, dc_true hv, Option.bind_some, if_pos rfl, if_pos h0]
   ·obtain ⟨d, e, V⟩ := hv
    refine ⟨_, _, by rw [e]; exact means_ok hm2 V (by omega), fun _ h => absurd h h0⟩
  ·refine ⟨[], 2, ?_, fun h => absurd h hv⟩
   unfold curves_Means.f
   rw [valid_f hk2.g hP, dc_false hv, Option.bind_some, if_neg (by decide)]
 by_cases hf : VPI a0_0 l0_1 l0_2 ∧ IPI a0_0 l0_1 l0_2 a1_0 a1_1
 ·have hff := hf
  obtain ⟨⟨d, rfl, V⟩, d', e, I⟩ := hf
  obtain rfl : d = d' := by omega
  obtain ⟨t, p, rfl, rfl, B⟩ := bs_of V I
  obtain ⟨e1, e2⟩ := vp_len V
  have h8 := V.h8
  have ha := hk.a
  rw [e1, e2]
  by_cases h0 : d = 0
  ·obtain ⟨l, z, em, hz⟩ := mres l0_1 l0_2 hP
   have hz4 := hz ⟨d, rfl, V⟩ (by omega)
   subst hz4
   rw [em, Option.bind_some, basic_top hk2.rk B, Option.bind_some]
   dsimp only
   rw [if_neg (by omega), congoulaw04_CurvesStraight.j0, if_pos rfl, if_neg (by omega), if_neg (by omega), if_pos rfl, if_pos (by omega), aw, Option.bind_some]
  ·rw [means_ok hm2 V (by omega), Option.bind_some, basic_top hk2.rk B, Option.bind_some]
   dsimp only
   rw [if_pos rfl, if_pos rfl, fine_f hk2.rk hP, dc_true hff, Option.bind_some, congoulaw04_CurvesStraight.j0, if_neg (by decide), lm_len, bn_len, if_pos rfl, congoulaw04_CurvesStraight.j1, if_neg (by simp), lm_len]
   exact straight_l0 B (by omega) l0_2.length k 0 (by omega) (by omega)
 ·obtain ⟨l, z, em, hz⟩ := mres (l0_1.take 23) (l0_2.take 23) hT
  have hb : ¬ (VPI a0_0 (l0_1.take 23) (l0_2.take 23) ∧ IPI a0_0 (l0_1.take 23) (l0_2.take 23) a1_0 a1_1) := by
   intro ⟨g1, g2⟩
   obtain ⟨d, e, h3⟩ := g1
   obtain ⟨e1, e2⟩ := vp_take h3
   rw [e1, e2] at g2 h3
   exact hf ⟨⟨d, e, h3⟩, g2⟩
  rw [em, Option.bind_some, basic_bad hk2.rk hT hb, Option.bind_some]
  dsimp only
  have j : congoulaw04_CurvesStraight.j0 (k + 2) l z [] 2 true a0_0 l0_1 l0_2 a1_0 a1_1 = some true := by
   rw [congoulaw04_CurvesStraight.j0, if_pos rfl, if_pos (show (2 : Int) = 2 from rfl), aw, Option.bind_some]
   split <;> rfl
  by_cases hz0 : z = 0
  ·rw [if_pos hz0, if_neg (by decide), j]
  ·rw [if_neg hz0, j]
end Go.Proofs.Ytpnocmkpeogifaa.Pure
