/- The mirrored curve answers as the law asks. -/
import Derived.Test.YtpnocmkpeogifaaSM
import Derived.Test.YtpnocmkpeogifaaE7
namespace Go.Proofs.Ytpnocmkpeogifaa.Pure
open Go.RowKit Go.Proofs.Ytpnocmkpeogifaa.X Go.Proofs.YtpnocmkpeogifaaW.PrintWords Go.Proofs.YtpnocmkpeogifaaW.PrintLast
set_option linter.unusedVariables false
set_option linter.unusedSimpArgs false

theorem vp_mir {d : Nat} {K P : List Int} (V : VP d K P) : VP d (mir K) P.reverse := by
  have hK := V.hK
  have hn := V.hn
  have bd : ∀ i, 0 ≤ kn (mir K) i ∧ kn (mir K) i ≤ 12 := by
    intro i
    by_cases h : i < K.length
    · have := V.h0 (K.length - 1 - i)
      rw [kn_mir h]
      omega
    · rw [kn_mir_out (by omega)]
      omega
  refine ⟨V.hd, by rw [List.length_reverse]; exact V.hn, by rw [List.length_reverse]; exact V.h8, by rw [mir_len, List.length_reverse]; exact V.hK, fun x hx => V.hP x (List.mem_reverse.mp hx), bd, ?_, ?_, ?_⟩
  · intro i
    by_cases h : i + 1 < K.length
    · have := V.mono (K.length - 1 - (i + 1))
      rw [show K.length - 1 - (i + 1) + 1 = K.length - 1 - i by omega] at this
      rw [kn_mir (show i < K.length by omega), kn_mir h]
      omega
    · rw [kn_mir_out (i := i + 1) (by omega)]
      exact (bd i).2
  · intro i hi
    rw [List.length_reverse] at hi
    have := V.ne (P.length - 1 - i) (by omega)
    rw [kn_mir (show i < K.length by omega), kn_mir (show i + d + 1 < K.length by omega), show K.length - 1 - i = P.length - 1 - i + d + 1 by omega, show K.length - 1 - (i + d + 1) = P.length - 1 - i by omega]
    omega
  · have := V.span
    rw [List.length_reverse, kn_mir (show d < K.length by omega), kn_mir (show P.length < K.length by omega), show K.length - 1 - d = P.length by omega, show K.length - 1 - P.length = d by omega]
    omega
theorem le_num {z : Int} {t : Rat} : ((z : Int) : Rat) ≤ t ↔ z * (t.den : Int) ≤ t.num := by
  rw [Rat.le_iff, Rat.num_intCast, Rat.den_intCast]
  simp
theorem num_le' {z : Int} {t : Rat} : t ≤ ((z : Int) : Rat) ↔ t.num ≤ z * (t.den : Int) := by
  rw [Rat.le_iff, Rat.num_intCast, Rat.den_intCast]
  simp
theorem bs_mir {d : Nat} {K P : List Int} {t : Rat} {p : Nat} (B : Bs d K P t p) : ∃ p', Bs d (mir K) P.reverse (12 - t) p' := by
  have V := B.v
  have hK := V.hK
  have hn := V.hn
  have I := B.i
  have h12 : ((12 : Int) : Rat) = 12 := rfl
  have e := coef' (t := t) (z := 12) (w := 1) (by omega)
  have h1 : ((1 : Int) : Rat) = 1 := rfl
  rw [Int.mul_one, h12, h1] at e
  have e2 : (12 - t) / (1 : Rat) = 12 - t := by grind
  rw [e2] at e
  have na := num_abs (12 * t.den - t.num) t.den (den_pos t)
  rw [e] at na
  have y12 := I.y12
  have d0 := den_pos (12 - t)
  have lo : ((kn K d : Int) : Rat) ≤ t := le_num.mpr I.lo
  have hi : t ≤ ((kn K P.length : Int) : Rat) := num_le'.mpr I.hi
  have b0 := V.h0 d
  have b1 := V.h0 P.length
  have z0 : ((0 : Int) : Rat) ≤ 12 - t := by
    have := Rat.intCast_le_intCast.mpr b1.2
    have h0 : ((0 : Int) : Rat) = 0 := rfl
    rw [h0]
    rw [h12] at this
    grind
  have z12 : 12 - t ≤ ((12 : Int) : Rat) := by
    have := Rat.intCast_le_intCast.mpr b0.1
    have h0 : ((0 : Int) : Rat) = 0 := rfl
    rw [h0] at this
    rw [h12]
    grind
  have I' : IP d (mir K) P.reverse (12 - t).num (12 - t).den := by
    refine ⟨by omega, by omega, ?_, ?_, ?_, ?_, ?_⟩
    · have := le_num.mp z0
      omega
    · exact num_le'.mp z12
    · have := (12 - t).reduced
      unfold Int.gcd
      exact this
    · refine le_num.mp ?_
      rw [kn_mir (show d < K.length by omega), show K.length - 1 - d = P.length by omega, Rat.intCast_sub, h12]
      grind
    · refine num_le'.mp ?_
      rw [List.length_reverse, kn_mir (show P.length < K.length by omega), show K.length - 1 - P.length = d by omega, Rat.intCast_sub, h12]
      grind
  obtain ⟨t2, p', g1, g2, B'⟩ := bs_of (vp_mir V) I'
  have : t2 = 12 - t := Rat.ext g1 (by omega)
  rw [this] at B'
  exact ⟨p', B'⟩
/-- how often a knot is the point -/
def cnt (K : List Int) (t : Rat) : Nat → Int
  | 0 => 0
  | m + 1 => cnt K t m + if rd K (m : Int) * (t.den : Int) = t.num then 1 else 0
theorem cnt_ge {K : List Int} {t : Rat} {q : Nat} : ∀ m p, p < m → (∀ i, q < i → i ≤ p → rd K (i : Int) * (t.den : Int) = t.num) → ((p - q : Nat) : Int) ≤ cnt K t m ∧ 0 ≤ cnt K t m := by
  have nn : ∀ m, 0 ≤ cnt K t m := by
    intro m
    induction m with
    | zero => simp [cnt]
    | succ m ih => unfold cnt; split <;> omega
  intro m
  induction m with
  | zero => intro p h; omega
  | succ m ih =>
    intro p hp h
    refine ⟨?_, nn _⟩
    unfold cnt
    by_cases e : p = m
    · subst e
      by_cases e2 : q < p
      · rw [if_pos (h p e2 (Nat.le_refl _))]
        by_cases e3 : p = 0
        · omega
        · have := (ih (p - 1) (by omega) (fun i h1 h2 => h i h1 (by omega))).1
          omega
      · have := nn p
        split <;> omega
    · have := (ih p (by omega) h).1
      split <;> omega
theorem eq_num {z : Int} {t : Rat} (h : ((z : Int) : Rat) = t) : z * (t.den : Int) = t.num := by
  have a := le_num.mp (show ((z : Int) : Rat) ≤ t by rw [h]; exact Rat.le_refl)
  have b := num_le'.mp (show t ≤ ((z : Int) : Rat) by rw [h]; exact Rat.le_refl)
  omega
/-- the value at the other side -/
theorem value_mir {d : Nat} {K P : List Int} {t : Rat} {p p' : Nat} (B : Bs d K P t p) (B' : Bs d (mir K) P.reverse (12 - t) p') :
    vs (mir K) P.reverse p' (12 - t) d P.length = vs K P p t d P.length ∨ (d : Int) < cnt K t K.length := by
  have V := B.v
  have hK := V.hK
  have hn := V.hn
  have h12 : ((12 : Int) : Rat) = 12 := rfl
  have le := kn_le V.mono
  have pn' := B'.c.pn
  have dp' := B'.c.dp
  rw [List.length_reverse] at pn'
  obtain ⟨q, hq⟩ : ∃ q, q = K.length - 2 - p' := ⟨_, rfl⟩
  have lt' := B'.c.lt
  have C' := B'.pc
  have lo' := C'.lo
  have hi' := C'.hi
  rw [kn_mir (show p' < K.length by omega), show K.length - 1 - p' = q + 1 by omega] at lt' lo'
  rw [kn_mir (show p' + 1 < K.length by omega), show K.length - 1 - (p' + 1) = q by omega] at lt' hi'
  rw [Rat.intCast_sub, h12] at lo' hi'
  have kq : ((kn K q : Int) : Rat) ≤ t := by grind
  have kq1 : t ≤ ((kn K (q + 1) : Int) : Rat) := by grind
  have C := B.pc
  have hqp : q ≤ p := by
    apply Classical.byContradiction
    intro hc
    have := B.c.mx q (by omega) (by omega) (by omega)
    have h2 := le_num.mp kq
    omega
  have e1 := vs_mir (p := q) (P := P) t hK (by omega)
  rw [show K.length - 2 - q = p' by omega] at e1
  rw [e1]
  by_cases hqe : q = p
  · exact Or.inl (by rw [hqe])
  have mid := le (q + 1) p (by omega)
  have klo := C.lo
  have kmid := Rat.intCast_le_intCast.mpr mid
  have t1 : ((kn K (q + 1) : Int) : Rat) = t := by grind
  have t2 : ((kn K p : Int) : Rat) = t := by grind
  by_cases hd : p - q ≤ d
  · refine Or.inl ?_
    unfold vs
    refine sm_congr _ (fun i _ => ?_)
    rw [nb_jump le (by omega) t1 t2 (by omega) C.lt d hd i]
  · refine Or.inr ?_
    have pn := B.c.pn
    have := (cnt_ge (K := K) (t := t) (q := q) K.length p (by omega) (fun i h1 h2 => by
      rw [rd_kn (show i < K.length by omega)]
      refine eq_num ?_
      have a := Rat.intCast_le_intCast.mpr (le (q + 1) i (by omega))
      have b := Rat.intCast_le_intCast.mpr (le i p h2)
      grind)).1
    omega
theorem cnt_le (K : List Int) (t : Rat) : ∀ m : Nat, 0 ≤ cnt K t m ∧ cnt K t m ≤ m
  | 0 => by simp [cnt]
  | m + 1 => by
    have := cnt_le K t m
    unfold cnt
    split <;> omega
theorem mir_mir (K : List Int) : mir (mir K) = K := by
  refine rd_ext (by rw [mir_len, mir_len]) (fun j hj => ?_)
  rw [mir_len, mir_len] at hj
  have h1 := kn_mir (K := mir K) (i := j) (by rw [mir_len]; exact hj)
  have h2 := kn_mir (K := K) (i := K.length - 1 - j) (by omega)
  rw [mir_len] at h1
  rw [rd_kn (show j < (mir (mir K)).length by rw [mir_len, mir_len]; exact hj), rd_kn hj, h1, h2, show K.length - 1 - (K.length - 1 - j) = j by omega]
  omega
theorem mirrored_l0 {d : Nat} {K P : List Int} {t : Rat} {p p' : Nat} (B : Bs d K P t p) (B' : Bs d (mir K) P.reverse (12 - t) p') : ∀ n k (i : Nat), i + n = K.length → 400 + KG + n ≤ k → 6000 + n ≤ k →
    congoulaw04_CurvesMirrored.l0 k (cnt K t i) K K.length i d K P t.num t.den d (mir K) P.reverse (vs K P p t d P.length).num (vs K P p t d P.length).den = some true := by
  have V := B.v
  have I := B.i
  have hK := V.hK
  have h8 := V.h8
  have hd := V.hd
  have y1 := I.y1
  have y12 := I.y12
  have x0 := I.x0
  have x12 := I.x12
  intro n
  induction n with
  | zero =>
    intro k i hi hk hk2
    obtain ⟨k, rfl⟩ : ∃ m, k = m + 1 := ⟨k - 1, by omega⟩
    obtain rfl : i = K.length := by omega
    have rk : Rk k := ⟨by omega, by omega⟩
    have h12 : ((12 : Int) : Rat) = 12 := rfl
    have h1 : ((1 : Int) : Rat) = 1 := rfl
    have e := coef' (t := t) (z := 12) (w := 1) (by omega)
    rw [Int.mul_one, h12, h1] at e
    have e2 : (12 - t) / (1 : Rat) = 12 - t := by grind
    rw [e2] at e
    have v2 := value_top rk B'
    rw [List.length_reverse] at v2
    rw [congoulaw04_CurvesMirrored.l0, if_neg (by omega), w64 (i := 12 * (t.den : Int)) (by omega) (by omega), w64 (by omega) (by omega), frac_f (Nat.le_of_succ_le (kf_kg rk)) (by omega) (by omega) (by omega) (by omega), e, Option.bind_some]
    unfold cn
    dsimp only
    rw [v2, Option.bind_some, if_pos rfl, awake_f (by omega)]
    rcases value_mir B B' with h | h
    · rw [h, if_pos (by simp), Option.bind_some]
    · split
      · rfl
      · first | rfl | (rw [if_pos h]; rfl)
  | succ n ih =>
    intro k i hi hk hk2
    obtain ⟨k, rfl⟩ : ∃ m, k = m + 1 := ⟨k - 1, by omega⟩
    have b := V.h0 i
    rw [← rd_kn (show i < K.length by omega)] at b
    have bm := kn_le_mul (z := rd K i) (y := (t.den : Int)) b y1 y12
    have c := cnt_le K t i
    have IH := ih k (i + 1) (by omega) (by omega) (by omega)
    rw [congoulaw04_CurvesMirrored.l0, if_pos (by omega), if_pos (by omega), if_pos (by omega), w64 (i := rd K i * (t.den : Int)) (by omega) (by omega), w64 (i := (i : Int) + 1) (by omega) (by omega), w64 (i := cnt K t i + 1) (by omega) (by omega)]
    by_cases h : rd K (i : Int) * (t.den : Int) = t.num
    · rw [if_pos h]
      rw [cnt, if_pos h] at IH
      exact IH
    · rw [if_neg h]
      rw [cnt, if_neg h, Int.add_zero] at IH
      exact IH
theorem CurvesMirrored (a0_0 : Int) (l0_1 : List Int) (l0_2 : List Int) (a1_0 : Int) (a1_1 : Int) (h0_ : (Lit.int .i64 a0_0).wf = true) (h1_ : l0_1.length ≤ maxLen) (h2_ : (∀ x ∈ l0_1, (Lit.int .i64 x).wf = true)) (h3_ : l0_2.length ≤ maxLen) (h4_ : (∀ x ∈ l0_2, (Lit.int .i64 x).wf = true)) (h5_ : (Lit.int .i64 a1_0).wf = true) (h6_ : (Lit.int .i64 a1_1).wf = true) : ∃ k, congoulaw04_CurvesMirrored.f k a0_0 l0_1 l0_2 a1_0 a1_1 = some true := by
  obtain ⟨q, hq, hq4⟩ : ∃ q, Rp q ∧ (450 + KG ≤ q ∧ 7000 ≤ q) := ⟨18446744073709570000, ⟨by decide, by decide⟩, by decide, by decide⟩
  have up : ∀ m, Rp (q + m) := fun m => ⟨Nat.le_trans hq.a (Nat.le_add_right _ _), Nat.le_trans hq.b (Nat.le_add_right _ _)⟩
  have rk : ∀ m, Rk (q + m) := fun m => ⟨(up m).a, (up m).b⟩
  refine ⟨q + 3, ?_⟩
  have hP : l0_2.length ≤ 9223372036854775807 := by
    unfold maxLen at h3_
    omega
  have hT : (l0_2.take 23).length ≤ 9223372036854775807 := by rw [List.length_take]; omega
  unfold congoulaw04_CurvesMirrored.f
  simp only [of_law, Option.bind_some]
  by_cases hv : VPI a0_0 l0_1 l0_2
  · have hvv := hv
    obtain ⟨d, rfl, V⟩ := hv
    obtain ⟨e1, e2⟩ := vp_len V
    obtain ⟨f1, f2⟩ := vp_len (vp_mir V)
    have h8 := V.h8
    have hK := V.hK
    have hd := V.hd
    have mb := mirror_ok (up 2) (vp_mir V)
    rw [mir_mir, List.reverse_reverse] at mb
    rw [e1, e2, mirror_ok (up 3) V, Option.bind_some, if_pos rfl, rvalid_f (up 3).g hP, dc_true hvv, Option.bind_some]
    dsimp only
    rw [congoulaw04_CurvesMirrored.j0, if_neg (by decide)]
    simp only [of_law, Option.bind_some]
    rw [f1, f2, mb, Option.bind_some, if_pos rfl]
    dsimp only
    rw [same_refl _ _ _ (by omega) (by omega) (by have := hq.b; omega), Option.bind_some, congoulaw04_CurvesMirrored.j1, if_neg (by decide)]
    simp only [of_law, Option.bind_some]
    rw [e1, e2]
    by_cases hI : IPI d l0_1 l0_2 a1_0 a1_1
    · obtain ⟨d', e, I⟩ := hI
      obtain rfl : d = d' := by omega
      obtain ⟨t, p, rfl, rfl, B⟩ := bs_of V I
      obtain ⟨p', B'⟩ := bs_mir B
      rw [value_top (rk 1) B, Option.bind_some, if_pos rfl, in_f (up 1).g V, dc_true I, Option.bind_some]
      dsimp only
      rw [congoulaw04_CurvesMirrored.j2, if_neg (by decide)]
      exact mirrored_l0 B B' l0_1.length q 0 (by omega) (by omega) (by omega)
    · rw [value_bad (rk 1) hP (fun h => hI h.2), Option.bind_some, if_neg (by decide)]
      dsimp only
      rw [congoulaw04_CurvesMirrored.j2, if_pos rfl, if_pos rfl, awake_f (by have := hq.b; omega), Option.bind_some]
  · have hv2 : ¬ VPI a0_0 (l0_1.take 23) (l0_2.take 23) := fun h => hv (vpi_take.mp h)
    rw [mirror_bad (up 3) hT hv2, Option.bind_some, if_neg (by decide)]
    dsimp only
    rw [congoulaw04_CurvesMirrored.j0, if_pos rfl, if_pos rfl, awake_f (by have := hq.b; omega), Option.bind_some]
end Go.Proofs.Ytpnocmkpeogifaa.Pure
