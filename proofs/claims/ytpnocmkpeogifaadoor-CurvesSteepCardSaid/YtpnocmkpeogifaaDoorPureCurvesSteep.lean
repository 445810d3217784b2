/- CurvesSteep: between two knots a curve of degree 1 rises by its slope there. -/
import Derived.Test.YtpnocmkpeogifaaDoorXf4
import Derived.Test.YtpnocmkpeogifaaDoorSCa
import Derived.Test.YtpnocmkpeogifaaDoorSD
import Derived.Test.YtpnocmkpeogifaaDoorSS
namespace Go.Proofs.YtpnocmkpeogifaaDoor.Pure
set_option linter.unusedVariables false
set_option linter.unusedSimpArgs false
open Go.RowKit Go.Proofs.YtpnocmkpeogifaaDoor.X Go.Proofs.YtpnocmkpeogifaaDoorW.PrintWords Go.Proofs.YtpnocmkpeogifaaDoorW.PrintLast

theorem u64_wrapS (x : Int) : IntKind.u64.wrap x = x % 18446744073709551616 := by
  simp [IntKind.wrap, IntKind.bits, IntKind.signed]
/-- the place that a number stands for -/
theorem place {x : Int} {n : Nat} (h1 : 1 ≤ n) (h2 : n ≤ 100) : ∃ m : Nat, m < n ∧ wrap64 (Int.tmod (IntKind.u64.wrap x) (IntKind.u64.wrap (n : Int))) = (m : Int) := by
  have e : IntKind.u64.wrap (n : Int) = n := by rw [u64_wrapS]; omega
  have h0 : 0 ≤ IntKind.u64.wrap x := by rw [u64_wrapS]; omega
  rw [e, Int.tmod_eq_emod_of_nonneg h0]
  have a := Int.emod_nonneg (IntKind.u64.wrap x) (show (n : Int) ≠ 0 by omega)
  have b := Int.emod_lt_of_pos (IntKind.u64.wrap x) (show (0 : Int) < n by omega)
  refine ⟨((IntKind.u64.wrap x) % (n : Int)).toNat, by omega, ?_⟩
  rw [w64 (by omega) (by omega)]
  omega
theorem sm_two {f : Nat → Rat} {m : Nat} (h : ∀ i, i ≠ m → i ≠ m + 1 → f i = 0) : ∀ n, sm n f = (if m < n then f m else 0) + (if m + 1 < n then f (m + 1) else 0)
  | 0 => by rw [if_neg (by omega), if_neg (by omega)]; simp [sm]; grind
  | n + 1 => by
    rw [sm, sm_two h n]
    rcases Nat.lt_trichotomy n m with c | c | c
    · rw [if_neg (by omega), if_neg (by omega), if_neg (by omega), if_neg (by omega), h n (by omega) (by omega)]; grind
    · rw [if_neg (by omega), if_neg (by omega), if_pos (by omega), if_neg (by omega), c]; grind
    · by_cases e : n = m + 1
      · rw [if_pos (by omega), if_neg (by omega), if_pos (by omega), if_pos (by omega), e]; grind
      · rw [if_pos (by omega), if_pos (by omega), if_pos (by omega), if_pos (by omega), h n (by omega) (by omega)]; grind
/-- a value of a curve of degree 1 -/
theorem vs_one {K P : List Int} {t : Rat} {m : Nat} (B : Bs 1 K P t (m + 1)) : vs K P (m + 1) t 1 P.length =
    (kn K (m + 2) - t) / ((kn K (m + 2) - kn K (m + 1) : Int) : Rat) * ((rd P (m : Int) : Int) : Rat) + (t - kn K (m + 1)) / ((kn K (m + 2) - kn K (m + 1) : Int) : Rat) * ((rd P ((m + 1 : Nat) : Int) : Int) : Rat) := by
  have pn := B.c.pn
  unfold vs
  rw [sm_two (m := m) (fun i h1 h2 => by rw [nb_supp 1 i (by omega)]; grind), if_pos (by omega), if_pos (by omega)]
  have e1 : Nb (kn K) (m + 1) t 1 m = (kn K (m + 2) - t) / ((kn K (m + 2) - kn K (m + 1) : Int) : Rat) := by
    simp only [Nb]
    rw [if_neg (by omega), if_pos trivial]
    grind
  have e2 : Nb (kn K) (m + 1) t 1 (m + 1) = (t - kn K (m + 1)) / ((kn K (m + 2) - kn K (m + 1) : Int) : Rat) := by
    simp only [Nb]
    rw [if_pos trivial, if_neg (by omega)]
    grind
  rw [e1, e2]
theorem steep {K P : List Int} {t u : Rat} {m : Nat} (B : Bs 1 K P t (m + 1)) (C : Bs 1 K P u (m + 1)) : vs K P (m + 1) t 1 P.length + slq 1 K P m * (u + -t * 1) = vs K P (m + 1) u 1 P.length := by
  have lt := B.c.lt
  rw [vs_one B, vs_one C, slq, Rat.divInt_eq_div, show m + 1 + 1 = m + 2 by omega]
  have hw : ((kn K (m + 2) - kn K (m + 1) : Int) : Rat) ≠ 0 := by
    have := Rat.intCast_pos.mpr (show 0 < kn K (m + 2) - kn K (m + 1) by rw [show m + 1 + 1 = m + 2 by omega] at lt; omega)
    intro e
    rw [e] at this
    exact Rat.lt_irrefl this
  have e : ((((1 : Nat) : Int) * (rd P ((m + 1 : Nat) : Int) - rd P (m : Int)) : Int) : Rat) = ((rd P ((m + 1 : Nat) : Int) : Int) : Rat) - ((rd P (m : Int) : Int) : Rat) := by
    rw [show ((1 : Nat) : Int) = 1 from rfl, Int.one_mul, Rat.intCast_sub]
  rw [e]
  generalize ((kn K (m + 2) - kn K (m + 1) : Int) : Rat) = w at *
  grind
theorem slope_ok {k : Nat} (hk : Rk k) {d : Nat} {K P : List Int} (V : VP d K P) (hd1 : 1 ≤ d) : curves_Slope.f k d K P = some ((d : Int) - 1, (K.take (K.length - 1)).drop 1, lm (slq d K P) (P.length - 1), 0) := by
  have h8 := V.h8; have hn := V.hn
  have ha := hk.a; have hb := hk.b
  unfold curves_Slope.f
  rw [valid_f (Nat.le_trans (by decide) hk.a) (by omega), dc_true ⟨d, rfl, V⟩, Option.bind_some, if_pos rfl, if_neg (by omega), w64 (by omega) (by omega), show (P.length : Int) - 1 = ((P.length - 1 : Nat) : Int) by omega]
  exact slope_l0 V hd1 (P.length - 1) k 0 (by omega) (by omega)
theorem lms_rd {f : Nat → Rat} {m i : Nat} (h : i < m) : rd_T26 (lm f m) (i : Int) = s26 (f i) := by
  simp [rd_T26, lm, List.getD_eq_getElem?_getD, List.getElem?_map, List.getElem?_range h]
theorem pt_sm {d : Nat} {K P : List Int} {t : Rat} (I : IP d K P t.num t.den) (D : Nat) (h : t.den ∣ D) : Sm D 12 t := by
  have h0 := I.x0; have h1 := I.x12
  refine ⟨h, ?_, ?_⟩
  · have : (0 : Rat) ≤ t := Rat.num_nonneg.mp h0
    have o : (((12 : Nat) : Rat)) = 12 := rfl
    grind
  · have : t ≤ ((12 : Int) : Rat) := by rw [Rat.le_iff, Rat.num_intCast, Rat.den_intCast]; simpa using h1
    exact this
theorem slq_sm {K P : List Int} (V : VP 1 K P) {m : Nat} (hm : m + 1 < P.length) (hw : 0 < kn K (m + 2) - kn K (m + 1)) : (slq 1 K P m).den ∣ (kn K (m + 2) - kn K (m + 1)).toNat ∧ (slq 1 K P m).num.natAbs ≤ 100 ∧ (slq 1 K P m).den ≤ 12 ∧ -100 ≤ slq 1 K P m ∧ slq 1 K P m ≤ 100 := by
  obtain ⟨s1, s2⟩ := slope_num V m hm
  have z1 := V.h0 (m + 2); have z2 := V.h0 (m + 1)
  have e0 : slq 1 K P m = Rat.divInt (rd P ((m + 1 : Nat) : Int) - rd P (m : Int)) (kn K (m + 2) - kn K (m + 1)) := by
    unfold slq; rw [show ((1 : Nat) : Int) = 1 from rfl, Int.one_mul, show m + 1 + 1 = m + 2 by omega]
  have na := num_abs (rd P ((m + 1 : Nat) : Int) - rd P (m : Int)) _ hw
  rw [← e0] at na
  have hd : (slq 1 K P m).den ∣ (kn K (m + 2) - kn K (m + 1)).toNat := by
    refine den_of_whole (z := rd P ((m + 1 : Nat) : Int) - rd P (m : Int)) (by omega) ?_
    have e : (((kn K (m + 2) - kn K (m + 1)).toNat : Nat) : Rat) = ((kn K (m + 2) - kn K (m + 1) : Int) : Rat) := by
      have : kn K (m + 2) - kn K (m + 1) = ((kn K (m + 2) - kn K (m + 1)).toNat : Int) := by omega
      rw [this]; rfl
    rw [e, e0, Rat.divInt_eq_div]
    have hne : ((kn K (m + 2) - kn K (m + 1) : Int) : Rat) ≠ 0 := by
      have := Rat.intCast_pos.mpr hw
      intro e
      rw [e] at this
      exact Rat.lt_irrefl this
    exact Rat.div_mul_cancel hne
  have n1 : (slq 1 K P m).num.natAbs ≤ 100 := by omega
  have dp := den_pos (slq 1 K P m)
  refine ⟨hd, n1, by omega, ?_, ?_⟩
  · have o : ((-100 : Int) : Rat) ≤ slq 1 K P m := by
      rw [Rat.le_iff, Rat.num_intCast, Rat.den_intCast]
      have : -100 * ((slq 1 K P m).den : Int) ≤ -100 := by omega
      have h2 : (-100 : Int) * ((slq 1 K P m).den : Int) ≤ (slq 1 K P m).num * ((1 : Nat) : Int) := by omega
      exact h2
    exact o
  · have o : slq 1 K P m ≤ ((100 : Int) : Rat) := by
      rw [Rat.le_iff, Rat.num_intCast, Rat.den_intCast]
      have h2 : (slq 1 K P m).num * ((1 : Nat) : Int) ≤ (100 : Int) * ((slq 1 K P m).den : Int) := by omega
      exact h2
    exact o
theorem steep_j3 {K P : List Int} {t u : Rat} {m : Nat} (B : Bs 1 K P t (m + 1)) (C : Bs 1 K P u (m + 1)) {k : Nat} (hk : Rl k) :
    congoulaw04_CurvesSteep.j3 (k + 1) (m : Int) (lm (slq 1 K P) (P.length - 1)) false t.num t.den u.num u.den (vs K P (m + 1) t 1 P.length).num (vs K P (m + 1) t 1 P.length).den (vs K P (m + 1) u 1 P.length).num (vs K P (m + 1) u 1 P.length).den = some true := by
  have V := B.v
  have h8 := V.h8
  have pn := B.c.pn
  have lt := B.c.lt
  rw [show m + 1 + 1 = m + 2 by omega] at lt
  have hb := hk.b
  have ha := hk.a
  have aw := awake_f (k := k) (by omega)
  have st := steep B C
  obtain ⟨q1, q2, q3, q4, q5⟩ := slq_sm V pn (by omega)
  have sx := B.vs_sm P.length (Nat.le_refl _)
  have eD : DB K t (m + 1) 1 = t.den * (kn K (m + 2) - kn K (m + 1)).toNat := rfl
  rw [eD] at sx
  have I := B.i; have J := C.i
  have z1 := V.h0 (m + 2); have z2 := V.h0 (m + 1)
  have tp := t.den_pos; have up := u.den_pos
  have td : t.den ≤ 12 := by have := I.y12; omega
  have ud : u.den ≤ 12 := by have := J.y12; omega
  have tn : t.num.natAbs ≤ 144 := by have := I.x0; have := I.x12; omega
  have un : u.num.natAbs ≤ 144 := by have := J.x0; have := J.x12; omega
  obtain ⟨w, hw⟩ : ∃ w, w = (kn K (m + 2) - kn K (m + 1)).toNat := ⟨_, rfl⟩
  have wp : 0 < w := by omega
  have wl : w ≤ 12 := by omega
  rw [← hw] at sx q1
  obtain ⟨sl, hsl⟩ : ∃ s, s = slq 1 K P m := ⟨_, rfl⟩
  rw [← hsl] at q1 q2 q3 q4 q5 st
  obtain ⟨x, hx⟩ : ∃ x, x = vs K P (m + 1) t 1 P.length := ⟨_, rfl⟩
  obtain ⟨y, hy⟩ : ∃ y, y = vs K P (m + 1) u 1 P.length := ⟨_, rfl⟩
  rw [← hx] at sx st ⊢
  rw [← hy] at st ⊢
  have D0 : 0 < t.den * u.den := Nat.mul_pos tp up
  have D0l : t.den * u.den ≤ 144 := Nat.mul_le_mul td ud
  have o1 : ((1 : Rat).num : Int) = 1 := rfl
  have o3 : (1 : Rat).den = 1 := rfl
  have o2 : (((1 : Rat).den : Nat) : Int) = 1 := rfl
  have n1 : (-t).num = -t.num := Rat.neg_num t
  have n2 : (-t).den = t.den := Rat.neg_den t
  have su := pt_sm J (t.den * u.den) (Nat.dvd_mul_left _ _)
  have stt := pt_sm I (t.den * u.den) (Nat.dvd_mul_right _ _)
  have snt : Sm (t.den * u.den) 12 (-t * 1) := by
    rw [Rat.mul_one]
    refine ⟨by rw [n2]; exact stt.1, ?_, ?_⟩
    · have := stt.2.2; grind
    · have := stt.2.1; grind
  have m1 := more_f (k := k) (by omega) (s := u) (a := -t) (b := 1) D0 su snt (by rw [o1, Int.mul_one, n1]; omega) (by rw [o3, Nat.mul_one, n2]; omega) (by rw [n1]; omega) (by rw [o1]; decide) (by rw [n2]; omega) (by rw [o3]; decide) (by omega) (by omega) (by omega)
  rw [n1, n2, o1, o2] at m1
  clear o1 o2 o3
  have D1 : 0 < t.den * u.den * w := Nat.mul_pos D0 wp
  have D1l : t.den * u.den * w ≤ 1728 := Nat.mul_le_mul D0l wl
  have sx2 : Sm (t.den * u.den * w) 400 x := ⟨Nat.dvd_trans sx.1 (by rw [Nat.mul_assoc]; exact Nat.mul_dvd_mul_left _ (Nat.dvd_mul_left _ _)), sx.2⟩
  obtain ⟨way, hway⟩ : ∃ y, y = u + -t * 1 := ⟨_, rfl⟩
  rw [← hway] at st m1
  have wd : way.den ∣ t.den * u.den := by rw [hway]; exact den_add_dvd D0 su.1 snt.1
  have o12 : (((12 : Nat) : Rat)) = 12 := rfl
  have w1 : -24 ≤ way := by rw [hway]; have := su.2.1; have := snt.2.1; have hu0 := su.2.1; grind
  have w2 : way ≤ 24 := by rw [hway]; have := su.2.2; have := snt.2.2; grind
  have wsm : Sm (t.den * u.den) 24 way := ⟨wd, w1, w2⟩
  have wn := wsm.num D0
  have wdl := wsm.den D0
  have sp : Sm (t.den * u.den * w) 2400 (sl * way) := by
    refine ⟨?_, ?_, ?_⟩
    · have := den_mul_dvd wp D0 q1 wd
      rwa [Nat.mul_comm] at this
    · have a1 : 0 ≤ (100 - sl) * (24 - way) := Rat.mul_nonneg (by grind) (by grind)
      have a2 : 0 ≤ (100 + sl) * (24 + way) := Rat.mul_nonneg (by grind) (by grind)
      have o : (((2400 : Nat) : Rat)) = 2400 := rfl
      rw [o]
      grind
    · have a1 : 0 ≤ (100 - sl) * (24 + way) := Rat.mul_nonneg (by grind) (by grind)
      have a2 : 0 ≤ (100 + sl) * (24 - way) := Rat.mul_nonneg (by grind) (by grind)
      have o : (((2400 : Nat) : Rat)) = 2400 := rfl
      rw [o]
      grind
  have m2 := more_f (k := k) (by omega) (s := x) (a := sl) (b := way) D1 sx2 sp (natAbs_mul_le (A := 100) (B := 5000) q2 (by omega) (by omega)) (Nat.le_trans (Nat.mul_le_mul q3 wdl) (by omega)) (by omega) (by omega) (by omega) (by omega) (by omega) (by omega) (by omega)
  rw [st] at m2
  have hm : (m : Int) < ((lm (slq 1 K P) (P.length - 1)).length : Int) := by rw [lm_len]; omega
  have br := lms_rd (f := slq 1 K P) (m := P.length - 1) (i := m) (by omega)
  rw [← hsl] at br
  unfold s26 at br
  rw [congoulaw04_CurvesSteep.j3, if_neg Bool.false_ne_true, w64 (i := -t.num) (by omega) (by omega), m1, Option.bind_some]
  dsimp only
  rw [if_pos rfl, if_pos (Int.natCast_nonneg m), if_pos hm, br]
  dsimp only
  rw [m2, Option.bind_some]
  dsimp only
  rw [if_pos rfl, if_pos (by simp), aw, Option.bind_some]
/-- the piece of a point between two knots -/
theorem piece_is {K P : List Int} {t : Rat} {p m : Nat} (B : Bs 1 K P t p) (hm : m + 2 ≤ P.length) (h1 : kn K (m + 1) * t.den ≤ t.num) (h2 : t.num < kn K (m + 2) * t.den) : p = m + 1 := by
  have y1 := B.i.y1
  have := mul_le_y (y := (t.den : Int)) (kn_le B.v.mono (m + 2) P.length hm) y1
  exact ((B.c.iff_in B.v B.i (by omega) (m + 1)).mp ⟨h1, h2⟩).symm
theorem CurvesSteep (a0_0 : Int) (l0_1 : List Int) (l0_2 : List Int) (a1 : Int) (a2_0 : Int) (a2_1 : Int) (a3_0 : Int) (a3_1 : Int) (h0_ : (Lit.int .i64 a0_0).wf = true) (h1_ : l0_1.length ≤ maxLen) (h2_ : (∀ x ∈ l0_1, (Lit.int .i64 x).wf = true)) (h3_ : l0_2.length ≤ maxLen) (h4_ : (∀ x ∈ l0_2, (Lit.int .i64 x).wf = true)) (h5_ : (Lit.int .i64 a1).wf = true) (h6_ : (Lit.int .i64 a2_0).wf = true) (h7_ : (Lit.int .i64 a2_1).wf = true) (h8_ : (Lit.int .i64 a3_0).wf = true) (h9_ : (Lit.int .i64 a3_1).wf = true) : ∃ k, congoulaw04_CurvesSteep.f k a0_0 l0_1 l0_2 a1 a2_0 a2_1 a3_0 a3_1 = some true := by
  obtain ⟨k, hk, hk1, hk2, hk3, hk4⟩ : ∃ k, Rl k ∧ Rl (k + 1) ∧ Rl (k + 2) ∧ Rl (k + 3) ∧ Rl (k + 4) := ⟨27670116110564327422, rl_any, ⟨by decide, by decide⟩, ⟨by decide, by decide⟩, ⟨by decide, by decide⟩, ⟨by decide, by decide⟩⟩
  refine ⟨k + 4, ?_⟩
  have hP : l0_2.length ≤ 9223372036854775807 := by unfold maxLen at h3_; omega
  have hT : (l0_2.take 23).length ≤ 9223372036854775807 := by rw [List.length_take]; omega
  have aw1 := awake_f (k := k + 1) (Nat.le_trans (by decide) hk1.b)
  have aw2 := awake_f (k := k + 2) (Nat.le_trans (by decide) hk2.b)
  have aw3 := awake_f (k := k + 3) (Nat.le_trans (by decide) hk3.b)
  have hkb := hk.b
  unfold congoulaw04_CurvesSteep.f
  simp only [of_law, Option.bind_some]
  by_cases hv : VPI a0_0 l0_1 l0_2
  · have hvv := hv
    obtain ⟨d, rfl, V⟩ := hv
    obtain ⟨e1, e2⟩ := vp_len V
    have h8 := V.h8; have hK := V.hK; have hd := V.hd; have hn := V.hn
    rw [e1, e2]
    by_cases h0 : d = 0
    · subst h0
      have es : curves_Slope.f (k + 4) ((0 : Nat) : Int) l0_1 l0_2 = some (0, [], [], 4) := by
        unfold curves_Slope.f
        rw [valid_f hk4.g hP, dc_true hvv, Option.bind_some, if_pos rfl, if_pos (by rfl)]
      rw [es, Option.bind_some]
      dsimp only
      rw [if_neg (by decide), congoulaw04_CurvesSteep.j0, if_pos rfl, if_neg (by decide), if_pos rfl, if_pos (by rfl), aw3, Option.bind_some]
    · rw [slope_ok hk4.rk V (by omega), Option.bind_some]
      dsimp only
      have l1 : (((l0_1.take (l0_1.length - 1)).drop 1).length : Int) = wrap64 ((l0_1.length : Int) - 2) := by
        rw [w64 (by omega) (by omega), List.length_drop, List.length_take]; omega
      have l2 : ((lm (slq d l0_1 l0_2) (l0_2.length - 1)).length : Int) = wrap64 ((l0_2.length : Int) - 1) := by
        rw [w64 (by omega) (by omega), lm_len]; omega
      have l3 : ((d : Int) == 0) = false := beq_eq_false_iff_ne.mpr (by omega)
      rw [if_pos rfl, rvalid_f hk4.g hP, dc_true hvv, Option.bind_some, show (!true) = false from rfl, congoulaw04_CurvesSteep.j0, if_neg Bool.false_ne_true, if_pos (by rw [w64 (by omega) (by omega)]), if_pos l1, if_pos l2, l3, congoulaw04_CurvesSteep.j1, if_neg Bool.false_ne_true]
      by_cases h1 : d = 1
      · subst h1
        obtain ⟨m, hm, em⟩ := place (x := a1) (n := l0_2.length - 1) (by omega) (by omega)
        have e3 : IntKind.u64.wrap ((l0_2.length - 1 : Nat) : Int) ≠ 0 := by rw [u64_wrapS]; omega
        rw [lm_len, em, if_pos (by rfl), if_neg e3, w64 (i := (m : Int) + 1) (by omega) (by omega), w64 (i := (m : Int) + 2) (by omega) (by omega), show (m : Int) + 1 = ((m + 1 : Nat) : Int) by omega, show (m : Int) + 2 = ((m + 2 : Nat) : Int) by omega,
          if_pos (Int.natCast_nonneg _), if_pos (by omega), if_pos (Int.natCast_nonneg _), if_pos (by omega), rd_kn (by omega), rd_kn (by omega)]
        have j2t : congoulaw04_CurvesSteep.j2 (k + 2) (m : Int) (lm (slq 1 l0_1 l0_2) (l0_2.length - 1)) true ((1 : Nat) : Int) l0_1 l0_2 a2_0 a2_1 a3_0 a3_1 = some true := by
          rw [congoulaw04_CurvesSteep.j2, if_pos rfl, aw1, Option.bind_some]
        rw [in_f hk2.g V, Option.bind_some]
        by_cases it : IP 1 l0_1 l0_2 a2_0 a2_1
        rotate_left
        · rw [dc_false it, if_neg Bool.false_ne_true]; exact j2t
        rw [dc_true it, if_pos rfl, in_f hk2.g V, Option.bind_some]
        by_cases iu : IP 1 l0_1 l0_2 a3_0 a3_1
        rotate_left
        · rw [dc_false iu, if_neg Bool.false_ne_true]; exact j2t
        rw [dc_true iu, if_pos rfl]
        have b1 := kn_le_mul (V.h0 (m + 1)) it.y1 it.y12
        have b2 := kn_le_mul (V.h0 (m + 2)) it.y1 it.y12
        have b3 := kn_le_mul (V.h0 (m + 1)) iu.y1 iu.y12
        have b4 := kn_le_mul (V.h0 (m + 2)) iu.y1 iu.y12
        rw [w64 (i := kn l0_1 (m + 1) * a2_1) (by omega) (by omega), w64 (i := kn l0_1 (m + 2) * a2_1) (by omega) (by omega), w64 (i := kn l0_1 (m + 1) * a3_1) (by omega) (by omega), w64 (i := kn l0_1 (m + 2) * a3_1) (by omega) (by omega)]
        by_cases g1 : a2_0 < kn l0_1 (m + 1) * a2_1
        · rw [if_pos g1]; exact j2t
        rw [if_neg g1]
        by_cases g2 : a2_0 ≥ kn l0_1 (m + 2) * a2_1
        · rw [if_pos g2]; exact j2t
        rw [if_neg g2]
        by_cases g3 : a3_0 < kn l0_1 (m + 1) * a3_1
        · rw [if_pos g3]; exact j2t
        rw [if_neg g3]
        by_cases g4 : a3_0 ≥ kn l0_1 (m + 2) * a3_1
        · rw [decide_eq_true g4]; exact j2t
        rw [decide_eq_false g4]
        obtain ⟨t, p, et1, et2, B⟩ := bs_of V it
        obtain ⟨u, p', eu1, eu2, C⟩ := bs_of V iu
        obtain rfl := piece_is B (m := m) (by omega) (by rw [et1, et2]; omega) (by rw [et1, et2]; omega)
        obtain rfl := piece_is C (m := m) (by omega) (by rw [eu1, eu2]; omega) (by rw [eu1, eu2]; omega)
        rw [← et1, ← et2, ← eu1, ← eu2, congoulaw04_CurvesSteep.j2, if_neg Bool.false_ne_true]
        simp only [of_law, Option.bind_some]
        rw [e1, e2, value_top hk1.rk B, Option.bind_some, value_top hk1.rk C, Option.bind_some]
        dsimp only
        rw [if_pos rfl, show ((0 : Int) != 0) = false from rfl]
        exact steep_j3 B C hk
      · rw [if_neg (by omega), aw2, Option.bind_some]
  · have hv2 : ¬ VPI a0_0 (l0_1.take 23) (l0_2.take 23) := fun h => hv (vpi_take.mp h)
    have es : curves_Slope.f (k + 4) a0_0 (l0_1.take 23) (l0_2.take 23) = some (0, [], [], 2) := by
      unfold curves_Slope.f
      rw [valid_f hk4.g hT, dc_false hv2, Option.bind_some, if_neg Bool.false_ne_true]
    rw [es, Option.bind_some]
    dsimp only
    rw [if_neg (by decide), congoulaw04_CurvesSteep.j0, if_pos rfl, if_pos rfl, aw3, Option.bind_some]
end Go.Proofs.YtpnocmkpeogifaaDoor.Pure
