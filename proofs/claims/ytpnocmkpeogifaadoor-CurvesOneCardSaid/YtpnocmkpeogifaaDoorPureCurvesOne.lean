/- CurvesOne: the basic curves are from 0 to 1, sum to 1, and all but at most Degree + 1, which stand together, are 0. -/
import Derived.Test.YtpnocmkpeogifaaDoorXf3
import Derived.Test.YtpnocmkpeogifaaDoorSCa
import Derived.Test.YtpnocmkpeogifaaDoorSD
namespace Go.Proofs.YtpnocmkpeogifaaDoor.Pure
set_option linter.unusedVariables false
set_option linter.unusedSimpArgs false
open Go.RowKit Go.Proofs.YtpnocmkpeogifaaDoor.X Go.Proofs.YtpnocmkpeogifaaDoorW.PrintWords Go.Proofs.YtpnocmkpeogifaaDoorW.PrintLast

theorem bad_takeB {a : Int} {K P : List Int} {x y : Int} (h : ¬ (VPI a K P ∧ IPI a K P x y)) : ¬ (VPI a (K.take 23) (P.take 23) ∧ IPI a (K.take 23) (P.take 23) x y) := by
 intro ⟨h1, h2⟩
 obtain ⟨d, e, h3⟩ := h1
 obtain ⟨e1, e2⟩ := vp_take h3
 rw [e1, e2] at h2 h3
 exact h ⟨⟨d, e, h3⟩, h2⟩
/-- the sum of the first curves -/
def so (d : Nat) (K : List Int) (p : Nat) (t : Rat) (m : Nat) : Rat := sm m (Nb (kn K) p t d)
theorem so_sm {d : Nat} {K P : List Int} {t : Rat} {p : Nat} (h : Bs d K P t p) (m : Nat) (hm : m ≤ P.length) : Sm (DB K t p d) 8 (so d K p t m) := by
  have := Sm.sum (h.pos d) m (fun i hi => h.sm d i (Nat.le_refl _))
  have b : ((1 * m : Nat) : Rat) ≤ ((8 : Nat) : Rat) := Rat.natCast_le_natCast.mpr (by have := h.v.h8; omega)
  refine ⟨this.1, ?_, ?_⟩
  · have a := this.2.1
    unfold so
    grind
  · have a := this.2.2
    unfold so
    grind
/-- which curves were above 0 up to here -/
def Seen (d : Nat) (K : List Int) (p : Nat) (t : Rat) (f l : Int) (i : Nat) : Prop := (f = -1 ∧ l = -1) ∨ ∃ a b : Nat, f = a ∧ l = b ∧ a ≤ b ∧ b < i ∧ a + d ≥ p ∧ b ≤ p
theorem one_l0 {d : Nat} {K P : List Int} {t : Rat} {p : Nat} (h : Bs d K P t p) : ∀ n k (i : Nat) (f l : Int), i + n = P.length → 4611686018427388000 + KG + 2 * n ≤ k → Seen d K p t f l i →
    congoulaw04_CurvesOne.l0 k f l (bn K p t d P.length) P.length i d K P (so d K p t i).num (so d K p t i).den = some true := by
  have h8 := h.v.h8
  have hd3 := h.v.hd
  have Dp := h.pos d
  have Dl := h.le d h.v.hd
  intro n
  induction n with
  | zero =>
    intro k i f l hi hk S
    obtain ⟨k, rfl⟩ : ∃ m, k = m + 1 := ⟨k - 1, by omega⟩
    obtain rfl : i = P.length := by omega
    have e1 : so d K p t P.length = 1 := nb_sum h.pc d P.length h.c.pn h.c.dp
    have hpn := h.c.pn
    have hw : wrap64 (l - f) ≤ (d : Int) := by
      rcases S with ⟨s1, s2⟩ | ⟨a, b, s1, s2, s3, s4, s5, s6⟩
      · rw [s1, s2, w64 (by omega) (by omega)]; omega
      · rw [s1, s2, w64 (by omega) (by omega)]; omega
    rw [congoulaw04_CurvesOne.l0, if_neg (by omega), e1, if_pos (show (((1 : Rat).num == 1) && ((((1 : Rat).den : Nat) : Int) == 1)) = true from rfl), if_pos hw, awake_f (by omega), Option.bind_some]
  | succ n ih =>
    intro k i f l hi hk S
    obtain ⟨k, rfl⟩ : ∃ m, k = m + 1 + 1 := ⟨k - 2, by omega⟩
    have ni := h.sm d i (Nat.le_refl _)
    have nn := ni.num Dp
    have nd := ni.den Dp
    have n0 := nb_nonneg h.pc d i
    have n1 := nb_le_one h.pc d i h.c.dp
    have nn0 := Rat.num_nonneg.mpr n0
    have nle : (Nb (kn K) p t d i).num ≤ (Nb (kn K) p t d i).den := by
      rw [Rat.le_iff] at n1; simpa using n1
    have t1 : Sm (DB K t p d) 1 (Nb (kn K) p t d i * 1) := by rw [Rat.mul_one]; exact ni
    have o1 : ((1 : Rat).num : Int) = 1 := rfl
    have o3 : (1 : Rat).den = 1 := rfl
    have o2 : (((1 : Rat).den : Nat) : Int) = 1 := rfl
    have mf := more_f (k := k + 1) (by omega) (s := so d K p t i) (a := Nb (kn K) p t d i) (b := 1) Dp (so_sm h i (by omega)) t1
      (by rw [o1, Int.mul_one]; omega) (by rw [o3, Nat.mul_one]; omega) (by omega) (by rw [o1]; omega) (by omega) (by rw [o3]; omega) (by omega) (by omega) (by omega)
    rw [o1, o2, Rat.mul_one] at mf
    clear o1 o2 o3
    have es : so d K p t i + Nb (kn K) p t d i = so d K p t (i + 1) := by unfold so; rw [sm]
    rw [es] at mf
    have W : wrap64 ((i : Int) + 1) = ((i + 1 : Nat) : Int) := by rw [w64 (by omega) (by omega)]; omega
    have c1 : (i : Int) < (P.length : Int) := by omega
    have c2 : (0 : Int) ≤ (i : Int) := Int.natCast_nonneg i
    have c3 : (i : Int) < ((bn K p t d P.length).length : Int) := by rw [bn_len]; omega
    have c4 : ¬ (Nb (kn K) p t d i).num < 0 := by omega
    have c5 : ¬ (Nb (kn K) p t d i).num > ((Nb (kn K) p t d i).den : Int) := by omega
    have br := bn_rd (K := K) (p := p) (t := t) (e := d) (m := P.length) (i := i) (by omega)
    unfold s26 at br
    have b0 : (rd_T26 (bn K p t d P.length) (i : Int)).f0 = (Nb (kn K) p t d i).num := by rw [br]
    have b1 : (rd_T26 (bn K p t d P.length) (i : Int)).f1 = (Nb (kn K) p t d i).den := by rw [br]
    rw [congoulaw04_CurvesOne.l0, if_pos c1, if_pos c2, if_pos c3, b0, b1, mf, Option.bind_some]
    dsimp only
    rw [if_pos rfl, if_neg c4, decide_eq_false c5, congoulaw04_CurvesOne.j2, if_neg Bool.false_ne_true, W]
    clear W mf es t1 ni nn nd n0 n1 nn0 nle Dp Dl br b0 b1 c1 c2 c3 c4 c5
    have hk2 : 4611686018427388000 + KG + 2 * n ≤ k := by omega
    have hi2 : i + 1 + n = P.length := by omega
    clear hk hi
    by_cases g : (Nb (kn K) p t d i).num > 0
    · have sp : ¬ (p < i ∨ i + d < p) := by
        intro e
        have := nb_supp (K := kn K) (t := t) d i e
        rw [this] at g
        exact absurd g (by decide)
      rw [if_pos g]
      have e1 : p ≤ i + d := by omega
      have e2 : i ≤ p := by omega
      clear sp
      rcases S with ⟨s1, s2⟩ | ⟨a, b, s1, s2, s3, s4, s5, s6⟩
      · have c : f < 0 := by rw [s1]; decide
        rw [if_pos c]
        exact ih k (i + 1) i i hi2 hk2 (.inr ⟨i, i, rfl, rfl, Nat.le_refl _, Nat.lt_succ_self i, e1, e2⟩)
      · have c : ¬ f < 0 := by rw [s1]; exact Int.not_lt.mpr (Int.natCast_nonneg a)
        rw [if_neg c]
        exact ih k (i + 1) f i hi2 hk2 (.inr ⟨a, i, s1, rfl, Nat.le_trans s3 (Nat.le_of_lt s4), Nat.lt_succ_self i, s5, e2⟩)
    · rw [if_neg g]
      refine ih k (i + 1) f l hi2 hk2 ?_
      rcases S with s | ⟨a, b, s1, s2, s3, s4, s5, s6⟩
      · exact .inl s
      · exact .inr ⟨a, b, s1, s2, s3, Nat.lt_succ_of_lt s4, s5, s6⟩
theorem CurvesOne (a0_0 : Int) (l0_1 : List Int) (l0_2 : List Int) (a1_0 : Int) (a1_1 : Int) (h0_ : (Lit.int .i64 a0_0).wf = true) (h1_ : l0_1.length ≤ maxLen) (h2_ : (∀ x ∈ l0_1, (Lit.int .i64 x).wf = true)) (h3_ : l0_2.length ≤ maxLen) (h4_ : (∀ x ∈ l0_2, (Lit.int .i64 x).wf = true)) (h5_ : (Lit.int .i64 a1_0).wf = true) (h6_ : (Lit.int .i64 a1_1).wf = true) : ∃ k, congoulaw04_CurvesOne.f k a0_0 l0_1 l0_2 a1_0 a1_1 = some true := by
  obtain ⟨k, hk, hk1⟩ : ∃ k, Rl k ∧ Rl (k + 1) := ⟨27670116110564327422, rl_any, ⟨by decide, by decide⟩⟩
  refine ⟨k + 1, ?_⟩
  have hP : l0_2.length ≤ 9223372036854775807 := by unfold maxLen at h3_; omega
  have hT : (l0_2.take 23).length ≤ 9223372036854775807 := by rw [List.length_take]; omega
  have aw := awake_f (k := k) (Nat.le_trans (by decide) hk.b)
  have ha := hk.a
  unfold congoulaw04_CurvesOne.f
  simp only [of_law, Option.bind_some]
  by_cases hf : VPI a0_0 l0_1 l0_2 ∧ IPI a0_0 l0_1 l0_2 a1_0 a1_1
  · have hff := hf
    obtain ⟨⟨d, rfl, V⟩, d', e, I⟩ := hf
    obtain rfl : d = d' := by omega
    obtain ⟨t, p, rfl, rfl, B⟩ := bs_of V I
    obtain ⟨e1, e2⟩ := vp_len V
    have h8 := V.h8
    rw [e1, e2, basic_top hk1.rk B, Option.bind_some, if_pos rfl, fine_f hk1.rk hP, dc_true hff, Option.bind_some]
    dsimp only
    rw [congoulaw04_CurvesOne.j0, if_neg (by decide), bn_len, if_pos rfl]
    exact one_l0 B l0_2.length k 0 (-1) (-1) (by omega) (by omega) (.inl ⟨rfl, rfl⟩)
  · rw [basic_bad hk1.rk hT (bad_takeB hf), Option.bind_some, if_neg (by decide)]
    dsimp only
    rw [congoulaw04_CurvesOne.j0, if_pos rfl, if_pos rfl, aw, Option.bind_some]
end Go.Proofs.YtpnocmkpeogifaaDoor.Pure
