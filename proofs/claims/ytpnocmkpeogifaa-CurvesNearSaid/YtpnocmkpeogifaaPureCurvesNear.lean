/- Another pole changes the value by its basic curve times the change. -/
import Derived.Test.YtpnocmkpeogifaaSD
import Derived.Test.YtpnocmkpeogifaaXf4
namespace Go.Proofs.Ytpnocmkpeogifaa.Pure
open Go.RowKit Go.Proofs.Ytpnocmkpeogifaa.X Go.Proofs.YtpnocmkpeogifaaW.PrintWords Go.Proofs.YtpnocmkpeogifaaW.PrintLast
set_option linter.unusedVariables false
set_option linter.unusedSimpArgs false

theorem bad_takeN {a : Int} {K P : List Int} {x y : Int} (h : ¬ (VPI a K P ∧ IPI a K P x y)) : ¬ (VPI a (K.take 23) (P.take 23) ∧ IPI a (K.take 23) (P.take 23) x y) := by
 intro ⟨h1, h2⟩
 obtain ⟨d, e, h3⟩ := h1
 obtain ⟨e1, e2⟩ := vp_take h3
 rw [e1, e2] at h2 h3
 exact h ⟨⟨d, e, h3⟩, h2⟩
theorem rd_set {P : List Int} {i : Nat} {v : Int} (hi : i < P.length) (j : Nat) (hj : j < P.length) : rd (P.set i v) (j : Int) = if j = i then v else rd P (j : Int) := by
 rw [rd_nat _ j (by rw [List.length_set]; exact hj), rd_nat P j hj, List.getElem_set]
 by_cases e : i = j
 ·rw [if_pos e, if_pos e.symm]
 ·rw [if_neg e, if_neg (fun h => e h.symm)]
theorem vp_set {d : Nat} {K P : List Int} (V : VP d K P) {i : Nat} {v : Int} (hi : i < P.length) (h1 : -50 ≤ v ∧ v ≤ 50) : VP d K (P.set i v) := by
 have l : (P.set i v).length = P.length := List.length_set
 refine ⟨V.hd, by rw [l]; exact V.hn, by rw [l]; exact V.h8, by rw [l]; exact V.hK, ?_, V.h0, V.mono, by rw [l]; exact V.ne, by rw [l]; exact V.span⟩
 intro x hx
 rcases List.mem_or_eq_of_mem_set hx with h | h
 ·exact V.hP x h
 ·rw [h]; exact h1
theorem bs_set {d : Nat} {K P : List Int} {t : Rat} {p : Nat} (B : Bs d K P t p) {i : Nat} {v : Int} (hi : i < P.length) (h1 : -50 ≤ v ∧ v ≤ 50) : Bs d K (P.set i v) t p := by
 have l : (P.set i v).length = P.length := List.length_set
 obtain ⟨V, I, C⟩ := B
 refine ⟨vp_set V hi h1, ⟨I.y1, I.y12, I.x0, I.x12, I.g, I.lo, by rw [l]; exact I.hi⟩, ⟨by rw [l]; exact C.pn, C.dp, C.lt, C.lo, C.hi, by rw [l]; exact C.top, by rw [l]; exact C.mx⟩⟩
theorem sm_upd (f g : Nat → Rat) (i : Nat) (a : Rat) : ∀ m, i < m → sm m (fun j => f j * (if j = i then a else g j)) = sm m (fun j => f j * g j) + f i * (a - g i) := by
 have h0 : ∀ m, m ≤ i → sm m (fun j => f j * (if j = i then a else g j)) = sm m (fun j => f j * g j) := by
  intro m hm
  refine sm_congr m (fun j hj => ?_)
  rw [if_neg (by omega)]
 intro m
 induction m with
 | zero => intro h; omega
 | succ m ih =>
  intro h
  rw [sm, sm]
  by_cases e : m = i
  ·subst e
   rw [h0 m (Nat.le_refl _), if_pos rfl]
   grind
  ·rw [ih (by omega), if_neg e]
   grind
theorem vs_set {d : Nat} {K P : List Int} {t : Rat} {p : Nat} {i : Nat} {v : Int} (hi : i < P.length) :
  vs K (P.set i v) p t d P.length = vs K P p t d P.length + Nb (kn K) p t d i * ((v - rd P (i : Int) : Int) : Rat) := by
 unfold vs
 rw [Rat.intCast_sub, ← sm_upd (fun j => Nb (kn K) p t d j) (fun j => ((rd P (j : Int) : Int) : Rat)) i (v : Rat) P.length hi]
 refine sm_congr _ (fun j hj => ?_)
 rw [rd_set hi j hj]
 by_cases e : j = i
 ·rw [if_pos e, if_pos e]
 ·rw [if_neg e, if_neg e]
theorem u64_eq (x : Int) : IntKind.u64.wrap x = x % 18446744073709551616 := by simp [IntKind.wrap, IntKind.bits, IntKind.signed]
theorem u64_bd (x : Int) : 0 ≤ IntKind.u64.wrap x ∧ IntKind.u64.wrap x ≤ 18446744073709551615 := by
 rw [u64_eq]
 omega
theorem u64_id {x : Int} (h : 0 ≤ x) (h2 : x ≤ 18446744073709551615) : IntKind.u64.wrap x = x := by
 rw [u64_eq]
 omega
theorem CurvesNear (a0_0 : Int) (l0_1 : List Int) (l0_2 : List Int) (a1 : Int) (a2 : Int) (a3_0 : Int) (a3_1 : Int) (h0_ : (Lit.int .i64 a0_0).wf = true) (h1_ : l0_1.length ≤ maxLen) (h2_ : (∀ x ∈ l0_1, (Lit.int .i64 x).wf = true)) (h3_ : l0_2.length ≤ maxLen) (h4_ : (∀ x ∈ l0_2, (Lit.int .i64 x).wf = true)) (h5_ : (Lit.int .i64 a1).wf = true) (h6_ : (Lit.int .i64 a2).wf = true) (h7_ : (Lit.int .i64 a3_0).wf = true) (h8_ : (Lit.int .i64 a3_1).wf = true) : ∃ k, congoulaw04_CurvesNear.f k a0_0 l0_1 l0_2 a1 a2 a3_0 a3_1 = some true := by
 obtain ⟨k, hk, hk1⟩ : ∃ k, Rl k ∧ Rl (k + 1) := ⟨27670116110564327422, rl_any, ⟨by decide, by decide⟩⟩
 refine ⟨k + 1, ?_⟩
 have hP : l0_2.length ≤ 9223372036854775807 := by
  unfold maxLen at h3_
  omega
 have hT : (l0_2.take 23).length ≤ 9223372036854775807 := by rw [List.length_take]; omega
 have aw := awake_f (k := k) (Nat.le_trans (by decide) hk.b)
 unfold congoulaw04_CurvesNear.f
 simp only [of_law, Option.bind_some]
 by_cases hf : VPI a0_0 l0_1 l0_2 ∧ IPI a0_0 l0_1 l0_2 a3_0 a3_1
 ·have hff := hf
  obtain ⟨⟨d, rfl, V⟩, d', e, I⟩ := hf
  obtain rfl : d = d' := by omega
  obtain ⟨t, p, rfl, rfl, B⟩ := bs_of V I
  obtain ⟨e1, e2⟩ := vp_len V
  have h8 := V.h8
  have hn := V.hn
  have ha := hk.a
  have Dp := B.pos d
  have Dl := B.le d V.hd
  rw [e1, e2, value_top hk1.rk B, Option.bind_some, basic_top hk1.rk B, Option.bind_some, if_pos rfl, if_pos rfl, fine_f hk1.rk hP, dc_true hff, Option.bind_some]
  dsimp only
  rw [congoulaw04_CurvesNear.j0, if_neg (by decide), bn_len, if_pos rfl, u64_id (x := (l0_2.length : Int)) (by omega) (by omega), if_neg (by omega), list_f, e2, Option.bind_some]
  have m0 := u64_bd a1
  have m1 := Int.tmod_nonneg (l0_2.length : Int) m0.1
  have m2 := Int.tmod_lt_of_pos (IntKind.u64.wrap a1) (show (0 : Int) < (l0_2.length : Int) by omega)
  rw [w64 (i := Int.tmod (IntKind.u64.wrap a1) (l0_2.length : Int)) (by omega) (by omega)]
  obtain ⟨i, hi⟩ : ∃ i : Nat, Int.tmod (IntKind.u64.wrap a1) (l0_2.length : Int) = i := ⟨_, (Int.toNat_of_nonneg m1).symm⟩
  rw [hi] at m1 m2 ⊢
  have q0 := u64_bd a2
  have q1 := Int.tmod_nonneg (101 : Int) q0.1
  have q2 := Int.tmod_lt_of_pos (IntKind.u64.wrap a2) (show (0 : Int) < 101 by omega)
  generalize Int.tmod (IntKind.u64.wrap a2) 101 = z at q1 q2 ⊢
  have hil : i < l0_2.length := by omega
  obtain ⟨p1, p2⟩ := V.hP _ (rd_mem hil)
  rw [w64 (i := z) (by omega) (by omega), w64 (i := z - 50) (by omega) (by omega), if_pos (by omega), if_pos (by omega), of_law]
  have B2 := bs_set B (v := z - 50) hil (by omega)
  obtain ⟨f1, f2⟩ := vp_len B2.v
  have sl : (l0_2.set i (z - 50)).length = l0_2.length := List.length_set
  rw [Int.toNat_natCast, Option.bind_some, e1, f2]
  dsimp only
  rw [value_top hk.rk B2, Option.bind_some, if_pos (by omega), if_pos (by omega), congoulaw04_whole.f, Option.bind_some, w64 (i := z - 50 - rd l0_2 (i : Int)) (by omega) (by omega), bn_rd hil]
  unfold s26
  dsimp only
  have ni := B.sm d i (Nat.le_refl _)
  have nn := ni.num Dp
  have nd := ni.den Dp
  have n0 := nb_nonneg B.pc d i
  have n1 := nb_le_one B.pc d i B.c.dp
  have spc : Sm (DB l0_1 t p d) 100 (Nb (kn l0_1) p t d i * ((z - 50 - rd l0_2 (i : Int) : Int) : Rat)) := by
   have g1 : (-100 : Rat) ≤ ((z - 50 - rd l0_2 (i : Int) : Int) : Rat) := by
    have := Rat.intCast_le_intCast.mpr (show (-100 : Int) ≤ z - 50 - rd l0_2 (i : Int) by omega)
    exact this
   have g2 : ((z - 50 - rd l0_2 (i : Int) : Int) : Rat) ≤ (100 : Rat) := by
    have := Rat.intCast_le_intCast.mpr (show z - 50 - rd l0_2 (i : Int) ≤ (100 : Int) by omega)
    exact this
   have o100 : (((100 : Nat) : Rat)) = 100 := rfl
   refine ⟨?_, ?_, ?_⟩
   ·have := den_mul_dvd (D := DB l0_1 t p d) (E := 1) (b := ((z - 50 - rd l0_2 (i : Int) : Int) : Rat)) Dp (by decide) ni.1 (by rw [Rat.den_intCast]; exact Nat.dvd_refl _)
    rwa [Nat.mul_one] at this
   ·rw [o100]
    have a := Rat.mul_le_mul_of_nonneg_left (c := Nb (kn l0_1) p t d i) g1 n0
    grind
   ·rw [o100]
    have a := Rat.mul_le_mul_of_nonneg_left (c := Nb (kn l0_1) p t d i) g2 n0
    grind
  have mf := more_f (k := k) (by omega) (s := vs l0_1 l0_2 p t d l0_2.length) (a := Nb (kn l0_1) p t d i) (b := ((z - 50 - rd l0_2 (i : Int) : Int) : Rat)) Dp (B.vs_sm l0_2.length (Nat.le_refl _)) spc
   (by rw [Rat.num_intCast]; exact natAbs_mul_le (A := 15934165401600) (B := 100) (by omega) (by omega) (by omega)) (by rw [Rat.den_intCast]; omega) (by omega) (by rw [Rat.num_intCast]; omega) (by omega) (by rw [Rat.den_intCast]; omega) (by omega) (by omega) (by omega)
  rw [Rat.num_intCast, Rat.den_intCast] at mf
  rw [show (((1 : Nat) : Int)) = 1 from rfl] at mf
  rw [mf, Option.bind_some, if_pos rfl, if_pos rfl, sl, vs_set hil]
  dsimp only
  rw [if_pos (by simp), aw, Option.bind_some]
 ·rw [value_bad hk1.rk hT (bad_takeN hf), Option.bind_some, basic_bad hk1.rk hT (bad_takeN hf), Option.bind_some, if_neg (by decide)]
  dsimp only
  rw [congoulaw04_CurvesNear.j0, if_pos rfl, if_pos rfl, if_pos rfl, aw, Option.bind_some]
end Go.Proofs.Ytpnocmkpeogifaa.Pure
