/- Plus of curves, and the reference's Mirror and Added. -/
import Derived.Test.YtpnocmkpeogifaaDoorSG
import Derived.Test.YtpnocmkpeogifaaDoorXf15
namespace Go.Proofs.YtpnocmkpeogifaaDoor.Pure
open Go.RowKit Go.Proofs.YtpnocmkpeogifaaDoor.X Go.Proofs.YtpnocmkpeogifaaDoorW.PrintWords Go.Proofs.YtpnocmkpeogifaaDoorW.PrintLast
set_option linter.unusedVariables false
set_option linter.unusedSimpArgs false
theorem rev_step (f : Int → Int) (l : List Int) (i : Nat) (hi : i < l.length) : ((l.drop (i + 1)).map f).reverse ++ [f (rd l (i : Int))] = ((l.drop i).map f).reverse := by
  rw [rd_nat l i hi, List.drop_eq_getElem_cons hi, List.map_cons, List.reverse_cons]
/-- the sums of two lists -/
def adds (P Q : List Int) : List Int := (List.range P.length).map (fun i : Nat => rd P (i : Int) + rd Q (i : Int))
theorem adds_len (P Q : List Int) : (adds P Q).length = P.length := by simp [adds]
theorem adds_rd {P Q : List Int} {t : Nat} (h : t < P.length) : rd (adds P Q) (t : Int) = rd P (t : Int) + rd Q (t : Int) := by
  rw [rd_nat _ t (by rw [adds_len]; exact h)]
  simp [adds]
theorem vp_adds {d : Nat} {K P Q : List Int} (V : VP d K P) : VPI d K (adds P Q) ↔ ∀ t : Nat, t < P.length → -50 ≤ rd P (t : Int) + rd Q (t : Int) ∧ rd P (t : Int) + rd Q (t : Int) ≤ 50 := by
  constructor
  · intro ⟨d', e, h⟩ t ht
    rw [← adds_rd ht]
    exact h.hP _ (rd_mem (by rw [adds_len]; exact ht))
  · intro h
    refine ⟨d, rfl, ⟨V.hd, by rw [adds_len]; exact V.hn, by rw [adds_len]; exact V.h8, by rw [adds_len]; exact V.hK, ?_, V.h0, V.mono, by rw [adds_len]; exact V.ne, by rw [adds_len]; exact V.span⟩⟩
    exact all_mem.mp (fun j _ hj => by rw [adds_len] at hj; rw [adds_rd hj]; exact h j hj)
theorem plusc_l0 {k0 : Nat} (hk0 : Rp k0) {d : Nat} {K P Q : List Int} (V : VP d K P) (W : VP d K Q) (hl : P.length = Q.length) : ∀ n k (i : Nat) (xs : List Int), i + n = P.length → k = k0 + n + 1 → xs.length = P.length →
    (∀ t : Nat, t < P.length → rd xs (t : Int) = if t < i then rd P (t : Int) + rd Q (t : Int) else rd P (t : Int)) →
    curves_Plus.l0 k Q Q.length i d K xs = some (if dc (VPI d K (adds P Q)) = true then ((d : Int), K, adds P Q, 0) else (0, [], [], 4)) := by
  have h8 := V.h8
  intro n
  induction n with
  | zero =>
    intro k i xs hi hk hx h
    subst hk
    have e : xs = adds P Q := rd_ext (by rw [adds_len]; exact hx) (fun t ht => by rw [adds_rd (by omega), h t (by omega), if_pos (by omega)])
    rw [curves_Plus.l0, if_neg (by omega), e, valid_f hk0.g (by rw [adds_len]; omega), Option.bind_some]
    split <;> rfl
  | succ n ih =>
    intro k i xs hi hk hx h
    subst hk
    obtain ⟨p1, p2⟩ := V.hP _ (rd_mem (show i < P.length by omega))
    obtain ⟨q1, q2⟩ := W.hP _ (rd_mem (show i < Q.length by omega))
    have hxi : rd xs (i : Int) = rd P (i : Int) := by rw [h i (by omega), if_neg (by omega)]
    rw [show k0 + (n + 1) + 1 = (k0 + n + 1) + 1 by omega, curves_Plus.l0, if_pos (by omega), if_pos (by omega), if_pos (by omega), if_pos (by omega), hxi, w64 (i := (i : Int) + 1) (by omega) (by omega), w64 (i := rd P i + rd Q i) (by omega) (by omega), Int.toNat_natCast]
    refine ih _ (i + 1) _ (by omega) rfl (by rw [List.length_set]; exact hx) (fun t ht => ?_)
    rw [rd_setT t (by omega), h t ht]
    by_cases e : t = i
    · rw [if_pos e, if_pos (by omega), e]
    · rw [if_neg e]
      by_cases e2 : t < i
      · rw [if_pos e2, if_pos (by omega)]
      · rw [if_neg e2, if_neg (by omega)]
end Go.Proofs.YtpnocmkpeogifaaDoor.Pure
