/- Insert, in both packages, from its beginning. -/
import Derived.Test.YtpnocmkpeogifaaSJ
namespace Go.Proofs.Ytpnocmkpeogifaa.Pure
open Go.RowKit Go.Proofs.Ytpnocmkpeogifaa.X Go.Proofs.YtpnocmkpeogifaaW.PrintWords Go.Proofs.YtpnocmkpeogifaaW.PrintLast
set_option linter.unusedVariables false
set_option linter.unusedSimpArgs false

/-- what Insert returns of a knot of the span -/
def insR (d : Nat) (K P : List Int) (k : Int) (j : Nat) : List S26 × Int :=
  if P.length = 8 then ([], 6) else if kn K (j - d) = k then ([], 4) else (lm (pb (kn K) j k d P.length (PR P)) (P.length + 1), 0)
theorem insert_begin {q : Nat} (hq : Rk q) {d : Nat} {K P : List Int} (V : VP d K P) (k : Int) :
    curves_Insert.f q d K P k = (if k < kn K d then curves_Insert.j0 q k (eqs k K : Int) true d K P else curves_Insert.j0 q k (eqs k K : Int) (decide (k ≥ kn K P.length)) d K P) := by
  have hK := V.hK; have h8 := V.h8; have hd := V.hd; have hn := V.hn
  have hv := valid_f (k := q) (Nat.le_trans (by decide) hq.a) (a := (d : Int)) (K := K) (P := P) (by omega)
  have hx : xDel.f K k = some ((K.filter fun x => !decide (x = k)).length : Int) := by
    unfold xDel.f
    rw [if_pos ⟨by intro e; rw [e] at hK; simp at hK, by omega⟩]
  have hr := filter_rest k K
  unfold curves_Insert.f
  rw [hv, Option.bind_some, dc_true ⟨d, rfl, V⟩, if_pos rfl]
  unfold curves_Curve_span.f
  rw [if_pos (by omega), if_pos (by omega), if_pos (by omega), if_pos (by omega), Option.bind_some, hx, Option.bind_some, w64 (by omega) (by omega), rd_kn (by omega), rd_kn (by omega), show (K.length : Int) - ((K.filter fun x => !decide (x = k)).length : Int) = (eqs k K : Int) by omega]
theorem insert_out {q : Nat} (hq : Rk q) {d : Nat} {K P : List Int} (V : VP d K P) {k : Int} (h : ¬ (kn K d ≤ k ∧ k < kn K P.length)) : curves_Insert.f q d K P k = some ([], 2) := by
  obtain ⟨q, rfl⟩ : ∃ m, q = m + 1 := ⟨q - 1, by have := hq.b; omega⟩
  rw [insert_begin hq V k]
  by_cases c : k < kn K d
  · rw [if_pos c, curves_Insert.j0, if_pos rfl]
  · rw [if_neg c, decide_eq_true (by omega), curves_Insert.j0, if_pos rfl]
theorem insert_bad {q : Nat} (hq : Rk q) {a : Int} {K P : List Int} (hP : P.length ≤ 9223372036854775807) (h : ¬ VPI a K P) (k : Int) : curves_Insert.f q a K P k = some ([], 2) := by
  unfold curves_Insert.f
  rw [valid_f (Nat.le_trans (by decide) hq.a) hP, Option.bind_some, dc_false h, if_neg (by decide)]
theorem insert_in {q : Nat} (hq : Rk q) {d : Nat} {K P : List Int} {k : Int} {j : Nat} (h : Ins d K P k j) : curves_Insert.f q d K P k = some (insR d K P k j) := by
  have V := h.V
  have hK := V.hK; have h8 := V.h8; have hd := V.hd; have hn := V.hn
  obtain ⟨t1, t2⟩ := h.times
  have hqa := hq.a
  obtain ⟨q, rfl⟩ : ∃ m, q = (m + K.length + 1) + 1 := ⟨q - K.length - 2, by have := hq.b; omega⟩
  rw [insert_begin hq V k, if_neg (by have := h.lo; omega), decide_eq_false (by have := h.hi; omega), curves_Insert.j0, if_neg (by decide), w64 (by omega) (by omega)]
  unfold insR
  by_cases c : P.length = 8
  · rw [if_pos (by omega), if_pos c]
  · rw [if_neg (by omega), if_neg c]
    by_cases c2 : kn K (j - d) = k
    · have := t2.mpr c2
      rw [if_pos (by omega), if_pos c2]
    · have := fun e => c2 (t2.mp e)
      rw [if_neg (by omega), if_neg c2]
      have F := find_l0 h K.length q 0 (by omega)
      rw [show min (0 - 1) j = 0 by omega] at F
      rw [show ((0 : Nat) : Int) = 0 by rfl] at F
      rw [F]
      exact poles_l1 h (P.length + 1) q 0 (by omega) (by omega)

end Go.Proofs.Ytpnocmkpeogifaa.Pure
