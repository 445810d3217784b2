/- Mirror of curves; lists and curves told equal. -/
import Derived.Test.YtpnocmkpeogifaaDoorSV
import Derived.Test.YtpnocmkpeogifaaDoorXG1a
import Derived.Test.YtpnocmkpeogifaaDoorXG2a
import Derived.Test.YtpnocmkpeogifaaDoorXf16
namespace Go.Proofs.YtpnocmkpeogifaaDoor.Pure
open Go.RowKit Go.Proofs.YtpnocmkpeogifaaDoor.X Go.Proofs.YtpnocmkpeogifaaDoorW.PrintWords Go.Proofs.YtpnocmkpeogifaaDoorW.PrintLast
set_option linter.unusedVariables false
set_option linter.unusedSimpArgs false

theorem rd_ext {xs ys : List Int} (h : xs.length = ys.length) (e : ∀ t : Nat, t < xs.length → rd xs (t : Int) = rd ys (t : Int)) : xs = ys := by
  refine List.ext_getElem h (fun i h1 h2 => ?_)
  have := e i h1
  rw [rd_nat _ i h1, rd_nat _ i h2] at this
  exact this
theorem rd_setT {P : List Int} {i : Nat} {v : Int} (j : Nat) (hj : j < P.length) : rd (P.set i v) (j : Int) = if j = i then v else rd P (j : Int) := by
  rw [rd_nat _ j (by rw [List.length_set]; exact hj), rd_nat P j hj, List.getElem_set]
  by_cases e : i = j
  · rw [if_pos e, if_pos e.symm]
  · rw [if_neg e, if_neg (fun h => e h.symm)]
theorem rd_map {P : List Int} (f : Int → Int) (j : Nat) (hj : j < P.length) : rd (P.map f) (j : Int) = f (rd P (j : Int)) := by
  rw [rd_nat _ j (by rw [List.length_map]; exact hj), rd_nat P j hj, List.getElem_map]
theorem rd_rev {P : List Int} (j : Nat) (hj : j < P.length) : rd P.reverse (j : Int) = rd P ((P.length - 1 - j : Nat) : Int) := by
  rw [rd_nat _ j (by rw [List.length_reverse]; exact hj), rd_nat P _ (by omega), List.getElem_reverse]
def mir (K : List Int) : List Int := (K.map (fun x => 12 - x)).reverse
theorem clone_f (l : List Int) (h : l.length < 17592186044416) : slices_Clone_int_int.f l = some l := by
  rw [slices_Clone_int_int.f, Option.bind_some, if_pos (by simpa using h), List.nil_append]
/-- rounds enough here -/
structure Rp (k : Nat) : Prop where
  a : 300 + KG ≤ k
  b : 5000 ≤ k
theorem Rp.g {k : Nat} (h : Rp k) : KG ≤ k := Nat.le_trans (by decide) h.a
/-- lists told equal -/
theorem eql_l0 (l m : List Int) (hL : l.length ≤ 9223372036854775806) (hm : l.length = m.length) : ∀ n k (i : Nat), i + n = l.length → n < k → slices_Equal_int_int.l0 k l m l.length i = some (dc (∀ t : Nat, i ≤ t → t < l.length → rd l (t : Int) = rd m (t : Int))) := by
  intro n
  induction n with
  | zero =>
    intro k i hi hk
    obtain ⟨k, rfl⟩ : ∃ m, k = m + 1 := ⟨k - 1, by omega⟩
    rw [slices_Equal_int_int.l0, if_neg (by omega), dc_true]
    intro t h1 h2
    omega
  | succ n ih =>
    intro k i hi hk
    obtain ⟨k, rfl⟩ : ∃ m, k = m + 1 := ⟨k - 1, by omega⟩
    rw [slices_Equal_int_int.l0, if_pos (by omega), if_pos (by omega), if_pos (by omega), if_pos (by omega)]
    by_cases h : rd l i = rd m i
    · rw [if_pos h, w64 (by omega) (by omega), show ((i : Int) + 1) = ((i + 1 : Nat) : Int) by omega, ih k (i + 1) (by omega) (by omega), all_step (Q := fun t => rd l (t : Int) = rd m (t : Int)) (show i < l.length by omega)]
      refine congrArg some (dc_congr ?_)
      simp [h]
    · rw [if_neg h, dc_false]
      intro h2
      exact h (h2 i (by omega) (by omega))
theorem eql_f {k : Nat} (l m : List Int) (hL : l.length ≤ 9223372036854775806) (hk : l.length < k) : slices_Equal_int_int.f k l m = some (dc (l = m)) := by
  unfold slices_Equal_int_int.f
  by_cases h : l.length = m.length
  · rw [if_pos (by omega)]
    refine Eq.trans (eql_l0 l m hL h l.length k 0 (by omega) hk) ?_
    refine congrArg some (dc_congr ⟨fun e => rd_ext h (fun t ht => e t (by omega) ht), fun e t _ _ => by rw [e]⟩)
  · rw [if_neg (by omega), dc_false]
    intro e
    exact h (by rw [e])
theorem like_l0 (l m : List Int) (hL : l.length ≤ 9223372036854775806) (hm : l.length = m.length) (a : Int) (P : List Int) : ∀ n k (i : Nat), i + n = l.length → n < k → congouref04_Like.l0 k l l.length i a m P = some (dc (∀ t : Nat, i ≤ t → t < l.length → rd l (t : Int) = rd m (t : Int))) := by
  intro n
  induction n with
  | zero =>
    intro k i hi hk
    obtain ⟨k, rfl⟩ : ∃ m, k = m + 1 := ⟨k - 1, by omega⟩
    rw [congouref04_Like.l0, if_neg (by omega), dc_true]
    intro t h1 h2
    omega
  | succ n ih =>
    intro k i hi hk
    obtain ⟨k, rfl⟩ : ∃ m, k = m + 1 := ⟨k - 1, by omega⟩
    rw [congouref04_Like.l0, if_pos (by omega), if_pos (by omega), if_pos (by omega), if_pos (by omega)]
    by_cases h : rd m i = rd l i
    · rw [if_pos h, w64 (by omega) (by omega), show ((i : Int) + 1) = ((i + 1 : Nat) : Int) by omega, ih k (i + 1) (by omega) (by omega), all_step (Q := fun t => rd l (t : Int) = rd m (t : Int)) (show i < l.length by omega)]
      refine congrArg some (dc_congr ?_)
      simp [h]
    · rw [if_neg h, dc_false]
      intro h2
      exact h (h2 i (by omega) (by omega)).symm
theorem like_f {k : Nat} (a b : Int) (l P m Q : List Int) (hL : l.length ≤ 9223372036854775806) (hk : l.length + 2 < k) : congouref04_Like.f k a l P b m Q = some (dc (a = b ∧ l = m)) := by
  obtain ⟨k, rfl⟩ : ∃ m, k = m + 1 := ⟨k - 1, by omega⟩
  unfold congouref04_Like.f
  by_cases h0 : a = b
  rotate_left
  · rw [if_neg h0, congouref04_Like.j0, if_pos rfl, dc_false (fun h => h0 h.1)]
  rw [if_pos h0]
  by_cases h : l.length = m.length
  · have hne : ((l.length : Int) != (m.length : Int)) = false := by simp; omega
    rw [hne, congouref04_Like.j0, if_neg (by decide)]
    refine Eq.trans (like_l0 l m hL h b Q l.length k 0 (by omega) (by omega)) ?_
    refine congrArg some (dc_congr ⟨fun e => ⟨h0, rd_ext h (fun t ht => e t (by omega) ht)⟩, fun e t _ _ => by rw [e.2]⟩)
  · have hne : ((l.length : Int) != (m.length : Int)) = true := by simp; omega
    rw [hne, congouref04_Like.j0, if_pos rfl, dc_false]
    intro e
    exact h (by rw [e.2])
end Go.Proofs.YtpnocmkpeogifaaDoor.Pure
