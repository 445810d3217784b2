/- Mirror of curves; lists and curves told equal. -/
import Derived.Test.YtpnocmkpeogifaaSV
import Derived.Test.YtpnocmkpeogifaaE28
import Derived.Test.YtpnocmkpeogifaaXG1a
import Derived.Test.YtpnocmkpeogifaaXG2a
import Derived.Test.YtpnocmkpeogifaaXf37
namespace Go.Proofs.Ytpnocmkpeogifaa.Pure
open Go.RowKit Go.Proofs.Ytpnocmkpeogifaa.X Go.Proofs.YtpnocmkpeogifaaW.PrintWords Go.Proofs.YtpnocmkpeogifaaW.PrintLast
set_option linter.unusedVariables false
set_option linter.unusedSimpArgs false

theorem rd_ext {xs ys : List Int} (h : xs.length = ys.length) (e : ∀ t : Nat, t < xs.length → rd xs (t : Int) = rd ys (t : Int)) : xs = ys := by
  refine List.ext_getElem h (fun i h1 h2 => ?_)
  have := e i h1
  rw [rd_nat _ i h1, rd_nat _ i h2] at this
  exact this
theorem rd_setT {P : List Int} {i : Nat} {v : Int} (j : Nat) (hj : j < P.length) : rd (P.set i v) (j : Int) = if j = i then v else rd P (j : Int) := by
  rw [rd_nat _ j (by rw [List.length_set]; exact hj), rd_nat P j hj, List.getElem_set]
  by_cases e : i = j
  · rw [if_pos e, if_pos e.symm]
  · rw [if_neg e, if_neg (fun h => e h.symm)]
theorem rd_map {P : List Int} (f : Int → Int) (j : Nat) (hj : j < P.length) : rd (P.map f) (j : Int) = f (rd P (j : Int)) := by
  rw [rd_nat _ j (by rw [List.length_map]; exact hj), rd_nat P j hj, List.getElem_map]
theorem rd_rev {P : List Int} (j : Nat) (hj : j < P.length) : rd P.reverse (j : Int) = rd P ((P.length - 1 - j : Nat) : Int) := by
  rw [rd_nat _ j (by rw [List.length_reverse]; exact hj), rd_nat P _ (by omega), List.getElem_reverse]
theorem reverse_l0 (l : List Int) (hL : l.length ≤ 1000) : ∀ m k (i : Nat) (ys : List Int), l.length - 2 * i ≤ m → m < k → 2 * i ≤ l.length + 1 → ys.length = l.length →
    (∀ t : Nat, t < l.length → rd ys (t : Int) = if t < i ∨ l.length - i ≤ t then rd l ((l.length - 1 - t : Nat) : Int) else rd l (t : Int)) →
    slices_Reverse_int_int.l0 k ys i ((l.length : Int) - 1 - i) = some l.reverse := by
  intro m
  induction m with
  | zero =>
    intro k i ys hm hk h2 hy hi
    obtain ⟨k, rfl⟩ : ∃ m, k = m + 1 := ⟨k - 1, by omega⟩
    rw [slices_Reverse_int_int.l0, if_neg (by omega)]
    refine congrArg some (rd_ext (by rw [hy, List.length_reverse]) (fun t ht => ?_))
    rw [rd_rev t (by omega), hi t (by omega)]
    split
    · rfl
    · rw [show l.length - 1 - t = t by omega]
  | succ m ih =>
    intro k i ys hm hk h2 hy hi
    obtain ⟨k, rfl⟩ : ∃ m, k = m + 1 := ⟨k - 1, by omega⟩
    by_cases hlt : (i : Int) < (l.length : Int) - 1 - i
    · have hj : ((l.length : Int) - 1 - i) = ((l.length - 1 - i : Nat) : Int) := by omega
      rw [slices_Reverse_int_int.l0, if_pos hlt, if_pos (by omega), if_pos (by omega), if_pos (by omega), if_pos (by omega), w64 (i := (i : Int) + 1) (by omega) (by omega), w64 (i := (l.length : Int) - 1 - i - 1) (by omega) (by omega)]
      have := ih k (i + 1) ((ys.set i (rd ys ((l.length : Int) - 1 - i))).set (l.length - 1 - i) (rd ys i)) (by omega) (by omega) (by omega) (by rw [List.length_set, List.length_set, hy]) (fun t ht => ?_)
      · rw [show (((i + 1 : Nat) : Int)) = (i : Int) + 1 by omega] at this
        rw [show ((l.length : Int) - 1 - i - 1) = (l.length : Int) - 1 - ((i : Int) + 1) by omega, show ((l.length : Int) - 1 - (i : Int)).toNat = l.length - 1 - i by omega]
        exact this
      · rw [rd_setT t (by rw [List.length_set]; omega), rd_setT t (by omega), hj, hi (l.length - 1 - i) (by omega), hi i (by omega), hi t ht]
        by_cases e1 : t = l.length - 1 - i
        · rw [if_pos e1, if_neg (by omega), if_pos (by omega), show l.length - 1 - t = i by omega]
        · rw [if_neg e1]
          by_cases e2 : t = i
          · rw [if_pos e2, if_neg (by omega), if_pos (by omega), e2]
          · rw [if_neg e2]
            by_cases e3 : t < i ∨ l.length - i ≤ t
            · rw [if_pos e3, if_pos (by omega)]
            · rw [if_neg e3, if_neg (by omega)]
    · rw [slices_Reverse_int_int.l0, if_neg hlt]
      refine congrArg some (rd_ext (by rw [hy, List.length_reverse]) (fun t ht => ?_))
      rw [rd_rev t (by omega), hi t (by omega)]
      split
      · rfl
      · rw [show l.length - 1 - t = t by omega]
theorem reverse_f {k : Nat} (l : List Int) (hL : l.length ≤ 1000) (hk : 1000 < k) : slices_Reverse_int_int.f k l = some l.reverse := by
  rw [slices_Reverse_int_int.f, w64 (by omega) (by omega)]
  have := reverse_l0 l hL l.length k 0 l (by omega) (by omega) (by omega) rfl (fun t ht => by rw [if_neg (by omega)])
  rw [show ((l.length : Int) - 1 - ((0 : Nat) : Int)) = (l.length : Int) - 1 by omega] at this
  exact this
def mir (K : List Int) : List Int := (K.map (fun x => 12 - x)).reverse
theorem mirror_l0 {d : Nat} {K P : List Int} (V : VP d K P) : ∀ n k (i : Nat) (xs : List Int), i + n = K.length → n + 1500 < k → xs.length = K.length →
    (∀ t : Nat, t < K.length → rd xs (t : Int) = if t < i then 12 - rd K (t : Int) else rd K (t : Int)) →
    curves_Mirror.l0 k K K.length i d xs P = some ((d : Int), mir K, P.reverse, 0) := by
  have hK := V.hK
  have h8 := V.h8
  have hd := V.hd
  intro n
  induction n with
  | zero =>
    intro k i xs hi hk hx h
    obtain ⟨k, rfl⟩ : ∃ m, k = m + 1 := ⟨k - 1, by omega⟩
    have e : xs = K.map (fun x => 12 - x) := rd_ext (by rw [List.length_map]; exact hx) (fun t ht => by rw [rd_map _ t (by omega), h t (by omega), if_pos (by omega)])
    rw [curves_Mirror.l0, if_neg (by omega), reverse_f xs (by omega) (by omega), Option.bind_some, reverse_f P (by omega) (by omega), Option.bind_some, e]
    rfl
  | succ n ih =>
    intro k i xs hi hk hx h
    obtain ⟨k, rfl⟩ : ∃ m, k = m + 1 := ⟨k - 1, by omega⟩
    have b := V.h0 i
    rw [← rd_kn (show i < K.length by omega)] at b
    rw [curves_Mirror.l0, if_pos (by omega), if_pos (by omega), if_pos (by omega), if_pos (by omega), w64 (i := (i : Int) + 1) (by omega) (by omega), w64 (i := 12 - rd K i) (by omega) (by omega), Int.toNat_natCast]
    refine ih k (i + 1) _ (by omega) (by omega) (by rw [List.length_set]; exact hx) (fun t ht => ?_)
    rw [rd_setT t (by omega), h t ht]
    by_cases e : t = i
    · rw [if_pos e, if_pos (by omega), e]
    · rw [if_neg e]
      by_cases e2 : t < i
      · rw [if_pos e2, if_pos (by omega)]
      · rw [if_neg e2, if_neg (by omega)]
theorem clone_f (l : List Int) (h : l.length < 17592186044416) : slices_Clone_int_int.f l = some l := by
  rw [slices_Clone_int_int.f, Option.bind_some, if_pos (by simpa using h), List.nil_append]
/-- rounds enough here -/
structure Rp (k : Nat) : Prop where
  a : 300 + KG ≤ k
  b : 5000 ≤ k
theorem Rp.g {k : Nat} (h : Rp k) : KG ≤ k := Nat.le_trans (by decide) h.a
theorem mirror_ok {k : Nat} (hk : Rp k) {d : Nat} {K P : List Int} (V : VP d K P) : curves_Mirror.f k d K P = some ((d : Int), mir K, P.reverse, 0) := by
  have hK := V.hK
  have h8 := V.h8
  have hd := V.hd
  have hb := hk.b
  unfold curves_Mirror.f
  rw [valid_f hk.g (by omega), dc_true ⟨d, rfl, V⟩, Option.bind_some, if_pos rfl, clone_f K (by omega), Option.bind_some, clone_f P (by omega), Option.bind_some]
  exact mirror_l0 V K.length k 0 K (by omega) (by omega) rfl (fun t ht => by rw [if_neg (by omega)])
theorem mirror_bad {k : Nat} (hk : Rp k) {a : Int} {K P : List Int} (hP : P.length ≤ 9223372036854775807) (h : ¬ VPI a K P) : curves_Mirror.f k a K P = some (0, [], [], 2) := by
  unfold curves_Mirror.f
  rw [valid_f hk.g hP, dc_false h, Option.bind_some, if_neg (by decide)]
/-- lists told equal -/
theorem eql_l0 (l m : List Int) (hL : l.length ≤ 9223372036854775806) (hm : l.length = m.length) : ∀ n k (i : Nat), i + n = l.length → n < k → slices_Equal_int_int.l0 k l m l.length i = some (dc (∀ t : Nat, i ≤ t → t < l.length → rd l (t : Int) = rd m (t : Int))) := by
  intro n
  induction n with
  | zero =>
    intro k i hi hk
    obtain ⟨k, rfl⟩ : ∃ m, k = m + 1 := ⟨k - 1, by omega⟩
    rw [slices_Equal_int_int.l0, if_neg (by omega), dc_true]
    intro t h1 h2
    omega
  | succ n ih =>
    intro k i hi hk
    obtain ⟨k, rfl⟩ : ∃ m, k = m + 1 := ⟨k - 1, by omega⟩
    rw [slices_Equal_int_int.l0, if_pos (by omega), if_pos (by omega), if_pos (by omega), if_pos (by omega)]
    by_cases h : rd l i = rd m i
    · rw [if_pos h, w64 (by omega) (by omega), show ((i : Int) + 1) = ((i + 1 : Nat) : Int) by omega, ih k (i + 1) (by omega) (by omega), all_step (Q := fun t => rd l (t : Int) = rd m (t : Int)) (show i < l.length by omega)]
      refine congrArg some (dc_congr ?_)
      simp [h]
    · rw [if_neg h, dc_false]
      intro h2
      exact h (h2 i (by omega) (by omega))
theorem eql_f {k : Nat} (l m : List Int) (hL : l.length ≤ 9223372036854775806) (hk : l.length < k) : slices_Equal_int_int.f k l m = some (dc (l = m)) := by
  unfold slices_Equal_int_int.f
  by_cases h : l.length = m.length
  · rw [if_pos (by omega)]
    refine Eq.trans (eql_l0 l m hL h l.length k 0 (by omega) hk) ?_
    refine congrArg some (dc_congr ⟨fun e => rd_ext h (fun t ht => e t (by omega) ht), fun e t _ _ => by rw [e]⟩)
  · rw [if_neg (by omega), dc_false]
    intro e
    exact h (by rw [e])
theorem like_l0 (l m : List Int) (hL : l.length ≤ 9223372036854775806) (hm : l.length = m.length) (a : Int) (P : List Int) : ∀ n k (i : Nat), i + n = l.length → n < k → congouref04_Like.l0 k l l.length i a m P = some (dc (∀ t : Nat, i ≤ t → t < l.length → rd l (t : Int) = rd m (t : Int))) := by
  intro n
  induction n with
  | zero =>
    intro k i hi hk
    obtain ⟨k, rfl⟩ : ∃ m, k = m + 1 := ⟨k - 1, by omega⟩
    rw [congouref04_Like.l0, if_neg (by omega), dc_true]
    intro t h1 h2
    omega
  | succ n ih =>
    intro k i hi hk
    obtain ⟨k, rfl⟩ : ∃ m, k = m + 1 := ⟨k - 1, by omega⟩
    rw [congouref04_Like.l0, if_pos (by omega), if_pos (by omega), if_pos (by omega), if_pos (by omega)]
    by_cases h : rd m i = rd l i
    · rw [if_pos h, w64 (by omega) (by omega), show ((i : Int) + 1) = ((i + 1 : Nat) : Int) by omega, ih k (i + 1) (by omega) (by omega), all_step (Q := fun t => rd l (t : Int) = rd m (t : Int)) (show i < l.length by omega)]
      refine congrArg some (dc_congr ?_)
      simp [h]
    · rw [if_neg h, dc_false]
      intro h2
      exact h (h2 i (by omega) (by omega)).symm
theorem like_f {k : Nat} (a b : Int) (l P m Q : List Int) (hL : l.length ≤ 9223372036854775806) (hk : l.length + 2 < k) : congouref04_Like.f k a l P b m Q = some (dc (a = b ∧ l = m)) := by
  obtain ⟨k, rfl⟩ : ∃ m, k = m + 1 := ⟨k - 1, by omega⟩
  unfold congouref04_Like.f
  by_cases h0 : a = b
  rotate_left
  · rw [if_neg h0, congouref04_Like.j0, if_pos rfl, dc_false (fun h => h0 h.1)]
  rw [if_pos h0]
  by_cases h : l.length = m.length
  · have hne : ((l.length : Int) != (m.length : Int)) = false := by simp; omega
    rw [hne, congouref04_Like.j0, if_neg (by decide)]
    refine Eq.trans (like_l0 l m hL h b Q l.length k 0 (by omega) (by omega)) ?_
    refine congrArg some (dc_congr ⟨fun e => ⟨h0, rd_ext h (fun t ht => e t (by omega) ht)⟩, fun e t _ _ => by rw [e.2]⟩)
  · have hne : ((l.length : Int) != (m.length : Int)) = true := by simp; omega
    rw [hne, congouref04_Like.j0, if_pos rfl, dc_false]
    intro e
    exact h (by rw [e.2])
theorem same_refl {k : Nat} (a : Int) (l P : List Int) (hL : l.length ≤ 1000) (hP : P.length ≤ 1000) (hk : 1002 < k) : congoulaw04_same.f k a l P a l P = some true := by
  unfold congoulaw04_same.f
  rw [like_f a a l P l P (by omega) (by omega), dc_true ⟨rfl, rfl⟩, Option.bind_some, if_pos rfl, eql_f P P (by omega) (by omega), dc_true rfl, Option.bind_some]
end Go.Proofs.Ytpnocmkpeogifaa.Pure
