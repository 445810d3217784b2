/- TopPlane, plain: what its printed functions come to is true. -/
import Derived.Test.YtkieehjpnjplmaaSPb
namespace Go.Proofs.Ytkieehjpnjplmaa.Pure
open Go Go.Proofs Go.RowKit Go.Proofs.Ytkieehjpnjplmaa Go.Proofs.Ytkieehjpnjplmaa.X Go.Proofs.YtkieehjpnjplmaaW.PrintWords Go.Proofs.YtkieehjpnjplmaaW.PrintLast Go.Proofs.YtkieehjpnjplmaaW.PrintMore
set_option linter.unusedVariables false
set_option linter.unusedSectionVars false
set_option linter.unusedSimpArgs false
theorem lines_f : arrays_Lines.f 60 3 = some (3, L9, 0) := by decide +kernel
theorem array_f : congoutop_array.f 60 3 L9 = some (3, L9) := by decide +kernel
theorem apart_f : congoutop_apart.f 60 = some true := by decide +kernel
theorem valid_f : arrays_Array_valid.f 60 3 L9 = some true := by decide +kernel
theorem cols_f : arrays_Array_columns.f 3 L9 = some 4 := by decide +kernel
theorem ref_valid_all : arrs.all (fun R => decide (congouref09_Valid.f 160 3 R = some true)) = true := by decide +kernel
theorem clone3_f (l : List S39) (h : l.length ≤ 1000) : slices_Clone_3_int_3_int.f l = some l := by simp [slices_Clone_3_int_3_int.f]; omega
theorem clone1_f (l : List Int) (h : l.length ≤ 1000) : slices_Clone_int_int.f l = some l := by simp [slices_Clone_int_int.f]; omega
theorem pk_succ (nm : List Int) (R : List (List Int)) (m x : Int) (i d : Nat) : pk nm R m x i (d + 1) = (if rd (rd_L1 R (i : Int)) m = x then [rd nm (i : Int)] else []) ++ pk nm R m x (i + 1) d := by
  unfold pk
  rw [List.range'_succ, List.filter_cons]
  by_cases h : rd (rd_L1 R (i : Int)) m = x
  · rw [if_pos h, if_pos (beq_iff_eq.mpr h)]; rfl
  · rw [if_neg h, if_neg (fun e => h (beq_iff_eq.mp e))]; rfl
section
variable {nm : List Int} (hN : PermOf 9 nm) {R : List (List Int)} (hR : OkR R)
include hN hR
theorem l2_go {m x : Int} (hm : 0 ≤ m ∧ m < 4) (x11 : List S39) (x95 x98 : Int) : ∀ (d i k : Nat) (t : List Int), i + d = 9 → t.length ≤ i →
    congoutop_TopPlane.l2 (k + d) nm x11 m x t x95 x98 R 9 (i : Int) 3 R = congoutop_TopPlane.l2 k nm x11 m x (t ++ pk nm R m x i d) x95 x98 R 9 9 3 R := by
  have h1 := hN.len
  have h2 := hR.len
  intro d
  induction d with
  | zero => intro i k t hi ht; obtain rfl : i = 9 := by omega
            simp [pk]
  | succ d ih =>
    intro i k t hi ht
    have h3 := hR.row i (by omega)
    rw [show k + (d + 1) = (k + d) + 1 by omega, congoutop_TopPlane.l2, if_pos (by omega), if_pos (by omega), if_pos (by omega), if_pos hm.1, if_pos (by omega), pk_succ]
    by_cases c : rd (rd_L1 R (i : Int)) m = x
    · rw [if_pos c, if_pos c, if_pos (by omega), if_pos (by omega), w6 (by omega) (by omega), show (i : Int) + 1 = ((i + 1 : Nat) : Int) by omega, ih (i + 1) k _ (by omega) (by simp; omega), List.append_assoc]
    · rw [if_neg c, if_neg c, w6 (by omega) (by omega), show (i : Int) + 1 = ((i + 1 : Nat) : Int) by omega, ih (i + 1) k _ (by omega) (by omega), List.nil_append]
theorem l2_end {k : Nat} {m x x95 x98 : Int} {x11 : List S39} {t : List Int} (ht : t.length = 3) (h11 : x11.length ≤ 12) :
    congoutop_TopPlane.l2 (k + 1) nm x11 m x t x95 x98 R 9 9 3 R = congoutop_TopPlane.l1 k nm (x11 ++ [mk3 (rise t)]) m x95 (wrap64 (x98 + 1)) 3 R := by
  rw [congoutop_TopPlane.l2, if_neg (by omega), if_pos (by omega)]
  have hs : xSort.f t = some (rise t) := by
    unfold xSort.f
    rw [if_pos ⟨by intro e; rw [e] at ht; simp at ht, by omega⟩]
  rw [hs, Option.bind_some, if_pos (by omega), if_pos (by omega), if_pos (by omega), if_pos (by omega)]
  rfl
theorem l1_go {k m x : Nat} (hm : m < 4) (hx : x < 3) {x11 : List S39} (h11 : x11.length ≤ 12) :
    congoutop_TopPlane.l1 (k + 11) nm x11 (m : Int) (m : Int) (x : Int) 3 R = congoutop_TopPlane.l1 k nm (x11 ++ [TT nm R (3 * m + x)]) (m : Int) (m : Int) ((x + 1 : Nat) : Int) 3 R := by
  have h3 := hR.three (3 * m + x) (by omega)
  have e1 : (3 * m + x) / 3 = m := by omega
  have e2 : (3 * m + x) % 3 = x := by omega
  have hp := pk_IT nm R (3 * m + x)
  rw [e1, e2] at hp
  have hl : (pk nm R (m : Int) (x : Int) 0 9).length = 3 := by rw [hp, List.length_map, h3]
  rw [show k + 11 = (k + 1 + 9) + 1 by omega, congoutop_TopPlane.l1, if_pos (by omega), show ((R.length : Nat) : Int) = 9 by rw [hR.len]; rfl]
  have := l2_go hN hR (m := (m : Int)) (x := (x : Int)) (by omega) x11 (m : Int) (x : Int) 9 0 (k + 1) [] (by omega) (by simp)
  rw [show ((0 : Nat) : Int) = 0 from rfl] at this
  rw [this, List.nil_append, l2_end hN hR hl h11, w6 (by omega) (by omega)]
  unfold TT
  rw [e1, e2]
  rfl
theorem l0_go {k m : Nat} (hm : m < 4) {x11 : List S39} (h11 : x11.length ≤ 9) :
    congoutop_TopPlane.l0 (k + 35) nm x11 (m : Int) 3 R = congoutop_TopPlane.l0 k nm (x11 ++ [TT nm R (3 * m), TT nm R (3 * m + 1), TT nm R (3 * m + 2)]) ((m + 1 : Nat) : Int) 3 R := by
  rw [show k + 35 = (k + 1 + 11 + 11 + 11) + 1 by omega, congoutop_TopPlane.l0, if_pos (by omega)]
  have a := l1_go hN hR (k := k + 1 + 11 + 11) (m := m) (x := 0) hm (by omega) (x11 := x11) (by omega)
  rw [show ((0 : Nat) : Int) = 0 from rfl] at a
  rw [a, l1_go hN hR hm (by omega) (by simp; omega), l1_go hN hR hm (by omega) (by simp; omega), congoutop_TopPlane.l1, if_neg (by omega), w6 (by omega) (by omega)]
  simp only [List.append_assoc, List.singleton_append, List.cons_append, List.nil_append, Nat.add_zero]
  rfl
theorem l0_all (k : Nat) : congoutop_TopPlane.l0 (k + 140) nm [] 0 3 R = congoutop_TopPlane.l0 k nm (Cs (TT nm R)) 4 3 R := by
  have a := l0_go hN hR (k := k + 105) (m := 0) (by omega) (x11 := []) (by simp)
  rw [show ((0 : Nat) : Int) = 0 from rfl] at a
  rw [show k + 140 = (k + 105) + 35 by omega, a, show k + 105 = (k + 70) + 35 by omega, l0_go hN hR (by omega) (by simp), show k + 70 = (k + 35) + 35 by omega, l0_go hN hR (by omega) (by simp), l0_go hN hR (by omega) (by simp)]
  rfl
end
/-! ### the last loops -/
theorem index_l (l : List S39) (t : S39) (hl : l.length ≤ 100) : ∀ (d i k : Nat), i + d = l.length → d < k → (∃ j : Nat, i ≤ j ∧ j < l.length ∧ rd_T39 l (j : Int) = t) →
    ∃ j : Nat, slices_Index_3_int_3_int.l0 k l (l.length : Int) (i : Int) t.f0 t.f1 t.f2 = some (j : Int) ∧ j < l.length ∧ rd_T39 l (j : Int) = t := by
  intro d
  induction d with
  | zero => rintro i k hi hk ⟨j, h1, h2, _⟩; omega
  | succ d ih =>
    rintro i k hi hk ⟨j, h1, h2, h3⟩
    obtain ⟨k, rfl⟩ : ∃ z, k = z + 1 := ⟨k - 1, by omega⟩
    rw [slices_Index_3_int_3_int.l0, if_pos (by omega), if_pos (by omega), if_pos (by omega)]
    by_cases c : rd_T39 l (i : Int) = t
    · rw [if_pos (by rw [c]; simp)]
      exact ⟨i, rfl, by omega, c⟩
    · rw [if_neg (fun e => c (by
        simp only [Bool.and_eq_true, beq_iff_eq] at e
        obtain ⟨e1, e2, e3⟩ := e
        generalize rd_T39 l (i : Int) = u at *
        obtain ⟨a, b, cc⟩ := u
        obtain ⟨a', b', c'⟩ := t
        simp only at e1 e2 e3
        rw [e1, e2, e3])), w6 (by omega) (by omega), show (i : Int) + 1 = ((i + 1 : Nat) : Int) by omega]
      refine ih (i + 1) k (by omega) (by omega) ⟨j, ?_, h2, h3⟩
      rcases Nat.lt_or_ge i j with h | h
      · omega
      · have : j = i := by omega
        subst this; exact absurd h3 c
theorem index_f {l : List S39} {t : S39} (hl : l.length ≤ 100) (h : ∃ j : Nat, j < l.length ∧ rd_T39 l (j : Int) = t) {k : Nat} (hk : l.length < k) :
    ∃ j : Nat, slices_Index_3_int_3_int.f k l t.f0 t.f1 t.f2 = some (j : Int) ∧ j < l.length ∧ rd_T39 l (j : Int) = t := by
  obtain ⟨j, h1, h2⟩ := h
  exact index_l l t hl l.length 0 k (by omega) hk ⟨j, Nat.zero_le _, h1, h2⟩
theorem equal3 (a b c x y z : Int) : slices_Equal_int_int.f 8 [a, b, c] [x, y, z] = some (decide (a = x ∧ b = y ∧ c = z)) := by
  simp only [slices_Equal_int_int.f, slices_Equal_int_int.l0, List.length_cons, List.length_nil, wrap64, rd]
  by_cases h1 : a = x <;> by_cases h2 : b = y <;> by_cases h3 : c = z <;> simp [h1, h2, h3]
theorem has_f : ∀ (L : List (List Int)) (x y z : Int), (∀ r ∈ L, ∃ a b c, r = [a, b, c]) → [x, y, z] ∈ L → xHas.f L [x, y, z] = some true := by
  intro L x y z
  unfold xHas.f
  induction L with
  | nil => intro _ h; simp at h
  | cons r L ih =>
    intro hr h
    obtain ⟨a, b, c, rfl⟩ := hr r (by simp)
    unfold hasEq
    rw [show ([a, b, c] : List Int).length + ([x, y, z] : List Int).length + 2 = 8 from rfl, equal3, Option.bind_some]
    by_cases e : a = x ∧ b = y ∧ c = z
    · rw [decide_eq_true e, if_pos rfl]
    · rw [decide_eq_false e, if_neg (by decide)]
      refine ih (fun r hr' => hr r (by simp [hr'])) ?_
      rcases List.mem_cons.mp h with h | h
      · injection h with h1 h; injection h with h2 h; injection h with h3 h
        exact absurd ⟨h1.symm, h2.symm, h3.symm⟩ e
      · exact h
section
variable {T : Nat → S39} (hP : Plane T)
include hP
theorem places : ∃ p : Nat → Nat, (∀ k, k < 12 → p k < 12 ∧ rd_T39 (Ss T) (p k : Int) = T k) ∧ ∀ k, k < 12 → ∀ K, 13 ≤ K → slices_Index_3_int_3_int.f K (Ss T) (T k).f0 (T k).f1 (T k).f2 = some (p k : Int) := by
  have h : ∀ k, k < 12 → ∃ j : Nat, slices_Index_3_int_3_int.f 13 (Ss T) (T k).f0 (T k).f1 (T k).f2 = some (j : Int) ∧ j < 12 ∧ rd_T39 (Ss T) (j : Int) = T k := fun k hk => by
    obtain ⟨i, hi, e⟩ := hP.pos hk
    have := index_f (l := Ss T) (t := T k) (by rw [Ss_len]; omega) ⟨i, by rw [Ss_len]; exact hi, e⟩ (k := 13) (by rw [Ss_len]; omega)
    rwa [Ss_len] at this
  refine ⟨fun k => if hk : k < 12 then Classical.choose (h k hk) else 0, fun k hk => ?_, fun k hk K hK => ?_⟩
  · simp only [dif_pos hk]
    exact (Classical.choose_spec (h k hk)).2
  · simp only [dif_pos hk]
    exact at_rounds (g := fun K => slices_Index_3_int_3_int.f K (Ss T) (T k).f0 (T k).f1 (T k).f2) (fun _ => slices_Index_3_int_3_int.mono _ _ _ _ _) hK (Classical.choose_spec (h k hk)).1
end
section
variable {T : Nat → S39} (hP : Plane T) {p : Nat → Nat} (hp : ∀ k, k < 12 → p k < 12 ∧ rd_T39 (Ss T) (p k : Int) = T k) (hi : ∀ k, k < 12 → ∀ K, 13 ≤ K → slices_Index_3_int_3_int.f K (Ss T) (T k).f0 (T k).f1 (T k).f2 = some (p k : Int))
include hP hp hi
theorem cut3 {m : Nat} (hm : m < 4) : ((Cs T).take (3 * m + 3)).drop (3 * m) = [T (3 * m), T (3 * m + 1), T (3 * m + 2)] := by
  have h4 : m = 0 ∨ m = 1 ∨ m = 2 ∨ m = 3 := by omega
  rcases h4 with rfl | rfl | rfl | rfl <;> rfl
theorem has_at {m : Nat} (hm : m < 4) : xHas.f (gS (Ss T) 12 0 []) (atm p m) = some true := by
  have hmem := hP.at_mem hp hm
  have hr : ∀ r ∈ gS (Ss T) 12 0 [], ∃ a b c, r = [a, b, c] := fun r hr => by
    obtain ⟨i, j, h, _, _, _, _, _, e⟩ := (hP.mem r).mp hr
    exact ⟨_, _, _, e⟩
  obtain ⟨a, b, c, e⟩ := hr _ hmem
  rw [e] at hmem ⊢
  exact has_f _ _ _ _ hr hmem
theorem l3_go {k m : Nat} (hk : 20 ≤ k) (hm : m < 4) : congoutop_TopPlane.l3 (k + 5) (Ss T) (Cs T) (gS (Ss T) 12 0 []) (m : Int) = congoutop_TopPlane.l3 k (Ss T) (Cs T) (gS (Ss T) 12 0 []) ((m + 1 : Nat) : Int) := by
  have hw : wrap64 (3 * (m : Int)) = ((3 * m : Nat) : Int) := by unfold wrap64; omega
  have hw3 : wrap64 (((3 * m : Nat) : Int) + 3) = ((3 * m + 3 : Nat) : Int) := by unfold wrap64; omega
  have hc := Cs_len T
  rw [show k + 5 = (k + 4) + 1 by omega, congoutop_TopPlane.l3, if_pos (by omega), hw, if_pos (by omega), hw3, if_pos (by omega), if_pos (by omega), Option.bind_some, Int.toNat_natCast, Int.toNat_natCast, cut3 hP hp hi hm]
  have l4 : ∀ (j : Nat) (t : List Int) (K : Nat), j < 3 → 13 ≤ K → t.length ≤ 3 → congoutop_TopPlane.l4 (K + 1) (Ss T) (Cs T) (gS (Ss T) 12 0 []) t (m : Int) [T (3 * m), T (3 * m + 1), T (3 * m + 2)] 3 (j : Int) = congoutop_TopPlane.l4 K (Ss T) (Cs T) (gS (Ss T) 12 0 []) (t ++ [(p (3 * m + j) : Int)]) (m : Int) [T (3 * m), T (3 * m + 1), T (3 * m + 2)] 3 ((j + 1 : Nat) : Int) := by
    intro j t K hj hK ht
    have hrd : rd_T39 [T (3 * m), T (3 * m + 1), T (3 * m + 2)] (j : Int) = T (3 * m + j) := by
      have h3 : j = 0 ∨ j = 1 ∨ j = 2 := by omega
      rcases h3 with rfl | rfl | rfl <;> rfl
    rw [congoutop_TopPlane.l4, if_pos (by omega), if_pos (by omega), if_pos (by simp; omega), hrd, hi (3 * m + j) (by omega) K hK, Option.bind_some, if_pos (by omega), w6 (by omega) (by omega)]
    rfl
  have a0 := l4 0 [] (k + 3) (by omega) (by omega) (by simp)
  have a1 := l4 1 [(p (3 * m + 0) : Int)] (k + 2) (by omega) (by omega) (by simp)
  have a2 := l4 2 [(p (3 * m + 0) : Int), (p (3 * m + 1) : Int)] (k + 1) (by omega) (by omega) (by simp)
  rw [show (([T (3 * m), T (3 * m + 1), T (3 * m + 2)] : List S39).length : Int) = 3 from rfl]
  rw [show ((0 : Nat) : Int) = 0 from rfl] at a0
  rw [a0]
  simp only [List.nil_append, List.singleton_append, List.cons_append] at a1 a2 ⊢
  rw [a1, a2, congoutop_TopPlane.l4, if_neg (by omega)]
  have hs : xSort.f [(p (3 * m + 0) : Int), (p (3 * m + 1) : Int), (p (3 * m + 2) : Int)] = some (atm p m) := by
    unfold xSort.f
    rw [if_pos ⟨by simp, by simp⟩]
    rfl
  rw [hs, Option.bind_some, has_at hP hp hi hm, Option.bind_some, if_pos rfl, w6 (by omega) (by omega)]
  rfl
theorem l3_all {k : Nat} (hk : 100 ≤ k) : congoutop_TopPlane.l3 (k + 21) (Ss T) (Cs T) (gS (Ss T) 12 0 []) 0 = some true := by
  have a := l3_go hP hp hi (k := k + 16) (m := 0) (by omega) (by omega)
  rw [show ((0 : Nat) : Int) = 0 from rfl] at a
  rw [show k + 21 = (k + 16) + 5 by omega, a, show k + 16 = (k + 11) + 5 by omega, l3_go hP hp hi (by omega) (by omega), show k + 11 = (k + 6) + 5 by omega, l3_go hP hp hi (by omega) (by omega), show k + 6 = (k + 1) + 5 by omega, l3_go hP hp hi (by omega) (by omega), congoutop_TopPlane.l3, if_neg (by omega)]
  rw [at_rounds (g := fun K => congoutop_apart.f K) (fun _ => congoutop_apart.mono _) (show 60 ≤ k by omega) apart_f]
  rfl
theorem l0_end {nm : List Int} {R : List (List Int)} {k : Nat} (hk : 100 ≤ k) : congoutop_TopPlane.l0 (k + 23) nm (Cs T) 4 3 R = some true := by
  have hc := Cs_len T
  have hs := Ss_len T
  have x1 : xSort3.f (Cs T) = some (Ss T) := by
    unfold xSort3.f
    rw [if_pos ⟨by intro e; rw [e] at hc; simp at hc, by omega⟩]
    rfl
  have x2 : xIsThrees.f 9 (Ss T) = some (true, 0) := by
    unfold xIsThrees.f
    rw [if_pos ⟨rfl, hP.good⟩]
  have x3 : xSpreads.f 9 (Ss T) = some (gS (Ss T) 12 0 [], 0) := by
    unfold xSpreads.f
    rw [if_pos ⟨rfl, by omega, hP.good⟩, hs]
  have h4 := hP.four hp
  rw [show k + 23 = (k + 22) + 1 by omega, congoutop_TopPlane.l0, if_neg (by omega), clone3_f _ (by omega), Option.bind_some, x1, Option.bind_some, clone3_f _ (by omega), Option.bind_some, x2, Option.bind_some, Option.bind_some, x3, Option.bind_some]
  simp only [if_true]
  rw [show k + 22 = (k + 21) + 1 by omega, congoutop_TopPlane.j5, if_neg (by rw [h4]; decide)]
  exact l3_all hP hp hi hk
end
theorem j1_false {nm : List Int} (hN : PermOf 9 nm) {R : List (List Int)} (hR : OkR R) {k : Nat} (hk : 300 ≤ k) : congoutop_TopPlane.j1 k nm false 3 R = some true := by
  obtain ⟨z, rfl⟩ : ∃ z, k = (z + 100 + 23 + 140) + 1 := ⟨k - 264, by omega⟩
  have hP := plane_of hN hR
  obtain ⟨p, hp, hi⟩ := places hP
  rw [congoutop_TopPlane.j1, if_neg (by decide), l0_all hN hR]
  exact l0_end hP hp hi (by omega)
theorem j1_true {nm : List Int} {R : List (List Int)} (hR : R.length = 9) {k : Nat} (hk : 300 ≤ k) : congoutop_TopPlane.j1 k nm true 3 R = some true := by
  obtain ⟨z, rfl⟩ : ∃ z, k = z + 1 := ⟨k - 1, by omega⟩
  rw [congoutop_TopPlane.j1, if_pos rfl, if_pos (by omega)]
  rw [at_rounds (g := fun K => congoutop_apart.f K) (fun _ => congoutop_apart.mono _) (show 60 ≤ z by omega) apart_f]
  rfl
theorem j0_true (nm : List Int) (hn : nm.length ≤ 9000000000000000000) {R : List (List Int)} (hR : R ∈ arrs) {k : Nat} (hk : nm.length + 400 ≤ k) : congoutop_TopPlane.j0 k nm 3 R = some true := by
  obtain ⟨z, rfl⟩ : ∃ z, k = z + 1 := ⟨k - 1, by omega⟩
  have hok := OkR.of (List.all_eq_true.mp arrs_ok R hR)
  have hv := of_decide_eq_true (List.all_eq_true.mp ref_valid_all R hR)
  have h4 := hok.row 0 (by omega)
  rw [show ((0 : Nat) : Int) = 0 from rfl] at h4
  have hl := hok.len
  rw [congoutop_TopPlane.j0, at_rounds (g := fun K => congouref09_Valid.f K 3 R) (fun _ => congouref09_Valid.mono _ _ _) (show 160 ≤ z by omega) hv, Option.bind_some, if_pos rfl, if_pos rfl, if_pos (by omega), if_pos (by omega), if_pos (by omega)]
  obtain ⟨b, hb, hperm⟩ := names_f nm hn z (by omega)
  rw [hb, Option.bind_some]
  cases b with
  | true => exact j1_false (hperm rfl) hok (by omega)
  | false => exact j1_true hl (by omega)
/-! ### Rename -/
theorem contains3 (x y z v : Int) {k : Nat} (hk : 4 ≤ k) : slices_Contains_int_int.f k [x, y, z] v = some (decide (v = x ∨ v = y ∨ v = z)) := by
  refine at_rounds (g := fun K => slices_Contains_int_int.f K [x, y, z] v) (fun _ => slices_Contains_int_int.mono _ _ _) hk ?_
  simp only [slices_Contains_int_int.f, slices_Index_int_int.f, slices_Index_int_int.l0, List.length_cons, List.length_nil, wrap64, rd]
  by_cases h1 : v = x
  · simp [h1]
  · by_cases h2 : v = y
    · subst h2
      simp [h1]
    · by_cases h3 : v = z
      · subst h3
        simp [h1, h2]
      · simp [h1, h2, h3]
theorem each_ok : perms3.all (fun t => ([0, 1, 2, 3] : List Int).all fun c => decide (xEach.f 3 L9 t c = some (3, L9.map (ren t c)))) = true := by decide +kernel
theorem perm_mem {a b d : Int} (e0 : (0 : Int) = a ∨ (0 : Int) = b ∨ (0 : Int) = d) (e1 : ((1 : Nat) : Int) = a ∨ ((1 : Nat) : Int) = b ∨ ((1 : Nat) : Int) = d) (e2 : ((2 : Nat) : Int) = a ∨ ((2 : Nat) : Int) = b ∨ ((2 : Nat) : Int) = d) : [a, b, d] ∈ perms3 := by
  rcases e0 with rfl | rfl | rfl <;> rcases e1 with h | h | h <;> rcases e2 with g | g | g <;> first | (exfalso; omega) | (subst h; subst g; simp [perms3])
theorem rename_f {c : Int} (h0 : 0 ≤ c) (h4 : c < 4) (tt : List Int) {k : Nat} (hk : 100 ≤ k) : ∃ rv rr re, arrays_Rename.f k 3 L9 c tt = some (rv, rr, re) ∧ (re = 2 ∨ (re = 0 ∧ rv = 3 ∧ rr ∈ arrs)) := by
  unfold arrays_Rename.f
  rw [at_rounds (g := fun K => arrays_Array_valid.f K 3 L9) (fun _ => arrays_Array_valid.mono _ _ _) (show 60 ≤ k by omega) valid_f, Option.bind_some, if_pos rfl, if_neg (by omega), cols_f, Option.bind_some, if_neg (by omega)]
  obtain ⟨z, rfl⟩ : ∃ z, k = z + 5 := ⟨k - 5, by omega⟩
  rw [show z + 5 = (z + 4) + 1 by omega, arrays_Rename.j0]
  by_cases hl : tt.length = 3
  · rw [if_neg (by rw [hl]; decide)]
    obtain ⟨a, b, d, rfl⟩ : ∃ a b d, tt = [a, b, d] := by
      rcases tt with _ | ⟨a, _ | ⟨b, _ | ⟨d, _ | ⟨e, r⟩⟩⟩⟩ <;> simp at hl
      exact ⟨a, b, d, rfl⟩
    have hr : ∀ (i : Nat) (K : Nat), 4 ≤ K → i < 3 → arrays_Rename.l0 (K + 1) c 3 (i : Int) 3 L9 [a, b, d] = if ((i : Int) = a ∨ (i : Int) = b ∨ (i : Int) = d) then arrays_Rename.l0 K c 3 ((i + 1 : Nat) : Int) 3 L9 [a, b, d] else some (0, [], 2) := by
      intro i K hK hi
      rw [arrays_Rename.l0, if_pos (by omega), contains3 _ _ _ _ hK, Option.bind_some, w6 (by omega) (by omega)]
      by_cases e : ((i : Int) = a ∨ (i : Int) = b ∨ (i : Int) = d)
      · rw [decide_eq_true e, if_pos rfl, if_pos e]; rfl
      · rw [decide_eq_false e, if_neg (by decide), if_neg e]
    have r0 := hr 0 (z + 3) (by omega) (by omega)
    have r1 := hr 1 (z + 2) (by omega) (by omega)
    have r2 := hr 2 (z + 1) (by omega) (by omega)
    rw [show ((0 : Nat) : Int) = 0 from rfl] at r0
    rw [show (([a, b, d] : List Int).length : Int) = 3 from rfl, show z + 4 = z + 3 + 1 by omega, r0]
    by_cases e0 : ((0 : Int) = a ∨ (0 : Int) = b ∨ (0 : Int) = d)
    · rw [if_pos e0, show z + 3 = z + 2 + 1 by omega, r1]
      by_cases e1 : (((1 : Nat) : Int) = a ∨ ((1 : Nat) : Int) = b ∨ ((1 : Nat) : Int) = d)
      · rw [if_pos e1, show z + 2 = z + 1 + 1 by omega, r2]
        by_cases e2 : (((2 : Nat) : Int) = a ∨ ((2 : Nat) : Int) = b ∨ ((2 : Nat) : Int) = d)
        · rw [if_pos e2, arrays_Rename.l0, if_neg (by omega)]
          have hm := perm_mem e0 e1 e2
          have hc : c ∈ ([0, 1, 2, 3] : List Int) := by
            have : c = 0 ∨ c = 1 ∨ c = 2 ∨ c = 3 := by omega
            rcases this with rfl | rfl | rfl | rfl <;> simp
          have he := of_decide_eq_true (List.all_eq_true.mp (List.all_eq_true.mp each_ok _ hm) _ hc)
          rw [he, Option.bind_some]
          exact ⟨_, _, _, rfl, .inr ⟨rfl, rfl, List.mem_flatMap.mpr ⟨c, hc, List.mem_map.mpr ⟨_, hm, rfl⟩⟩⟩⟩
        · rw [if_neg e2]; exact ⟨_, _, _, rfl, .inl rfl⟩
      · rw [if_neg e1]; exact ⟨_, _, _, rfl, .inl rfl⟩
    · rw [if_neg e0]; exact ⟨_, _, _, rfl, .inl rfl⟩
  · rw [if_pos (by rw [bne_iff_ne]; omega)]
    exact ⟨_, _, _, rfl, .inl rfl⟩
theorem TopPlane : congoutop_TopPlane.Pure := by
  intro a0 l1 l2 _ hl1 _ _ hl2 _ _
  unfold maxLen at hl1 hl2
  refine ⟨l2.length + 500, ?_⟩
  unfold congoutop_TopPlane.f
  rw [at_rounds (g := fun K => arrays_Lines.f K 3) (fun _ => arrays_Lines.mono _ _) (show 60 ≤ l2.length + 500 by omega) lines_f, Option.bind_some, if_pos rfl,
    at_rounds (g := fun K => congoutop_array.f K 3 L9) (fun _ => congoutop_array.mono _ _ _) (show 60 ≤ l2.length + 500 by omega) array_f, Option.bind_some]
  have hm : 0 ≤ mn (l1.length : Int) 6 ∧ mn (l1.length : Int) 6 ≤ (l1.length : Int) ∧ mn (l1.length : Int) 6 ≤ 6 := by unfold mn; split <;> omega
  rw [if_pos hm.1, if_pos hm.2.1, clone1_f _ (by rw [List.length_take]; omega), Option.bind_some]
  have hc : 0 ≤ wrap64 (Int.tmod (IntKind.u64.wrap a0) 4) ∧ wrap64 (Int.tmod (IntKind.u64.wrap a0) 4) < 4 := by
    have hu : 0 ≤ IntKind.u64.wrap a0 := by simp [IntKind.wrap, IntKind.bits, IntKind.signed]; omega
    have h1 := Int.tmod_nonneg 4 hu
    have h2 := Int.tmod_lt_of_pos (IntKind.u64.wrap a0) (show (0 : Int) < 4 by decide)
    unfold wrap64
    omega
  obtain ⟨rv, rr, re, e, h⟩ := rename_f hc.1 hc.2 (l1.take (mn (l1.length : Int) 6).toNat) (k := l2.length + 500) (by omega)
  rw [e, Option.bind_some]
  simp only
  rcases h with rfl | ⟨rfl, rfl, hrr⟩
  · rw [if_neg (by decide), if_pos rfl]
    exact j0_true l2 (by omega) L9_in (by omega)
  · rw [if_pos rfl]
    exact j0_true l2 (by omega) hrr (by omega)
end Go.Proofs.Ytkieehjpnjplmaa.Pure
