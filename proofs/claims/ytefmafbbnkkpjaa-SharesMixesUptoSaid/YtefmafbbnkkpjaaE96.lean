/- The walk of after, a give's mixture: printed by a program of this work (wip/ext_af.py, xprint.py), mended by wip/mk96.py: the rows that it does not write are another's, as they stand. -/
import Derived.Test.YtefmafbbnkkpjaaX0
import Derived.Test.YtefmafbbnkkpjaaXG2a
import Derived.Test.YtefmafbbnkkpjaaXf117
import Derived.Test.YtefmafbbnkkpjaaXf118
import Derived.Test.YtefmafbbnkkpjaaE116
namespace Go.Proofs.Ytefmafbbnkkpjaa.X
open Go.RowKit Go.Proofs.YtefmafbbnkkpjaaW.PrintWords Go.Proofs.YtefmafbbnkkpjaaW.PrintLast Go.Proofs.YtefmafbbnkkpjaaW.PrintMore
attribute [local go_sem] max2_int min2_int max_two min_two max_three min_three max_four min_four   -- for this text's walks alone
set_option linter.unusedVariables false
set_option linter.unusedSimpArgs false

/-! ### shares_mixture_after: function 96 -/
def shares_mixture_after.l0 : Nat → List (List (S62)) → List (List (S62)) → Int → Int → Int → Int → Int → Int → Int → Int → Int → Option ((List (List (S62))))
 | 0, _, _, _, _, _, _, _, _, _, _, _ => none
 | k + 1, x0, x9, x46, x47, x383000, x383001, x383002, x388000, x388001, x391000, x391001 => if x47 < x46 then (if 0 ≤ x383000 then (if x383000 < (x0.length : Int) then (if 0 ≤ x47 then (if x47 < ((rd_L5 x0 x383000).length : Int) then (if 0 ≤ x383001 then (if x383001 < (x0.length : Int) then (if x47 < ((rd_L5 x0 x383001).length : Int) then (if x383000 < (x9.length : Int) then ((shares_times.f k x391000 x391001 ((rd_T62 (rd_L5 x0 x383000) x47).f0) ((rd_T62 (rd_L5 x0 x383000) x47).f1)).bind fun bt403 => ((shares_times.f k x388000 x388001 ((rd_T62 (rd_L5 x0 x383001) x47).f0) ((rd_T62 (rd_L5 x0 x383001) x47).f1)).bind fun bt405 => ((shares_plus.f k bt403.1 bt403.2 bt405.1 bt405.2).bind fun bt407 => (if (rd_L5 x9 x383000).length < 8796093022208 then ((some (x9.set (x383000 : Int).toNat ((rd_L5 x9 x383000) ++ [(⟨bt407.1, bt407.2⟩ : S62)]) : List (List (S62)))).bind fun y412 => (if x383001 < (x9.length : Int) then ((shares_times.f k x388000 x388001 ((rd_T62 (rd_L5 x0 x383000) x47).f0) ((rd_T62 (rd_L5 x0 x383000) x47).f1)).bind fun bt414 => ((shares_times.f k x391000 x391001 ((rd_T62 (rd_L5 x0 x383001) x47).f0) ((rd_T62 (rd_L5 x0 x383001) x47).f1)).bind fun bt416 => ((shares_plus.f k bt414.1 bt414.2 bt416.1 bt416.2).bind fun bt418 => (if (rd_L5 y412 x383001).length < 8796093022208 then (shares_mixture_after.l0 k x0 (y412.set (x383001 : Int).toNat ((rd_L5 y412 x383001) ++ [(⟨bt418.1, bt418.2⟩ : S62)])) x46 (wrap64 (x47 + 1)) x383000 x383001 x383002 x388000 x388001 x391000 x391001) else (none))))) else (none))) else (none))))) else (none)) else (none)) else (none)) else (none)) else (none)) else (none)) else (none)) else (none)) else (some x9)
def shares_mixture_after.f (k : Nat) (l0 : List (List (S62))) (a1_0 : Int) (a1_1 : Int) (a1_2 : Int) (l2 : List Int) : Option ((List (List (S62)))) := if 0 ≤ a1_0 then (if a1_0 < (l2.length : Int) then (if 0 ≤ a1_1 then (if a1_1 < (l2.length : Int) then ((shares_frac.f k a1_2 (wrap64 ((rd l2 a1_0) - (rd l2 a1_1)))).bind fun bt385 => ((shares_frac.f k (wrap64 (bt385.2 - bt385.1)) bt385.2).bind fun bt388 => ((xCloneM.f l0).bind fun t391 => (if a1_0 < (t391.length : Int) then (if a1_1 < (t391.length : Int) then (shares_mixture_after.l0 k l0 ((t391.set (a1_0 : Int).toNat ([] : List (S62))).set (a1_1 : Int).toNat ([] : List (S62))) (l0.length : Int) 0 a1_0 a1_1 a1_2 bt385.1 bt385.2 bt388.1 bt388.2) else (none)) else (none))))) else (none)) else (none)) else (none)) else (none)
theorem shares_mixture_after.mono_l : ∀ k, (∀ y0 y1 y2 y3 y4 y5 y6 y7 y8 y9 y10, LeO (shares_mixture_after.l0 k y0 y1 y2 y3 y4 y5 y6 y7 y8 y9 y10) (shares_mixture_after.l0 (k + 1) y0 y1 y2 y3 y4 y5 y6 y7 y8 y9 y10))
 | 0 => fun _ _ _ _ _ _ _ _ _ _ _ r h => by simp [shares_mixture_after.l0] at h
 | k + 1 => by
  have ih0 := shares_mixture_after.mono_l k
  ·intro y0 y1 y2 y3 y4 y5 y6 y7 y8 y9 y10
   unfold shares_mixture_after.l0
   repeat' first
   | (with_reducible exact ih0 _ _ _ _ _ _ _ _ _ _ _)
   | (with_reducible exact shares_frac.mono _ _ _)
   | (with_reducible exact shares_plus.mono _ _ _ _ _)
   | (with_reducible exact shares_times.mono _ _ _ _ _)
   | (with_reducible exact LeO.refl _)
   | (with_reducible exact LeO.none _)
   | (with_reducible refine LeO.ite ?_ ?_)
   | (with_reducible refine LeO.bind ?_ (fun _ => ?_))
   | exact ih0 _ _ _ _ _ _ _ _ _ _ _
   | exact shares_frac.mono _ _ _
   | exact shares_plus.mono _ _ _ _ _
   | exact shares_times.mono _ _ _ _ _
   | exact LeO.none _
   | refine LeO.ite ?_ ?_
   | refine LeO.bind ?_ (fun _ => ?_)
theorem shares_mixture_after.mono : ∀ a0 a1 a2 a3 a4 k, LeO (shares_mixture_after.f k a0 a1 a2 a3 a4) (shares_mixture_after.f (k + 1) a0 a1 a2 a3 a4) := by
 intro a0 a1 a2 a3 a4 k
 have ih0 := shares_mixture_after.mono_l k
 unfold shares_mixture_after.f
 repeat' first
   | (with_reducible exact ih0 _ _ _ _ _ _ _ _ _ _ _)
   | (with_reducible exact shares_frac.mono _ _ _)
   | (with_reducible exact shares_plus.mono _ _ _ _ _)
   | (with_reducible exact shares_times.mono _ _ _ _ _)
   | (with_reducible exact LeO.refl _)
   | (with_reducible exact LeO.none _)
   | (with_reducible refine LeO.ite ?_ ?_)
   | (with_reducible refine LeO.bind ?_ (fun _ => ?_))
   | exact ih0 _ _ _ _ _ _ _ _ _ _ _
   | exact shares_frac.mono _ _ _
   | exact shares_plus.mono _ _ _ _ _
   | exact shares_times.mono _ _ _ _ _
   | exact LeO.none _
   | refine LeO.ite ?_ ?_
   | refine LeO.bind ?_ (fun _ => ?_)
theorem rd5_set {l : List (List S62)} {i : Int} {r : List S62} (h0 : 0 ≤ i) (hi : i < l.length) (q : Int) (hq : 0 ≤ q) : rd_L5 (l.set i.toNat r) q = if q = i then r else rd_L5 l q := by
 unfold rd_L5
 rw [List.getD_eq_getElem?_getD, List.getD_eq_getElem?_getD, List.getElem?_set]
 by_cases e : q = i
 rotate_left
 ·rw [if_neg (by omega), if_neg e]
 subst e; rw [if_pos rfl, if_pos (by omega), if_pos rfl]; rfl
theorem after_inv0 {t y4 y5 : List (List S62)} {a b : Int} (h4 : y4 = t.set a.toNat []) (h5 : y5 = y4.set b.toNat []) (hne : a ≠ b) (ha0 : 0 ≤ a) (ha : a < t.length) (hb0 : 0 ≤ b) (hb : b < t.length) :
  (0 : Int) ≤ 0 ∧ ((rd_L5 y5 a).length : Int) = 0 ∧ ((rd_L5 y5 b).length : Int) = 0 := by
 subst h4 h5
 rw [rd5_set hb0 (by rw [List.length_set]; exact hb) _ ha0, rd5_set hb0 (by rw [List.length_set]; exact hb) _ hb0, if_neg hne, if_pos rfl, rd5_set ha0 ha _ ha0, if_pos rfl]
 exact ⟨Int.le_refl _, rfl, rfl⟩
theorem after_invb {x9 y12 : List (List S62)} {y9 : List S62} {a b x : Int} (h : 0 ≤ x ∧ ((rd_L5 x9 a).length : Int) = x ∧ ((rd_L5 x9 b).length : Int) = x) (e12 : y12 = x9.set a.toNat y9) (hne : a ≠ b) (ha0 : 0 ≤ a) (ha : a < x9.length) (hb0 : 0 ≤ b) : ((rd_L5 y12 b).length : Int) = x := by
 subst e12
 rw [rd5_set ha0 ha _ hb0, if_neg (Ne.symm hne)]
 exact h.2.2
theorem after_inv1 {x9 y12 y23 : List (List S62)} {y9 y20 : List S62} {p q : S62} {a b x : Int} {L : Nat} (h : 0 ≤ x ∧ ((rd_L5 x9 a).length : Int) = x ∧ ((rd_L5 x9 b).length : Int) = x) (hx : x < L) (hL : L ≤ 1000) (e9 : y9 = rd_L5 x9 a ++ [p]) (e12 : y12 = x9.set a.toNat y9) (e20 : y20 = rd_L5 y12 b ++ [q]) (e23 : y23 = y12.set b.toNat y20)
  (hne : a ≠ b) (ha0 : 0 ≤ a) (ha : a < x9.length) (hb0 : 0 ≤ b) (hb : b < x9.length) : 0 ≤ wrap64 (x + 1) ∧ ((rd_L5 y23 a).length : Int) = wrap64 (x + 1) ∧ ((rd_L5 y23 b).length : Int) = wrap64 (x + 1) := by
 have hb1 := after_invb h e12 hne ha0 ha hb0
 have hl : y12.length = x9.length := by rw [e12, List.length_set]
 have hw : wrap64 (x + 1) = x + 1 := by unfold wrap64; omega
 subst e23
 rw [hw, rd5_set hb0 (by rw [hl]; exact hb) _ ha0, rd5_set hb0 (by rw [hl]; exact hb) _ hb0, if_neg hne, if_pos rfl]
 subst e12
 rw [rd5_set ha0 ha _ ha0, if_pos rfl]
 refine ⟨by omega, ?_, ?_⟩
 ·rw [e9, List.length_append, List.length_singleton]; have := h.2.1; omega
 ·rw [e20, List.length_append, List.length_singleton]; omega
def shares_mixture_after.T1 : Bool × List (List Nat × List Nat) := (true, [([], []), ([0], [0]), ([], []), ([], []), ([3], [3]), ([2, 4], [2, 4]), ([5], [5]), ([], []), ([], []), ([8], [8]), ([7, 9], [7, 9]), ([10], [10]), ([6, 11], [6, 11]), ([1, 12], [1, 12]), ([], []), ([14, 13, 13, 0, 1, 2, 3, 4, 5, 6, 7, 8, 9, 10, 11, 12, 13, 14], [13, 14])])
def shares_mixture_after.B1 : List Nat := [0, 1, 0, 0, 8, 28, 60, 0, 0, 256, 896, 1920, 4092, 8191, 0, 32767]
theorem shares_mixture_after.tab1 : rtab .any (opsOf Try.f96 1) = shares_mixture_after.T1 := by kernel_rfl
theorem shares_mixture_after.bits1 : waitsOk shares_mixture_after.T1.2 shares_mixture_after.B1 = true := by kernel_rfl
def shares_mixture_after.T4 : Bool × List (List Nat × List Nat) := (true,  [([], []), ([], []), ([1], [1]), ([], []), ([], []), ([4], [4]), ([0, 2, 0, 1, 2], [0, 2]), ([6, 0, 1, 2], [6]), ([3, 5, 0, 1, 2, 3, 4, 5, 6, 7], [3, 5]), ([8, 7, 0, 1, 2, 3, 4, 5, 6, 7], [8])])
def shares_mixture_after.B4 : List Nat := [0, 0, 2, 0, 0, 16, 7, 71, 255, 511]
theorem shares_mixture_after.tab4 : rtab .any (opsOf Try.f96 4) = shares_mixture_after.T4 := by kernel_rfl
theorem shares_mixture_after.bits4 : waitsOk shares_mixture_after.T4.2 shares_mixture_after.B4 = true := by kernel_rfl
def shares_mixture_after.T8 : Bool × List (List Nat × List Nat) := (true, [([], []), ([], []), ([1], [1]), ([0, 2], [0, 2]), ([3], [3]), ([], []), ([4, 5], [4, 5]), ([6], [6]), ([], []), ([], []), ([9], [9]), ([8, 10], [8, 10]), ([11], [11]), ([], []), ([12, 13], [12, 13]), ([14], [14]), ([], []), ([], []), ([16, 7, 0, 1, 2, 3, 4, 5, 6, 7, 16, 17], [7, 16]), ([17, 15, 18, 0, 1, 2, 3, 4, 5, 6, 7, 8, 9, 10, 11, 12, 13, 14, 15, 16, 17, 18], [15, 17])])
def shares_mixture_after.B8 : List Nat := [0, 0, 2, 7, 15, 0, 63, 127, 0, 0, 512, 1792, 3840, 0, 16128, 32512, 0, 0, 196863, 524287]
theorem shares_mixture_after.tab8 : rtab .any (opsOf Try.f96 8) = shares_mixture_after.T8 := by kernel_rfl
theorem shares_mixture_after.bits8 : waitsOk shares_mixture_after.T8.2 shares_mixture_after.B8 = true := by kernel_rfl
def shares_mixture_after.T9 : Bool × List (List Nat × List Nat) := (true, [([], []), ([], []), ([1], [1]), ([], []), ([], []), ([4], [4]), ([3, 5], [3, 5]), ([6], [6]), ([], []), ([], []), ([8, 9], [8, 9]), ([], []), ([], []), ([11, 12, 10], [11, 12]), ([10, 13, 13], [10, 13]), ([14], [14]), ([7, 15, 14], [7, 15]), ([0, 2, 0, 1, 2, 3, 4, 5, 6, 7, 8, 9, 10, 11, 12, 13, 14, 15, 16], [0, 2]), ([17, 16, 16, 0, 1, 2, 3, 4, 5, 6, 7, 8, 9, 10, 11, 12, 13, 14, 15, 16], [16, 17])])
def shares_mixture_after.B9 : List Nat := [0, 0, 2, 0, 0, 16, 56, 120, 0, 0, 768, 0, 0, 7936, 16128, 32512, 65528, 131071, 262143]
theorem shares_mixture_after.tab9 : rtab .any (opsOf Try.f96 9) = shares_mixture_after.T9 := by kernel_rfl
theorem shares_mixture_after.bits9 : waitsOk shares_mixture_after.T9.2 shares_mixture_after.B9 = true := by kernel_rfl
def shares_mixture_after.T10 : Bool × List (List Nat × List Nat) := (true, [([], []), ([], []), ([1], [1]), ([], []), ([], []), ([4], [4]), ([3, 5], [3, 5]), ([6], [6]), ([], []), ([], []), ([8, 9], [8, 9]), ([], []), ([], []), ([11, 12, 10], [11, 12]), ([10, 13, 13], [10, 13]), ([14], [14]), ([7, 15, 14], [7, 15]), ([0, 2, 0, 1, 2, 3, 4, 5, 6, 7, 8, 9, 10, 11, 12, 13, 14, 15, 16], [0, 2]), ([17, 16, 16, 0, 1, 2, 3, 4, 5, 6, 7, 8, 9, 10, 11, 12, 13, 14, 15, 16], [16, 17])])
def shares_mixture_after.B10 : List Nat := [0, 0, 2, 0, 0, 16, 56, 120, 0, 0, 768, 0, 0, 7936, 16128, 32512, 65528, 131071, 262143]
theorem shares_mixture_after.tab10 : rtab .any (opsOf Try.f96 10) = shares_mixture_after.T10 := by kernel_rfl
theorem shares_mixture_after.bits10 : waitsOk shares_mixture_after.T10.2 shares_mixture_after.B10 = true := by kernel_rfl
set_option maxHeartbeats 8000000 in
set_option maxRecDepth 100000 in
theorem shares_mixture_after.calls (k : Nat) (A0 : Option Addr) (c0 : Nat) (l0 : List (List (S62))) (a1_0 : Int) (a1_1 : Int) (a1_2 : Int) (A2 : Option Addr) (c2 : Nat) (l2 : List Int) (r : List (List (S62))) (w : World) (b0 : Nat) (hm : kMx.R 52 w b0 (fun _ => True) (.slice A0 l0.length c0) l0) (hp0_ : 0 < l0.length) (hle_ : l0.length ≤ 1000) (hsq : ∀ r_ ∈ l0, r_.length = l0.length) (hne_ : a1_0 ≠ a1_1) (hr0 : Kd.C (Kd.slice 62 k62) w A0 l0.length l0) (hc0 : l0.length ≤ c0) (hr2 : Kd.C (Kd.int .i64) w A2 l2.length l2) (hc2 : l2.length ≤ c2) (h : shares_mixture_after.f k l0 a1_0 a1_1 a1_2 l2 = some r) :
  Calls Try.prog 96 #[.slice A0 l0.length c0, .agg #[.int .i64 a1_0, .int .i64 a1_1, .int .i64 a1_2], .slice A2 l2.length c2] w fun e w' => ∃ v0_ : Value, e = .returned (v0_) ∧ Kd.S (hyF l0.length (Qh w b0)) 52 w' w.heap.size (fun _ => True) v0_ r ∧ Below w.heap.size w w' := by
 have hu77 := Try.underlying77
 have hu62 := Try.underlying62
 have HCL : Aside0 (∀ (W : World) (t : List (List S62)), Below w.heap.size w W → xCloneM.f l0 = some t → Calls Try.prog 116 #[.slice A0 l0.length c0] W fun e w' => ∃ v0_ : Value, e = .returned v0_ ∧ Kd.S (hyF l0.length (Qh w b0)) 52 w' W.heap.size (fun _ => True) v0_ t ∧ Below W.heap.size W w') := ⟨fun W t hb ht => by
  obtain rfl := Option.some.inj ht
  obtain ⟨adm, rfl, _⟩ := hr0.2.2 hp0_
  exact cloneM_calls adm c0 l0 hle_ hsq w W b0 hm hb⟩
 have HNE := Aside0.mk hne_
 have HLE := Aside0.mk hle_
 have HP0 := Aside0.mk hp0_
 clear hm hsq hne_ hle_ hp0_
 have HR0 := Aside0.mk hr0
 have HC0 := Aside0.mk hc0
 clear hr0 hc0
 have HR2 := Aside0.mk hr2
 have HC2 := Aside0.mk hc2
 clear hr2 hc2
 have HB := ak (Below.refl w.heap.size w)
 have H : (if 0 ≤ a1_0 then (if a1_0 < (l2.length : Int) then (if 0 ≤ a1_1 then (if a1_1 < (l2.length : Int) then ((shares_frac.f k a1_2 (wrap64 ((rd l2 a1_0) - (rd l2 a1_1)))).bind fun bt385 => ((shares_frac.f k (wrap64 (bt385.2 - bt385.1)) bt385.2).bind fun bt388 => ((xCloneM.f l0).bind fun t391 => (if a1_0 < (t391.length : Int) then (if a1_1 < (t391.length : Int) then (shares_mixture_after.l0 k l0 ((t391.set (a1_0 : Int).toNat ([] : List (S62))).set (a1_1 : Int).toNat ([] : List (S62))) (l0.length : Int) 0 a1_0 a1_1 a1_2 bt385.1 bt385.2 bt388.1 bt388.2) else (none)) else (none))))) else (none)) else (none)) else (none)) else (none)) = some r := h
 clear h
 by_cases c4 : 0 ≤ a1_0
 rotate_left
 ·rw [if_neg c4] at H
  exact absurd H (by simp)
 rw [if_pos c4] at H
 have c4b0 : decide (0 ≤ a1_0) = true := decide_eq_true c4
 clear c4
 by_cases c5 : a1_0 < (l2.length : Int)
 rotate_left
 ·rw [if_neg c5] at H
  exact absurd H (by simp)
 rw [if_pos c5] at H
 have c5b0 : decide (a1_0 < (l2.length : Int)) = true := decide_eq_true c5
 clear c5
 by_cases c6 : 0 ≤ a1_1
 rotate_left
 ·rw [if_neg c6] at H
  exact absurd H (by simp)
 rw [if_pos c6] at H
 have c6b0 : decide (0 ≤ a1_1) = true := decide_eq_true c6
 clear c6
 by_cases c7 : a1_1 < (l2.length : Int)
 rotate_left
 ·rw [if_neg c7] at H
  exact absurd H (by simp)
 rw [if_pos c7] at H
 have c7b0 : decide (a1_1 < (l2.length : Int)) = true := decide_eq_true c7
 clear c7
 replace H := Option.bind_eq_some_iff.mp H
 obtain ⟨⟨t385, t386⟩, A80, H⟩ := H
 replace H : ((shares_frac.f k (wrap64 (t386 - t385)) t386).bind fun bt388 => ((xCloneM.f l0).bind fun t391 => (if a1_0 < (t391.length : Int) then (if a1_1 < (t391.length : Int) then (shares_mixture_after.l0 k l0 ((t391.set (a1_0 : Int).toNat ([] : List (S62))).set (a1_1 : Int).toNat ([] : List (S62))) (l0.length : Int) 0 a1_0 a1_1 a1_2 t385 t386 bt388.1 bt388.2) else (none)) else (none)))) = some r := H
 have A8 := Aside0.mk A80
 clear A80
 replace H := Option.bind_eq_some_iff.mp H
 obtain ⟨⟨t388, t389⟩, A90, H⟩ := H
 replace H : ((xCloneM.f l0).bind fun t391 => (if a1_0 < (t391.length : Int) then (if a1_1 < (t391.length : Int) then (shares_mixture_after.l0 k l0 ((t391.set (a1_0 : Int).toNat ([] : List (S62))).set (a1_1 : Int).toNat ([] : List (S62))) (l0.length : Int) 0 a1_0 a1_1 a1_2 t385 t386 t388 t389) else (none)) else (none))) = some r := H
 have A9 := Aside0.mk A90
 clear A90
 replace H := Option.bind_eq_some_iff.mp H
 obtain ⟨t391, A100, H⟩ := H
 replace H : (if a1_0 < (t391.length : Int) then (if a1_1 < (t391.length : Int) then (shares_mixture_after.l0 k l0 ((t391.set (a1_0 : Int).toNat ([] : List (S62))).set (a1_1 : Int).toNat ([] : List (S62))) (l0.length : Int) 0 a1_0 a1_1 a1_2 t385 t386 t388 t389) else (none)) else (none)) = some r := H
 have A10 := Aside0.mk A100
 clear A100
 by_cases c11 : a1_0 < (t391.length : Int)
 rotate_left
 ·rw [if_neg c11] at H
  exact absurd H (by simp)
 rw [if_pos c11] at H
 have c11b0 : decide (a1_0 < (t391.length : Int)) = true := decide_eq_true c11
 clear c11
 obtain ⟨y394, hy394⟩ : ∃ y_ : List (List (S62)), y_ = (t391.set (a1_0 : Int).toNat ([] : List (S62))) := ⟨_, rfl⟩
 replace H : (if a1_1 < (t391.length : Int) then (shares_mixture_after.l0 k l0 (y394.set (a1_1 : Int).toNat ([] : List (S62))) (l0.length : Int) 0 a1_0 a1_1 a1_2 t385 t386 t388 t389) else (none)) = some r := by first | (rw [hy394]; with_reducible exact H) | (have H2_ := (Option.bind_some _ _).symm.trans H; rw [hy394]; with_reducible exact H2_) | (have H2_ := (Option.bind_some _ _).symm.trans H; with_reducible exact H2_) | with_reducible exact H | (rw [hy394]; exact H) | exact H
 have Ny394 := Aside0.mk hy394
 clear hy394
 by_cases c13 : a1_1 < (t391.length : Int)
 rotate_left
 ·rw [if_neg c13] at H
  exact absurd H (by simp)
 rw [if_pos c13] at H
 have c13b0 : decide (a1_1 < (t391.length : Int)) = true := decide_eq_true c13
 clear c13
 obtain ⟨y395, hy395⟩ : ∃ y_ : List (List (S62)), y_ = (y394.set (a1_1 : Int).toNat ([] : List (S62))) := ⟨_, rfl⟩
 replace H : (shares_mixture_after.l0 k l0 y395 (l0.length : Int) 0 a1_0 a1_1 a1_2 t385 t386 t388 t389) = some r := by first | (rw [hy395]; with_reducible exact H) | (have H2_ := (Option.bind_some _ _).symm.trans H; rw [hy395]; with_reducible exact H2_) | (have H2_ := (Option.bind_some _ _).symm.trans H; with_reducible exact H2_) | with_reducible exact H | (rw [hy395]; exact H) | exact H
 have Ny395 := Aside0.mk hy395
 clear hy395
 have H' := Aside0.mk H
 clear H
 go_enter Try.func96, Try.ntmps96
 try go_wp2_with (first | ((with_reducible refine gate_dst (N := 4) rfl ?_); refine bE 4 #[.int .i64 a1_0, .int .i64 a1_1, .int .i64 a1_2] 77 ?_; intro gb382 hg w15 hbox hb; have BK382 := ak (hbox); have GW382 := kG w hg; have GE382 := kG w hg; replace HB := kH _ hb; clear hb hbox hg))
 replace BK382 := kd BK382
 replace HB := ak (below_drew1 HB.out)
 have p383 : 0 ≤ (a1_0 : Int) := dA
 have q383 : a1_0 < (l2.length : Int) := dA
 obtain ⟨ad383, e383, hx383_0⟩ := Kd.at_int HR2.out a1_0 p383 q383
 have hw383_0 := hx383_0
 cases e383
 try replace hx383_0 := (HB.out.cell (World.block_lt_of_cell? w _ hx383_0)).trans hx383_0
 replace p383 := eq_true p383
 replace q383 := eq_true q383
 have p384 : 0 ≤ (a1_1 : Int) := dA
 have q384 : a1_1 < (l2.length : Int) := dA
 obtain ⟨ad384, e384, hx384_0⟩ := Kd.at_int HR2.out a1_1 p384 q384
 have hw384_0 := hx384_0
 obtain rfl : ad383 = ad384 := (by injection e384)
 try replace hx384_0 := (HB.out.cell (World.block_lt_of_cell? w _ hx384_0)).trans hx384_0
 replace p384 := eq_true p384
 replace q384 := eq_true q384
 refine sS (n := 16) (S := fun w' => w'.cell? ⟨gb382, 0, none⟩ = some (.int .i64 a1_0) ∧ w'.cell? ⟨gb382, 1, none⟩ = some (.int .i64 a1_1) ∧ w'.cell? ⟨gb382, 2, none⟩ = some (.int .i64 a1_2) ∧ w'.cell? (ad383.add (a1_0).toNat) = some (.int .i64 (rd l2 a1_0)) ∧ w'.cell? (ad383.add (a1_1).toNat) = some (.int .i64 (rd l2 a1_1))) (ds := []) ⟨bc BK382 0, bc BK382 1, bc BK382 2, ((HB.out.cell (World.block_lt_of_cell? w _ hw383_0)).trans hw383_0), ((HB.out.cell (World.block_lt_of_cell? w _ hw384_0)).trans hw384_0)⟩ (fun hHeld => ?_); refine with_tabW shares_mixture_after.tab1 shares_mixture_after.bits1 (fun HT_ HW_ => ?_)
 generalize w15.drew = w16 at BK382 HB hx383_0 hx384_0 hHeld ⊢
 refine pS 0 13 16 1 ?_
 refine pS 2 15 16 5 ?_
 refine pS 3 16 16 13 ?_
 refine pS 7 20 16 141 ?_
 refine pS 8 21 16 397 ?_
 refine tS 1 14 16 399 ?_
 refine tS 4 17 16 415 ?_
 refine pS 5 18 16 447 ?_
 refine tS 6 19 16 511 ?_
 refine tS 9 22 16 1023 ?_
 refine pS 10 23 16 2047 ?_
 refine tS 11 24 16 4095 ?_
 refine pS 12 25 16 8191 ?_
 refine join_ (σ := Nat) 1 (ba 16 32767) (fun s_ => [(26, .agg #[.int .i64 t385, .int .i64 t386]), (7, .pointer (some ⟨s_, 0, none⟩))]) (fun s_ w' => (w'.cell? ⟨gb382, 0, none⟩ = some (.int .i64 a1_0) ∧ w'.cell? ⟨gb382, 1, none⟩ = some (.int .i64 a1_1) ∧ w'.cell? ⟨gb382, 2, none⟩ = some (.int .i64 a1_2) ∧ w'.cell? (ad383.add (a1_0).toNat) = some (.int .i64 (rd l2 a1_0)) ∧ w'.cell? (ad383.add (a1_1).toNat) = some (.int .i64 (rd l2 a1_1))) ∧ (w'.heap[gb382]? = some (.cells #[.int .i64 a1_0, .int .i64 a1_1, .int .i64 a1_2] 77 (0, 0))) ∧ (w'.heap[s_]? = some (.cells #[.int .i64 0, .int .i64 0] 62 (0, 0))) ∧ (w.heap.size ≤ s_) ∧ (w.heap.size ≤ s_) ∧ (gb382 ≠ s_) ∧ (s_ ≠ gb382) ∧ (Below w.heap.size w w')) ?_ ?_
 rotate_left
 ·intro hCont
  refine two_ (i := 13) (j := 14) (Ni := some 26) (Nj := some 7) (ba 16 16383) (ba 16 24575) rfl rfl rfl rfl (two_of HT_.out (by kernel_rfl)) (by decide) (by decide) (fun K hK => ?_) (fun K hK => ?_)
  ·skip
   refine gC Try.func85 #[.int .i64 a1_2, .int .i64 (wrap64 ((rd l2 a1_0) - (rd l2 a1_1)))] ?_
   with_reducible refine (shares_frac.calls k a1_2 (wrap64 ((rd l2 a1_0) - (rd l2 a1_1))) t385 t386 _ A8.out).mono ?_
   rintro e w17 ⟨rfl, hb⟩
   refine ⟨_, rfl, ?_⟩
   replace BK382 := kB BK382 hb
   replace HB := kH _ hb
   (try clear hb)
   (try clear hb2)
   (try clear hk)
   (try clear hi)
   refine hK.out _ _ ⟨bc BK382 0, bc BK382 1, bc BK382 2, ((HB.out.cell (World.block_lt_of_cell? w _ hw383_0)).trans hw383_0), ((HB.out.cell (World.block_lt_of_cell? w _ hw384_0)).trans hw384_0)⟩ (fun hHeld => ?_)
   clear hK K
   refine norm_ (a' := ?_) ?_ ?_
   rotate_left
   ·show Act.put _ (some 26) _ = _
    simp only [Act.put, List.setIfInBounds_toArray, List.set_cons_zero, List.set_cons_succ, i64_w, i32_w]
    rfl
   refine one_ (i := 14) (N := some 7) (ba 16 32767) rfl rfl (one_of HT_.out (by kernel_rfl)) (by decide) (fun K hK => ?_)
   refine box_step ?hg (N := 7) ?hd (cs := #[.int .i64 0, .int .i64 0]) (t := 62) ?hr ?_; (case hd => rfl); (case hg => rfl); (case hr => first | (go_simp; done) | (go_simp; rfl))
   intro gb387 hg w18 hbox hb
   have BK387 := ak (hbox)
   have GW387 := kG w hg
   have GE387 := kG w hg
   replace HB := kH _ hb
   have NB382_387 := kL BK382 hg
   have NB387_382 := kR BK382 hg
   replace BK382 := kB BK382 hb
   clear hb hbox hg
   refine hK.out _ _ ⟨bc BK382 0, bc BK382 1, bc BK382 2, ((HB.out.cell (World.block_lt_of_cell? w _ hw383_0)).trans hw383_0), ((HB.out.cell (World.block_lt_of_cell? w _ hw384_0)).trans hw384_0)⟩ (fun hHeld => ?_)
   clear hK K
   refine norm_ (a' := ?_) ?_ ?_
   rotate_left
   ·show Act.put _ (some 7) _ = _
    simp only [Act.put, List.setIfInBounds_toArray, List.set_cons_zero, List.set_cons_succ, i64_w, i32_w]
    rfl
   exact norm_ (by simp only [putAll, Act.put, List.setIfInBounds_toArray, List.set_cons_zero, List.set_cons_succ]) (hCont (gb387) _ ⟨hHeld, (bkC BK382), (bkC BK387), GW387.out, GE387.out, NB382_387.out, NB387_382.out, (hbC _)⟩)
  ·skip
   refine box_step ?hg (N := 7) ?hd (cs := #[.int .i64 0, .int .i64 0]) (t := 62) ?hr ?_; (case hd => rfl); (case hg => rfl); (case hr => first | (go_simp; done) | (go_simp; rfl))
   intro gb387 hg w17 hbox hb
   have BK387 := ak (hbox)
   have GW387 := kG w hg
   have GE387 := kG w hg
   replace HB := kH _ hb
   have NB382_387 := kL BK382 hg
   have NB387_382 := kR BK382 hg
   replace BK382 := kB BK382 hb
   clear hb hbox hg
   refine hK.out _ _ ⟨bc BK382 0, bc BK382 1, bc BK382 2, ((HB.out.cell (World.block_lt_of_cell? w _ hw383_0)).trans hw383_0), ((HB.out.cell (World.block_lt_of_cell? w _ hw384_0)).trans hw384_0)⟩ (fun hHeld => ?_)
   clear hK K
   refine norm_ (a' := ?_) ?_ ?_
   rotate_left
   ·show Act.put _ (some 7) _ = _
    simp only [Act.put, List.setIfInBounds_toArray, List.set_cons_zero, List.set_cons_succ, i64_w, i32_w]
    rfl
   refine one_ (i := 13) (N := some 26) (ba 16 32767) rfl rfl (one_of HT_.out (by kernel_rfl)) (by decide) (fun K hK => ?_)
   refine gC Try.func85 #[.int .i64 a1_2, .int .i64 (wrap64 ((rd l2 a1_0) - (rd l2 a1_1)))] ?_
   with_reducible refine (shares_frac.calls k a1_2 (wrap64 ((rd l2 a1_0) - (rd l2 a1_1))) t385 t386 _ A8.out).mono ?_
   rintro e w18 ⟨rfl, hb⟩
   refine ⟨_, rfl, ?_⟩
   replace BK382 := kB BK382 hb
   replace BK387 := kB BK387 hb
   replace HB := kH _ hb
   (try clear hb)
   (try clear hb2)
   (try clear hk)
   (try clear hi)
   refine hK.out _ _ ⟨bc BK382 0, bc BK382 1, bc BK382 2, ((HB.out.cell (World.block_lt_of_cell? w _ hw383_0)).trans hw383_0), ((HB.out.cell (World.block_lt_of_cell? w _ hw384_0)).trans hw384_0)⟩ (fun hHeld => ?_)
   clear hK K
   refine norm_ (a' := ?_) ?_ ?_
   rotate_left
   ·show Act.put _ (some 26) _ = _
    simp only [Act.put, List.setIfInBounds_toArray, List.set_cons_zero, List.set_cons_succ, i64_w, i32_w]
    rfl
   exact norm_ (by simp only [putAll, Act.put, List.setIfInBounds_toArray, List.set_cons_zero, List.set_cons_succ]) (hCont (gb387) _ ⟨hHeld, (bkC BK382), (bkC BK387), GW387.out, GE387.out, NB382_387.out, NB387_382.out, (hbC _)⟩)
 rintro gb387 w19 ⟨hS_, h0_, h1_, h2_, h3_, h4_, h5_, h6_⟩
 have n0_ : Aside0 (w19.heap[gb382]? = some (.cells #[.int .i64 a1_0, .int .i64 a1_1, .int .i64 a1_2] 77 (0, 0))) := ⟨h0_⟩
 have n1_ : Aside0 (w19.heap[gb387]? = some (.cells #[.int .i64 0, .int .i64 0] 62 (0, 0))) := ⟨h1_⟩
 have n2_ : Aside0 (w.heap.size ≤ gb387) := ⟨h2_⟩
 have n3_ : Aside0 (w.heap.size ≤ gb387) := ⟨h3_⟩
 have n4_ : Aside0 (gb382 ≠ gb387) := ⟨h4_⟩
 have n5_ : Aside0 (gb387 ≠ gb382) := ⟨h5_⟩
 have n6_ : Aside0 (Below w.heap.size w w19) := ⟨h6_⟩
 clear BK382
 clear HB
 clear h0_ h1_ h2_ h3_ h4_ h5_ h6_
 have BK382 := n0_
 have BK387 := n1_
 have GW387 := n2_
 have GE387 := n3_
 have NB382_387 := n4_
 have NB387_382 := n5_
 have HB := n6_
 clear n0_ n1_ n2_ n3_ n4_ n5_ n6_
 have hHeld : w19.cell? ⟨gb382, 0, none⟩ = some (.int .i64 a1_0) ∧ w19.cell? ⟨gb382, 1, none⟩ = some (.int .i64 a1_1) ∧ w19.cell? ⟨gb382, 2, none⟩ = some (.int .i64 a1_2) ∧ w19.cell? (ad383.add (a1_0).toNat) = some (.int .i64 (rd l2 a1_0)) ∧ w19.cell? (ad383.add (a1_1).toNat) = some (.int .i64 (rd l2 a1_1)) := hS_
 refine norm_ (a' := ?_) ?_ ?_
 rotate_left
 ·simp only [putAll, Act.put, List.setIfInBounds_toArray, List.set_cons_zero, List.set_cons_succ]
  rfl
 refine one_ (i := 15) (N := none) (ba 16 65535) rfl rfl (one_of HT_.out (by kernel_rfl)) (by decide) (fun K hK => ?_)
 have hs20 : w19.cell? ⟨gb387, 0, none⟩ = some (.int .i64 0) := bc BK387 0
 have hfs20 := fz BK387 0
 have hns20_0 := NB382_387.out
 have hms20_0 := NB387_382.out
 have hs21 : w19.cell? ⟨gb387, 1, none⟩ = some (.int .i64 0) := bc BK387 1
 have hfs21 := fz BK387 1
 have hns21_0 := NB382_387.out
 have hms21_0 := NB387_382.out
 refine skip_ (w1 := ?_) (by rfl) rfl ?_ ?_
 rotate_left
 ·go_simp
  rfl
 refine hK.out _ _ ⟨((cell_far (p := ⟨gb387, _, none⟩) NB382_387.out _).trans (((cell_far (p := ⟨gb387, _, none⟩) NB382_387.out _).trans (hHeld.1)))), ((cell_far (p := ⟨gb387, _, none⟩) NB382_387.out _).trans (((cell_far (p := ⟨gb387, _, none⟩) NB382_387.out _).trans (hHeld.2.1)))), ((cell_far (p := ⟨gb387, _, none⟩) NB382_387.out _).trans (((cell_far (p := ⟨gb387, _, none⟩) NB382_387.out _).trans (hHeld.2.2.1)))), ((cell_far (p := ⟨gb387, _, none⟩) (by first | exact Nat.ne_of_lt (Nat.lt_of_lt_of_le (by have := World.block_lt_of_cell? _ _ hw383_0; first | rwa [add_block] at this | exact this) GW387.out) | (rw [add_block]; exact Nat.ne_of_lt (Nat.lt_of_lt_of_le (by have := World.block_lt_of_cell? _ _ hw383_0; first | rwa [add_block] at this | exact this) GW387.out)) | (show (Addr.add _ _).block ≠ _; rw [add_block]; exact Nat.ne_of_lt (Nat.lt_of_lt_of_le (by have := World.block_lt_of_cell? _ _ hw383_0; first | rwa [add_block] at this | exact this) GW387.out)) | (dsimp only; exact Nat.ne_of_lt (Nat.lt_of_lt_of_le (by have := World.block_lt_of_cell? _ _ hw383_0; first | rwa [add_block] at this | exact this) GW387.out))) _).trans (((cell_far (p := ⟨gb387, _, none⟩) (by first | exact Nat.ne_of_lt (Nat.lt_of_lt_of_le (by have := World.block_lt_of_cell? _ _ hw383_0; first | rwa [add_block] at this | exact this) GW387.out) | (rw [add_block]; exact Nat.ne_of_lt (Nat.lt_of_lt_of_le (by have := World.block_lt_of_cell? _ _ hw383_0; first | rwa [add_block] at this | exact this) GW387.out)) | (show (Addr.add _ _).block ≠ _; rw [add_block]; exact Nat.ne_of_lt (Nat.lt_of_lt_of_le (by have := World.block_lt_of_cell? _ _ hw383_0; first | rwa [add_block] at this | exact this) GW387.out)) | (dsimp only; exact Nat.ne_of_lt (Nat.lt_of_lt_of_le (by have := World.block_lt_of_cell? _ _ hw383_0; first | rwa [add_block] at this | exact this) GW387.out))) _).trans (hHeld.2.2.2.1)))), ((cell_far (p := ⟨gb387, _, none⟩) (by first | exact Nat.ne_of_lt (Nat.lt_of_lt_of_le (by have := World.block_lt_of_cell? _ _ hw384_0; first | rwa [add_block] at this | exact this) GW387.out) | (rw [add_block]; exact Nat.ne_of_lt (Nat.lt_of_lt_of_le (by have := World.block_lt_of_cell? _ _ hw384_0; first | rwa [add_block] at this | exact this) GW387.out)) | (show (Addr.add _ _).block ≠ _; rw [add_block]; exact Nat.ne_of_lt (Nat.lt_of_lt_of_le (by have := World.block_lt_of_cell? _ _ hw384_0; first | rwa [add_block] at this | exact this) GW387.out)) | (dsimp only; exact Nat.ne_of_lt (Nat.lt_of_lt_of_le (by have := World.block_lt_of_cell? _ _ hw384_0; first | rwa [add_block] at this | exact this) GW387.out))) _).trans (((cell_far (p := ⟨gb387, _, none⟩) (by first | exact Nat.ne_of_lt (Nat.lt_of_lt_of_le (by have := World.block_lt_of_cell? _ _ hw384_0; first | rwa [add_block] at this | exact this) GW387.out) | (rw [add_block]; exact Nat.ne_of_lt (Nat.lt_of_lt_of_le (by have := World.block_lt_of_cell? _ _ hw384_0; first | rwa [add_block] at this | exact this) GW387.out)) | (show (Addr.add _ _).block ≠ _; rw [add_block]; exact Nat.ne_of_lt (Nat.lt_of_lt_of_le (by have := World.block_lt_of_cell? _ _ hw384_0; first | rwa [add_block] at this | exact this) GW387.out)) | (dsimp only; exact Nat.ne_of_lt (Nat.lt_of_lt_of_le (by have := World.block_lt_of_cell? _ _ hw384_0; first | rwa [add_block] at this | exact this) GW387.out))) _).trans (hHeld.2.2.2.2))))⟩ (fun hHeld => ?_)
 clear hK K
 refine done_ (done_of HT_.out (by kernel_rfl)) ?_
 have hnb22 := NB387_382.out
 have hnc22 := NB382_387.out
 have hcz23_0 : w19.cell? ⟨gb387, 0, none⟩ = some (.int .i64 0) := bc BK387 0
 have hcz23_1 : w19.cell? ⟨gb387, 1, none⟩ = some (.int .i64 0) := bc BK387 1
 have hfz23_0 := fz BK387 0
 have hfz23_1 := fz BK387 1
 try go_wp2_with (first | ((with_reducible refine gate_callee (f := 85) rfl ?_); refine gL 34 Try.func85 #[.int .i64 (wrap64 (t386 - t385)), .int .i64 t386] ?_; (with_reducible refine (shares_frac.calls k (wrap64 (t386 - t385)) t386 t388 t389 _ A9.out).mono ?_); rintro e w24 ⟨rfl, hb⟩; refine ⟨_, rfl, ?_⟩; replace BK382 := ak (blk_below (g := gb382) (o := .cells #[.int .i64 a1_0, .int .i64 a1_1, .int .i64 a1_2] 77 (0, 0)) (bF BK382) hb); replace BK387 := ak (blk_below (g := gb387) (o := .cells #[.int .i64 t385, .int .i64 t386] 62 (0, 0)) (by (with_reducible repeat (first | refine blk_drewN ?_ _ | refine blk_drew ?_ | refine blk_alloc ?_ _)); refine blk_put (cs := #[.int .i64 t385, .int .i64 0]) ?_ 1 _ rfl; (with_reducible repeat (first | refine blk_drewN ?_ _ | refine blk_drew ?_ | refine blk_alloc ?_ _)); refine blk_put (cs := #[.int .i64 0, .int .i64 0]) ?_ 0 _ rfl; (with_reducible repeat (first | refine blk_drewN ?_ _ | refine blk_drew ?_ | refine blk_alloc ?_ _)); exact BK387.out) hb); replace HB := kH _ hb; (try clear hb); (try clear hb2); (try clear hk); (try clear hi)) | ((with_reducible refine gate_dst (N := 8) rfl ?_); refine bE 8 #[.int .i64 0, .int .i64 0] 62 ?_; intro gb390 hg w25 hbox hb; have BK390 := ak (hbox); have GW390 := kG w hg; have GE390 := kG w hg; replace HB := kH _ hb; have NB382_390 := kL BK382 hg; have NB390_382 := kR BK382 hg; replace BK382 := kB BK382 hb; have NB387_390 := kL BK387 hg; have NB390_387 := kR BK387 hg; replace BK387 := kB BK387 hb; clear hb hbox hg; have hnb26 := NB390_382.out; have hnc26 := NB382_390.out; have hnb27 := NB390_387.out; have hnc27 := NB387_390.out; have hcz28_0 : w25.cell? ⟨gb390, 0, none⟩ = some (.int .i64 0) := bc BK390 0; have hcz28_1 : w25.cell? ⟨gb390, 1, none⟩ = some (.int .i64 0) := bc BK390 1; have hfz28_0 := fz BK390 0; have hfz28_1 := fz BK390 1) | ((with_reducible refine gate_callee (f := 116) rfl ?_); refine gL 36 Try.func116 #[.slice A0 l0.length c0] ?_; (with_reducible refine (HCL.out _ t391 (hbC _) A10.out).mono ?_); rintro e w29 ⟨v392, rfl, ho0, hb⟩; refine ⟨_, rfl, ?_⟩; have HO393 := ak (Kd.S_lower (Kd.S_newB (Kd.S_newB ho0 (g := gb387) (o := .cells #[.int .i64 t385, .int .i64 t386] 62 (0, 0)) (bF BK387)) (g := gb390) (o := .cells #[.int .i64 t388, .int .i64 t389] 62 (0, 0)) (by (with_reducible repeat (first | refine blk_drewN ?_ _ | refine blk_drew ?_ | refine blk_alloc ?_ _)); refine blk_put (cs := #[.int .i64 t388, .int .i64 0]) ?_ 1 _ rfl; (with_reducible repeat (first | refine blk_drewN ?_ _ | refine blk_drew ?_ | refine blk_alloc ?_ _)); refine blk_put (cs := #[.int .i64 0, .int .i64 0]) ?_ 0 _ rfl; (with_reducible repeat (first | refine blk_drewN ?_ _ | refine blk_drew ?_ | refine blk_alloc ?_ _)); exact BK390.out)) (below_size (hbC _))); replace BK382 := ak (blk_below (g := gb382) (o := .cells #[.int .i64 a1_0, .int .i64 a1_1, .int .i64 a1_2] 77 (0, 0)) (bF BK382) hb); replace BK387 := ak (blk_below (g := gb387) (o := .cells #[.int .i64 t385, .int .i64 t386] 62 (0, 0)) (bF BK387) hb); replace BK390 := ak (blk_below (g := gb390) (o := .cells #[.int .i64 t388, .int .i64 t389] 62 (0, 0)) (by (with_reducible repeat (first | refine blk_drewN ?_ _ | refine blk_drew ?_ | refine blk_alloc ?_ _)); refine blk_put (cs := #[.int .i64 t388, .int .i64 0]) ?_ 1 _ rfl; (with_reducible repeat (first | refine blk_drewN ?_ _ | refine blk_drew ?_ | refine blk_alloc ?_ _)); refine blk_put (cs := #[.int .i64 0, .int .i64 0]) ?_ 0 _ rfl; (with_reducible repeat (first | refine blk_drewN ?_ _ | refine blk_drew ?_ | refine blk_alloc ?_ _)); exact BK390.out) hb); replace HB := kH _ hb; (try clear hb); (try clear hb2); (try clear hk); (try clear hi); (try clear ho0)))
 have p12 : 0 ≤ (a1_0 : Int) := dA
 have q12 : (a1_0 : Int) < ((t391.length : Int) : Int) := dA
 obtain ⟨go12, co12, eo12, gb12, gl12, cl12, HG12⟩ := Kd.S_form HO393.out (by omega)
 (first | cases eo12 | (injection eo12 with ea_ en_ ec_; (first | subst ea_ | (injection ea_ with ea_; subst ea_)); subst ec_; clear en_))
 have GB12 := Aside0.mk gb12
 have GG12 := Aside0.mk HG12
 clear gb12 gl12 HG12
 have HO393d := ak (Kd.S_drew HO393.out)
 have BK382d := kd BK382
 have BK387d := kd BK387
 have BK390d := kd BK390
 have HBd := ak (below_drew1 HB.out)
 clear HO393 BK382 BK387 BK390 HB
 have HO393 := HO393d
 clear HO393d
 have BK382 := BK382d
 clear BK382d
 have BK387 := BK387d
 clear BK387d
 have BK390 := BK390d
 clear BK390d
 have HB := HBd
 clear HBd
 clear GG12
 refine sS (n := 10) (S := fun w' => w'.cell? ⟨gb382, 0, none⟩ = some (.int .i64 a1_0) ∧ w'.cell? ⟨gb382, 1, none⟩ = some (.int .i64 a1_1)) (ds := [9]) ⟨bc BK382 0, bc BK382 1⟩ (fun hHeld => ?_); refine with_tabW shares_mixture_after.tab4 shares_mixture_after.bits4 (fun HT_ HW_ => ?_)
 generalize w29.drew = w30 at HO393 BK382 BK387 BK390 HB hHeld ⊢
 refine pS 0 37 10 1 ?_
 refine pS 1 38 10 3 ?_
 refine pS 3 40 10 11 ?_
 refine pS 4 41 10 27 ?_
 refine tS 2 39 10 31 ?_
 refine tS 5 42 10 63 ?_
 refine pS 6 43 10 127 ?_
 refine one_ (i := 7) (N := none) (ba 10 255) rfl rfl (one_of HT_.out (by kernel_rfl)) (by decide) (fun K hK => ?_)
 obtain ⟨_, ce12, hcl12, hM12, hcc12, hfr12, _, _⟩ := Kd.S_elem HO393.out [] (a1_0 : Int) p12 q12
 obtain ⟨ve12_0, rfl⟩ := hy_cell hM12
 have hx12_0 := hcc12 0 _ rfl
 have hf12_0 := hfr12 0
 (try simp only [show ((hyF l0.length (Qh w b0))).sz = 1 from rfl, Nat.mul_one, Nat.add_zero] at hx12_0)
 (try simp only [show ((hyF l0.length (Qh w b0))).sz = 1 from rfl, Nat.mul_one, Nat.add_zero] at hf12_0)
 (try clear hcl12)
 (try clear hcc12)
 (try clear hfr12)
 (try clear hM12)
 replace p12 := eq_true p12
 replace q12 := eq_true q12
 have n_ := ak (Kd.S_mono (ok' := (fun k_ => k_ ≠ gb387 ∧ k_ ≠ gb390)) HO393.out (fun k_ hk => ⟨hk.1.2, hk.2⟩))
 clear HO393
 have HO393 := n_
 clear n_
 have HX31 := ak (show Kd.S (hyF l0.length (Qh w b0)) 52 w30 w.heap.size (fun k_ => ((fun k_ => k_ ≠ gb387 ∧ k_ ≠ gb390)) k_ ∧ ¬ ((fun _ => False)) k_) (.slice (some ⟨go12, 0, none⟩) t391.length co12) t391 from (by (with_reducible repeat (first | apply Kd.S_alloc | apply Kd.S_drewN | apply Kd.S_drew)); exact Kd.S_mono HO393.out (fun k_ hk => ⟨⟨hk.1, hk.2⟩, fun e_ => e_⟩)))
 obtain ⟨oki31, ce31, hcl31, hM31, hcc31, hfr31, hoki31, hH31⟩ := Kd.S_elem HX31.out [] (a1_0 : Int) (dA) (by have h_ : (a1_0 : Int) < ((t391.length : Int) : Int) := dA; first | exact h_ | (have e_ := (Kd.S_reads' HO393.out).1; omega) | simpa using h_)
 obtain ⟨ve31_0, rfl⟩ := hy_cell hM31
 have HP31 := Kd.S_seg hH31 (dA) (by have h_ : (a1_0 : Int) < ((t391.length : Int) : Int) := dA; first | exact h_ | (have e_ := (Kd.S_reads' HO393.out).1; omega) | simpa using h_) (seg := [.slice none 0 0]) (j := 0) (show 1 ≤ 1 from by decide) (x' := ([] : List (S62))) (Or.inl (Kd.M_row (Kd.R_nil _ _ _ _ _))) (fun _ hk => hk) (fun k_ hk_ => hk_.elim)
 have hx31_0 := hcc31 0 _ rfl
 (try simp only [show ((hyF l0.length (Qh w b0))).sz = 1 from rfl, Nat.mul_one, Nat.add_zero] at hx31_0)
 have hf31_0 := hfr31 0
 (try simp only [show ((hyF l0.length (Qh w b0))).sz = 1 from rfl, Nat.mul_one, Nat.add_zero] at hf31_0)
 (try clear hcl31)
 (try clear hcc31)
 (try clear hfr31)
 (try clear hM31)
 (try clear hoki31)
 (try clear hH31)
 (try simp only [show ((hyF l0.length (Qh w b0))).sz = 1 from rfl, Nat.mul_one, Nat.add_zero] at HP31)
 refine skip_ (w1 := ?_) (by rfl) rfl ?_ ?_
 rotate_left
 ·go_simp
  rfl
 have HNB382_go12 := ak (show gb382 ≠ go12 from by have h_ := Kd.S_ne HO393.out BK382.out (by decide); intro e_; exact h_ (by rw [e_]; rfl))
 refine hK.out _ _ ⟨(cell_far (p := ⟨go12, _, none⟩) HNB382_go12.out _).trans hHeld.1, (cell_far (p := ⟨go12, _, none⟩) HNB382_go12.out _).trans hHeld.2⟩ (fun hHeld => ?_)
 clear hK K
 generalize hw' : w30.setCell ⟨go12, (a1_0 : Int).toNat, none⟩ (.slice none 0 0) = w32 at hHeld ⊢
 have hw := hw'.symm
 clear hw'
 have hg : w30.grownBy w32 (some go12) := (by rw [hw]; exact HP31.2)
 have hp_ : Kd.S (hyF l0.length (Qh w b0)) 52 w32 w.heap.size (fun k_ => k_ ≠ gb387 ∧ k_ ≠ gb390) (.slice (some ⟨go12, 0, none⟩) t391.length co12) y394 := (by rw [hw, Ny394.out]; exact HP31.1)
 clear HP31
 replace BK382 := ak (blk_grown (g := gb382) (o := .cells #[.int .i64 a1_0, .int .i64 a1_1, .int .i64 a1_2] 77 (0, 0)) (bkC BK382) hg (Kd.S_ne HO393.out BK382.out (by decide)))
 replace BK387 := ak (blk_grown (g := gb387) (o := .cells #[.int .i64 t385, .int .i64 t386] 62 (0, 0)) (bkC BK387) hg (Kd.S_ne HO393.out BK387.out (by decide)))
 replace BK390 := ak (blk_grown (g := gb390) (o := .cells #[.int .i64 t388, .int .i64 t389] 62 (0, 0)) (bkC BK390) hg (Kd.S_ne HO393.out BK390.out (by decide)))
 replace HO393 := ak (hp_)
 replace HB := ak ((by rw [hw]; exact below_set (HB.out) GB12.out : Below w.heap.size w w32))
 clear hg hw hp_
 have p14 : 0 ≤ (a1_1 : Int) := dA
 have q14 : (a1_1 : Int) < ((t391.length : Int) : Int) := dA
 obtain ⟨_, ce14, hcl14, hM14, hcc14, hfr14, _, _⟩ := Kd.S_elem HO393.out [] (a1_1 : Int) p14 q14
 obtain ⟨ve14_0, rfl⟩ := hy_cell hM14
 have hx14_0 := hcc14 0 _ rfl
 have hf14_0 := hfr14 0
 (try simp only [show ((hyF l0.length (Qh w b0))).sz = 1 from rfl, Nat.mul_one, Nat.add_zero] at hx14_0)
 (try simp only [show ((hyF l0.length (Qh w b0))).sz = 1 from rfl, Nat.mul_one, Nat.add_zero] at hf14_0)
 (try clear hcl14)
 (try clear hcc14)
 (try clear hfr14)
 (try clear hM14)
 replace p14 := eq_true p14
 replace q14 := eq_true q14
 have HX34 := ak (show Kd.S (hyF l0.length (Qh w b0)) 52 w32 w.heap.size (fun k_ => ((fun k_ => k_ ≠ gb387 ∧ k_ ≠ gb390)) k_ ∧ ¬ ((fun _ => False)) k_) (.slice (some ⟨go12, 0, none⟩) t391.length co12) y394 from (by (with_reducible repeat (first | apply Kd.S_alloc | apply Kd.S_drewN | apply Kd.S_drew)); exact Kd.S_mono HO393.out (fun k_ hk => ⟨⟨hk.1, hk.2⟩, fun e_ => e_⟩)))
 obtain ⟨oki34, ce34, hcl34, hM34, hcc34, hfr34, hoki34, hH34⟩ := Kd.S_elem HX34.out [] (a1_1 : Int) (dA) (by have h_ : (a1_1 : Int) < ((t391.length : Int) : Int) := dA; first | exact h_ | (have e_ := (Kd.S_reads' HO393.out).1; omega) | simpa using h_)
 obtain ⟨ve34_0, rfl⟩ := hy_cell hM34
 have HP34 := Kd.S_seg hH34 (dA) (by have h_ : (a1_1 : Int) < ((t391.length : Int) : Int) := dA; first | exact h_ | (have e_ := (Kd.S_reads' HO393.out).1; omega) | simpa using h_) (seg := [.slice none 0 0]) (j := 0) (show 1 ≤ 1 from by decide) (x' := ([] : List (S62))) (Or.inl (Kd.M_row (Kd.R_nil _ _ _ _ _))) (fun _ hk => hk) (fun k_ hk_ => hk_.elim)
 have hx34_0 := hcc34 0 _ rfl
 (try simp only [show ((hyF l0.length (Qh w b0))).sz = 1 from rfl, Nat.mul_one, Nat.add_zero] at hx34_0)
 have hf34_0 := hfr34 0
 (try simp only [show ((hyF l0.length (Qh w b0))).sz = 1 from rfl, Nat.mul_one, Nat.add_zero] at hf34_0)
 (try clear hcl34)
 (try clear hcc34)
 (try clear hfr34)
 (try clear hM34)
 (try clear hoki34)
 (try clear hH34)
 (try simp only [show ((hyF l0.length (Qh w b0))).sz = 1 from rfl, Nat.mul_one, Nat.add_zero] at HP34)
 refine pS 8 44 10 511 ?_
 refine last_ (i := 9) (N := none) (ba 10 1023) rfl rfl (one_of HT_.out (by kernel_rfl)) (by decide) (fun K hK => ?_)
 refine skip_ (w1 := ?_) (by rfl) rfl ?_ ?_
 rotate_left
 ·go_simp
  rfl
 refine hK.out _ _ ?_
 clear hK K
 refine done_ (done_of HT_.out (by kernel_rfl)) ?_
 generalize hw' : w32.setCell ⟨go12, (a1_1 : Int).toNat, none⟩ (.slice none 0 0) = w35
 have hw := hw'.symm
 clear hw'
 have hg : w32.grownBy w35 (some go12) := (by rw [hw]; exact HP34.2)
 have hp_ : Kd.S (hyF l0.length (Qh w b0)) 52 w35 w.heap.size (fun k_ => k_ ≠ gb387 ∧ k_ ≠ gb390) (.slice (some ⟨go12, 0, none⟩) t391.length co12) y395 := (by rw [hw, Ny395.out]; exact HP34.1)
 clear HP34
 replace BK382 := ak (blk_grown (g := gb382) (o := .cells #[.int .i64 a1_0, .int .i64 a1_1, .int .i64 a1_2] 77 (0, 0)) (bkC BK382) hg (Kd.S_ne HO393.out BK382.out (by decide)))
 replace BK387 := ak (blk_grown (g := gb387) (o := .cells #[.int .i64 t385, .int .i64 t386] 62 (0, 0)) (bkC BK387) hg (Kd.S_ne HO393.out BK387.out (by decide)))
 replace BK390 := ak (blk_grown (g := gb390) (o := .cells #[.int .i64 t388, .int .i64 t389] 62 (0, 0)) (bkC BK390) hg (Kd.S_ne HO393.out BK390.out (by decide)))
 replace HO393 := ak (hp_)
 replace HB := ak ((by rw [hw]; exact below_set (HB.out) GB12.out : Below w.heap.size w w35))
 clear hg hw hp_
 go_wp2
 have HINV0 := ak (after_inv0 Ny394.out Ny395.out HNE.out (dA) (dA) (dA) (dA))
 go_loopg [47] k (fun kq v47 w' => ∃ (x9_1 : List (List (S62))) (x47_1 : Int), v47 = .int .i64 x47_1 ∧ Aside0 (shares_mixture_after.l0 kq l0 x9_1 (l0.length : Int) x47_1 a1_0 a1_1 a1_2 t385 t386 t388 t389 = some r) ∧ Aside0 (kq ≤ k) ∧ Aside0 (0 ≤ x47_1 ∧ ((rd_L5 x9_1 a1_0).length : Int) = x47_1 ∧ ((rd_L5 x9_1 a1_1).length : Int) = x47_1) ∧ Aside0 (Kd.S (hyF l0.length (Qh w b0)) 52 w' w.heap.size (fun k_ => k_ ≠ gb387 ∧ k_ ≠ gb390) (.slice (some ⟨go12, 0, none⟩) t391.length co12) x9_1) ∧ Aside0 (w'.heap[gb382]? = some (.cells #[.int .i64 a1_0, .int .i64 a1_1, .int .i64 a1_2] 77 (0, 0))) ∧ Aside0 (w'.heap[gb387]? = some (.cells #[.int .i64 t385, .int .i64 t386] 62 (0, 0))) ∧ Aside0 (w'.heap[gb390]? = some (.cells #[.int .i64 t388, .int .i64 t389] 62 (0, 0))) ∧ Aside0 (Below w.heap.size w w'))
 case atStart => exact ⟨(y395), (0), (by first | rfl | (simp; done) | (simp [*]; done)), H', ⟨Nat.le_refl _⟩, HINV0, ⟨by (with_reducible repeat (first | apply Kd.S_alloc | apply Kd.S_drewN | apply Kd.S_drew)); exact HO393.out⟩, ⟨bkC BK382⟩, ⟨bkC BK387⟩, ⟨bkC BK390⟩, ⟨hbC _⟩⟩
 case round =>
  clear H' HINV0
  try clear c1
  try clear p1
  try clear q1
  try clear hx1
  try clear c2
  try clear p2
  try clear c3
  try clear p3
  try clear q3
  try clear hx3
  try clear hf3
  try clear c4
  try clear c4b0
  try clear c5
  try clear c5b0
  try clear c6
  try clear c6b0
  try clear p6
  try clear c7
  try clear c7b0
  try clear c8
  try clear c9
  try clear c11
  try clear c11b0
  try clear c12
  try clear p12
  try clear q12
  try clear hx12
  try clear hf12
  try clear c13
  try clear c13b0
  try clear c14
  try clear p14
  try clear q14
  try clear hx14
  try clear hf14
  try clear c22
  try clear c26
  try clear c27
  try clear c31
  try clear hx31
  try clear hf31
  try clear c34
  try clear hx34
  try clear hf34
  try clear hcz23_0
  try clear hcz23_1
  try clear hcz28_0
  try clear hcz28_1
  try clear hcz30_0
  try clear hcz30_1
  try clear hcz30_2
  try clear hcz33_0
  try clear hcz33_1
  try clear hcz33_2
  try clear hfz23_0
  try clear hfz23_1
  try clear hfz28_0
  try clear hfz28_1
  try clear hfz30_0
  try clear hfz30_1
  try clear hfz30_2
  try clear hfz33_0
  try clear hfz33_1
  try clear hfz33_2
  try clear hx12_0
  try clear hx14_0
  try clear hx31_0
  try clear hx34_0
  try clear hx383_0
  try clear hx384_0
  try clear p12
  try clear p14
  try clear p383
  try clear p384
  try clear q12
  try clear q14
  try clear q383
  try clear q384
  obtain ⟨x9_1, x47_1, rfl, HA, HK1, HINV, HO_9, BK382, BK387, BK390, HB⟩ := hrel
  have hl9_1 := (Kd.S_reads' HO_9.out).1
  rw [hl9_1] at HO_9
  (try simp only [hl9_1])
  (try simp only [hl9_1] at BK382)
  (try simp only [hl9_1] at BK387)
  (try simp only [hl9_1] at BK390)
  cases gk with
  | zero => exact absurd HA.out (by simp [shares_mixture_after.l0])
  | succ k1 =>
   have H := HA.out
   clear HA
   simp only [shares_mixture_after.l0] at H
   by_cases c36 : x47_1 < (l0.length : Int)
   rotate_left
   ·rw [if_neg c36] at H
    have c36b0 : decide (x47_1 < (l0.length : Int)) = false := decide_eq_false c36
    clear c36
    obtain rfl := Option.some.inj H
    go_wp2
    go_ret
    exact ⟨_, by first | rfl | (simp [errW_none, errW_some] <;> rfl) | (simp [*, errW_none, errW_some] <;> rfl), by (with_reducible repeat (first | apply Kd.S_alloc | apply Kd.S_drewN | apply Kd.S_drew)); exact Kd.S_mono HO_9.out (fun _ hk => trivial), hbC _⟩
   rw [if_pos c36] at H
   have c36b0 : decide (x47_1 < (l0.length : Int)) = true := decide_eq_true c36
   clear c36
   by_cases c37 : 0 ≤ a1_0
   rotate_left
   ·rw [if_neg c37] at H
    exact absurd H (by simp)
   rw [if_pos c37] at H
   have c37b0 : decide (0 ≤ a1_0) = true := decide_eq_true c37
   clear c37
   by_cases c38 : a1_0 < (l0.length : Int)
   rotate_left
   ·rw [if_neg c38] at H
    exact absurd H (by simp)
   rw [if_pos c38] at H
   have c38b0 : decide (a1_0 < (l0.length : Int)) = true := decide_eq_true c38
   clear c38
   by_cases c39 : 0 ≤ x47_1
   rotate_left
   ·rw [if_neg c39] at H
    exact absurd H (by simp)
   rw [if_pos c39] at H
   have c39b0 : decide (0 ≤ x47_1) = true := decide_eq_true c39
   clear c39
   by_cases c40 : x47_1 < ((rd_L5 l0 a1_0).length : Int)
   rotate_left
   ·rw [if_neg c40] at H
    exact absurd H (by simp)
   rw [if_pos c40] at H
   have c40b0 : decide (x47_1 < ((rd_L5 l0 a1_0).length : Int)) = true := decide_eq_true c40
   clear c40
   by_cases c41 : 0 ≤ a1_1
   rotate_left
   ·rw [if_neg c41] at H
    exact absurd H (by simp)
   rw [if_pos c41] at H
   have c41b0 : decide (0 ≤ a1_1) = true := decide_eq_true c41
   clear c41
   by_cases c42 : a1_1 < (l0.length : Int)
   rotate_left
   ·rw [if_neg c42] at H
    exact absurd H (by simp)
   rw [if_pos c42] at H
   have c42b0 : decide (a1_1 < (l0.length : Int)) = true := decide_eq_true c42
   clear c42
   by_cases c43 : x47_1 < ((rd_L5 l0 a1_1).length : Int)
   rotate_left
   ·rw [if_neg c43] at H
    exact absurd H (by simp)
   rw [if_pos c43] at H
   have c43b0 : decide (x47_1 < ((rd_L5 l0 a1_1).length : Int)) = true := decide_eq_true c43
   clear c43
   by_cases c44 : a1_0 < (x9_1.length : Int)
   rotate_left
   ·rw [if_neg c44] at H
    exact absurd H (by simp)
   rw [if_pos c44] at H
   have c44b0 : decide (a1_0 < (x9_1.length : Int)) = true := decide_eq_true c44
   clear c44
   replace H := Option.bind_eq_some_iff.mp H
   obtain ⟨⟨t403, t404⟩, A450, H⟩ := H
   replace H : ((shares_times.f k1 t385 t386 ((rd_T62 (rd_L5 l0 a1_1) x47_1).f0) ((rd_T62 (rd_L5 l0 a1_1) x47_1).f1)).bind fun bt405 => ((shares_plus.f k1 t403 t404 bt405.1 bt405.2).bind fun bt407 => (if (rd_L5 x9_1 a1_0).length < 8796093022208 then ((some (x9_1.set (a1_0 : Int).toNat ((rd_L5 x9_1 a1_0) ++ [(⟨bt407.1, bt407.2⟩ : S62)]) : List (List (S62)))).bind fun y412 => (if a1_1 < (x9_1.length : Int) then ((shares_times.f k1 t385 t386 ((rd_T62 (rd_L5 l0 a1_0) x47_1).f0) ((rd_T62 (rd_L5 l0 a1_0) x47_1).f1)).bind fun bt414 => ((shares_times.f k1 t388 t389 ((rd_T62 (rd_L5 l0 a1_1) x47_1).f0) ((rd_T62 (rd_L5 l0 a1_1) x47_1).f1)).bind fun bt416 => ((shares_plus.f k1 bt414.1 bt414.2 bt416.1 bt416.2).bind fun bt418 => (if (rd_L5 y412 a1_1).length < 8796093022208 then (shares_mixture_after.l0 k1 l0 (y412.set (a1_1 : Int).toNat ((rd_L5 y412 a1_1) ++ [(⟨bt418.1, bt418.2⟩ : S62)])) (l0.length : Int) (wrap64 (x47_1 + 1)) a1_0 a1_1 a1_2 t385 t386 t388 t389) else (none))))) else (none))) else (none)))) = some r := H
   have A45 := Aside0.mk A450
   clear A450
   replace H := Option.bind_eq_some_iff.mp H
   obtain ⟨⟨t405, t406⟩, A460, H⟩ := H
   replace H : ((shares_plus.f k1 t403 t404 t405 t406).bind fun bt407 => (if (rd_L5 x9_1 a1_0).length < 8796093022208 then ((some (x9_1.set (a1_0 : Int).toNat ((rd_L5 x9_1 a1_0) ++ [(⟨bt407.1, bt407.2⟩ : S62)]) : List (List (S62)))).bind fun y412 => (if a1_1 < (x9_1.length : Int) then ((shares_times.f k1 t385 t386 ((rd_T62 (rd_L5 l0 a1_0) x47_1).f0) ((rd_T62 (rd_L5 l0 a1_0) x47_1).f1)).bind fun bt414 => ((shares_times.f k1 t388 t389 ((rd_T62 (rd_L5 l0 a1_1) x47_1).f0) ((rd_T62 (rd_L5 l0 a1_1) x47_1).f1)).bind fun bt416 => ((shares_plus.f k1 bt414.1 bt414.2 bt416.1 bt416.2).bind fun bt418 => (if (rd_L5 y412 a1_1).length < 8796093022208 then (shares_mixture_after.l0 k1 l0 (y412.set (a1_1 : Int).toNat ((rd_L5 y412 a1_1) ++ [(⟨bt418.1, bt418.2⟩ : S62)])) (l0.length : Int) (wrap64 (x47_1 + 1)) a1_0 a1_1 a1_2 t385 t386 t388 t389) else (none))))) else (none))) else (none))) = some r := H
   have A46 := Aside0.mk A460
   clear A460
   replace H := Option.bind_eq_some_iff.mp H
   obtain ⟨⟨t407, t408⟩, A470, H⟩ := H
   replace H : (if (rd_L5 x9_1 a1_0).length < 8796093022208 then ((some (x9_1.set (a1_0 : Int).toNat ((rd_L5 x9_1 a1_0) ++ [(⟨t407, t408⟩ : S62)]) : List (List (S62)))).bind fun y412 => (if a1_1 < (x9_1.length : Int) then ((shares_times.f k1 t385 t386 ((rd_T62 (rd_L5 l0 a1_0) x47_1).f0) ((rd_T62 (rd_L5 l0 a1_0) x47_1).f1)).bind fun bt414 => ((shares_times.f k1 t388 t389 ((rd_T62 (rd_L5 l0 a1_1) x47_1).f0) ((rd_T62 (rd_L5 l0 a1_1) x47_1).f1)).bind fun bt416 => ((shares_plus.f k1 bt414.1 bt414.2 bt416.1 bt416.2).bind fun bt418 => (if (rd_L5 y412 a1_1).length < 8796093022208 then (shares_mixture_after.l0 k1 l0 (y412.set (a1_1 : Int).toNat ((rd_L5 y412 a1_1) ++ [(⟨bt418.1, bt418.2⟩ : S62)])) (l0.length : Int) (wrap64 (x47_1 + 1)) a1_0 a1_1 a1_2 t385 t386 t388 t389) else (none))))) else (none))) else (none)) = some r := H
   have A47 := Aside0.mk A470
   clear A470
   by_cases c48 : (rd_L5 x9_1 a1_0).length < 8796093022208
   rotate_left
   ·rw [if_neg c48] at H
    exact absurd H (by simp)
   rw [if_pos c48] at H
   have LMc48 := Aside0.mk c48
   clear c48
   obtain ⟨y409, hy409⟩ : ∃ y_ : List (S62), y_ = ((rd_L5 x9_1 a1_0) ++ [(⟨t407, t408⟩ : S62)]) := ⟨_, rfl⟩
   replace H : ((some (x9_1.set (a1_0 : Int).toNat y409 : List (List (S62)))).bind fun y412 => (if a1_1 < (x9_1.length : Int) then ((shares_times.f k1 t385 t386 ((rd_T62 (rd_L5 l0 a1_0) x47_1).f0) ((rd_T62 (rd_L5 l0 a1_0) x47_1).f1)).bind fun bt414 => ((shares_times.f k1 t388 t389 ((rd_T62 (rd_L5 l0 a1_1) x47_1).f0) ((rd_T62 (rd_L5 l0 a1_1) x47_1).f1)).bind fun bt416 => ((shares_plus.f k1 bt414.1 bt414.2 bt416.1 bt416.2).bind fun bt418 => (if (rd_L5 y412 a1_1).length < 8796093022208 then (shares_mixture_after.l0 k1 l0 (y412.set (a1_1 : Int).toNat ((rd_L5 y412 a1_1) ++ [(⟨bt418.1, bt418.2⟩ : S62)])) (l0.length : Int) (wrap64 (x47_1 + 1)) a1_0 a1_1 a1_2 t385 t386 t388 t389) else (none))))) else (none))) = some r := by first | (rw [hy409]; with_reducible exact H) | (have H2_ := (Option.bind_some _ _).symm.trans H; rw [hy409]; with_reducible exact H2_) | (have H2_ := (Option.bind_some _ _).symm.trans H; with_reducible exact H2_) | with_reducible exact H | (rw [hy409]; exact H) | exact H
   have Ny409 := Aside0.mk hy409
   clear hy409
   obtain ⟨y412, hy412⟩ : ∃ y_ : List (List (S62)), y_ = (x9_1.set (a1_0 : Int).toNat y409) := ⟨_, rfl⟩
   replace H : (if a1_1 < (x9_1.length : Int) then ((shares_times.f k1 t385 t386 ((rd_T62 (rd_L5 l0 a1_0) x47_1).f0) ((rd_T62 (rd_L5 l0 a1_0) x47_1).f1)).bind fun bt414 => ((shares_times.f k1 t388 t389 ((rd_T62 (rd_L5 l0 a1_1) x47_1).f0) ((rd_T62 (rd_L5 l0 a1_1) x47_1).f1)).bind fun bt416 => ((shares_plus.f k1 bt414.1 bt414.2 bt416.1 bt416.2).bind fun bt418 => (if (rd_L5 y412 a1_1).length < 8796093022208 then (shares_mixture_after.l0 k1 l0 (y412.set (a1_1 : Int).toNat ((rd_L5 y412 a1_1) ++ [(⟨bt418.1, bt418.2⟩ : S62)])) (l0.length : Int) (wrap64 (x47_1 + 1)) a1_0 a1_1 a1_2 t385 t386 t388 t389) else (none))))) else (none)) = some r := by first | (rw [hy412]; with_reducible exact H) | (have H2_ := (Option.bind_some _ _).symm.trans H; rw [hy412]; with_reducible exact H2_) | (have H2_ := (Option.bind_some _ _).symm.trans H; with_reducible exact H2_) | with_reducible exact H | (rw [hy412]; exact H) | exact H
   have Ny412 := Aside0.mk hy412
   clear hy412
   by_cases c50 : a1_1 < (x9_1.length : Int)
   rotate_left
   ·rw [if_neg c50] at H
    exact absurd H (by simp)
   rw [if_pos c50] at H
   have c50b0 : decide (a1_1 < (x9_1.length : Int)) = true := decide_eq_true c50
   clear c50
   replace H := Option.bind_eq_some_iff.mp H
   obtain ⟨⟨t414, t415⟩, A510, H⟩ := H
   replace H : ((shares_times.f k1 t388 t389 ((rd_T62 (rd_L5 l0 a1_1) x47_1).f0) ((rd_T62 (rd_L5 l0 a1_1) x47_1).f1)).bind fun bt416 => ((shares_plus.f k1 t414 t415 bt416.1 bt416.2).bind fun bt418 => (if (rd_L5 y412 a1_1).length < 8796093022208 then (shares_mixture_after.l0 k1 l0 (y412.set (a1_1 : Int).toNat ((rd_L5 y412 a1_1) ++ [(⟨bt418.1, bt418.2⟩ : S62)])) (l0.length : Int) (wrap64 (x47_1 + 1)) a1_0 a1_1 a1_2 t385 t386 t388 t389) else (none)))) = some r := H
   have A51 := Aside0.mk A510
   clear A510
   replace H := Option.bind_eq_some_iff.mp H
   obtain ⟨⟨t416, t417⟩, A520, H⟩ := H
   replace H : ((shares_plus.f k1 t414 t415 t416 t417).bind fun bt418 => (if (rd_L5 y412 a1_1).length < 8796093022208 then (shares_mixture_after.l0 k1 l0 (y412.set (a1_1 : Int).toNat ((rd_L5 y412 a1_1) ++ [(⟨bt418.1, bt418.2⟩ : S62)])) (l0.length : Int) (wrap64 (x47_1 + 1)) a1_0 a1_1 a1_2 t385 t386 t388 t389) else (none))) = some r := H
   have A52 := Aside0.mk A520
   clear A520
   replace H := Option.bind_eq_some_iff.mp H
   obtain ⟨⟨t418, t419⟩, A530, H⟩ := H
   replace H : (if (rd_L5 y412 a1_1).length < 8796093022208 then (shares_mixture_after.l0 k1 l0 (y412.set (a1_1 : Int).toNat ((rd_L5 y412 a1_1) ++ [(⟨t418, t419⟩ : S62)])) (l0.length : Int) (wrap64 (x47_1 + 1)) a1_0 a1_1 a1_2 t385 t386 t388 t389) else (none)) = some r := H
   have A53 := Aside0.mk A530
   clear A530
   by_cases c54 : (rd_L5 y412 a1_1).length < 8796093022208
   rotate_left
   ·rw [if_neg c54] at H
    exact absurd H (by simp)
   rw [if_pos c54] at H
   have LMc54 := Aside0.mk c54
   clear c54
   obtain ⟨y420, hy420⟩ : ∃ y_ : List (S62), y_ = ((rd_L5 y412 a1_1) ++ [(⟨t418, t419⟩ : S62)]) := ⟨_, rfl⟩
   replace H : (shares_mixture_after.l0 k1 l0 (y412.set (a1_1 : Int).toNat y420) (l0.length : Int) (wrap64 (x47_1 + 1)) a1_0 a1_1 a1_2 t385 t386 t388 t389) = some r := by first | (rw [hy420]; with_reducible exact H) | (have H2_ := (Option.bind_some _ _).symm.trans H; rw [hy420]; with_reducible exact H2_) | (have H2_ := (Option.bind_some _ _).symm.trans H; with_reducible exact H2_) | with_reducible exact H | (rw [hy420]; exact H) | exact H
   have Ny420 := Aside0.mk hy420
   clear hy420
   obtain ⟨y423, hy423⟩ : ∃ y_ : List (List (S62)), y_ = (y412.set (a1_1 : Int).toNat y420) := ⟨_, rfl⟩
   replace H : (shares_mixture_after.l0 k1 l0 y423 (l0.length : Int) (wrap64 (x47_1 + 1)) a1_0 a1_1 a1_2 t385 t386 t388 t389) = some r := by first | (rw [hy423]; with_reducible exact H) | (have H2_ := (Option.bind_some _ _).symm.trans H; rw [hy423]; with_reducible exact H2_) | (have H2_ := (Option.bind_some _ _).symm.trans H; with_reducible exact H2_) | with_reducible exact H | (rw [hy423]; exact H) | exact H
   have Ny423 := Aside0.mk hy423
   clear hy423
   have H' := Aside0.mk H
   clear H
   try go_wp2
   replace HO_9 := ak (Kd.S_drew HO_9.out)
   replace BK382 := kd BK382
   replace BK387 := kd BK387
   replace BK390 := kd BK390
   replace HB := ak (below_drew1 HB.out)
   have p396 : 0 ≤ (a1_0 : Int) := dA
   have q396 : a1_0 < (l0.length : Int) := dA
   obtain ⟨ad396, A396_0, c396_0, e396, hx396_0, hl396_0, hi396_0⟩ := at_L5 HR0.out a1_0 p396 q396
   have hw396_0 := hx396_0
   cases e396
   try replace hx396_0 := (HB.out.cell (World.block_lt_of_cell? w _ hx396_0)).trans hx396_0
   have HR396_0 := Aside0.mk hi396_0
   have HC396_0 := Aside0.mk hl396_0
   clear hi396_0 hl396_0
   replace p396 := eq_true p396
   replace q396 := eq_true q396
   have p397 : 0 ≤ (x47_1 : Int) := dA
   have q397 : x47_1 < ((rd_L5 l0 a1_0).length : Int) := dA
   obtain ⟨ad397, e397, hx397_0, hx397_1⟩ := at_T62 HR396_0.out x47_1 p397 q397
   have hw397_1 := hx397_1
   have hw397_0 := hx397_0
   cases e397
   try replace hx397_0 := (HB.out.cell (World.block_lt_of_cell? w _ hx397_0)).trans hx397_0
   try replace hx397_1 := (HB.out.cell (World.block_lt_of_cell? w _ hx397_1)).trans hx397_1
   replace p397 := eq_true p397
   replace q397 := eq_true q397
   have p398 : 0 ≤ (a1_1 : Int) := dA
   have q398 : a1_1 < (l0.length : Int) := dA
   obtain ⟨ad398, A398_0, c398_0, e398, hx398_0, hl398_0, hi398_0⟩ := at_L5 HR0.out a1_1 p398 q398
   have hw398_0 := hx398_0
   obtain rfl : ad396 = ad398 := (by injection e398)
   try replace hx398_0 := (HB.out.cell (World.block_lt_of_cell? w _ hx398_0)).trans hx398_0
   have HR398_0 := Aside0.mk hi398_0
   have HC398_0 := Aside0.mk hl398_0
   clear hi398_0 hl398_0
   replace p398 := eq_true p398
   replace q398 := eq_true q398
   have p399 : 0 ≤ (x47_1 : Int) := dA
   have q399 : x47_1 < ((rd_L5 l0 a1_1).length : Int) := dA
   obtain ⟨ad399, e399, hx399_0, hx399_1⟩ := at_T62 HR398_0.out x47_1 p399 q399
   have hw399_1 := hx399_1
   have hw399_0 := hx399_0
   cases e399
   try replace hx399_0 := (HB.out.cell (World.block_lt_of_cell? w _ hx399_0)).trans hx399_0
   try replace hx399_1 := (HB.out.cell (World.block_lt_of_cell? w _ hx399_1)).trans hx399_1
   replace p399 := eq_true p399
   replace q399 := eq_true q399
   refine sS (n := 20) (S := fun w' => w'.cell? ⟨gb382, 0, none⟩ = some (.int .i64 a1_0) ∧ w'.cell? ⟨gb382, 1, none⟩ = some (.int .i64 a1_1) ∧ w'.cell? ⟨gb382, 2, none⟩ = some (.int .i64 a1_2) ∧ w'.cell? (ad396.add (a1_0).toNat) = some (.slice (some ad397) (rd_L5 l0 a1_0).length c396_0) ∧ w'.cell? (ad397.add ((x47_1).toNat * 2)) = some (.int .i64 ((rd_T62 (rd_L5 l0 a1_0) x47_1).f0)) ∧ w'.cell? ⟨(ad397.add ((x47_1).toNat * 2)).block, (ad397.add ((x47_1).toNat * 2)).off + 1, none⟩ = some (.int .i64 ((rd_T62 (rd_L5 l0 a1_0) x47_1).f1)) ∧ w'.cell? (ad396.add (a1_1).toNat) = some (.slice (some ad399) (rd_L5 l0 a1_1).length c398_0) ∧ w'.cell? (ad399.add ((x47_1).toNat * 2)) = some (.int .i64 ((rd_T62 (rd_L5 l0 a1_1) x47_1).f0)) ∧ w'.cell? ⟨(ad399.add ((x47_1).toNat * 2)).block, (ad399.add ((x47_1).toNat * 2)).off + 1, none⟩ = some (.int .i64 ((rd_T62 (rd_L5 l0 a1_1) x47_1).f1))) (ds := []) ⟨bc BK382 0, bc BK382 1, bc BK382 2, ((HB.out.cell (World.block_lt_of_cell? w _ hw396_0)).trans hw396_0), ((HB.out.cell (World.block_lt_of_cell? w _ hw397_0)).trans hw397_0), ((HB.out.cell (World.block_lt_of_cell? w _ hw397_1)).trans hw397_1), ((HB.out.cell (World.block_lt_of_cell? w _ hw398_0)).trans hw398_0), ((HB.out.cell (World.block_lt_of_cell? w _ hw399_0)).trans hw399_0), ((HB.out.cell (World.block_lt_of_cell? w _ hw399_1)).trans hw399_1)⟩ (fun hHeld => ?_); refine with_tabW shares_mixture_after.tab8 shares_mixture_after.bits8 (fun HT_ HW_ => ?_)
   generalize wr.drew = w56 at HO_9 BK382 BK387 BK390 HB HR396_0 HR398_0 hx396_0 hx397_0 hx397_1 hx398_0 hx399_0 hx399_1 hHeld ⊢
   refine pS 0 50 20 1 ?_
   refine pS 1 51 20 3 ?_
   refine pS 5 55 20 35 ?_
   refine pS 8 58 20 291 ?_
   refine pS 9 59 20 803 ?_
   refine pS 13 63 20 8995 ?_
   refine tS 2 52 20 8999 ?_
   refine pS 3 53 20 9007 ?_
   refine tS 4 54 20 9023 ?_
   refine pS 6 56 20 9087 ?_
   refine tS 7 57 20 9215 ?_
   refine tS 10 60 20 10239 ?_
   refine pS 11 61 20 12287 ?_
   refine tS 12 62 20 16383 ?_
   refine pS 14 64 20 32767 ?_
   refine tS 15 65 20 65535 ?_
   refine join_ (σ := Nat × Nat) 2 (ba 20 262143) (fun s_ => [(11, .pointer (some ⟨s_.1, 0, none⟩)), (12, .pointer (some ⟨s_.2, 0, none⟩))]) (fun s_ w' => (w'.cell? ⟨gb382, 0, none⟩ = some (.int .i64 a1_0) ∧ w'.cell? ⟨gb382, 1, none⟩ = some (.int .i64 a1_1) ∧ w'.cell? ⟨gb382, 2, none⟩ = some (.int .i64 a1_2) ∧ w'.cell? (ad396.add (a1_0).toNat) = some (.slice (some ad397) (rd_L5 l0 a1_0).length c396_0) ∧ w'.cell? (ad397.add ((x47_1).toNat * 2)) = some (.int .i64 ((rd_T62 (rd_L5 l0 a1_0) x47_1).f0)) ∧ w'.cell? ⟨(ad397.add ((x47_1).toNat * 2)).block, (ad397.add ((x47_1).toNat * 2)).off + 1, none⟩ = some (.int .i64 ((rd_T62 (rd_L5 l0 a1_0) x47_1).f1)) ∧ w'.cell? (ad396.add (a1_1).toNat) = some (.slice (some ad399) (rd_L5 l0 a1_1).length c398_0) ∧ w'.cell? (ad399.add ((x47_1).toNat * 2)) = some (.int .i64 ((rd_T62 (rd_L5 l0 a1_1) x47_1).f0)) ∧ w'.cell? ⟨(ad399.add ((x47_1).toNat * 2)).block, (ad399.add ((x47_1).toNat * 2)).off + 1, none⟩ = some (.int .i64 ((rd_T62 (rd_L5 l0 a1_1) x47_1).f1))) ∧ (Kd.S (hyF l0.length (Qh w b0)) 52 w' w.heap.size (fun k_ => k_ ≠ gb387 ∧ k_ ≠ gb390 ∧ k_ ≠ s_.1 ∧ k_ ≠ s_.2) (.slice (some ⟨go12, 0, none⟩) x9_1.length co12) x9_1) ∧ (w'.heap[gb382]? = some (.cells #[.int .i64 a1_0, .int .i64 a1_1, .int .i64 a1_2] 77 (0, 0))) ∧ (w'.heap[gb387]? = some (.cells #[.int .i64 t385, .int .i64 t386] 62 (0, 0))) ∧ (w'.heap[gb390]? = some (.cells #[.int .i64 t388, .int .i64 t389] 62 (0, 0))) ∧ (w'.heap[s_.1]? = some (.cells #[.int .i64 0, .int .i64 0] 62 (0, 0))) ∧ (w'.heap[s_.2]? = some (.cells #[.int .i64 0, .int .i64 0] 62 (0, 0))) ∧ (w.heap.size ≤ s_.1) ∧ (w.heap.size ≤ s_.1) ∧ (gb382 ≠ s_.1) ∧ (s_.1 ≠ gb382) ∧ (gb387 ≠ s_.1) ∧ (s_.1 ≠ gb387) ∧ (gb390 ≠ s_.1) ∧ (s_.1 ≠ gb390) ∧ (s_.2 ≠ s_.1) ∧ (s_.1 ≠ s_.2) ∧ (w.heap.size ≤ s_.2) ∧ (w.heap.size ≤ s_.2) ∧ (gb382 ≠ s_.2) ∧ (s_.2 ≠ gb382) ∧ (gb387 ≠ s_.2) ∧ (s_.2 ≠ gb387) ∧ (gb390 ≠ s_.2) ∧ (s_.2 ≠ gb390) ∧ (Below w.heap.size w w')) ?_ ?_
   rotate_left
   ·intro hCont
    refine two_ (i := 16) (j := 17) (Ni := some 11) (Nj := some 12) (ba 20 131071) (ba 20 196607) rfl rfl rfl rfl (two_of HT_.out (by kernel_rfl)) (by decide) (by decide) (fun K hK => ?_) (fun K hK => ?_)
    ·skip
     refine box_step ?hg (N := 11) ?hd (cs := #[.int .i64 0, .int .i64 0]) (t := 62) ?hr ?_; (case hd => rfl); (case hg => rfl); (case hr => first | (go_simp; done) | (go_simp; rfl))
     intro gb400 hg w57 hbox hb
     replace HO_9 := ak (Kd.S_below (Kd.S_elderB (by (with_reducible repeat (first | apply Kd.S_alloc | apply Kd.S_drewN | apply Kd.S_drew)); exact HO_9.out) gb400 (Nat.le_of_eq hg.symm)) hb)
     have BK400 := ak (hbox)
     have GW400 := kG w hg
     have GE400 := kG w hg
     replace HB := kH _ hb
     have NB382_400 := kL BK382 hg
     have NB400_382 := kR BK382 hg
     replace BK382 := kB BK382 hb
     have NB387_400 := kL BK387 hg
     have NB400_387 := kR BK387 hg
     replace BK387 := kB BK387 hb
     have NB390_400 := kL BK390 hg
     have NB400_390 := kR BK390 hg
     replace BK390 := kB BK390 hb
     clear hb hbox hg
     refine hK.out _ _ ⟨bc BK382 0, bc BK382 1, bc BK382 2, ((HB.out.cell (World.block_lt_of_cell? w _ hw396_0)).trans hw396_0), ((HB.out.cell (World.block_lt_of_cell? w _ hw397_0)).trans hw397_0), ((HB.out.cell (World.block_lt_of_cell? w _ hw397_1)).trans hw397_1), ((HB.out.cell (World.block_lt_of_cell? w _ hw398_0)).trans hw398_0), ((HB.out.cell (World.block_lt_of_cell? w _ hw399_0)).trans hw399_0), ((HB.out.cell (World.block_lt_of_cell? w _ hw399_1)).trans hw399_1)⟩ (fun hHeld => ?_)
     clear hK K
     refine norm_ (a' := ?_) ?_ ?_
     rotate_left
     ·show Act.put _ (some 11) _ = _
      simp only [Act.put, List.setIfInBounds_toArray, List.set_cons_zero, List.set_cons_succ, i64_w, i32_w]
      rfl
     refine one_ (i := 17) (N := some 12) (ba 20 262143) rfl rfl (one_of HT_.out (by kernel_rfl)) (by decide) (fun K hK => ?_)
     refine box_step ?hg (N := 12) ?hd (cs := #[.int .i64 0, .int .i64 0]) (t := 62) ?hr ?_; (case hd => rfl); (case hg => rfl); (case hr => first | (go_simp; done) | (go_simp; rfl))
     intro gb401 hg w58 hbox hb
     replace HO_9 := ak (Kd.S_below (Kd.S_elderB (by (with_reducible repeat (first | apply Kd.S_alloc | apply Kd.S_drewN | apply Kd.S_drew)); exact HO_9.out) gb401 (Nat.le_of_eq hg.symm)) hb)
     have BK401 := ak (hbox)
     have GW401 := kG w hg
     have GE401 := kG w hg
     replace HB := kH _ hb
     have NB382_401 := kL BK382 hg
     have NB401_382 := kR BK382 hg
     replace BK382 := kB BK382 hb
     have NB387_401 := kL BK387 hg
     have NB401_387 := kR BK387 hg
     replace BK387 := kB BK387 hb
     have NB390_401 := kL BK390 hg
     have NB401_390 := kR BK390 hg
     replace BK390 := kB BK390 hb
     have NB400_401 := kL BK400 hg
     have NB401_400 := kR BK400 hg
     replace BK400 := kB BK400 hb
     clear hb hbox hg
     refine hK.out _ _ ⟨bc BK382 0, bc BK382 1, bc BK382 2, ((HB.out.cell (World.block_lt_of_cell? w _ hw396_0)).trans hw396_0), ((HB.out.cell (World.block_lt_of_cell? w _ hw397_0)).trans hw397_0), ((HB.out.cell (World.block_lt_of_cell? w _ hw397_1)).trans hw397_1), ((HB.out.cell (World.block_lt_of_cell? w _ hw398_0)).trans hw398_0), ((HB.out.cell (World.block_lt_of_cell? w _ hw399_0)).trans hw399_0), ((HB.out.cell (World.block_lt_of_cell? w _ hw399_1)).trans hw399_1)⟩ (fun hHeld => ?_)
     clear hK K
     refine norm_ (a' := ?_) ?_ ?_
     rotate_left
     ·show Act.put _ (some 12) _ = _
      simp only [Act.put, List.setIfInBounds_toArray, List.set_cons_zero, List.set_cons_succ, i64_w, i32_w]
      rfl
     exact norm_ (by simp only [putAll, Act.put, List.setIfInBounds_toArray, List.set_cons_zero, List.set_cons_succ]) (hCont (gb400, gb401) _ ⟨hHeld, (by (with_reducible repeat (first | apply Kd.S_alloc | apply Kd.S_drewN | apply Kd.S_drew)); exact Kd.S_mono HO_9.out (fun _ hk => ⟨hk.1.1.1, ⟨hk.1.1.2, ⟨hk.1.2, hk.2⟩⟩⟩)), (bkC BK382), (bkC BK387), (bkC BK390), (bkC BK400), (bkC BK401), GW400.out, GE400.out, NB382_400.out, NB400_382.out, NB387_400.out, NB400_387.out, NB390_400.out, NB400_390.out, NB401_400.out, NB400_401.out, GW401.out, GE401.out, NB382_401.out, NB401_382.out, NB387_401.out, NB401_387.out, NB390_401.out, NB401_390.out, (hbC _)⟩)
    ·skip
     refine box_step ?hg (N := 12) ?hd (cs := #[.int .i64 0, .int .i64 0]) (t := 62) ?hr ?_; (case hd => rfl); (case hg => rfl); (case hr => first | (go_simp; done) | (go_simp; rfl))
     intro gb401 hg w57 hbox hb
     replace HO_9 := ak (Kd.S_below (Kd.S_elderB (by (with_reducible repeat (first | apply Kd.S_alloc | apply Kd.S_drewN | apply Kd.S_drew)); exact HO_9.out) gb401 (Nat.le_of_eq hg.symm)) hb)
     have BK401 := ak (hbox)
     have GW401 := kG w hg
     have GE401 := kG w hg
     replace HB := kH _ hb
     have NB382_401 := kL BK382 hg
     have NB401_382 := kR BK382 hg
     replace BK382 := kB BK382 hb
     have NB387_401 := kL BK387 hg
     have NB401_387 := kR BK387 hg
     replace BK387 := kB BK387 hb
     have NB390_401 := kL BK390 hg
     have NB401_390 := kR BK390 hg
     replace BK390 := kB BK390 hb
     clear hb hbox hg
     refine hK.out _ _ ⟨bc BK382 0, bc BK382 1, bc BK382 2, ((HB.out.cell (World.block_lt_of_cell? w _ hw396_0)).trans hw396_0), ((HB.out.cell (World.block_lt_of_cell? w _ hw397_0)).trans hw397_0), ((HB.out.cell (World.block_lt_of_cell? w _ hw397_1)).trans hw397_1), ((HB.out.cell (World.block_lt_of_cell? w _ hw398_0)).trans hw398_0), ((HB.out.cell (World.block_lt_of_cell? w _ hw399_0)).trans hw399_0), ((HB.out.cell (World.block_lt_of_cell? w _ hw399_1)).trans hw399_1)⟩ (fun hHeld => ?_)
     clear hK K
     refine norm_ (a' := ?_) ?_ ?_
     rotate_left
     ·show Act.put _ (some 12) _ = _
      simp only [Act.put, List.setIfInBounds_toArray, List.set_cons_zero, List.set_cons_succ, i64_w, i32_w]
      rfl
     refine one_ (i := 16) (N := some 11) (ba 20 262143) rfl rfl (one_of HT_.out (by kernel_rfl)) (by decide) (fun K hK => ?_)
     refine box_step ?hg (N := 11) ?hd (cs := #[.int .i64 0, .int .i64 0]) (t := 62) ?hr ?_; (case hd => rfl); (case hg => rfl); (case hr => first | (go_simp; done) | (go_simp; rfl))
     intro gb400 hg w58 hbox hb
     replace HO_9 := ak (Kd.S_below (Kd.S_elderB (by (with_reducible repeat (first | apply Kd.S_alloc | apply Kd.S_drewN | apply Kd.S_drew)); exact HO_9.out) gb400 (Nat.le_of_eq hg.symm)) hb)
     have BK400 := ak (hbox)
     have GW400 := kG w hg
     have GE400 := kG w hg
     replace HB := kH _ hb
     have NB382_400 := kL BK382 hg
     have NB400_382 := kR BK382 hg
     replace BK382 := kB BK382 hb
     have NB387_400 := kL BK387 hg
     have NB400_387 := kR BK387 hg
     replace BK387 := kB BK387 hb
     have NB390_400 := kL BK390 hg
     have NB400_390 := kR BK390 hg
     replace BK390 := kB BK390 hb
     have NB401_400 := kL BK401 hg
     have NB400_401 := kR BK401 hg
     replace BK401 := kB BK401 hb
     clear hb hbox hg
     refine hK.out _ _ ⟨bc BK382 0, bc BK382 1, bc BK382 2, ((HB.out.cell (World.block_lt_of_cell? w _ hw396_0)).trans hw396_0), ((HB.out.cell (World.block_lt_of_cell? w _ hw397_0)).trans hw397_0), ((HB.out.cell (World.block_lt_of_cell? w _ hw397_1)).trans hw397_1), ((HB.out.cell (World.block_lt_of_cell? w _ hw398_0)).trans hw398_0), ((HB.out.cell (World.block_lt_of_cell? w _ hw399_0)).trans hw399_0), ((HB.out.cell (World.block_lt_of_cell? w _ hw399_1)).trans hw399_1)⟩ (fun hHeld => ?_)
     clear hK K
     refine norm_ (a' := ?_) ?_ ?_
     rotate_left
     ·show Act.put _ (some 11) _ = _
      simp only [Act.put, List.setIfInBounds_toArray, List.set_cons_zero, List.set_cons_succ, i64_w, i32_w]
      rfl
     exact norm_ (by simp only [putAll, Act.put, List.setIfInBounds_toArray, List.set_cons_zero, List.set_cons_succ]) (hCont (gb400, gb401) _ ⟨hHeld, (by (with_reducible repeat (first | apply Kd.S_alloc | apply Kd.S_drewN | apply Kd.S_drew)); exact Kd.S_mono HO_9.out (fun _ hk => ⟨hk.1.1.1, ⟨hk.1.1.2, ⟨hk.2, hk.1.2⟩⟩⟩)), (bkC BK382), (bkC BK387), (bkC BK390), (bkC BK400), (bkC BK401), GW400.out, GE400.out, NB382_400.out, NB400_382.out, NB387_400.out, NB400_387.out, NB390_400.out, NB400_390.out, NB401_400.out, NB400_401.out, GW401.out, GE401.out, NB382_401.out, NB401_382.out, NB387_401.out, NB401_387.out, NB390_401.out, NB401_390.out, (hbC _)⟩)
   rintro ⟨gb400, gb401⟩ w59 ⟨hS_, h0_, h1_, h2_, h3_, h4_, h5_, h6_, h7_, h8_, h9_, h10_, h11_, h12_, h13_, h14_, h15_, h16_, h17_, h18_, h19_, h20_, h21_, h22_, h23_, h24_⟩
   have n0_ : Aside0 (Kd.S (hyF l0.length (Qh w b0)) 52 w59 w.heap.size (fun k_ => k_ ≠ gb387 ∧ k_ ≠ gb390 ∧ k_ ≠ gb400 ∧ k_ ≠ gb401) (.slice (some ⟨go12, 0, none⟩) x9_1.length co12) x9_1) := ⟨h0_⟩
   have n1_ : Aside0 (w59.heap[gb382]? = some (.cells #[.int .i64 a1_0, .int .i64 a1_1, .int .i64 a1_2] 77 (0, 0))) := ⟨h1_⟩
   have n2_ : Aside0 (w59.heap[gb387]? = some (.cells #[.int .i64 t385, .int .i64 t386] 62 (0, 0))) := ⟨h2_⟩
   have n3_ : Aside0 (w59.heap[gb390]? = some (.cells #[.int .i64 t388, .int .i64 t389] 62 (0, 0))) := ⟨h3_⟩
   have n4_ : Aside0 (w59.heap[gb400]? = some (.cells #[.int .i64 0, .int .i64 0] 62 (0, 0))) := ⟨h4_⟩
   have n5_ : Aside0 (w59.heap[gb401]? = some (.cells #[.int .i64 0, .int .i64 0] 62 (0, 0))) := ⟨h5_⟩
   have n6_ : Aside0 (w.heap.size ≤ gb400) := ⟨h6_⟩
   have n7_ : Aside0 (w.heap.size ≤ gb400) := ⟨h7_⟩
   have n8_ : Aside0 (gb382 ≠ gb400) := ⟨h8_⟩
   have n9_ : Aside0 (gb400 ≠ gb382) := ⟨h9_⟩
   have n10_ : Aside0 (gb387 ≠ gb400) := ⟨h10_⟩
   have n11_ : Aside0 (gb400 ≠ gb387) := ⟨h11_⟩
   have n12_ : Aside0 (gb390 ≠ gb400) := ⟨h12_⟩
   have n13_ : Aside0 (gb400 ≠ gb390) := ⟨h13_⟩
   have n14_ : Aside0 (gb401 ≠ gb400) := ⟨h14_⟩
   have n15_ : Aside0 (gb400 ≠ gb401) := ⟨h15_⟩
   have n16_ : Aside0 (w.heap.size ≤ gb401) := ⟨h16_⟩
   have n17_ : Aside0 (w.heap.size ≤ gb401) := ⟨h17_⟩
   have n18_ : Aside0 (gb382 ≠ gb401) := ⟨h18_⟩
   have n19_ : Aside0 (gb401 ≠ gb382) := ⟨h19_⟩
   have n20_ : Aside0 (gb387 ≠ gb401) := ⟨h20_⟩
   have n21_ : Aside0 (gb401 ≠ gb387) := ⟨h21_⟩
   have n22_ : Aside0 (gb390 ≠ gb401) := ⟨h22_⟩
   have n23_ : Aside0 (gb401 ≠ gb390) := ⟨h23_⟩
   have n24_ : Aside0 (Below w.heap.size w w59) := ⟨h24_⟩
   clear HO_9
   clear BK382
   clear BK387
   clear BK390
   clear HB
   clear h0_ h1_ h2_ h3_ h4_ h5_ h6_ h7_ h8_ h9_ h10_ h11_ h12_ h13_ h14_ h15_ h16_ h17_ h18_ h19_ h20_ h21_ h22_ h23_ h24_
   have HO_9 := n0_
   have BK382 := n1_
   have BK387 := n2_
   have BK390 := n3_
   have BK400 := n4_
   have BK401 := n5_
   have GW400 := n6_
   have GE400 := n7_
   have NB382_400 := n8_
   have NB400_382 := n9_
   have NB387_400 := n10_
   have NB400_387 := n11_
   have NB390_400 := n12_
   have NB400_390 := n13_
   have NB401_400 := n14_
   have NB400_401 := n15_
   have GW401 := n16_
   have GE401 := n17_
   have NB382_401 := n18_
   have NB401_382 := n19_
   have NB387_401 := n20_
   have NB401_387 := n21_
   have NB390_401 := n22_
   have NB401_390 := n23_
   have HB := n24_
   clear n0_ n1_ n2_ n3_ n4_ n5_ n6_ n7_ n8_ n9_ n10_ n11_ n12_ n13_ n14_ n15_ n16_ n17_ n18_ n19_ n20_ n21_ n22_ n23_ n24_
   have hHeld : w59.cell? ⟨gb382, 0, none⟩ = some (.int .i64 a1_0) ∧ w59.cell? ⟨gb382, 1, none⟩ = some (.int .i64 a1_1) ∧ w59.cell? ⟨gb382, 2, none⟩ = some (.int .i64 a1_2) ∧ w59.cell? (ad396.add (a1_0).toNat) = some (.slice (some ad397) (rd_L5 l0 a1_0).length c396_0) ∧ w59.cell? (ad397.add ((x47_1).toNat * 2)) = some (.int .i64 ((rd_T62 (rd_L5 l0 a1_0) x47_1).f0)) ∧ w59.cell? ⟨(ad397.add ((x47_1).toNat * 2)).block, (ad397.add ((x47_1).toNat * 2)).off + 1, none⟩ = some (.int .i64 ((rd_T62 (rd_L5 l0 a1_0) x47_1).f1)) ∧ w59.cell? (ad396.add (a1_1).toNat) = some (.slice (some ad399) (rd_L5 l0 a1_1).length c398_0) ∧ w59.cell? (ad399.add ((x47_1).toNat * 2)) = some (.int .i64 ((rd_T62 (rd_L5 l0 a1_1) x47_1).f0)) ∧ w59.cell? ⟨(ad399.add ((x47_1).toNat * 2)).block, (ad399.add ((x47_1).toNat * 2)).off + 1, none⟩ = some (.int .i64 ((rd_T62 (rd_L5 l0 a1_1) x47_1).f1)) := hS_
   refine norm_ (a' := ?_) ?_ ?_
   rotate_left
   ·simp only [putAll, Act.put, List.setIfInBounds_toArray, List.set_cons_zero, List.set_cons_succ]
    rfl
   refine one_ (i := 18) (N := none) (ba 20 524287) rfl rfl (one_of HT_.out (by kernel_rfl)) (by decide) (fun K hK => ?_)
   have hs60 : w59.cell? ⟨gb400, 0, none⟩ = some (.int .i64 0) := bc BK400 0
   have hfs60 := fz BK400 0
   have hns60_0 := NB382_400.out
   have hns60_1 := NB387_400.out
   have hns60_2 := NB390_400.out
   have hns60_4 := NB401_400.out
   have hms60_0 := NB400_382.out
   have hms60_1 := NB400_387.out
   have hms60_2 := NB400_390.out
   have hms60_4 := NB400_401.out
   have hs61 : w59.cell? ⟨gb400, 1, none⟩ = some (.int .i64 0) := bc BK400 1
   have hfs61 := fz BK400 1
   have hns61_0 := NB382_400.out
   have hns61_1 := NB387_400.out
   have hns61_2 := NB390_400.out
   have hns61_4 := NB401_400.out
   have hms61_0 := NB400_382.out
   have hms61_1 := NB400_387.out
   have hms61_2 := NB400_390.out
   have hms61_4 := NB400_401.out
   refine skip_ (w1 := ?_) (by rfl) rfl ?_ ?_
   rotate_left
   ·go_simp
    rfl
   refine hK.out _ _ ⟨((cell_far (p := ⟨gb400, _, none⟩) NB382_400.out _).trans (((cell_far (p := ⟨gb400, _, none⟩) NB382_400.out _).trans (hHeld.1)))), ((cell_far (p := ⟨gb400, _, none⟩) NB382_400.out _).trans (((cell_far (p := ⟨gb400, _, none⟩) NB382_400.out _).trans (hHeld.2.1)))), ((cell_far (p := ⟨gb400, _, none⟩) NB382_400.out _).trans (((cell_far (p := ⟨gb400, _, none⟩) NB382_400.out _).trans (hHeld.2.2.1)))), ((cell_far (p := ⟨gb400, _, none⟩) (by first | exact Nat.ne_of_lt (Nat.lt_of_lt_of_le (by have := World.block_lt_of_cell? _ _ hw396_0; first | rwa [add_block] at this | exact this) GW400.out) | (rw [add_block]; exact Nat.ne_of_lt (Nat.lt_of_lt_of_le (by have := World.block_lt_of_cell? _ _ hw396_0; first | rwa [add_block] at this | exact this) GW400.out)) | (show (Addr.add _ _).block ≠ _; rw [add_block]; exact Nat.ne_of_lt (Nat.lt_of_lt_of_le (by have := World.block_lt_of_cell? _ _ hw396_0; first | rwa [add_block] at this | exact this) GW400.out)) | (dsimp only; exact Nat.ne_of_lt (Nat.lt_of_lt_of_le (by have := World.block_lt_of_cell? _ _ hw396_0; first | rwa [add_block] at this | exact this) GW400.out))) _).trans (((cell_far (p := ⟨gb400, _, none⟩) (by first | exact Nat.ne_of_lt (Nat.lt_of_lt_of_le (by have := World.block_lt_of_cell? _ _ hw396_0; first | rwa [add_block] at this | exact this) GW400.out) | (rw [add_block]; exact Nat.ne_of_lt (Nat.lt_of_lt_of_le (by have := World.block_lt_of_cell? _ _ hw396_0; first | rwa [add_block] at this | exact this) GW400.out)) | (show (Addr.add _ _).block ≠ _; rw [add_block]; exact Nat.ne_of_lt (Nat.lt_of_lt_of_le (by have := World.block_lt_of_cell? _ _ hw396_0; first | rwa [add_block] at this | exact this) GW400.out)) | (dsimp only; exact Nat.ne_of_lt (Nat.lt_of_lt_of_le (by have := World.block_lt_of_cell? _ _ hw396_0; first | rwa [add_block] at this | exact this) GW400.out))) _).trans (hHeld.2.2.2.1)))), ((cell_far (p := ⟨gb400, _, none⟩) (by first | exact Nat.ne_of_lt (Nat.lt_of_lt_of_le (by have := World.block_lt_of_cell? _ _ hw397_0; first | rwa [add_block] at this | exact this) GW400.out) | (rw [add_block]; exact Nat.ne_of_lt (Nat.lt_of_lt_of_le (by have := World.block_lt_of_cell? _ _ hw397_0; first | rwa [add_block] at this | exact this) GW400.out)) | (show (Addr.add _ _).block ≠ _; rw [add_block]; exact Nat.ne_of_lt (Nat.lt_of_lt_of_le (by have := World.block_lt_of_cell? _ _ hw397_0; first | rwa [add_block] at this | exact this) GW400.out)) | (dsimp only; exact Nat.ne_of_lt (Nat.lt_of_lt_of_le (by have := World.block_lt_of_cell? _ _ hw397_0; first | rwa [add_block] at this | exact this) GW400.out))) _).trans (((cell_far (p := ⟨gb400, _, none⟩) (by first | exact Nat.ne_of_lt (Nat.lt_of_lt_of_le (by have := World.block_lt_of_cell? _ _ hw397_0; first | rwa [add_block] at this | exact this) GW400.out) | (rw [add_block]; exact Nat.ne_of_lt (Nat.lt_of_lt_of_le (by have := World.block_lt_of_cell? _ _ hw397_0; first | rwa [add_block] at this | exact this) GW400.out)) | (show (Addr.add _ _).block ≠ _; rw [add_block]; exact Nat.ne_of_lt (Nat.lt_of_lt_of_le (by have := World.block_lt_of_cell? _ _ hw397_0; first | rwa [add_block] at this | exact this) GW400.out)) | (dsimp only; exact Nat.ne_of_lt (Nat.lt_of_lt_of_le (by have := World.block_lt_of_cell? _ _ hw397_0; first | rwa [add_block] at this | exact this) GW400.out))) _).trans (hHeld.2.2.2.2.1)))), ((cell_far (p := ⟨gb400, _, none⟩) (by first | exact Nat.ne_of_lt (Nat.lt_of_lt_of_le (by have := World.block_lt_of_cell? _ _ hw397_1; first | rwa [add_block] at this | exact this) GW400.out) | (rw [add_block]; exact Nat.ne_of_lt (Nat.lt_of_lt_of_le (by have := World.block_lt_of_cell? _ _ hw397_1; first | rwa [add_block] at this | exact this) GW400.out)) | (show (Addr.add _ _).block ≠ _; rw [add_block]; exact Nat.ne_of_lt (Nat.lt_of_lt_of_le (by have := World.block_lt_of_cell? _ _ hw397_1; first | rwa [add_block] at this | exact this) GW400.out)) | (dsimp only; exact Nat.ne_of_lt (Nat.lt_of_lt_of_le (by have := World.block_lt_of_cell? _ _ hw397_1; first | rwa [add_block] at this | exact this) GW400.out))) _).trans (((cell_far (p := ⟨gb400, _, none⟩) (by first | exact Nat.ne_of_lt (Nat.lt_of_lt_of_le (by have := World.block_lt_of_cell? _ _ hw397_1; first | rwa [add_block] at this | exact this) GW400.out) | (rw [add_block]; exact Nat.ne_of_lt (Nat.lt_of_lt_of_le (by have := World.block_lt_of_cell? _ _ hw397_1; first | rwa [add_block] at this | exact this) GW400.out)) | (show (Addr.add _ _).block ≠ _; rw [add_block]; exact Nat.ne_of_lt (Nat.lt_of_lt_of_le (by have := World.block_lt_of_cell? _ _ hw397_1; first | rwa [add_block] at this | exact this) GW400.out)) | (dsimp only; exact Nat.ne_of_lt (Nat.lt_of_lt_of_le (by have := World.block_lt_of_cell? _ _ hw397_1; first | rwa [add_block] at this | exact this) GW400.out))) _).trans (hHeld.2.2.2.2.2.1)))), ((cell_far (p := ⟨gb400, _, none⟩) (by first | exact Nat.ne_of_lt (Nat.lt_of_lt_of_le (by have := World.block_lt_of_cell? _ _ hw398_0; first | rwa [add_block] at this | exact this) GW400.out) | (rw [add_block]; exact Nat.ne_of_lt (Nat.lt_of_lt_of_le (by have := World.block_lt_of_cell? _ _ hw398_0; first | rwa [add_block] at this | exact this) GW400.out)) | (show (Addr.add _ _).block ≠ _; rw [add_block]; exact Nat.ne_of_lt (Nat.lt_of_lt_of_le (by have := World.block_lt_of_cell? _ _ hw398_0; first | rwa [add_block] at this | exact this) GW400.out)) | (dsimp only; exact Nat.ne_of_lt (Nat.lt_of_lt_of_le (by have := World.block_lt_of_cell? _ _ hw398_0; first | rwa [add_block] at this | exact this) GW400.out))) _).trans (((cell_far (p := ⟨gb400, _, none⟩) (by first | exact Nat.ne_of_lt (Nat.lt_of_lt_of_le (by have := World.block_lt_of_cell? _ _ hw398_0; first | rwa [add_block] at this | exact this) GW400.out) | (rw [add_block]; exact Nat.ne_of_lt (Nat.lt_of_lt_of_le (by have := World.block_lt_of_cell? _ _ hw398_0; first | rwa [add_block] at this | exact this) GW400.out)) | (show (Addr.add _ _).block ≠ _; rw [add_block]; exact Nat.ne_of_lt (Nat.lt_of_lt_of_le (by have := World.block_lt_of_cell? _ _ hw398_0; first | rwa [add_block] at this | exact this) GW400.out)) | (dsimp only; exact Nat.ne_of_lt (Nat.lt_of_lt_of_le (by have := World.block_lt_of_cell? _ _ hw398_0; first | rwa [add_block] at this | exact this) GW400.out))) _).trans (hHeld.2.2.2.2.2.2.1)))), ((cell_far (p := ⟨gb400, _, none⟩) (by first | exact Nat.ne_of_lt (Nat.lt_of_lt_of_le (by have := World.block_lt_of_cell? _ _ hw399_0; first | rwa [add_block] at this | exact this) GW400.out) | (rw [add_block]; exact Nat.ne_of_lt (Nat.lt_of_lt_of_le (by have := World.block_lt_of_cell? _ _ hw399_0; first | rwa [add_block] at this | exact this) GW400.out)) | (show (Addr.add _ _).block ≠ _; rw [add_block]; exact Nat.ne_of_lt (Nat.lt_of_lt_of_le (by have := World.block_lt_of_cell? _ _ hw399_0; first | rwa [add_block] at this | exact this) GW400.out)) | (dsimp only; exact Nat.ne_of_lt (Nat.lt_of_lt_of_le (by have := World.block_lt_of_cell? _ _ hw399_0; first | rwa [add_block] at this | exact this) GW400.out))) _).trans (((cell_far (p := ⟨gb400, _, none⟩) (by first | exact Nat.ne_of_lt (Nat.lt_of_lt_of_le (by have := World.block_lt_of_cell? _ _ hw399_0; first | rwa [add_block] at this | exact this) GW400.out) | (rw [add_block]; exact Nat.ne_of_lt (Nat.lt_of_lt_of_le (by have := World.block_lt_of_cell? _ _ hw399_0; first | rwa [add_block] at this | exact this) GW400.out)) | (show (Addr.add _ _).block ≠ _; rw [add_block]; exact Nat.ne_of_lt (Nat.lt_of_lt_of_le (by have := World.block_lt_of_cell? _ _ hw399_0; first | rwa [add_block] at this | exact this) GW400.out)) | (dsimp only; exact Nat.ne_of_lt (Nat.lt_of_lt_of_le (by have := World.block_lt_of_cell? _ _ hw399_0; first | rwa [add_block] at this | exact this) GW400.out))) _).trans (hHeld.2.2.2.2.2.2.2.1)))), ((cell_far (p := ⟨gb400, _, none⟩) (by first | exact Nat.ne_of_lt (Nat.lt_of_lt_of_le (by have := World.block_lt_of_cell? _ _ hw399_1; first | rwa [add_block] at this | exact this) GW400.out) | (rw [add_block]; exact Nat.ne_of_lt (Nat.lt_of_lt_of_le (by have := World.block_lt_of_cell? _ _ hw399_1; first | rwa [add_block] at this | exact this) GW400.out)) | (show (Addr.add _ _).block ≠ _; rw [add_block]; exact Nat.ne_of_lt (Nat.lt_of_lt_of_le (by have := World.block_lt_of_cell? _ _ hw399_1; first | rwa [add_block] at this | exact this) GW400.out)) | (dsimp only; exact Nat.ne_of_lt (Nat.lt_of_lt_of_le (by have := World.block_lt_of_cell? _ _ hw399_1; first | rwa [add_block] at this | exact this) GW400.out))) _).trans (((cell_far (p := ⟨gb400, _, none⟩) (by first | exact Nat.ne_of_lt (Nat.lt_of_lt_of_le (by have := World.block_lt_of_cell? _ _ hw399_1; first | rwa [add_block] at this | exact this) GW400.out) | (rw [add_block]; exact Nat.ne_of_lt (Nat.lt_of_lt_of_le (by have := World.block_lt_of_cell? _ _ hw399_1; first | rwa [add_block] at this | exact this) GW400.out)) | (show (Addr.add _ _).block ≠ _; rw [add_block]; exact Nat.ne_of_lt (Nat.lt_of_lt_of_le (by have := World.block_lt_of_cell? _ _ hw399_1; first | rwa [add_block] at this | exact this) GW400.out)) | (dsimp only; exact Nat.ne_of_lt (Nat.lt_of_lt_of_le (by have := World.block_lt_of_cell? _ _ hw399_1; first | rwa [add_block] at this | exact this) GW400.out))) _).trans (hHeld.2.2.2.2.2.2.2.2))))⟩ (fun hHeld => ?_)
   clear hK K
   refine one_ (i := 19) (N := none) (ba 20 1048575) rfl rfl (one_of HT_.out (by kernel_rfl)) (by decide) (fun K hK => ?_)
   have hs62 : w59.cell? ⟨gb401, 0, none⟩ = some (.int .i64 0) := bc BK401 0
   have hfs62 := fz BK401 0
   have hns62_0 := NB382_401.out
   have hns62_1 := NB387_401.out
   have hns62_2 := NB390_401.out
   have hns62_3 := NB400_401.out
   have hms62_0 := NB401_382.out
   have hms62_1 := NB401_387.out
   have hms62_2 := NB401_390.out
   have hms62_3 := NB401_400.out
   have hs63 : w59.cell? ⟨gb401, 1, none⟩ = some (.int .i64 0) := bc BK401 1
   have hfs63 := fz BK401 1
   have hns63_0 := NB382_401.out
   have hns63_1 := NB387_401.out
   have hns63_2 := NB390_401.out
   have hns63_3 := NB400_401.out
   have hms63_0 := NB401_382.out
   have hms63_1 := NB401_387.out
   have hms63_2 := NB401_390.out
   have hms63_3 := NB401_400.out
   refine skip_ (w1 := ?_) (by rfl) rfl ?_ ?_
   rotate_left
   ·go_simp
    rfl
   refine hK.out _ _ ⟨((cell_far (p := ⟨gb401, _, none⟩) NB382_401.out _).trans (((cell_far (p := ⟨gb401, _, none⟩) NB382_401.out _).trans (hHeld.1)))), ((cell_far (p := ⟨gb401, _, none⟩) NB382_401.out _).trans (((cell_far (p := ⟨gb401, _, none⟩) NB382_401.out _).trans (hHeld.2.1)))), ((cell_far (p := ⟨gb401, _, none⟩) NB382_401.out _).trans (((cell_far (p := ⟨gb401, _, none⟩) NB382_401.out _).trans (hHeld.2.2.1)))), ((cell_far (p := ⟨gb401, _, none⟩) (by first | exact Nat.ne_of_lt (Nat.lt_of_lt_of_le (by have := World.block_lt_of_cell? _ _ hw396_0; first | rwa [add_block] at this | exact this) GW401.out) | (rw [add_block]; exact Nat.ne_of_lt (Nat.lt_of_lt_of_le (by have := World.block_lt_of_cell? _ _ hw396_0; first | rwa [add_block] at this | exact this) GW401.out)) | (show (Addr.add _ _).block ≠ _; rw [add_block]; exact Nat.ne_of_lt (Nat.lt_of_lt_of_le (by have := World.block_lt_of_cell? _ _ hw396_0; first | rwa [add_block] at this | exact this) GW401.out)) | (dsimp only; exact Nat.ne_of_lt (Nat.lt_of_lt_of_le (by have := World.block_lt_of_cell? _ _ hw396_0; first | rwa [add_block] at this | exact this) GW401.out))) _).trans (((cell_far (p := ⟨gb401, _, none⟩) (by first | exact Nat.ne_of_lt (Nat.lt_of_lt_of_le (by have := World.block_lt_of_cell? _ _ hw396_0; first | rwa [add_block] at this | exact this) GW401.out) | (rw [add_block]; exact Nat.ne_of_lt (Nat.lt_of_lt_of_le (by have := World.block_lt_of_cell? _ _ hw396_0; first | rwa [add_block] at this | exact this) GW401.out)) | (show (Addr.add _ _).block ≠ _; rw [add_block]; exact Nat.ne_of_lt (Nat.lt_of_lt_of_le (by have := World.block_lt_of_cell? _ _ hw396_0; first | rwa [add_block] at this | exact this) GW401.out)) | (dsimp only; exact Nat.ne_of_lt (Nat.lt_of_lt_of_le (by have := World.block_lt_of_cell? _ _ hw396_0; first | rwa [add_block] at this | exact this) GW401.out))) _).trans (hHeld.2.2.2.1)))), ((cell_far (p := ⟨gb401, _, none⟩) (by first | exact Nat.ne_of_lt (Nat.lt_of_lt_of_le (by have := World.block_lt_of_cell? _ _ hw397_0; first | rwa [add_block] at this | exact this) GW401.out) | (rw [add_block]; exact Nat.ne_of_lt (Nat.lt_of_lt_of_le (by have := World.block_lt_of_cell? _ _ hw397_0; first | rwa [add_block] at this | exact this) GW401.out)) | (show (Addr.add _ _).block ≠ _; rw [add_block]; exact Nat.ne_of_lt (Nat.lt_of_lt_of_le (by have := World.block_lt_of_cell? _ _ hw397_0; first | rwa [add_block] at this | exact this) GW401.out)) | (dsimp only; exact Nat.ne_of_lt (Nat.lt_of_lt_of_le (by have := World.block_lt_of_cell? _ _ hw397_0; first | rwa [add_block] at this | exact this) GW401.out))) _).trans (((cell_far (p := ⟨gb401, _, none⟩) (by first | exact Nat.ne_of_lt (Nat.lt_of_lt_of_le (by have := World.block_lt_of_cell? _ _ hw397_0; first | rwa [add_block] at this | exact this) GW401.out) | (rw [add_block]; exact Nat.ne_of_lt (Nat.lt_of_lt_of_le (by have := World.block_lt_of_cell? _ _ hw397_0; first | rwa [add_block] at this | exact this) GW401.out)) | (show (Addr.add _ _).block ≠ _; rw [add_block]; exact Nat.ne_of_lt (Nat.lt_of_lt_of_le (by have := World.block_lt_of_cell? _ _ hw397_0; first | rwa [add_block] at this | exact this) GW401.out)) | (dsimp only; exact Nat.ne_of_lt (Nat.lt_of_lt_of_le (by have := World.block_lt_of_cell? _ _ hw397_0; first | rwa [add_block] at this | exact this) GW401.out))) _).trans (hHeld.2.2.2.2.1)))), ((cell_far (p := ⟨gb401, _, none⟩) (by first | exact Nat.ne_of_lt (Nat.lt_of_lt_of_le (by have := World.block_lt_of_cell? _ _ hw397_1; first | rwa [add_block] at this | exact this) GW401.out) | (rw [add_block]; exact Nat.ne_of_lt (Nat.lt_of_lt_of_le (by have := World.block_lt_of_cell? _ _ hw397_1; first | rwa [add_block] at this | exact this) GW401.out)) | (show (Addr.add _ _).block ≠ _; rw [add_block]; exact Nat.ne_of_lt (Nat.lt_of_lt_of_le (by have := World.block_lt_of_cell? _ _ hw397_1; first | rwa [add_block] at this | exact this) GW401.out)) | (dsimp only; exact Nat.ne_of_lt (Nat.lt_of_lt_of_le (by have := World.block_lt_of_cell? _ _ hw397_1; first | rwa [add_block] at this | exact this) GW401.out))) _).trans (((cell_far (p := ⟨gb401, _, none⟩) (by first | exact Nat.ne_of_lt (Nat.lt_of_lt_of_le (by have := World.block_lt_of_cell? _ _ hw397_1; first | rwa [add_block] at this | exact this) GW401.out) | (rw [add_block]; exact Nat.ne_of_lt (Nat.lt_of_lt_of_le (by have := World.block_lt_of_cell? _ _ hw397_1; first | rwa [add_block] at this | exact this) GW401.out)) | (show (Addr.add _ _).block ≠ _; rw [add_block]; exact Nat.ne_of_lt (Nat.lt_of_lt_of_le (by have := World.block_lt_of_cell? _ _ hw397_1; first | rwa [add_block] at this | exact this) GW401.out)) | (dsimp only; exact Nat.ne_of_lt (Nat.lt_of_lt_of_le (by have := World.block_lt_of_cell? _ _ hw397_1; first | rwa [add_block] at this | exact this) GW401.out))) _).trans (hHeld.2.2.2.2.2.1)))), ((cell_far (p := ⟨gb401, _, none⟩) (by first | exact Nat.ne_of_lt (Nat.lt_of_lt_of_le (by have := World.block_lt_of_cell? _ _ hw398_0; first | rwa [add_block] at this | exact this) GW401.out) | (rw [add_block]; exact Nat.ne_of_lt (Nat.lt_of_lt_of_le (by have := World.block_lt_of_cell? _ _ hw398_0; first | rwa [add_block] at this | exact this) GW401.out)) | (show (Addr.add _ _).block ≠ _; rw [add_block]; exact Nat.ne_of_lt (Nat.lt_of_lt_of_le (by have := World.block_lt_of_cell? _ _ hw398_0; first | rwa [add_block] at this | exact this) GW401.out)) | (dsimp only; exact Nat.ne_of_lt (Nat.lt_of_lt_of_le (by have := World.block_lt_of_cell? _ _ hw398_0; first | rwa [add_block] at this | exact this) GW401.out))) _).trans (((cell_far (p := ⟨gb401, _, none⟩) (by first | exact Nat.ne_of_lt (Nat.lt_of_lt_of_le (by have := World.block_lt_of_cell? _ _ hw398_0; first | rwa [add_block] at this | exact this) GW401.out) | (rw [add_block]; exact Nat.ne_of_lt (Nat.lt_of_lt_of_le (by have := World.block_lt_of_cell? _ _ hw398_0; first | rwa [add_block] at this | exact this) GW401.out)) | (show (Addr.add _ _).block ≠ _; rw [add_block]; exact Nat.ne_of_lt (Nat.lt_of_lt_of_le (by have := World.block_lt_of_cell? _ _ hw398_0; first | rwa [add_block] at this | exact this) GW401.out)) | (dsimp only; exact Nat.ne_of_lt (Nat.lt_of_lt_of_le (by have := World.block_lt_of_cell? _ _ hw398_0; first | rwa [add_block] at this | exact this) GW401.out))) _).trans (hHeld.2.2.2.2.2.2.1)))), ((cell_far (p := ⟨gb401, _, none⟩) (by first | exact Nat.ne_of_lt (Nat.lt_of_lt_of_le (by have := World.block_lt_of_cell? _ _ hw399_0; first | rwa [add_block] at this | exact this) GW401.out) | (rw [add_block]; exact Nat.ne_of_lt (Nat.lt_of_lt_of_le (by have := World.block_lt_of_cell? _ _ hw399_0; first | rwa [add_block] at this | exact this) GW401.out)) | (show (Addr.add _ _).block ≠ _; rw [add_block]; exact Nat.ne_of_lt (Nat.lt_of_lt_of_le (by have := World.block_lt_of_cell? _ _ hw399_0; first | rwa [add_block] at this | exact this) GW401.out)) | (dsimp only; exact Nat.ne_of_lt (Nat.lt_of_lt_of_le (by have := World.block_lt_of_cell? _ _ hw399_0; first | rwa [add_block] at this | exact this) GW401.out))) _).trans (((cell_far (p := ⟨gb401, _, none⟩) (by first | exact Nat.ne_of_lt (Nat.lt_of_lt_of_le (by have := World.block_lt_of_cell? _ _ hw399_0; first | rwa [add_block] at this | exact this) GW401.out) | (rw [add_block]; exact Nat.ne_of_lt (Nat.lt_of_lt_of_le (by have := World.block_lt_of_cell? _ _ hw399_0; first | rwa [add_block] at this | exact this) GW401.out)) | (show (Addr.add _ _).block ≠ _; rw [add_block]; exact Nat.ne_of_lt (Nat.lt_of_lt_of_le (by have := World.block_lt_of_cell? _ _ hw399_0; first | rwa [add_block] at this | exact this) GW401.out)) | (dsimp only; exact Nat.ne_of_lt (Nat.lt_of_lt_of_le (by have := World.block_lt_of_cell? _ _ hw399_0; first | rwa [add_block] at this | exact this) GW401.out))) _).trans (hHeld.2.2.2.2.2.2.2.1)))), ((cell_far (p := ⟨gb401, _, none⟩) (by first | exact Nat.ne_of_lt (Nat.lt_of_lt_of_le (by have := World.block_lt_of_cell? _ _ hw399_1; first | rwa [add_block] at this | exact this) GW401.out) | (rw [add_block]; exact Nat.ne_of_lt (Nat.lt_of_lt_of_le (by have := World.block_lt_of_cell? _ _ hw399_1; first | rwa [add_block] at this | exact this) GW401.out)) | (show (Addr.add _ _).block ≠ _; rw [add_block]; exact Nat.ne_of_lt (Nat.lt_of_lt_of_le (by have := World.block_lt_of_cell? _ _ hw399_1; first | rwa [add_block] at this | exact this) GW401.out)) | (dsimp only; exact Nat.ne_of_lt (Nat.lt_of_lt_of_le (by have := World.block_lt_of_cell? _ _ hw399_1; first | rwa [add_block] at this | exact this) GW401.out))) _).trans (((cell_far (p := ⟨gb401, _, none⟩) (by first | exact Nat.ne_of_lt (Nat.lt_of_lt_of_le (by have := World.block_lt_of_cell? _ _ hw399_1; first | rwa [add_block] at this | exact this) GW401.out) | (rw [add_block]; exact Nat.ne_of_lt (Nat.lt_of_lt_of_le (by have := World.block_lt_of_cell? _ _ hw399_1; first | rwa [add_block] at this | exact this) GW401.out)) | (show (Addr.add _ _).block ≠ _; rw [add_block]; exact Nat.ne_of_lt (Nat.lt_of_lt_of_le (by have := World.block_lt_of_cell? _ _ hw399_1; first | rwa [add_block] at this | exact this) GW401.out)) | (dsimp only; exact Nat.ne_of_lt (Nat.lt_of_lt_of_le (by have := World.block_lt_of_cell? _ _ hw399_1; first | rwa [add_block] at this | exact this) GW401.out))) _).trans (hHeld.2.2.2.2.2.2.2.2))))⟩ (fun hHeld => ?_)
   clear hK K
   refine done_ (done_of HT_.out (by kernel_rfl)) ?_
   try go_wp2
   have n0_ : Aside0 (Kd.S (hyF l0.length (Qh w b0)) 52 ((((w59.setCell ⟨gb400, 0, none⟩ (.int .i64 ((rd_T62 (rd_L5 l0 a1_0) x47_1).f0))).setCell ⟨gb400, 1, none⟩ (.int .i64 ((rd_T62 (rd_L5 l0 a1_0) x47_1).f1))).setCell ⟨gb401, 0, none⟩ (.int .i64 ((rd_T62 (rd_L5 l0 a1_1) x47_1).f0))).setCell ⟨gb401, 1, none⟩ (.int .i64 ((rd_T62 (rd_L5 l0 a1_1) x47_1).f1))) w.heap.size (fun k_ => k_ ≠ gb387 ∧ k_ ≠ gb390 ∧ k_ ≠ gb400 ∧ k_ ≠ gb401) (.slice (some ⟨go12, 0, none⟩) x9_1.length co12) x9_1) := ⟨by (with_reducible repeat (first | apply Kd.S_alloc | apply Kd.S_drewN | apply Kd.S_drew)); exact Kd.S_mono (Kd.S_far (p := ⟨gb401, 1, none⟩) (Kd.S_far (p := ⟨gb401, 0, none⟩) (Kd.S_far (p := ⟨gb400, 1, none⟩) (Kd.S_far (p := ⟨gb400, 0, none⟩) (Kd.S_mono (Kd.S_mono HO_9.out (fun k_ hk => (⟨hk, hk.2.2.1⟩ : _ ∧ k_ ≠ gb400))) (fun k_ hk => (⟨hk, hk.1.2.2.2⟩ : _ ∧ k_ ≠ gb401))) (fun _ hk => hk.1.2) (.int .i64 ((rd_T62 (rd_L5 l0 a1_0) x47_1).f0))) (fun _ hk => hk.1.2) (.int .i64 ((rd_T62 (rd_L5 l0 a1_0) x47_1).f1))) (fun _ hk => hk.2) (.int .i64 ((rd_T62 (rd_L5 l0 a1_1) x47_1).f0))) (fun _ hk => hk.2) (.int .i64 ((rd_T62 (rd_L5 l0 a1_1) x47_1).f1))) (fun _ hk => ⟨hk.1.1.1, ⟨hk.1.1.2.1, ⟨hk.1.1.2.2.1, hk.1.1.2.2.2⟩⟩⟩)⟩
   have n1_ : Aside0 (((((w59.setCell ⟨gb400, 0, none⟩ (.int .i64 ((rd_T62 (rd_L5 l0 a1_0) x47_1).f0))).setCell ⟨gb400, 1, none⟩ (.int .i64 ((rd_T62 (rd_L5 l0 a1_0) x47_1).f1))).setCell ⟨gb401, 0, none⟩ (.int .i64 ((rd_T62 (rd_L5 l0 a1_1) x47_1).f0))).setCell ⟨gb401, 1, none⟩ (.int .i64 ((rd_T62 (rd_L5 l0 a1_1) x47_1).f1))).heap[gb382]? = some (.cells #[.int .i64 a1_0, .int .i64 a1_1, .int .i64 a1_2] 77 (0, 0))) := ⟨bF BK382⟩
   have n2_ : Aside0 (((((w59.setCell ⟨gb400, 0, none⟩ (.int .i64 ((rd_T62 (rd_L5 l0 a1_0) x47_1).f0))).setCell ⟨gb400, 1, none⟩ (.int .i64 ((rd_T62 (rd_L5 l0 a1_0) x47_1).f1))).setCell ⟨gb401, 0, none⟩ (.int .i64 ((rd_T62 (rd_L5 l0 a1_1) x47_1).f0))).setCell ⟨gb401, 1, none⟩ (.int .i64 ((rd_T62 (rd_L5 l0 a1_1) x47_1).f1))).heap[gb387]? = some (.cells #[.int .i64 t385, .int .i64 t386] 62 (0, 0))) := ⟨bF BK387⟩
   have n3_ : Aside0 (((((w59.setCell ⟨gb400, 0, none⟩ (.int .i64 ((rd_T62 (rd_L5 l0 a1_0) x47_1).f0))).setCell ⟨gb400, 1, none⟩ (.int .i64 ((rd_T62 (rd_L5 l0 a1_0) x47_1).f1))).setCell ⟨gb401, 0, none⟩ (.int .i64 ((rd_T62 (rd_L5 l0 a1_1) x47_1).f0))).setCell ⟨gb401, 1, none⟩ (.int .i64 ((rd_T62 (rd_L5 l0 a1_1) x47_1).f1))).heap[gb390]? = some (.cells #[.int .i64 t388, .int .i64 t389] 62 (0, 0))) := ⟨bF BK390⟩
   have n4_ : Aside0 (((((w59.setCell ⟨gb400, 0, none⟩ (.int .i64 ((rd_T62 (rd_L5 l0 a1_0) x47_1).f0))).setCell ⟨gb400, 1, none⟩ (.int .i64 ((rd_T62 (rd_L5 l0 a1_0) x47_1).f1))).setCell ⟨gb401, 0, none⟩ (.int .i64 ((rd_T62 (rd_L5 l0 a1_1) x47_1).f0))).setCell ⟨gb401, 1, none⟩ (.int .i64 ((rd_T62 (rd_L5 l0 a1_1) x47_1).f1))).heap[gb400]? = some (.cells #[.int .i64 ((rd_T62 (rd_L5 l0 a1_0) x47_1).f0), .int .i64 ((rd_T62 (rd_L5 l0 a1_0) x47_1).f1)] 62 (0, 0))) := ⟨by (with_reducible repeat (first | refine blk_drewN ?_ _ | refine blk_drew ?_ | refine blk_alloc ?_ _)); refine blk_far ?_ NB400_401.out _; (with_reducible repeat (first | refine blk_drewN ?_ _ | refine blk_drew ?_ | refine blk_alloc ?_ _)); refine blk_far ?_ NB400_401.out _; (with_reducible repeat (first | refine blk_drewN ?_ _ | refine blk_drew ?_ | refine blk_alloc ?_ _)); refine blk_put (cs := #[.int .i64 ((rd_T62 (rd_L5 l0 a1_0) x47_1).f0), .int .i64 0]) ?_ 1 _ rfl; (with_reducible repeat (first | refine blk_drewN ?_ _ | refine blk_drew ?_ | refine blk_alloc ?_ _)); refine blk_put (cs := #[.int .i64 0, .int .i64 0]) ?_ 0 _ rfl; (with_reducible repeat (first | refine blk_drewN ?_ _ | refine blk_drew ?_ | refine blk_alloc ?_ _)); exact BK400.out⟩
   have n5_ : Aside0 (((((w59.setCell ⟨gb400, 0, none⟩ (.int .i64 ((rd_T62 (rd_L5 l0 a1_0) x47_1).f0))).setCell ⟨gb400, 1, none⟩ (.int .i64 ((rd_T62 (rd_L5 l0 a1_0) x47_1).f1))).setCell ⟨gb401, 0, none⟩ (.int .i64 ((rd_T62 (rd_L5 l0 a1_1) x47_1).f0))).setCell ⟨gb401, 1, none⟩ (.int .i64 ((rd_T62 (rd_L5 l0 a1_1) x47_1).f1))).heap[gb401]? = some (.cells #[.int .i64 ((rd_T62 (rd_L5 l0 a1_1) x47_1).f0), .int .i64 ((rd_T62 (rd_L5 l0 a1_1) x47_1).f1)] 62 (0, 0))) := ⟨by (with_reducible repeat (first | refine blk_drewN ?_ _ | refine blk_drew ?_ | refine blk_alloc ?_ _)); refine blk_put (cs := #[.int .i64 ((rd_T62 (rd_L5 l0 a1_1) x47_1).f0), .int .i64 0]) ?_ 1 _ rfl; (with_reducible repeat (first | refine blk_drewN ?_ _ | refine blk_drew ?_ | refine blk_alloc ?_ _)); refine blk_put (cs := #[.int .i64 0, .int .i64 0]) ?_ 0 _ rfl; (with_reducible repeat (first | refine blk_drewN ?_ _ | refine blk_drew ?_ | refine blk_alloc ?_ _)); refine blk_far ?_ NB401_400.out _; (with_reducible repeat (first | refine blk_drewN ?_ _ | refine blk_drew ?_ | refine blk_alloc ?_ _)); refine blk_far ?_ NB401_400.out _; (with_reducible repeat (first | refine blk_drewN ?_ _ | refine blk_drew ?_ | refine blk_alloc ?_ _)); exact BK401.out⟩
   have n6_ : Aside0 (Below w.heap.size w ((((w59.setCell ⟨gb400, 0, none⟩ (.int .i64 ((rd_T62 (rd_L5 l0 a1_0) x47_1).f0))).setCell ⟨gb400, 1, none⟩ (.int .i64 ((rd_T62 (rd_L5 l0 a1_0) x47_1).f1))).setCell ⟨gb401, 0, none⟩ (.int .i64 ((rd_T62 (rd_L5 l0 a1_1) x47_1).f0))).setCell ⟨gb401, 1, none⟩ (.int .i64 ((rd_T62 (rd_L5 l0 a1_1) x47_1).f1)))) := ⟨hbC _⟩
   (try clear HO_9)
   (try clear BK382)
   (try clear BK387)
   (try clear BK390)
   (try clear BK400)
   (try clear BK401)
   (try clear HB)
   generalize ((((w59.setCell ⟨gb400, 0, none⟩ (.int .i64 ((rd_T62 (rd_L5 l0 a1_0) x47_1).f0))).setCell ⟨gb400, 1, none⟩ (.int .i64 ((rd_T62 (rd_L5 l0 a1_0) x47_1).f1))).setCell ⟨gb401, 0, none⟩ (.int .i64 ((rd_T62 (rd_L5 l0 a1_1) x47_1).f0))).setCell ⟨gb401, 1, none⟩ (.int .i64 ((rd_T62 (rd_L5 l0 a1_1) x47_1).f1))) = w64 at n0_ n1_ n2_ n3_ n4_ n5_ n6_ ⊢
   have HO_9 := n0_
   have BK382 := n1_
   have BK387 := n2_
   have BK390 := n3_
   have BK400 := n4_
   have BK401 := n5_
   have HB := n6_
   clear n0_ n1_ n2_ n3_ n4_ n5_ n6_
   replace HO_9 := ak (Kd.S_drew HO_9.out)
   replace BK382 := kd BK382
   replace BK387 := kd BK387
   replace BK390 := kd BK390
   replace BK400 := kd BK400
   replace BK401 := kd BK401
   replace HB := ak (below_drew1 HB.out)
   have p402 : 0 ≤ (a1_0 : Int) := dA
   have q402 : a1_0 < (x9_1.length : Int) := dA
   have HLa : (rd_L5 x9_1 a1_0).length ≠ l0.length := by have h1_ := HINV.out.2.1; have h2_ : x47_1 < (l0.length : Int) := (dA); omega
   obtain ⟨ad402, A402_0, c402_0, e402, hx402_0, hl402_0, hi402_0⟩ := at_hy (Kd.S_reads' HO_9.out).2.2 a1_0 p402 q402 HLa
   obtain rfl : (⟨go12, 0, none⟩ : Addr) = ad402 := (by injection e402)
   obtain ⟨ce402, hce402, hMe402, hcc402⟩ := Kd.S_get HO_9.out [] a1_0 p402 (by first | exact q402 | exact dA | (have e_ := (Kd.S_reads' HO_9.out).1; omega))
   obtain ⟨ve402_0, rfl, ge402_0⟩ := hy_M hMe402 HLa
   have hv402_0 := hcc402 0 _ rfl
   rw [Nat.add_zero, show ((hyF l0.length (Qh w b0))).sz = 1 from rfl, Nat.mul_one] at hv402_0
   replace hv402_0 := Option.some.inj (hv402_0.symm.trans hx402_0)
   rw [hv402_0] at ge402_0
   have HL402_0 := ak (show Kd.R k62 62 _ _ _ _ (rd_L5 x9_1 a1_0) from ge402_0)
   clear hv402_0 ge402_0
   have HX402_0 := Aside0.mk hx402_0
   clear hcc402 hce402
   (first | simp only [add_plain] at hx402_0 | simp only [add_at] at hx402_0 | simp only [Addr.add, Nat.zero_add] at hx402_0 | skip)
   have HR402_0 := Aside0.mk hi402_0
   have HC402_0 := Aside0.mk hl402_0
   clear hi402_0 hl402_0
   replace p402 := eq_true p402
   replace q402 := eq_true q402
   refine sS (n := 19) (S := fun w' => w'.cell? ⟨gb382, 0, none⟩ = some (.int .i64 a1_0) ∧ w'.cell? ⟨gb382, 1, none⟩ = some (.int .i64 a1_1) ∧ w'.cell? ⟨gb382, 2, none⟩ = some (.int .i64 a1_2) ∧ w'.cell? ⟨gb390, 0, none⟩ = some (.int .i64 t388) ∧ w'.cell? ⟨gb390, 1, none⟩ = some (.int .i64 t389) ∧ w'.cell? ⟨gb400, 0, none⟩ = some (.int .i64 ((rd_T62 (rd_L5 l0 a1_0) x47_1).f0)) ∧ w'.cell? ⟨gb400, 1, none⟩ = some (.int .i64 ((rd_T62 (rd_L5 l0 a1_0) x47_1).f1)) ∧ w'.cell? ⟨gb387, 0, none⟩ = some (.int .i64 t385) ∧ w'.cell? ⟨gb387, 1, none⟩ = some (.int .i64 t386) ∧ w'.cell? ⟨gb401, 0, none⟩ = some (.int .i64 ((rd_T62 (rd_L5 l0 a1_1) x47_1).f0)) ∧ w'.cell? ⟨gb401, 1, none⟩ = some (.int .i64 ((rd_T62 (rd_L5 l0 a1_1) x47_1).f1)) ∧ w'.cell? ⟨go12, (a1_0).toNat, none⟩ = some (.slice A402_0 (rd_L5 x9_1 a1_0).length c402_0)) (ds := [18]) ⟨bc BK382 0, bc BK382 1, bc BK382 2, bc BK390 0, bc BK390 1, bc BK400 0, bc BK400 1, bc BK387 0, bc BK387 1, bc BK401 0, bc BK401 1, hx402_0⟩ (fun hHeld => ?_); refine with_tabW shares_mixture_after.tab9 shares_mixture_after.bits9 (fun HT_ HW_ => ?_)
   generalize w64.drew = w65 at HO_9 BK382 BK387 BK390 BK400 BK401 HB HL402_0 HR402_0 HX402_0 hx402_0 hHeld ⊢
   refine pS 0 66 19 1 ?_
   refine pS 1 67 19 3 ?_
   refine pS 3 69 19 11 ?_
   refine pS 4 70 19 27 ?_
   refine tS 2 68 19 31 ?_
   refine tS 5 71 19 63 ?_
   refine pS 6 72 19 127 ?_
   refine tS 7 73 19 255 ?_
   refine tS 8 74 19 511 ?_
   refine tS 9 75 19 1023 ?_
   refine tS 11 77 19 3071 ?_
   refine tS 12 78 19 7167 ?_
   refine one_ (i := 10) (N := some 76) (ba 19 8191) rfl rfl (one_of HT_.out (by kernel_rfl)) (by decide) (fun K hK => ?_)
   refine gC Try.func118 #[.agg #[.int .i64 t388, .int .i64 t389], .agg #[.int .i64 ((rd_T62 (rd_L5 l0 a1_0) x47_1).f0), .int .i64 ((rd_T62 (rd_L5 l0 a1_0) x47_1).f1)]] ?_
   with_reducible refine (shares_times.calls k1 t388 t389 ((rd_T62 (rd_L5 l0 a1_0) x47_1).f0) ((rd_T62 (rd_L5 l0 a1_0) x47_1).f1) t403 t404 _ A45.out).mono ?_
   rintro e w66 ⟨rfl, hb⟩
   have HS11_ := (hb.cell (World.block_lt_of_cell? _ _ (hHeld.2.2.2.2.2.2.2.2.2.2.2))).trans (hHeld.2.2.2.2.2.2.2.2.2.2.2)
   refine ⟨_, rfl, ?_⟩
   replace HO_9 := ak (Kd.S_below (by (with_reducible repeat (first | apply Kd.S_alloc | apply Kd.S_drewN | apply Kd.S_drew)); exact HO_9.out) hb)
   replace HL402_0 := ak (Kd.R_below (rD (HL402_0.out)) hb)
   replace BK382 := kB BK382 hb
   replace BK387 := kB BK387 hb
   replace BK390 := kB BK390 hb
   replace BK400 := kB BK400 hb
   replace BK401 := kB BK401 hb
   replace HR402_0 := ak (Kd.C_below (by repeat (first | (with_reducible exact HR402_0.out) | (with_reducible refine Kd.C_alloc ?_ _) | (with_reducible refine Kd.C_drewN ?_ _) | (with_reducible refine Kd.C_drew ?_) | exact HR402_0.out)) hb)
   replace HX402_0 := ak (pw_cell_below hb HX402_0.out)
   replace HB := kH _ hb
   (try clear hb)
   (try clear hb2)
   (try clear hk)
   (try clear hi)
   refine hK.out _ _ ⟨bc BK382 0, bc BK382 1, bc BK382 2, bc BK390 0, bc BK390 1, bc BK400 0, bc BK400 1, bc BK387 0, bc BK387 1, bc BK401 0, bc BK401 1, HS11_⟩ (fun hHeld => ?_)
   clear hK K
   refine norm_ (a' := ?_) ?_ ?_
   rotate_left
   ·show Act.put _ (some 76) _ = _
    simp only [Act.put, List.setIfInBounds_toArray, List.set_cons_zero, List.set_cons_succ, i64_w, i32_w]
    rfl
   refine one_ (i := 13) (N := some 79) (ba 19 16383) rfl rfl (one_of HT_.out (by kernel_rfl)) (by decide) (fun K hK => ?_)
   refine gC Try.func118 #[.agg #[.int .i64 t385, .int .i64 t386], .agg #[.int .i64 ((rd_T62 (rd_L5 l0 a1_1) x47_1).f0), .int .i64 ((rd_T62 (rd_L5 l0 a1_1) x47_1).f1)]] ?_
   with_reducible refine (shares_times.calls k1 t385 t386 ((rd_T62 (rd_L5 l0 a1_1) x47_1).f0) ((rd_T62 (rd_L5 l0 a1_1) x47_1).f1) t405 t406 _ A46.out).mono ?_
   rintro e w67 ⟨rfl, hb⟩
   have HS11_ := (hb.cell (World.block_lt_of_cell? _ _ (hHeld.2.2.2.2.2.2.2.2.2.2.2))).trans (hHeld.2.2.2.2.2.2.2.2.2.2.2)
   refine ⟨_, rfl, ?_⟩
   replace HO_9 := ak (Kd.S_below (by (with_reducible repeat (first | apply Kd.S_alloc | apply Kd.S_drewN | apply Kd.S_drew)); exact HO_9.out) hb)
   replace HL402_0 := ak (Kd.R_below (rD (HL402_0.out)) hb)
   replace BK382 := kB BK382 hb
   replace BK387 := kB BK387 hb
   replace BK390 := kB BK390 hb
   replace BK400 := kB BK400 hb
   replace BK401 := kB BK401 hb
   replace HR402_0 := ak (Kd.C_below (by repeat (first | (with_reducible exact HR402_0.out) | (with_reducible refine Kd.C_alloc ?_ _) | (with_reducible refine Kd.C_drewN ?_ _) | (with_reducible refine Kd.C_drew ?_) | exact HR402_0.out)) hb)
   replace HX402_0 := ak (pw_cell_below hb HX402_0.out)
   replace HB := kH _ hb
   (try clear hb)
   (try clear hb2)
   (try clear hk)
   (try clear hi)
   refine hK.out _ _ ⟨bc BK382 0, bc BK382 1, bc BK382 2, bc BK390 0, bc BK390 1, bc BK400 0, bc BK400 1, bc BK387 0, bc BK387 1, bc BK401 0, bc BK401 1, HS11_⟩ (fun hHeld => ?_)
   clear hK K
   refine norm_ (a' := ?_) ?_ ?_
   rotate_left
   ·show Act.put _ (some 79) _ = _
    simp only [Act.put, List.setIfInBounds_toArray, List.set_cons_zero, List.set_cons_succ, i64_w, i32_w]
    rfl
   refine one_ (i := 14) (N := some 80) (ba 19 32767) rfl rfl (one_of HT_.out (by kernel_rfl)) (by decide) (fun K hK => ?_)
   refine gC Try.func117 #[.agg #[.int .i64 t403, .int .i64 t404], .agg #[.int .i64 t405, .int .i64 t406]] ?_
   with_reducible refine (shares_plus.calls k1 t403 t404 t405 t406 t407 t408 _ A47.out).mono ?_
   rintro e w68 ⟨rfl, hb⟩
   have HS11_ := (hb.cell (World.block_lt_of_cell? _ _ (hHeld.2.2.2.2.2.2.2.2.2.2.2))).trans (hHeld.2.2.2.2.2.2.2.2.2.2.2)
   refine ⟨_, rfl, ?_⟩
   replace HO_9 := ak (Kd.S_below (by (with_reducible repeat (first | apply Kd.S_alloc | apply Kd.S_drewN | apply Kd.S_drew)); exact HO_9.out) hb)
   replace HL402_0 := ak (Kd.R_below (rD (HL402_0.out)) hb)
   replace BK382 := kB BK382 hb
   replace BK387 := kB BK387 hb
   replace BK390 := kB BK390 hb
   replace BK400 := kB BK400 hb
   replace BK401 := kB BK401 hb
   replace HR402_0 := ak (Kd.C_below (by repeat (first | (with_reducible exact HR402_0.out) | (with_reducible refine Kd.C_alloc ?_ _) | (with_reducible refine Kd.C_drewN ?_ _) | (with_reducible refine Kd.C_drew ?_) | exact HR402_0.out)) hb)
   replace HX402_0 := ak (pw_cell_below hb HX402_0.out)
   replace HB := kH _ hb
   (try clear hb)
   (try clear hb2)
   (try clear hk)
   (try clear hi)
   obtain ⟨oki69, ce69, hcl69, hM69, hcc69, _, _, hH69⟩ := Kd.S_elem HO_9.out [] (a1_0 : Int) (dA) (by have h_ : (a1_0 : Int) < ((x9_1.length : Int) : Int) := dA; first | exact h_ | (have e_ := (Kd.S_reads' HO_9.out).1; omega) | simpa using h_)
   obtain ⟨ve69_0, rfl, ge69_0⟩ := hy_M hM69 HLa
   have hv69 := hcc69 0 _ rfl
   have hX69 := HX402_0.out
   (try simp only [add_plain] at hX69)
   (try simp only [Nat.add_zero] at hv69)
   (try rw [show ((hyF l0.length (Qh w b0))).sz = 1 from rfl, Nat.mul_one] at hv69)
   replace hv69 := Option.some.inj (hv69.symm.trans hX69)
   subst hv69
   clear hX69 hcc69 hcl69
   have UU69 := ak (show Kd.R k62 62 _ w.heap.size oki69 (.slice A402_0 (rd_L5 x9_1 a1_0).length c402_0) (rd_L5 x9_1 a1_0) from ge69_0)
   have HH69 := Aside0.mk hH69
   have HN69 := ak (Kd.S_reads' HO_9.out).1
   clear hH69 ge69_0
   refine hK.out _ _ ⟨bc BK382 0, bc BK382 1, bc BK382 2, bc BK390 0, bc BK390 1, bc BK400 0, bc BK400 1, bc BK387 0, bc BK387 1, bc BK401 0, bc BK401 1, HS11_⟩ (fun hHeld => ?_)
   clear hK K
   refine norm_ (a' := ?_) ?_ ?_
   rotate_left
   ·show Act.put _ (some 80) _ = _
    simp only [Act.put, List.setIfInBounds_toArray, List.set_cons_zero, List.set_cons_succ, i64_w, i32_w]
    rfl
   refine one_ (i := 15) (N := some 81) (ba 19 65535) rfl rfl (one_of HT_.out (by kernel_rfl)) (by decide) (fun K hK => ?_)
   refine value_ (w1 := ?_) (v := ?_) (by rfl) rfl ?_ ?_
   rotate_left 2
   ·go_simp
    constructor
    ·rfl
    ·rfl
   refine hK.out _ _ ⟨(blk_cell (blk_alloc BK382.out _) 0).trans rfl, (blk_cell (blk_alloc BK382.out _) 1).trans rfl, (blk_cell (blk_alloc BK382.out _) 2).trans rfl, (blk_cell (blk_alloc BK390.out _) 0).trans rfl, (blk_cell (blk_alloc BK390.out _) 1).trans rfl, (blk_cell (blk_alloc BK400.out _) 0).trans rfl, (blk_cell (blk_alloc BK400.out _) 1).trans rfl, (blk_cell (blk_alloc BK387.out _) 0).trans rfl, (blk_cell (blk_alloc BK387.out _) 1).trans rfl, (blk_cell (blk_alloc BK401.out _) 0).trans rfl, (blk_cell (blk_alloc BK401.out _) 1).trans rfl, (World.cell?_alloc_lt _ _ _ (World.block_lt_of_cell? _ _ (hHeld.2.2.2.2.2.2.2.2.2.2.2))).trans (hHeld.2.2.2.2.2.2.2.2.2.2.2)⟩ (fun hHeld => ?_)
   clear hK K
   refine norm_ (a' := ?_) ?_ ?_
   rotate_left
   ·show Act.put _ (some 81) _ = _
    simp only [Act.put, List.setIfInBounds_toArray, List.set_cons_zero, List.set_cons_succ, i64_w, i32_w]
    rfl
   refine one_ (i := 16) (N := some 82) (ba 19 131071) rfl rfl (one_of HT_.out (by kernel_rfl)) (by decide) (fun K hK => ?_)
   refine Kd.R_append_step k62 (w0 := w) w.heap.size (by rfl) (.tmp 73) (.tmp 81) 52 62 (.agg #[(.int .i64 0), (.int .i64 0)]) 16 rfl Try.underlying52 info62 rfl (by decide) (by omega) (.slice A402_0 (rd_L5 x9_1 a1_0).length c402_0) (rd_L5 x9_1 a1_0) (⟨t407, t408⟩ : S62) [.int .i64 t407, .int .i64 t408] (fun k_ => oki69 k_ ∨ ((fun k_ => k_ ≠ gb387 ∧ k_ ≠ gb390 ∧ k_ ≠ gb400 ∧ k_ ≠ gb401)) k_ ∧ w68.heap.size ≤ k_) (fun _ => False) rfl rfl ?aP (fun _ hk => hk.elim) ?aF ?aO ?aB ?aS ?aL ?_
   (case aP => exact k62_mkM _ _ _ (⟨t407, t408⟩ : S62))
   (case aB => exact (hbC _))
   (case aF => exact (fun k_ hk => .inr ⟨⟨Kd.freshB (g := gb387) (o := .cells #[.int .i64 t385, .int .i64 t386] 62 (0, 0)) (bkC BK387) k_ hk, Kd.freshB (g := gb390) (o := .cells #[.int .i64 t388, .int .i64 t389] 62 (0, 0)) (bkC BK390) k_ hk, Kd.freshB (g := gb400) (o := .cells #[.int .i64 ((rd_T62 (rd_L5 l0 a1_0) x47_1).f0), .int .i64 ((rd_T62 (rd_L5 l0 a1_0) x47_1).f1)] 62 (0, 0)) (bkC BK400) k_ hk, Kd.freshB (g := gb401) (o := .cells #[.int .i64 ((rd_T62 (rd_L5 l0 a1_1) x47_1).f0), .int .i64 ((rd_T62 (rd_L5 l0 a1_1) x47_1).f1)] 62 (0, 0)) (bkC BK401) k_ hk⟩, hk⟩))
   (case aO => exact (rD (Kd.R_mono UU69.out (fun _ hk => .inl hk))))
   (case aS => exact (below_size (hbC _)))
   (case aL => have := LMc48.out; omega)
   intro v410 w70 ho hb hg hat
   (first | have HS11_ := cell_grown hg (hHeld.2.2.2.2.2.2.2.2.2.2.2) (by first | (rw [add_block]; exact (fun e_ => ((HL402_0.out.1 _ e_.symm).2) rfl)) | (show some (Addr.add _ _).block ≠ _; rw [add_block]; exact (fun e_ => ((HL402_0.out.1 _ e_.symm).2) rfl)) | exact (fun e_ => ((HL402_0.out.1 _ e_.symm).2) rfl)) | have HS11_ := cell_grown hg (cell_unalloc (hHeld.2.2.2.2.2.2.2.2.2.2.2) (by first | (rw [add_block]; exact Kd.S_lt HO_9.out _ rfl) | (show (Addr.add _ _).block < _; rw [add_block]; exact Kd.S_lt HO_9.out _ rfl) | exact Kd.S_lt HO_9.out _ rfl)) (by first | (rw [add_block]; exact (fun e_ => ((HL402_0.out.1 _ e_.symm).2) rfl)) | (show some (Addr.add _ _).block ≠ _; rw [add_block]; exact (fun e_ => ((HL402_0.out.1 _ e_.symm).2) rfl)) | exact (fun e_ => ((HL402_0.out.1 _ e_.symm).2) rfl)))
   rw [← Ny409.out] at ho
   have n0_ := ak (blk_grown (g := gb382) (o := .cells #[.int .i64 a1_0, .int .i64 a1_1, .int .i64 a1_2] 77 (0, 0)) (bkC BK382) hg (Kd.R_ne HL402_0.out BK382.out (by decide)))
   have n1_ := ak (blk_grown (g := gb387) (o := .cells #[.int .i64 t385, .int .i64 t386] 62 (0, 0)) (bkC BK387) hg (Kd.R_away HL402_0.out (fun _ hk => hk.1.1)))
   have n2_ := ak (blk_grown (g := gb390) (o := .cells #[.int .i64 t388, .int .i64 t389] 62 (0, 0)) (bkC BK390) hg (Kd.R_away HL402_0.out (fun _ hk => hk.1.2.1)))
   have n3_ := ak (blk_grown (g := gb400) (o := .cells #[.int .i64 ((rd_T62 (rd_L5 l0 a1_0) x47_1).f0), .int .i64 ((rd_T62 (rd_L5 l0 a1_0) x47_1).f1)] 62 (0, 0)) (bkC BK400) hg (Kd.R_away HL402_0.out (fun _ hk => hk.1.2.2.1)))
   have n4_ := ak (blk_grown (g := gb401) (o := .cells #[.int .i64 ((rd_T62 (rd_L5 l0 a1_1) x47_1).f0), .int .i64 ((rd_T62 (rd_L5 l0 a1_1) x47_1).f1)] 62 (0, 0)) (bkC BK401) hg (Kd.R_away HL402_0.out (fun _ hk => hk.1.2.2.2)))
   have n5_ := ak (hb)
   have n6_ := ak (Kd.H_grown (Kd.H_widen (by repeat (first | exact HH69.out | refine Kd.H_alloc ?_ _ | refine Kd.H_drewN ?_ _ | refine Kd.H_drew ?_))) hg (fun k_ e_ => .inl (UU69.out.1 k_ e_)))
   have n7_ := ak (ho)
   clear BK382
   clear BK387
   clear BK390
   clear BK400
   clear BK401
   clear HB
   clear HH69
   clear HO_9
   clear UU69
   clear HL402_0
   have BK382 := n0_
   have BK387 := n1_
   have BK390 := n2_
   have BK400 := n3_
   have BK401 := n4_
   have HB := n5_
   have HH69 := n6_
   have HO411 := n7_
   clear n0_ n1_ n2_ n3_ n4_ n5_ n6_ n7_
   clear ho hb hg hat
   have p49 : 0 ≤ (a1_0 : Int) := dA
   have q49 : (a1_0 : Int) < ((x9_1.length : Int) : Int) := dA
   replace p49 := eq_true p49
   replace q49 := eq_true q49
   obtain ⟨Ao73, co73, eo73⟩ := Kd.R_slice HO411.out
   (first | subst eo73 | (injection eo73 with f1_ f2_ f3_; have f4_ := f1_.symm; have f5_ := f3_.symm; clear f1_ f2_ f3_; subst f4_; subst f5_))
   obtain ⟨_, _, hraw71, _, _, hcc71, _⟩ := Kd.H_raw HH69.out (dA) (by have h_ : (a1_0 : Int) < ((x9_1.length : Int) : Int) := dA; first | exact h_ | (have e_ := (HN69.out); omega) | simpa using h_)
   obtain ⟨_, hfr71⟩ := Kd.H_at HH69.out (dA) (by have h_ : (a1_0 : Int) < ((x9_1.length : Int) : Int) := dA; first | exact h_ | (have e_ := (HN69.out); omega) | simpa using h_)
   have hx71_0 := hcc71 0 _ rfl
   have hf71_0 := hfr71 0
   (try simp only [Nat.add_zero] at hx71_0 hf71_0)
   (try rw [show ((hyF l0.length (Qh w b0))).sz = 1 from rfl, Nat.mul_one] at hx71_0)
   (try rw [show ((hyF l0.length (Qh w b0))).sz = 1 from rfl, Nat.mul_one] at hf71_0)
   have HP71 := Kd.S_seg0 HH69.out (dA) (by have h_ : (a1_0 : Int) < ((x9_1.length : Int) : Int) := dA; first | exact h_ | (have e_ := (HN69.out); omega) | simpa using h_) (seg := [.slice Ao73 y409.length co73]) (j := 0) (show 1 ≤ 1 from by decide) (x' := y409) (Or.inl (Kd.M_row HO411.out)) (fun _ hk => hk)
   (try simp only [show ((hyF l0.length (Qh w b0))).sz = 1 from rfl, Nat.mul_one, Nat.add_zero] at HP71)
   clear hcc71 hfr71
   have HNB382_go12 := ak (show gb382 ≠ go12 from by have h_ := Kd.R_ne hraw71 BK382.out (by decide); intro e_; exact h_ (by rw [e_]; rfl))
   have HNB387_go12 := ak (show gb387 ≠ go12 from by have h_ := Kd.R_ne hraw71 BK387.out (by decide); intro e_; exact h_ (by rw [e_]; rfl))
   have HNB390_go12 := ak (show gb390 ≠ go12 from by have h_ := Kd.R_ne hraw71 BK390.out (by decide); intro e_; exact h_ (by rw [e_]; rfl))
   have HNB400_go12 := ak (show gb400 ≠ go12 from by have h_ := Kd.R_ne hraw71 BK400.out (by decide); intro e_; exact h_ (by rw [e_]; rfl))
   have HNB401_go12 := ak (show gb401 ≠ go12 from by have h_ := Kd.R_ne hraw71 BK401.out (by decide); intro e_; exact h_ (by rw [e_]; rfl))
   have HS71 := HP71.1
   rw [← Ny412.out] at HS71
   have HQ71 := Aside0.mk HS71
   obtain ⟨_, hgg71⟩ := Kd.R_typed hraw71 go12 rfl
   have GG71_ := Aside0.mk hgg71
   clear HP71 HS71 hgg71
   refine hK.out _ _ ⟨bc BK382 0, bc BK382 1, bc BK382 2, bc BK390 0, bc BK390 1, bc BK400 0, bc BK400 1, bc BK387 0, bc BK387 1, bc BK401 0, bc BK401 1, HS11_⟩ (fun hHeld => ?_)
   clear hK K
   refine norm_ (a' := ?_) ?_ ?_
   rotate_left
   ·show Act.put _ (some 82) _ = _
    simp only [Act.put, List.setIfInBounds_toArray, List.set_cons_zero, List.set_cons_succ, i64_w, i32_w]
    rfl
   refine pS 17 83 19 262143 ?_
   refine last_ (i := 18) (N := none) (ba 19 524287) rfl rfl (one_of HT_.out (by kernel_rfl)) (by decide) (fun K hK => ?_)
   refine skip_ (w1 := ?_) (by rfl) rfl ?_ ?_
   rotate_left
   ·go_simp
    rfl
   refine hK.out _ _ ?_
   clear hK K
   refine done_ (done_of HT_.out (by kernel_rfl)) ?_
   try go_wp2
   have n0_ : Aside0 (Kd.S (hyF l0.length (Qh w b0)) 52 (w70.setCell ⟨go12, (a1_0 : Int).toNat, none⟩ (.slice Ao73 y409.length co73)) w.heap.size (fun k_ => k_ ≠ gb387 ∧ k_ ≠ gb390 ∧ k_ ≠ gb400 ∧ k_ ≠ gb401) (.slice (some ⟨go12, 0, none⟩) x9_1.length co12) y412) := ⟨by (with_reducible repeat (first | apply Kd.S_alloc | apply Kd.S_drewN | apply Kd.S_drew)); exact HQ71.out⟩
   have n1_ : Aside0 ((w70.setCell ⟨go12, (a1_0 : Int).toNat, none⟩ (.slice Ao73 y409.length co73)).heap[gb382]? = some (.cells #[.int .i64 a1_0, .int .i64 a1_1, .int .i64 a1_2] 77 (0, 0))) := ⟨by (with_reducible repeat (first | refine blk_drewN ?_ _ | refine blk_drew ?_ | refine blk_alloc ?_ _)); refine blk_far ?_ HNB382_go12.out _; (with_reducible repeat (first | refine blk_drewN ?_ _ | refine blk_drew ?_ | refine blk_alloc ?_ _)); exact BK382.out⟩
   have n2_ : Aside0 ((w70.setCell ⟨go12, (a1_0 : Int).toNat, none⟩ (.slice Ao73 y409.length co73)).heap[gb387]? = some (.cells #[.int .i64 t385, .int .i64 t386] 62 (0, 0))) := ⟨by (with_reducible repeat (first | refine blk_drewN ?_ _ | refine blk_drew ?_ | refine blk_alloc ?_ _)); refine blk_far ?_ HNB387_go12.out _; (with_reducible repeat (first | refine blk_drewN ?_ _ | refine blk_drew ?_ | refine blk_alloc ?_ _)); exact BK387.out⟩
   have n3_ : Aside0 ((w70.setCell ⟨go12, (a1_0 : Int).toNat, none⟩ (.slice Ao73 y409.length co73)).heap[gb390]? = some (.cells #[.int .i64 t388, .int .i64 t389] 62 (0, 0))) := ⟨by (with_reducible repeat (first | refine blk_drewN ?_ _ | refine blk_drew ?_ | refine blk_alloc ?_ _)); refine blk_far ?_ HNB390_go12.out _; (with_reducible repeat (first | refine blk_drewN ?_ _ | refine blk_drew ?_ | refine blk_alloc ?_ _)); exact BK390.out⟩
   have n4_ : Aside0 ((w70.setCell ⟨go12, (a1_0 : Int).toNat, none⟩ (.slice Ao73 y409.length co73)).heap[gb400]? = some (.cells #[.int .i64 ((rd_T62 (rd_L5 l0 a1_0) x47_1).f0), .int .i64 ((rd_T62 (rd_L5 l0 a1_0) x47_1).f1)] 62 (0, 0))) := ⟨by (with_reducible repeat (first | refine blk_drewN ?_ _ | refine blk_drew ?_ | refine blk_alloc ?_ _)); refine blk_far ?_ HNB400_go12.out _; (with_reducible repeat (first | refine blk_drewN ?_ _ | refine blk_drew ?_ | refine blk_alloc ?_ _)); exact BK400.out⟩
   have n5_ : Aside0 ((w70.setCell ⟨go12, (a1_0 : Int).toNat, none⟩ (.slice Ao73 y409.length co73)).heap[gb401]? = some (.cells #[.int .i64 ((rd_T62 (rd_L5 l0 a1_1) x47_1).f0), .int .i64 ((rd_T62 (rd_L5 l0 a1_1) x47_1).f1)] 62 (0, 0))) := ⟨by (with_reducible repeat (first | refine blk_drewN ?_ _ | refine blk_drew ?_ | refine blk_alloc ?_ _)); refine blk_far ?_ HNB401_go12.out _; (with_reducible repeat (first | refine blk_drewN ?_ _ | refine blk_drew ?_ | refine blk_alloc ?_ _)); exact BK401.out⟩
   have n6_ : Aside0 (Below w.heap.size w (w70.setCell ⟨go12, (a1_0 : Int).toNat, none⟩ (.slice Ao73 y409.length co73))) := ⟨by repeat (first | (with_reducible first | exact HB.out | apply below_alloc | apply pw_below_drewN | apply below_drew1 | refine below_set ?_ GB12.out | refine below_set ?_ GE382.out | refine below_set ?_ GE387.out | refine below_set ?_ GE390.out | refine below_set ?_ GE400.out | refine below_set ?_ GE401.out) | exact HB.out)⟩
   (try clear HO_9)
   (try clear BK382)
   (try clear BK387)
   (try clear BK390)
   (try clear BK400)
   (try clear BK401)
   (try clear HB)
   generalize (w70.setCell ⟨go12, (a1_0 : Int).toNat, none⟩ (.slice Ao73 y409.length co73)) = w74 at n0_ n1_ n2_ n3_ n4_ n5_ n6_ ⊢
   have HO_9 := n0_
   have BK382 := n1_
   have BK387 := n2_
   have BK390 := n3_
   have BK400 := n4_
   have BK401 := n5_
   have HB := n6_
   clear n0_ n1_ n2_ n3_ n4_ n5_ n6_
   replace HO_9 := ak (Kd.S_drew HO_9.out)
   replace BK382 := kd BK382
   replace BK387 := kd BK387
   replace BK390 := kd BK390
   replace BK400 := kd BK400
   replace BK401 := kd BK401
   replace HB := ak (below_drew1 HB.out)
   have p413 : 0 ≤ (a1_1 : Int) := dA
   have q413 : a1_1 < (y412.length : Int) := (by have h_ : (a1_1 : Int) < ((x9_1.length : Int) : Int) := dA; first | (have e_ := (Kd.S_reads' HO_9.out).1; omega) | simpa only [Ny412.out, List.length_set] using h_)
   have ql413 : ((a1_1 : Int) < ((x9_1.length : Int) : Int)) = True := eq_true (dA)
   have HLb : (rd_L5 y412 a1_1).length ≠ l0.length := by have h1_ := after_invb HINV.out Ny412.out HNE.out (dA) (dA) (dA); have h2_ : x47_1 < (l0.length : Int) := (dA); omega
   obtain ⟨ad413, A413_0, c413_0, e413, hx413_0, hl413_0, hi413_0⟩ := at_hy (Kd.S_reads' HO_9.out).2.2 a1_1 p413 q413 HLb
   obtain rfl : (⟨go12, 0, none⟩ : Addr) = ad413 := (by injection e413)
   obtain ⟨ce413, hce413, hMe413, hcc413⟩ := Kd.S_get HO_9.out [] a1_1 p413 (by first | exact q413 | exact dA | (have e_ := (Kd.S_reads' HO_9.out).1; omega))
   obtain ⟨ve413_0, rfl, ge413_0⟩ := hy_M hMe413 HLb
   have hv413_0 := hcc413 0 _ rfl
   rw [Nat.add_zero, show ((hyF l0.length (Qh w b0))).sz = 1 from rfl, Nat.mul_one] at hv413_0
   replace hv413_0 := Option.some.inj (hv413_0.symm.trans hx413_0)
   rw [hv413_0] at ge413_0
   have HL413_0 := ak (show Kd.R k62 62 _ _ _ _ (rd_L5 y412 a1_1) from ge413_0)
   clear hv413_0 ge413_0
   have HX413_0 := Aside0.mk hx413_0
   clear hcc413 hce413
   (first | simp only [add_plain] at hx413_0 | simp only [add_at] at hx413_0 | simp only [Addr.add, Nat.zero_add] at hx413_0 | skip)
   have HR413_0 := Aside0.mk hi413_0
   have HC413_0 := Aside0.mk hl413_0
   clear hi413_0 hl413_0
   replace p413 := eq_true p413
   replace q413 := eq_true q413
   refine sS (n := 19) (S := fun w' => w'.cell? ⟨gb382, 0, none⟩ = some (.int .i64 a1_0) ∧ w'.cell? ⟨gb382, 1, none⟩ = some (.int .i64 a1_1) ∧ w'.cell? ⟨gb382, 2, none⟩ = some (.int .i64 a1_2) ∧ w'.cell? ⟨gb387, 0, none⟩ = some (.int .i64 t385) ∧ w'.cell? ⟨gb387, 1, none⟩ = some (.int .i64 t386) ∧ w'.cell? ⟨gb400, 0, none⟩ = some (.int .i64 ((rd_T62 (rd_L5 l0 a1_0) x47_1).f0)) ∧ w'.cell? ⟨gb400, 1, none⟩ = some (.int .i64 ((rd_T62 (rd_L5 l0 a1_0) x47_1).f1)) ∧ w'.cell? ⟨gb390, 0, none⟩ = some (.int .i64 t388) ∧ w'.cell? ⟨gb390, 1, none⟩ = some (.int .i64 t389) ∧ w'.cell? ⟨gb401, 0, none⟩ = some (.int .i64 ((rd_T62 (rd_L5 l0 a1_1) x47_1).f0)) ∧ w'.cell? ⟨gb401, 1, none⟩ = some (.int .i64 ((rd_T62 (rd_L5 l0 a1_1) x47_1).f1)) ∧ w'.cell? ⟨go12, (a1_1).toNat, none⟩ = some (.slice A413_0 (rd_L5 y412 a1_1).length c413_0)) (ds := [18]) ⟨bc BK382 0, bc BK382 1, bc BK382 2, bc BK387 0, bc BK387 1, bc BK400 0, bc BK400 1, bc BK390 0, bc BK390 1, bc BK401 0, bc BK401 1, hx413_0⟩ (fun hHeld => ?_); refine with_tabW shares_mixture_after.tab10 shares_mixture_after.bits10 (fun HT_ HW_ => ?_)
   generalize w74.drew = w75 at HO_9 BK382 BK387 BK390 BK400 BK401 HB HL413_0 HQ71 HR413_0 HX413_0 hx413_0 hHeld ⊢
   refine pS 0 84 19 1 ?_
   refine pS 1 85 19 3 ?_
   refine pS 3 87 19 11 ?_
   refine pS 4 88 19 27 ?_
   refine tS 2 86 19 31 ?_
   refine tS 5 89 19 63 ?_
   refine pS 6 90 19 127 ?_
   refine tS 7 91 19 255 ?_
   refine tS 8 92 19 511 ?_
   refine tS 9 93 19 1023 ?_
   refine tS 11 95 19 3071 ?_
   refine tS 12 96 19 7167 ?_
   refine one_ (i := 10) (N := some 94) (ba 19 8191) rfl rfl (one_of HT_.out (by kernel_rfl)) (by decide) (fun K hK => ?_)
   refine gC Try.func118 #[.agg #[.int .i64 t385, .int .i64 t386], .agg #[.int .i64 ((rd_T62 (rd_L5 l0 a1_0) x47_1).f0), .int .i64 ((rd_T62 (rd_L5 l0 a1_0) x47_1).f1)]] ?_
   with_reducible refine (shares_times.calls k1 t385 t386 ((rd_T62 (rd_L5 l0 a1_0) x47_1).f0) ((rd_T62 (rd_L5 l0 a1_0) x47_1).f1) t414 t415 _ A51.out).mono ?_
   rintro e w76 ⟨rfl, hb⟩
   have HS11_ := (hb.cell (World.block_lt_of_cell? _ _ (hHeld.2.2.2.2.2.2.2.2.2.2.2))).trans (hHeld.2.2.2.2.2.2.2.2.2.2.2)
   refine ⟨_, rfl, ?_⟩
   replace HO_9 := ak (Kd.S_below (by (with_reducible repeat (first | apply Kd.S_alloc | apply Kd.S_drewN | apply Kd.S_drew)); exact HO_9.out) hb)
   replace HL413_0 := ak (Kd.R_below (rD (HL413_0.out)) hb)
   replace BK382 := kB BK382 hb
   replace BK387 := kB BK387 hb
   replace BK390 := kB BK390 hb
   replace BK400 := kB BK400 hb
   replace BK401 := kB BK401 hb
   replace HR413_0 := ak (Kd.C_below (by repeat (first | (with_reducible exact HR413_0.out) | (with_reducible refine Kd.C_alloc ?_ _) | (with_reducible refine Kd.C_drewN ?_ _) | (with_reducible refine Kd.C_drew ?_) | exact HR413_0.out)) hb)
   replace HX413_0 := ak (pw_cell_below hb HX413_0.out)
   replace HB := kH _ hb
   (try clear hb)
   (try clear hb2)
   (try clear hk)
   (try clear hi)
   refine hK.out _ _ ⟨bc BK382 0, bc BK382 1, bc BK382 2, bc BK387 0, bc BK387 1, bc BK400 0, bc BK400 1, bc BK390 0, bc BK390 1, bc BK401 0, bc BK401 1, HS11_⟩ (fun hHeld => ?_)
   clear hK K
   refine norm_ (a' := ?_) ?_ ?_
   rotate_left
   ·show Act.put _ (some 94) _ = _
    simp only [Act.put, List.setIfInBounds_toArray, List.set_cons_zero, List.set_cons_succ, i64_w, i32_w]
    rfl
   refine one_ (i := 13) (N := some 97) (ba 19 16383) rfl rfl (one_of HT_.out (by kernel_rfl)) (by decide) (fun K hK => ?_)
   refine gC Try.func118 #[.agg #[.int .i64 t388, .int .i64 t389], .agg #[.int .i64 ((rd_T62 (rd_L5 l0 a1_1) x47_1).f0), .int .i64 ((rd_T62 (rd_L5 l0 a1_1) x47_1).f1)]] ?_
   with_reducible refine (shares_times.calls k1 t388 t389 ((rd_T62 (rd_L5 l0 a1_1) x47_1).f0) ((rd_T62 (rd_L5 l0 a1_1) x47_1).f1) t416 t417 _ A52.out).mono ?_
   rintro e w77 ⟨rfl, hb⟩
   have HS11_ := (hb.cell (World.block_lt_of_cell? _ _ (hHeld.2.2.2.2.2.2.2.2.2.2.2))).trans (hHeld.2.2.2.2.2.2.2.2.2.2.2)
   refine ⟨_, rfl, ?_⟩
   replace HO_9 := ak (Kd.S_below (by (with_reducible repeat (first | apply Kd.S_alloc | apply Kd.S_drewN | apply Kd.S_drew)); exact HO_9.out) hb)
   replace HL413_0 := ak (Kd.R_below (rD (HL413_0.out)) hb)
   replace BK382 := kB BK382 hb
   replace BK387 := kB BK387 hb
   replace BK390 := kB BK390 hb
   replace BK400 := kB BK400 hb
   replace BK401 := kB BK401 hb
   replace HR413_0 := ak (Kd.C_below (by repeat (first | (with_reducible exact HR413_0.out) | (with_reducible refine Kd.C_alloc ?_ _) | (with_reducible refine Kd.C_drewN ?_ _) | (with_reducible refine Kd.C_drew ?_) | exact HR413_0.out)) hb)
   replace HX413_0 := ak (pw_cell_below hb HX413_0.out)
   replace HB := kH _ hb
   (try clear hb)
   (try clear hb2)
   (try clear hk)
   (try clear hi)
   refine hK.out _ _ ⟨bc BK382 0, bc BK382 1, bc BK382 2, bc BK387 0, bc BK387 1, bc BK400 0, bc BK400 1, bc BK390 0, bc BK390 1, bc BK401 0, bc BK401 1, HS11_⟩ (fun hHeld => ?_)
   clear hK K
   refine norm_ (a' := ?_) ?_ ?_
   rotate_left
   ·show Act.put _ (some 97) _ = _
    simp only [Act.put, List.setIfInBounds_toArray, List.set_cons_zero, List.set_cons_succ, i64_w, i32_w]
    rfl
   refine one_ (i := 14) (N := some 98) (ba 19 32767) rfl rfl (one_of HT_.out (by kernel_rfl)) (by decide) (fun K hK => ?_)
   refine gC Try.func117 #[.agg #[.int .i64 t414, .int .i64 t415], .agg #[.int .i64 t416, .int .i64 t417]] ?_
   with_reducible refine (shares_plus.calls k1 t414 t415 t416 t417 t418 t419 _ A53.out).mono ?_
   rintro e w78 ⟨rfl, hb⟩
   have HS11_ := (hb.cell (World.block_lt_of_cell? _ _ (hHeld.2.2.2.2.2.2.2.2.2.2.2))).trans (hHeld.2.2.2.2.2.2.2.2.2.2.2)
   refine ⟨_, rfl, ?_⟩
   replace HO_9 := ak (Kd.S_below (by (with_reducible repeat (first | apply Kd.S_alloc | apply Kd.S_drewN | apply Kd.S_drew)); exact HO_9.out) hb)
   replace HL413_0 := ak (Kd.R_below (rD (HL413_0.out)) hb)
   replace BK382 := kB BK382 hb
   replace BK387 := kB BK387 hb
   replace BK390 := kB BK390 hb
   replace BK400 := kB BK400 hb
   replace BK401 := kB BK401 hb
   replace HR413_0 := ak (Kd.C_below (by repeat (first | (with_reducible exact HR413_0.out) | (with_reducible refine Kd.C_alloc ?_ _) | (with_reducible refine Kd.C_drewN ?_ _) | (with_reducible refine Kd.C_drew ?_) | exact HR413_0.out)) hb)
   replace HX413_0 := ak (pw_cell_below hb HX413_0.out)
   replace HB := kH _ hb
   (try clear hb)
   (try clear hb2)
   (try clear hk)
   (try clear hi)
   obtain ⟨oki79, ce79, hcl79, hM79, hcc79, _, _, hH79⟩ := Kd.S_elem HO_9.out [] (a1_1 : Int) (dA) (by have h_ : (a1_1 : Int) < ((x9_1.length : Int) : Int) := dA; first | exact h_ | (have e_ := (Kd.S_reads' HO_9.out).1; omega) | simpa using h_)
   obtain ⟨ve79_0, rfl, ge79_0⟩ := hy_M hM79 HLb
   have hv79 := hcc79 0 _ rfl
   have hX79 := HX413_0.out
   (try simp only [add_plain] at hX79)
   (try simp only [Nat.add_zero] at hv79)
   (try rw [show ((hyF l0.length (Qh w b0))).sz = 1 from rfl, Nat.mul_one] at hv79)
   replace hv79 := Option.some.inj (hv79.symm.trans hX79)
   subst hv79
   clear hX79 hcc79 hcl79
   have UU79 := ak (show Kd.R k62 62 _ w.heap.size oki79 (.slice A413_0 (rd_L5 y412 a1_1).length c413_0) (rd_L5 y412 a1_1) from ge79_0)
   have HH79 := Aside0.mk hH79
   have HN79 := ak (Kd.S_reads' HO_9.out).1
   clear hH79 ge79_0
   refine hK.out _ _ ⟨bc BK382 0, bc BK382 1, bc BK382 2, bc BK387 0, bc BK387 1, bc BK400 0, bc BK400 1, bc BK390 0, bc BK390 1, bc BK401 0, bc BK401 1, HS11_⟩ (fun hHeld => ?_)
   clear hK K
   refine norm_ (a' := ?_) ?_ ?_
   rotate_left
   ·show Act.put _ (some 98) _ = _
    simp only [Act.put, List.setIfInBounds_toArray, List.set_cons_zero, List.set_cons_succ, i64_w, i32_w]
    rfl
   refine one_ (i := 15) (N := some 99) (ba 19 65535) rfl rfl (one_of HT_.out (by kernel_rfl)) (by decide) (fun K hK => ?_)
   refine value_ (w1 := ?_) (v := ?_) (by rfl) rfl ?_ ?_
   rotate_left 2
   ·go_simp
    constructor
    ·rfl
    ·rfl
   refine hK.out _ _ ⟨(blk_cell (blk_alloc BK382.out _) 0).trans rfl, (blk_cell (blk_alloc BK382.out _) 1).trans rfl, (blk_cell (blk_alloc BK382.out _) 2).trans rfl, (blk_cell (blk_alloc BK387.out _) 0).trans rfl, (blk_cell (blk_alloc BK387.out _) 1).trans rfl, (blk_cell (blk_alloc BK400.out _) 0).trans rfl, (blk_cell (blk_alloc BK400.out _) 1).trans rfl, (blk_cell (blk_alloc BK390.out _) 0).trans rfl, (blk_cell (blk_alloc BK390.out _) 1).trans rfl, (blk_cell (blk_alloc BK401.out _) 0).trans rfl, (blk_cell (blk_alloc BK401.out _) 1).trans rfl, (World.cell?_alloc_lt _ _ _ (World.block_lt_of_cell? _ _ (hHeld.2.2.2.2.2.2.2.2.2.2.2))).trans (hHeld.2.2.2.2.2.2.2.2.2.2.2)⟩ (fun hHeld => ?_)
   clear hK K
   refine norm_ (a' := ?_) ?_ ?_
   rotate_left
   ·show Act.put _ (some 99) _ = _
    simp only [Act.put, List.setIfInBounds_toArray, List.set_cons_zero, List.set_cons_succ, i64_w, i32_w]
    rfl
   refine one_ (i := 16) (N := some 100) (ba 19 131071) rfl rfl (one_of HT_.out (by kernel_rfl)) (by decide) (fun K hK => ?_)
   refine Kd.R_append_step k62 (w0 := w) w.heap.size (by rfl) (.tmp 91) (.tmp 99) 52 62 (.agg #[(.int .i64 0), (.int .i64 0)]) 16 rfl Try.underlying52 info62 rfl (by decide) (by omega) (.slice A413_0 (rd_L5 y412 a1_1).length c413_0) (rd_L5 y412 a1_1) (⟨t418, t419⟩ : S62) [.int .i64 t418, .int .i64 t419] (fun k_ => oki79 k_ ∨ ((fun k_ => k_ ≠ gb387 ∧ k_ ≠ gb390 ∧ k_ ≠ gb400 ∧ k_ ≠ gb401)) k_ ∧ w78.heap.size ≤ k_) (fun _ => False) rfl rfl ?aP (fun _ hk => hk.elim) ?aF ?aO ?aB ?aS ?aL ?_
   (case aP => exact k62_mkM _ _ _ (⟨t418, t419⟩ : S62))
   (case aB => exact (hbC _))
   (case aF => exact (fun k_ hk => .inr ⟨⟨Kd.freshB (g := gb387) (o := .cells #[.int .i64 t385, .int .i64 t386] 62 (0, 0)) (bkC BK387) k_ hk, Kd.freshB (g := gb390) (o := .cells #[.int .i64 t388, .int .i64 t389] 62 (0, 0)) (bkC BK390) k_ hk, Kd.freshB (g := gb400) (o := .cells #[.int .i64 ((rd_T62 (rd_L5 l0 a1_0) x47_1).f0), .int .i64 ((rd_T62 (rd_L5 l0 a1_0) x47_1).f1)] 62 (0, 0)) (bkC BK400) k_ hk, Kd.freshB (g := gb401) (o := .cells #[.int .i64 ((rd_T62 (rd_L5 l0 a1_1) x47_1).f0), .int .i64 ((rd_T62 (rd_L5 l0 a1_1) x47_1).f1)] 62 (0, 0)) (bkC BK401) k_ hk⟩, hk⟩))
   (case aO => exact (rD (Kd.R_mono UU79.out (fun _ hk => .inl hk))))
   (case aS => exact (below_size (hbC _)))
   (case aL => have := LMc54.out; omega)
   intro v421 w80 ho hb hg hat
   (first | have HS11_ := cell_grown hg (hHeld.2.2.2.2.2.2.2.2.2.2.2) (by first | (rw [add_block]; exact (fun e_ => ((HL413_0.out.1 _ e_.symm).2) rfl)) | (show some (Addr.add _ _).block ≠ _; rw [add_block]; exact (fun e_ => ((HL413_0.out.1 _ e_.symm).2) rfl)) | exact (fun e_ => ((HL413_0.out.1 _ e_.symm).2) rfl)) | have HS11_ := cell_grown hg (cell_unalloc (hHeld.2.2.2.2.2.2.2.2.2.2.2) (by first | (rw [add_block]; exact Kd.S_lt HO_9.out _ rfl) | (show (Addr.add _ _).block < _; rw [add_block]; exact Kd.S_lt HO_9.out _ rfl) | exact Kd.S_lt HO_9.out _ rfl)) (by first | (rw [add_block]; exact (fun e_ => ((HL413_0.out.1 _ e_.symm).2) rfl)) | (show some (Addr.add _ _).block ≠ _; rw [add_block]; exact (fun e_ => ((HL413_0.out.1 _ e_.symm).2) rfl)) | exact (fun e_ => ((HL413_0.out.1 _ e_.symm).2) rfl)))
   rw [← Ny420.out] at ho
   have n0_ := ak (blk_grown (g := gb382) (o := .cells #[.int .i64 a1_0, .int .i64 a1_1, .int .i64 a1_2] 77 (0, 0)) (bkC BK382) hg (Kd.R_ne HL413_0.out BK382.out (by decide)))
   have n1_ := ak (blk_grown (g := gb387) (o := .cells #[.int .i64 t385, .int .i64 t386] 62 (0, 0)) (bkC BK387) hg (Kd.R_away HL413_0.out (fun _ hk => hk.1.1)))
   have n2_ := ak (blk_grown (g := gb390) (o := .cells #[.int .i64 t388, .int .i64 t389] 62 (0, 0)) (bkC BK390) hg (Kd.R_away HL413_0.out (fun _ hk => hk.1.2.1)))
   have n3_ := ak (blk_grown (g := gb400) (o := .cells #[.int .i64 ((rd_T62 (rd_L5 l0 a1_0) x47_1).f0), .int .i64 ((rd_T62 (rd_L5 l0 a1_0) x47_1).f1)] 62 (0, 0)) (bkC BK400) hg (Kd.R_away HL413_0.out (fun _ hk => hk.1.2.2.1)))
   have n4_ := ak (blk_grown (g := gb401) (o := .cells #[.int .i64 ((rd_T62 (rd_L5 l0 a1_1) x47_1).f0), .int .i64 ((rd_T62 (rd_L5 l0 a1_1) x47_1).f1)] 62 (0, 0)) (bkC BK401) hg (Kd.R_away HL413_0.out (fun _ hk => hk.1.2.2.2)))
   have n5_ := ak (hb)
   have n6_ := ak (Kd.H_grown (Kd.H_widen (by repeat (first | exact HH79.out | refine Kd.H_alloc ?_ _ | refine Kd.H_drewN ?_ _ | refine Kd.H_drew ?_))) hg (fun k_ e_ => .inl (UU79.out.1 k_ e_)))
   have n7_ := ak (ho)
   clear BK382
   clear BK387
   clear BK390
   clear BK400
   clear BK401
   clear HB
   clear HH79
   clear HO_9
   clear UU79
   clear HL413_0
   have BK382 := n0_
   have BK387 := n1_
   have BK390 := n2_
   have BK400 := n3_
   have BK401 := n4_
   have HB := n5_
   have HH79 := n6_
   have HO422 := n7_
   clear n0_ n1_ n2_ n3_ n4_ n5_ n6_ n7_
   clear ho hb hg hat
   have p55 : 0 ≤ (a1_1 : Int) := dA
   have q55 : (a1_1 : Int) < ((x9_1.length : Int) : Int) := dA
   replace p55 := eq_true p55
   replace q55 := eq_true q55
   obtain ⟨Ao83, co83, eo83⟩ := Kd.R_slice HO422.out
   (first | subst eo83 | (injection eo83 with f1_ f2_ f3_; have f4_ := f1_.symm; have f5_ := f3_.symm; clear f1_ f2_ f3_; subst f4_; subst f5_))
   obtain ⟨_, _, hraw81, _, _, hcc81, _⟩ := Kd.H_raw HH79.out (dA) (by have h_ : (a1_1 : Int) < ((x9_1.length : Int) : Int) := dA; first | exact h_ | (have e_ := (HN79.out); omega) | simpa using h_)
   obtain ⟨_, hfr81⟩ := Kd.H_at HH79.out (dA) (by have h_ : (a1_1 : Int) < ((x9_1.length : Int) : Int) := dA; first | exact h_ | (have e_ := (HN79.out); omega) | simpa using h_)
   have hx81_0 := hcc81 0 _ rfl
   have hf81_0 := hfr81 0
   (try simp only [Nat.add_zero] at hx81_0 hf81_0)
   (try rw [show ((hyF l0.length (Qh w b0))).sz = 1 from rfl, Nat.mul_one] at hx81_0)
   (try rw [show ((hyF l0.length (Qh w b0))).sz = 1 from rfl, Nat.mul_one] at hf81_0)
   have HP81 := Kd.S_seg0 HH79.out (dA) (by have h_ : (a1_1 : Int) < ((x9_1.length : Int) : Int) := dA; first | exact h_ | (have e_ := (HN79.out); omega) | simpa using h_) (seg := [.slice Ao83 y420.length co83]) (j := 0) (show 1 ≤ 1 from by decide) (x' := y420) (Or.inl (Kd.M_row HO422.out)) (fun _ hk => hk)
   (try simp only [show ((hyF l0.length (Qh w b0))).sz = 1 from rfl, Nat.mul_one, Nat.add_zero] at HP81)
   clear hcc81 hfr81
   have HNB382_go12 := ak (show gb382 ≠ go12 from by have h_ := Kd.R_ne hraw81 BK382.out (by decide); intro e_; exact h_ (by rw [e_]; rfl))
   have HNB387_go12 := ak (show gb387 ≠ go12 from by have h_ := Kd.R_ne hraw81 BK387.out (by decide); intro e_; exact h_ (by rw [e_]; rfl))
   have HNB390_go12 := ak (show gb390 ≠ go12 from by have h_ := Kd.R_ne hraw81 BK390.out (by decide); intro e_; exact h_ (by rw [e_]; rfl))
   have HNB400_go12 := ak (show gb400 ≠ go12 from by have h_ := Kd.R_ne hraw81 BK400.out (by decide); intro e_; exact h_ (by rw [e_]; rfl))
   have HNB401_go12 := ak (show gb401 ≠ go12 from by have h_ := Kd.R_ne hraw81 BK401.out (by decide); intro e_; exact h_ (by rw [e_]; rfl))
   have HS81 := HP81.1
   rw [← Ny423.out] at HS81
   have HQ81 := Aside0.mk HS81
   obtain ⟨_, hgg81⟩ := Kd.R_typed hraw81 go12 rfl
   have GG81_ := Aside0.mk hgg81
   clear HP81 HS81 hgg81
   refine hK.out _ _ ⟨bc BK382 0, bc BK382 1, bc BK382 2, bc BK387 0, bc BK387 1, bc BK400 0, bc BK400 1, bc BK390 0, bc BK390 1, bc BK401 0, bc BK401 1, HS11_⟩ (fun hHeld => ?_)
   clear hK K
   refine norm_ (a' := ?_) ?_ ?_
   rotate_left
   ·show Act.put _ (some 100) _ = _
    simp only [Act.put, List.setIfInBounds_toArray, List.set_cons_zero, List.set_cons_succ, i64_w, i32_w]
    rfl
   refine pS 17 101 19 262143 ?_
   refine last_ (i := 18) (N := none) (ba 19 524287) rfl rfl (one_of HT_.out (by kernel_rfl)) (by decide) (fun K hK => ?_)
   refine skip_ (w1 := ?_) (by rfl) rfl ?_ ?_
   rotate_left
   ·go_simp
    rfl
   refine hK.out _ _ ?_
   clear hK K
   refine done_ (done_of HT_.out (by kernel_rfl)) ?_
   try go_wp2
   (try simp only [← hl9_1])
   go_roundg k1
   case measure => have := HK1.out; omega
   case rel => exact ⟨(y423), (wrap64 (x47_1 + 1)), (by first | rfl | (simp; done) | (simp [*]; done)), H', ⟨by have := HK1.out; omega⟩, ⟨after_inv1 HINV.out (L := l0.length) (dA) HLE.out Ny409.out Ny412.out Ny420.out Ny423.out HNE.out (dA) (dA) (dA) (dA)⟩, ⟨by (try simp only [hl9_1]); (with_reducible repeat (first | apply Kd.S_alloc | apply Kd.S_drewN | apply Kd.S_drew)); exact Kd.S_mono HQ81.out (fun _ hk => ⟨hk.1, hk.2.1⟩)⟩, ⟨by (try simp only [hl9_1]); (with_reducible repeat (first | refine blk_drewN ?_ _ | refine blk_drew ?_ | refine blk_alloc ?_ _)); refine blk_far ?_ HNB382_go12.out _; (with_reducible repeat (first | refine blk_drewN ?_ _ | refine blk_drew ?_ | refine blk_alloc ?_ _)); exact BK382.out⟩, ⟨by (try simp only [hl9_1]); (with_reducible repeat (first | refine blk_drewN ?_ _ | refine blk_drew ?_ | refine blk_alloc ?_ _)); refine blk_far ?_ HNB387_go12.out _; (with_reducible repeat (first | refine blk_drewN ?_ _ | refine blk_drew ?_ | refine blk_alloc ?_ _)); exact BK387.out⟩, ⟨by (try simp only [hl9_1]); (with_reducible repeat (first | refine blk_drewN ?_ _ | refine blk_drew ?_ | refine blk_alloc ?_ _)); refine blk_far ?_ HNB390_go12.out _; (with_reducible repeat (first | refine blk_drewN ?_ _ | refine blk_drew ?_ | refine blk_alloc ?_ _)); exact BK390.out⟩, ⟨by repeat (first | (with_reducible first | exact HB.out | apply below_alloc | apply pw_below_drewN | apply below_drew1 | refine below_set ?_ GB12.out | refine below_set ?_ GE382.out | refine below_set ?_ GE387.out | refine below_set ?_ GE390.out | refine below_set ?_ GE400.out | refine below_set ?_ GE401.out) | exact HB.out)⟩⟩

end Go.Proofs.Ytefmafbbnkkpjaa.X
