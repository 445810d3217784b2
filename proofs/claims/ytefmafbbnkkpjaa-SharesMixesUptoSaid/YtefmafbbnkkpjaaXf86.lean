-- Written by a program of this work (wip/xprint.py, over the kit's printer) out of the translation.
import Derived.Test.YtefmafbbnkkpjaaX0
import Derived.Test.YtefmafbbnkkpjaaXG1a
import Derived.Test.YtefmafbbnkkpjaaXG2a
namespace Go.Proofs.Ytefmafbbnkkpjaa.X
open Go.RowKit Go.Proofs.YtefmafbbnkkpjaaW.PrintWords Go.Proofs.YtefmafbbnkkpjaaW.PrintLast Go.Proofs.YtefmafbbnkkpjaaW.PrintMore
attribute [local go_sem] max2_int min2_int max_two min_two max_three min_three max_four min_four   -- for this text's walks alone
set_option linter.unusedVariables false
set_option linter.unusedSimpArgs false

/-! ### shares_mixture_multiple: function 86 -/
mutual
def shares_mixture_multiple.l0 : Nat → Int → Int → List (List (S62)) → Int → Int → Option (Int × Bool)
 | 0, _, _, _, _, _ => none
 | k + 1, x1, x4, x10, x11, x12 => if x12 < x11 then (if 0 ≤ x12 then (if x12 < (x10.length : Int) then (shares_mixture_multiple.l1 k x1 x4 x10 x11 x12 (rd_L5 x10 x12) ((rd_L5 x10 x12).length : Int) 0) else (none)) else (none)) else (some (x4, true))
def shares_mixture_multiple.l1 : Nat → Int → Int → List (List (S62)) → Int → Int → List (S62) → Int → Int → Option (Int × Bool)
 | 0, _, _, _, _, _, _, _, _ => none
 | k + 1, x1, x4, x10, x11, x12, x16, x17, x18 => if x18 < x17 then (if 0 ≤ x18 then (if x18 < (x16.length : Int) then ((shares_isFrac.f k ((rd_T62 x16 x18).f0) ((rd_T62 x16 x18).f1)).bind fun t997 => (if t997 = true then (shares_mixture_multiple.j2 k x1 x4 x10 x11 x12 x16 x17 x18 (decide (((rd_T62 x16 x18).f1) > x1)) ((rd_T62 x16 x18).f0) ((rd_T62 x16 x18).f1)) else (shares_mixture_multiple.j2 k x1 x4 x10 x11 x12 x16 x17 x18 true ((rd_T62 x16 x18).f0) ((rd_T62 x16 x18).f1)))) else (none)) else (none)) else (shares_mixture_multiple.l0 k x1 x4 x10 x11 (wrap64 (x12 + 1)))
def shares_mixture_multiple.j2 : Nat → Int → Int → List (List (S62)) → Int → Int → List (S62) → Int → Int → Bool → Int → Int → Option (Int × Bool)
 | 0, _, _, _, _, _, _, _, _, _, _, _ => none
 | k + 1, x1, x4, x10, x11, x12, x16, x17, x18, x30, x997000, x997001 => if x30 = true then (some (0, false)) else ((shares_gcd.f k x4 x997001).bind fun t998 => (if t998 = 0 then (none) else (if (wrap64 ((wrap64 (Int.tdiv x4 t998)) * x997001)) > x1 then (some (0, false)) else (shares_mixture_multiple.l1 k x1 (wrap64 ((wrap64 (Int.tdiv x4 t998)) * x997001)) x10 x11 x12 x16 x17 (wrap64 (x18 + 1))))))
end
def shares_mixture_multiple.f (k : Nat) (l0 : List (List (S62))) (a1 : Int) : Option (Int × Bool) := shares_mixture_multiple.l0 k a1 1 l0 (l0.length : Int) 0
theorem shares_mixture_multiple.mono_l : ∀ k, (∀ y0 y1 y2 y3 y4, LeO (shares_mixture_multiple.l0 k y0 y1 y2 y3 y4) (shares_mixture_multiple.l0 (k + 1) y0 y1 y2 y3 y4)) ∧ (∀ y0 y1 y2 y3 y4 y5 y6 y7, LeO (shares_mixture_multiple.l1 k y0 y1 y2 y3 y4 y5 y6 y7) (shares_mixture_multiple.l1 (k + 1) y0 y1 y2 y3 y4 y5 y6 y7)) ∧ (∀ y0 y1 y2 y3 y4 y5 y6 y7 y8 y9 y10, LeO (shares_mixture_multiple.j2 k y0 y1 y2 y3 y4 y5 y6 y7 y8 y9 y10) (shares_mixture_multiple.j2 (k + 1) y0 y1 y2 y3 y4 y5 y6 y7 y8 y9 y10))
 | 0 => ⟨fun _ _ _ _ _ r h => by simp [shares_mixture_multiple.l0] at h, fun _ _ _ _ _ _ _ _ r h => by simp [shares_mixture_multiple.l1] at h, fun _ _ _ _ _ _ _ _ _ _ _ r h => by simp [shares_mixture_multiple.j2] at h⟩
 | k + 1 => by
  obtain ⟨ih0, ih1, ih2⟩ := shares_mixture_multiple.mono_l k
  refine ⟨?_, ?_, ?_⟩
  ·intro y0 y1 y2 y3 y4
   unfold shares_mixture_multiple.l0
   repeat' first
   | (with_reducible exact ih0 _ _ _ _ _)
   | (with_reducible exact ih1 _ _ _ _ _ _ _ _)
   | (with_reducible exact ih2 _ _ _ _ _ _ _ _ _ _ _)
   | (with_reducible exact shares_gcd.mono _ _ _)
   | (with_reducible exact shares_isFrac.mono _ _ _)
   | (with_reducible exact LeO.refl _)
   | (with_reducible exact LeO.none _)
   | (with_reducible refine LeO.ite ?_ ?_)
   | (with_reducible refine LeO.bind ?_ (fun _ => ?_))
   | exact ih0 _ _ _ _ _
   | exact ih1 _ _ _ _ _ _ _ _
   | exact ih2 _ _ _ _ _ _ _ _ _ _ _
   | exact shares_gcd.mono _ _ _
   | exact shares_isFrac.mono _ _ _
   | exact LeO.none _
   | refine LeO.ite ?_ ?_
   | refine LeO.bind ?_ (fun _ => ?_)
  ·intro y0 y1 y2 y3 y4 y5 y6 y7
   unfold shares_mixture_multiple.l1
   repeat' first
   | (with_reducible exact ih0 _ _ _ _ _)
   | (with_reducible exact ih1 _ _ _ _ _ _ _ _)
   | (with_reducible exact ih2 _ _ _ _ _ _ _ _ _ _ _)
   | (with_reducible exact shares_gcd.mono _ _ _)
   | (with_reducible exact shares_isFrac.mono _ _ _)
   | (with_reducible exact LeO.refl _)
   | (with_reducible exact LeO.none _)
   | (with_reducible refine LeO.ite ?_ ?_)
   | (with_reducible refine LeO.bind ?_ (fun _ => ?_))
   | exact ih0 _ _ _ _ _
   | exact ih1 _ _ _ _ _ _ _ _
   | exact ih2 _ _ _ _ _ _ _ _ _ _ _
   | exact shares_gcd.mono _ _ _
   | exact shares_isFrac.mono _ _ _
   | exact LeO.none _
   | refine LeO.ite ?_ ?_
   | refine LeO.bind ?_ (fun _ => ?_)
  ·intro y0 y1 y2 y3 y4 y5 y6 y7 y8 y9 y10
   unfold shares_mixture_multiple.j2
   repeat' first
   | (with_reducible exact ih0 _ _ _ _ _)
   | (with_reducible exact ih1 _ _ _ _ _ _ _ _)
   | (with_reducible exact ih2 _ _ _ _ _ _ _ _ _ _ _)
   | (with_reducible exact shares_gcd.mono _ _ _)
   | (with_reducible exact shares_isFrac.mono _ _ _)
   | (with_reducible exact LeO.refl _)
   | (with_reducible exact LeO.none _)
   | (with_reducible refine LeO.ite ?_ ?_)
   | (with_reducible refine LeO.bind ?_ (fun _ => ?_))
   | exact ih0 _ _ _ _ _
   | exact ih1 _ _ _ _ _ _ _ _
   | exact ih2 _ _ _ _ _ _ _ _ _ _ _
   | exact shares_gcd.mono _ _ _
   | exact shares_isFrac.mono _ _ _
   | exact LeO.none _
   | refine LeO.ite ?_ ?_
   | refine LeO.bind ?_ (fun _ => ?_)
theorem shares_mixture_multiple.mono : ∀ a0 a1 k, LeO (shares_mixture_multiple.f k a0 a1) (shares_mixture_multiple.f (k + 1) a0 a1) := by
 intro a0 a1 k
 obtain ⟨ih0, ih1, ih2⟩ := shares_mixture_multiple.mono_l k
 unfold shares_mixture_multiple.f
 repeat' first
   | (with_reducible exact ih0 _ _ _ _ _)
   | (with_reducible exact ih1 _ _ _ _ _ _ _ _)
   | (with_reducible exact ih2 _ _ _ _ _ _ _ _ _ _ _)
   | (with_reducible exact shares_gcd.mono _ _ _)
   | (with_reducible exact shares_isFrac.mono _ _ _)
   | (with_reducible exact LeO.refl _)
   | (with_reducible exact LeO.none _)
   | (with_reducible refine LeO.ite ?_ ?_)
   | (with_reducible refine LeO.bind ?_ (fun _ => ?_))
   | exact ih0 _ _ _ _ _
   | exact ih1 _ _ _ _ _ _ _ _
   | exact ih2 _ _ _ _ _ _ _ _ _ _ _
   | exact shares_gcd.mono _ _ _
   | exact shares_isFrac.mono _ _ _
   | exact LeO.none _
   | refine LeO.ite ?_ ?_
   | refine LeO.bind ?_ (fun _ => ?_)
def shares_mixture_multiple.T10 : Bool × List (List Nat × List Nat) := (true, [([], []), ([], []), ([], []), ([2], [2]), ([1, 3], [1, 3]), ([0, 4], [0, 4]), ([], []), ([6], [6]), ([5, 7], [5, 7]), ([8, 4, 0, 1, 2, 3, 4, 5, 6, 7, 8], [0, 1, 8])])
def shares_mixture_multiple.B10 : List Nat := [0, 0, 0, 4, 14, 31, 0, 64, 255, 511]
theorem shares_mixture_multiple.tab10 : rtab .any (opsOf Try.f86 10) = shares_mixture_multiple.T10 := by kernel_rfl
theorem shares_mixture_multiple.bits10 : waitsOk shares_mixture_multiple.T10.2 shares_mixture_multiple.B10 = true := by kernel_rfl
set_option maxHeartbeats 8000000 in
set_option maxRecDepth 100000 in
theorem shares_mixture_multiple.calls (k : Nat) (A0 : Option Addr) (c0 : Nat) (l0 : List (List (S62))) (a1 : Int) (r1 : Int) (r2 : Bool) (w : World) (hr0 : Kd.C (Kd.slice 62 k62) w A0 l0.length l0) (hc0 : l0.length ≤ c0) (h : shares_mixture_multiple.f k l0 a1 = some (r1, r2)) :
  Calls Try.prog 86 #[.slice A0 l0.length c0, .int .i64 a1] w fun e w' => e = .returned (.tuple #[.int .i64 r1, .bool r2]) ∧ Below w.heap.size w w' := by
 have hu62 := Try.underlying62
 have HR0 := Aside0.mk hr0
 have HC0 := Aside0.mk hc0
 clear hr0 hc0
 have HB := ak (Below.refl w.heap.size w)
 have H : (shares_mixture_multiple.l0 k a1 1 l0 (l0.length : Int) 0) = some (r1, r2) := h
 clear h
 have H' := Aside0.mk H
 clear H
 go_enter Try.func86, Try.ntmps86
 go_wp2
 go_loopg [4, 12] k (fun kq v4 v12 w' => ∃ (x4_1 : Int) (x12_1 : Int), v4 = .int .i64 x4_1 ∧ v12 = .int .i64 x12_1 ∧ Aside0 (shares_mixture_multiple.l0 kq a1 x4_1 l0 (l0.length : Int) x12_1 = some (r1, r2)) ∧ Aside0 (kq ≤ k) ∧ Aside0 (Below w.heap.size w w'))
 case atStart => exact ⟨(1), (0), (by first | rfl | (simp; done) | (simp [*]; done)), (by first | rfl | (simp; done) | (simp [*]; done)), H', ⟨Nat.le_refl _⟩, ⟨hbC _⟩⟩
 case round =>
  clear H'
  try clear p2
  obtain ⟨x4_1, x12_1, rfl, rfl, HA, HK1, HB⟩ := hrel
  cases gk with
  | zero => exact absurd HA.out (by simp [shares_mixture_multiple.l0])
  | succ k1 =>
   have H := HA.out
   clear HA
   simp only [shares_mixture_multiple.l0] at H
   by_cases c3 : x12_1 < (l0.length : Int)
   rotate_left
   ·rw [if_neg c3] at H
    have c3b0 : decide (x12_1 < (l0.length : Int)) = false := decide_eq_false c3
    clear c3
    simp only [Option.some.injEq, Prod.mk.injEq] at H
    obtain ⟨rfl, rfl⟩ := H
    go_wp2
    go_ret2
    exact ⟨by first | rfl | (simp [errW_none, errW_some] <;> rfl) | (simp [*, errW_none, errW_some] <;> rfl), hbC _⟩
   rw [if_pos c3] at H
   have c3b0 : decide (x12_1 < (l0.length : Int)) = true := decide_eq_true c3
   clear c3
   by_cases c4 : 0 ≤ x12_1
   rotate_left
   ·rw [if_neg c4] at H
    exact absurd H (by simp)
   rw [if_pos c4] at H
   have c4b0 : decide (0 ≤ x12_1) = true := decide_eq_true c4
   clear c4
   by_cases c5 : x12_1 < (l0.length : Int)
   rotate_left
   ·rw [if_neg c5] at H
    exact absurd H (by simp)
   rw [if_pos c5] at H
   have c5b0 : decide (x12_1 < (l0.length : Int)) = true := decide_eq_true c5
   clear c5
   have H' := Aside0.mk H
   clear H
   have p994 : 0 ≤ (x12_1 : Int) := dA
   have q994 : x12_1 < (l0.length : Int) := dA
   obtain ⟨ad994, A994_0, c994_0, e994, hx994_0, hl994_0, hi994_0⟩ := at_L5 HR0.out x12_1 p994 q994
   cases e994
   try replace hx994_0 := (HB.out.cell (World.block_lt_of_cell? w _ hx994_0)).trans hx994_0
   have HR994_0 := Aside0.mk hi994_0
   have HC994_0 := Aside0.mk hl994_0
   clear hi994_0 hl994_0
   replace p994 := eq_true p994
   replace q994 := eq_true q994
   go_wp2
   go_loopg [4, 18] k1 (fun kq v4 v18 w' => ∃ (x4_2 : Int) (x18_2 : Int), v4 = .int .i64 x4_2 ∧ v18 = .int .i64 x18_2 ∧ Aside0 (shares_mixture_multiple.l1 kq a1 x4_2 l0 (l0.length : Int) x12_1 (rd_L5 l0 x12_1) ((rd_L5 l0 x12_1).length : Int) x18_2 = some (r1, r2)) ∧ Aside0 (kq ≤ k1) ∧ Aside0 (Below w.heap.size w w'))
   case atStart => exact ⟨(x4_1), (0), (by first | rfl | (simp; done) | (simp [*]; done)), (by first | rfl | (simp; done) | (simp [*]; done)), H', ⟨Nat.le_refl _⟩, ⟨hbC _⟩⟩
   case round =>
    clear H'
    try clear p2
    try clear c3
    try clear c3b0
    try clear c4
    try clear c4b0
    try clear c5
    try clear c5b0
    try clear hx994_0
    try clear p2
    try clear p994
    try clear q994
    obtain ⟨x4_2, x18_2, rfl, rfl, HA, HK2, HB⟩ := hrel
    cases gk with
    | zero => exact absurd HA.out (by simp [shares_mixture_multiple.l1])
    | succ k2 =>
     have H := HA.out
     clear HA
     simp only [shares_mixture_multiple.l1] at H
     by_cases c6 : x18_2 < ((rd_L5 l0 x12_1).length : Int)
     rotate_left
     ·rw [if_neg c6] at H
      have c6b0 : decide (x18_2 < ((rd_L5 l0 x12_1).length : Int)) = false := decide_eq_false c6
      clear c6
      have H' := Aside0.mk H
      clear H
      go_wp2
      go_roundg k2
      case measure => have := HK1.out; have := HK2.out; omega
      case rel => exact ⟨(x4_2), (wrap64 (x12_1 + 1)), (by first | rfl | (simp; done) | (simp [*]; done)), (by first | rfl | (simp; done) | (simp [*]; done)), H', ⟨by have := HK1.out; have := HK2.out; omega⟩, ⟨hbC _⟩⟩
     rw [if_pos c6] at H
     have c6b0 : decide (x18_2 < ((rd_L5 l0 x12_1).length : Int)) = true := decide_eq_true c6
     clear c6
     by_cases c7 : 0 ≤ x18_2
     rotate_left
     ·rw [if_neg c7] at H
      exact absurd H (by simp)
     rw [if_pos c7] at H
     have c7b0 : decide (0 ≤ x18_2) = true := decide_eq_true c7
     clear c7
     by_cases c8 : x18_2 < ((rd_L5 l0 x12_1).length : Int)
     rotate_left
     ·rw [if_neg c8] at H
      exact absurd H (by simp)
     rw [if_pos c8] at H
     have c8b0 : decide (x18_2 < ((rd_L5 l0 x12_1).length : Int)) = true := decide_eq_true c8
     clear c8
     have HC9 := Aside0.mk H
     clear H
     have p995 : 0 ≤ (x18_2 : Int) := dA
     have q995 : x18_2 < ((rd_L5 l0 x12_1).length : Int) := dA
     obtain ⟨ad995, e995, hx995_0, hx995_1⟩ := at_T62 HR994_0.out x18_2 p995 q995
     cases e995
     try replace hx995_0 := (HB.out.cell (World.block_lt_of_cell? w _ hx995_0)).trans hx995_0
     try replace hx995_1 := (HB.out.cell (World.block_lt_of_cell? w _ hx995_1)).trans hx995_1
     replace p995 := eq_true p995
     replace q995 := eq_true q995
     go_upto_region 8 with (first | ((with_reducible refine gate_dst (N := 9) rfl ?_); refine bE 9 #[.int .i64 0, .int .i64 0] 62 ?_; intro gb996 hg w10 hbox hb; have BK996 := ak (hbox); have GW996 := kG w hg; have GE996 := kG w hg; replace HB := kH _ hb; clear hb hbox hg; have hcz11_0 : w10.cell? ⟨gb996, 0, none⟩ = some (.int .i64 0) := bc BK996 0; have hcz11_1 : w10.cell? ⟨gb996, 1, none⟩ = some (.int .i64 0) := bc BK996 1; have hfz11_0 := fz BK996 0; have hfz11_1 := fz BK996 1))
     (try simp only [Act.put, List.setIfInBounds_toArray, List.set_cons_zero, List.set_cons_succ])
     go_cut [30] (fun v30 wc => ∃ (kq : Nat) (x30_8 : Bool), v30 = .bool x30_8 ∧ Aside0 (shares_mixture_multiple.j2 kq a1 x4_2 l0 (l0.length : Int) x12_1 (rd_L5 l0 x12_1) ((rd_L5 l0 x12_1).length : Int) x18_2 x30_8 ((rd_T62 (rd_L5 l0 x12_1) x18_2).f0) ((rd_T62 (rd_L5 l0 x12_1) x18_2).f1) = some (r1, r2)) ∧ Aside0 (kq ≤ k2) ∧ Aside0 (wc.heap[gb996]? = some (.cells #[.int .i64 ((rd_T62 (rd_L5 l0 x12_1) x18_2).f0), .int .i64 ((rd_T62 (rd_L5 l0 x12_1) x18_2).f1)] 62 (0, 0))) ∧ Aside0 (Below w.heap.size w wc))
     case first =>
      have H := HC9.out
      clear HC9
      replace H := Option.bind_eq_some_iff.mp H
      obtain ⟨t997, A120, H⟩ := H
      replace H : (if t997 = true then (shares_mixture_multiple.j2 k2 a1 x4_2 l0 (l0.length : Int) x12_1 (rd_L5 l0 x12_1) ((rd_L5 l0 x12_1).length : Int) x18_2 (decide (((rd_T62 (rd_L5 l0 x12_1) x18_2).f1) > a1)) ((rd_T62 (rd_L5 l0 x12_1) x18_2).f0) ((rd_T62 (rd_L5 l0 x12_1) x18_2).f1)) else (shares_mixture_multiple.j2 k2 a1 x4_2 l0 (l0.length : Int) x12_1 (rd_L5 l0 x12_1) ((rd_L5 l0 x12_1).length : Int) x18_2 true ((rd_T62 (rd_L5 l0 x12_1) x18_2).f0) ((rd_T62 (rd_L5 l0 x12_1) x18_2).f1))) = some (r1, r2) := H
      have A12 := Aside0.mk A120
      clear A120
      by_cases c13 : t997 = true
      rotate_left
      ·replace c13 := Bool.eq_false_iff.mpr c13
       subst c13
       have H1 : (shares_mixture_multiple.j2 k2 a1 x4_2 l0 (l0.length : Int) x12_1 (rd_L5 l0 x12_1) ((rd_L5 l0 x12_1).length : Int) x18_2 true ((rd_T62 (rd_L5 l0 x12_1) x18_2).f0) ((rd_T62 (rd_L5 l0 x12_1) x18_2).f1)) = some (r1, r2) := by rw [if_neg (show ¬ (false = true) by decide)] at H; exact H
       clear H
       have H := H1
       clear H1
       have H' := Aside0.mk H
       clear H
       have hcz17_0 : w10.cell? ⟨gb996, 0, none⟩ = some (.int .i64 0) := bc BK996 0
       have hcz17_1 : w10.cell? ⟨gb996, 1, none⟩ = some (.int .i64 0) := bc BK996 1
       have hfz17_0 := fz BK996 0
       have hfz17_1 := fz BK996 1
       go_wp2_with (first | ((with_reducible refine gate_callee (f := 109) rfl ?_); refine gL 23 Try.func109 #[.agg #[.int .i64 ((rd_T62 (rd_L5 l0 x12_1) x18_2).f0), .int .i64 ((rd_T62 (rd_L5 l0 x12_1) x18_2).f1)]] ?_; (with_reducible refine (shares_isFrac.calls k2 ((rd_T62 (rd_L5 l0 x12_1) x18_2).f0) ((rd_T62 (rd_L5 l0 x12_1) x18_2).f1) false _ A12.out).mono ?_); rintro e w18 ⟨rfl, hb⟩; refine ⟨_, rfl, ?_⟩; replace BK996 := ak (blk_below (g := gb996) (o := .cells #[.int .i64 ((rd_T62 (rd_L5 l0 x12_1) x18_2).f0), .int .i64 ((rd_T62 (rd_L5 l0 x12_1) x18_2).f1)] 62 (0, 0)) (by (with_reducible repeat (first | refine blk_drewN ?_ _ | refine blk_drew ?_ | refine blk_alloc ?_ _)); refine blk_put (cs := #[.int .i64 ((rd_T62 (rd_L5 l0 x12_1) x18_2).f0), .int .i64 0]) ?_ 1 _ rfl; (with_reducible repeat (first | refine blk_drewN ?_ _ | refine blk_drew ?_ | refine blk_alloc ?_ _)); refine blk_put (cs := #[.int .i64 0, .int .i64 0]) ?_ 0 _ rfl; (with_reducible repeat (first | refine blk_drewN ?_ _ | refine blk_drew ?_ | refine blk_alloc ?_ _)); exact BK996.out) hb); replace HB := kH _ hb; (try clear hb); (try clear hb2); (try clear hk); (try clear hi)))
       go_meet
       case rel => exact ⟨_, (true), (by first | rfl | (simp; done) | (simp [*]; done)), H', ⟨by have := HK1.out; have := HK2.out; first | omega | exact Nat.le_refl _⟩, ⟨bkC BK996⟩, ⟨hbC _⟩⟩
      subst c13
      have H1 : (shares_mixture_multiple.j2 k2 a1 x4_2 l0 (l0.length : Int) x12_1 (rd_L5 l0 x12_1) ((rd_L5 l0 x12_1).length : Int) x18_2 (decide (((rd_T62 (rd_L5 l0 x12_1) x18_2).f1) > a1)) ((rd_T62 (rd_L5 l0 x12_1) x18_2).f0) ((rd_T62 (rd_L5 l0 x12_1) x18_2).f1)) = some (r1, r2) := by rw [if_pos rfl] at H; exact H
      clear H
      have H := H1
      clear H1
      have H' := Aside0.mk H
      clear H
      have hcz14_0 : w10.cell? ⟨gb996, 0, none⟩ = some (.int .i64 0) := bc BK996 0
      have hcz14_1 : w10.cell? ⟨gb996, 1, none⟩ = some (.int .i64 0) := bc BK996 1
      have hfz14_0 := fz BK996 0
      have hfz14_1 := fz BK996 1
      go_wp2_with (first | ((with_reducible refine gate_callee (f := 109) rfl ?_); refine gL 23 Try.func109 #[.agg #[.int .i64 ((rd_T62 (rd_L5 l0 x12_1) x18_2).f0), .int .i64 ((rd_T62 (rd_L5 l0 x12_1) x18_2).f1)]] ?_; (with_reducible refine (shares_isFrac.calls k2 ((rd_T62 (rd_L5 l0 x12_1) x18_2).f0) ((rd_T62 (rd_L5 l0 x12_1) x18_2).f1) true _ A12.out).mono ?_); rintro e w15 ⟨rfl, hb⟩; refine ⟨_, rfl, ?_⟩; replace BK996 := ak (blk_below (g := gb996) (o := .cells #[.int .i64 ((rd_T62 (rd_L5 l0 x12_1) x18_2).f0), .int .i64 ((rd_T62 (rd_L5 l0 x12_1) x18_2).f1)] 62 (0, 0)) (by (with_reducible repeat (first | refine blk_drewN ?_ _ | refine blk_drew ?_ | refine blk_alloc ?_ _)); refine blk_put (cs := #[.int .i64 ((rd_T62 (rd_L5 l0 x12_1) x18_2).f0), .int .i64 0]) ?_ 1 _ rfl; (with_reducible repeat (first | refine blk_drewN ?_ _ | refine blk_drew ?_ | refine blk_alloc ?_ _)); refine blk_put (cs := #[.int .i64 0, .int .i64 0]) ?_ 0 _ rfl; (with_reducible repeat (first | refine blk_drewN ?_ _ | refine blk_drew ?_ | refine blk_alloc ?_ _)); exact BK996.out) hb); replace HB := kH _ hb; (try clear hb); (try clear hb2); (try clear hk); (try clear hi); have hcz16_0 : w15.cell? ⟨gb996, 0, none⟩ = some (.int .i64 ((rd_T62 (rd_L5 l0 x12_1) x18_2).f0)) := bc BK996 0; have hcz16_1 : w15.cell? ⟨gb996, 1, none⟩ = some (.int .i64 ((rd_T62 (rd_L5 l0 x12_1) x18_2).f1)) := bc BK996 1; have hfz16_0 := fz BK996 0; have hfz16_1 := fz BK996 1))
      go_meet
      case rel => exact ⟨_, (decide (((rd_T62 (rd_L5 l0 x12_1) x18_2).f1) > a1)), (by first | rfl | (simp; done) | (simp [*]; done)), H', ⟨by have := HK1.out; have := HK2.out; first | omega | exact Nat.le_refl _⟩, ⟨bkC BK996⟩, ⟨hbC _⟩⟩
     case rest =>
      clear HC9
      try clear c1
      try clear p2
      try clear c3
      try clear c3b0
      try clear c4
      try clear c4b0
      try clear c5
      try clear c5b0
      try clear c6
      try clear c6b0
      try clear c7
      try clear c7b0
      try clear c8
      try clear c8b0
      try clear c9
      try clear p9
      try clear q9
      try clear hx9
      try clear c10
      try clear c13
      try clear hcz11_0
      try clear hcz11_1
      try clear hcz14_0
      try clear hcz14_1
      try clear hcz16_0
      try clear hcz16_1
      try clear hcz17_0
      try clear hcz17_1
      try clear hfz11_0
      try clear hfz11_1
      try clear hfz14_0
      try clear hfz14_1
      try clear hfz16_0
      try clear hfz16_1
      try clear hfz17_0
      try clear hfz17_1
      try clear hx994_0
      try clear hx995_0
      try clear hx995_1
      try clear p2
      try clear p994
      try clear p995
      try clear q994
      try clear q995
      obtain ⟨kq, x30_8, rfl, HA, HJ8, BK996, HB⟩ := hcut
      cases kq with
      | zero => exact absurd HA.out (by simp [shares_mixture_multiple.j2])
      | succ kj8 =>
       have H := HA.out
       clear HA
       simp only [shares_mixture_multiple.j2] at H
       by_cases c19 : x30_8 = true
       ·subst c19
        have H1 : (some (0, false)) = some (r1, r2) := by rw [if_pos rfl] at H; exact H
        clear H
        have H := H1
        clear H1
        simp only [Option.some.injEq, Prod.mk.injEq] at H
        obtain ⟨rfl, rfl⟩ := H
        go_wp2
        go_ret2
        exact ⟨by first | rfl | (simp [errW_none, errW_some] <;> rfl) | (simp [*, errW_none, errW_some] <;> rfl), hbC _⟩
       replace c19 := Bool.eq_false_iff.mpr c19
       subst c19
       have H1 : ((shares_gcd.f kj8 x4_2 ((rd_T62 (rd_L5 l0 x12_1) x18_2).f1)).bind fun t998 => (if t998 = 0 then (none) else (if (wrap64 ((wrap64 (Int.tdiv x4_2 t998)) * ((rd_T62 (rd_L5 l0 x12_1) x18_2).f1))) > a1 then (some (0, false)) else (shares_mixture_multiple.l1 kj8 a1 (wrap64 ((wrap64 (Int.tdiv x4_2 t998)) * ((rd_T62 (rd_L5 l0 x12_1) x18_2).f1))) l0 (l0.length : Int) x12_1 (rd_L5 l0 x12_1) ((rd_L5 l0 x12_1).length : Int) (wrap64 (x18_2 + 1)))))) = some (r1, r2) := by rw [if_neg (show ¬ (false = true) by decide)] at H; exact H
       clear H
       have H := H1
       clear H1
       replace H := Option.bind_eq_some_iff.mp H
       obtain ⟨t998, A200, H⟩ := H
       replace H : (if t998 = 0 then (none) else (if (wrap64 ((wrap64 (Int.tdiv x4_2 t998)) * ((rd_T62 (rd_L5 l0 x12_1) x18_2).f1))) > a1 then (some (0, false)) else (shares_mixture_multiple.l1 kj8 a1 (wrap64 ((wrap64 (Int.tdiv x4_2 t998)) * ((rd_T62 (rd_L5 l0 x12_1) x18_2).f1))) l0 (l0.length : Int) x12_1 (rd_L5 l0 x12_1) ((rd_L5 l0 x12_1).length : Int) (wrap64 (x18_2 + 1))))) = some (r1, r2) := H
       have A20 := Aside0.mk A200
       clear A200
       by_cases c21 : t998 = 0
       ·rw [if_pos c21] at H
        exact absurd H (by simp)
       rw [if_neg c21] at H
       have c21b0 : (t998 == 0) = false := beq_eq_false_iff_ne.mpr c21
       have c21b1 : (t998 != 0) = true := bne_iff_ne.mpr c21
       by_cases c22 : (wrap64 ((wrap64 (Int.tdiv x4_2 t998)) * ((rd_T62 (rd_L5 l0 x12_1) x18_2).f1))) > a1
       ·rw [if_pos c22] at H
        have c22b0 : decide (a1 < (wrap64 ((wrap64 (Int.tdiv x4_2 t998)) * ((rd_T62 (rd_L5 l0 x12_1) x18_2).f1)))) = true := decide_eq_true c22
        clear c22
        simp only [Option.some.injEq, Prod.mk.injEq] at H
        obtain ⟨rfl, rfl⟩ := H
        try go_wp2
        replace BK996 := kd BK996
        replace HB := ak (below_drew1 HB.out)
        refine sS (n := 10) (S := fun w' => w'.cell? ⟨gb996, 0, none⟩ = some (.int .i64 ((rd_T62 (rd_L5 l0 x12_1) x18_2).f0)) ∧ w'.cell? ⟨gb996, 1, none⟩ = some (.int .i64 ((rd_T62 (rd_L5 l0 x12_1) x18_2).f1))) (ds := []) ⟨bc BK996 0, bc BK996 1⟩ (fun hHeld => ?_); refine with_tabW shares_mixture_multiple.tab10 shares_mixture_multiple.bits10 (fun HT_ HW_ => ?_)
        generalize wc.drew = w23 at BK996 HB hHeld ⊢
        refine pS 0 31 10 1 ?_
        refine pS 1 32 10 3 ?_
        refine pS 2 33 10 7 ?_
        refine pS 6 37 10 71 ?_
        refine tS 3 34 10 79 ?_
        refine tS 7 38 10 207 ?_
        refine one_ (i := 4) (N := some 35) (ba 10 223) rfl rfl (one_of HT_.out (by kernel_rfl)) (by decide) (fun K hK => ?_)
        refine gC Try.func108 #[.int .i64 x4_2, .int .i64 ((rd_T62 (rd_L5 l0 x12_1) x18_2).f1)] ?_
        with_reducible refine (shares_gcd.calls kj8 x4_2 ((rd_T62 (rd_L5 l0 x12_1) x18_2).f1) t998 _ A20.out).mono ?_
        rintro e w24 ⟨rfl, hb⟩
        refine ⟨_, rfl, ?_⟩
        replace BK996 := kB BK996 hb
        replace HB := kH _ hb
        (try clear hb)
        (try clear hb2)
        (try clear hk)
        (try clear hi)
        refine hK.out _ _ ⟨bc BK996 0, bc BK996 1⟩ (fun hHeld => ?_)
        clear hK K
        refine norm_ (a' := ?_) ?_ ?_
        rotate_left
        ·show Act.put _ (some 35) _ = _
         simp only [Act.put, List.setIfInBounds_toArray, List.set_cons_zero, List.set_cons_succ, i64_w, i32_w]
         rfl
        refine pS 5 36 10 255 ?_
        refine pS 8 39 10 511 ?_
        refine pS 9 4 10 1023 ?_
        refine done_ (done_of HT_.out (by kernel_rfl)) ?_
        try go_wp2
        go_ret2
        exact ⟨by first | rfl | (simp [errW_none, errW_some] <;> rfl) | (simp [*, errW_none, errW_some] <;> rfl), hbC _⟩
       rw [if_neg c22] at H
       have c22b0 : decide (a1 < (wrap64 ((wrap64 (Int.tdiv x4_2 t998)) * ((rd_T62 (rd_L5 l0 x12_1) x18_2).f1)))) = false := decide_eq_false c22
       clear c22
       have H' := Aside0.mk H
       clear H
       try go_wp2
       replace BK996 := kd BK996
       replace HB := ak (below_drew1 HB.out)
       refine sS (n := 10) (S := fun w' => w'.cell? ⟨gb996, 0, none⟩ = some (.int .i64 ((rd_T62 (rd_L5 l0 x12_1) x18_2).f0)) ∧ w'.cell? ⟨gb996, 1, none⟩ = some (.int .i64 ((rd_T62 (rd_L5 l0 x12_1) x18_2).f1))) (ds := []) ⟨bc BK996 0, bc BK996 1⟩ (fun hHeld => ?_); refine with_tabW shares_mixture_multiple.tab10 shares_mixture_multiple.bits10 (fun HT_ HW_ => ?_)
       generalize wc.drew = w25 at BK996 HB hHeld ⊢
       refine pS 0 31 10 1 ?_
       refine pS 1 32 10 3 ?_
       refine pS 2 33 10 7 ?_
       refine pS 6 37 10 71 ?_
       refine tS 3 34 10 79 ?_
       refine tS 7 38 10 207 ?_
       refine one_ (i := 4) (N := some 35) (ba 10 223) rfl rfl (one_of HT_.out (by kernel_rfl)) (by decide) (fun K hK => ?_)
       refine gC Try.func108 #[.int .i64 x4_2, .int .i64 ((rd_T62 (rd_L5 l0 x12_1) x18_2).f1)] ?_
       with_reducible refine (shares_gcd.calls kj8 x4_2 ((rd_T62 (rd_L5 l0 x12_1) x18_2).f1) t998 _ A20.out).mono ?_
       rintro e w26 ⟨rfl, hb⟩
       refine ⟨_, rfl, ?_⟩
       replace BK996 := kB BK996 hb
       replace HB := kH _ hb
       (try clear hb)
       (try clear hb2)
       (try clear hk)
       (try clear hi)
       refine hK.out _ _ ⟨bc BK996 0, bc BK996 1⟩ (fun hHeld => ?_)
       clear hK K
       refine norm_ (a' := ?_) ?_ ?_
       rotate_left
       ·show Act.put _ (some 35) _ = _
        simp only [Act.put, List.setIfInBounds_toArray, List.set_cons_zero, List.set_cons_succ, i64_w, i32_w]
        rfl
       refine pS 5 36 10 255 ?_
       refine pS 8 39 10 511 ?_
       refine pS 9 4 10 1023 ?_
       refine done_ (done_of HT_.out (by kernel_rfl)) ?_
       try go_wp2
       go_roundg kj8
       case measure => have := HK1.out; have := HK2.out; have := HJ8.out; omega
       case rel => exact ⟨(wrap64 ((wrap64 (Int.tdiv x4_2 t998)) * ((rd_T62 (rd_L5 l0 x12_1) x18_2).f1))), (wrap64 (x18_2 + 1)), (by first | rfl | (simp; done) | (simp [*]; done)), (by first | rfl | (simp; done) | (simp [*]; done)), H', ⟨by have := HK1.out; have := HK2.out; have := HJ8.out; omega⟩, ⟨hbC _⟩⟩

end Go.Proofs.Ytefmafbbnkkpjaa.X
