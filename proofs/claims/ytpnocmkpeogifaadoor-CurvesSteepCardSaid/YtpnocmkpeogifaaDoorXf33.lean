-- Written by a program of this work (wip/xprint.py, over the kit's printer) out of the translation.
import Derived.Test.YtpnocmkpeogifaaDoorX0
import Derived.Test.YtpnocmkpeogifaaDoorXG1a
namespace Go.Proofs.YtpnocmkpeogifaaDoor.X
open Go.RowKit Go.Proofs.YtpnocmkpeogifaaDoorW.PrintWords Go.Proofs.YtpnocmkpeogifaaDoorW.PrintLast Go.Proofs.YtpnocmkpeogifaaDoorW.PrintMore
attribute [local go_sem] max2_int min2_int max_two min_two max_three min_three max_four min_four   -- for this text's walks alone
set_option linter.unusedVariables false
set_option linter.unusedSimpArgs false

/-! ### curves_Curve_piece: function 33 -/
def curves_Curve_piece.l0 : Nat → Int → Int → Int → Int → List Int → List Int → Int → Int → Option (Int)
 | 0, _, _, _, _, _, _, _, _ => none
 | k + 1, x6, x11, x12, x158000, x158001, x158002, x159000, x159001 => if x12 < x11 then (if 0 ≤ x12 then (if x12 < (x158001.length : Int) then (if 0 ≤ (wrap64 (x12 + 1)) then (if (wrap64 (x12 + 1)) < (x158001.length : Int) then (if (rd x158001 x12) < (rd x158001 (wrap64 (x12 + 1))) then ((curves_ratio_below.f x159000 x159001 (rd x158001 x12)).bind fun t162 => (if t162 = true then (curves_Curve_piece.l0 k x6 x11 (wrap64 (x12 + 1)) x158000 x158001 x158002 x159000 x159001) else (curves_Curve_piece.l0 k x12 x11 (wrap64 (x12 + 1)) x158000 x158001 x158002 x159000 x159001))) else (curves_Curve_piece.l0 k x6 x11 (wrap64 (x12 + 1)) x158000 x158001 x158002 x159000 x159001)) else (none)) else (none)) else (none)) else (none)) else (some x6)
def curves_Curve_piece.f (k : Nat) (a0_0 : Int) (l0_1 : List Int) (l0_2 : List Int) (a1_0 : Int) (a1_1 : Int) : Option (Int) := curves_Curve_piece.l0 k 0 (l0_2.length : Int) 0 a0_0 l0_1 l0_2 a1_0 a1_1
theorem curves_Curve_piece.mono_l : ∀ k, (∀ y0 y1 y2 y3 y4 y5 y6 y7, LeO (curves_Curve_piece.l0 k y0 y1 y2 y3 y4 y5 y6 y7) (curves_Curve_piece.l0 (k + 1) y0 y1 y2 y3 y4 y5 y6 y7))
 | 0 => fun _ _ _ _ _ _ _ _ r h => by simp [curves_Curve_piece.l0] at h
 | k + 1 => by
  have ih0 := curves_Curve_piece.mono_l k
  ·intro y0 y1 y2 y3 y4 y5 y6 y7
   unfold curves_Curve_piece.l0
   repeat' first
   | (with_reducible exact ih0 _ _ _ _ _ _ _ _)
   | (with_reducible exact LeO.refl _)
   | (with_reducible exact LeO.none _)
   | (with_reducible refine LeO.ite ?_ ?_)
   | (with_reducible refine LeO.bind ?_ (fun _ => ?_))
   | exact ih0 _ _ _ _ _ _ _ _
   | exact LeO.none _
   | refine LeO.ite ?_ ?_
   | refine LeO.bind ?_ (fun _ => ?_)
theorem curves_Curve_piece.mono : ∀ a0 a1 a2 a3 a4 k, LeO (curves_Curve_piece.f k a0 a1 a2 a3 a4) (curves_Curve_piece.f (k + 1) a0 a1 a2 a3 a4) := by
 intro a0 a1 a2 a3 a4 k
 have ih0 := curves_Curve_piece.mono_l k
 unfold curves_Curve_piece.f
 repeat' first
   | (with_reducible exact ih0 _ _ _ _ _ _ _ _)
   | (with_reducible exact LeO.refl _)
   | (with_reducible exact LeO.none _)
   | (with_reducible refine LeO.ite ?_ ?_)
   | (with_reducible refine LeO.bind ?_ (fun _ => ?_))
   | exact ih0 _ _ _ _ _ _ _ _
   | exact LeO.none _
   | refine LeO.ite ?_ ?_
   | refine LeO.bind ?_ (fun _ => ?_)
def curves_Curve_piece.T6 : Bool × List (List Nat × List Nat) := (true, [([], []), ([0], [0]), ([], []), ([1, 2], [1, 2]), ([3], [3]), ([], []), ([5], [5]), ([], []), ([7], [7]), ([6, 8], [6, 8]), ([9], [9]), ([4, 10], [4, 10]), ([11], [11]), ([12], [12]), ([12], [12]), ([14, 12], [12, 14]), ([12], [12]), ([15, 16, 12], [12, 15, 16]), ([17, 12], [12, 17]), ([13, 18, 12, 12], [12, 13, 18]), ([19, 12], [12, 19]), ([12, 20], [12, 20])])
def curves_Curve_piece.B6 : List Nat := [0, 1, 0, 7, 15, 0, 32, 0, 128, 480, 992, 2047, 4095, 8191, 8191, 24575, 8191, 122879, 253951, 524287, 1048575, 2097151]
theorem curves_Curve_piece.tab6 : rtab .any (opsOf Tryd.f33 6) = curves_Curve_piece.T6 := by kernel_rfl
theorem curves_Curve_piece.bits6 : waitsOk curves_Curve_piece.T6.2 curves_Curve_piece.B6 = true := by kernel_rfl
set_option maxHeartbeats 8000000 in
set_option maxRecDepth 100000 in
theorem curves_Curve_piece.calls (k : Nat) (a0_0 : Int) (A0_1 : Option Addr) (c0_1 : Nat) (l0_1 : List Int) (A0_2 : Option Addr) (c0_2 : Nat) (l0_2 : List Int) (a1_0 : Int) (a1_1 : Int) (r : Int) (w : World) (hr0_1 : Kd.C (Kd.int .i64) w A0_1 l0_1.length l0_1) (hc0_1 : l0_1.length ≤ c0_1) (hr0_2 : Kd.C (Kd.int .i64) w A0_2 l0_2.length l0_2) (hc0_2 : l0_2.length ≤ c0_2) (h : curves_Curve_piece.f k a0_0 l0_1 l0_2 a1_0 a1_1 = some r) :
  Calls Tryd.prog 33 #[.agg #[.int .i64 a0_0, .slice A0_1 l0_1.length c0_1, .slice A0_2 l0_2.length c0_2], .agg #[.int .i64 a1_0, .int .i64 a1_1]] w fun e w' => e = .returned (.int .i64 r) ∧ Below w.heap.size w w' := by
 have hu31 := Tryd.underlying31
 have hu49 := Tryd.underlying49
 have HR0_1 := Aside0.mk hr0_1
 have HC0_1 := Aside0.mk hc0_1
 clear hr0_1 hc0_1
 have HR0_2 := Aside0.mk hr0_2
 have HC0_2 := Aside0.mk hc0_2
 clear hr0_2 hc0_2
 have HB := ak (Below.refl w.heap.size w)
 have H : (curves_Curve_piece.l0 k 0 (l0_2.length : Int) 0 a0_0 l0_1 l0_2 a1_0 a1_1) = some r := h
 clear h
 have H' := Aside0.mk H
 clear H
 go_enter Tryd.func33, Tryd.ntmps33
 go_wp2_with (first | ((with_reducible refine gate_dst (N := 2) rfl ?_); refine bE 2 #[.int .i64 a0_0, .slice A0_1 l0_1.length c0_1, .slice A0_2 l0_2.length c0_2] 31 ?_; intro gb157 hg w3 hbox hb; have BK157 := ak (hbox); have GW157 := kG w hg; have GE157 := kG w hg; replace HB := kH _ hb; clear hb hbox hg) | ((with_reducible refine gate_dst (N := 3) rfl ?_); refine bE 3 #[.int .i64 a1_0, .int .i64 a1_1] 49 ?_; intro gb158 hg w4 hbox hb; have BK158 := ak (hbox); have GW158 := kG w hg; have GE158 := kG w hg; replace HB := kH _ hb; have NB157_158 := kL BK157 hg; have NB158_157 := kR BK157 hg; replace BK157 := kB BK157 hb; clear hb hbox hg; have hnb5 := NB157_158.out; have hnc5 := NB158_157.out; have hcz6_0 : w4.cell? ⟨gb157, 0, none⟩ = some (.int .i64 a0_0) := bc BK157 0; have hcz6_1 : w4.cell? ⟨gb157, 1, none⟩ = some (.slice A0_1 l0_1.length c0_1) := bc BK157 1; have hcz6_2 : w4.cell? ⟨gb157, 2, none⟩ = some (.slice A0_2 l0_2.length c0_2) := bc BK157 2; have hfz6_0 := fz BK157 0; have hfz6_1 := fz BK157 1; have hfz6_2 := fz BK157 2))
 go_loopg [6, 12] k (fun kq v6 v12 w' => ∃ (x6_1 : Int) (x12_1 : Int), v6 = .int .i64 x6_1 ∧ v12 = .int .i64 x12_1 ∧ Aside0 (curves_Curve_piece.l0 kq x6_1 (l0_2.length : Int) x12_1 a0_0 l0_1 l0_2 a1_0 a1_1 = some r) ∧ Aside0 (kq ≤ k) ∧ Aside0 (w'.heap[gb157]? = some (.cells #[.int .i64 a0_0, (.slice A0_1 l0_1.length c0_1), (.slice A0_2 l0_2.length c0_2)] 31 (0, 0))) ∧ Aside0 (w'.heap[gb158]? = some (.cells #[.int .i64 a1_0, .int .i64 a1_1] 49 (0, 0))) ∧ Aside0 (Below w.heap.size w w'))
 case atStart => exact ⟨(0), (0), (by first | rfl | (simp; done) | (simp [*]; done)), (by first | rfl | (simp; done) | (simp [*]; done)), H', ⟨Nat.le_refl _⟩, ⟨bkC BK157⟩, ⟨bkC BK158⟩, ⟨hbC _⟩⟩
 case round =>
  clear H'
  try clear p2
  try clear c3
  try clear c5
  try clear hcz6_0
  try clear hcz6_1
  try clear hcz6_2
  try clear hfz6_0
  try clear hfz6_1
  try clear hfz6_2
  obtain ⟨x6_1, x12_1, rfl, rfl, HA, HK1, BK157, BK158, HB⟩ := hrel
  cases gk with
  | zero => exact absurd HA.out (by simp [curves_Curve_piece.l0])
  | succ k1 =>
   have H := HA.out
   clear HA
   simp only [curves_Curve_piece.l0] at H
   by_cases c7 : x12_1 < (l0_2.length : Int)
   rotate_left
   ·rw [if_neg c7] at H
    have c7b0 : decide (x12_1 < (l0_2.length : Int)) = false := decide_eq_false c7
    clear c7
    obtain rfl := Option.some.inj H
    go_wp2
    go_ret
    exact ⟨by first | rfl | (simp [errW_none, errW_some] <;> rfl) | (simp [*, errW_none, errW_some] <;> rfl), hbC _⟩
   rw [if_pos c7] at H
   have c7b0 : decide (x12_1 < (l0_2.length : Int)) = true := decide_eq_true c7
   clear c7
   by_cases c8 : 0 ≤ x12_1
   rotate_left
   ·rw [if_neg c8] at H
    exact absurd H (by simp)
   rw [if_pos c8] at H
   have c8b0 : decide (0 ≤ x12_1) = true := decide_eq_true c8
   clear c8
   by_cases c9 : x12_1 < (l0_1.length : Int)
   rotate_left
   ·rw [if_neg c9] at H
    exact absurd H (by simp)
   rw [if_pos c9] at H
   have c9b0 : decide (x12_1 < (l0_1.length : Int)) = true := decide_eq_true c9
   clear c9
   obtain ⟨ji10, hji10⟩ : ∃ j_ : Int, (wrap64 (x12_1 + 1)) = j_ := ⟨_, rfl⟩
   replace H : (if 0 ≤ (ji10) then (if (ji10) < (l0_1.length : Int) then (if (rd l0_1 x12_1) < (rd l0_1 (ji10)) then ((curves_ratio_below.f a1_0 a1_1 (rd l0_1 x12_1)).bind fun t162 => (if t162 = true then (curves_Curve_piece.l0 k1 x6_1 (l0_2.length : Int) ji10 a0_0 l0_1 l0_2 a1_0 a1_1) else (curves_Curve_piece.l0 k1 x12_1 (l0_2.length : Int) ji10 a0_0 l0_1 l0_2 a1_0 a1_1))) else (curves_Curve_piece.l0 k1 x6_1 (l0_2.length : Int) ji10 a0_0 l0_1 l0_2 a1_0 a1_1)) else (none)) else (none)) = some r := by first | (rw [hji10] at H; exact H) | (simp only [hji10] at H ⊢; exact H)
   have hji10w : (IntKind.i64.wrap (x12_1 + 1)) = ji10 := (i64_w _).trans hji10
   by_cases c11 : 0 ≤ (ji10)
   rotate_left
   ·rw [if_neg c11] at H
    exact absurd H (by simp)
   rw [if_pos c11] at H
   have c11b0 : decide (0 ≤ (ji10)) = true := decide_eq_true c11
   clear c11
   by_cases c12 : (ji10) < (l0_1.length : Int)
   rotate_left
   ·rw [if_neg c12] at H
    exact absurd H (by simp)
   rw [if_pos c12] at H
   have c12b0 : decide ((ji10) < (l0_1.length : Int)) = true := decide_eq_true c12
   clear c12
   by_cases c13 : (rd l0_1 x12_1) < (rd l0_1 (ji10))
   rotate_left
   ·rw [if_neg c13] at H
    have c13b0 : decide ((rd l0_1 x12_1) < (rd l0_1 (ji10))) = false := decide_eq_false c13
    clear c13
    have H' := Aside0.mk H
    clear H
    try go_wp2
    replace BK157 := kd BK157
    replace BK158 := kd BK158
    replace HB := ak (below_drew1 HB.out)
    have p159 : 0 ≤ (x12_1 : Int) := dA
    have q159 : x12_1 < (l0_1.length : Int) := dA
    obtain ⟨ad159, e159, hx159_0⟩ := Kd.at_int HR0_1.out x12_1 p159 q159
    have hw159_0 := hx159_0
    cases e159
    try replace hx159_0 := (HB.out.cell (World.block_lt_of_cell? w _ hx159_0)).trans hx159_0
    replace p159 := eq_true p159
    replace q159 := eq_true q159
    have p160 : 0 ≤ ((ji10) : Int) := dA
    have q160 : (ji10) < (l0_1.length : Int) := dA
    obtain ⟨ad160, e160, hx160_0⟩ := Kd.at_int HR0_1.out (ji10) p160 q160
    have hw160_0 := hx160_0
    obtain rfl : ad159 = ad160 := (by injection e160)
    try replace hx160_0 := (HB.out.cell (World.block_lt_of_cell? w _ hx160_0)).trans hx160_0
    replace p160 := eq_true p160
    replace q160 := eq_true q160
    refine sS (n := 22) (S := fun w' => w'.cell? ⟨gb157, 0, none⟩ = some (.int .i64 a0_0) ∧ w'.cell? ⟨gb157, 1, none⟩ = some (.slice (some ad159) l0_1.length c0_1) ∧ w'.cell? ⟨gb157, 2, none⟩ = some (.slice A0_2 l0_2.length c0_2) ∧ w'.cell? (ad159.add (x12_1).toNat) = some (.int .i64 (rd l0_1 x12_1)) ∧ w'.cell? (ad159.add ((ji10)).toNat) = some (.int .i64 (rd l0_1 (ji10)))) (ds := []) ⟨bc BK157 0, bc BK157 1, bc BK157 2, ((HB.out.cell (World.block_lt_of_cell? w _ hw159_0)).trans hw159_0), ((HB.out.cell (World.block_lt_of_cell? w _ hw160_0)).trans hw160_0)⟩ (fun hHeld => ?_); refine with_tabW curves_Curve_piece.tab6 curves_Curve_piece.bits6 (fun HT_ HW_ => ?_)
    generalize wr.drew = w20 at BK157 BK158 HB hx159_0 hx160_0 hHeld ⊢
    refine pS 0 15 22 1 ?_
    refine pS 2 17 22 5 ?_
    refine pS 5 20 22 37 ?_
    refine pS 7 22 22 165 ?_
    refine pS 8 23 22 421 ?_
    refine tS 1 16 22 423 ?_
    refine pS 3 18 22 431 ?_
    refine tS 4 19 22 447 ?_
    refine tS 6 21 22 511 ?_
    refine pS 9 24 22 1023 ?_
    refine tS 10 25 22 2047 ?_
    refine pS 11 26 22 4095 ?_
    refine pS 12 27 22 8191 ?_
    refine uS 13 28 22 16383 ?_
    refine uS 14 29 22 32767 ?_
    refine uS 15 30 22 65535 ?_
    refine uS 16 31 22 131071 ?_
    refine uS 17 32 22 262143 ?_
    refine uS 18 33 22 524287 ?_
    refine uS 19 34 22 1048575 ?_
    refine uS 20 35 22 2097151 ?_
    refine pS 21 36 22 4194303 ?_
    refine done_ (done_of HT_.out (by kernel_rfl)) ?_
    try go_wp2
    go_roundg k1
    case measure => have := HK1.out; omega
    case rel => exact ⟨(x6_1), (ji10), (by first | rfl | (simp; done) | (simp [*]; done)), (by first | rfl | (simp; done) | (simp only [← hji10] <;> (first | rfl | simp)) | (simp [*]; done)), H', ⟨by have := HK1.out; omega⟩, ⟨bkC BK157⟩, ⟨bkC BK158⟩, ⟨hbC _⟩⟩
   rw [if_pos c13] at H
   have c13b0 : decide ((rd l0_1 x12_1) < (rd l0_1 (ji10))) = true := decide_eq_true c13
   clear c13
   replace H := Option.bind_eq_some_iff.mp H
   obtain ⟨t162, A140, H⟩ := H
   replace H : (if t162 = true then (curves_Curve_piece.l0 k1 x6_1 (l0_2.length : Int) ji10 a0_0 l0_1 l0_2 a1_0 a1_1) else (curves_Curve_piece.l0 k1 x12_1 (l0_2.length : Int) ji10 a0_0 l0_1 l0_2 a1_0 a1_1)) = some r := H
   have A14 := Aside0.mk A140
   clear A140
   by_cases c15 : t162 = true
   ·subst c15
    have H1 : (curves_Curve_piece.l0 k1 x6_1 (l0_2.length : Int) ji10 a0_0 l0_1 l0_2 a1_0 a1_1) = some r := by rw [if_pos rfl] at H; exact H
    clear H
    have H := H1
    clear H1
    have H' := Aside0.mk H
    clear H
    try go_wp2
    replace BK157 := kd BK157
    replace BK158 := kd BK158
    replace HB := ak (below_drew1 HB.out)
    have p159 : 0 ≤ (x12_1 : Int) := dA
    have q159 : x12_1 < (l0_1.length : Int) := dA
    obtain ⟨ad159, e159, hx159_0⟩ := Kd.at_int HR0_1.out x12_1 p159 q159
    have hw159_0 := hx159_0
    cases e159
    try replace hx159_0 := (HB.out.cell (World.block_lt_of_cell? w _ hx159_0)).trans hx159_0
    replace p159 := eq_true p159
    replace q159 := eq_true q159
    have p160 : 0 ≤ ((ji10) : Int) := dA
    have q160 : (ji10) < (l0_1.length : Int) := dA
    obtain ⟨ad160, e160, hx160_0⟩ := Kd.at_int HR0_1.out (ji10) p160 q160
    have hw160_0 := hx160_0
    obtain rfl : ad159 = ad160 := (by injection e160)
    try replace hx160_0 := (HB.out.cell (World.block_lt_of_cell? w _ hx160_0)).trans hx160_0
    replace p160 := eq_true p160
    replace q160 := eq_true q160
    have p161 : 0 ≤ (x12_1 : Int) := dA
    have q161 : x12_1 < (l0_1.length : Int) := dA
    obtain ⟨ad161, e161, hx161_0⟩ := Kd.at_int HR0_1.out x12_1 p161 q161
    have hw161_0 := hx161_0
    obtain rfl : ad159 = ad161 := (by injection e161)
    try replace hx161_0 := (HB.out.cell (World.block_lt_of_cell? w _ hx161_0)).trans hx161_0
    replace p161 := eq_true p161
    replace q161 := eq_true q161
    refine sS (n := 22) (S := fun w' => w'.cell? ⟨gb157, 0, none⟩ = some (.int .i64 a0_0) ∧ w'.cell? ⟨gb157, 1, none⟩ = some (.slice (some ad159) l0_1.length c0_1) ∧ w'.cell? ⟨gb157, 2, none⟩ = some (.slice A0_2 l0_2.length c0_2) ∧ w'.cell? ⟨gb158, 0, none⟩ = some (.int .i64 a1_0) ∧ w'.cell? ⟨gb158, 1, none⟩ = some (.int .i64 a1_1) ∧ w'.cell? (ad159.add (x12_1).toNat) = some (.int .i64 (rd l0_1 x12_1)) ∧ w'.cell? (ad159.add ((ji10)).toNat) = some (.int .i64 (rd l0_1 (ji10))) ∧ w'.cell? (ad159.add (x12_1).toNat) = some (.int .i64 (rd l0_1 x12_1))) (ds := []) ⟨bc BK157 0, bc BK157 1, bc BK157 2, bc BK158 0, bc BK158 1, ((HB.out.cell (World.block_lt_of_cell? w _ hw159_0)).trans hw159_0), ((HB.out.cell (World.block_lt_of_cell? w _ hw160_0)).trans hw160_0), ((HB.out.cell (World.block_lt_of_cell? w _ hw161_0)).trans hw161_0)⟩ (fun hHeld => ?_); refine with_tabW curves_Curve_piece.tab6 curves_Curve_piece.bits6 (fun HT_ HW_ => ?_)
    generalize wr.drew = w16 at BK157 BK158 HB hx159_0 hx160_0 hx161_0 hHeld ⊢
    refine pS 0 15 22 1 ?_
    refine pS 2 17 22 5 ?_
    refine pS 5 20 22 37 ?_
    refine pS 7 22 22 165 ?_
    refine pS 8 23 22 421 ?_
    refine tS 1 16 22 423 ?_
    refine pS 3 18 22 431 ?_
    refine tS 4 19 22 447 ?_
    refine tS 6 21 22 511 ?_
    refine pS 9 24 22 1023 ?_
    refine tS 10 25 22 2047 ?_
    refine pS 11 26 22 4095 ?_
    refine pS 12 27 22 8191 ?_
    refine pS 14 29 22 24575 ?_
    refine pS 16 31 22 90111 ?_
    refine tS 13 28 22 98303 ?_
    refine tS 15 30 22 131071 ?_
    refine pS 17 32 22 262143 ?_
    refine tS 18 33 22 524287 ?_
    refine one_ (i := 19) (N := some 34) (ba 22 1048575) rfl rfl (one_of HT_.out (by kernel_rfl)) (by decide) (fun K hK => ?_)
    refine gC Tryd.func31 #[.agg #[.int .i64 a1_0, .int .i64 a1_1], .int .i64 (rd l0_1 x12_1)] ?_
    with_reducible refine (curves_ratio_below.calls a1_0 a1_1 (rd l0_1 x12_1) true _ A14.out).mono ?_
    rintro e w17 ⟨rfl, hb⟩
    refine ⟨_, rfl, ?_⟩
    replace BK157 := kB BK157 hb
    replace BK158 := kB BK158 hb
    replace HB := kH _ hb
    (try clear hb)
    (try clear hb2)
    (try clear hk)
    (try clear hi)
    refine hK.out _ _ ⟨bc BK157 0, bc BK157 1, bc BK157 2, bc BK158 0, bc BK158 1, ((HB.out.cell (World.block_lt_of_cell? w _ hw159_0)).trans hw159_0), ((HB.out.cell (World.block_lt_of_cell? w _ hw160_0)).trans hw160_0), ((HB.out.cell (World.block_lt_of_cell? w _ hw161_0)).trans hw161_0)⟩ (fun hHeld => ?_)
    clear hK K
    refine norm_ (a' := ?_) ?_ ?_
    rotate_left
    ·show Act.put _ (some 34) _ = _
     simp only [Act.put, List.setIfInBounds_toArray, List.set_cons_zero, List.set_cons_succ, i64_w, i32_w]
     rfl
    refine pS 20 35 22 2097151 ?_
    refine pS 21 36 22 4194303 ?_
    refine done_ (done_of HT_.out (by kernel_rfl)) ?_
    try go_wp2
    go_roundg k1
    case measure => have := HK1.out; omega
    case rel => exact ⟨(x6_1), (ji10), (by first | rfl | (simp; done) | (simp [*]; done)), (by first | rfl | (simp; done) | (simp only [← hji10] <;> (first | rfl | simp)) | (simp [*]; done)), H', ⟨by have := HK1.out; omega⟩, ⟨bkC BK157⟩, ⟨bkC BK158⟩, ⟨hbC _⟩⟩
   replace c15 := Bool.eq_false_iff.mpr c15
   subst c15
   have H1 : (curves_Curve_piece.l0 k1 x12_1 (l0_2.length : Int) ji10 a0_0 l0_1 l0_2 a1_0 a1_1) = some r := by rw [if_neg (show ¬ (false = true) by decide)] at H; exact H
   clear H
   have H := H1
   clear H1
   have H' := Aside0.mk H
   clear H
   try go_wp2
   replace BK157 := kd BK157
   replace BK158 := kd BK158
   replace HB := ak (below_drew1 HB.out)
   have p159 : 0 ≤ (x12_1 : Int) := dA
   have q159 : x12_1 < (l0_1.length : Int) := dA
   obtain ⟨ad159, e159, hx159_0⟩ := Kd.at_int HR0_1.out x12_1 p159 q159
   have hw159_0 := hx159_0
   cases e159
   try replace hx159_0 := (HB.out.cell (World.block_lt_of_cell? w _ hx159_0)).trans hx159_0
   replace p159 := eq_true p159
   replace q159 := eq_true q159
   have p160 : 0 ≤ ((ji10) : Int) := dA
   have q160 : (ji10) < (l0_1.length : Int) := dA
   obtain ⟨ad160, e160, hx160_0⟩ := Kd.at_int HR0_1.out (ji10) p160 q160
   have hw160_0 := hx160_0
   obtain rfl : ad159 = ad160 := (by injection e160)
   try replace hx160_0 := (HB.out.cell (World.block_lt_of_cell? w _ hx160_0)).trans hx160_0
   replace p160 := eq_true p160
   replace q160 := eq_true q160
   have p161 : 0 ≤ (x12_1 : Int) := dA
   have q161 : x12_1 < (l0_1.length : Int) := dA
   obtain ⟨ad161, e161, hx161_0⟩ := Kd.at_int HR0_1.out x12_1 p161 q161
   have hw161_0 := hx161_0
   obtain rfl : ad159 = ad161 := (by injection e161)
   try replace hx161_0 := (HB.out.cell (World.block_lt_of_cell? w _ hx161_0)).trans hx161_0
   replace p161 := eq_true p161
   replace q161 := eq_true q161
   refine sS (n := 22) (S := fun w' => w'.cell? ⟨gb157, 0, none⟩ = some (.int .i64 a0_0) ∧ w'.cell? ⟨gb157, 1, none⟩ = some (.slice (some ad159) l0_1.length c0_1) ∧ w'.cell? ⟨gb157, 2, none⟩ = some (.slice A0_2 l0_2.length c0_2) ∧ w'.cell? ⟨gb158, 0, none⟩ = some (.int .i64 a1_0) ∧ w'.cell? ⟨gb158, 1, none⟩ = some (.int .i64 a1_1) ∧ w'.cell? (ad159.add (x12_1).toNat) = some (.int .i64 (rd l0_1 x12_1)) ∧ w'.cell? (ad159.add ((ji10)).toNat) = some (.int .i64 (rd l0_1 (ji10))) ∧ w'.cell? (ad159.add (x12_1).toNat) = some (.int .i64 (rd l0_1 x12_1))) (ds := []) ⟨bc BK157 0, bc BK157 1, bc BK157 2, bc BK158 0, bc BK158 1, ((HB.out.cell (World.block_lt_of_cell? w _ hw159_0)).trans hw159_0), ((HB.out.cell (World.block_lt_of_cell? w _ hw160_0)).trans hw160_0), ((HB.out.cell (World.block_lt_of_cell? w _ hw161_0)).trans hw161_0)⟩ (fun hHeld => ?_); refine with_tabW curves_Curve_piece.tab6 curves_Curve_piece.bits6 (fun HT_ HW_ => ?_)
   generalize wr.drew = w18 at BK157 BK158 HB hx159_0 hx160_0 hx161_0 hHeld ⊢
   refine pS 0 15 22 1 ?_
   refine pS 2 17 22 5 ?_
   refine pS 5 20 22 37 ?_
   refine pS 7 22 22 165 ?_
   refine pS 8 23 22 421 ?_
   refine tS 1 16 22 423 ?_
   refine pS 3 18 22 431 ?_
   refine tS 4 19 22 447 ?_
   refine tS 6 21 22 511 ?_
   refine pS 9 24 22 1023 ?_
   refine tS 10 25 22 2047 ?_
   refine pS 11 26 22 4095 ?_
   refine pS 12 27 22 8191 ?_
   refine pS 14 29 22 24575 ?_
   refine pS 16 31 22 90111 ?_
   refine tS 13 28 22 98303 ?_
   refine tS 15 30 22 131071 ?_
   refine pS 17 32 22 262143 ?_
   refine tS 18 33 22 524287 ?_
   refine one_ (i := 19) (N := some 34) (ba 22 1048575) rfl rfl (one_of HT_.out (by kernel_rfl)) (by decide) (fun K hK => ?_)
   refine gC Tryd.func31 #[.agg #[.int .i64 a1_0, .int .i64 a1_1], .int .i64 (rd l0_1 x12_1)] ?_
   with_reducible refine (curves_ratio_below.calls a1_0 a1_1 (rd l0_1 x12_1) false _ A14.out).mono ?_
   rintro e w19 ⟨rfl, hb⟩
   refine ⟨_, rfl, ?_⟩
   replace BK157 := kB BK157 hb
   replace BK158 := kB BK158 hb
   replace HB := kH _ hb
   (try clear hb)
   (try clear hb2)
   (try clear hk)
   (try clear hi)
   refine hK.out _ _ ⟨bc BK157 0, bc BK157 1, bc BK157 2, bc BK158 0, bc BK158 1, ((HB.out.cell (World.block_lt_of_cell? w _ hw159_0)).trans hw159_0), ((HB.out.cell (World.block_lt_of_cell? w _ hw160_0)).trans hw160_0), ((HB.out.cell (World.block_lt_of_cell? w _ hw161_0)).trans hw161_0)⟩ (fun hHeld => ?_)
   clear hK K
   refine norm_ (a' := ?_) ?_ ?_
   rotate_left
   ·show Act.put _ (some 34) _ = _
    simp only [Act.put, List.setIfInBounds_toArray, List.set_cons_zero, List.set_cons_succ, i64_w, i32_w]
    rfl
   refine pS 20 35 22 2097151 ?_
   refine pS 21 36 22 4194303 ?_
   refine done_ (done_of HT_.out (by kernel_rfl)) ?_
   try go_wp2
   go_roundg k1
   case measure => have := HK1.out; omega
   case rel => exact ⟨(x12_1), (ji10), (by first | rfl | (simp; done) | (simp [*]; done)), (by first | rfl | (simp; done) | (simp only [← hji10] <;> (first | rfl | simp)) | (simp [*]; done)), H', ⟨by have := HK1.out; omega⟩, ⟨bkC BK157⟩, ⟨bkC BK158⟩, ⟨hbC _⟩⟩

end Go.Proofs.YtpnocmkpeogifaaDoor.X
