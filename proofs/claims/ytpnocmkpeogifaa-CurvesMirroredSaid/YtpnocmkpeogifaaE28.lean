/- The walk of Mirror: printed with the ranged slice taken elsewhere, and mended by hand where the loop reads what it writes. -/
import Derived.Test.YtpnocmkpeogifaaX0
import Derived.Test.YtpnocmkpeogifaaXG1a
import Derived.Test.YtpnocmkpeogifaaXf61
namespace Go.Proofs.Ytpnocmkpeogifaa.X
open Go.RowKit Go.Proofs.YtpnocmkpeogifaaW.PrintWords Go.Proofs.YtpnocmkpeogifaaW.PrintLast Go.Proofs.YtpnocmkpeogifaaW.PrintMore
attribute [local go_sem] max2_int min2_int max_two min_two max_three min_three max_four min_four   -- for this text's walks alone
set_option linter.unusedVariables false
set_option linter.unusedSimpArgs false

/-! ### slices_Reverse_int_int: function 62 -/
def slices_Reverse_int_int.l0 : Nat → List Int → Int → Int → Option (List Int)
 | 0, _, _, _ => none
 | k + 1, x0, x2, x3 => if x2 < x3 then (if 0 ≤ x3 then (if x3 < (x0.length : Int) then (if 0 ≤ x2 then (if x2 < (x0.length : Int) then (slices_Reverse_int_int.l0 k ((x0.set (x2 : Int).toNat (rd x0 x3)).set (x3 : Int).toNat (rd x0 x2)) (wrap64 (x2 + 1)) (wrap64 (x3 - 1))) else (none)) else (none)) else (none)) else (none)) else (some x0)
def slices_Reverse_int_int.f (k : Nat) (l0 : List Int) : Option (List Int) := slices_Reverse_int_int.l0 k l0 0 (wrap64 ((l0.length : Int) - 1))
theorem slices_Reverse_int_int.mono_l : ∀ k, (∀ y0 y1 y2, LeO (slices_Reverse_int_int.l0 k y0 y1 y2) (slices_Reverse_int_int.l0 (k + 1) y0 y1 y2))
 | 0 => fun _ _ _ r h => by simp [slices_Reverse_int_int.l0] at h
 | k + 1 => by
  have ih0 := slices_Reverse_int_int.mono_l k
  ·intro y0 y1 y2
   unfold slices_Reverse_int_int.l0
   repeat' first
   | (with_reducible exact ih0 _ _ _)
   | (with_reducible exact LeO.refl _)
   | (with_reducible exact LeO.none _)
   | (with_reducible refine LeO.ite ?_ ?_)
   | (with_reducible refine LeO.bind ?_ (fun _ => ?_))
   | exact ih0 _ _ _
   | exact LeO.none _
   | refine LeO.ite ?_ ?_
   | refine LeO.bind ?_ (fun _ => ?_)
theorem slices_Reverse_int_int.mono : ∀ a0 k, LeO (slices_Reverse_int_int.f k a0) (slices_Reverse_int_int.f (k + 1) a0) := by
 intro a0 k
 have ih0 := slices_Reverse_int_int.mono_l k
 unfold slices_Reverse_int_int.f
 repeat' first
   | (with_reducible exact ih0 _ _ _)
   | (with_reducible exact LeO.refl _)
   | (with_reducible exact LeO.none _)
   | (with_reducible refine LeO.ite ?_ ?_)
   | (with_reducible refine LeO.bind ?_ (fun _ => ?_))
   | exact ih0 _ _ _
   | exact LeO.none _
   | refine LeO.ite ?_ ?_
   | refine LeO.bind ?_ (fun _ => ?_)
def slices_Reverse_int_int.T3 : Bool × List (List Nat × List Nat) := (true, [([], []), ([], []), ([], []), ([], []), ([], []), ([], []), ([4, 5], [4, 5]), ([6], [6]), ([], []), ([], []), ([8, 9], [8, 9]), ([10], [10]), ([0, 1, 0, 1, 4, 5, 6, 7, 11], [0, 1]), ([12, 7, 0, 1, 4, 5, 6, 7, 11], [7, 12]), ([2, 3, 0, 1, 2, 3, 4, 5, 6, 7, 8, 9, 10, 11, 12, 13], [2, 3]), ([14, 11, 13, 0, 1, 2, 3, 4, 5, 6, 7, 8, 9, 10, 11, 12, 13], [11, 14])])
def slices_Reverse_int_int.B3 : List Nat := [0, 0, 0, 0, 0, 0, 48, 112, 0, 0, 768, 1792, 4083, 8179, 16383, 32767]
theorem slices_Reverse_int_int.tab3 : rtab .any (opsOf Try.f62 3) = slices_Reverse_int_int.T3 := by kernel_rfl
theorem slices_Reverse_int_int.bits3 : waitsOk slices_Reverse_int_int.T3.2 slices_Reverse_int_int.B3 = true := by kernel_rfl
set_option maxHeartbeats 8000000 in
set_option maxRecDepth 100000 in
theorem slices_Reverse_int_int.calls (k : Nat) (P0_ : Nat → Prop) (u9000_ : Value) (l0 : List Int) (r : List Int) (w0 w : World) (hB : Below w0.heap.size w0 w) (ho0 : Kd.R (Kd.int .i64) 3 w w0.heap.size P0_ u9000_ l0) (h : slices_Reverse_int_int.f k l0 = some r) :
  Calls Try.prog 62 #[u9000_] w fun e w' => e = .returned (.tuple #[]) ∧ Kd.R (Kd.int .i64) 3 w' w0.heap.size (fun k_ => (P0_ k_ ∨ w.heap.size ≤ k_)) u9000_ r ∧ Below w0.heap.size w0 w' ∧ Kept w w' (fun k_ => P0_ k_) := by
 have HO0 := Aside0.mk (show Kd.R (Kd.int .i64) 3 w w0.heap.size (fun k_ => (P0_ k_ ∨ w.heap.size ≤ k_)) u9000_ l0 from Kd.R_mono ho0 (fun k_ hk => (.inl hk)))
 have HK := Aside0.mk (Kept.refl w (fun k_ => P0_ k_))
 have HW0 := Aside0.mk hB.size
 have HB := Aside0.mk hB
 clear hB
 have H : (slices_Reverse_int_int.l0 k l0 0 (wrap64 ((l0.length : Int) - 1))) = some r := h
 clear h
 have H' := Aside0.mk H
 clear H
 obtain ⟨Ao2, co2, eo2⟩ := Kd.R_slice HO0.out
 subst eo2
 go_enter Try.func62, Try.ntmps62
 go_wp2
 go_loopg [2, 3] k (fun kq v2 v3 w' => ∃ (x0_1 : List Int) (x2_1 : Int) (x3_1 : Int), v2 = .int .i64 x2_1 ∧ v3 = .int .i64 x3_1 ∧ Aside0 (slices_Reverse_int_int.l0 kq x0_1 x2_1 x3_1 = some r) ∧ Aside0 (kq ≤ k) ∧ Aside0 (Kd.R (Kd.int .i64) 3 w' w0.heap.size (fun k_ => (P0_ k_ ∨ w.heap.size ≤ k_)) (.slice Ao2 l0.length co2) x0_1) ∧ Aside0 (Kept w w' (fun k_ => P0_ k_)) ∧ Aside0 (Below w0.heap.size w0 w'))
 case atStart => exact ⟨(l0), (0), (wrap64 ((l0.length : Int) - 1)), (by first | rfl | (simp; done) | (simp [*]; done)), (by first | rfl | (simp; done) | (simp [*]; done)), H', ⟨Nat.le_refl _⟩, ⟨rC HO0⟩, ⟨by repeat (first | (with_reducible first | exact HK.out | apply Kept.alloc | apply Kept.drewN | apply Kept.drew) | exact HK.out)⟩, ⟨hbC _⟩⟩
 case round =>
  clear H'
  try clear p2
  obtain ⟨x0_1, x2_1, x3_1, rfl, rfl, HA, HK1, HO_0, HK, HB⟩ := hrel
  have hl0_1 := (Kd.R_reads' HO_0.out).1
  rw [hl0_1] at HO_0
  (try simp only [hl0_1])
  cases gk with
  | zero => exact absurd HA.out (by simp [slices_Reverse_int_int.l0])
  | succ k1 =>
   have H := HA.out
   clear HA
   simp only [slices_Reverse_int_int.l0] at H
   by_cases c3 : x2_1 < x3_1
   rotate_left
   ·rw [if_neg c3] at H
    have c3b0 : decide (x2_1 < x3_1) = false := decide_eq_false c3
    clear c3
    obtain rfl := Option.some.inj H
    go_wp2
    first | go_end0 | ((try simp only [Exit.inBlock, Exit.then]); refine bodyPost_ret (results_none rfl _ _ _) rfl ?_)
    exact ⟨by first | rfl | (simp [errW_none, errW_some] <;> rfl) | (simp [*, errW_none, errW_some] <;> rfl), (by first | exact (rC HO_0) | (simp only [hl0_1]; exact (rC HO_0))), hbC _, by repeat (first | (with_reducible first | exact HK.out | apply Kept.alloc | apply Kept.drewN | apply Kept.drew) | exact HK.out)⟩
   rw [if_pos c3] at H
   have c3b0 : decide (x2_1 < x3_1) = true := decide_eq_true c3
   clear c3
   by_cases c4 : 0 ≤ x3_1
   rotate_left
   ·rw [if_neg c4] at H
    exact absurd H (by simp)
   rw [if_pos c4] at H
   have c4b0 : decide (0 ≤ x3_1) = true := decide_eq_true c4
   clear c4
   by_cases c5 : x3_1 < (x0_1.length : Int)
   rotate_left
   ·rw [if_neg c5] at H
    exact absurd H (by simp)
   rw [if_pos c5] at H
   have c5b0 : decide (x3_1 < (x0_1.length : Int)) = true := decide_eq_true c5
   clear c5
   by_cases c6 : 0 ≤ x2_1
   rotate_left
   ·rw [if_neg c6] at H
    exact absurd H (by simp)
   rw [if_pos c6] at H
   have c6b0 : decide (0 ≤ x2_1) = true := decide_eq_true c6
   clear c6
   by_cases c7 : x2_1 < (x0_1.length : Int)
   rotate_left
   ·rw [if_neg c7] at H
    exact absurd H (by simp)
   rw [if_pos c7] at H
   have c7b0 : decide (x2_1 < (x0_1.length : Int)) = true := decide_eq_true c7
   clear c7
   obtain ⟨y140, hy140⟩ : ∃ y_ : List Int, y_ = (x0_1.set (x2_1 : Int).toNat (rd x0_1 x3_1)) := ⟨_, rfl⟩
   replace H : (slices_Reverse_int_int.l0 k1 (y140.set (x3_1 : Int).toNat (rd x0_1 x2_1)) (wrap64 (x2_1 + 1)) (wrap64 (x3_1 - 1))) = some r := by first | (rw [hy140]; with_reducible exact H) | (have H2_ := (Option.bind_some _ _).symm.trans H; rw [hy140]; with_reducible exact H2_) | (have H2_ := (Option.bind_some _ _).symm.trans H; with_reducible exact H2_) | with_reducible exact H | (rw [hy140]; exact H) | exact H
   have Ny140 := Aside0.mk hy140
   clear hy140
   obtain ⟨y141, hy141⟩ : ∃ y_ : List Int, y_ = (y140.set (x3_1 : Int).toNat (rd x0_1 x2_1)) := ⟨_, rfl⟩
   replace H : (slices_Reverse_int_int.l0 k1 y141 (wrap64 (x2_1 + 1)) (wrap64 (x3_1 - 1))) = some r := by first | (rw [hy141]; with_reducible exact H) | (have H2_ := (Option.bind_some _ _).symm.trans H; rw [hy141]; with_reducible exact H2_) | (have H2_ := (Option.bind_some _ _).symm.trans H; with_reducible exact H2_) | with_reducible exact H | (rw [hy141]; exact H) | exact H
   have Ny141 := Aside0.mk hy141
   clear hy141
   have H' := Aside0.mk H
   clear H
   try go_wp2
   replace HO_0 := Aside0.mk (Kd.R_drew HO_0.out)
   replace HK := Aside0.mk (Kept.drew HK.out)
   replace HB := Aside0.mk (below_drew1 HB.out)
   have p138 : 0 ≤ (x3_1 : Int) := dA
   have q138 : x3_1 < (x0_1.length : Int) := dA
   obtain ⟨ad138, e138, hx138_0⟩ := Kd.at_int (Kd.R_reads' HO_0.out).2.2 x3_1 p138 q138
   cases e138
   replace p138 := eq_true p138
   replace q138 := eq_true q138
   have p139 : 0 ≤ (x2_1 : Int) := dA
   have q139 : x2_1 < (x0_1.length : Int) := dA
   obtain ⟨ad139, e139, hx139_0⟩ := Kd.at_int (Kd.R_reads' HO_0.out).2.2 x2_1 p139 q139
   obtain rfl : ad138 = ad139 := (by injection e139)
   replace p139 := eq_true p139
   replace q139 := eq_true q139
   have p8 : 0 ≤ (x2_1 : Int) := dA
   have q8 : (x2_1 : Int) < ((x0_1.length : Int) : Int) := dA
   obtain ⟨go8, co8, eo8, gb8, gl8, cl8, HG8⟩ := Kd.R_form HO_0.out (by omega)
   (first | cases eo8 | (injection eo8 with ea_ en_ ec_; (first | subst ea_ | (injection ea_ with ea_; subst ea_)); subst ec_; clear en_))
   have GB8 := Aside0.mk gb8
   have GG8 := Aside0.mk HG8
   clear gb8 gl8 HG8
   have HMgo8 := Aside0.mk (show (P0_ go8 ∨ w.heap.size ≤ go8) from (HO_0.out.1 _ rfl))
   (first | simp only [add_plain] at hx138_0 | skip)
   (first | simp only [add_plain] at hx139_0 | skip)
   obtain ⟨hx8_0, hf8_0⟩ := Kd.R_celln 0 HO_0.out (x2_1 : Int) p8 q8
   replace p8 := eq_true p8
   replace q8 := eq_true q8
   have HP11 := Kd.R_putn HO_0.out (x2_1 : Int) (rd x0_1 x3_1)
   rw [← Ny140.out] at HP11
   have HQ11 := Aside0.mk HP11
   clear HP11
   have p9 : 0 ≤ (x3_1 : Int) := dA
   have q9 : (x3_1 : Int) < ((x0_1.length : Int) : Int) := dA
   obtain ⟨hx9_0, hf9_0⟩ := Kd.R_celln 0 HQ11.out (x3_1 : Int) p9 q9
   replace p9 := eq_true p9
   replace q9 := eq_true q9
   have HP12 := Kd.R_putn HQ11.out (x3_1 : Int) (rd x0_1 x2_1)
   rw [← Ny141.out] at HP12
   have HQ12 := Aside0.mk HP12
   clear HP12
   refine sS (n := 16) (S := fun w' => w'.cell? ⟨go8, (x3_1).toNat, none⟩ = some (.int .i64 (rd x0_1 x3_1)) ∧ w'.cell? ⟨go8, (x2_1).toNat, none⟩ = some (.int .i64 (rd x0_1 x2_1))) (ds := [13, 15]) ⟨hx138_0, hx139_0⟩ (fun hHeld => ?_); refine with_tabW slices_Reverse_int_int.tab3 slices_Reverse_int_int.bits3 (fun HT_ HW_ => ?_)
   generalize wr.drew = w10 at HO_0 HK HB GG8 HQ11 HQ12 hf8_0 hf9_0 hx138_0 hx139_0 hx8_0 hx9_0 hHeld ⊢
   refine pS 0 14 16 1 ?_
   refine pS 1 15 16 3 ?_
   refine pS 2 16 16 7 ?_
   refine pS 3 17 16 15 ?_
   refine pS 4 18 16 31 ?_
   refine pS 5 19 16 63 ?_
   refine pS 6 20 16 127 ?_
   refine pS 8 22 16 383 ?_
   refine pS 9 23 16 895 ?_
   refine pS 10 24 16 1919 ?_
   refine tS 7 21 16 2047 ?_
   refine tS 11 25 16 4095 ?_
   refine pS 12 26 16 8191 ?_
   refine last_ (i := 13) (N := none) (ba 16 16383) rfl rfl (one_of HT_.out (by kernel_rfl)) (by decide) (fun K hK => ?_)
   refine skip_ (w1 := ?_) (by rfl) rfl ?_ ?_
   rotate_left
   ·go_simp
    rfl
   refine hK.out _ _ ?_
   clear hK K
   refine pS 14 27 16 32767 ?_
   refine last_ (i := 15) (N := none) (ba 16 65535) rfl rfl (one_of HT_.out (by kernel_rfl)) (by decide) (fun K hK => ?_)
   refine skip_ (w1 := ?_) (by rfl) rfl ?_ ?_
   rotate_left
   ·go_simp
    rfl
   refine hK.out _ _ ?_
   clear hK K
   refine done_ (done_of HT_.out (by kernel_rfl)) ?_
   try go_wp2
   (try simp only [← hl0_1])
   go_roundg k1
   case measure => have := HK1.out; omega
   case rel => exact ⟨(y141), (wrap64 (x2_1 + 1)), (wrap64 (x3_1 - 1)), (by first | rfl | (simp; done) | (simp [*]; done)), (by first | rfl | (simp; done) | (simp [*]; done)), H', ⟨by have := HK1.out; omega⟩, ⟨by (try simp only [hl0_1]); (with_reducible repeat (first | apply Kd.R_alloc | apply Kd.R_drewN | apply Kd.R_drew)); exact HQ12.out⟩, ⟨by repeat (first | (with_reducible first | exact HK.out | apply Kept.alloc | apply Kept.drewN | apply Kept.drew | refine Kept.setCell ?_ HMgo8.out _ | refine Kept.setCell ?_ HMgo8.out _) | exact HK.out)⟩, ⟨by repeat (first | (with_reducible first | exact HB.out | apply below_alloc | apply pw_below_drewN | apply below_drew1 | refine below_set ?_ GB8.out | refine below_set ?_ GB8.out) | exact HB.out)⟩⟩

theorem slices_Clone_int_int.told {l t : List Int} (h : slices_Clone_int_int.f l = some t) : l = t ∧ l.length < 17592186044416 := by
 unfold slices_Clone_int_int.f at h
 rw [Option.bind_some] at h
 by_cases c : ([] : List Int).length + l.length < 17592186044416
 rotate_left
 ·rw [if_neg c] at h
  exact absurd h (by simp)
 rw [if_pos c] at h
 simp at h c
 exact ⟨h, c⟩
theorem wrap64_small {i : Int} (h0 : -9223372036854775808 ≤ i) (h : i ≤ 9223372036854775807) : wrap64 i = i := by
 unfold wrap64
 omega
theorem rd_set_after {xs ys : List Int} {i v : Int} (h0 : 0 ≤ i) (h : ∀ j : Int, i ≤ j → rd xs j = rd ys j) : ∀ j : Int, i + 1 ≤ j → rd (xs.set i.toNat v) j = rd ys j := by
 intro j hj
 rw [← h j (by omega)]
 unfold rd
 rw [List.getD_eq_getElem?_getD, List.getD_eq_getElem?_getD, List.getElem?_set, if_neg (by omega)]
/-! ### curves_Mirror: function 28 -/
def curves_Mirror.l0 : Nat → List Int → Int → Int → Int → List Int → List Int → Option (Int × List Int × List Int × Int)
 | 0, _, _, _, _, _, _ => none
 | k + 1, x21, x22, x23, x152000, x152001, x152002 => if x23 < x22 then (if 0 ≤ x23 then (if x23 < (x21.length : Int) then (if x23 < (x152001.length : Int) then (curves_Mirror.l0 k x21 x22 (wrap64 (x23 + 1)) x152000 (x152001.set (x23 : Int).toNat (wrap64 (12 - (rd x21 x23)))) x152002) else (none)) else (none)) else (none)) else ((slices_Reverse_int_int.f k x152001).bind fun t154 => ((slices_Reverse_int_int.f k x152002).bind fun t155 => (some (x152000, t154, t155, 0))))
def curves_Mirror.f (k : Nat) (a0_0 : Int) (l0_1 : List Int) (l0_2 : List Int) : Option (Int × List Int × List Int × Int) := (curves_Curve_valid.f k a0_0 l0_1 l0_2).bind fun t144 => (if t144 = true then ((slices_Clone_int_int.f l0_1).bind fun t145 => ((slices_Clone_int_int.f l0_2).bind fun t148 => (curves_Mirror.l0 k l0_1 (l0_1.length : Int) 0 a0_0 t145 t148))) else (some (0, ([] : List Int), ([] : List Int), 2)))
theorem curves_Mirror.mono_l : ∀ k, (∀ y0 y1 y2 y3 y4 y5, LeO (curves_Mirror.l0 k y0 y1 y2 y3 y4 y5) (curves_Mirror.l0 (k + 1) y0 y1 y2 y3 y4 y5))
 | 0 => fun _ _ _ _ _ _ r h => by simp [curves_Mirror.l0] at h
 | k + 1 => by
  have ih0 := curves_Mirror.mono_l k
  ·intro y0 y1 y2 y3 y4 y5
   unfold curves_Mirror.l0
   repeat' first
   | (with_reducible exact ih0 _ _ _ _ _ _)
   | (with_reducible exact curves_Curve_valid.mono _ _ _ _)
   | (with_reducible exact slices_Reverse_int_int.mono _ _)
   | (with_reducible exact LeO.refl _)
   | (with_reducible exact LeO.none _)
   | (with_reducible refine LeO.ite ?_ ?_)
   | (with_reducible refine LeO.bind ?_ (fun _ => ?_))
   | exact ih0 _ _ _ _ _ _
   | exact curves_Curve_valid.mono _ _ _ _
   | exact slices_Reverse_int_int.mono _ _
   | exact LeO.none _
   | refine LeO.ite ?_ ?_
   | refine LeO.bind ?_ (fun _ => ?_)
theorem curves_Mirror.mono : ∀ a0 a1 a2 k, LeO (curves_Mirror.f k a0 a1 a2) (curves_Mirror.f (k + 1) a0 a1 a2) := by
 intro a0 a1 a2 k
 have ih0 := curves_Mirror.mono_l k
 unfold curves_Mirror.f
 repeat' first
   | (with_reducible exact ih0 _ _ _ _ _ _)
   | (with_reducible exact curves_Curve_valid.mono _ _ _ _)
   | (with_reducible exact slices_Reverse_int_int.mono _ _)
   | (with_reducible exact LeO.refl _)
   | (with_reducible exact LeO.none _)
   | (with_reducible refine LeO.ite ?_ ?_)
   | (with_reducible refine LeO.bind ?_ (fun _ => ?_))
   | exact ih0 _ _ _ _ _ _
   | exact curves_Curve_valid.mono _ _ _ _
   | exact slices_Reverse_int_int.mono _ _
   | exact LeO.none _
   | refine LeO.ite ?_ ?_
   | refine LeO.bind ?_ (fun _ => ?_)
def curves_Mirror.T3 : Bool × List (List Nat × List Nat) := (true, [([], []), ([0], [0]), ([], []), ([2], [2]), ([3], [3]), ([], []), ([5], [5]), ([6, 4], [6]), ([1, 4, 7], [1, 4, 7]), ([], []), ([9, 8, 7, 0, 1, 2, 3, 4, 5, 6, 7, 8, 9], [8, 9])])
def curves_Mirror.B3 : List Nat := [0, 1, 0, 4, 12, 0, 32, 124, 255, 0, 1023]
theorem curves_Mirror.tab3 : rtab .any (opsOf Try.f28 3) = curves_Mirror.T3 := by kernel_rfl
theorem curves_Mirror.bits3 : waitsOk curves_Mirror.T3.2 curves_Mirror.B3 = true := by kernel_rfl
set_option maxHeartbeats 8000000 in
set_option maxRecDepth 100000 in
theorem curves_Mirror.calls (k : Nat) (a0_0 : Int) (A0_1 : Option Addr) (c0_1 : Nat) (l0_1 : List Int) (A0_2 : Option Addr) (c0_2 : Nat) (l0_2 : List Int) (r1 : Int) (r2 : List Int) (r3 : List Int) (r4 : Int) (w : World) (hr0_1 : Kd.C (Kd.int .i64) w A0_1 l0_1.length l0_1) (hc0_1 : l0_1.length ≤ c0_1) (hr0_2 : Kd.C (Kd.int .i64) w A0_2 l0_2.length l0_2) (hc0_2 : l0_2.length ≤ c0_2) (h : curves_Mirror.f k a0_0 l0_1 l0_2 = some (r1, r2, r3, r4)) :
  Calls Try.prog 28 #[.agg #[.int .i64 a0_0, .slice A0_1 l0_1.length c0_1, .slice A0_2 l0_2.length c0_2]] w fun e w' => ∃ v1_ v2_ : Value, e = .returned (.tuple #[.agg #[.int .i64 r1, v1_, v2_], .int .i64 r4]) ∧ Kd.R (Kd.int .i64) 3 w' w.heap.size (fun k_ => some k_ ≠ (v2_ : Value).ownBlock) v1_ r2 ∧ Kd.R (Kd.int .i64) 3 w' w.heap.size (fun k_ => some k_ ≠ (v1_ : Value).ownBlock) v2_ r3 ∧ Below w.heap.size w w' := by
 have hu30 := Try.underlying30
 have HR0_1 := Aside0.mk hr0_1
 have HC0_1 := Aside0.mk hc0_1
 clear hr0_1 hc0_1
 have HR0_2 := Aside0.mk hr0_2
 have HC0_2 := Aside0.mk hc0_2
 clear hr0_2 hc0_2
 have HB := Aside0.mk (Below.refl w.heap.size w)
 have H : ((curves_Curve_valid.f k a0_0 l0_1 l0_2).bind fun t144 => (if t144 = true then ((slices_Clone_int_int.f l0_1).bind fun t145 => ((slices_Clone_int_int.f l0_2).bind fun t148 => (curves_Mirror.l0 k l0_1 (l0_1.length : Int) 0 a0_0 t145 t148))) else (some (0, ([] : List Int), ([] : List Int), 2)))) = some (r1, r2, r3, r4) := h
 clear h
 replace H := Option.bind_eq_some_iff.mp H
 obtain ⟨t144, A20, H⟩ := H
 replace H : (if t144 = true then ((slices_Clone_int_int.f l0_1).bind fun t145 => ((slices_Clone_int_int.f l0_2).bind fun t148 => (curves_Mirror.l0 k l0_1 (l0_1.length : Int) 0 a0_0 t145 t148))) else (some (0, ([] : List Int), ([] : List Int), 2))) = some (r1, r2, r3, r4) := H
 have A2 := Aside0.mk A20
 clear A20
 by_cases c3 : t144 = true
 rotate_left
 ·replace c3 := Bool.eq_false_iff.mpr c3
  subst c3
  have H1 : (some (0, ([] : List Int), ([] : List Int), 2)) = some (r1, r2, r3, r4) := by rw [if_neg (show ¬ (false = true) by decide)] at H; exact H
  clear H
  have H := H1
  clear H1
  simp only [Option.some.injEq, Prod.mk.injEq] at H
  obtain ⟨rfl, rfl, rfl, rfl⟩ := H
  go_enter Try.func28, Try.ntmps28
  go_wp2_with (first | ((with_reducible refine gate_dst (N := 1) rfl ?_); refine bE 1 #[.int .i64 a0_0, .slice A0_1 l0_1.length c0_1, .slice A0_2 l0_2.length c0_2] 30 ?_; intro gb142 hg w48 hbox hb; have BK142 := Aside0.mk (hbox); have GW142 := kG w hg; have GE142 := kG w hg; replace HB := kH _ hb; clear hb hbox hg) | ((with_reducible refine gate_dst (N := 2) rfl ?_); refine bE 2 #[.int .i64 0, .slice none 0 0, .slice none 0 0] 30 ?_; intro gb143 hg w49 hbox hb; have BK143 := Aside0.mk (hbox); have GW143 := kG w hg; have GE143 := kG w hg; replace HB := kH _ hb; have NB142_143 := kL BK142 hg; have NB143_142 := kR BK142 hg; replace BK142 := kB BK142 hb; clear hb hbox hg; have hnb50 := NB142_143.out; have hnc50 := NB143_142.out; have hcz51_0 : w49.cell? ⟨gb142, 0, none⟩ = some (.int .i64 a0_0) := bc BK142 0; have hcz51_1 : w49.cell? ⟨gb142, 1, none⟩ = some (.slice A0_1 l0_1.length c0_1) := bc BK142 1; have hcz51_2 : w49.cell? ⟨gb142, 2, none⟩ = some (.slice A0_2 l0_2.length c0_2) := bc BK142 2; have hfz51_0 := fz BK142 0; have hfz51_1 := fz BK142 1; have hfz51_2 := fz BK142 2) | ((with_reducible refine gate_callee (f := 61) rfl ?_); refine gL 8 Try.func61 #[.agg #[.int .i64 a0_0, .slice A0_1 l0_1.length c0_1, .slice A0_2 l0_2.length c0_2]] ?_; (with_reducible refine (curves_Curve_valid.calls k a0_0 _ _ l0_1 _ _ l0_2 false _ ?side1 ?side2 ?side3 ?side4 A2.out).mono ?_); (case side1 => exact kC HR0_1); (case side2 => exact HC0_1.out); (case side3 => exact kC HR0_2); (case side4 => exact HC0_2.out); rintro e w52 ⟨rfl, hb⟩; refine ⟨_, rfl, ?_⟩; replace BK142 := kB BK142 hb; replace BK143 := kB BK143 hb; replace HB := kH _ hb; (try clear hb); (try clear hb2); (try clear hk); (try clear hi); have hcz53_0 : w52.cell? ⟨gb143, 0, none⟩ = some (.int .i64 0) := bc BK143 0; have hcz53_1 : w52.cell? ⟨gb143, 1, none⟩ = some (.slice none 0 0) := bc BK143 1; have hcz53_2 : w52.cell? ⟨gb143, 2, none⟩ = some (.slice none 0 0) := bc BK143 2; have hfz53_0 := fz BK143 0; have hfz53_1 := fz BK143 1; have hfz53_2 := fz BK143 2))
  refine bodyPost_ret (results_ct rfl _ _ gb143 30 #[.int .i64 0, .slice none 0 0, .slice none 0 0] (0, 0) _ rfl (by (with_reducible repeat (first | refine blk_drewN ?_ _ | refine blk_drew ?_ | refine blk_alloc ?_ _)); refine blk_put (cs := #[.int .i64 0, .slice none 0 0, .slice none 0 0]) ?_ 2 _ rfl; (with_reducible repeat (first | refine blk_drewN ?_ _ | refine blk_drew ?_ | refine blk_alloc ?_ _)); refine blk_put (cs := #[.int .i64 0, .slice none 0 0, .slice none 0 0]) ?_ 1 _ rfl; (with_reducible repeat (first | refine blk_drewN ?_ _ | refine blk_drew ?_ | refine blk_alloc ?_ _)); refine blk_put (cs := #[.int .i64 0, .slice none 0 0, .slice none 0 0]) ?_ 0 _ rfl; (with_reducible repeat (first | refine blk_drewN ?_ _ | refine blk_drew ?_ | refine blk_alloc ?_ _)); exact BK143.out) Try.underlying30 rfl (by kernel_rfl)) rfl ?_
  exact ⟨_, _, by first | rfl | (simp [errW_none, errW_some] <;> rfl) | (simp [*, errW_none, errW_some] <;> rfl), by first | exact Kd.R_nil _ _ _ _ _ | exact Kd.N_nil _ _ _ _ _ | exact Kd.V_nil _ _ _ _ _ | exact Kd.Q_nil _ _ _ _ _ | exact Kd.S_nil _ _ _ _ _, by first | exact Kd.R_nil _ _ _ _ _ | exact Kd.N_nil _ _ _ _ _ | exact Kd.V_nil _ _ _ _ _ | exact Kd.Q_nil _ _ _ _ _ | exact Kd.S_nil _ _ _ _ _, hbC _⟩
 subst c3
 have H1 : ((slices_Clone_int_int.f l0_1).bind fun t145 => ((slices_Clone_int_int.f l0_2).bind fun t148 => (curves_Mirror.l0 k l0_1 (l0_1.length : Int) 0 a0_0 t145 t148))) = some (r1, r2, r3, r4) := by rw [if_pos rfl] at H; exact H
 clear H
 have H := H1
 clear H1
 replace H := Option.bind_eq_some_iff.mp H
 obtain ⟨t145, A40, H⟩ := H
 have hcl_ := slices_Clone_int_int.told A40
 have hlen_ := Aside0.mk hcl_.2
 have et_ : l0_1 = t145 := hcl_.1
 clear hcl_
 subst et_
 replace H : ((slices_Clone_int_int.f l0_2).bind fun t148 => (curves_Mirror.l0 k l0_1 (l0_1.length : Int) 0 a0_0 l0_1 t148)) = some (r1, r2, r3, r4) := H
 have A4 := Aside0.mk A40
 clear A40
 replace H := Option.bind_eq_some_iff.mp H
 obtain ⟨t148, A50, H⟩ := H
 replace H : (curves_Mirror.l0 k l0_1 (l0_1.length : Int) 0 a0_0 l0_1 t148) = some (r1, r2, r3, r4) := H
 have A5 := Aside0.mk A50
 clear A50
 have H' := Aside0.mk H
 clear H
 go_enter Try.func28, Try.ntmps28
 try go_wp2_with (first | ((with_reducible refine gate_dst (N := 1) rfl ?_); refine bE 1 #[.int .i64 a0_0, .slice A0_1 l0_1.length c0_1, .slice A0_2 l0_2.length c0_2] 30 ?_; intro gb142 hg w6 hbox hb; have BK142 := Aside0.mk (hbox); have GW142 := kG w hg; have GE142 := kG w hg; replace HB := kH _ hb; clear hb hbox hg) | ((with_reducible refine gate_dst (N := 2) rfl ?_); refine bE 2 #[.int .i64 0, .slice none 0 0, .slice none 0 0] 30 ?_; intro gb143 hg w7 hbox hb; have BK143 := Aside0.mk (hbox); have GW143 := kG w hg; have GE143 := kG w hg; replace HB := kH _ hb; have NB142_143 := kL BK142 hg; have NB143_142 := kR BK142 hg; replace BK142 := kB BK142 hb; clear hb hbox hg; have hnb8 := NB142_143.out; have hnc8 := NB143_142.out; have hcz9_0 : w7.cell? ⟨gb142, 0, none⟩ = some (.int .i64 a0_0) := bc BK142 0; have hcz9_1 : w7.cell? ⟨gb142, 1, none⟩ = some (.slice A0_1 l0_1.length c0_1) := bc BK142 1; have hcz9_2 : w7.cell? ⟨gb142, 2, none⟩ = some (.slice A0_2 l0_2.length c0_2) := bc BK142 2; have hfz9_0 := fz BK142 0; have hfz9_1 := fz BK142 1; have hfz9_2 := fz BK142 2) | ((with_reducible refine gate_callee (f := 61) rfl ?_); refine gL 8 Try.func61 #[.agg #[.int .i64 a0_0, .slice A0_1 l0_1.length c0_1, .slice A0_2 l0_2.length c0_2]] ?_; (with_reducible refine (curves_Curve_valid.calls k a0_0 _ _ l0_1 _ _ l0_2 true _ ?side1 ?side2 ?side3 ?side4 A2.out).mono ?_); (case side1 => exact kC HR0_1); (case side2 => exact HC0_1.out); (case side3 => exact kC HR0_2); (case side4 => exact HC0_2.out); rintro e w10 ⟨rfl, hb⟩; refine ⟨_, rfl, ?_⟩; replace BK142 := kB BK142 hb; replace BK143 := kB BK143 hb; replace HB := kH _ hb; (try clear hb); (try clear hb2); (try clear hk); (try clear hi)))
 replace BK142 := kd BK142
 replace BK143 := kd BK143
 replace HB := Aside0.mk (below_drew1 HB.out)
 refine sS (n := 11) (S := fun w' => w'.cell? ⟨gb142, 0, none⟩ = some (.int .i64 a0_0) ∧ w'.cell? ⟨gb142, 1, none⟩ = some (.slice A0_1 l0_1.length c0_1) ∧ w'.cell? ⟨gb142, 2, none⟩ = some (.slice A0_2 l0_2.length c0_2)) (ds := []) ⟨bc BK142 0, bc BK142 1, bc BK142 2⟩ (fun hHeld => ?_); refine with_tabW curves_Mirror.tab3 curves_Mirror.bits3 (fun HT_ HW_ => ?_)
 generalize w10.drew = w11 at BK142 BK143 HB hHeld ⊢
 refine pS 0 11 11 1 ?_
 refine pS 2 13 11 5 ?_
 refine pS 5 16 11 37 ?_
 refine tS 1 12 11 39 ?_
 refine tS 3 14 11 47 ?_
 refine tS 6 17 11 111 ?_
 refine join_ (σ := Value × Value × Nat) 1 (ba 11 1023) (fun s_ => [(15, s_.1), (18, s_.2.1), (4, .pointer (some ⟨s_.2.2, 0, none⟩)), (19, .agg #[.int .i64 a0_0, s_.1, s_.2.1])]) (fun s_ w' => (w'.cell? ⟨gb142, 0, none⟩ = some (.int .i64 a0_0) ∧ w'.cell? ⟨gb142, 1, none⟩ = some (.slice A0_1 l0_1.length c0_1) ∧ w'.cell? ⟨gb142, 2, none⟩ = some (.slice A0_2 l0_2.length c0_2)) ∧ (Kd.R (Kd.int .i64) 3 w' w.heap.size (fun k_ => some k_ ≠ (s_.2.1 : Value).ownBlock) s_.1 l0_1) ∧ (Kd.R (Kd.int .i64) 3 w' w.heap.size (fun k_ => some k_ ≠ (s_.1 : Value).ownBlock) s_.2.1 t148) ∧ (w'.heap[gb142]? = some (.cells #[.int .i64 a0_0, .slice A0_1 l0_1.length c0_1, .slice A0_2 l0_2.length c0_2] 30 (0, 0))) ∧ (w'.heap[gb143]? = some (.cells #[.int .i64 0, .slice none 0 0, .slice none 0 0] 30 (0, 0))) ∧ (w'.heap[s_.2.2]? = some (.cells #[.int .i64 0, .slice none 0 0, .slice none 0 0] 30 (0, 0))) ∧ (w.heap.size ≤ s_.2.2) ∧ (w.heap.size ≤ s_.2.2) ∧ (gb142 ≠ s_.2.2) ∧ (s_.2.2 ≠ gb142) ∧ (gb143 ≠ s_.2.2) ∧ (s_.2.2 ≠ gb143) ∧ (Below w.heap.size w w')) ?_ ?_
 rotate_left
 ·intro hCont
  refine two_ (i := 4) (j := 9) (Ni := some 15) (Nj := some 4) (ba 11 127) (ba 11 623) rfl rfl rfl rfl (two_of HT_.out (by kernel_rfl)) (by decide) (by decide) (fun K hK => ?_) (fun K hK => ?_)
  ·skip
   refine gC Try.func54 #[.slice A0_1 l0_1.length c0_1] ?_
   with_reducible refine (slices_Clone_int_int.calls _ _ l0_1 l0_1 _ ?side1 ?side2 A4.out).mono ?_
   (case side1 => exact kC HR0_1)
   (case side2 => exact HC0_1.out)
   rintro e w12 ⟨v146, rfl, ho0, hb⟩
   refine ⟨_, rfl, ?_⟩
   have HO147 := Aside0.mk (Kd.R_lower ho0 (below_size (hbC _)))
   replace BK142 := kB BK142 hb
   replace BK143 := kB BK143 hb
   replace HB := kH _ hb
   (try clear hb)
   (try clear hb2)
   (try clear hk)
   (try clear hi)
   (try clear ho0)
   refine hK.out _ _ ⟨bc BK142 0, bc BK142 1, bc BK142 2⟩ (fun hHeld => ?_)
   clear hK K
   refine norm_ (a' := ?_) ?_ ?_
   rotate_left
   ·show Act.put _ (some 15) _ = _
    simp only [Act.put, List.setIfInBounds_toArray, List.set_cons_zero, List.set_cons_succ, i64_w, i32_w]
    rfl
   refine two_ (i := 7) (j := 9) (Ni := some 18) (Nj := some 4) (ba 11 255) (ba 11 639) rfl rfl rfl rfl (two_of HT_.out (by kernel_rfl)) (by decide) (by decide) (fun K hK => ?_) (fun K hK => ?_)
   ·skip
    refine gC Try.func54 #[.slice A0_2 l0_2.length c0_2] ?_
    with_reducible refine (slices_Clone_int_int.calls _ _ l0_2 t148 _ ?side1 ?side2 A5.out).mono ?_
    (case side1 => exact kC HR0_2)
    (case side2 => exact HC0_2.out)
    rintro e w13 ⟨v149, rfl, ho0, hb⟩
    refine ⟨_, rfl, ?_⟩
    have HO150 := Aside0.mk (Kd.R_lower (Kd.R_new' ho0 (Kd.R_lt (rC HO147))) (below_size (hbC _)))
    replace HO147 := Aside0.mk (Kd.R_elder' (rC HO147) (Kd.R_base ho0) hb)
    replace BK142 := kB BK142 hb
    replace BK143 := kB BK143 hb
    replace HB := kH _ hb
    (try clear hb)
    (try clear hb2)
    (try clear hk)
    (try clear hi)
    (try clear ho0)
    obtain ⟨Ao14, co14, eo14⟩ := Kd.R_slice HO150.out
    (first | subst eo14 | (injection eo14 with f1_ f2_ f3_; have f4_ := f1_.symm; have f5_ := f3_.symm; clear f1_ f2_ f3_; subst f4_; subst f5_))
    obtain ⟨Ao15, co15, eo15⟩ := Kd.R_slice HO147.out
    (first | subst eo15 | (injection eo15 with f1_ f2_ f3_; have f4_ := f1_.symm; have f5_ := f3_.symm; clear f1_ f2_ f3_; subst f4_; subst f5_))
    refine hK.out _ _ ⟨bc BK142 0, bc BK142 1, bc BK142 2⟩ (fun hHeld => ?_)
    clear hK K
    refine norm_ (a' := ?_) ?_ ?_
    rotate_left
    ·show Act.put _ (some 18) _ = _
     simp only [Act.put, List.setIfInBounds_toArray, List.set_cons_zero, List.set_cons_succ, i64_w, i32_w]
     rfl
    refine pS 8 19 11 511 ?_
    refine one_ (i := 9) (N := some 4) (ba 11 1023) rfl rfl (one_of HT_.out (by kernel_rfl)) (by decide) (fun K hK => ?_)
    refine box_step ?hg (N := 4) ?hd (cs := #[.int .i64 0, .slice none 0 0, .slice none 0 0]) (t := 30) ?hr ?_; (case hd => rfl); (case hg => rfl); (case hr => first | (go_simp; done) | (go_simp; rfl))
    intro gb151 hg w16 hbox hb
    replace HO147 := kO HO147 hb
    replace HO150 := kO HO150 hb
    have BK151 := Aside0.mk (hbox)
    have GW151 := kG w hg
    have GE151 := kG w hg
    replace HB := kH _ hb
    have NB142_151 := kL BK142 hg
    have NB151_142 := kR BK142 hg
    replace BK142 := kB BK142 hb
    have NB143_151 := kL BK143 hg
    have NB151_143 := kR BK143 hg
    replace BK143 := kB BK143 hb
    clear hb hbox hg
    refine hK.out _ _ ⟨bc BK142 0, bc BK142 1, bc BK142 2⟩ (fun hHeld => ?_)
    clear hK K
    refine norm_ (a' := ?_) ?_ ?_
    rotate_left
    ·show Act.put _ (some 4) _ = _
     simp only [Act.put, List.setIfInBounds_toArray, List.set_cons_zero, List.set_cons_succ, i64_w, i32_w]
     rfl
    exact norm_ (by simp only [putAll, Act.put, List.setIfInBounds_toArray, List.set_cons_zero, List.set_cons_succ]) (hCont (.slice Ao15 l0_1.length co15, .slice Ao14 t148.length co14, gb151) _ ⟨hHeld, (by (with_reducible repeat (first | apply Kd.R_alloc | apply Kd.R_drewN | apply Kd.R_drew)); exact Kd.R_mono HO147.out (fun _ hk => hk.2)), (by (with_reducible repeat (first | apply Kd.R_alloc | apply Kd.R_drewN | apply Kd.R_drew)); exact Kd.R_mono HO150.out (fun _ hk => hk.2)), (bkC BK142), (bkC BK143), (bkC BK151), GW151.out, GE151.out, NB142_151.out, NB151_142.out, NB143_151.out, NB151_143.out, (hbC _)⟩)
   ·skip
    refine box_step ?hg (N := 4) ?hd (cs := #[.int .i64 0, .slice none 0 0, .slice none 0 0]) (t := 30) ?hr ?_; (case hd => rfl); (case hg => rfl); (case hr => first | (go_simp; done) | (go_simp; rfl))
    intro gb151 hg w13 hbox hb
    replace HO147 := kO HO147 hb
    have BK151 := Aside0.mk (hbox)
    have GW151 := kG w hg
    have GE151 := kG w hg
    replace HB := kH _ hb
    have NB142_151 := kL BK142 hg
    have NB151_142 := kR BK142 hg
    replace BK142 := kB BK142 hb
    have NB143_151 := kL BK143 hg
    have NB151_143 := kR BK143 hg
    replace BK143 := kB BK143 hb
    clear hb hbox hg
    refine hK.out _ _ ⟨bc BK142 0, bc BK142 1, bc BK142 2⟩ (fun hHeld => ?_)
    clear hK K
    refine norm_ (a' := ?_) ?_ ?_
    rotate_left
    ·show Act.put _ (some 4) _ = _
     simp only [Act.put, List.setIfInBounds_toArray, List.set_cons_zero, List.set_cons_succ, i64_w, i32_w]
     rfl
    refine one_ (i := 7) (N := some 18) (ba 11 767) rfl rfl (one_of HT_.out (by kernel_rfl)) (by decide) (fun K hK => ?_)
    refine gC Try.func54 #[.slice A0_2 l0_2.length c0_2] ?_
    with_reducible refine (slices_Clone_int_int.calls _ _ l0_2 t148 _ ?side1 ?side2 A5.out).mono ?_
    (case side1 => exact kC HR0_2)
    (case side2 => exact HC0_2.out)
    rintro e w14 ⟨v149, rfl, ho0, hb⟩
    refine ⟨_, rfl, ?_⟩
    have HO150 := Aside0.mk (Kd.R_lower (Kd.R_new' ho0 (Kd.R_lt (rC HO147))) (below_size (hbC _)))
    replace HO147 := Aside0.mk (Kd.R_elder' (rC HO147) (Kd.R_base ho0) hb)
    replace BK142 := kB BK142 hb
    replace BK143 := kB BK143 hb
    replace BK151 := kB BK151 hb
    replace HB := kH _ hb
    (try clear hb)
    (try clear hb2)
    (try clear hk)
    (try clear hi)
    (try clear ho0)
    obtain ⟨Ao15, co15, eo15⟩ := Kd.R_slice HO150.out
    (first | subst eo15 | (injection eo15 with f1_ f2_ f3_; have f4_ := f1_.symm; have f5_ := f3_.symm; clear f1_ f2_ f3_; subst f4_; subst f5_))
    obtain ⟨Ao16, co16, eo16⟩ := Kd.R_slice HO147.out
    (first | subst eo16 | (injection eo16 with f1_ f2_ f3_; have f4_ := f1_.symm; have f5_ := f3_.symm; clear f1_ f2_ f3_; subst f4_; subst f5_))
    refine hK.out _ _ ⟨bc BK142 0, bc BK142 1, bc BK142 2⟩ (fun hHeld => ?_)
    clear hK K
    refine norm_ (a' := ?_) ?_ ?_
    rotate_left
    ·show Act.put _ (some 18) _ = _
     simp only [Act.put, List.setIfInBounds_toArray, List.set_cons_zero, List.set_cons_succ, i64_w, i32_w]
     rfl
    refine pS 8 19 11 1023 ?_
    exact norm_ (by simp only [putAll, Act.put, List.setIfInBounds_toArray, List.set_cons_zero, List.set_cons_succ]) (hCont (.slice Ao16 l0_1.length co16, .slice Ao15 t148.length co15, gb151) _ ⟨hHeld, (by (with_reducible repeat (first | apply Kd.R_alloc | apply Kd.R_drewN | apply Kd.R_drew)); exact Kd.R_mono HO147.out (fun _ hk => hk.2)), (by (with_reducible repeat (first | apply Kd.R_alloc | apply Kd.R_drewN | apply Kd.R_drew)); exact Kd.R_mono HO150.out (fun _ hk => hk.2)), (bkC BK142), (bkC BK143), (bkC BK151), GW151.out, GE151.out, NB142_151.out, NB151_142.out, NB143_151.out, NB151_143.out, (hbC _)⟩)
  ·skip
   refine box_step ?hg (N := 4) ?hd (cs := #[.int .i64 0, .slice none 0 0, .slice none 0 0]) (t := 30) ?hr ?_; (case hd => rfl); (case hg => rfl); (case hr => first | (go_simp; done) | (go_simp; rfl))
   intro gb151 hg w12 hbox hb
   have BK151 := Aside0.mk (hbox)
   have GW151 := kG w hg
   have GE151 := kG w hg
   replace HB := kH _ hb
   have NB142_151 := kL BK142 hg
   have NB151_142 := kR BK142 hg
   replace BK142 := kB BK142 hb
   have NB143_151 := kL BK143 hg
   have NB151_143 := kR BK143 hg
   replace BK143 := kB BK143 hb
   clear hb hbox hg
   refine hK.out _ _ ⟨bc BK142 0, bc BK142 1, bc BK142 2⟩ (fun hHeld => ?_)
   clear hK K
   refine norm_ (a' := ?_) ?_ ?_
   rotate_left
   ·show Act.put _ (some 4) _ = _
    simp only [Act.put, List.setIfInBounds_toArray, List.set_cons_zero, List.set_cons_succ, i64_w, i32_w]
    rfl
   refine one_ (i := 4) (N := some 15) (ba 11 639) rfl rfl (one_of HT_.out (by kernel_rfl)) (by decide) (fun K hK => ?_)
   refine gC Try.func54 #[.slice A0_1 l0_1.length c0_1] ?_
   with_reducible refine (slices_Clone_int_int.calls _ _ l0_1 l0_1 _ ?side1 ?side2 A4.out).mono ?_
   (case side1 => exact kC HR0_1)
   (case side2 => exact HC0_1.out)
   rintro e w13 ⟨v146, rfl, ho0, hb⟩
   refine ⟨_, rfl, ?_⟩
   have HO147 := Aside0.mk (Kd.R_lower ho0 (below_size (hbC _)))
   replace BK142 := kB BK142 hb
   replace BK143 := kB BK143 hb
   replace BK151 := kB BK151 hb
   replace HB := kH _ hb
   (try clear hb)
   (try clear hb2)
   (try clear hk)
   (try clear hi)
   (try clear ho0)
   refine hK.out _ _ ⟨bc BK142 0, bc BK142 1, bc BK142 2⟩ (fun hHeld => ?_)
   clear hK K
   refine norm_ (a' := ?_) ?_ ?_
   rotate_left
   ·show Act.put _ (some 15) _ = _
    simp only [Act.put, List.setIfInBounds_toArray, List.set_cons_zero, List.set_cons_succ, i64_w, i32_w]
    rfl
   refine one_ (i := 7) (N := some 18) (ba 11 767) rfl rfl (one_of HT_.out (by kernel_rfl)) (by decide) (fun K hK => ?_)
   refine gC Try.func54 #[.slice A0_2 l0_2.length c0_2] ?_
   with_reducible refine (slices_Clone_int_int.calls _ _ l0_2 t148 _ ?side1 ?side2 A5.out).mono ?_
   (case side1 => exact kC HR0_2)
   (case side2 => exact HC0_2.out)
   rintro e w14 ⟨v149, rfl, ho0, hb⟩
   refine ⟨_, rfl, ?_⟩
   have HO150 := Aside0.mk (Kd.R_lower (Kd.R_new' ho0 (Kd.R_lt (rC HO147))) (below_size (hbC _)))
   replace HO147 := Aside0.mk (Kd.R_elder' (rC HO147) (Kd.R_base ho0) hb)
   replace BK142 := kB BK142 hb
   replace BK143 := kB BK143 hb
   replace BK151 := kB BK151 hb
   replace HB := kH _ hb
   (try clear hb)
   (try clear hb2)
   (try clear hk)
   (try clear hi)
   (try clear ho0)
   obtain ⟨Ao15, co15, eo15⟩ := Kd.R_slice HO150.out
   (first | subst eo15 | (injection eo15 with f1_ f2_ f3_; have f4_ := f1_.symm; have f5_ := f3_.symm; clear f1_ f2_ f3_; subst f4_; subst f5_))
   obtain ⟨Ao16, co16, eo16⟩ := Kd.R_slice HO147.out
   (first | subst eo16 | (injection eo16 with f1_ f2_ f3_; have f4_ := f1_.symm; have f5_ := f3_.symm; clear f1_ f2_ f3_; subst f4_; subst f5_))
   refine hK.out _ _ ⟨bc BK142 0, bc BK142 1, bc BK142 2⟩ (fun hHeld => ?_)
   clear hK K
   refine norm_ (a' := ?_) ?_ ?_
   rotate_left
   ·show Act.put _ (some 18) _ = _
    simp only [Act.put, List.setIfInBounds_toArray, List.set_cons_zero, List.set_cons_succ, i64_w, i32_w]
    rfl
   refine pS 8 19 11 1023 ?_
   exact norm_ (by simp only [putAll, Act.put, List.setIfInBounds_toArray, List.set_cons_zero, List.set_cons_succ]) (hCont (.slice Ao16 l0_1.length co16, .slice Ao15 t148.length co15, gb151) _ ⟨hHeld, (by (with_reducible repeat (first | apply Kd.R_alloc | apply Kd.R_drewN | apply Kd.R_drew)); exact Kd.R_mono HO147.out (fun _ hk => hk.2)), (by (with_reducible repeat (first | apply Kd.R_alloc | apply Kd.R_drewN | apply Kd.R_drew)); exact Kd.R_mono HO150.out (fun _ hk => hk.2)), (bkC BK142), (bkC BK143), (bkC BK151), GW151.out, GE151.out, NB142_151.out, NB151_142.out, NB143_151.out, NB151_143.out, (hbC _)⟩)
 rintro ⟨v146, v149, gb151⟩ w17 ⟨hS_, h0_, h1_, h2_, h3_, h4_, h5_, h6_, h7_, h8_, h9_, h10_, h11_⟩
 have n0_ : Aside0 (Kd.R (Kd.int .i64) 3 w17 w.heap.size (fun k_ => some k_ ≠ (v149 : Value).ownBlock) v146 l0_1) := ⟨h0_⟩
 have n1_ : Aside0 (Kd.R (Kd.int .i64) 3 w17 w.heap.size (fun k_ => some k_ ≠ (v146 : Value).ownBlock) v149 t148) := ⟨h1_⟩
 have n2_ : Aside0 (w17.heap[gb142]? = some (.cells #[.int .i64 a0_0, .slice A0_1 l0_1.length c0_1, .slice A0_2 l0_2.length c0_2] 30 (0, 0))) := ⟨h2_⟩
 have n3_ : Aside0 (w17.heap[gb143]? = some (.cells #[.int .i64 0, .slice none 0 0, .slice none 0 0] 30 (0, 0))) := ⟨h3_⟩
 have n4_ : Aside0 (w17.heap[gb151]? = some (.cells #[.int .i64 0, .slice none 0 0, .slice none 0 0] 30 (0, 0))) := ⟨h4_⟩
 have n5_ : Aside0 (w.heap.size ≤ gb151) := ⟨h5_⟩
 have n6_ : Aside0 (w.heap.size ≤ gb151) := ⟨h6_⟩
 have n7_ : Aside0 (gb142 ≠ gb151) := ⟨h7_⟩
 have n8_ : Aside0 (gb151 ≠ gb142) := ⟨h8_⟩
 have n9_ : Aside0 (gb143 ≠ gb151) := ⟨h9_⟩
 have n10_ : Aside0 (gb151 ≠ gb143) := ⟨h10_⟩
 have n11_ : Aside0 (Below w.heap.size w w17) := ⟨h11_⟩
 clear BK142
 clear BK143
 clear HB
 clear h0_ h1_ h2_ h3_ h4_ h5_ h6_ h7_ h8_ h9_ h10_ h11_
 have HO147 := n0_
 have HO150 := n1_
 have BK142 := n2_
 have BK143 := n3_
 have BK151 := n4_
 have GW151 := n5_
 have GE151 := n6_
 have NB142_151 := n7_
 have NB151_142 := n8_
 have NB143_151 := n9_
 have NB151_143 := n10_
 have HB := n11_
 clear n0_ n1_ n2_ n3_ n4_ n5_ n6_ n7_ n8_ n9_ n10_ n11_
 have hHeld : w17.cell? ⟨gb142, 0, none⟩ = some (.int .i64 a0_0) ∧ w17.cell? ⟨gb142, 1, none⟩ = some (.slice A0_1 l0_1.length c0_1) ∧ w17.cell? ⟨gb142, 2, none⟩ = some (.slice A0_2 l0_2.length c0_2) := hS_
 obtain ⟨Ao18, co18, eo18⟩ := Kd.R_slice HO150.out
 (first | subst eo18 | (injection eo18 with f1_ f2_ f3_; have f4_ := f1_.symm; have f5_ := f3_.symm; clear f1_ f2_ f3_; subst f4_; subst f5_))
 obtain ⟨Ao19, co19, eo19⟩ := Kd.R_slice HO147.out
 (first | subst eo19 | (injection eo19 with f1_ f2_ f3_; have f4_ := f1_.symm; have f5_ := f3_.symm; clear f1_ f2_ f3_; subst f4_; subst f5_))
 refine norm_ (a' := ?_) ?_ ?_
 rotate_left
 ·simp only [putAll, Act.put, List.setIfInBounds_toArray, List.set_cons_zero, List.set_cons_succ]
  rfl
 refine one_ (i := 10) (N := none) (ba 11 2047) rfl rfl (one_of HT_.out (by kernel_rfl)) (by decide) (fun K hK => ?_)
 have hs20 : w17.cell? ⟨gb151, 0, none⟩ = some (.int .i64 0) := bc BK151 0
 have hfs20 := fz BK151 0
 have hns20_0 := NB142_151.out
 have hns20_1 := NB143_151.out
 have hms20_0 := NB151_142.out
 have hms20_1 := NB151_143.out
 have hs21 : w17.cell? ⟨gb151, 1, none⟩ = some (.slice none 0 0) := bc BK151 1
 have hfs21 := fz BK151 1
 have hns21_0 := NB142_151.out
 have hns21_1 := NB143_151.out
 have hms21_0 := NB151_142.out
 have hms21_1 := NB151_143.out
 have hs22 : w17.cell? ⟨gb151, 2, none⟩ = some (.slice none 0 0) := bc BK151 2
 have hfs22 := fz BK151 2
 have hns22_0 := NB142_151.out
 have hns22_1 := NB143_151.out
 have hms22_0 := NB151_142.out
 have hms22_1 := NB151_143.out
 refine skip_ (w1 := ?_) (by rfl) rfl ?_ ?_
 rotate_left
 ·go_simp
  rfl
 refine hK.out _ _ ⟨((cell_far (p := ⟨gb151, _, none⟩) NB142_151.out _).trans (((cell_far (p := ⟨gb151, _, none⟩) NB142_151.out _).trans (((cell_far (p := ⟨gb151, _, none⟩) NB142_151.out _).trans (hHeld.1)))))), ((cell_far (p := ⟨gb151, _, none⟩) NB142_151.out _).trans (((cell_far (p := ⟨gb151, _, none⟩) NB142_151.out _).trans (((cell_far (p := ⟨gb151, _, none⟩) NB142_151.out _).trans (hHeld.2.1)))))), ((cell_far (p := ⟨gb151, _, none⟩) NB142_151.out _).trans (((cell_far (p := ⟨gb151, _, none⟩) NB142_151.out _).trans (((cell_far (p := ⟨gb151, _, none⟩) NB142_151.out _).trans (hHeld.2.2))))))⟩ (fun hHeld => ?_)
 clear hK K
 refine done_ (done_of HT_.out (by kernel_rfl)) ?_
 have hnb23 := NB142_151.out
 have hnc23 := NB151_142.out
 have hcz24_0 : w17.cell? ⟨gb142, 0, none⟩ = some (.int .i64 a0_0) := bc BK142 0
 have hcz24_1 : w17.cell? ⟨gb142, 1, none⟩ = some (.slice A0_1 l0_1.length c0_1) := bc BK142 1
 have hcz24_2 : w17.cell? ⟨gb142, 2, none⟩ = some (.slice A0_2 l0_2.length c0_2) := bc BK142 2
 have hfz24_0 := fz BK142 0
 have hfz24_1 := fz BK142 1
 have hfz24_2 := fz BK142 2
 try go_wp2
 go_loopg [23] k (fun kq v23 w' => ∃ (x23_1 : Int) (x152001_1 : List Int) (x152002_1 : List Int) (u152001 : Value) (u152002 : Value), v23 = .int .i64 x23_1 ∧ Aside0 (curves_Mirror.l0 kq l0_1 (l0_1.length : Int) x23_1 a0_0 x152001_1 x152002_1 = some (r1, r2, r3, r4)) ∧ Aside0 (kq ≤ k) ∧ Aside0 (Kd.R (Kd.int .i64) 3 w' w.heap.size (fun k_ => some k_ ≠ (u152002 : Value).ownBlock) u152001 x152001_1) ∧ Aside0 (Kd.R (Kd.int .i64) 3 w' w.heap.size (fun k_ => some k_ ≠ (u152001 : Value).ownBlock) u152002 x152002_1) ∧ Aside0 (w'.heap[gb142]? = some (.cells #[.int .i64 a0_0, (.slice A0_1 l0_1.length c0_1), (.slice A0_2 l0_2.length c0_2)] 30 (0, 0))) ∧ Aside0 (w'.heap[gb143]? = some (.cells #[.int .i64 0, (.slice none 0 0), (.slice none 0 0)] 30 (0, 0))) ∧ Aside0 (w'.heap[gb151]? = some (.cells #[.int .i64 a0_0, u152001, u152002] 30 (0, 0))) ∧ Aside0 (Below w.heap.size w w') ∧ Aside0 (u152001 = .slice Ao19 l0_1.length co19) ∧ Aside0 (∀ j_ : Int, x23_1 ≤ j_ → rd x152001_1 j_ = rd l0_1 j_))
 case atStart => exact ⟨(0), (l0_1), (t148), (.slice Ao19 l0_1.length co19), (.slice Ao18 t148.length co18), (by first | rfl | (simp; done) | (simp [*]; done)), H', ⟨Nat.le_refl _⟩, ⟨by (with_reducible repeat (first | apply Kd.R_alloc | apply Kd.R_drewN | apply Kd.R_drew)); exact Kd.R_mono (Kd.R_far (p := ⟨gb151, 2, none⟩) (Kd.R_far (p := ⟨gb151, 1, none⟩) (Kd.R_far (p := ⟨gb151, 0, none⟩) (Kd.R_types HO147.out BK151.out (by decide)) (fun _ hk => hk.2) (.int .i64 a0_0)) (fun _ hk => hk.2) (.slice Ao19 l0_1.length co19)) (fun _ hk => hk.2) (.slice Ao18 t148.length co18)) (fun _ hk => hk.1)⟩, ⟨by (with_reducible repeat (first | apply Kd.R_alloc | apply Kd.R_drewN | apply Kd.R_drew)); exact Kd.R_mono (Kd.R_far (p := ⟨gb151, 2, none⟩) (Kd.R_far (p := ⟨gb151, 1, none⟩) (Kd.R_far (p := ⟨gb151, 0, none⟩) (Kd.R_types HO150.out BK151.out (by decide)) (fun _ hk => hk.2) (.int .i64 a0_0)) (fun _ hk => hk.2) (.slice Ao19 l0_1.length co19)) (fun _ hk => hk.2) (.slice Ao18 t148.length co18)) (fun _ hk => hk.1)⟩, ⟨bF BK142⟩, ⟨bF BK143⟩, ⟨by (with_reducible repeat (first | refine blk_drewN ?_ _ | refine blk_drew ?_ | refine blk_alloc ?_ _)); refine blk_put (cs := #[.int .i64 a0_0, .slice Ao19 l0_1.length co19, .slice none 0 0]) ?_ 2 _ rfl; (with_reducible repeat (first | refine blk_drewN ?_ _ | refine blk_drew ?_ | refine blk_alloc ?_ _)); refine blk_put (cs := #[.int .i64 a0_0, .slice none 0 0, .slice none 0 0]) ?_ 1 _ rfl; (with_reducible repeat (first | refine blk_drewN ?_ _ | refine blk_drew ?_ | refine blk_alloc ?_ _)); refine blk_put (cs := #[.int .i64 0, .slice none 0 0, .slice none 0 0]) ?_ 0 _ rfl; (with_reducible repeat (first | refine blk_drewN ?_ _ | refine blk_drew ?_ | refine blk_alloc ?_ _)); exact BK151.out⟩, ⟨hbC _⟩, ⟨rfl⟩, ⟨fun _ _ => rfl⟩⟩
 case round =>
  clear H'
  try clear c2
  try clear p2
  try clear c3
  try clear c5
  try clear c6
  try clear c8
  try clear c23
  try clear hcz24_0
  try clear hcz24_1
  try clear hcz24_2
  try clear hcz9_0
  try clear hcz9_1
  try clear hcz9_2
  try clear hfz24_0
  try clear hfz24_1
  try clear hfz24_2
  try clear hfz9_0
  try clear hfz9_1
  try clear hfz9_2
  obtain ⟨x23_1, x152001_1, x152002_1, u152001, u152002, rfl, HA, HK1, HO_152001, HO_152002, BK142, BK143, BK151, HB, HU, HJ⟩ := hrel
  cases gk with
  | zero => exact absurd HA.out (by simp [curves_Mirror.l0])
  | succ k1 =>
   have H := HA.out
   clear HA
   simp only [curves_Mirror.l0] at H
   by_cases c25 : x23_1 < (l0_1.length : Int)
   ·rw [if_pos c25] at H
    have c25b0 : decide (x23_1 < (l0_1.length : Int)) = true := decide_eq_true c25
    clear c25
    by_cases c26 : 0 ≤ x23_1
    rotate_left
    ·rw [if_neg c26] at H
     exact absurd H (by simp)
    rw [if_pos c26] at H
    have c26b0 : decide (0 ≤ x23_1) = true := decide_eq_true c26
    clear c26
    by_cases c27 : x23_1 < (l0_1.length : Int)
    rotate_left
    ·rw [if_neg c27] at H
     exact absurd H (by simp)
    rw [if_pos c27] at H
    have c27b0 : decide (x23_1 < (l0_1.length : Int)) = true := decide_eq_true c27
    clear c27
    by_cases c28 : x23_1 < (x152001_1.length : Int)
    rotate_left
    ·rw [if_neg c28] at H
     exact absurd H (by simp)
    rw [if_pos c28] at H
    have c28b0 : decide (x23_1 < (x152001_1.length : Int)) = true := decide_eq_true c28
    clear c28
    obtain ⟨y153, hy153⟩ : ∃ y_ : List Int, y_ = (x152001_1.set (x23_1 : Int).toNat (wrap64 (12 - (rd l0_1 x23_1)))) := ⟨_, rfl⟩
    replace H : (curves_Mirror.l0 k1 l0_1 (l0_1.length : Int) (wrap64 (x23_1 + 1)) a0_0 y153 x152002_1) = some (r1, r2, r3, r4) := by first | (rw [hy153]; with_reducible exact H) | (have H2_ := (Option.bind_some _ _).symm.trans H; rw [hy153]; with_reducible exact H2_) | (have H2_ := (Option.bind_some _ _).symm.trans H; with_reducible exact H2_) | with_reducible exact H | (rw [hy153]; exact H) | exact H
    have Ny153 := Aside0.mk hy153
    clear hy153
    have H' := Aside0.mk H
    clear H
    have p152 : 0 ≤ (x23_1 : Int) := dA
    have q152 : x23_1 < (l0_1.length : Int) := dA
    obtain ⟨ad152, e152, hx152_0⟩ := Kd.at_int HR0_1.out x23_1 p152 q152
    cases e152
    try replace hx152_0 := (HB.out.cell (World.block_lt_of_cell? w _ hx152_0)).trans hx152_0
    replace p152 := eq_true p152
    replace q152 := eq_true q152
    have hnb30 := NB151_142.out
    have hnc30 := NB142_151.out
    have hnb31 := NB151_143.out
    have hnc31 := NB143_151.out
    have hcz32_0 : wr.cell? ⟨gb151, 0, none⟩ = some (.int .i64 a0_0) := bc BK151 0
    have hcz32_1 : wr.cell? ⟨gb151, 1, none⟩ = some (u152001) := bc BK151 1
    have hcz32_2 : wr.cell? ⟨gb151, 2, none⟩ = some (u152002) := bc BK151 2
    have hfz32_0 := fz BK151 0
    have hfz32_1 := fz BK151 1
    have hfz32_2 := fz BK151 2
    have p29 : 0 ≤ (x23_1 : Int) := dA
    have q29 : (x23_1 : Int) < ((x152001_1.length : Int) : Int) := dA
    obtain ⟨go29, co29, eo29, gb29, gl29, cl29, HG29⟩ := Kd.R_form HO_152001.out (by omega)
    (first | cases eo29 | (injection eo29 with ea_ en_ ec_; (first | subst ea_ | (injection ea_ with ea_; subst ea_)); subst ec_; clear en_))
    have GB29 := Aside0.mk gb29
    have GG29 := Aside0.mk HG29
    clear gb29 gl29 HG29
    obtain ⟨hx29_0, hf29_0⟩ := Kd.R_celln 0 HO_152001.out (x23_1 : Int) p29 q29
    rw [show rdOf 0 x152001_1 x23_1 = rd l0_1 x23_1 from HJ.out x23_1 (Int.le_refl _)] at hx29_0
    have hu_ := HU.out
    injection hu_ with hu1_ hu2_ hu3_
    subst hu1_
    subst hu3_
    have HL := Aside0.mk hu2_
    clear hu2_
    replace p29 := eq_true p29
    replace q29 := eq_true q29
    have HP33 := Kd.R_putg HO_152001.out (x23_1 : Int) (wrap64 (12 - (rd l0_1 x23_1)))
    go_wp2_with (first | ((with_reducible refine gate_store (t := 3) (p := 33) rfl ?_); refine store_event (t := 3) (p := 33) (v := ?vo_w34) (w1 := (wr.setCell ⟨go29, (x23_1 : Int).toNat, none⟩ (.int .i64 (wrap64 (12 - (rd l0_1 x23_1)))))) ?hg ?ho ?hn ?hr ?_; (case ho => rfl); (case hg => rfl); (case hn => rfl); (case hr => first | (go_simp; done) | (go_simp; rfl)); intro w34 hw; have hg : wr.grownBy w34 (some go29) := (by rw [hw]; exact HP33.2); have hp_ : Kd.R (Kd.int .i64) 3 w34 w.heap.size (fun k_ => some k_ ≠ (u152002 : Value).ownBlock) (.slice (some ⟨go29, 0, none⟩) x152001_1.length co29) y153 := (by rw [hw, Ny153.out]; exact HP33.1); clear HP33; replace HO_152002 := Aside0.mk (Kd.R_after (v := (.slice (some ⟨go29, 0, none⟩) x152001_1.length co29)) (v1 := (.slice (some ⟨go29, 0, none⟩) x152001_1.length co29)) (ok := (fun _ => True)) (by (with_reducible repeat (first | apply Kd.R_alloc | apply Kd.R_drewN | apply Kd.R_drew)); exact Kd.R_mono HO_152002.out (fun _ hk => ⟨trivial, hk⟩)) hg (.inl rfl)); replace BK142 := Aside0.mk (blk_grown (g := gb142) (o := .cells #[.int .i64 a0_0, .slice (some ad152) l0_1.length c0_1, .slice A0_2 l0_2.length c0_2] 30 (0, 0)) (bkC BK142) hg (Kd.R_ne HO_152001.out BK142.out (by decide))); replace BK143 := Aside0.mk (blk_grown (g := gb143) (o := .cells #[.int .i64 0, .slice none 0 0, .slice none 0 0] 30 (0, 0)) (bkC BK143) hg (Kd.R_ne HO_152001.out BK143.out (by decide))); replace BK151 := Aside0.mk (blk_grown (g := gb151) (o := .cells #[.int .i64 a0_0, .slice (some ⟨go29, 0, none⟩) x152001_1.length co29, u152002] 30 (0, 0)) (bkC BK151) hg (Kd.R_ne HO_152001.out BK151.out (by decide))); replace HO_152001 := Aside0.mk (hp_); replace HB := Aside0.mk ((by rw [hw]; exact below_set (HB.out) GB29.out : Below w.heap.size w w34)); clear hg hw hp_))
    go_roundg k1
    case measure => have := HK1.out; omega
    case rel => exact ⟨(wrap64 (x23_1 + 1)), (y153), (x152002_1), (.slice (some ⟨go29, 0, none⟩) x152001_1.length co29), (u152002), (by first | rfl | (simp; done) | (simp [*]; done)), H', ⟨by have := HK1.out; omega⟩, ⟨rC HO_152001⟩, ⟨by (with_reducible repeat (first | apply Kd.R_alloc | apply Kd.R_drewN | apply Kd.R_drew)); exact Kd.R_mono HO_152002.out (fun _ hk => hk.2)⟩, ⟨bkC BK142⟩, ⟨bkC BK143⟩, ⟨bkC BK151⟩, ⟨hbC _⟩, ⟨by rw [HL.out]⟩, ⟨by have h1_ := hlen_.out; have h2_ := HL.out; have h3_ := of_eq_true p29; have h4_ := of_eq_true q29; rw [Ny153.out, wrap64_small (by omega) (by omega)]; exact rd_set_after (of_eq_true p29) HJ.out⟩⟩
   rw [if_neg c25] at H
   have c25b0 : decide (x23_1 < (l0_1.length : Int)) = false := decide_eq_false c25
   clear c25
   replace H := Option.bind_eq_some_iff.mp H
   obtain ⟨t154, A350, H⟩ := H
   replace H : ((slices_Reverse_int_int.f k1 x152002_1).bind fun t155 => (some (a0_0, t154, t155, 0))) = some (r1, r2, r3, r4) := H
   have A35 := Aside0.mk A350
   clear A350
   replace H := Option.bind_eq_some_iff.mp H
   obtain ⟨t155, A360, H⟩ := H
   replace H : (some (a0_0, t154, t155, 0)) = some (r1, r2, r3, r4) := H
   have A36 := Aside0.mk A360
   clear A360
   simp only [Option.some.injEq, Prod.mk.injEq] at H
   obtain ⟨rfl, rfl, rfl, rfl⟩ := H
   have hnb37 := NB151_142.out
   have hnc37 := NB142_151.out
   have hnb38 := NB151_143.out
   have hnc38 := NB143_151.out
   have hcz39_0 : wr.cell? ⟨gb151, 0, none⟩ = some (.int .i64 a0_0) := bc BK151 0
   have hcz39_1 : wr.cell? ⟨gb151, 1, none⟩ = some (u152001) := bc BK151 1
   have hcz39_2 : wr.cell? ⟨gb151, 2, none⟩ = some (u152002) := bc BK151 2
   have hfz39_0 := fz BK151 0
   have hfz39_1 := fz BK151 1
   have hfz39_2 := fz BK151 2
   obtain ⟨Ao40, co40, eo40⟩ := Kd.R_slice HO_152001.out
   subst eo40
   go_wp2_with (first | ((with_reducible refine gate_callee (f := 62) rfl ?_); refine gL 37 Try.func62 #[.slice Ao40 x152001_1.length co40] ?_; (with_reducible refine (slices_Reverse_int_int.calls k1 (fun k_ => some k_ = (.slice Ao40 x152001_1.length co40 : Value).ownBlock) (.slice Ao40 x152001_1.length co40) x152001_1 t154 w _ ?side1 ?side2 A35.out).mono ?_); (case side1 => repeat (first | (with_reducible first | exact HB.out | apply below_alloc | apply pw_below_drewN | apply below_drew1 | refine below_set ?_ GE142.out | refine below_set ?_ GE143.out | refine below_set ?_ GE151.out) | exact HB.out)); (case side2 => exact Kd.R_tight rfl HO_152001.out); rintro e w41 ⟨rfl, hy0, hb, hkp⟩; refine ⟨_, rfl, ?_⟩; replace HO_152002 := Aside0.mk (Kd.R_mono (ok' := fun k_ => some k_ ≠ (.slice Ao40 x152001_1.length co40 : Value).ownBlock) (Kd.R_keptB (HO_152002.out) hkp (fun k_ hk_ hs_ => (hk_) hs_)) (fun k_ hk_ => hk_.1)); replace BK142 := Aside0.mk (blk_kept (bkC BK142) hkp (fun hs_ => (fun e_ => (Kd.R_ne HO_152001.out BK142.out (by decide)) e_) hs_)); replace BK143 := Aside0.mk (blk_kept (bkC BK143) hkp (fun hs_ => (fun e_ => (Kd.R_ne HO_152001.out BK143.out (by decide)) e_) hs_)); replace BK151 := Aside0.mk (blk_kept (bkC BK151) hkp (fun hs_ => (fun e_ => (Kd.R_ne HO_152001.out BK151.out (by decide)) e_) hs_)); replace HO_152001 := Aside0.mk (Kd.R_reok rfl hy0 (fun k_ e_ => HO_152001.out.1 k_ e_)); replace HB := Aside0.mk (hb); (try clear hb); (try clear hkp); (try clear hy0); have hcz42_0 : w41.cell? ⟨gb151, 0, none⟩ = some (.int .i64 a0_0) := bc BK151 0; have hcz42_1 : w41.cell? ⟨gb151, 1, none⟩ = some (.slice Ao40 x152001_1.length co40) := bc BK151 1; have hcz42_2 : w41.cell? ⟨gb151, 2, none⟩ = some (u152002) := bc BK151 2; have hfz42_0 := fz BK151 0; have hfz42_1 := fz BK151 1; have hfz42_2 := fz BK151 2; obtain ⟨Ao43, co43, eo43⟩ := Kd.R_slice HO_152002.out; subst eo43) | ((with_reducible refine gate_callee (f := 62) rfl ?_); refine gL 40 Try.func62 #[.slice Ao43 x152002_1.length co43] ?_; (with_reducible refine (slices_Reverse_int_int.calls k1 (fun k_ => some k_ = (.slice Ao43 x152002_1.length co43 : Value).ownBlock) (.slice Ao43 x152002_1.length co43) x152002_1 t155 w _ ?side1 ?side2 A36.out).mono ?_); (case side1 => repeat (first | (with_reducible first | exact HB.out | apply below_alloc | apply pw_below_drewN | apply below_drew1 | refine below_set ?_ GE142.out | refine below_set ?_ GE143.out | refine below_set ?_ GE151.out) | exact HB.out)); (case side2 => exact Kd.R_tight rfl HO_152002.out); rintro e w44 ⟨rfl, hy0, hb, hkp⟩; refine ⟨_, rfl, ?_⟩; replace HO_152001 := Aside0.mk (Kd.R_mono (ok' := fun k_ => some k_ ≠ (.slice Ao43 x152002_1.length co43 : Value).ownBlock) (Kd.R_keptB (HO_152001.out) hkp (fun k_ hk_ hs_ => (hk_) hs_)) (fun k_ hk_ => hk_.1)); replace BK142 := Aside0.mk (blk_kept (bkC BK142) hkp (fun hs_ => (fun e_ => (Kd.R_ne HO_152002.out BK142.out (by decide)) e_) hs_)); replace BK143 := Aside0.mk (blk_kept (bkC BK143) hkp (fun hs_ => (fun e_ => (Kd.R_ne HO_152002.out BK143.out (by decide)) e_) hs_)); replace BK151 := Aside0.mk (blk_kept (bkC BK151) hkp (fun hs_ => (fun e_ => (Kd.R_ne HO_152002.out BK151.out (by decide)) e_) hs_)); replace HO_152002 := Aside0.mk (Kd.R_reok rfl hy0 (fun k_ e_ => HO_152002.out.1 k_ e_)); replace HB := Aside0.mk (hb); (try clear hb); (try clear hkp); (try clear hy0); have hcz45_0 : w44.cell? ⟨gb151, 0, none⟩ = some (.int .i64 a0_0) := bc BK151 0; have hcz45_1 : w44.cell? ⟨gb151, 1, none⟩ = some (.slice Ao40 x152001_1.length co40) := bc BK151 1; have hcz45_2 : w44.cell? ⟨gb151, 2, none⟩ = some (.slice Ao43 x152002_1.length co43) := bc BK151 2; have hfz45_0 := fz BK151 0; have hfz45_1 := fz BK151 1; have hfz45_2 := fz BK151 2; have hnb46 := NB143_142.out; have hnc46 := NB142_143.out; have hcz47_0 : w44.cell? ⟨gb143, 0, none⟩ = some (.int .i64 0) := bc BK143 0; have hcz47_1 : w44.cell? ⟨gb143, 1, none⟩ = some (.slice none 0 0) := bc BK143 1; have hcz47_2 : w44.cell? ⟨gb143, 2, none⟩ = some (.slice none 0 0) := bc BK143 2; have hfz47_0 := fz BK143 0; have hfz47_1 := fz BK143 1; have hfz47_2 := fz BK143 2))
   refine bodyPost_ret (results_ct rfl _ _ gb143 30 #[.int .i64 a0_0, .slice Ao40 x152001_1.length co40, .slice Ao43 x152002_1.length co43] (0, 0) _ rfl (by (with_reducible repeat (first | refine blk_drewN ?_ _ | refine blk_drew ?_ | refine blk_alloc ?_ _)); refine blk_put (cs := #[.int .i64 a0_0, .slice Ao40 x152001_1.length co40, .slice none 0 0]) ?_ 2 _ rfl; (with_reducible repeat (first | refine blk_drewN ?_ _ | refine blk_drew ?_ | refine blk_alloc ?_ _)); refine blk_put (cs := #[.int .i64 a0_0, .slice none 0 0, .slice none 0 0]) ?_ 1 _ rfl; (with_reducible repeat (first | refine blk_drewN ?_ _ | refine blk_drew ?_ | refine blk_alloc ?_ _)); refine blk_put (cs := #[.int .i64 0, .slice none 0 0, .slice none 0 0]) ?_ 0 _ rfl; (with_reducible repeat (first | refine blk_drewN ?_ _ | refine blk_drew ?_ | refine blk_alloc ?_ _)); exact BK143.out) Try.underlying30 rfl (by kernel_rfl)) rfl ?_
   exact ⟨_, _, by first | rfl | (simp [errW_none, errW_some] <;> rfl) | (simp [*, errW_none, errW_some] <;> rfl), by (with_reducible repeat (first | apply Kd.R_alloc | apply Kd.R_drewN | apply Kd.R_drew)); exact Kd.R_mono (Kd.R_far (p := ⟨gb143, 2, none⟩) (Kd.R_far (p := ⟨gb143, 1, none⟩) (Kd.R_far (p := ⟨gb143, 0, none⟩) (Kd.R_types HO_152001.out BK143.out (by decide)) (fun _ hk => hk.2) (.int .i64 a0_0)) (fun _ hk => hk.2) (.slice Ao40 x152001_1.length co40)) (fun _ hk => hk.2) (.slice Ao43 x152002_1.length co43)) (fun _ hk => hk.1), by (with_reducible repeat (first | apply Kd.R_alloc | apply Kd.R_drewN | apply Kd.R_drew)); exact Kd.R_mono (Kd.R_far (p := ⟨gb143, 2, none⟩) (Kd.R_far (p := ⟨gb143, 1, none⟩) (Kd.R_far (p := ⟨gb143, 0, none⟩) (Kd.R_types HO_152002.out BK143.out (by decide)) (fun _ hk => hk.2) (.int .i64 a0_0)) (fun _ hk => hk.2) (.slice Ao40 x152001_1.length co40)) (fun _ hk => hk.2) (.slice Ao43 x152002_1.length co43)) (fun _ hk => hk.1), hbC _⟩

end Go.Proofs.Ytpnocmkpeogifaa.X
