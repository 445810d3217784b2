-- Written by a program of this work (wip/xprint.py, over the kit's printer) out of the translation.
import Derived.Test.YtpnocmkpeogifaaX0
namespace Go.Proofs.Ytpnocmkpeogifaa.X
open Go.RowKit Go.Proofs.YtpnocmkpeogifaaW.PrintWords Go.Proofs.YtpnocmkpeogifaaW.PrintLast Go.Proofs.YtpnocmkpeogifaaW.PrintMore
attribute [local go_sem] max2_int min2_int max_two min_two max_three min_three max_four min_four   -- for this text's walks alone
set_option linter.unusedVariables false
set_option linter.unusedSimpArgs false

/-! ### congouref04_Longer: function 45 -/
def congouref04_Longer.l0 : Nat → Int → Int → Int → List Int → List Int → Option (List Int)
 | 0, _, _, _, _, _ => none
 | k + 1, x1, x5, x1009000, x1009001, x1009002 => if x5 < (x1009001.length : Int) then (if 0 ≤ x5 then (if (rd x1009001 x5) ≤ x1 then (congouref04_Longer.l0 k x1 (wrap64 (x5 + 1)) x1009000 x1009001 x1009002) else ((some (([] : List Int) : List Int)).bind fun y1010 => (if x5 ≤ (x1009001.length : Int) then (if y1010.length + (x1009001.take (x5 : Int).toNat).length < 17592186044416 then ((some (y1010 ++ (x1009001.take (x5 : Int).toNat) : List Int)).bind fun y1014 => ((some (([x1] : List Int) : List Int)).bind fun y1017 => (if y1014.length + y1017.length < 17592186044416 then ((some (y1014 ++ y1017 : List Int)).bind fun y1020 => (if y1020.length + (x1009001.drop (x5 : Int).toNat).length < 17592186044416 then (some (y1020 ++ (x1009001.drop (x5 : Int).toNat))) else (none))) else (none)))) else (none)) else (none)))) else (none)) else ((some (([] : List Int) : List Int)).bind fun y1027 => (if 0 ≤ x5 then (if x5 ≤ (x1009001.length : Int) then (if y1027.length + (x1009001.take (x5 : Int).toNat).length < 17592186044416 then ((some (y1027 ++ (x1009001.take (x5 : Int).toNat) : List Int)).bind fun y1031 => ((some (([x1] : List Int) : List Int)).bind fun y1034 => (if y1031.length + y1034.length < 17592186044416 then ((some (y1031 ++ y1034 : List Int)).bind fun y1037 => (if y1037.length + (x1009001.drop (x5 : Int).toNat).length < 17592186044416 then (some (y1037 ++ (x1009001.drop (x5 : Int).toNat))) else (none))) else (none)))) else (none)) else (none)) else (none)))
def congouref04_Longer.f (k : Nat) (a0_0 : Int) (l0_1 : List Int) (l0_2 : List Int) (a1 : Int) : Option (List Int) := congouref04_Longer.l0 k a1 0 a0_0 l0_1 l0_2
theorem congouref04_Longer.mono_l : ∀ k, (∀ y0 y1 y2 y3 y4, LeO (congouref04_Longer.l0 k y0 y1 y2 y3 y4) (congouref04_Longer.l0 (k + 1) y0 y1 y2 y3 y4))
 | 0 => fun _ _ _ _ _ r h => by simp [congouref04_Longer.l0] at h
 | k + 1 => by
  have ih0 := congouref04_Longer.mono_l k
  ·intro y0 y1 y2 y3 y4
   unfold congouref04_Longer.l0
   repeat' first
   | (with_reducible exact ih0 _ _ _ _ _)
   | (with_reducible exact LeO.refl _)
   | (with_reducible exact LeO.none _)
   | (with_reducible refine LeO.ite ?_ ?_)
   | (with_reducible refine LeO.bind ?_ (fun _ => ?_))
   | exact ih0 _ _ _ _ _
   | exact LeO.none _
   | refine LeO.ite ?_ ?_
   | refine LeO.bind ?_ (fun _ => ?_)
theorem congouref04_Longer.mono : ∀ a0 a1 a2 a3 k, LeO (congouref04_Longer.f k a0 a1 a2 a3) (congouref04_Longer.f (k + 1) a0 a1 a2 a3) := by
 intro a0 a1 a2 a3 k
 have ih0 := congouref04_Longer.mono_l k
 unfold congouref04_Longer.f
 repeat' first
   | (with_reducible exact ih0 _ _ _ _ _)
   | (with_reducible exact LeO.refl _)
   | (with_reducible exact LeO.none _)
   | (with_reducible refine LeO.ite ?_ ?_)
   | (with_reducible refine LeO.bind ?_ (fun _ => ?_))
   | exact ih0 _ _ _ _ _
   | exact LeO.none _
   | refine LeO.ite ?_ ?_
   | refine LeO.bind ?_ (fun _ => ?_)
def congouref04_Longer.T4 : Bool × List (List Nat × List Nat) := (true, [([], []), ([], []), ([1], [1]), ([], []), ([2, 3], [2, 3]), ([0, 4], [0, 4]), ([], []), ([6], [6]), ([5, 7, 5], [5, 7]), ([], []), ([9], [9]), ([], []), ([10, 11], [10, 11]), ([8, 12, 8], [8, 12]), ([13, 13, 0, 1, 2, 3, 4, 5, 6, 7, 8, 9, 10, 11, 12, 13], [13])])
def congouref04_Longer.B4 : List Nat := [0, 0, 2, 0, 14, 31, 0, 64, 255, 0, 512, 0, 3584, 8191, 16383]
theorem congouref04_Longer.tab4 : rtab .any (opsOf Try.f45 4) = congouref04_Longer.T4 := by kernel_rfl
theorem congouref04_Longer.bits4 : waitsOk congouref04_Longer.T4.2 congouref04_Longer.B4 = true := by kernel_rfl
set_option maxHeartbeats 8000000 in
set_option maxRecDepth 100000 in
theorem congouref04_Longer.calls (k : Nat) (a0_0 : Int) (A0_1 : Option Addr) (c0_1 : Nat) (l0_1 : List Int) (A0_2 : Option Addr) (c0_2 : Nat) (l0_2 : List Int) (a1 : Int) (r : List Int) (w : World) (hr0_1 : Kd.C (Kd.int .i64) w A0_1 l0_1.length l0_1) (hc0_1 : l0_1.length ≤ c0_1) (hr0_2 : Kd.C (Kd.int .i64) w A0_2 l0_2.length l0_2) (hc0_2 : l0_2.length ≤ c0_2) (h : congouref04_Longer.f k a0_0 l0_1 l0_2 a1 = some r) :
  Calls Try.prog 45 #[.agg #[.int .i64 a0_0, .slice A0_1 l0_1.length c0_1, .slice A0_2 l0_2.length c0_2], .int .i64 a1] w fun e w' => ∃ v0_ : Value, e = .returned (v0_) ∧ Kd.R (Kd.int .i64) 3 w' w.heap.size (fun _ => True) v0_ r ∧ Below w.heap.size w w' := by
 have hu24 := Try.underlying24
 have HR0_1 := Aside0.mk hr0_1
 have HC0_1 := Aside0.mk hc0_1
 clear hr0_1 hc0_1
 have HR0_2 := Aside0.mk hr0_2
 have HC0_2 := Aside0.mk hc0_2
 clear hr0_2 hc0_2
 have HB := ak (Below.refl w.heap.size w)
 have H : (congouref04_Longer.l0 k a1 0 a0_0 l0_1 l0_2) = some r := h
 clear h
 have H' := Aside0.mk H
 clear H
 go_enter Try.func45, Try.ntmps45
 go_wp2_with (first | ((with_reducible refine gate_dst (N := 2) rfl ?_); refine bE 2 #[.int .i64 a0_0, .slice A0_1 l0_1.length c0_1, .slice A0_2 l0_2.length c0_2] 24 ?_; intro gb1008 hg w3 hbox hb; have BK1008 := ak (hbox); have GW1008 := kG w hg; have GE1008 := kG w hg; replace HB := kH _ hb; clear hb hbox hg))
 go_loopg [5] k (fun kq v5 w' => ∃ (x5_1 : Int), v5 = .int .i64 x5_1 ∧ Aside0 (congouref04_Longer.l0 kq a1 x5_1 a0_0 l0_1 l0_2 = some r) ∧ Aside0 (kq ≤ k) ∧ Aside0 (w'.heap[gb1008]? = some (.cells #[.int .i64 a0_0, (.slice A0_1 l0_1.length c0_1), (.slice A0_2 l0_2.length c0_2)] 24 (0, 0))) ∧ Aside0 (Below w.heap.size w w'))
 case atStart => exact ⟨(0), (by first | rfl | (simp; done) | (simp [*]; done)), H', ⟨Nat.le_refl _⟩, ⟨bkC BK1008⟩, ⟨hbC _⟩⟩
 case round =>
  clear H'
  try clear p2
  obtain ⟨x5_1, rfl, HA, HK1, BK1008, HB⟩ := hrel
  cases gk with
  | zero => exact absurd HA.out (by simp [congouref04_Longer.l0])
  | succ k1 =>
   have H := HA.out
   clear HA
   simp only [congouref04_Longer.l0] at H
   by_cases c4 : x5_1 < (l0_1.length : Int)
   rotate_left
   ·rw [if_neg c4] at H
    have c4b0 : decide (x5_1 < (l0_1.length : Int)) = false := decide_eq_false c4
    clear c4
    obtain ⟨y1027, hy1027⟩ : ∃ y_ : List Int, y_ = (([] : List Int)) := ⟨_, rfl⟩
    replace H : (if 0 ≤ x5_1 then (if x5_1 ≤ (l0_1.length : Int) then (if y1027.length + (l0_1.take (x5_1 : Int).toNat).length < 17592186044416 then ((some (y1027 ++ (l0_1.take (x5_1 : Int).toNat) : List Int)).bind fun y1031 => ((some (([a1] : List Int) : List Int)).bind fun y1034 => (if y1031.length + y1034.length < 17592186044416 then ((some (y1031 ++ y1034 : List Int)).bind fun y1037 => (if y1037.length + (l0_1.drop (x5_1 : Int).toNat).length < 17592186044416 then (some (y1037 ++ (l0_1.drop (x5_1 : Int).toNat))) else (none))) else (none)))) else (none)) else (none)) else (none)) = some r := by first | (rw [hy1027]; with_reducible exact H) | (have H2_ := (Option.bind_some _ _).symm.trans H; rw [hy1027]; with_reducible exact H2_) | (have H2_ := (Option.bind_some _ _).symm.trans H; with_reducible exact H2_) | with_reducible exact H | (rw [hy1027]; exact H) | exact H
    have Ny1027 := Aside0.mk hy1027
    clear hy1027
    by_cases c28 : 0 ≤ x5_1
    rotate_left
    ·rw [if_neg c28] at H
     exact absurd H (by simp)
    rw [if_pos c28] at H
    have c28b0 := eq_true c28
    have c28b1 : decide (0 ≤ x5_1) = true := decide_eq_true c28
    clear c28
    by_cases c29 : x5_1 ≤ (l0_1.length : Int)
    rotate_left
    ·rw [if_neg c29] at H
     exact absurd H (by simp)
    rw [if_pos c29] at H
    have c29b0 := eq_true c29
    have c29b1 : decide (x5_1 ≤ (l0_1.length : Int)) = true := decide_eq_true c29
    clear c29
    by_cases c30 : y1027.length + (l0_1.take (x5_1 : Int).toNat).length < 17592186044416
    rotate_left
    ·rw [if_neg c30] at H
     exact absurd H (by simp)
    rw [if_pos c30] at H
    have LMc30 := Aside0.mk c30
    clear c30
    obtain ⟨y1031, hy1031⟩ : ∃ y_ : List Int, y_ = (y1027 ++ (l0_1.take (x5_1 : Int).toNat)) := ⟨_, rfl⟩
    replace H : ((some (([a1] : List Int) : List Int)).bind fun y1034 => (if y1031.length + y1034.length < 17592186044416 then ((some (y1031 ++ y1034 : List Int)).bind fun y1037 => (if y1037.length + (l0_1.drop (x5_1 : Int).toNat).length < 17592186044416 then (some (y1037 ++ (l0_1.drop (x5_1 : Int).toNat))) else (none))) else (none))) = some r := by first | (rw [hy1031]; with_reducible exact H) | (have H2_ := (Option.bind_some _ _).symm.trans H; rw [hy1031]; with_reducible exact H2_) | (have H2_ := (Option.bind_some _ _).symm.trans H; with_reducible exact H2_) | with_reducible exact H | (rw [hy1031]; exact H) | exact H
    have Ny1031 := Aside0.mk hy1031
    clear hy1031
    obtain ⟨y1034, hy1034⟩ : ∃ y_ : List Int, y_ = (([a1] : List Int)) := ⟨_, rfl⟩
    replace H : (if y1031.length + y1034.length < 17592186044416 then ((some (y1031 ++ y1034 : List Int)).bind fun y1037 => (if y1037.length + (l0_1.drop (x5_1 : Int).toNat).length < 17592186044416 then (some (y1037 ++ (l0_1.drop (x5_1 : Int).toNat))) else (none))) else (none)) = some r := by first | (rw [hy1034]; with_reducible exact H) | (have H2_ := (Option.bind_some _ _).symm.trans H; rw [hy1034]; with_reducible exact H2_) | (have H2_ := (Option.bind_some _ _).symm.trans H; with_reducible exact H2_) | with_reducible exact H | (rw [hy1034]; exact H) | exact H
    have Ny1034 := Aside0.mk hy1034
    clear hy1034
    by_cases c31 : y1031.length + y1034.length < 17592186044416
    rotate_left
    ·rw [if_neg c31] at H
     exact absurd H (by simp)
    rw [if_pos c31] at H
    have LMc31 := Aside0.mk c31
    clear c31
    obtain ⟨y1037, hy1037⟩ : ∃ y_ : List Int, y_ = (y1031 ++ y1034) := ⟨_, rfl⟩
    replace H : (if y1037.length + (l0_1.drop (x5_1 : Int).toNat).length < 17592186044416 then (some (y1037 ++ (l0_1.drop (x5_1 : Int).toNat))) else (none)) = some r := by first | (rw [hy1037]; with_reducible exact H) | (have H2_ := (Option.bind_some _ _).symm.trans H; rw [hy1037]; with_reducible exact H2_) | (have H2_ := (Option.bind_some _ _).symm.trans H; with_reducible exact H2_) | with_reducible exact H | (rw [hy1037]; exact H) | exact H
    have Ny1037 := Aside0.mk hy1037
    clear hy1037
    have c32b0 := eq_true (dA : 0 ≤ x5_1)
    have c33b0 := eq_true (dA : x5_1 ≤ (l0_1.length : Int))
    by_cases c34 : y1037.length + (l0_1.drop (x5_1 : Int).toNat).length < 17592186044416
    rotate_left
    ·rw [if_neg c34] at H
     exact absurd H (by simp)
    rw [if_pos c34] at H
    have LMc34 := Aside0.mk c34
    clear c34
    obtain ⟨y1041, hy1041⟩ : ∃ y_ : List Int, y_ = (y1037 ++ (l0_1.drop (x5_1 : Int).toNat)) := ⟨_, rfl⟩
    replace H : (some y1041) = some r := by first | (rw [hy1041]; with_reducible exact H) | (have H2_ := (Option.bind_some _ _).symm.trans H; rw [hy1041]; with_reducible exact H2_) | (have H2_ := (Option.bind_some _ _).symm.trans H; with_reducible exact H2_) | with_reducible exact H | (rw [hy1041]; exact H) | exact H
    have Ny1041 := Aside0.mk hy1041
    clear hy1041
    obtain rfl := Option.some.inj H
    have hcz35_0 : wr.cell? ⟨gb1008, 0, none⟩ = some (.int .i64 a0_0) := bc BK1008 0
    have hcz35_1 : wr.cell? ⟨gb1008, 1, none⟩ = some (.slice A0_1 l0_1.length c0_1) := bc BK1008 1
    have hcz35_2 : wr.cell? ⟨gb1008, 2, none⟩ = some (.slice A0_2 l0_2.length c0_2) := bc BK1008 2
    have hfz35_0 := fz BK1008 0
    have hfz35_1 := fz BK1008 1
    have hfz35_2 := fz BK1008 2
    try go_wp2
    replace BK1008 := kd BK1008
    replace HB := ak (below_drew1 HB.out)
    obtain ⟨i037, hi037, _, hsz37, _⟩ := info_parts info3
    obtain ⟨hcut37, hA37, hC37⟩ := print_take_of (P := Try.prog) (Value.int .i64) 0 22 3 .i64 Try.underlying22 hi037 hsz37 A0_1 c0_1 l0_1 x5_1 (dA) (dA) HC0_1.out
    have HR1030 := ak (Kd.C_of_reads (h1 := fun _ => rfl) (hA37 _ (Kd.reads_of_C HR0_1.out)))
    have HC1030 := Aside0.mk hC37
    clear hA37 hC37 hi037 hsz37
    obtain ⟨i038, hi038, _, hsz38, _⟩ := info_parts info3
    obtain ⟨A38, hcut38, hA38, hC38⟩ := print_drop_of (P := Try.prog) (Value.int .i64) 0 22 3 .i64 Try.underlying22 hi038 hsz38 A0_1 c0_1 l0_1 x5_1 (dA) (dA) HC0_1.out
    have HR1040 := ak (Kd.C_of_reads (h1 := fun _ => rfl) (hA38 _ (Kd.reads_of_C HR0_1.out)))
    have HC1040 := Aside0.mk hC38
    clear hA38 hC38 hi038 hsz38
    refine sS (n := 15) (S := fun w' => w'.cell? ⟨gb1008, 0, none⟩ = some (.int .i64 a0_0) ∧ w'.cell? ⟨gb1008, 1, none⟩ = some (.slice A0_1 l0_1.length c0_1) ∧ w'.cell? ⟨gb1008, 2, none⟩ = some (.slice A0_2 l0_2.length c0_2)) (ds := []) ⟨bc BK1008 0, bc BK1008 1, bc BK1008 2⟩ (fun hHeld => ?_); refine with_tabW congouref04_Longer.tab4 congouref04_Longer.bits4 (fun HT_ HW_ => ?_)
    generalize wr.drew = w36 at BK1008 HB HR1030 HR1040 hHeld ⊢
    refine pS 1 23 15 2 ?_
    refine pS 3 25 15 10 ?_
    refine pS 6 28 15 74 ?_
    refine pS 9 31 15 586 ?_
    refine pS 11 33 15 2634 ?_
    refine tS 2 24 15 2638 ?_
    refine pS 4 26 15 2654 ?_
    refine tS 10 32 15 3678 ?_
    refine pS 12 34 15 7774 ?_
    refine join_ (σ := Value × Value × Value) 3 (ba 15 7935) (fun s_ => [(22, s_.1), (27, s_.2.1), (29, s_.2.2)]) (fun s_ w' => (w'.cell? ⟨gb1008, 0, none⟩ = some (.int .i64 a0_0) ∧ w'.cell? ⟨gb1008, 1, none⟩ = some (.slice A0_1 l0_1.length c0_1) ∧ w'.cell? ⟨gb1008, 2, none⟩ = some (.slice A0_2 l0_2.length c0_2)) ∧ (Kd.R (Kd.int .i64) 3 w' w.heap.size (fun k_ => some k_ ≠ (s_.2.2 : Value).ownBlock) s_.2.1 y1031) ∧ (Kd.R (Kd.int .i64) 3 w' w.heap.size (fun k_ => some k_ ≠ (s_.2.1 : Value).ownBlock) s_.2.2 y1034) ∧ (w'.heap[gb1008]? = some (.cells #[.int .i64 a0_0, .slice A0_1 l0_1.length c0_1, .slice A0_2 l0_2.length c0_2] 24 (0, 0))) ∧ (Below w.heap.size w w')) ?_ ?_
    rotate_left
    ·intro hCont
     refine two_ (i := 0) (j := 7) (Ni := some 22) (Nj := some 29) (ba 15 7775) (ba 15 7902) rfl rfl rfl rfl (two_of HT_.out (by kernel_rfl)) (by decide) (by decide) (fun K hK => ?_) (fun K hK => ?_)
     ·skip
      refine Kd.R_lit_step (Kd.int .i64) _ 3 ?hg (N := 22) ?hd (xs := ([] : List Int)) (inner := []) (ok := fun _ => True) (okp := fun _ => True) ?hr ?hp (fun _ hk => hk) trivial (Below.refl _ _) (Nat.le_refl _) (by simp) ?_; (case hd => rfl); (case hg => rfl); (case hr => first | (go_simp; done) | (go_simp; rfl)); (case hp => exact (Reps.none _ _))
      intro v1028 w39 ho40 hb hg_ hnew_
      clear hg_ hnew_
      (first | rw [← Ny1027.out] at ho40 | (simp only [Int.reduceToNat] at ho40; rw [← Ny1027.out] at ho40))
      have HO1029 := ak (Kd.R_lower ho40 (below_size (hbC _)))
      replace BK1008 := kB BK1008 hb
      replace HB := kH _ hb
      clear hb ho40
      refine hK.out _ _ ⟨bc BK1008 0, bc BK1008 1, bc BK1008 2⟩ (fun hHeld => ?_)
      clear hK K
      refine norm_ (a' := ?_) ?_ ?_
      rotate_left
      ·show Act.put _ (some 22) _ = _
       simp only [Act.put, List.setIfInBounds_toArray, List.set_cons_zero, List.set_cons_succ, i64_w, i32_w]
       rfl
      refine two_ (i := 5) (j := 7) (Ni := some 27) (Nj := some 29) (ba 15 7807) (ba 15 7903) rfl rfl rfl rfl (two_of HT_.out (by kernel_rfl)) (by decide) (by decide) (fun K hK => ?_) (fun K hK => ?_)
      ·skip
       refine Kd.R_append_rows_step (Kd.int .i64) (w0 := w) w.heap.size (by rfl) (.tmp 22) (.tmp 26) 22 3 (.int .i64 0) 8 rfl Try.underlying22 info3 rfl (by decide) (by omega) v1028 y1027 (l0_1.take (x5_1 : Int).toNat) _ _ _ (fun _ => True) (fun _ => False) rfl rfl ?aO ?aR (fun _ _ h => h) (fun _ h => h.elim) ?aF ?aB ?aS ?aL ?_
       (case aR => first | (have hE_ : (l0_1.take (x5_1 : Int).toNat).length = x5_1.toNat := (by rw [List.length_take]; have h_ : (x5_1 : Int) ≤ (l0_1.length : Int) := dA; omega); have hT_ := (Kd.C_below HR1030.out HB.out); rw [hE_] at hT_; exact hT_) | (rw [← show (l0_1.take (x5_1 : Int).toNat).length = x5_1.toNat from (by rw [List.length_take]; have h_ : (x5_1 : Int) ≤ (l0_1.length : Int) := dA; omega)]; exact kC HR1030) | (exact kC HR1030))
       (case aB => exact (hbC _))
       (case aF => exact (fun _ _ => trivial))
       (case aO => exact (rC HO1029))
       (case aS => exact (below_size (hbC _)))
       (case aL => have := LMc30.out; have hlx_ := (show (l0_1.take (x5_1 : Int).toNat).length = x5_1.toNat from (by rw [List.length_take]; have h_ : (x5_1 : Int) ≤ (l0_1.length : Int) := dA; omega)); omega)
       intro v1032 w41 ho hb hg hat
       rw [← Ny1031.out] at ho
       have n0_ := ak (blk_grown (g := gb1008) (o := .cells #[.int .i64 a0_0, .slice A0_1 l0_1.length c0_1, .slice A0_2 l0_2.length c0_2] 24 (0, 0)) (bkC BK1008) hg (Kd.R_ne HO1029.out BK1008.out (by decide)))
       have n1_ := ak (hb)
       have n2_ := ak (ho)
       clear BK1008
       clear HB
       clear HO1029
       have BK1008 := n0_
       have HB := n1_
       have HO1033 := n2_
       clear n0_ n1_ n2_
       clear ho hb hg hat
       refine hK.out _ _ ⟨bc BK1008 0, bc BK1008 1, bc BK1008 2⟩ (fun hHeld => ?_)
       clear hK K
       refine norm_ (a' := ?_) ?_ ?_
       rotate_left
       ·show Act.put _ (some 27) _ = _
        simp only [Act.put, List.setIfInBounds_toArray, List.set_cons_zero, List.set_cons_succ, i64_w, i32_w]
        rfl
       refine one_ (i := 7) (N := some 29) (ba 15 7935) rfl rfl (one_of HT_.out (by kernel_rfl)) (by decide) (fun K hK => ?_)
       refine Kd.R_lit_step (Kd.int .i64) _ 3 ?hg (N := 29) ?hd (xs := ([a1] : List Int)) (inner := [.int .i64 a1]) (ok := fun _ => True) (okp := fun _ => True) ?hr ?hp (fun _ hk => hk) trivial (Below.refl _ _) (Nat.le_refl _) (by simp) ?_; (case hd => rfl); (case hg => rfl); (case hr => first | (go_simp; done) | (go_simp; rfl)); (case hp => exact (Reps.one (show Kd.M (Kd.int .i64) _ _ _ a1 [.int .i64 a1] from rfl) (Reps.none _ _)))
       intro v1035 w42 ho43 hb hg_ hnew_
       clear hg_ hnew_
       (first | rw [← Ny1034.out] at ho43 | (simp only [Int.reduceToNat] at ho43; rw [← Ny1034.out] at ho43))
       have HO1036 := ak (Kd.R_lower (Kd.R_new' ho43 (Kd.R_lt (rC HO1033))) (below_size (hbC _)))
       replace HO1033 := ak (Kd.R_elder' (rC HO1033) (Kd.R_base ho43) hb)
       replace BK1008 := kB BK1008 hb
       replace HB := kH _ hb
       clear hb ho43
       refine hK.out _ _ ⟨bc BK1008 0, bc BK1008 1, bc BK1008 2⟩ (fun hHeld => ?_)
       clear hK K
       refine norm_ (a' := ?_) ?_ ?_
       rotate_left
       ·show Act.put _ (some 29) _ = _
        simp only [Act.put, List.setIfInBounds_toArray, List.set_cons_zero, List.set_cons_succ, i64_w, i32_w]
        rfl
       exact norm_ (by simp only [putAll, Act.put, List.setIfInBounds_toArray, List.set_cons_zero, List.set_cons_succ]) (hCont (v1028, v1032, v1035) _ ⟨hHeld, (rD (Kd.R_mono HO1033.out (fun _ hk => hk.2))), (rD (Kd.R_mono HO1036.out (fun _ hk => hk.2))), (bkC BK1008), (hbC _)⟩)
      ·skip
       refine Kd.R_lit_step (Kd.int .i64) _ 3 ?hg (N := 29) ?hd (xs := ([a1] : List Int)) (inner := [.int .i64 a1]) (ok := fun _ => True) (okp := fun _ => True) ?hr ?hp (fun _ hk => hk) trivial (Below.refl _ _) (Nat.le_refl _) (by simp) ?_; (case hd => rfl); (case hg => rfl); (case hr => first | (go_simp; done) | (go_simp; rfl)); (case hp => exact (Reps.one (show Kd.M (Kd.int .i64) _ _ _ a1 [.int .i64 a1] from rfl) (Reps.none _ _)))
       intro v1035 w41 ho42 hb hg_ hnew_
       clear hg_ hnew_
       (first | rw [← Ny1034.out] at ho42 | (simp only [Int.reduceToNat] at ho42; rw [← Ny1034.out] at ho42))
       have HO1036 := ak (Kd.R_lower (Kd.R_new' ho42 (Kd.R_lt (rC HO1029))) (below_size (hbC _)))
       replace HO1029 := ak (Kd.R_elder' (rC HO1029) (Kd.R_base ho42) hb)
       replace BK1008 := kB BK1008 hb
       replace HB := kH _ hb
       clear hb ho42
       refine hK.out _ _ ⟨bc BK1008 0, bc BK1008 1, bc BK1008 2⟩ (fun hHeld => ?_)
       clear hK K
       refine norm_ (a' := ?_) ?_ ?_
       rotate_left
       ·show Act.put _ (some 29) _ = _
        simp only [Act.put, List.setIfInBounds_toArray, List.set_cons_zero, List.set_cons_succ, i64_w, i32_w]
        rfl
       refine one_ (i := 5) (N := some 27) (ba 15 7935) rfl rfl (one_of HT_.out (by kernel_rfl)) (by decide) (fun K hK => ?_)
       refine Kd.R_append_rows_step (Kd.int .i64) (w0 := w) w.heap.size (by rfl) (.tmp 22) (.tmp 26) 22 3 (.int .i64 0) 8 rfl Try.underlying22 info3 rfl (by decide) (by omega) v1028 y1027 (l0_1.take (x5_1 : Int).toNat) _ _ _ (fun k_ => nb k_ v1035) (fun _ => False) rfl rfl ?aO ?aR (fun _ _ h => h) (fun _ h => h.elim) ?aF ?aB ?aS ?aL ?_
       (case aR => first | (have hE_ : (l0_1.take (x5_1 : Int).toNat).length = x5_1.toNat := (by rw [List.length_take]; have h_ : (x5_1 : Int) ≤ (l0_1.length : Int) := dA; omega); have hT_ := (Kd.C_below HR1030.out HB.out); rw [hE_] at hT_; exact hT_) | (rw [← show (l0_1.take (x5_1 : Int).toNat).length = x5_1.toNat from (by rw [List.length_take]; have h_ : (x5_1 : Int) ≤ (l0_1.length : Int) := dA; omega)]; exact kC HR1030) | (exact kC HR1030))
       (case aB => exact (hbC _))
       (case aF => exact (fun k_ hk => Kd.fresh' (Kd.R_lt (rC HO1036)) k_ hk))
       (case aO => exact (rD (Kd.R_mono HO1029.out (fun _ hk => hk.2))))
       (case aS => exact (below_size (hbC _)))
       (case aL => have := LMc30.out; have hlx_ := (show (l0_1.take (x5_1 : Int).toNat).length = x5_1.toNat from (by rw [List.length_take]; have h_ : (x5_1 : Int) ≤ (l0_1.length : Int) := dA; omega)); omega)
       intro v1032 w43 ho hb hg hat
       rw [← Ny1031.out] at ho
       have n0_ := ak (blk_grown (g := gb1008) (o := .cells #[.int .i64 a0_0, .slice A0_1 l0_1.length c0_1, .slice A0_2 l0_2.length c0_2] 24 (0, 0)) (bkC BK1008) hg (Kd.R_ne HO1029.out BK1008.out (by decide)))
       have n1_ := ak (Kd.R_after (ok := (fun _ => True)) (rC HO1036) hg hat)
       have n2_ := ak (hb)
       have n3_ := ak (ho)
       clear BK1008
       clear HO1036
       clear HB
       clear HO1029
       have BK1008 := n0_
       have HO1036 := n1_
       have HB := n2_
       have HO1033 := n3_
       clear n0_ n1_ n2_ n3_
       clear ho hb hg hat
       refine hK.out _ _ ⟨bc BK1008 0, bc BK1008 1, bc BK1008 2⟩ (fun hHeld => ?_)
       clear hK K
       refine norm_ (a' := ?_) ?_ ?_
       rotate_left
       ·show Act.put _ (some 27) _ = _
        simp only [Act.put, List.setIfInBounds_toArray, List.set_cons_zero, List.set_cons_succ, i64_w, i32_w]
        rfl
       exact norm_ (by simp only [putAll, Act.put, List.setIfInBounds_toArray, List.set_cons_zero, List.set_cons_succ]) (hCont (v1028, v1032, v1035) _ ⟨hHeld, (rC HO1033), (rD (Kd.R_mono HO1036.out (fun _ hk => hk.2))), (bkC BK1008), (hbC _)⟩)
     ·skip
      refine Kd.R_lit_step (Kd.int .i64) _ 3 ?hg (N := 29) ?hd (xs := ([a1] : List Int)) (inner := [.int .i64 a1]) (ok := fun _ => True) (okp := fun _ => True) ?hr ?hp (fun _ hk => hk) trivial (Below.refl _ _) (Nat.le_refl _) (by simp) ?_; (case hd => rfl); (case hg => rfl); (case hr => first | (go_simp; done) | (go_simp; rfl)); (case hp => exact (Reps.one (show Kd.M (Kd.int .i64) _ _ _ a1 [.int .i64 a1] from rfl) (Reps.none _ _)))
      intro v1035 w39 ho40 hb hg_ hnew_
      clear hg_ hnew_
      (first | rw [← Ny1034.out] at ho40 | (simp only [Int.reduceToNat] at ho40; rw [← Ny1034.out] at ho40))
      have HO1036 := ak (Kd.R_lower ho40 (below_size (hbC _)))
      replace BK1008 := kB BK1008 hb
      replace HB := kH _ hb
      clear hb ho40
      refine hK.out _ _ ⟨bc BK1008 0, bc BK1008 1, bc BK1008 2⟩ (fun hHeld => ?_)
      clear hK K
      refine norm_ (a' := ?_) ?_ ?_
      rotate_left
      ·show Act.put _ (some 29) _ = _
       simp only [Act.put, List.setIfInBounds_toArray, List.set_cons_zero, List.set_cons_succ, i64_w, i32_w]
       rfl
      refine one_ (i := 0) (N := some 22) (ba 15 7903) rfl rfl (one_of HT_.out (by kernel_rfl)) (by decide) (fun K hK => ?_)
      refine Kd.R_lit_step (Kd.int .i64) _ 3 ?hg (N := 22) ?hd (xs := ([] : List Int)) (inner := []) (ok := fun _ => True) (okp := fun _ => True) ?hr ?hp (fun _ hk => hk) trivial (Below.refl _ _) (Nat.le_refl _) (by simp) ?_; (case hd => rfl); (case hg => rfl); (case hr => first | (go_simp; done) | (go_simp; rfl)); (case hp => exact (Reps.none _ _))
      intro v1028 w41 ho42 hb hg_ hnew_
      clear hg_ hnew_
      (first | rw [← Ny1027.out] at ho42 | (simp only [Int.reduceToNat] at ho42; rw [← Ny1027.out] at ho42))
      have HO1029 := ak (Kd.R_lower (Kd.R_new' ho42 (Kd.R_lt (rC HO1036))) (below_size (hbC _)))
      replace HO1036 := ak (Kd.R_elder' (rC HO1036) (Kd.R_base ho42) hb)
      replace BK1008 := kB BK1008 hb
      replace HB := kH _ hb
      clear hb ho42
      refine hK.out _ _ ⟨bc BK1008 0, bc BK1008 1, bc BK1008 2⟩ (fun hHeld => ?_)
      clear hK K
      refine norm_ (a' := ?_) ?_ ?_
      rotate_left
      ·show Act.put _ (some 22) _ = _
       simp only [Act.put, List.setIfInBounds_toArray, List.set_cons_zero, List.set_cons_succ, i64_w, i32_w]
       rfl
      refine one_ (i := 5) (N := some 27) (ba 15 7935) rfl rfl (one_of HT_.out (by kernel_rfl)) (by decide) (fun K hK => ?_)
      refine Kd.R_append_rows_step (Kd.int .i64) (w0 := w) w.heap.size (by rfl) (.tmp 22) (.tmp 26) 22 3 (.int .i64 0) 8 rfl Try.underlying22 info3 rfl (by decide) (by omega) v1028 y1027 (l0_1.take (x5_1 : Int).toNat) _ _ _ (fun k_ => nb k_ v1035) (fun _ => False) rfl rfl ?aO ?aR (fun _ _ h => h) (fun _ h => h.elim) ?aF ?aB ?aS ?aL ?_
      (case aR => first | (have hE_ : (l0_1.take (x5_1 : Int).toNat).length = x5_1.toNat := (by rw [List.length_take]; have h_ : (x5_1 : Int) ≤ (l0_1.length : Int) := dA; omega); have hT_ := (Kd.C_below HR1030.out HB.out); rw [hE_] at hT_; exact hT_) | (rw [← show (l0_1.take (x5_1 : Int).toNat).length = x5_1.toNat from (by rw [List.length_take]; have h_ : (x5_1 : Int) ≤ (l0_1.length : Int) := dA; omega)]; exact kC HR1030) | (exact kC HR1030))
      (case aB => exact (hbC _))
      (case aF => exact (fun k_ hk => Kd.fresh' (Kd.R_lt (rC HO1036)) k_ hk))
      (case aO => exact (rD (Kd.R_mono HO1029.out (fun _ hk => hk.2))))
      (case aS => exact (below_size (hbC _)))
      (case aL => have := LMc30.out; have hlx_ := (show (l0_1.take (x5_1 : Int).toNat).length = x5_1.toNat from (by rw [List.length_take]; have h_ : (x5_1 : Int) ≤ (l0_1.length : Int) := dA; omega)); omega)
      intro v1032 w43 ho hb hg hat
      rw [← Ny1031.out] at ho
      have n0_ := ak (blk_grown (g := gb1008) (o := .cells #[.int .i64 a0_0, .slice A0_1 l0_1.length c0_1, .slice A0_2 l0_2.length c0_2] 24 (0, 0)) (bkC BK1008) hg (Kd.R_ne HO1029.out BK1008.out (by decide)))
      have n1_ := ak (Kd.R_after (ok := (fun _ => True)) (rC HO1036) hg hat)
      have n2_ := ak (hb)
      have n3_ := ak (ho)
      clear BK1008
      clear HO1036
      clear HB
      clear HO1029
      have BK1008 := n0_
      have HO1036 := n1_
      have HB := n2_
      have HO1033 := n3_
      clear n0_ n1_ n2_ n3_
      clear ho hb hg hat
      refine hK.out _ _ ⟨bc BK1008 0, bc BK1008 1, bc BK1008 2⟩ (fun hHeld => ?_)
      clear hK K
      refine norm_ (a' := ?_) ?_ ?_
      rotate_left
      ·show Act.put _ (some 27) _ = _
       simp only [Act.put, List.setIfInBounds_toArray, List.set_cons_zero, List.set_cons_succ, i64_w, i32_w]
       rfl
      exact norm_ (by simp only [putAll, Act.put, List.setIfInBounds_toArray, List.set_cons_zero, List.set_cons_succ]) (hCont (v1028, v1032, v1035) _ ⟨hHeld, (rC HO1033), (rD (Kd.R_mono HO1036.out (fun _ hk => hk.2))), (bkC BK1008), (hbC _)⟩)
    rintro ⟨v1028, v1032, v1035⟩ w44 ⟨hS_, h0_, h1_, h2_, h3_⟩
    have n0_ : Aside0 (Kd.R (Kd.int .i64) 3 w44 w.heap.size (fun k_ => nb k_ v1035) v1032 y1031) := ⟨h0_⟩
    have n1_ : Aside0 (Kd.R (Kd.int .i64) 3 w44 w.heap.size (fun k_ => nb k_ v1032) v1035 y1034) := ⟨h1_⟩
    have n2_ : Aside0 (w44.heap[gb1008]? = some (.cells #[.int .i64 a0_0, .slice A0_1 l0_1.length c0_1, .slice A0_2 l0_2.length c0_2] 24 (0, 0))) := ⟨h2_⟩
    have n3_ : Aside0 (Below w.heap.size w w44) := ⟨h3_⟩
    clear BK1008
    clear HB
    clear h0_ h1_ h2_ h3_
    have HO1033 := n0_
    have HO1036 := n1_
    have BK1008 := n2_
    have HB := n3_
    clear n0_ n1_ n2_ n3_
    have hHeld : w44.cell? ⟨gb1008, 0, none⟩ = some (.int .i64 a0_0) ∧ w44.cell? ⟨gb1008, 1, none⟩ = some (.slice A0_1 l0_1.length c0_1) ∧ w44.cell? ⟨gb1008, 2, none⟩ = some (.slice A0_2 l0_2.length c0_2) := hS_
    obtain ⟨Ao46, co46, eo46⟩ := Kd.R_slice HO1036.out
    (first | subst eo46 | (injection eo46 with f1_ f2_ f3_; have f4_ := f1_.symm; have f5_ := f3_.symm; clear f1_ f2_ f3_; subst f4_; subst f5_))
    refine norm_ (a' := ?_) ?_ ?_
    rotate_left
    ·simp only [putAll, Act.put, List.setIfInBounds_toArray, List.set_cons_zero, List.set_cons_succ]
     rfl
    refine one_ (i := 8) (N := some 30) (ba 15 8191) rfl rfl (one_of HT_.out (by kernel_rfl)) (by decide) (fun K hK => ?_)
    refine Kd.R_append_rows_step (Kd.int .i64) (w0 := w) w.heap.size (by rfl) (.tmp 27) (.tmp 29) 22 3 (.int .i64 0) 8 rfl Try.underlying22 info3 rfl (by decide) (by omega) v1032 y1031 y1034 _ _ _ (fun k_ => nb k_ (.slice Ao46 y1034.length co46)) (fun _ => False) rfl rfl ?aO ?aR (fun _ _ h => h) (fun _ h => h.elim) ?aF ?aB ?aS ?aL ?_
    (case aR => exact kD (Kd.R_reads' HO1036.out).2.2)
    (case aB => exact (hbC _))
    (case aF => exact (fun k_ hk => Kd.fresh' (Kd.R_lt (rC HO1036)) k_ hk))
    (case aO => exact (rC HO1033))
    (case aS => exact (below_size (hbC _)))
    (case aL => have := LMc31.out; omega)
    intro v1038 w45 ho hb hg hat
    rw [← Ny1037.out] at ho
    have n0_ := ak (blk_grown (g := gb1008) (o := .cells #[.int .i64 a0_0, .slice A0_1 l0_1.length c0_1, .slice A0_2 l0_2.length c0_2] 24 (0, 0)) (bkC BK1008) hg (Kd.R_ne HO1033.out BK1008.out (by decide)))
    have n1_ := ak (Kd.R_after (ok := (fun _ => True)) (rD (Kd.R_mono HO1036.out (fun _ hk => ⟨trivial, hk⟩))) hg hat)
    have n2_ := ak (hb)
    have n3_ := ak (ho)
    clear BK1008
    clear HO1036
    clear HB
    clear HO1033
    have BK1008 := n0_
    have HO1036 := n1_
    have HB := n2_
    have HO1039 := n3_
    clear n0_ n1_ n2_ n3_
    clear ho hb hg hat
    refine hK.out _ _ ⟨bc BK1008 0, bc BK1008 1, bc BK1008 2⟩ (fun hHeld => ?_)
    clear hK K
    refine norm_ (a' := ?_) ?_ ?_
    rotate_left
    ·show Act.put _ (some 30) _ = _
     simp only [Act.put, List.setIfInBounds_toArray, List.set_cons_zero, List.set_cons_succ, i64_w, i32_w]
     rfl
    refine one_ (i := 13) (N := some 35) (ba 15 16383) rfl rfl (one_of HT_.out (by kernel_rfl)) (by decide) (fun K hK => ?_)
    refine Kd.R_append_rows_step (Kd.int .i64) (w0 := w) w.heap.size (by rfl) (.tmp 30) (.tmp 34) 22 3 (.int .i64 0) 8 rfl Try.underlying22 info3 rfl (by decide) (by omega) v1038 y1037 (l0_1.drop (x5_1 : Int).toNat) _ _ _ (fun k_ => nb k_ (.slice Ao46 y1034.length co46)) (fun _ => False) rfl rfl ?aO ?aR (fun _ _ h => h) (fun _ h => h.elim) ?aF ?aB ?aS ?aL ?_
    (case aR => first | (rw [← show (l0_1.drop (x5_1 : Int).toNat).length = (l0_1.length - x5_1.toNat) from List.length_drop]; exact kC HR1040) | (exact kC HR1040))
    (case aB => exact (hbC _))
    (case aF => exact (fun k_ hk => Kd.fresh' (Kd.R_lt (rC HO1036)) k_ hk))
    (case aO => exact (rC HO1039))
    (case aS => exact (below_size (hbC _)))
    (case aL => have := LMc34.out; have hlx_ := (show (l0_1.drop (x5_1 : Int).toNat).length = (l0_1.length - x5_1.toNat) from List.length_drop); omega)
    intro v1042 w47 ho hb hg hat
    rw [← Ny1041.out] at ho
    have n0_ := ak (blk_grown (g := gb1008) (o := .cells #[.int .i64 a0_0, .slice A0_1 l0_1.length c0_1, .slice A0_2 l0_2.length c0_2] 24 (0, 0)) (bkC BK1008) hg (Kd.R_ne HO1039.out BK1008.out (by decide)))
    have n1_ := ak (Kd.R_after (ok := (fun _ => True)) (rC HO1036) hg hat)
    have n2_ := ak (hb)
    have n3_ := ak (ho)
    clear BK1008
    clear HO1036
    clear HB
    clear HO1039
    have BK1008 := n0_
    have HO1036 := n1_
    have HB := n2_
    have HO1043 := n3_
    clear n0_ n1_ n2_ n3_
    clear ho hb hg hat
    refine hK.out _ _ ⟨bc BK1008 0, bc BK1008 1, bc BK1008 2⟩ (fun hHeld => ?_)
    clear hK K
    refine norm_ (a' := ?_) ?_ ?_
    rotate_left
    ·show Act.put _ (some 35) _ = _
     simp only [Act.put, List.setIfInBounds_toArray, List.set_cons_zero, List.set_cons_succ, i64_w, i32_w]
     rfl
    refine pS 14 4 15 32767 ?_
    refine done_ (done_of HT_.out (by kernel_rfl)) ?_
    try go_wp2
    go_ret
    exact ⟨_, by first | rfl | (simp [errW_none, errW_some] <;> rfl) | (simp [*, errW_none, errW_some] <;> rfl), rD (Kd.R_mono HO1043.out (fun _ hk => trivial)), hbC _⟩
   rw [if_pos c4] at H
   have c4b0 : decide (x5_1 < (l0_1.length : Int)) = true := decide_eq_true c4
   clear c4
   by_cases c5 : 0 ≤ x5_1
   rotate_left
   ·rw [if_neg c5] at H
    exact absurd H (by simp)
   rw [if_pos c5] at H
   have c5b0 : decide (0 ≤ x5_1) = true := decide_eq_true c5
   clear c5
   by_cases c6 : (rd l0_1 x5_1) ≤ a1
   ·rw [if_pos c6] at H
    have c6b0 : decide ((rd l0_1 x5_1) ≤ a1) = true := decide_eq_true c6
    clear c6
    have H' := Aside0.mk H
    clear H
    have hcz7_0 : wr.cell? ⟨gb1008, 0, none⟩ = some (.int .i64 a0_0) := bc BK1008 0
    have hcz7_1 : wr.cell? ⟨gb1008, 1, none⟩ = some (.slice A0_1 l0_1.length c0_1) := bc BK1008 1
    have hcz7_2 : wr.cell? ⟨gb1008, 2, none⟩ = some (.slice A0_2 l0_2.length c0_2) := bc BK1008 2
    have hfz7_0 := fz BK1008 0
    have hfz7_1 := fz BK1008 1
    have hfz7_2 := fz BK1008 2
    have p1009 : 0 ≤ (x5_1 : Int) := dA
    have q1009 : x5_1 < (l0_1.length : Int) := dA
    obtain ⟨ad1009, e1009, hx1009_0⟩ := Kd.at_int HR0_1.out x5_1 p1009 q1009
    cases e1009
    try replace hx1009_0 := (HB.out.cell (World.block_lt_of_cell? w _ hx1009_0)).trans hx1009_0
    replace p1009 := eq_true p1009
    replace q1009 := eq_true q1009
    go_wp2
    go_roundg k1
    case measure => have := HK1.out; omega
    case rel => exact ⟨(wrap64 (x5_1 + 1)), (by first | rfl | (simp; done) | (simp [*]; done)), H', ⟨by have := HK1.out; omega⟩, ⟨bkC BK1008⟩, ⟨hbC _⟩⟩
   rw [if_neg c6] at H
   have c6b0 : decide ((rd l0_1 x5_1) ≤ a1) = false := decide_eq_false c6
   clear c6
   obtain ⟨y1010, hy1010⟩ : ∃ y_ : List Int, y_ = (([] : List Int)) := ⟨_, rfl⟩
   replace H : (if x5_1 ≤ (l0_1.length : Int) then (if y1010.length + (l0_1.take (x5_1 : Int).toNat).length < 17592186044416 then ((some (y1010 ++ (l0_1.take (x5_1 : Int).toNat) : List Int)).bind fun y1014 => ((some (([a1] : List Int) : List Int)).bind fun y1017 => (if y1014.length + y1017.length < 17592186044416 then ((some (y1014 ++ y1017 : List Int)).bind fun y1020 => (if y1020.length + (l0_1.drop (x5_1 : Int).toNat).length < 17592186044416 then (some (y1020 ++ (l0_1.drop (x5_1 : Int).toNat))) else (none))) else (none)))) else (none)) else (none)) = some r := by first | (rw [hy1010]; with_reducible exact H) | (have H2_ := (Option.bind_some _ _).symm.trans H; rw [hy1010]; with_reducible exact H2_) | (have H2_ := (Option.bind_some _ _).symm.trans H; with_reducible exact H2_) | with_reducible exact H | (rw [hy1010]; exact H) | exact H
   have Ny1010 := Aside0.mk hy1010
   clear hy1010
   have c8b0 := eq_true (dA : 0 ≤ x5_1)
   by_cases c9 : x5_1 ≤ (l0_1.length : Int)
   rotate_left
   ·rw [if_neg c9] at H
    exact absurd H (by simp)
   rw [if_pos c9] at H
   have c9b0 := eq_true c9
   have c9b1 : decide (x5_1 ≤ (l0_1.length : Int)) = true := decide_eq_true c9
   clear c9
   by_cases c10 : y1010.length + (l0_1.take (x5_1 : Int).toNat).length < 17592186044416
   rotate_left
   ·rw [if_neg c10] at H
    exact absurd H (by simp)
   rw [if_pos c10] at H
   have LMc10 := Aside0.mk c10
   clear c10
   obtain ⟨y1014, hy1014⟩ : ∃ y_ : List Int, y_ = (y1010 ++ (l0_1.take (x5_1 : Int).toNat)) := ⟨_, rfl⟩
   replace H : ((some (([a1] : List Int) : List Int)).bind fun y1017 => (if y1014.length + y1017.length < 17592186044416 then ((some (y1014 ++ y1017 : List Int)).bind fun y1020 => (if y1020.length + (l0_1.drop (x5_1 : Int).toNat).length < 17592186044416 then (some (y1020 ++ (l0_1.drop (x5_1 : Int).toNat))) else (none))) else (none))) = some r := by first | (rw [hy1014]; with_reducible exact H) | (have H2_ := (Option.bind_some _ _).symm.trans H; rw [hy1014]; with_reducible exact H2_) | (have H2_ := (Option.bind_some _ _).symm.trans H; with_reducible exact H2_) | with_reducible exact H | (rw [hy1014]; exact H) | exact H
   have Ny1014 := Aside0.mk hy1014
   clear hy1014
   obtain ⟨y1017, hy1017⟩ : ∃ y_ : List Int, y_ = (([a1] : List Int)) := ⟨_, rfl⟩
   replace H : (if y1014.length + y1017.length < 17592186044416 then ((some (y1014 ++ y1017 : List Int)).bind fun y1020 => (if y1020.length + (l0_1.drop (x5_1 : Int).toNat).length < 17592186044416 then (some (y1020 ++ (l0_1.drop (x5_1 : Int).toNat))) else (none))) else (none)) = some r := by first | (rw [hy1017]; with_reducible exact H) | (have H2_ := (Option.bind_some _ _).symm.trans H; rw [hy1017]; with_reducible exact H2_) | (have H2_ := (Option.bind_some _ _).symm.trans H; with_reducible exact H2_) | with_reducible exact H | (rw [hy1017]; exact H) | exact H
   have Ny1017 := Aside0.mk hy1017
   clear hy1017
   by_cases c11 : y1014.length + y1017.length < 17592186044416
   rotate_left
   ·rw [if_neg c11] at H
    exact absurd H (by simp)
   rw [if_pos c11] at H
   have LMc11 := Aside0.mk c11
   clear c11
   obtain ⟨y1020, hy1020⟩ : ∃ y_ : List Int, y_ = (y1014 ++ y1017) := ⟨_, rfl⟩
   replace H : (if y1020.length + (l0_1.drop (x5_1 : Int).toNat).length < 17592186044416 then (some (y1020 ++ (l0_1.drop (x5_1 : Int).toNat))) else (none)) = some r := by first | (rw [hy1020]; with_reducible exact H) | (have H2_ := (Option.bind_some _ _).symm.trans H; rw [hy1020]; with_reducible exact H2_) | (have H2_ := (Option.bind_some _ _).symm.trans H; with_reducible exact H2_) | with_reducible exact H | (rw [hy1020]; exact H) | exact H
   have Ny1020 := Aside0.mk hy1020
   clear hy1020
   have c12b0 := eq_true (dA : 0 ≤ x5_1)
   have c13b0 := eq_true (dA : x5_1 ≤ (l0_1.length : Int))
   by_cases c14 : y1020.length + (l0_1.drop (x5_1 : Int).toNat).length < 17592186044416
   rotate_left
   ·rw [if_neg c14] at H
    exact absurd H (by simp)
   rw [if_pos c14] at H
   have LMc14 := Aside0.mk c14
   clear c14
   obtain ⟨y1024, hy1024⟩ : ∃ y_ : List Int, y_ = (y1020 ++ (l0_1.drop (x5_1 : Int).toNat)) := ⟨_, rfl⟩
   replace H : (some y1024) = some r := by first | (rw [hy1024]; with_reducible exact H) | (have H2_ := (Option.bind_some _ _).symm.trans H; rw [hy1024]; with_reducible exact H2_) | (have H2_ := (Option.bind_some _ _).symm.trans H; with_reducible exact H2_) | with_reducible exact H | (rw [hy1024]; exact H) | exact H
   have Ny1024 := Aside0.mk hy1024
   clear hy1024
   obtain rfl := Option.some.inj H
   have hcz15_0 : wr.cell? ⟨gb1008, 0, none⟩ = some (.int .i64 a0_0) := bc BK1008 0
   have hcz15_1 : wr.cell? ⟨gb1008, 1, none⟩ = some (.slice A0_1 l0_1.length c0_1) := bc BK1008 1
   have hcz15_2 : wr.cell? ⟨gb1008, 2, none⟩ = some (.slice A0_2 l0_2.length c0_2) := bc BK1008 2
   have hfz15_0 := fz BK1008 0
   have hfz15_1 := fz BK1008 1
   have hfz15_2 := fz BK1008 2
   have p1009 : 0 ≤ (x5_1 : Int) := dA
   have q1009 : x5_1 < (l0_1.length : Int) := dA
   obtain ⟨ad1009, e1009, hx1009_0⟩ := Kd.at_int HR0_1.out x5_1 p1009 q1009
   cases e1009
   try replace hx1009_0 := (HB.out.cell (World.block_lt_of_cell? w _ hx1009_0)).trans hx1009_0
   replace p1009 := eq_true p1009
   replace q1009 := eq_true q1009
   try go_wp2
   replace BK1008 := kd BK1008
   replace HB := ak (below_drew1 HB.out)
   obtain ⟨i017, hi017, _, hsz17, _⟩ := info_parts info3
   obtain ⟨hcut17, hA17, hC17⟩ := print_take_of (P := Try.prog) (Value.int .i64) 0 22 3 .i64 Try.underlying22 hi017 hsz17 (some ad1009) c0_1 l0_1 x5_1 (dA) (dA) HC0_1.out
   have HR1013 := ak (Kd.C_of_reads (h1 := fun _ => rfl) (hA17 _ (Kd.reads_of_C HR0_1.out)))
   have HC1013 := Aside0.mk hC17
   clear hA17 hC17 hi017 hsz17
   obtain ⟨i018, hi018, _, hsz18, _⟩ := info_parts info3
   obtain ⟨A18, hcut18, hA18, hC18⟩ := print_drop_of (P := Try.prog) (Value.int .i64) 0 22 3 .i64 Try.underlying22 hi018 hsz18 (some ad1009) c0_1 l0_1 x5_1 (dA) (dA) HC0_1.out
   have HR1023 := ak (Kd.C_of_reads (h1 := fun _ => rfl) (hA18 _ (Kd.reads_of_C HR0_1.out)))
   have HC1023 := Aside0.mk hC18
   clear hA18 hC18 hi018 hsz18
   refine sS (n := 15) (S := fun w' => w'.cell? ⟨gb1008, 0, none⟩ = some (.int .i64 a0_0) ∧ w'.cell? ⟨gb1008, 1, none⟩ = some (.slice (some ad1009) l0_1.length c0_1) ∧ w'.cell? ⟨gb1008, 2, none⟩ = some (.slice A0_2 l0_2.length c0_2)) (ds := []) ⟨bc BK1008 0, bc BK1008 1, bc BK1008 2⟩ (fun hHeld => ?_); refine with_tabW congouref04_Longer.tab4 congouref04_Longer.bits4 (fun HT_ HW_ => ?_)
   generalize wr.drew = w16 at BK1008 HB HR1013 HR1023 hHeld ⊢
   refine pS 1 23 15 2 ?_
   refine pS 3 25 15 10 ?_
   refine pS 6 28 15 74 ?_
   refine pS 9 31 15 586 ?_
   refine pS 11 33 15 2634 ?_
   refine tS 2 24 15 2638 ?_
   refine pS 4 26 15 2654 ?_
   refine tS 10 32 15 3678 ?_
   refine pS 12 34 15 7774 ?_
   refine join_ (σ := Value × Value × Value) 3 (ba 15 7935) (fun s_ => [(22, s_.1), (27, s_.2.1), (29, s_.2.2)]) (fun s_ w' => (w'.cell? ⟨gb1008, 0, none⟩ = some (.int .i64 a0_0) ∧ w'.cell? ⟨gb1008, 1, none⟩ = some (.slice (some ad1009) l0_1.length c0_1) ∧ w'.cell? ⟨gb1008, 2, none⟩ = some (.slice A0_2 l0_2.length c0_2)) ∧ (Kd.R (Kd.int .i64) 3 w' w.heap.size (fun k_ => some k_ ≠ (s_.2.2 : Value).ownBlock) s_.2.1 y1014) ∧ (Kd.R (Kd.int .i64) 3 w' w.heap.size (fun k_ => some k_ ≠ (s_.2.1 : Value).ownBlock) s_.2.2 y1017) ∧ (w'.heap[gb1008]? = some (.cells #[.int .i64 a0_0, .slice (some ad1009) l0_1.length c0_1, .slice A0_2 l0_2.length c0_2] 24 (0, 0))) ∧ (Below w.heap.size w w')) ?_ ?_
   rotate_left
   ·intro hCont
    refine two_ (i := 0) (j := 7) (Ni := some 22) (Nj := some 29) (ba 15 7775) (ba 15 7902) rfl rfl rfl rfl (two_of HT_.out (by kernel_rfl)) (by decide) (by decide) (fun K hK => ?_) (fun K hK => ?_)
    ·skip
     refine Kd.R_lit_step (Kd.int .i64) _ 3 ?hg (N := 22) ?hd (xs := ([] : List Int)) (inner := []) (ok := fun _ => True) (okp := fun _ => True) ?hr ?hp (fun _ hk => hk) trivial (Below.refl _ _) (Nat.le_refl _) (by simp) ?_; (case hd => rfl); (case hg => rfl); (case hr => first | (go_simp; done) | (go_simp; rfl)); (case hp => exact (Reps.none _ _))
     intro v1011 w19 ho20 hb hg_ hnew_
     clear hg_ hnew_
     (first | rw [← Ny1010.out] at ho20 | (simp only [Int.reduceToNat] at ho20; rw [← Ny1010.out] at ho20))
     have HO1012 := ak (Kd.R_lower ho20 (below_size (hbC _)))
     replace BK1008 := kB BK1008 hb
     replace HB := kH _ hb
     clear hb ho20
     refine hK.out _ _ ⟨bc BK1008 0, bc BK1008 1, bc BK1008 2⟩ (fun hHeld => ?_)
     clear hK K
     refine norm_ (a' := ?_) ?_ ?_
     rotate_left
     ·show Act.put _ (some 22) _ = _
      simp only [Act.put, List.setIfInBounds_toArray, List.set_cons_zero, List.set_cons_succ, i64_w, i32_w]
      rfl
     refine two_ (i := 5) (j := 7) (Ni := some 27) (Nj := some 29) (ba 15 7807) (ba 15 7903) rfl rfl rfl rfl (two_of HT_.out (by kernel_rfl)) (by decide) (by decide) (fun K hK => ?_) (fun K hK => ?_)
     ·skip
      refine Kd.R_append_rows_step (Kd.int .i64) (w0 := w) w.heap.size (by rfl) (.tmp 22) (.tmp 26) 22 3 (.int .i64 0) 8 rfl Try.underlying22 info3 rfl (by decide) (by omega) v1011 y1010 (l0_1.take (x5_1 : Int).toNat) _ _ _ (fun _ => True) (fun _ => False) rfl rfl ?aO ?aR (fun _ _ h => h) (fun _ h => h.elim) ?aF ?aB ?aS ?aL ?_
      (case aR => first | (have hE_ : (l0_1.take (x5_1 : Int).toNat).length = x5_1.toNat := (by rw [List.length_take]; have h_ : (x5_1 : Int) ≤ (l0_1.length : Int) := dA; omega); have hT_ := (Kd.C_below HR1013.out HB.out); rw [hE_] at hT_; exact hT_) | (rw [← show (l0_1.take (x5_1 : Int).toNat).length = x5_1.toNat from (by rw [List.length_take]; have h_ : (x5_1 : Int) ≤ (l0_1.length : Int) := dA; omega)]; exact kC HR1013) | (exact kC HR1013))
      (case aB => exact (hbC _))
      (case aF => exact (fun _ _ => trivial))
      (case aO => exact (rC HO1012))
      (case aS => exact (below_size (hbC _)))
      (case aL => have := LMc10.out; have hlx_ := (show (l0_1.take (x5_1 : Int).toNat).length = x5_1.toNat from (by rw [List.length_take]; have h_ : (x5_1 : Int) ≤ (l0_1.length : Int) := dA; omega)); omega)
      intro v1015 w21 ho hb hg hat
      rw [← Ny1014.out] at ho
      have n0_ := ak (blk_grown (g := gb1008) (o := .cells #[.int .i64 a0_0, .slice (some ad1009) l0_1.length c0_1, .slice A0_2 l0_2.length c0_2] 24 (0, 0)) (bkC BK1008) hg (Kd.R_ne HO1012.out BK1008.out (by decide)))
      have n1_ := ak (hb)
      have n2_ := ak (ho)
      clear BK1008
      clear HB
      clear HO1012
      have BK1008 := n0_
      have HB := n1_
      have HO1016 := n2_
      clear n0_ n1_ n2_
      clear ho hb hg hat
      refine hK.out _ _ ⟨bc BK1008 0, bc BK1008 1, bc BK1008 2⟩ (fun hHeld => ?_)
      clear hK K
      refine norm_ (a' := ?_) ?_ ?_
      rotate_left
      ·show Act.put _ (some 27) _ = _
       simp only [Act.put, List.setIfInBounds_toArray, List.set_cons_zero, List.set_cons_succ, i64_w, i32_w]
       rfl
      refine one_ (i := 7) (N := some 29) (ba 15 7935) rfl rfl (one_of HT_.out (by kernel_rfl)) (by decide) (fun K hK => ?_)
      refine Kd.R_lit_step (Kd.int .i64) _ 3 ?hg (N := 29) ?hd (xs := ([a1] : List Int)) (inner := [.int .i64 a1]) (ok := fun _ => True) (okp := fun _ => True) ?hr ?hp (fun _ hk => hk) trivial (Below.refl _ _) (Nat.le_refl _) (by simp) ?_; (case hd => rfl); (case hg => rfl); (case hr => first | (go_simp; done) | (go_simp; rfl)); (case hp => exact (Reps.one (show Kd.M (Kd.int .i64) _ _ _ a1 [.int .i64 a1] from rfl) (Reps.none _ _)))
      intro v1018 w22 ho23 hb hg_ hnew_
      clear hg_ hnew_
      (first | rw [← Ny1017.out] at ho23 | (simp only [Int.reduceToNat] at ho23; rw [← Ny1017.out] at ho23))
      have HO1019 := ak (Kd.R_lower (Kd.R_new' ho23 (Kd.R_lt (rC HO1016))) (below_size (hbC _)))
      replace HO1016 := ak (Kd.R_elder' (rC HO1016) (Kd.R_base ho23) hb)
      replace BK1008 := kB BK1008 hb
      replace HB := kH _ hb
      clear hb ho23
      refine hK.out _ _ ⟨bc BK1008 0, bc BK1008 1, bc BK1008 2⟩ (fun hHeld => ?_)
      clear hK K
      refine norm_ (a' := ?_) ?_ ?_
      rotate_left
      ·show Act.put _ (some 29) _ = _
       simp only [Act.put, List.setIfInBounds_toArray, List.set_cons_zero, List.set_cons_succ, i64_w, i32_w]
       rfl
      exact norm_ (by simp only [putAll, Act.put, List.setIfInBounds_toArray, List.set_cons_zero, List.set_cons_succ]) (hCont (v1011, v1015, v1018) _ ⟨hHeld, (rD (Kd.R_mono HO1016.out (fun _ hk => hk.2))), (rD (Kd.R_mono HO1019.out (fun _ hk => hk.2))), (bkC BK1008), (hbC _)⟩)
     ·skip
      refine Kd.R_lit_step (Kd.int .i64) _ 3 ?hg (N := 29) ?hd (xs := ([a1] : List Int)) (inner := [.int .i64 a1]) (ok := fun _ => True) (okp := fun _ => True) ?hr ?hp (fun _ hk => hk) trivial (Below.refl _ _) (Nat.le_refl _) (by simp) ?_; (case hd => rfl); (case hg => rfl); (case hr => first | (go_simp; done) | (go_simp; rfl)); (case hp => exact (Reps.one (show Kd.M (Kd.int .i64) _ _ _ a1 [.int .i64 a1] from rfl) (Reps.none _ _)))
      intro v1018 w21 ho22 hb hg_ hnew_
      clear hg_ hnew_
      (first | rw [← Ny1017.out] at ho22 | (simp only [Int.reduceToNat] at ho22; rw [← Ny1017.out] at ho22))
      have HO1019 := ak (Kd.R_lower (Kd.R_new' ho22 (Kd.R_lt (rC HO1012))) (below_size (hbC _)))
      replace HO1012 := ak (Kd.R_elder' (rC HO1012) (Kd.R_base ho22) hb)
      replace BK1008 := kB BK1008 hb
      replace HB := kH _ hb
      clear hb ho22
      refine hK.out _ _ ⟨bc BK1008 0, bc BK1008 1, bc BK1008 2⟩ (fun hHeld => ?_)
      clear hK K
      refine norm_ (a' := ?_) ?_ ?_
      rotate_left
      ·show Act.put _ (some 29) _ = _
       simp only [Act.put, List.setIfInBounds_toArray, List.set_cons_zero, List.set_cons_succ, i64_w, i32_w]
       rfl
      refine one_ (i := 5) (N := some 27) (ba 15 7935) rfl rfl (one_of HT_.out (by kernel_rfl)) (by decide) (fun K hK => ?_)
      refine Kd.R_append_rows_step (Kd.int .i64) (w0 := w) w.heap.size (by rfl) (.tmp 22) (.tmp 26) 22 3 (.int .i64 0) 8 rfl Try.underlying22 info3 rfl (by decide) (by omega) v1011 y1010 (l0_1.take (x5_1 : Int).toNat) _ _ _ (fun k_ => nb k_ v1018) (fun _ => False) rfl rfl ?aO ?aR (fun _ _ h => h) (fun _ h => h.elim) ?aF ?aB ?aS ?aL ?_
      (case aR => first | (have hE_ : (l0_1.take (x5_1 : Int).toNat).length = x5_1.toNat := (by rw [List.length_take]; have h_ : (x5_1 : Int) ≤ (l0_1.length : Int) := dA; omega); have hT_ := (Kd.C_below HR1013.out HB.out); rw [hE_] at hT_; exact hT_) | (rw [← show (l0_1.take (x5_1 : Int).toNat).length = x5_1.toNat from (by rw [List.length_take]; have h_ : (x5_1 : Int) ≤ (l0_1.length : Int) := dA; omega)]; exact kC HR1013) | (exact kC HR1013))
      (case aB => exact (hbC _))
      (case aF => exact (fun k_ hk => Kd.fresh' (Kd.R_lt (rC HO1019)) k_ hk))
      (case aO => exact (rD (Kd.R_mono HO1012.out (fun _ hk => hk.2))))
      (case aS => exact (below_size (hbC _)))
      (case aL => have := LMc10.out; have hlx_ := (show (l0_1.take (x5_1 : Int).toNat).length = x5_1.toNat from (by rw [List.length_take]; have h_ : (x5_1 : Int) ≤ (l0_1.length : Int) := dA; omega)); omega)
      intro v1015 w23 ho hb hg hat
      rw [← Ny1014.out] at ho
      have n0_ := ak (blk_grown (g := gb1008) (o := .cells #[.int .i64 a0_0, .slice (some ad1009) l0_1.length c0_1, .slice A0_2 l0_2.length c0_2] 24 (0, 0)) (bkC BK1008) hg (Kd.R_ne HO1012.out BK1008.out (by decide)))
      have n1_ := ak (Kd.R_after (ok := (fun _ => True)) (rC HO1019) hg hat)
      have n2_ := ak (hb)
      have n3_ := ak (ho)
      clear BK1008
      clear HO1019
      clear HB
      clear HO1012
      have BK1008 := n0_
      have HO1019 := n1_
      have HB := n2_
      have HO1016 := n3_
      clear n0_ n1_ n2_ n3_
      clear ho hb hg hat
      refine hK.out _ _ ⟨bc BK1008 0, bc BK1008 1, bc BK1008 2⟩ (fun hHeld => ?_)
      clear hK K
      refine norm_ (a' := ?_) ?_ ?_
      rotate_left
      ·show Act.put _ (some 27) _ = _
       simp only [Act.put, List.setIfInBounds_toArray, List.set_cons_zero, List.set_cons_succ, i64_w, i32_w]
       rfl
      exact norm_ (by simp only [putAll, Act.put, List.setIfInBounds_toArray, List.set_cons_zero, List.set_cons_succ]) (hCont (v1011, v1015, v1018) _ ⟨hHeld, (rC HO1016), (rD (Kd.R_mono HO1019.out (fun _ hk => hk.2))), (bkC BK1008), (hbC _)⟩)
    ·skip
     refine Kd.R_lit_step (Kd.int .i64) _ 3 ?hg (N := 29) ?hd (xs := ([a1] : List Int)) (inner := [.int .i64 a1]) (ok := fun _ => True) (okp := fun _ => True) ?hr ?hp (fun _ hk => hk) trivial (Below.refl _ _) (Nat.le_refl _) (by simp) ?_; (case hd => rfl); (case hg => rfl); (case hr => first | (go_simp; done) | (go_simp; rfl)); (case hp => exact (Reps.one (show Kd.M (Kd.int .i64) _ _ _ a1 [.int .i64 a1] from rfl) (Reps.none _ _)))
     intro v1018 w19 ho20 hb hg_ hnew_
     clear hg_ hnew_
     (first | rw [← Ny1017.out] at ho20 | (simp only [Int.reduceToNat] at ho20; rw [← Ny1017.out] at ho20))
     have HO1019 := ak (Kd.R_lower ho20 (below_size (hbC _)))
     replace BK1008 := kB BK1008 hb
     replace HB := kH _ hb
     clear hb ho20
     refine hK.out _ _ ⟨bc BK1008 0, bc BK1008 1, bc BK1008 2⟩ (fun hHeld => ?_)
     clear hK K
     refine norm_ (a' := ?_) ?_ ?_
     rotate_left
     ·show Act.put _ (some 29) _ = _
      simp only [Act.put, List.setIfInBounds_toArray, List.set_cons_zero, List.set_cons_succ, i64_w, i32_w]
      rfl
     refine one_ (i := 0) (N := some 22) (ba 15 7903) rfl rfl (one_of HT_.out (by kernel_rfl)) (by decide) (fun K hK => ?_)
     refine Kd.R_lit_step (Kd.int .i64) _ 3 ?hg (N := 22) ?hd (xs := ([] : List Int)) (inner := []) (ok := fun _ => True) (okp := fun _ => True) ?hr ?hp (fun _ hk => hk) trivial (Below.refl _ _) (Nat.le_refl _) (by simp) ?_; (case hd => rfl); (case hg => rfl); (case hr => first | (go_simp; done) | (go_simp; rfl)); (case hp => exact (Reps.none _ _))
     intro v1011 w21 ho22 hb hg_ hnew_
     clear hg_ hnew_
     (first | rw [← Ny1010.out] at ho22 | (simp only [Int.reduceToNat] at ho22; rw [← Ny1010.out] at ho22))
     have HO1012 := ak (Kd.R_lower (Kd.R_new' ho22 (Kd.R_lt (rC HO1019))) (below_size (hbC _)))
     replace HO1019 := ak (Kd.R_elder' (rC HO1019) (Kd.R_base ho22) hb)
     replace BK1008 := kB BK1008 hb
     replace HB := kH _ hb
     clear hb ho22
     refine hK.out _ _ ⟨bc BK1008 0, bc BK1008 1, bc BK1008 2⟩ (fun hHeld => ?_)
     clear hK K
     refine norm_ (a' := ?_) ?_ ?_
     rotate_left
     ·show Act.put _ (some 22) _ = _
      simp only [Act.put, List.setIfInBounds_toArray, List.set_cons_zero, List.set_cons_succ, i64_w, i32_w]
      rfl
     refine one_ (i := 5) (N := some 27) (ba 15 7935) rfl rfl (one_of HT_.out (by kernel_rfl)) (by decide) (fun K hK => ?_)
     refine Kd.R_append_rows_step (Kd.int .i64) (w0 := w) w.heap.size (by rfl) (.tmp 22) (.tmp 26) 22 3 (.int .i64 0) 8 rfl Try.underlying22 info3 rfl (by decide) (by omega) v1011 y1010 (l0_1.take (x5_1 : Int).toNat) _ _ _ (fun k_ => nb k_ v1018) (fun _ => False) rfl rfl ?aO ?aR (fun _ _ h => h) (fun _ h => h.elim) ?aF ?aB ?aS ?aL ?_
     (case aR => first | (have hE_ : (l0_1.take (x5_1 : Int).toNat).length = x5_1.toNat := (by rw [List.length_take]; have h_ : (x5_1 : Int) ≤ (l0_1.length : Int) := dA; omega); have hT_ := (Kd.C_below HR1013.out HB.out); rw [hE_] at hT_; exact hT_) | (rw [← show (l0_1.take (x5_1 : Int).toNat).length = x5_1.toNat from (by rw [List.length_take]; have h_ : (x5_1 : Int) ≤ (l0_1.length : Int) := dA; omega)]; exact kC HR1013) | (exact kC HR1013))
     (case aB => exact (hbC _))
     (case aF => exact (fun k_ hk => Kd.fresh' (Kd.R_lt (rC HO1019)) k_ hk))
     (case aO => exact (rD (Kd.R_mono HO1012.out (fun _ hk => hk.2))))
     (case aS => exact (below_size (hbC _)))
     (case aL => have := LMc10.out; have hlx_ := (show (l0_1.take (x5_1 : Int).toNat).length = x5_1.toNat from (by rw [List.length_take]; have h_ : (x5_1 : Int) ≤ (l0_1.length : Int) := dA; omega)); omega)
     intro v1015 w23 ho hb hg hat
     rw [← Ny1014.out] at ho
     have n0_ := ak (blk_grown (g := gb1008) (o := .cells #[.int .i64 a0_0, .slice (some ad1009) l0_1.length c0_1, .slice A0_2 l0_2.length c0_2] 24 (0, 0)) (bkC BK1008) hg (Kd.R_ne HO1012.out BK1008.out (by decide)))
     have n1_ := ak (Kd.R_after (ok := (fun _ => True)) (rC HO1019) hg hat)
     have n2_ := ak (hb)
     have n3_ := ak (ho)
     clear BK1008
     clear HO1019
     clear HB
     clear HO1012
     have BK1008 := n0_
     have HO1019 := n1_
     have HB := n2_
     have HO1016 := n3_
     clear n0_ n1_ n2_ n3_
     clear ho hb hg hat
     refine hK.out _ _ ⟨bc BK1008 0, bc BK1008 1, bc BK1008 2⟩ (fun hHeld => ?_)
     clear hK K
     refine norm_ (a' := ?_) ?_ ?_
     rotate_left
     ·show Act.put _ (some 27) _ = _
      simp only [Act.put, List.setIfInBounds_toArray, List.set_cons_zero, List.set_cons_succ, i64_w, i32_w]
      rfl
     exact norm_ (by simp only [putAll, Act.put, List.setIfInBounds_toArray, List.set_cons_zero, List.set_cons_succ]) (hCont (v1011, v1015, v1018) _ ⟨hHeld, (rC HO1016), (rD (Kd.R_mono HO1019.out (fun _ hk => hk.2))), (bkC BK1008), (hbC _)⟩)
   rintro ⟨v1011, v1015, v1018⟩ w24 ⟨hS_, h0_, h1_, h2_, h3_⟩
   have n0_ : Aside0 (Kd.R (Kd.int .i64) 3 w24 w.heap.size (fun k_ => nb k_ v1018) v1015 y1014) := ⟨h0_⟩
   have n1_ : Aside0 (Kd.R (Kd.int .i64) 3 w24 w.heap.size (fun k_ => nb k_ v1015) v1018 y1017) := ⟨h1_⟩
   have n2_ : Aside0 (w24.heap[gb1008]? = some (.cells #[.int .i64 a0_0, .slice (some ad1009) l0_1.length c0_1, .slice A0_2 l0_2.length c0_2] 24 (0, 0))) := ⟨h2_⟩
   have n3_ : Aside0 (Below w.heap.size w w24) := ⟨h3_⟩
   clear BK1008
   clear HB
   clear h0_ h1_ h2_ h3_
   have HO1016 := n0_
   have HO1019 := n1_
   have BK1008 := n2_
   have HB := n3_
   clear n0_ n1_ n2_ n3_
   have hHeld : w24.cell? ⟨gb1008, 0, none⟩ = some (.int .i64 a0_0) ∧ w24.cell? ⟨gb1008, 1, none⟩ = some (.slice (some ad1009) l0_1.length c0_1) ∧ w24.cell? ⟨gb1008, 2, none⟩ = some (.slice A0_2 l0_2.length c0_2) := hS_
   obtain ⟨Ao26, co26, eo26⟩ := Kd.R_slice HO1019.out
   (first | subst eo26 | (injection eo26 with f1_ f2_ f3_; have f4_ := f1_.symm; have f5_ := f3_.symm; clear f1_ f2_ f3_; subst f4_; subst f5_))
   refine norm_ (a' := ?_) ?_ ?_
   rotate_left
   ·simp only [putAll, Act.put, List.setIfInBounds_toArray, List.set_cons_zero, List.set_cons_succ]
    rfl
   refine one_ (i := 8) (N := some 30) (ba 15 8191) rfl rfl (one_of HT_.out (by kernel_rfl)) (by decide) (fun K hK => ?_)
   refine Kd.R_append_rows_step (Kd.int .i64) (w0 := w) w.heap.size (by rfl) (.tmp 27) (.tmp 29) 22 3 (.int .i64 0) 8 rfl Try.underlying22 info3 rfl (by decide) (by omega) v1015 y1014 y1017 _ _ _ (fun k_ => nb k_ (.slice Ao26 y1017.length co26)) (fun _ => False) rfl rfl ?aO ?aR (fun _ _ h => h) (fun _ h => h.elim) ?aF ?aB ?aS ?aL ?_
   (case aR => exact kD (Kd.R_reads' HO1019.out).2.2)
   (case aB => exact (hbC _))
   (case aF => exact (fun k_ hk => Kd.fresh' (Kd.R_lt (rC HO1019)) k_ hk))
   (case aO => exact (rC HO1016))
   (case aS => exact (below_size (hbC _)))
   (case aL => have := LMc11.out; omega)
   intro v1021 w25 ho hb hg hat
   rw [← Ny1020.out] at ho
   have n0_ := ak (blk_grown (g := gb1008) (o := .cells #[.int .i64 a0_0, .slice (some ad1009) l0_1.length c0_1, .slice A0_2 l0_2.length c0_2] 24 (0, 0)) (bkC BK1008) hg (Kd.R_ne HO1016.out BK1008.out (by decide)))
   have n1_ := ak (Kd.R_after (ok := (fun _ => True)) (rD (Kd.R_mono HO1019.out (fun _ hk => ⟨trivial, hk⟩))) hg hat)
   have n2_ := ak (hb)
   have n3_ := ak (ho)
   clear BK1008
   clear HO1019
   clear HB
   clear HO1016
   have BK1008 := n0_
   have HO1019 := n1_
   have HB := n2_
   have HO1022 := n3_
   clear n0_ n1_ n2_ n3_
   clear ho hb hg hat
   refine hK.out _ _ ⟨bc BK1008 0, bc BK1008 1, bc BK1008 2⟩ (fun hHeld => ?_)
   clear hK K
   refine norm_ (a' := ?_) ?_ ?_
   rotate_left
   ·show Act.put _ (some 30) _ = _
    simp only [Act.put, List.setIfInBounds_toArray, List.set_cons_zero, List.set_cons_succ, i64_w, i32_w]
    rfl
   refine one_ (i := 13) (N := some 35) (ba 15 16383) rfl rfl (one_of HT_.out (by kernel_rfl)) (by decide) (fun K hK => ?_)
   refine Kd.R_append_rows_step (Kd.int .i64) (w0 := w) w.heap.size (by rfl) (.tmp 30) (.tmp 34) 22 3 (.int .i64 0) 8 rfl Try.underlying22 info3 rfl (by decide) (by omega) v1021 y1020 (l0_1.drop (x5_1 : Int).toNat) _ _ _ (fun k_ => nb k_ (.slice Ao26 y1017.length co26)) (fun _ => False) rfl rfl ?aO ?aR (fun _ _ h => h) (fun _ h => h.elim) ?aF ?aB ?aS ?aL ?_
   (case aR => first | (rw [← show (l0_1.drop (x5_1 : Int).toNat).length = (l0_1.length - x5_1.toNat) from List.length_drop]; exact kC HR1023) | (exact kC HR1023))
   (case aB => exact (hbC _))
   (case aF => exact (fun k_ hk => Kd.fresh' (Kd.R_lt (rC HO1019)) k_ hk))
   (case aO => exact (rC HO1022))
   (case aS => exact (below_size (hbC _)))
   (case aL => have := LMc14.out; have hlx_ := (show (l0_1.drop (x5_1 : Int).toNat).length = (l0_1.length - x5_1.toNat) from List.length_drop); omega)
   intro v1025 w27 ho hb hg hat
   rw [← Ny1024.out] at ho
   have n0_ := ak (blk_grown (g := gb1008) (o := .cells #[.int .i64 a0_0, .slice (some ad1009) l0_1.length c0_1, .slice A0_2 l0_2.length c0_2] 24 (0, 0)) (bkC BK1008) hg (Kd.R_ne HO1022.out BK1008.out (by decide)))
   have n1_ := ak (Kd.R_after (ok := (fun _ => True)) (rC HO1019) hg hat)
   have n2_ := ak (hb)
   have n3_ := ak (ho)
   clear BK1008
   clear HO1019
   clear HB
   clear HO1022
   have BK1008 := n0_
   have HO1019 := n1_
   have HB := n2_
   have HO1026 := n3_
   clear n0_ n1_ n2_ n3_
   clear ho hb hg hat
   refine hK.out _ _ ⟨bc BK1008 0, bc BK1008 1, bc BK1008 2⟩ (fun hHeld => ?_)
   clear hK K
   refine norm_ (a' := ?_) ?_ ?_
   rotate_left
   ·show Act.put _ (some 35) _ = _
    simp only [Act.put, List.setIfInBounds_toArray, List.set_cons_zero, List.set_cons_succ, i64_w, i32_w]
    rfl
   refine pS 14 4 15 32767 ?_
   refine done_ (done_of HT_.out (by kernel_rfl)) ?_
   try go_wp2
   go_ret
   exact ⟨_, by first | rfl | (simp [errW_none, errW_some] <;> rfl) | (simp [*, errW_none, errW_some] <;> rfl), rD (Kd.R_mono HO1026.out (fun _ hk => trivial)), hbC _⟩

end Go.Proofs.Ytpnocmkpeogifaa.X
