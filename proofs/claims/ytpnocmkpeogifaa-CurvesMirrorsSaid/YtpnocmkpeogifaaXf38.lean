-- Written by a program of this work (wip/xprint.py, over the kit's printer) out of the translation.
import Derived.Test.YtpnocmkpeogifaaX0
namespace Go.Proofs.Ytpnocmkpeogifaa.X
open Go.RowKit Go.Proofs.YtpnocmkpeogifaaW.PrintWords Go.Proofs.YtpnocmkpeogifaaW.PrintLast Go.Proofs.YtpnocmkpeogifaaW.PrintMore
attribute [local go_sem] max2_int min2_int max_two min_two max_three min_three max_four min_four   -- for this text's walks alone
set_option linter.unusedVariables false
set_option linter.unusedSimpArgs false

/-! ### congouref04_Added: function 38 -/
def congouref04_Added.l0 : Nat → List Int → Int → Int → Int → List Int → List Int → Int → List Int → List Int → Option (Int × List Int × List Int × Int)
 | 0, _, _, _, _, _, _, _, _, _ => none
 | k + 1, x18, x19, x20, x707000, x707001, x707002, x715000, x715001, x715002 => if x20 < x19 then (if 0 ≤ x20 then (if x20 < (x18.length : Int) then (if x20 < (x707002.length : Int) then (if (wrap64 ((rd x18 x20) + (rd x707002 x20))) < (-50) then (some (0, ([] : List Int), ([] : List Int), 4)) else (if (wrap64 ((rd x18 x20) + (rd x707002 x20))) > 50 then (some (0, ([] : List Int), ([] : List Int), 4)) else (if x715002.length < 17592186044416 then (congouref04_Added.l0 k x18 x19 (wrap64 (x20 + 1)) x707000 x707001 x707002 x715000 x715001 (x715002 ++ [wrap64 ((rd x18 x20) + (rd x707002 x20))])) else (none)))) else (none)) else (none)) else (none)) else (some (x715000, x715001, x715002, 0))
def congouref04_Added.f (k : Nat) (a0_0 : Int) (l0_1 : List Int) (l0_2 : List Int) (a1_0 : Int) (l1_1 : List Int) (l1_2 : List Int) : Option (Int × List Int × List Int × Int) := (some (([] : List Int) : List Int)).bind fun y708 => (if y708.length + l0_1.length < 17592186044416 then (congouref04_Added.l0 k l0_2 (l0_2.length : Int) 0 a1_0 l1_1 l1_2 a0_0 (y708 ++ l0_1) ([] : List Int)) else (none))
theorem congouref04_Added.mono_l : ∀ k, (∀ y0 y1 y2 y3 y4 y5 y6 y7 y8, LeO (congouref04_Added.l0 k y0 y1 y2 y3 y4 y5 y6 y7 y8) (congouref04_Added.l0 (k + 1) y0 y1 y2 y3 y4 y5 y6 y7 y8))
 | 0 => fun _ _ _ _ _ _ _ _ _ r h => by simp [congouref04_Added.l0] at h
 | k + 1 => by
  have ih0 := congouref04_Added.mono_l k
  ·intro y0 y1 y2 y3 y4 y5 y6 y7 y8
   unfold congouref04_Added.l0
   repeat' first
   | (with_reducible exact ih0 _ _ _ _ _ _ _ _ _)
   | (with_reducible exact LeO.refl _)
   | (with_reducible exact LeO.none _)
   | (with_reducible refine LeO.ite ?_ ?_)
   | (with_reducible refine LeO.bind ?_ (fun _ => ?_))
   | exact ih0 _ _ _ _ _ _ _ _ _
   | exact LeO.none _
   | refine LeO.ite ?_ ?_
   | refine LeO.bind ?_ (fun _ => ?_)
theorem congouref04_Added.mono : ∀ a0 a1 a2 a3 a4 a5 k, LeO (congouref04_Added.f k a0 a1 a2 a3 a4 a5) (congouref04_Added.f (k + 1) a0 a1 a2 a3 a4 a5) := by
 intro a0 a1 a2 a3 a4 a5 k
 have ih0 := congouref04_Added.mono_l k
 unfold congouref04_Added.f
 repeat' first
   | (with_reducible exact ih0 _ _ _ _ _ _ _ _ _)
   | (with_reducible exact LeO.refl _)
   | (with_reducible exact LeO.none _)
   | (with_reducible refine LeO.ite ?_ ?_)
   | (with_reducible refine LeO.bind ?_ (fun _ => ?_))
   | exact ih0 _ _ _ _ _ _ _ _ _
   | exact LeO.none _
   | refine LeO.ite ?_ ?_
   | refine LeO.bind ?_ (fun _ => ?_)
def congouref04_Added.T1 : Bool × List (List Nat × List Nat) := (true, [([], []), ([0], [0]), ([], []), ([], []), ([3], [3]), ([2, 4], [2, 4]), ([1, 5], [1, 5]), ([], []), ([7, 6, 5, 0, 1, 2, 3, 4, 5, 6, 7], [6, 7])])
def congouref04_Added.B1 : List Nat := [0, 1, 0, 0, 8, 28, 63, 0, 255]
theorem congouref04_Added.tab1 : rtab .any (opsOf Try.f38 1) = congouref04_Added.T1 := by kernel_rfl
theorem congouref04_Added.bits1 : waitsOk congouref04_Added.T1.2 congouref04_Added.B1 = true := by kernel_rfl
set_option maxHeartbeats 8000000 in
set_option maxRecDepth 100000 in
theorem congouref04_Added.calls (k : Nat) (a0_0 : Int) (A0_1 : Option Addr) (c0_1 : Nat) (l0_1 : List Int) (A0_2 : Option Addr) (c0_2 : Nat) (l0_2 : List Int) (a1_0 : Int) (A1_1 : Option Addr) (c1_1 : Nat) (l1_1 : List Int) (A1_2 : Option Addr) (c1_2 : Nat) (l1_2 : List Int) (r1 : Int) (r2 : List Int) (r3 : List Int) (r4 : Int) (w : World) (hr0_1 : Kd.C (Kd.int .i64) w A0_1 l0_1.length l0_1) (hc0_1 : l0_1.length ≤ c0_1) (hr0_2 : Kd.C (Kd.int .i64) w A0_2 l0_2.length l0_2) (hc0_2 : l0_2.length ≤ c0_2) (hr1_1 : Kd.C (Kd.int .i64) w A1_1 l1_1.length l1_1) (hc1_1 : l1_1.length ≤ c1_1) (hr1_2 : Kd.C (Kd.int .i64) w A1_2 l1_2.length l1_2) (hc1_2 : l1_2.length ≤ c1_2) (h : congouref04_Added.f k a0_0 l0_1 l0_2 a1_0 l1_1 l1_2 = some (r1, r2, r3, r4)) :
  Calls Try.prog 38 #[.agg #[.int .i64 a0_0, .slice A0_1 l0_1.length c0_1, .slice A0_2 l0_2.length c0_2], .agg #[.int .i64 a1_0, .slice A1_1 l1_1.length c1_1, .slice A1_2 l1_2.length c1_2]] w fun e w' => ∃ v1_ v2_ : Value, e = .returned (.tuple #[.agg #[.int .i64 r1, v1_, v2_], .int .i64 r4]) ∧ Kd.R (Kd.int .i64) 3 w' w.heap.size (fun k_ => some k_ ≠ (v2_ : Value).ownBlock) v1_ r2 ∧ Kd.R (Kd.int .i64) 3 w' w.heap.size (fun k_ => some k_ ≠ (v1_ : Value).ownBlock) v2_ r3 ∧ Below w.heap.size w w' := by
 have hu24 := Try.underlying24
 have HR0_1 := Aside0.mk hr0_1
 have HC0_1 := Aside0.mk hc0_1
 clear hr0_1 hc0_1
 have HR0_2 := Aside0.mk hr0_2
 have HC0_2 := Aside0.mk hc0_2
 clear hr0_2 hc0_2
 have HR1_1 := Aside0.mk hr1_1
 have HC1_1 := Aside0.mk hc1_1
 clear hr1_1 hc1_1
 have HR1_2 := Aside0.mk hr1_2
 have HC1_2 := Aside0.mk hc1_2
 clear hr1_2 hc1_2
 have HB := ak (Below.refl w.heap.size w)
 have H : ((some (([] : List Int) : List Int)).bind fun y708 => (if y708.length + l0_1.length < 17592186044416 then (congouref04_Added.l0 k l0_2 (l0_2.length : Int) 0 a1_0 l1_1 l1_2 a0_0 (y708 ++ l0_1) ([] : List Int)) else (none))) = some (r1, r2, r3, r4) := h
 clear h
 obtain ⟨y708, hy708⟩ : ∃ y_ : List Int, y_ = (([] : List Int)) := ⟨_, rfl⟩
 replace H : (if y708.length + l0_1.length < 17592186044416 then (congouref04_Added.l0 k l0_2 (l0_2.length : Int) 0 a1_0 l1_1 l1_2 a0_0 (y708 ++ l0_1) ([] : List Int)) else (none)) = some (r1, r2, r3, r4) := by first | (rw [hy708]; with_reducible exact H) | (have H2_ := (Option.bind_some _ _).symm.trans H; rw [hy708]; with_reducible exact H2_) | (have H2_ := (Option.bind_some _ _).symm.trans H; with_reducible exact H2_) | with_reducible exact H | (rw [hy708]; exact H) | exact H
 have Ny708 := Aside0.mk hy708
 clear hy708
 by_cases c3 : y708.length + l0_1.length < 17592186044416
 rotate_left
 ·rw [if_neg c3] at H
  exact absurd H (by simp)
 rw [if_pos c3] at H
 have LMc3 := Aside0.mk c3
 clear c3
 obtain ⟨y711, hy711⟩ : ∃ y_ : List Int, y_ = (y708 ++ l0_1) := ⟨_, rfl⟩
 replace H : (congouref04_Added.l0 k l0_2 (l0_2.length : Int) 0 a1_0 l1_1 l1_2 a0_0 y711 ([] : List Int)) = some (r1, r2, r3, r4) := by first | (rw [hy711]; with_reducible exact H) | (have H2_ := (Option.bind_some _ _).symm.trans H; rw [hy711]; with_reducible exact H2_) | (have H2_ := (Option.bind_some _ _).symm.trans H; with_reducible exact H2_) | with_reducible exact H | (rw [hy711]; exact H) | exact H
 have Ny711 := Aside0.mk hy711
 clear hy711
 have H' := Aside0.mk H
 clear H
 go_enter Try.func38, Try.ntmps38
 try go_wp2_with (first | ((with_reducible refine gate_dst (N := 2) rfl ?_); refine bE 2 #[.int .i64 a0_0, .slice A0_1 l0_1.length c0_1, .slice A0_2 l0_2.length c0_2] 24 ?_; intro gb705 hg w4 hbox hb; have BK705 := ak (hbox); have GW705 := kG w hg; have GE705 := kG w hg; replace HB := kH _ hb; clear hb hbox hg) | ((with_reducible refine gate_dst (N := 3) rfl ?_); refine bE 3 #[.int .i64 a1_0, .slice A1_1 l1_1.length c1_1, .slice A1_2 l1_2.length c1_2] 24 ?_; intro gb706 hg w5 hbox hb; have BK706 := ak (hbox); have GW706 := kG w hg; have GE706 := kG w hg; replace HB := kH _ hb; have NB705_706 := kL BK705 hg; have NB706_705 := kR BK705 hg; replace BK705 := kB BK705 hb; clear hb hbox hg) | ((with_reducible refine gate_dst (N := 4) rfl ?_); refine bE 4 #[.int .i64 0, .slice none 0 0, .slice none 0 0] 24 ?_; intro gb707 hg w6 hbox hb; have BK707 := ak (hbox); have GW707 := kG w hg; have GE707 := kG w hg; replace HB := kH _ hb; have NB705_707 := kL BK705 hg; have NB707_705 := kR BK705 hg; replace BK705 := kB BK705 hb; have NB706_707 := kL BK706 hg; have NB707_706 := kR BK706 hg; replace BK706 := kB BK706 hb; clear hb hbox hg))
 replace BK705 := kd BK705
 replace BK706 := kd BK706
 replace BK707 := kd BK707
 replace HB := ak (below_drew1 HB.out)
 refine sS (n := 9) (S := fun w' => w'.cell? ⟨gb705, 0, none⟩ = some (.int .i64 a0_0) ∧ w'.cell? ⟨gb705, 1, none⟩ = some (.slice A0_1 l0_1.length c0_1) ∧ w'.cell? ⟨gb705, 2, none⟩ = some (.slice A0_2 l0_2.length c0_2)) (ds := []) ⟨bc BK705 0, bc BK705 1, bc BK705 2⟩ (fun hHeld => ?_); refine with_tabW congouref04_Added.tab1 congouref04_Added.bits1 (fun HT_ HW_ => ?_)
 generalize w6.drew = w7 at BK705 BK706 BK707 HB hHeld ⊢
 refine pS 0 10 9 1 ?_
 refine pS 3 13 9 9 ?_
 refine tS 1 11 9 11 ?_
 refine tS 4 14 9 27 ?_
 refine join_ (σ := Value × Value × Nat) 1 (ba 9 255) (fun s_ => [(12, s_.1), (15, s_.2.1), (6, .pointer (some ⟨s_.2.2, 0, none⟩)), (16, .agg #[.int .i64 a0_0, s_.2.1, .slice none 0 0])]) (fun s_ w' => (w'.cell? ⟨gb705, 0, none⟩ = some (.int .i64 a0_0) ∧ w'.cell? ⟨gb705, 1, none⟩ = some (.slice A0_1 l0_1.length c0_1) ∧ w'.cell? ⟨gb705, 2, none⟩ = some (.slice A0_2 l0_2.length c0_2)) ∧ (Kd.R (Kd.int .i64) 3 w' w.heap.size (fun _ => True) s_.2.1 y711) ∧ (w'.heap[gb705]? = some (.cells #[.int .i64 a0_0, .slice A0_1 l0_1.length c0_1, .slice A0_2 l0_2.length c0_2] 24 (0, 0))) ∧ (w'.heap[gb706]? = some (.cells #[.int .i64 a1_0, .slice A1_1 l1_1.length c1_1, .slice A1_2 l1_2.length c1_2] 24 (0, 0))) ∧ (w'.heap[gb707]? = some (.cells #[.int .i64 0, .slice none 0 0, .slice none 0 0] 24 (0, 0))) ∧ (w'.heap[s_.2.2]? = some (.cells #[.int .i64 0, .slice none 0 0, .slice none 0 0] 24 (0, 0))) ∧ (w.heap.size ≤ s_.2.2) ∧ (w.heap.size ≤ s_.2.2) ∧ (gb705 ≠ s_.2.2) ∧ (s_.2.2 ≠ gb705) ∧ (gb706 ≠ s_.2.2) ∧ (s_.2.2 ≠ gb706) ∧ (gb707 ≠ s_.2.2) ∧ (s_.2.2 ≠ gb707) ∧ (Below w.heap.size w w')) ?_ ?_
 rotate_left
 ·intro hCont
  refine two_ (i := 2) (j := 7) (Ni := some 12) (Nj := some 6) (ba 9 31) (ba 9 155) rfl rfl rfl rfl (two_of HT_.out (by kernel_rfl)) (by decide) (by decide) (fun K hK => ?_) (fun K hK => ?_)
  ·skip
   refine Kd.R_lit_step (Kd.int .i64) _ 3 ?hg (N := 12) ?hd (xs := ([] : List Int)) (inner := []) (ok := fun _ => True) (okp := fun _ => True) ?hr ?hp (fun _ hk => hk) trivial (Below.refl _ _) (Nat.le_refl _) (by simp) ?_; (case hd => rfl); (case hg => rfl); (case hr => first | (go_simp; done) | (go_simp; rfl)); (case hp => exact (Reps.none _ _))
   intro v709 w8 ho9 hb hg_ hnew_
   clear hg_ hnew_
   (first | rw [← Ny708.out] at ho9 | (simp only [Int.reduceToNat] at ho9; rw [← Ny708.out] at ho9))
   have HO710 := ak (Kd.R_lower ho9 (below_size (hbC _)))
   replace BK705 := kB BK705 hb
   replace BK706 := kB BK706 hb
   replace BK707 := kB BK707 hb
   replace HB := kH _ hb
   clear hb ho9
   refine hK.out _ _ ⟨bc BK705 0, bc BK705 1, bc BK705 2⟩ (fun hHeld => ?_)
   clear hK K
   refine norm_ (a' := ?_) ?_ ?_
   rotate_left
   ·show Act.put _ (some 12) _ = _
    simp only [Act.put, List.setIfInBounds_toArray, List.set_cons_zero, List.set_cons_succ, i64_w, i32_w]
    rfl
   refine two_ (i := 5) (j := 7) (Ni := some 15) (Nj := some 6) (ba 9 63) (ba 9 159) rfl rfl rfl rfl (two_of HT_.out (by kernel_rfl)) (by decide) (by decide) (fun K hK => ?_) (fun K hK => ?_)
   ·skip
    refine Kd.R_append_rows_step (Kd.int .i64) (w0 := w) w.heap.size (by rfl) (.tmp 12) (.tmp 14) 22 3 (.int .i64 0) 8 rfl Try.underlying22 info3 rfl (by decide) (by omega) v709 y708 l0_1 _ _ _ (fun _ => True) (fun _ => False) rfl rfl ?aO ?aR (fun _ _ h => h) (fun _ h => h.elim) ?aF ?aB ?aS ?aL ?_
    (case aR => exact kC HR0_1)
    (case aB => exact (hbC _))
    (case aF => exact (fun _ _ => trivial))
    (case aO => exact (rC HO710))
    (case aS => exact (below_size (hbC _)))
    (case aL => have := LMc3.out; omega)
    intro v712 w10 ho hb hg hat
    rw [← Ny711.out] at ho
    have n0_ := ak (blk_grown (g := gb705) (o := .cells #[.int .i64 a0_0, .slice A0_1 l0_1.length c0_1, .slice A0_2 l0_2.length c0_2] 24 (0, 0)) (bkC BK705) hg (Kd.R_ne HO710.out BK705.out (by decide)))
    have n1_ := ak (blk_grown (g := gb706) (o := .cells #[.int .i64 a1_0, .slice A1_1 l1_1.length c1_1, .slice A1_2 l1_2.length c1_2] 24 (0, 0)) (bkC BK706) hg (Kd.R_ne HO710.out BK706.out (by decide)))
    have n2_ := ak (blk_grown (g := gb707) (o := .cells #[.int .i64 0, .slice none 0 0, .slice none 0 0] 24 (0, 0)) (bkC BK707) hg (Kd.R_ne HO710.out BK707.out (by decide)))
    have n3_ := ak (hb)
    have n4_ := ak (ho)
    clear BK705
    clear BK706
    clear BK707
    clear HB
    clear HO710
    have BK705 := n0_
    have BK706 := n1_
    have BK707 := n2_
    have HB := n3_
    have HO713 := n4_
    clear n0_ n1_ n2_ n3_ n4_
    clear ho hb hg hat
    obtain ⟨Ao11, co11, eo11⟩ := Kd.R_slice HO713.out
    (first | subst eo11 | (injection eo11 with f1_ f2_ f3_; have f4_ := f1_.symm; have f5_ := f3_.symm; clear f1_ f2_ f3_; subst f4_; subst f5_))
    refine hK.out _ _ ⟨bc BK705 0, bc BK705 1, bc BK705 2⟩ (fun hHeld => ?_)
    clear hK K
    refine norm_ (a' := ?_) ?_ ?_
    rotate_left
    ·show Act.put _ (some 15) _ = _
     simp only [Act.put, List.setIfInBounds_toArray, List.set_cons_zero, List.set_cons_succ, i64_w, i32_w]
     rfl
    refine pS 6 16 9 127 ?_
    refine one_ (i := 7) (N := some 6) (ba 9 255) rfl rfl (one_of HT_.out (by kernel_rfl)) (by decide) (fun K hK => ?_)
    refine box_step ?hg (N := 6) ?hd (cs := #[.int .i64 0, .slice none 0 0, .slice none 0 0]) (t := 24) ?hr ?_; (case hd => rfl); (case hg => rfl); (case hr => first | (go_simp; done) | (go_simp; rfl))
    intro gb714 hg w12 hbox hb
    replace HO713 := kO HO713 hb
    have BK714 := ak (hbox)
    have GW714 := kG w hg
    have GE714 := kG w hg
    replace HB := kH _ hb
    have NB705_714 := kL BK705 hg
    have NB714_705 := kR BK705 hg
    replace BK705 := kB BK705 hb
    have NB706_714 := kL BK706 hg
    have NB714_706 := kR BK706 hg
    replace BK706 := kB BK706 hb
    have NB707_714 := kL BK707 hg
    have NB714_707 := kR BK707 hg
    replace BK707 := kB BK707 hb
    clear hb hbox hg
    refine hK.out _ _ ⟨bc BK705 0, bc BK705 1, bc BK705 2⟩ (fun hHeld => ?_)
    clear hK K
    refine norm_ (a' := ?_) ?_ ?_
    rotate_left
    ·show Act.put _ (some 6) _ = _
     simp only [Act.put, List.setIfInBounds_toArray, List.set_cons_zero, List.set_cons_succ, i64_w, i32_w]
     rfl
    exact norm_ (by simp only [putAll, Act.put, List.setIfInBounds_toArray, List.set_cons_zero, List.set_cons_succ]) (hCont (v709, .slice Ao11 y711.length co11, gb714) _ ⟨hHeld, (rC HO713), (bkC BK705), (bkC BK706), (bkC BK707), (bkC BK714), GW714.out, GE714.out, NB705_714.out, NB714_705.out, NB706_714.out, NB714_706.out, NB707_714.out, NB714_707.out, (hbC _)⟩)
   ·skip
    refine box_step ?hg (N := 6) ?hd (cs := #[.int .i64 0, .slice none 0 0, .slice none 0 0]) (t := 24) ?hr ?_; (case hd => rfl); (case hg => rfl); (case hr => first | (go_simp; done) | (go_simp; rfl))
    intro gb714 hg w10 hbox hb
    replace HO710 := kO HO710 hb
    have BK714 := ak (hbox)
    have GW714 := kG w hg
    have GE714 := kG w hg
    replace HB := kH _ hb
    have NB705_714 := kL BK705 hg
    have NB714_705 := kR BK705 hg
    replace BK705 := kB BK705 hb
    have NB706_714 := kL BK706 hg
    have NB714_706 := kR BK706 hg
    replace BK706 := kB BK706 hb
    have NB707_714 := kL BK707 hg
    have NB714_707 := kR BK707 hg
    replace BK707 := kB BK707 hb
    clear hb hbox hg
    refine hK.out _ _ ⟨bc BK705 0, bc BK705 1, bc BK705 2⟩ (fun hHeld => ?_)
    clear hK K
    refine norm_ (a' := ?_) ?_ ?_
    rotate_left
    ·show Act.put _ (some 6) _ = _
     simp only [Act.put, List.setIfInBounds_toArray, List.set_cons_zero, List.set_cons_succ, i64_w, i32_w]
     rfl
    refine one_ (i := 5) (N := some 15) (ba 9 191) rfl rfl (one_of HT_.out (by kernel_rfl)) (by decide) (fun K hK => ?_)
    refine Kd.R_append_rows_step (Kd.int .i64) (w0 := w) w.heap.size (by rfl) (.tmp 12) (.tmp 14) 22 3 (.int .i64 0) 8 rfl Try.underlying22 info3 rfl (by decide) (by omega) v709 y708 l0_1 _ _ _ (fun _ => True) (fun _ => False) rfl rfl ?aO ?aR (fun _ _ h => h) (fun _ h => h.elim) ?aF ?aB ?aS ?aL ?_
    (case aR => exact kC HR0_1)
    (case aB => exact (hbC _))
    (case aF => exact (fun _ _ => trivial))
    (case aO => exact (rC HO710))
    (case aS => exact (below_size (hbC _)))
    (case aL => have := LMc3.out; omega)
    intro v712 w11 ho hb hg hat
    rw [← Ny711.out] at ho
    have n0_ := ak (blk_grown (g := gb705) (o := .cells #[.int .i64 a0_0, .slice A0_1 l0_1.length c0_1, .slice A0_2 l0_2.length c0_2] 24 (0, 0)) (bkC BK705) hg (Kd.R_ne HO710.out BK705.out (by decide)))
    have n1_ := ak (blk_grown (g := gb706) (o := .cells #[.int .i64 a1_0, .slice A1_1 l1_1.length c1_1, .slice A1_2 l1_2.length c1_2] 24 (0, 0)) (bkC BK706) hg (Kd.R_ne HO710.out BK706.out (by decide)))
    have n2_ := ak (blk_grown (g := gb707) (o := .cells #[.int .i64 0, .slice none 0 0, .slice none 0 0] 24 (0, 0)) (bkC BK707) hg (Kd.R_ne HO710.out BK707.out (by decide)))
    have n3_ := ak (blk_grown (g := gb714) (o := .cells #[.int .i64 0, .slice none 0 0, .slice none 0 0] 24 (0, 0)) (bkC BK714) hg (Kd.R_ne HO710.out BK714.out (by decide)))
    have n4_ := ak (hb)
    have n5_ := ak (ho)
    clear BK705
    clear BK706
    clear BK707
    clear BK714
    clear HB
    clear HO710
    have BK705 := n0_
    have BK706 := n1_
    have BK707 := n2_
    have BK714 := n3_
    have HB := n4_
    have HO713 := n5_
    clear n0_ n1_ n2_ n3_ n4_ n5_
    clear ho hb hg hat
    obtain ⟨Ao12, co12, eo12⟩ := Kd.R_slice HO713.out
    (first | subst eo12 | (injection eo12 with f1_ f2_ f3_; have f4_ := f1_.symm; have f5_ := f3_.symm; clear f1_ f2_ f3_; subst f4_; subst f5_))
    refine hK.out _ _ ⟨bc BK705 0, bc BK705 1, bc BK705 2⟩ (fun hHeld => ?_)
    clear hK K
    refine norm_ (a' := ?_) ?_ ?_
    rotate_left
    ·show Act.put _ (some 15) _ = _
     simp only [Act.put, List.setIfInBounds_toArray, List.set_cons_zero, List.set_cons_succ, i64_w, i32_w]
     rfl
    refine pS 6 16 9 255 ?_
    exact norm_ (by simp only [putAll, Act.put, List.setIfInBounds_toArray, List.set_cons_zero, List.set_cons_succ]) (hCont (v709, .slice Ao12 y711.length co12, gb714) _ ⟨hHeld, (rC HO713), (bkC BK705), (bkC BK706), (bkC BK707), (bkC BK714), GW714.out, GE714.out, NB705_714.out, NB714_705.out, NB706_714.out, NB714_706.out, NB707_714.out, NB714_707.out, (hbC _)⟩)
  ·skip
   refine box_step ?hg (N := 6) ?hd (cs := #[.int .i64 0, .slice none 0 0, .slice none 0 0]) (t := 24) ?hr ?_; (case hd => rfl); (case hg => rfl); (case hr => first | (go_simp; done) | (go_simp; rfl))
   intro gb714 hg w8 hbox hb
   have BK714 := ak (hbox)
   have GW714 := kG w hg
   have GE714 := kG w hg
   replace HB := kH _ hb
   have NB705_714 := kL BK705 hg
   have NB714_705 := kR BK705 hg
   replace BK705 := kB BK705 hb
   have NB706_714 := kL BK706 hg
   have NB714_706 := kR BK706 hg
   replace BK706 := kB BK706 hb
   have NB707_714 := kL BK707 hg
   have NB714_707 := kR BK707 hg
   replace BK707 := kB BK707 hb
   clear hb hbox hg
   refine hK.out _ _ ⟨bc BK705 0, bc BK705 1, bc BK705 2⟩ (fun hHeld => ?_)
   clear hK K
   refine norm_ (a' := ?_) ?_ ?_
   rotate_left
   ·show Act.put _ (some 6) _ = _
    simp only [Act.put, List.setIfInBounds_toArray, List.set_cons_zero, List.set_cons_succ, i64_w, i32_w]
    rfl
   refine one_ (i := 2) (N := some 12) (ba 9 159) rfl rfl (one_of HT_.out (by kernel_rfl)) (by decide) (fun K hK => ?_)
   refine Kd.R_lit_step (Kd.int .i64) _ 3 ?hg (N := 12) ?hd (xs := ([] : List Int)) (inner := []) (ok := fun _ => True) (okp := fun _ => True) ?hr ?hp (fun _ hk => hk) trivial (Below.refl _ _) (Nat.le_refl _) (by simp) ?_; (case hd => rfl); (case hg => rfl); (case hr => first | (go_simp; done) | (go_simp; rfl)); (case hp => exact (Reps.none _ _))
   intro v709 w9 ho10 hb hg_ hnew_
   clear hg_ hnew_
   (first | rw [← Ny708.out] at ho10 | (simp only [Int.reduceToNat] at ho10; rw [← Ny708.out] at ho10))
   have HO710 := ak (Kd.R_lower ho10 (below_size (hbC _)))
   replace BK705 := kB BK705 hb
   replace BK706 := kB BK706 hb
   replace BK707 := kB BK707 hb
   replace BK714 := kB BK714 hb
   replace HB := kH _ hb
   clear hb ho10
   refine hK.out _ _ ⟨bc BK705 0, bc BK705 1, bc BK705 2⟩ (fun hHeld => ?_)
   clear hK K
   refine norm_ (a' := ?_) ?_ ?_
   rotate_left
   ·show Act.put _ (some 12) _ = _
    simp only [Act.put, List.setIfInBounds_toArray, List.set_cons_zero, List.set_cons_succ, i64_w, i32_w]
    rfl
   refine one_ (i := 5) (N := some 15) (ba 9 191) rfl rfl (one_of HT_.out (by kernel_rfl)) (by decide) (fun K hK => ?_)
   refine Kd.R_append_rows_step (Kd.int .i64) (w0 := w) w.heap.size (by rfl) (.tmp 12) (.tmp 14) 22 3 (.int .i64 0) 8 rfl Try.underlying22 info3 rfl (by decide) (by omega) v709 y708 l0_1 _ _ _ (fun _ => True) (fun _ => False) rfl rfl ?aO ?aR (fun _ _ h => h) (fun _ h => h.elim) ?aF ?aB ?aS ?aL ?_
   (case aR => exact kC HR0_1)
   (case aB => exact (hbC _))
   (case aF => exact (fun _ _ => trivial))
   (case aO => exact (rC HO710))
   (case aS => exact (below_size (hbC _)))
   (case aL => have := LMc3.out; omega)
   intro v712 w11 ho hb hg hat
   rw [← Ny711.out] at ho
   have n0_ := ak (blk_grown (g := gb705) (o := .cells #[.int .i64 a0_0, .slice A0_1 l0_1.length c0_1, .slice A0_2 l0_2.length c0_2] 24 (0, 0)) (bkC BK705) hg (Kd.R_ne HO710.out BK705.out (by decide)))
   have n1_ := ak (blk_grown (g := gb706) (o := .cells #[.int .i64 a1_0, .slice A1_1 l1_1.length c1_1, .slice A1_2 l1_2.length c1_2] 24 (0, 0)) (bkC BK706) hg (Kd.R_ne HO710.out BK706.out (by decide)))
   have n2_ := ak (blk_grown (g := gb707) (o := .cells #[.int .i64 0, .slice none 0 0, .slice none 0 0] 24 (0, 0)) (bkC BK707) hg (Kd.R_ne HO710.out BK707.out (by decide)))
   have n3_ := ak (blk_grown (g := gb714) (o := .cells #[.int .i64 0, .slice none 0 0, .slice none 0 0] 24 (0, 0)) (bkC BK714) hg (Kd.R_ne HO710.out BK714.out (by decide)))
   have n4_ := ak (hb)
   have n5_ := ak (ho)
   clear BK705
   clear BK706
   clear BK707
   clear BK714
   clear HB
   clear HO710
   have BK705 := n0_
   have BK706 := n1_
   have BK707 := n2_
   have BK714 := n3_
   have HB := n4_
   have HO713 := n5_
   clear n0_ n1_ n2_ n3_ n4_ n5_
   clear ho hb hg hat
   obtain ⟨Ao12, co12, eo12⟩ := Kd.R_slice HO713.out
   (first | subst eo12 | (injection eo12 with f1_ f2_ f3_; have f4_ := f1_.symm; have f5_ := f3_.symm; clear f1_ f2_ f3_; subst f4_; subst f5_))
   refine hK.out _ _ ⟨bc BK705 0, bc BK705 1, bc BK705 2⟩ (fun hHeld => ?_)
   clear hK K
   refine norm_ (a' := ?_) ?_ ?_
   rotate_left
   ·show Act.put _ (some 15) _ = _
    simp only [Act.put, List.setIfInBounds_toArray, List.set_cons_zero, List.set_cons_succ, i64_w, i32_w]
    rfl
   refine pS 6 16 9 255 ?_
   exact norm_ (by simp only [putAll, Act.put, List.setIfInBounds_toArray, List.set_cons_zero, List.set_cons_succ]) (hCont (v709, .slice Ao12 y711.length co12, gb714) _ ⟨hHeld, (rC HO713), (bkC BK705), (bkC BK706), (bkC BK707), (bkC BK714), GW714.out, GE714.out, NB705_714.out, NB714_705.out, NB706_714.out, NB714_706.out, NB707_714.out, NB714_707.out, (hbC _)⟩)
 rintro ⟨v709, v712, gb714⟩ w13 ⟨hS_, h0_, h1_, h2_, h3_, h4_, h5_, h6_, h7_, h8_, h9_, h10_, h11_, h12_, h13_⟩
 have n0_ : Aside0 (Kd.R (Kd.int .i64) 3 w13 w.heap.size (fun _ => True) v712 y711) := ⟨h0_⟩
 have n1_ : Aside0 (w13.heap[gb705]? = some (.cells #[.int .i64 a0_0, .slice A0_1 l0_1.length c0_1, .slice A0_2 l0_2.length c0_2] 24 (0, 0))) := ⟨h1_⟩
 have n2_ : Aside0 (w13.heap[gb706]? = some (.cells #[.int .i64 a1_0, .slice A1_1 l1_1.length c1_1, .slice A1_2 l1_2.length c1_2] 24 (0, 0))) := ⟨h2_⟩
 have n3_ : Aside0 (w13.heap[gb707]? = some (.cells #[.int .i64 0, .slice none 0 0, .slice none 0 0] 24 (0, 0))) := ⟨h3_⟩
 have n4_ : Aside0 (w13.heap[gb714]? = some (.cells #[.int .i64 0, .slice none 0 0, .slice none 0 0] 24 (0, 0))) := ⟨h4_⟩
 have n5_ : Aside0 (w.heap.size ≤ gb714) := ⟨h5_⟩
 have n6_ : Aside0 (w.heap.size ≤ gb714) := ⟨h6_⟩
 have n7_ : Aside0 (gb705 ≠ gb714) := ⟨h7_⟩
 have n8_ : Aside0 (gb714 ≠ gb705) := ⟨h8_⟩
 have n9_ : Aside0 (gb706 ≠ gb714) := ⟨h9_⟩
 have n10_ : Aside0 (gb714 ≠ gb706) := ⟨h10_⟩
 have n11_ : Aside0 (gb707 ≠ gb714) := ⟨h11_⟩
 have n12_ : Aside0 (gb714 ≠ gb707) := ⟨h12_⟩
 have n13_ : Aside0 (Below w.heap.size w w13) := ⟨h13_⟩
 clear BK705
 clear BK706
 clear BK707
 clear HB
 clear h0_ h1_ h2_ h3_ h4_ h5_ h6_ h7_ h8_ h9_ h10_ h11_ h12_ h13_
 have HO713 := n0_
 have BK705 := n1_
 have BK706 := n2_
 have BK707 := n3_
 have BK714 := n4_
 have GW714 := n5_
 have GE714 := n6_
 have NB705_714 := n7_
 have NB714_705 := n8_
 have NB706_714 := n9_
 have NB714_706 := n10_
 have NB707_714 := n11_
 have NB714_707 := n12_
 have HB := n13_
 clear n0_ n1_ n2_ n3_ n4_ n5_ n6_ n7_ n8_ n9_ n10_ n11_ n12_ n13_
 have hHeld : w13.cell? ⟨gb705, 0, none⟩ = some (.int .i64 a0_0) ∧ w13.cell? ⟨gb705, 1, none⟩ = some (.slice A0_1 l0_1.length c0_1) ∧ w13.cell? ⟨gb705, 2, none⟩ = some (.slice A0_2 l0_2.length c0_2) := hS_
 obtain ⟨Ao14, co14, eo14⟩ := Kd.R_slice HO713.out
 (first | subst eo14 | (injection eo14 with f1_ f2_ f3_; have f4_ := f1_.symm; have f5_ := f3_.symm; clear f1_ f2_ f3_; subst f4_; subst f5_))
 refine norm_ (a' := ?_) ?_ ?_
 rotate_left
 ·simp only [putAll, Act.put, List.setIfInBounds_toArray, List.set_cons_zero, List.set_cons_succ]
  rfl
 refine one_ (i := 8) (N := none) (ba 9 511) rfl rfl (one_of HT_.out (by kernel_rfl)) (by decide) (fun K hK => ?_)
 have hs15 : w13.cell? ⟨gb714, 0, none⟩ = some (.int .i64 0) := bc BK714 0
 have hfs15 := fz BK714 0
 have hns15_0 := NB705_714.out
 have hns15_1 := NB706_714.out
 have hns15_2 := NB707_714.out
 have hms15_0 := NB714_705.out
 have hms15_1 := NB714_706.out
 have hms15_2 := NB714_707.out
 have hs16 : w13.cell? ⟨gb714, 1, none⟩ = some (.slice none 0 0) := bc BK714 1
 have hfs16 := fz BK714 1
 have hns16_0 := NB705_714.out
 have hns16_1 := NB706_714.out
 have hns16_2 := NB707_714.out
 have hms16_0 := NB714_705.out
 have hms16_1 := NB714_706.out
 have hms16_2 := NB714_707.out
 have hs17 : w13.cell? ⟨gb714, 2, none⟩ = some (.slice none 0 0) := bc BK714 2
 have hfs17 := fz BK714 2
 have hns17_0 := NB705_714.out
 have hns17_1 := NB706_714.out
 have hns17_2 := NB707_714.out
 have hms17_0 := NB714_705.out
 have hms17_1 := NB714_706.out
 have hms17_2 := NB714_707.out
 refine skip_ (w1 := ?_) (by rfl) rfl ?_ ?_
 rotate_left
 ·go_simp
  rfl
 refine hK.out _ _ ⟨((cell_far (p := ⟨gb714, _, none⟩) NB705_714.out _).trans (((cell_far (p := ⟨gb714, _, none⟩) NB705_714.out _).trans (((cell_far (p := ⟨gb714, _, none⟩) NB705_714.out _).trans (hHeld.1)))))), ((cell_far (p := ⟨gb714, _, none⟩) NB705_714.out _).trans (((cell_far (p := ⟨gb714, _, none⟩) NB705_714.out _).trans (((cell_far (p := ⟨gb714, _, none⟩) NB705_714.out _).trans (hHeld.2.1)))))), ((cell_far (p := ⟨gb714, _, none⟩) NB705_714.out _).trans (((cell_far (p := ⟨gb714, _, none⟩) NB705_714.out _).trans (((cell_far (p := ⟨gb714, _, none⟩) NB705_714.out _).trans (hHeld.2.2))))))⟩ (fun hHeld => ?_)
 clear hK K
 refine done_ (done_of HT_.out (by kernel_rfl)) ?_
 have hnb18 := NB705_706.out
 have hnc18 := NB706_705.out
 have hnb19 := NB705_707.out
 have hnc19 := NB707_705.out
 have hnb20 := NB705_714.out
 have hnc20 := NB714_705.out
 have hcz21_0 : w13.cell? ⟨gb705, 0, none⟩ = some (.int .i64 a0_0) := bc BK705 0
 have hcz21_1 : w13.cell? ⟨gb705, 1, none⟩ = some (.slice A0_1 l0_1.length c0_1) := bc BK705 1
 have hcz21_2 : w13.cell? ⟨gb705, 2, none⟩ = some (.slice A0_2 l0_2.length c0_2) := bc BK705 2
 have hfz21_0 := fz BK705 0
 have hfz21_1 := fz BK705 1
 have hfz21_2 := fz BK705 2
 try go_wp2
 go_loopg [20] k (fun kq v20 w' => ∃ (x20_1 : Int) (x708000_1 : Int) (x715002_1 : List Int) (u715002 : Value), v20 = .int .i64 x20_1 ∧ Aside0 (congouref04_Added.l0 kq l0_2 (l0_2.length : Int) x20_1 a1_0 l1_1 l1_2 a0_0 y711 x715002_1 = some (r1, r2, r3, r4)) ∧ Aside0 (kq ≤ k) ∧ Aside0 (Kd.R (Kd.int .i64) 3 w' w.heap.size (fun k_ => nb k_ u715002) (.slice Ao14 y711.length co14) y711) ∧ Aside0 (Kd.R (Kd.int .i64) 3 w' w.heap.size (fun k_ => some k_ ≠ ((.slice Ao14 y711.length co14) : Value).ownBlock) u715002 x715002_1) ∧ Aside0 (w'.heap[gb705]? = some (.cells #[.int .i64 a0_0, (.slice A0_1 l0_1.length c0_1), (.slice A0_2 l0_2.length c0_2)] 24 (0, 0))) ∧ Aside0 (w'.heap[gb706]? = some (.cells #[.int .i64 a1_0, (.slice A1_1 l1_1.length c1_1), (.slice A1_2 l1_2.length c1_2)] 24 (0, 0))) ∧ Aside0 (w'.heap[gb707]? = some (.cells #[.int .i64 x708000_1, (.slice none 0 0), (.slice none 0 0)] 24 (0, 0))) ∧ Aside0 (w'.heap[gb714]? = some (.cells #[.int .i64 a0_0, (.slice Ao14 y711.length co14), u715002] 24 (0, 0))) ∧ Aside0 (Below w.heap.size w w'))
 case atStart => exact ⟨(0), (0), (([] : List Int)), (.slice none 0 0), (by first | rfl | (simp; done) | (simp [*]; done)), H', ⟨Nat.le_refl _⟩, ⟨rD (Kd.R_mono (Kd.R_far (p := ⟨gb714, 2, none⟩) (Kd.R_far (p := ⟨gb714, 1, none⟩) (Kd.R_far (p := ⟨gb714, 0, none⟩) (Kd.R_types HO713.out BK714.out (by decide)) (fun _ hk => hk.2) (.int .i64 a0_0)) (fun _ hk => hk.2) (.slice Ao14 y711.length co14)) (fun _ hk => hk.2) (.slice none 0 0)) (fun _ hk => (by simp [Value.ownBlock])))⟩, ⟨by first | exact Kd.R_nil _ _ _ _ _ | exact Kd.N_nil _ _ _ _ _ | exact Kd.V_nil _ _ _ _ _ | exact Kd.Q_nil _ _ _ _ _ | exact Kd.S_nil _ _ _ _ _⟩, ⟨bF BK705⟩, ⟨bF BK706⟩, ⟨bF BK707⟩, ⟨by (with_reducible repeat (first | refine blk_drewN ?_ _ | refine blk_drew ?_ | refine blk_alloc ?_ _)); refine blk_put (cs := #[.int .i64 a0_0, .slice Ao14 y711.length co14, .slice none 0 0]) ?_ 2 _ rfl; (with_reducible repeat (first | refine blk_drewN ?_ _ | refine blk_drew ?_ | refine blk_alloc ?_ _)); refine blk_put (cs := #[.int .i64 a0_0, .slice none 0 0, .slice none 0 0]) ?_ 1 _ rfl; (with_reducible repeat (first | refine blk_drewN ?_ _ | refine blk_drew ?_ | refine blk_alloc ?_ _)); refine blk_put (cs := #[.int .i64 0, .slice none 0 0, .slice none 0 0]) ?_ 0 _ rfl; (with_reducible repeat (first | refine blk_drewN ?_ _ | refine blk_drew ?_ | refine blk_alloc ?_ _)); exact BK714.out⟩, ⟨hbC _⟩⟩
 case round =>
  clear H'
  try clear c1
  try clear c2
  try clear p2
  try clear c3
  try clear c18
  try clear c19
  try clear c20
  try clear hcz21_0
  try clear hcz21_1
  try clear hcz21_2
  try clear hfz21_0
  try clear hfz21_1
  try clear hfz21_2
  obtain ⟨x20_1, x708000_1, x715002_1, u715002, rfl, HA, HK1, HO_715001, HO_715002, BK705, BK706, BK707, BK714, HB⟩ := hrel
  cases gk with
  | zero => exact absurd HA.out (by simp [congouref04_Added.l0])
  | succ k1 =>
   have H := HA.out
   clear HA
   simp only [congouref04_Added.l0] at H
   by_cases c22 : x20_1 < (l0_2.length : Int)
   rotate_left
   ·rw [if_neg c22] at H
    have c22b0 : decide (x20_1 < (l0_2.length : Int)) = false := decide_eq_false c22
    clear c22
    simp only [Option.some.injEq, Prod.mk.injEq] at H
    obtain ⟨rfl, rfl, rfl, rfl⟩ := H
    have hnb53 := NB714_705.out
    have hnc53 := NB705_714.out
    have hnb54 := NB714_706.out
    have hnc54 := NB706_714.out
    have hnb55 := NB714_707.out
    have hnc55 := NB707_714.out
    have hcz56_0 : wr.cell? ⟨gb714, 0, none⟩ = some (.int .i64 a0_0) := bc BK714 0
    have hcz56_1 : wr.cell? ⟨gb714, 1, none⟩ = some (.slice Ao14 y711.length co14) := bc BK714 1
    have hcz56_2 : wr.cell? ⟨gb714, 2, none⟩ = some (u715002) := bc BK714 2
    have hfz56_0 := fz BK714 0
    have hfz56_1 := fz BK714 1
    have hfz56_2 := fz BK714 2
    have hnb57 := NB707_705.out
    have hnc57 := NB705_707.out
    have hnb58 := NB707_706.out
    have hnc58 := NB706_707.out
    have hcz59_0 : wr.cell? ⟨gb707, 0, none⟩ = some (.int .i64 x708000_1) := bc BK707 0
    have hcz59_1 : wr.cell? ⟨gb707, 1, none⟩ = some (.slice none 0 0) := bc BK707 1
    have hcz59_2 : wr.cell? ⟨gb707, 2, none⟩ = some (.slice none 0 0) := bc BK707 2
    have hfz59_0 := fz BK707 0
    have hfz59_1 := fz BK707 1
    have hfz59_2 := fz BK707 2
    obtain ⟨Ao60, co60, eo60⟩ := Kd.R_slice HO_715002.out
    subst eo60
    go_wp2
    refine bodyPost_ret (results_ct rfl _ _ gb707 24 #[.int .i64 a0_0, .slice Ao14 y711.length co14, .slice Ao60 x715002_1.length co60] (0, 0) _ rfl (by (with_reducible repeat (first | refine blk_drewN ?_ _ | refine blk_drew ?_ | refine blk_alloc ?_ _)); refine blk_put (cs := #[.int .i64 a0_0, .slice Ao14 y711.length co14, .slice none 0 0]) ?_ 2 _ rfl; (with_reducible repeat (first | refine blk_drewN ?_ _ | refine blk_drew ?_ | refine blk_alloc ?_ _)); refine blk_put (cs := #[.int .i64 a0_0, .slice none 0 0, .slice none 0 0]) ?_ 1 _ rfl; (with_reducible repeat (first | refine blk_drewN ?_ _ | refine blk_drew ?_ | refine blk_alloc ?_ _)); refine blk_put (cs := #[.int .i64 x708000_1, .slice none 0 0, .slice none 0 0]) ?_ 0 _ rfl; (with_reducible repeat (first | refine blk_drewN ?_ _ | refine blk_drew ?_ | refine blk_alloc ?_ _)); exact BK707.out) Try.underlying24 rfl (by kernel_rfl)) rfl ?_
    exact ⟨_, _, by first | rfl | (simp [errW_none, errW_some] <;> rfl) | (simp [*, errW_none, errW_some] <;> rfl), rD (Kd.R_mono (Kd.R_far (p := ⟨gb707, 2, none⟩) (Kd.R_far (p := ⟨gb707, 1, none⟩) (Kd.R_far (p := ⟨gb707, 0, none⟩) (Kd.R_types HO_715001.out BK707.out (by decide)) (fun _ hk => hk.2) (.int .i64 a0_0)) (fun _ hk => hk.2) (.slice Ao14 y711.length co14)) (fun _ hk => hk.2) (.slice Ao60 x715002_1.length co60)) (fun _ hk => hk.1)), rD (Kd.R_mono (Kd.R_far (p := ⟨gb707, 2, none⟩) (Kd.R_far (p := ⟨gb707, 1, none⟩) (Kd.R_far (p := ⟨gb707, 0, none⟩) (Kd.R_types HO_715002.out BK707.out (by decide)) (fun _ hk => hk.2) (.int .i64 a0_0)) (fun _ hk => hk.2) (.slice Ao14 y711.length co14)) (fun _ hk => hk.2) (.slice Ao60 x715002_1.length co60)) (fun _ hk => hk.1)), hbC _⟩
   rw [if_pos c22] at H
   have c22b0 : decide (x20_1 < (l0_2.length : Int)) = true := decide_eq_true c22
   clear c22
   by_cases c23 : 0 ≤ x20_1
   rotate_left
   ·rw [if_neg c23] at H
    exact absurd H (by simp)
   rw [if_pos c23] at H
   have c23b0 : decide (0 ≤ x20_1) = true := decide_eq_true c23
   clear c23
   by_cases c24 : x20_1 < (l0_2.length : Int)
   rotate_left
   ·rw [if_neg c24] at H
    exact absurd H (by simp)
   rw [if_pos c24] at H
   have c24b0 : decide (x20_1 < (l0_2.length : Int)) = true := decide_eq_true c24
   clear c24
   by_cases c25 : x20_1 < (l1_2.length : Int)
   rotate_left
   ·rw [if_neg c25] at H
    exact absurd H (by simp)
   rw [if_pos c25] at H
   have c25b0 : decide (x20_1 < (l1_2.length : Int)) = true := decide_eq_true c25
   clear c25
   by_cases c26 : (wrap64 ((rd l0_2 x20_1) + (rd l1_2 x20_1))) < (-50)
   ·rw [if_pos c26] at H
    have c26b0 : decide ((wrap64 ((rd l0_2 x20_1) + (rd l1_2 x20_1))) < (-50)) = true := decide_eq_true c26
    clear c26
    simp only [Option.some.injEq, Prod.mk.injEq] at H
    obtain ⟨rfl, rfl, rfl, rfl⟩ := H
    have p715 : 0 ≤ (x20_1 : Int) := dA
    have q715 : x20_1 < (l0_2.length : Int) := dA
    obtain ⟨ad715, e715, hx715_0⟩ := Kd.at_int HR0_2.out x20_1 p715 q715
    cases e715
    try replace hx715_0 := (HB.out.cell (World.block_lt_of_cell? w _ hx715_0)).trans hx715_0
    replace p715 := eq_true p715
    replace q715 := eq_true q715
    have hnb27 := NB706_705.out
    have hnc27 := NB705_706.out
    have hnb28 := NB706_707.out
    have hnc28 := NB707_706.out
    have hnb29 := NB706_714.out
    have hnc29 := NB714_706.out
    have hcz30_0 : wr.cell? ⟨gb706, 0, none⟩ = some (.int .i64 a1_0) := bc BK706 0
    have hcz30_1 : wr.cell? ⟨gb706, 1, none⟩ = some (.slice A1_1 l1_1.length c1_1) := bc BK706 1
    have hcz30_2 : wr.cell? ⟨gb706, 2, none⟩ = some (.slice A1_2 l1_2.length c1_2) := bc BK706 2
    have hfz30_0 := fz BK706 0
    have hfz30_1 := fz BK706 1
    have hfz30_2 := fz BK706 2
    have p716 : 0 ≤ (x20_1 : Int) := dA
    have q716 : x20_1 < (l1_2.length : Int) := dA
    obtain ⟨ad716, e716, hx716_0⟩ := Kd.at_int HR1_2.out x20_1 p716 q716
    cases e716
    try replace hx716_0 := (HB.out.cell (World.block_lt_of_cell? w _ hx716_0)).trans hx716_0
    replace p716 := eq_true p716
    replace q716 := eq_true q716
    have hnb31 := NB707_705.out
    have hnc31 := NB705_707.out
    have hnb32 := NB707_714.out
    have hnc32 := NB714_707.out
    have hcz33_0 : wr.cell? ⟨gb707, 0, none⟩ = some (.int .i64 x708000_1) := bc BK707 0
    have hcz33_1 : wr.cell? ⟨gb707, 1, none⟩ = some (.slice none 0 0) := bc BK707 1
    have hcz33_2 : wr.cell? ⟨gb707, 2, none⟩ = some (.slice none 0 0) := bc BK707 2
    have hfz33_0 := fz BK707 0
    have hfz33_1 := fz BK707 1
    have hfz33_2 := fz BK707 2
    go_wp2
    refine bodyPost_ret (results_ct rfl _ _ gb707 24 #[.int .i64 0, .slice none 0 0, .slice none 0 0] (0, 0) _ rfl (by (with_reducible repeat (first | refine blk_drewN ?_ _ | refine blk_drew ?_ | refine blk_alloc ?_ _)); refine blk_put (cs := #[.int .i64 0, .slice none 0 0, .slice none 0 0]) ?_ 2 _ rfl; (with_reducible repeat (first | refine blk_drewN ?_ _ | refine blk_drew ?_ | refine blk_alloc ?_ _)); refine blk_put (cs := #[.int .i64 0, .slice none 0 0, .slice none 0 0]) ?_ 1 _ rfl; (with_reducible repeat (first | refine blk_drewN ?_ _ | refine blk_drew ?_ | refine blk_alloc ?_ _)); refine blk_put (cs := #[.int .i64 x708000_1, .slice none 0 0, .slice none 0 0]) ?_ 0 _ rfl; (with_reducible repeat (first | refine blk_drewN ?_ _ | refine blk_drew ?_ | refine blk_alloc ?_ _)); exact BK707.out) Try.underlying24 rfl (by kernel_rfl)) rfl ?_
    exact ⟨_, _, by first | rfl | (simp [errW_none, errW_some] <;> rfl) | (simp [*, errW_none, errW_some] <;> rfl), by first | exact Kd.R_nil _ _ _ _ _ | exact Kd.N_nil _ _ _ _ _ | exact Kd.V_nil _ _ _ _ _ | exact Kd.Q_nil _ _ _ _ _ | exact Kd.S_nil _ _ _ _ _, by first | exact Kd.R_nil _ _ _ _ _ | exact Kd.N_nil _ _ _ _ _ | exact Kd.V_nil _ _ _ _ _ | exact Kd.Q_nil _ _ _ _ _ | exact Kd.S_nil _ _ _ _ _, hbC _⟩
   rw [if_neg c26] at H
   have c26b0 : decide ((wrap64 ((rd l0_2 x20_1) + (rd l1_2 x20_1))) < (-50)) = false := decide_eq_false c26
   clear c26
   by_cases c34 : (wrap64 ((rd l0_2 x20_1) + (rd l1_2 x20_1))) > 50
   ·rw [if_pos c34] at H
    have c34b0 : decide (50 < (wrap64 ((rd l0_2 x20_1) + (rd l1_2 x20_1)))) = true := decide_eq_true c34
    clear c34
    simp only [Option.some.injEq, Prod.mk.injEq] at H
    obtain ⟨rfl, rfl, rfl, rfl⟩ := H
    have p715 : 0 ≤ (x20_1 : Int) := dA
    have q715 : x20_1 < (l0_2.length : Int) := dA
    obtain ⟨ad715, e715, hx715_0⟩ := Kd.at_int HR0_2.out x20_1 p715 q715
    cases e715
    try replace hx715_0 := (HB.out.cell (World.block_lt_of_cell? w _ hx715_0)).trans hx715_0
    replace p715 := eq_true p715
    replace q715 := eq_true q715
    have hnb35 := NB706_705.out
    have hnc35 := NB705_706.out
    have hnb36 := NB706_707.out
    have hnc36 := NB707_706.out
    have hnb37 := NB706_714.out
    have hnc37 := NB714_706.out
    have hcz38_0 : wr.cell? ⟨gb706, 0, none⟩ = some (.int .i64 a1_0) := bc BK706 0
    have hcz38_1 : wr.cell? ⟨gb706, 1, none⟩ = some (.slice A1_1 l1_1.length c1_1) := bc BK706 1
    have hcz38_2 : wr.cell? ⟨gb706, 2, none⟩ = some (.slice A1_2 l1_2.length c1_2) := bc BK706 2
    have hfz38_0 := fz BK706 0
    have hfz38_1 := fz BK706 1
    have hfz38_2 := fz BK706 2
    have p716 : 0 ≤ (x20_1 : Int) := dA
    have q716 : x20_1 < (l1_2.length : Int) := dA
    obtain ⟨ad716, e716, hx716_0⟩ := Kd.at_int HR1_2.out x20_1 p716 q716
    cases e716
    try replace hx716_0 := (HB.out.cell (World.block_lt_of_cell? w _ hx716_0)).trans hx716_0
    replace p716 := eq_true p716
    replace q716 := eq_true q716
    have hnb39 := NB707_705.out
    have hnc39 := NB705_707.out
    have hnb40 := NB707_714.out
    have hnc40 := NB714_707.out
    have hcz41_0 : wr.cell? ⟨gb707, 0, none⟩ = some (.int .i64 x708000_1) := bc BK707 0
    have hcz41_1 : wr.cell? ⟨gb707, 1, none⟩ = some (.slice none 0 0) := bc BK707 1
    have hcz41_2 : wr.cell? ⟨gb707, 2, none⟩ = some (.slice none 0 0) := bc BK707 2
    have hfz41_0 := fz BK707 0
    have hfz41_1 := fz BK707 1
    have hfz41_2 := fz BK707 2
    go_wp2
    refine bodyPost_ret (results_ct rfl _ _ gb707 24 #[.int .i64 0, .slice none 0 0, .slice none 0 0] (0, 0) _ rfl (by (with_reducible repeat (first | refine blk_drewN ?_ _ | refine blk_drew ?_ | refine blk_alloc ?_ _)); refine blk_put (cs := #[.int .i64 0, .slice none 0 0, .slice none 0 0]) ?_ 2 _ rfl; (with_reducible repeat (first | refine blk_drewN ?_ _ | refine blk_drew ?_ | refine blk_alloc ?_ _)); refine blk_put (cs := #[.int .i64 0, .slice none 0 0, .slice none 0 0]) ?_ 1 _ rfl; (with_reducible repeat (first | refine blk_drewN ?_ _ | refine blk_drew ?_ | refine blk_alloc ?_ _)); refine blk_put (cs := #[.int .i64 x708000_1, .slice none 0 0, .slice none 0 0]) ?_ 0 _ rfl; (with_reducible repeat (first | refine blk_drewN ?_ _ | refine blk_drew ?_ | refine blk_alloc ?_ _)); exact BK707.out) Try.underlying24 rfl (by kernel_rfl)) rfl ?_
    exact ⟨_, _, by first | rfl | (simp [errW_none, errW_some] <;> rfl) | (simp [*, errW_none, errW_some] <;> rfl), by first | exact Kd.R_nil _ _ _ _ _ | exact Kd.N_nil _ _ _ _ _ | exact Kd.V_nil _ _ _ _ _ | exact Kd.Q_nil _ _ _ _ _ | exact Kd.S_nil _ _ _ _ _, by first | exact Kd.R_nil _ _ _ _ _ | exact Kd.N_nil _ _ _ _ _ | exact Kd.V_nil _ _ _ _ _ | exact Kd.Q_nil _ _ _ _ _ | exact Kd.S_nil _ _ _ _ _, hbC _⟩
   rw [if_neg c34] at H
   have c34b0 : decide (50 < (wrap64 ((rd l0_2 x20_1) + (rd l1_2 x20_1)))) = false := decide_eq_false c34
   clear c34
   by_cases c42 : x715002_1.length < 17592186044416
   rotate_left
   ·rw [if_neg c42] at H
    exact absurd H (by simp)
   rw [if_pos c42] at H
   have LMc42 := Aside0.mk c42
   clear c42
   obtain ⟨y717, hy717⟩ : ∃ y_ : List Int, y_ = (x715002_1 ++ [wrap64 ((rd l0_2 x20_1) + (rd l1_2 x20_1))]) := ⟨_, rfl⟩
   replace H : (congouref04_Added.l0 k1 l0_2 (l0_2.length : Int) (wrap64 (x20_1 + 1)) a1_0 l1_1 l1_2 a0_0 y711 y717) = some (r1, r2, r3, r4) := by first | (rw [hy717]; with_reducible exact H) | (have H2_ := (Option.bind_some _ _).symm.trans H; rw [hy717]; with_reducible exact H2_) | (have H2_ := (Option.bind_some _ _).symm.trans H; with_reducible exact H2_) | with_reducible exact H | (rw [hy717]; exact H) | exact H
   have Ny717 := Aside0.mk hy717
   clear hy717
   have H' := Aside0.mk H
   clear H
   have p715 : 0 ≤ (x20_1 : Int) := dA
   have q715 : x20_1 < (l0_2.length : Int) := dA
   obtain ⟨ad715, e715, hx715_0⟩ := Kd.at_int HR0_2.out x20_1 p715 q715
   cases e715
   try replace hx715_0 := (HB.out.cell (World.block_lt_of_cell? w _ hx715_0)).trans hx715_0
   replace p715 := eq_true p715
   replace q715 := eq_true q715
   have hnb43 := NB706_705.out
   have hnc43 := NB705_706.out
   have hnb44 := NB706_707.out
   have hnc44 := NB707_706.out
   have hnb45 := NB706_714.out
   have hnc45 := NB714_706.out
   have hcz46_0 : wr.cell? ⟨gb706, 0, none⟩ = some (.int .i64 a1_0) := bc BK706 0
   have hcz46_1 : wr.cell? ⟨gb706, 1, none⟩ = some (.slice A1_1 l1_1.length c1_1) := bc BK706 1
   have hcz46_2 : wr.cell? ⟨gb706, 2, none⟩ = some (.slice A1_2 l1_2.length c1_2) := bc BK706 2
   have hfz46_0 := fz BK706 0
   have hfz46_1 := fz BK706 1
   have hfz46_2 := fz BK706 2
   have p716 : 0 ≤ (x20_1 : Int) := dA
   have q716 : x20_1 < (l1_2.length : Int) := dA
   obtain ⟨ad716, e716, hx716_0⟩ := Kd.at_int HR1_2.out x20_1 p716 q716
   cases e716
   try replace hx716_0 := (HB.out.cell (World.block_lt_of_cell? w _ hx716_0)).trans hx716_0
   replace p716 := eq_true p716
   replace q716 := eq_true q716
   have hnb47 := NB714_705.out
   have hnc47 := NB705_714.out
   have hnb48 := NB714_707.out
   have hnc48 := NB707_714.out
   have hcz49_0 : wr.cell? ⟨gb714, 0, none⟩ = some (.int .i64 a0_0) := bc BK714 0
   have hcz49_1 : wr.cell? ⟨gb714, 1, none⟩ = some (.slice Ao14 y711.length co14) := bc BK714 1
   have hcz49_2 : wr.cell? ⟨gb714, 2, none⟩ = some (u715002) := bc BK714 2
   have hfz49_0 := fz BK714 0
   have hfz49_1 := fz BK714 1
   have hfz49_2 := fz BK714 2
   go_wp2_with (first | ((with_reducible refine gate_builtin (b := .append) (xs := #[.tmp 40, .tmp 42]) rfl ?_); at_builtin; refine Kd.R_append (Kd.int .i64) (w0 := w) w.heap.size rfl (.tmp 40) (.tmp 42) 22 3 (.int .i64 0) 8 rfl Try.underlying22 info3 rfl (by decide) (by omega) u715002 x715002_1 (wrap64 ((rd l0_2 x20_1) + (rd l1_2 x20_1))) [.int .i64 (wrap64 ((rd l0_2 x20_1) + (rd l1_2 x20_1)))] (fun k_ => nb k_ (.slice Ao14 y711.length co14)) (fun _ => False) rfl rfl ?aP (fun _ hk => hk.elim) ?aF ?aO ?aB ?aS ?aL ?_; (case aP => exact rfl); (case aB => exact (hbC _)); (case aF => exact (fun k_ hk => Kd.fresh' (Kd.R_lt (rC HO_715001)) k_ hk)); (case aO => exact (rC HO_715002)); (case aS => exact (below_size (hbC _))); (case aL => have := LMc42.out; omega); intro v718 w50 ho hb hg hat; rw [← Ny717.out] at ho; have n0_ := ak (Kd.R_after (ok := (fun _ => True)) (rD (Kd.R_mono HO_715001.out (fun _ hk => ⟨trivial, hk⟩))) hg hat); have n1_ := ak (blk_grown (g := gb705) (o := .cells #[.int .i64 a0_0, .slice A0_1 l0_1.length c0_1, .slice (some ad715) l0_2.length c0_2] 24 (0, 0)) (bkC BK705) hg (Kd.R_ne HO_715002.out BK705.out (by decide))); have n2_ := ak (blk_grown (g := gb706) (o := .cells #[.int .i64 a1_0, .slice A1_1 l1_1.length c1_1, .slice (some ad716) l1_2.length c1_2] 24 (0, 0)) (bkC BK706) hg (Kd.R_ne HO_715002.out BK706.out (by decide))); have n3_ := ak (blk_grown (g := gb707) (o := .cells #[.int .i64 x708000_1, .slice none 0 0, .slice none 0 0] 24 (0, 0)) (bkC BK707) hg (Kd.R_ne HO_715002.out BK707.out (by decide))); have n4_ := ak (blk_grown (g := gb714) (o := .cells #[.int .i64 a0_0, .slice Ao14 y711.length co14, u715002] 24 (0, 0)) (bkC BK714) hg (Kd.R_ne HO_715002.out BK714.out (by decide))); have n5_ := ak (hb); have n6_ := ak (ho); clear HO_715001; clear BK705; clear BK706; clear BK707; clear BK714; clear HB; clear HO_715002; have HO_715001 := n0_; have BK705 := n1_; have BK706 := n2_; have BK707 := n3_; have BK714 := n4_; have HB := n5_; have HO719 := n6_; clear n0_ n1_ n2_ n3_ n4_ n5_ n6_; clear ho hb hg hat; obtain ⟨Ao51, co51, eo51⟩ := Kd.R_slice HO719.out; subst eo51; have hcz52_0 : w50.cell? ⟨gb714, 0, none⟩ = some (.int .i64 a0_0) := bc BK714 0; have hcz52_1 : w50.cell? ⟨gb714, 1, none⟩ = some (.slice Ao14 y711.length co14) := bc BK714 1; have hcz52_2 : w50.cell? ⟨gb714, 2, none⟩ = some (u715002) := bc BK714 2; have hfz52_0 := fz BK714 0; have hfz52_1 := fz BK714 1; have hfz52_2 := fz BK714 2))
   go_roundg k1
   case measure => have := HK1.out; omega
   case rel => exact ⟨(wrap64 (x20_1 + 1)), (x708000_1), (y717), (.slice Ao51 y717.length co51), (by first | rfl | (simp; done) | (simp [*]; done)), H', ⟨by have := HK1.out; omega⟩, ⟨rD (Kd.R_mono (Kd.R_far (p := ⟨gb714, 2, none⟩) (Kd.R_types HO_715001.out BK714.out (by decide)) (fun _ hk => hk.2) (.slice Ao51 y717.length co51)) (fun _ hk => hk.1.2))⟩, ⟨rD (Kd.R_mono (Kd.R_far (p := ⟨gb714, 2, none⟩) (Kd.R_types HO719.out BK714.out (by decide)) (fun _ hk => hk.2) (.slice Ao51 y717.length co51)) (fun _ hk => hk.1))⟩, ⟨bF BK705⟩, ⟨bF BK706⟩, ⟨bF BK707⟩, ⟨by (with_reducible repeat (first | refine blk_drewN ?_ _ | refine blk_drew ?_ | refine blk_alloc ?_ _)); refine blk_put (cs := #[.int .i64 a0_0, .slice Ao14 y711.length co14, u715002]) ?_ 2 _ rfl; (with_reducible repeat (first | refine blk_drewN ?_ _ | refine blk_drew ?_ | refine blk_alloc ?_ _)); exact BK714.out⟩, ⟨hbC _⟩⟩

end Go.Proofs.Ytpnocmkpeogifaa.X
