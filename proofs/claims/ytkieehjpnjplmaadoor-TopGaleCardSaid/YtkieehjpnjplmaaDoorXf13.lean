-- Written by a program of this work (wip/xprint.py, over the kit's printer) out of the translation.
import Derived.Test.YtkieehjpnjplmaaDoorX0
import Derived.Test.YtkieehjpnjplmaaDoorXG1a
import Derived.Test.YtkieehjpnjplmaaDoorXf31
import Derived.Test.YtkieehjpnjplmaaDoorEG
namespace Go.Proofs.YtkieehjpnjplmaaDoor.X
open Go.RowKit Go.Proofs.YtkieehjpnjplmaaDoorW.PrintWords Go.Proofs.YtkieehjpnjplmaaDoorW.PrintLast Go.Proofs.YtkieehjpnjplmaaDoorW.PrintMore
attribute [local go_sem] max2_int min2_int max_two min_two max_three min_three max_four min_four   -- for this text's walks alone
set_option linter.unusedVariables false
set_option linter.unusedSimpArgs false

/-! ### squares_clues: function 13 -/
mutual
def squares_clues.l0 : Nat → Int → List Int → List Int → Int → Int → List (List Int) → Option ((List (List Int)) × (List (List Int)))
 | 0, _, _, _, _, _, _ => none
 | k + 1, x0, x1, x9, x10, x11, x115000 => if x11 < x10 then (if 0 ≤ x11 then (if x11 < (x9.length : Int) then ((squares_blocks.f k (rd x9 x11)).bind fun t116 => (if x115000.length < 5864062014805 then (squares_clues.l0 k x0 x1 x9 x10 (wrap64 (x11 + 1)) (x115000 ++ [t116])) else (none))) else (none)) else (none)) else (squares_clues.l1 k x1 x0 0 x115000 ([] : List (List Int)))
def squares_clues.l1 : Nat → List Int → Int → Int → List (List Int) → List (List Int) → Option ((List (List Int)) × (List (List Int)))
 | 0, _, _, _, _, _ => none
 | k + 1, x1, x23, x24, x115000, x115001 => if x24 < x23 then ((squares_column.f k x1 x24).bind fun t122 => ((squares_blocks.f k t122).bind fun t123 => (if x115001.length < 5864062014805 then (squares_clues.l1 k x1 x23 (wrap64 (x24 + 1)) x115000 (x115001 ++ [t123])) else (none)))) else (some (x115000, x115001))
end
def squares_clues.f (k : Nat) (a0 : Int) (l1 : List Int) : Option ((List (List Int)) × (List (List Int))) := squares_clues.l0 k a0 l1 l1 (l1.length : Int) 0 ([] : List (List Int))
theorem squares_clues.mono_l : ∀ k, (∀ y0 y1 y2 y3 y4 y5, LeO (squares_clues.l0 k y0 y1 y2 y3 y4 y5) (squares_clues.l0 (k + 1) y0 y1 y2 y3 y4 y5)) ∧ (∀ y0 y1 y2 y3 y4, LeO (squares_clues.l1 k y0 y1 y2 y3 y4) (squares_clues.l1 (k + 1) y0 y1 y2 y3 y4))
 | 0 => ⟨fun _ _ _ _ _ _ r h => by simp [squares_clues.l0] at h, fun _ _ _ _ _ r h => by simp [squares_clues.l1] at h⟩
 | k + 1 => by
  obtain ⟨ih0, ih1⟩ := squares_clues.mono_l k
  refine ⟨?_, ?_⟩
  ·intro y0 y1 y2 y3 y4 y5
   unfold squares_clues.l0
   repeat' first
   | (with_reducible exact ih0 _ _ _ _ _ _)
   | (with_reducible exact ih1 _ _ _ _ _)
   | (with_reducible exact squares_blocks.mono _ _)
   | (with_reducible exact squares_column.mono _ _ _)
   | (with_reducible exact LeO.refl _)
   | (with_reducible exact LeO.none _)
   | (with_reducible refine LeO.ite ?_ ?_)
   | (with_reducible refine LeO.bind ?_ (fun _ => ?_))
   | exact ih0 _ _ _ _ _ _
   | exact ih1 _ _ _ _ _
   | exact squares_blocks.mono _ _
   | exact squares_column.mono _ _ _
   | exact LeO.none _
   | refine LeO.ite ?_ ?_
   | refine LeO.bind ?_ (fun _ => ?_)
  ·intro y0 y1 y2 y3 y4
   unfold squares_clues.l1
   repeat' first
   | (with_reducible exact ih0 _ _ _ _ _ _)
   | (with_reducible exact ih1 _ _ _ _ _)
   | (with_reducible exact squares_blocks.mono _ _)
   | (with_reducible exact squares_column.mono _ _ _)
   | (with_reducible exact LeO.refl _)
   | (with_reducible exact LeO.none _)
   | (with_reducible refine LeO.ite ?_ ?_)
   | (with_reducible refine LeO.bind ?_ (fun _ => ?_))
   | exact ih0 _ _ _ _ _ _
   | exact ih1 _ _ _ _ _
   | exact squares_blocks.mono _ _
   | exact squares_column.mono _ _ _
   | exact LeO.none _
   | refine LeO.ite ?_ ?_
   | refine LeO.bind ?_ (fun _ => ?_)
theorem squares_clues.mono : ∀ a0 a1 k, LeO (squares_clues.f k a0 a1) (squares_clues.f (k + 1) a0 a1) := by
 intro a0 a1 k
 obtain ⟨ih0, ih1⟩ := squares_clues.mono_l k
 unfold squares_clues.f
 repeat' first
   | (with_reducible exact ih0 _ _ _ _ _ _)
   | (with_reducible exact ih1 _ _ _ _ _)
   | (with_reducible exact squares_blocks.mono _ _)
   | (with_reducible exact squares_column.mono _ _ _)
   | (with_reducible exact LeO.refl _)
   | (with_reducible exact LeO.none _)
   | (with_reducible refine LeO.ite ?_ ?_)
   | (with_reducible refine LeO.bind ?_ (fun _ => ?_))
   | exact ih0 _ _ _ _ _ _
   | exact ih1 _ _ _ _ _
   | exact squares_blocks.mono _ _
   | exact squares_column.mono _ _ _
   | exact LeO.none _
   | refine LeO.ite ?_ ?_
   | refine LeO.bind ?_ (fun _ => ?_)
def squares_clues.T5 : Bool × List (List Nat × List Nat) := (true, [([], []), ([0], [0]), ([], []), ([2], [2]), ([3], [3]), ([1, 4, 3], [1, 4]), ([0, 1, 2, 3, 4, 5], []), ([6, 5, 5, 0, 1, 2, 3, 4, 5], [5, 6])])
def squares_clues.B5 : List Nat := [0, 1, 0, 4, 12, 31, 63, 127]
theorem squares_clues.tab5 : rtab .any (opsOf Tryd.f13 5) = squares_clues.T5 := by kernel_rfl
theorem squares_clues.bits5 : waitsOk squares_clues.T5.2 squares_clues.B5 = true := by kernel_rfl
def squares_clues.T10 : Bool × List (List Nat × List Nat) := (true, [([], []), ([0], [0]), ([], []), ([], []), ([2, 3], [2, 3]), ([4, 4], [4]), ([5], [5]), ([1, 6, 5], [1, 6]), ([0, 1, 2, 3, 4, 5, 6, 7], []), ([8, 7, 7, 0, 1, 2, 3, 4, 5, 6, 7], [7, 8])])
def squares_clues.B10 : List Nat := [0, 1, 0, 0, 12, 28, 60, 127, 255, 511]
theorem squares_clues.tab10 : rtab .any (opsOf Tryd.f13 10) = squares_clues.T10 := by kernel_rfl
theorem squares_clues.bits10 : waitsOk squares_clues.T10.2 squares_clues.B10 = true := by kernel_rfl
set_option maxHeartbeats 8000000 in
set_option maxRecDepth 100000 in
theorem squares_clues.calls (k : Nat) (a0 : Int) (A1 : Option Addr) (c1 : Nat) (l1 : List Int) (r1 : List (List Int)) (r2 : List (List Int)) (w : World) (hr1 : Kd.C (Kd.int .i64) w A1 l1.length l1) (hc1 : l1.length ≤ c1) (h : squares_clues.f k a0 l1 = some (r1, r2)) (hG0 : GL w := by exact GL.to HG.out (hbC _)) :
  Calls Tryd.prog 13 #[.int .i64 a0, .slice A1 l1.length c1] w fun e w' => ∃ v0_ v1_ : Value, e = .returned (.agg #[v0_, v1_]) ∧ Kd.S (Kd.slice 3 (Kd.int .i64)) 22 w' w.heap.size (fun k_ => some k_ ≠ (v1_ : Value).ownBlock) v0_ r1 ∧ Kd.S (Kd.slice 3 (Kd.int .i64)) 22 w' w.heap.size (fun k_ => some k_ ≠ (v0_ : Value).ownBlock) v1_ r2 ∧ Below w.heap.size w w' := by
 have HG := Aside0.mk hG0
 clear hG0
 have hu25 := Tryd.underlying25
 have HR1 := Aside0.mk hr1
 have HC1 := Aside0.mk hc1
 clear hr1 hc1
 have HB := ak (Below.refl w.heap.size w)
 have H : (squares_clues.l0 k a0 l1 l1 (l1.length : Int) 0 ([] : List (List Int))) = some (r1, r2) := h
 clear h
 have H' := Aside0.mk H
 clear H
 go_enter Tryd.func13, Tryd.ntmps13
 go_wp2_with (first | ((with_reducible refine gate_dst (N := 4) rfl ?_); refine bE 4 #[.slice none 0 0, .slice none 0 0] 25 ?_; intro gb113 hg w3 hbox hb; have BK113 := ak (hbox); have GW113 := kG w hg; have GE113 := kG w hg; replace HB := kH _ hb; clear hb hbox hg) | ((with_reducible refine gate_dst (N := 5) rfl ?_); refine bE 5 #[.slice none 0 0, .slice none 0 0] 25 ?_; intro gb114 hg w4 hbox hb; have BK114 := ak (hbox); have GW114 := kG w hg; have GE114 := kG w hg; replace HB := kH _ hb; have NB113_114 := kL BK113 hg; have NB114_113 := kR BK113 hg; replace BK113 := kB BK113 hb; clear hb hbox hg))
 go_loopg [11] k (fun kq v11 w' => ∃ (x11_1 : Int) (x115000_1 : List (List Int)) (u115000 : Value), v11 = .int .i64 x11_1 ∧ Aside0 (squares_clues.l0 kq a0 l1 l1 (l1.length : Int) x11_1 x115000_1 = some (r1, r2)) ∧ Aside0 (kq ≤ k) ∧ Aside0 (Kd.S (Kd.slice 3 (Kd.int .i64)) 22 w' w.heap.size (fun _ => True) u115000 x115000_1) ∧ Aside0 (w'.heap[gb113]? = some (.cells #[(.slice none 0 0), (.slice none 0 0)] 25 (0, 0))) ∧ Aside0 (w'.heap[gb114]? = some (.cells #[u115000, (.slice none 0 0)] 25 (0, 0))) ∧ Aside0 (Below w.heap.size w w'))
 case atStart => exact ⟨(0), (([] : List (List Int))), (.slice none 0 0), (by first | rfl | (simp; done) | (simp [*]; done)), H', ⟨Nat.le_refl _⟩, ⟨by first | exact Kd.S_nil _ _ _ _ _ | exact Kd.N_nil _ _ _ _ _ | exact Kd.V_nil _ _ _ _ _ | exact Kd.Q_nil _ _ _ _ _ | exact Kd.R_nil _ _ _ _ _⟩, ⟨bkC BK113⟩, ⟨bkC BK114⟩, ⟨hbC _⟩⟩
 case round =>
  clear H'
  try clear c1
  try clear p2
  obtain ⟨x11_1, x115000_1, u115000, rfl, HA, HK1, HO_115000, BK113, BK114, HB⟩ := hrel
  cases gk with
  | zero => exact absurd HA.out (by simp [squares_clues.l0])
  | succ k1 =>
   have H := HA.out
   clear HA
   simp only [squares_clues.l0] at H
   by_cases c5 : x11_1 < (l1.length : Int)
   ·rw [if_pos c5] at H
    have c5b0 : decide (x11_1 < (l1.length : Int)) = true := decide_eq_true c5
    clear c5
    by_cases c6 : 0 ≤ x11_1
    rotate_left
    ·rw [if_neg c6] at H
     exact absurd H (by simp)
    rw [if_pos c6] at H
    have c6b0 : decide (0 ≤ x11_1) = true := decide_eq_true c6
    clear c6
    by_cases c7 : x11_1 < (l1.length : Int)
    rotate_left
    ·rw [if_neg c7] at H
     exact absurd H (by simp)
    rw [if_pos c7] at H
    have c7b0 : decide (x11_1 < (l1.length : Int)) = true := decide_eq_true c7
    clear c7
    replace H := Option.bind_eq_some_iff.mp H
    obtain ⟨t116, A80, H⟩ := H
    replace H : (if x115000_1.length < 5864062014805 then (squares_clues.l0 k1 a0 l1 l1 (l1.length : Int) (wrap64 (x11_1 + 1)) (x115000_1 ++ [t116])) else (none)) = some (r1, r2) := H
    have A8 := Aside0.mk A80
    clear A80
    by_cases c9 : x115000_1.length < 5864062014805
    rotate_left
    ·rw [if_neg c9] at H
     exact absurd H (by simp)
    rw [if_pos c9] at H
    have LMc9 := Aside0.mk c9
    clear c9
    obtain ⟨y119, hy119⟩ : ∃ y_ : List (List Int), y_ = (x115000_1 ++ [t116]) := ⟨_, rfl⟩
    replace H : (squares_clues.l0 k1 a0 l1 l1 (l1.length : Int) (wrap64 (x11_1 + 1)) y119) = some (r1, r2) := by first | (rw [hy119]; with_reducible exact H) | (have H2_ := (Option.bind_some _ _).symm.trans H; rw [hy119]; with_reducible exact H2_) | (have H2_ := (Option.bind_some _ _).symm.trans H; with_reducible exact H2_) | with_reducible exact H | (rw [hy119]; exact H) | exact H
    have Ny119 := Aside0.mk hy119
    clear hy119
    have H' := Aside0.mk H
    clear H
    have p115 : 0 ≤ (x11_1 : Int) := dA
    have q115 : x11_1 < (l1.length : Int) := dA
    obtain ⟨ad115, e115, hx115_0⟩ := Kd.at_int HR1.out x11_1 p115 q115
    cases e115
    try replace hx115_0 := (HB.out.cell (World.block_lt_of_cell? w _ hx115_0)).trans hx115_0
    replace p115 := eq_true p115
    replace q115 := eq_true q115
    try go_wp2
    replace HO_115000 := ak (Kd.S_drew HO_115000.out)
    replace BK113 := kd BK113
    replace BK114 := kd BK114
    replace HB := ak (below_drew1 HB.out)
    refine sS (n := 8) (S := fun w' => w'.cell? ⟨gb114, 0, none⟩ = some (u115000) ∧ w'.cell? ⟨gb114, 1, none⟩ = some (.slice none 0 0)) (ds := [7]) ⟨bc BK114 0, bc BK114 1⟩ (fun hHeld => ?_); refine with_tabW squares_clues.tab5 squares_clues.bits5 (fun HT_ HW_ => ?_)
    generalize wr.drew = w10 at HO_115000 BK113 BK114 HB hHeld ⊢
    refine pS 0 15 8 1 ?_
    refine pS 2 17 8 5 ?_
    refine tS 1 16 8 7 ?_
    refine one_ (i := 3) (N := some 18) (ba 8 15) rfl rfl (one_of HT_.out (by kernel_rfl)) (by decide) (fun K hK => ?_)
    refine gC Tryd.func31 #[.int .i64 (rd l1 x11_1)] ?_
    with_reducible refine (squares_blocks.calls k1 (rd l1 x11_1) t116 _ A8.out).mono ?_
    rintro e w11 ⟨v117, rfl, ho0, hb⟩
    refine ⟨_, rfl, ?_⟩
    replace HO_115000 := ak (Kd.S_elder' (by (with_reducible repeat (first | apply Kd.S_alloc | apply Kd.S_drewN | apply Kd.S_drew)); exact HO_115000.out) (Kd.R_base ho0) hb)
    have HO118 := ak (Kd.R_lower ho0 (below_size (hbC _)))
    replace BK113 := kB BK113 hb
    replace BK114 := kB BK114 hb
    replace HB := kH _ hb
    (try clear hb)
    (try clear hb2)
    (try clear hk)
    (try clear hi)
    (try clear ho0)
    obtain ⟨Ao13, co13, eo13⟩ := Kd.R_slice HO118.out
    (first | subst eo13 | (injection eo13 with f1_ f2_ f3_; have f4_ := f1_.symm; have f5_ := f3_.symm; clear f1_ f2_ f3_; subst f4_; subst f5_))
    refine hK.out _ _ ⟨bc BK114 0, bc BK114 1⟩ (fun hHeld => ?_)
    clear hK K
    refine norm_ (a' := ?_) ?_ ?_
    rotate_left
    ·show Act.put _ (some 18) _ = _
     simp only [Act.put, List.setIfInBounds_toArray, List.set_cons_zero, List.set_cons_succ, i64_w, i32_w]
     rfl
    refine one_ (i := 4) (N := some 19) (ba 8 31) rfl rfl (one_of HT_.out (by kernel_rfl)) (by decide) (fun K hK => ?_)
    refine value_ (w1 := ?_) (v := ?_) (by rfl) rfl ?_ ?_
    rotate_left 2
    ·go_simp
     constructor
     ·rfl
     ·rfl
    refine hK.out _ _ ⟨(blk_cell (blk_alloc BK114.out _) 0).trans rfl, (blk_cell (blk_alloc BK114.out _) 1).trans rfl⟩ (fun hHeld => ?_)
    clear hK K
    refine norm_ (a' := ?_) ?_ ?_
    rotate_left
    ·show Act.put _ (some 19) _ = _
     simp only [Act.put, List.setIfInBounds_toArray, List.set_cons_zero, List.set_cons_succ, i64_w, i32_w]
     rfl
    refine one_ (i := 5) (N := some 20) (ba 8 63) rfl rfl (one_of HT_.out (by kernel_rfl)) (by decide) (fun K hK => ?_)
    refine Kd.S_append_step (Kd.slice 3 (Kd.int .i64)) (w0 := w) w.heap.size (by rfl) (.tmp 16) (.tmp 19) 23 22 (.slice none 0 0) 24 rfl Tryd.underlying23 info22 rfl (by decide) (by omega) u115000 x115000_1 t116 [.slice Ao13 t116.length co13] (fun _ => True) (fun k_ => some k_ = (.slice Ao13 t116.length co13 : Value).ownBlock) rfl rfl ?aP (fun k_ hk_ => ((Kd.R_mono (ok' := fun k_ => ((fun _ => True)) k_ ∧ nb k_ u115000) (Kd.R_apart' (HO118.out) (Kd.S_typed HO_115000.out) (by decide)) (fun k_ hk => ⟨trivial, hk.2⟩))).1 k_ hk_.symm) ?aF ?aO ?aB ?aS ?aL ?_
    (case aP => exact Kd.M_row (Kd.R_mono (Kd.R_tight rfl (Kd.R_mono (ok' := fun k_ => ((fun _ => True)) k_ ∧ nb k_ u115000) (Kd.R_apart' (HO118.out) (Kd.S_typed HO_115000.out) (by decide)) (fun k_ hk => ⟨trivial, hk.2⟩))) (fun _ h_ => h_)))
    (case aB => exact (hbC _))
    (case aF => exact (fun _ _ => trivial))
    (case aO => exact (by (with_reducible repeat (first | apply Kd.S_alloc | apply Kd.S_drewN | apply Kd.S_drew)); exact Kd.S_mono HO_115000.out (fun k_ hk => ⟨trivial, fun e_ => hk.2 e_⟩)))
    (case aS => exact (below_size (hbC _)))
    (case aL => have := LMc9.out; omega)
    intro v120 w12 ho hb hg hat
    rw [← Ny119.out] at ho
    have n0_ := ak (blk_grown (g := gb113) (o := .cells #[.slice none 0 0, .slice none 0 0] 25 (0, 0)) (bkC BK113) hg (Kd.S_ne HO_115000.out BK113.out (by decide)))
    have n1_ := ak (blk_grown (g := gb114) (o := .cells #[u115000, .slice none 0 0] 25 (0, 0)) (bkC BK114) hg (Kd.S_ne HO_115000.out BK114.out (by decide)))
    have n2_ := ak (hb)
    have n3_ := ak (ho)
    clear BK113
    clear BK114
    clear HB
    clear HO_115000
    clear HO118
    have BK113 := n0_
    have BK114 := n1_
    have HB := n2_
    have HO121 := n3_
    clear n0_ n1_ n2_ n3_
    clear ho hb hg hat
    obtain ⟨Ao14, co14, eo14⟩ := Kd.S_slice HO121.out
    (first | subst eo14 | (injection eo14 with f1_ f2_ f3_; have f4_ := f1_.symm; have f5_ := f3_.symm; clear f1_ f2_ f3_; subst f4_; subst f5_))
    refine hK.out _ _ ⟨bc BK114 0, bc BK114 1⟩ (fun hHeld => ?_)
    clear hK K
    refine norm_ (a' := ?_) ?_ ?_
    rotate_left
    ·show Act.put _ (some 20) _ = _
     simp only [Act.put, List.setIfInBounds_toArray, List.set_cons_zero, List.set_cons_succ, i64_w, i32_w]
     rfl
    refine pS 6 21 8 127 ?_
    refine last_ (i := 7) (N := none) (ba 8 255) rfl rfl (one_of HT_.out (by kernel_rfl)) (by decide) (fun K hK => ?_)
    have hs15 : w12.cell? ⟨gb114, 0, none⟩ = some (u115000) := bc BK114 0
    have hfs15 := fz BK114 0
    have hns15_0 := NB113_114.out
    have hms15_0 := NB114_113.out
    refine skip_ (w1 := ?_) (by rfl) rfl ?_ ?_
    rotate_left
    ·go_simp
     rfl
    refine hK.out _ _ ?_
    clear hK K
    refine done_ (done_of HT_.out (by kernel_rfl)) ?_
    try go_wp2
    go_roundg k1
    case measure => have := HK1.out; omega
    case rel => exact ⟨(wrap64 (x11_1 + 1)), (y119), (.slice Ao14 y119.length co14), (by first | rfl | (simp; done) | (simp [*]; done)), H', ⟨by have := HK1.out; omega⟩, ⟨by (with_reducible repeat (first | apply Kd.S_alloc | apply Kd.S_drewN | apply Kd.S_drew)); exact Kd.S_mono (Kd.S_far (p := ⟨gb114, 0, none⟩) (Kd.S_types HO121.out BK114.out (by decide)) (fun _ hk => hk.2) (.slice Ao14 y119.length co14)) (fun _ hk => trivial)⟩, ⟨bF BK113⟩, ⟨by (with_reducible repeat (first | refine blk_drewN ?_ _ | refine blk_drew ?_ | refine blk_alloc ?_ _)); refine blk_put (cs := #[u115000, .slice none 0 0]) ?_ 0 _ rfl; (with_reducible repeat (first | refine blk_drewN ?_ _ | refine blk_drew ?_ | refine blk_alloc ?_ _)); exact BK114.out⟩, ⟨hbC _⟩⟩
   rw [if_neg c5] at H
   have c5b0 : decide (x11_1 < (l1.length : Int)) = false := decide_eq_false c5
   clear c5
   have H' := Aside0.mk H
   clear H
   go_wp2
   go_loopg [24] k1 (fun kq v24 w' => ∃ (x24_2 : Int) (x115001_2 : List (List Int)) (u115001 : Value), v24 = .int .i64 x24_2 ∧ Aside0 (squares_clues.l1 kq l1 a0 x24_2 x115000_1 x115001_2 = some (r1, r2)) ∧ Aside0 (kq ≤ k1) ∧ Aside0 (Kd.S (Kd.slice 3 (Kd.int .i64)) 22 w' w.heap.size (fun k_ => nb k_ u115001) u115000 x115000_1) ∧ Aside0 (Kd.S (Kd.slice 3 (Kd.int .i64)) 22 w' w.heap.size (fun k_ => nb k_ u115000) u115001 x115001_2) ∧ Aside0 (w'.heap[gb113]? = some (.cells #[(.slice none 0 0), (.slice none 0 0)] 25 (0, 0))) ∧ Aside0 (w'.heap[gb114]? = some (.cells #[u115000, u115001] 25 (0, 0))) ∧ Aside0 (Below w.heap.size w w'))
   case atStart => exact ⟨(0), (([] : List (List Int))), (.slice none 0 0), (by first | rfl | (simp; done) | (simp [*]; done)), H', ⟨Nat.le_refl _⟩, ⟨by (with_reducible repeat (first | apply Kd.S_alloc | apply Kd.S_drewN | apply Kd.S_drew)); exact Kd.S_mono HO_115000.out (fun _ hk => (by simp [Value.ownBlock]))⟩, ⟨by first | exact Kd.S_nil _ _ _ _ _ | exact Kd.N_nil _ _ _ _ _ | exact Kd.V_nil _ _ _ _ _ | exact Kd.Q_nil _ _ _ _ _ | exact Kd.R_nil _ _ _ _ _⟩, ⟨bkC BK113⟩, ⟨bkC BK114⟩, ⟨hbC _⟩⟩
   case round =>
    clear H'
    try clear c1
    try clear p1
    try clear q1
    try clear hx1
    try clear p2
    try clear c3
    try clear c5
    try clear c5b0
    try clear c6
    try clear c6b0
    try clear p6
    try clear c7
    try clear c7b0
    try clear c9
    try clear p11
    try clear q11
    try clear hx11
    try clear c13
    try clear hx115_0
    try clear p115
    try clear p2
    try clear q115
    obtain ⟨x24_2, x115001_2, u115001, rfl, HA, HK2, HO_115000, HO_115001, BK113, BK114, HB⟩ := hrel
    cases gk with
    | zero => exact absurd HA.out (by simp [squares_clues.l1])
    | succ k2 =>
     have H := HA.out
     clear HA
     simp only [squares_clues.l1] at H
     by_cases c16 : x24_2 < a0
     rotate_left
     ·rw [if_neg c16] at H
      have c16b0 : decide (x24_2 < a0) = false := decide_eq_false c16
      clear c16
      simp only [Option.some.injEq, Prod.mk.injEq] at H
      obtain ⟨rfl, rfl⟩ := H
      have hnb26 := NB114_113.out
      have hnc26 := NB113_114.out
      have hcz27_0 : wr.cell? ⟨gb114, 0, none⟩ = some (u115000) := bc BK114 0
      have hcz27_1 : wr.cell? ⟨gb114, 1, none⟩ = some (u115001) := bc BK114 1
      have hfz27_0 := fz BK114 0
      have hfz27_1 := fz BK114 1
      obtain ⟨Ao28, co28, eo28⟩ := Kd.S_slice HO_115000.out
      subst eo28
      have hcz29_0 : wr.cell? ⟨gb113, 0, none⟩ = some (.slice none 0 0) := bc BK113 0
      have hcz29_1 : wr.cell? ⟨gb113, 1, none⟩ = some (.slice none 0 0) := bc BK113 1
      have hfz29_0 := fz BK113 0
      have hfz29_1 := fz BK113 1
      obtain ⟨Ao30, co30, eo30⟩ := Kd.S_slice HO_115001.out
      subst eo30
      go_wp2
      refine bodyPost_ret (results_cell_row rfl _ _ gb113 25 #[.slice Ao28 x115000_1.length co28, .slice Ao30 x115001_2.length co30] (0, 0) _ rfl (by (with_reducible repeat (first | refine blk_drewN ?_ _ | refine blk_drew ?_ | refine blk_alloc ?_ _)); refine blk_put (cs := #[.slice Ao28 x115000_1.length co28, .slice none 0 0]) ?_ 1 _ rfl; (with_reducible repeat (first | refine blk_drewN ?_ _ | refine blk_drew ?_ | refine blk_alloc ?_ _)); refine blk_put (cs := #[.slice none 0 0, .slice none 0 0]) ?_ 0 _ rfl; (with_reducible repeat (first | refine blk_drewN ?_ _ | refine blk_drew ?_ | refine blk_alloc ?_ _)); exact BK113.out) Tryd.underlying25 rfl (by kernel_rfl)) rfl ?_
      exact ⟨_, _, by first | rfl | (simp [errW_none, errW_some] <;> rfl) | (simp [*, errW_none, errW_some] <;> rfl), by (with_reducible repeat (first | apply Kd.S_alloc | apply Kd.S_drewN | apply Kd.S_drew)); exact Kd.S_mono (Kd.S_far (p := ⟨gb113, 1, none⟩) (Kd.S_far (p := ⟨gb113, 0, none⟩) (Kd.S_types HO_115000.out BK113.out (by decide)) (fun _ hk => hk.2) (.slice Ao28 x115000_1.length co28)) (fun _ hk => hk.2) (.slice Ao30 x115001_2.length co30)) (fun _ hk => hk.1), by (with_reducible repeat (first | apply Kd.S_alloc | apply Kd.S_drewN | apply Kd.S_drew)); exact Kd.S_mono (Kd.S_far (p := ⟨gb113, 1, none⟩) (Kd.S_far (p := ⟨gb113, 0, none⟩) (Kd.S_types HO_115001.out BK113.out (by decide)) (fun _ hk => hk.2) (.slice Ao28 x115000_1.length co28)) (fun _ hk => hk.2) (.slice Ao30 x115001_2.length co30)) (fun _ hk => hk.1), hbC _⟩
     rw [if_pos c16] at H
     have c16b0 : decide (x24_2 < a0) = true := decide_eq_true c16
     clear c16
     replace H := Option.bind_eq_some_iff.mp H
     obtain ⟨t122, A170, H⟩ := H
     replace H : ((squares_blocks.f k2 t122).bind fun t123 => (if x115001_2.length < 5864062014805 then (squares_clues.l1 k2 l1 a0 (wrap64 (x24_2 + 1)) x115000_1 (x115001_2 ++ [t123])) else (none))) = some (r1, r2) := H
     have A17 := Aside0.mk A170
     clear A170
     replace H := Option.bind_eq_some_iff.mp H
     obtain ⟨t123, A180, H⟩ := H
     replace H : (if x115001_2.length < 5864062014805 then (squares_clues.l1 k2 l1 a0 (wrap64 (x24_2 + 1)) x115000_1 (x115001_2 ++ [t123])) else (none)) = some (r1, r2) := H
     have A18 := Aside0.mk A180
     clear A180
     by_cases c19 : x115001_2.length < 5864062014805
     rotate_left
     ·rw [if_neg c19] at H
      exact absurd H (by simp)
     rw [if_pos c19] at H
     have LMc19 := Aside0.mk c19
     clear c19
     obtain ⟨y126, hy126⟩ : ∃ y_ : List (List Int), y_ = (x115001_2 ++ [t123]) := ⟨_, rfl⟩
     replace H : (squares_clues.l1 k2 l1 a0 (wrap64 (x24_2 + 1)) x115000_1 y126) = some (r1, r2) := by first | (rw [hy126]; with_reducible exact H) | (have H2_ := (Option.bind_some _ _).symm.trans H; rw [hy126]; with_reducible exact H2_) | (have H2_ := (Option.bind_some _ _).symm.trans H; with_reducible exact H2_) | with_reducible exact H | (rw [hy126]; exact H) | exact H
     have Ny126 := Aside0.mk hy126
     clear hy126
     have H' := Aside0.mk H
     clear H
     try go_wp2
     replace HO_115000 := ak (Kd.S_drew HO_115000.out)
     replace HO_115001 := ak (Kd.S_drew HO_115001.out)
     replace BK113 := kd BK113
     replace BK114 := kd BK114
     replace HB := ak (below_drew1 HB.out)
     refine sS (n := 10) (S := fun w' => w'.cell? ⟨gb114, 0, none⟩ = some (u115000) ∧ w'.cell? ⟨gb114, 1, none⟩ = some (u115001)) (ds := [9]) ⟨bc BK114 0, bc BK114 1⟩ (fun hHeld => ?_); refine with_tabW squares_clues.tab10 squares_clues.bits10 (fun HT_ HW_ => ?_)
     generalize wr.drew = w20 at HO_115000 HO_115001 BK113 BK114 HB hHeld ⊢
     refine pS 0 27 10 1 ?_
     refine pS 2 29 10 5 ?_
     refine pS 3 30 10 13 ?_
     refine tS 1 28 10 15 ?_
     refine one_ (i := 4) (N := some 31) (ba 10 31) rfl rfl (one_of HT_.out (by kernel_rfl)) (by decide) (fun K hK => ?_)
     refine gC Tryd.func32 #[.slice A1 l1.length c1, .int .i64 x24_2] ?_
     with_reducible refine (squares_column.calls k2 _ _ l1 x24_2 t122 _ ?side1 ?side2 A17.out).mono ?_
     (case side1 => exact kC HR1)
     (case side2 => exact HC1.out)
     rintro e w' ⟨rfl, ⟨nd, rfl⟩⟩
     refine ⟨_, rfl, ?_⟩
     refine hK.out _ _ ⟨bc BK114 0, bc BK114 1⟩ (fun hHeld => ?_)
     clear hK K
     refine norm_ (a' := ?_) ?_ ?_
     rotate_left
     ·show Act.put _ (some 31) _ = _
      simp only [Act.put, List.setIfInBounds_toArray, List.set_cons_zero, List.set_cons_succ, i64_w, i32_w]
      rfl
     refine one_ (i := 5) (N := some 32) (ba 10 63) rfl rfl (one_of HT_.out (by kernel_rfl)) (by decide) (fun K hK => ?_)
     refine gC Tryd.func31 #[.int .i64 t122] ?_
     with_reducible refine (squares_blocks.calls k2 t122 t123 _ A18.out).mono ?_
     rintro e w21 ⟨v124, rfl, ho0, hb⟩
     refine ⟨_, rfl, ?_⟩
     replace HO_115000 := ak (Kd.S_elder' (by (with_reducible repeat (first | apply Kd.S_alloc | apply Kd.S_drewN | apply Kd.S_drew)); exact HO_115000.out) (Kd.R_base ho0) hb)
     replace HO_115001 := ak (Kd.S_elder' (by (with_reducible repeat (first | apply Kd.S_alloc | apply Kd.S_drewN | apply Kd.S_drew)); exact HO_115001.out) (Kd.R_base ho0) hb)
     have HO125 := ak (Kd.R_lower ho0 (below_size (hbC _)))
     replace BK113 := kB BK113 hb
     replace BK114 := kB BK114 hb
     replace HB := kH _ hb
     (try clear hb)
     (try clear hb2)
     (try clear hk)
     (try clear hi)
     (try clear ho0)
     obtain ⟨Ao23, co23, eo23⟩ := Kd.R_slice HO125.out
     (first | subst eo23 | (injection eo23 with f1_ f2_ f3_; have f4_ := f1_.symm; have f5_ := f3_.symm; clear f1_ f2_ f3_; subst f4_; subst f5_))
     refine hK.out _ _ ⟨bc BK114 0, bc BK114 1⟩ (fun hHeld => ?_)
     clear hK K
     refine norm_ (a' := ?_) ?_ ?_
     rotate_left
     ·show Act.put _ (some 32) _ = _
      simp only [Act.put, List.setIfInBounds_toArray, List.set_cons_zero, List.set_cons_succ, i64_w, i32_w]
      rfl
     refine one_ (i := 6) (N := some 33) (ba 10 127) rfl rfl (one_of HT_.out (by kernel_rfl)) (by decide) (fun K hK => ?_)
     refine value_ (w1 := ?_) (v := ?_) (by rfl) rfl ?_ ?_
     rotate_left 2
     ·go_simp
      constructor
      ·rfl
      ·rfl
     refine hK.out _ _ ⟨(blk_cell (blk_alloc BK114.out _) 0).trans rfl, (blk_cell (blk_alloc BK114.out _) 1).trans rfl⟩ (fun hHeld => ?_)
     clear hK K
     refine norm_ (a' := ?_) ?_ ?_
     rotate_left
     ·show Act.put _ (some 33) _ = _
      simp only [Act.put, List.setIfInBounds_toArray, List.set_cons_zero, List.set_cons_succ, i64_w, i32_w]
      rfl
     refine one_ (i := 7) (N := some 34) (ba 10 255) rfl rfl (one_of HT_.out (by kernel_rfl)) (by decide) (fun K hK => ?_)
     refine Kd.S_append_step (Kd.slice 3 (Kd.int .i64)) (w0 := w) w.heap.size (by rfl) (.tmp 28) (.tmp 33) 23 22 (.slice none 0 0) 24 rfl Tryd.underlying23 info22 rfl (by decide) (by omega) u115001 x115001_2 t123 [.slice Ao23 t123.length co23] (fun k_ => nb k_ u115000) (fun k_ => some k_ = (.slice Ao23 t123.length co23 : Value).ownBlock) rfl rfl ?aP (fun k_ hk_ => ((Kd.R_mono (ok' := fun k_ => ((fun k_ => nb k_ u115000)) k_ ∧ nb k_ u115001) (Kd.R_apart' (Kd.R_apart' (HO125.out) (Kd.S_typed HO_115000.out) (by decide)) (Kd.S_typed HO_115001.out) (by decide)) (fun k_ hk => ⟨hk.1.2, hk.2⟩))).1 k_ hk_.symm) ?aF ?aO ?aB ?aS ?aL ?_
     (case aP => exact Kd.M_row (Kd.R_mono (Kd.R_tight rfl (Kd.R_mono (ok' := fun k_ => ((fun k_ => nb k_ u115000)) k_ ∧ nb k_ u115001) (Kd.R_apart' (Kd.R_apart' (HO125.out) (Kd.S_typed HO_115000.out) (by decide)) (Kd.S_typed HO_115001.out) (by decide)) (fun k_ hk => ⟨hk.1.2, hk.2⟩))) (fun _ h_ => h_)))
     (case aB => exact (hbC _))
     (case aF => exact (fun k_ hk => Kd.fresh' (Kd.S_lt (by (with_reducible repeat (first | apply Kd.S_alloc | apply Kd.S_drewN | apply Kd.S_drew)); exact HO_115000.out)) k_ hk))
     (case aO => exact (by (with_reducible repeat (first | apply Kd.S_alloc | apply Kd.S_drewN | apply Kd.S_drew)); exact Kd.S_mono HO_115001.out (fun k_ hk => ⟨hk.1, fun e_ => hk.2 e_⟩)))
     (case aS => exact (below_size (hbC _)))
     (case aL => have := LMc19.out; omega)
     intro v127 w22 ho hb hg hat
     rw [← Ny126.out] at ho
     have n0_ := ak (Kd.S_after (ok := (fun k_ => nb k_ (.slice Ao23 t123.length co23))) (by (with_reducible repeat (first | apply Kd.S_alloc | apply Kd.S_drewN | apply Kd.S_drew)); exact Kd.S_mono HO_115000.out (fun _ hk => ⟨hk.2, hk.1⟩)) hg hat)
     have n1_ := ak (blk_grown (g := gb113) (o := .cells #[.slice none 0 0, .slice none 0 0] 25 (0, 0)) (bkC BK113) hg (Kd.S_ne HO_115001.out BK113.out (by decide)))
     have n2_ := ak (blk_grown (g := gb114) (o := .cells #[u115000, u115001] 25 (0, 0)) (bkC BK114) hg (Kd.S_ne HO_115001.out BK114.out (by decide)))
     have n3_ := ak (hb)
     have n4_ := ak (ho)
     clear HO_115000
     clear BK113
     clear BK114
     clear HB
     clear HO_115001
     clear HO125
     have HO_115000 := n0_
     have BK113 := n1_
     have BK114 := n2_
     have HB := n3_
     have HO128 := n4_
     clear n0_ n1_ n2_ n3_ n4_
     clear ho hb hg hat
     obtain ⟨Ao24, co24, eo24⟩ := Kd.S_slice HO128.out
     (first | subst eo24 | (injection eo24 with f1_ f2_ f3_; have f4_ := f1_.symm; have f5_ := f3_.symm; clear f1_ f2_ f3_; subst f4_; subst f5_))
     refine hK.out _ _ ⟨bc BK114 0, bc BK114 1⟩ (fun hHeld => ?_)
     clear hK K
     refine norm_ (a' := ?_) ?_ ?_
     rotate_left
     ·show Act.put _ (some 34) _ = _
      simp only [Act.put, List.setIfInBounds_toArray, List.set_cons_zero, List.set_cons_succ, i64_w, i32_w]
      rfl
     refine pS 8 35 10 511 ?_
     refine last_ (i := 9) (N := none) (ba 10 1023) rfl rfl (one_of HT_.out (by kernel_rfl)) (by decide) (fun K hK => ?_)
     have hs25 : w22.cell? ⟨gb114, 1, none⟩ = some (u115001) := bc BK114 1
     have hfs25 := fz BK114 1
     have hns25_0 := NB113_114.out
     have hms25_0 := NB114_113.out
     refine skip_ (w1 := ?_) (by rfl) rfl ?_ ?_
     rotate_left
     ·go_simp
      rfl
     refine hK.out _ _ ?_
     clear hK K
     refine done_ (done_of HT_.out (by kernel_rfl)) ?_
     try go_wp2
     go_roundg k2
     case measure => have := HK1.out; have := HK2.out; omega
     case rel => exact ⟨(wrap64 (x24_2 + 1)), (y126), (.slice Ao24 y126.length co24), (by first | rfl | (simp; done) | (simp [*]; done)), H', ⟨by have := HK1.out; have := HK2.out; omega⟩, ⟨by (with_reducible repeat (first | apply Kd.S_alloc | apply Kd.S_drewN | apply Kd.S_drew)); exact Kd.S_mono (Kd.S_far (p := ⟨gb114, 1, none⟩) (Kd.S_types HO_115000.out BK114.out (by decide)) (fun _ hk => hk.2) (.slice Ao24 y126.length co24)) (fun _ hk => hk.1.2)⟩, ⟨by (with_reducible repeat (first | apply Kd.S_alloc | apply Kd.S_drewN | apply Kd.S_drew)); exact Kd.S_mono (Kd.S_far (p := ⟨gb114, 1, none⟩) (Kd.S_types HO128.out BK114.out (by decide)) (fun _ hk => hk.2) (.slice Ao24 y126.length co24)) (fun _ hk => hk.1)⟩, ⟨bF BK113⟩, ⟨by (with_reducible repeat (first | refine blk_drewN ?_ _ | refine blk_drew ?_ | refine blk_alloc ?_ _)); refine blk_put (cs := #[u115000, u115001]) ?_ 1 _ rfl; (with_reducible repeat (first | refine blk_drewN ?_ _ | refine blk_drew ?_ | refine blk_alloc ?_ _)); exact BK114.out⟩, ⟨hbC _⟩⟩

end Go.Proofs.YtkieehjpnjplmaaDoor.X
