-- Written by a program of this work (wip/xprint.py, over the kit's printer) out of the translation.
import Derived.Test.YtefmafbbnkkpjaaX0
namespace Go.Proofs.Ytefmafbbnkkpjaa.X
open Go.RowKit Go.Proofs.YtefmafbbnkkpjaaW.PrintWords Go.Proofs.YtefmafbbnkkpjaaW.PrintLast Go.Proofs.YtefmafbbnkkpjaaW.PrintMore
attribute [local go_sem] max2_int min2_int max_two min_two max_three min_three max_four min_four   -- for this text's walks alone
set_option linter.unusedVariables false
set_option linter.unusedSimpArgs false

/-! ### congoulaw01_Of: function 36 -/
def congoulaw01_Of.l0 : Nat → List (S77) → List (S78) → Int → Int → Option ((List (S77)))
 | 0, _, _, _, _ => none
 | k + 1, x3, x6, x7, x8 => if x8 < x7 then (if 0 ≤ x8 then (if x8 < (x6.length : Int) then (if x8 < 60 then (if x3.length < 5864062014805 then (congoulaw01_Of.l0 k (x3 ++ [(⟨(rd_T78 x6 x8).f0, (rd_T78 x6 x8).f1, (rd_T78 x6 x8).f2⟩ : S77)]) x6 x7 (wrap64 (x8 + 1))) else (none)) else (congoulaw01_Of.l0 k x3 x6 x7 (wrap64 (x8 + 1)))) else (none)) else (none)) else (some x3)
def congoulaw01_Of.f (k : Nat) (l0 : List (S78)) : Option ((List (S77))) := congoulaw01_Of.l0 k ([] : List (S77)) l0 (l0.length : Int) 0
theorem congoulaw01_Of.mono_l : ∀ k, (∀ y0 y1 y2 y3, LeO (congoulaw01_Of.l0 k y0 y1 y2 y3) (congoulaw01_Of.l0 (k + 1) y0 y1 y2 y3))
 | 0 => fun _ _ _ _ r h => by simp [congoulaw01_Of.l0] at h
 | k + 1 => by
  have ih0 := congoulaw01_Of.mono_l k
  ·intro y0 y1 y2 y3
   unfold congoulaw01_Of.l0
   repeat' first
   | (with_reducible exact ih0 _ _ _ _)
   | (with_reducible exact LeO.refl _)
   | (with_reducible exact LeO.none _)
   | (with_reducible refine LeO.ite ?_ ?_)
   | (with_reducible refine LeO.bind ?_ (fun _ => ?_))
   | exact ih0 _ _ _ _
   | exact LeO.none _
   | refine LeO.ite ?_ ?_
   | refine LeO.bind ?_ (fun _ => ?_)
theorem congoulaw01_Of.mono : ∀ a0 k, LeO (congoulaw01_Of.f k a0) (congoulaw01_Of.f (k + 1) a0) := by
 intro a0 k
 have ih0 := congoulaw01_Of.mono_l k
 unfold congoulaw01_Of.f
 repeat' first
   | (with_reducible exact ih0 _ _ _ _)
   | (with_reducible exact LeO.refl _)
   | (with_reducible exact LeO.none _)
   | (with_reducible refine LeO.ite ?_ ?_)
   | (with_reducible refine LeO.bind ?_ (fun _ => ?_))
   | exact ih0 _ _ _ _
   | exact LeO.none _
   | refine LeO.ite ?_ ?_
   | refine LeO.bind ?_ (fun _ => ?_)
set_option maxHeartbeats 8000000 in
set_option maxRecDepth 100000 in
theorem congoulaw01_Of.calls (k : Nat) (A0 : Option Addr) (c0 : Nat) (l0 : List (S78)) (r : List (S77)) (w : World) (hr0 : Kd.C k78 w A0 l0.length l0) (hc0 : l0.length ≤ c0) (h : congoulaw01_Of.f k l0 = some r) :
  Calls Try.prog 36 #[.slice A0 l0.length c0] w fun e w' => ∃ v0_ : Value, e = .returned (v0_) ∧ Kd.R k77 77 w' w.heap.size (fun _ => True) v0_ r ∧ Below w.heap.size w w' := by
 have hu78 := Try.underlying78
 have hu77 := Try.underlying77
 have HR0 := Aside0.mk hr0
 have HC0 := Aside0.mk hc0
 clear hr0 hc0
 have HB := ak (Below.refl w.heap.size w)
 have H : (congoulaw01_Of.l0 k ([] : List (S77)) l0 (l0.length : Int) 0) = some r := h
 clear h
 have H' := Aside0.mk H
 clear H
 go_enter Try.func36, Try.ntmps36
 go_wp2
 go_loopg [3, 8] k (fun kq v3 v8 w' => ∃ (x3_1 : List (S77)) (x8_1 : Int), v8 = .int .i64 x8_1 ∧ Aside0 (congoulaw01_Of.l0 kq x3_1 l0 (l0.length : Int) x8_1 = some r) ∧ Aside0 (kq ≤ k) ∧ Aside0 (Kd.R k77 77 w' w.heap.size (fun _ => True) v3 x3_1) ∧ Aside0 (Below w.heap.size w w'))
 case atStart => exact ⟨(([] : List (S77))), (0), (by first | rfl | (simp; done) | (simp [*]; done)), H', ⟨Nat.le_refl _⟩, ⟨by first | exact Kd.R_nil _ _ _ _ _ | exact Kd.N_nil _ _ _ _ _ | exact Kd.V_nil _ _ _ _ _ | exact Kd.Q_nil _ _ _ _ _ | exact Kd.S_nil _ _ _ _ _⟩, ⟨hbC _⟩⟩
 case round =>
  clear H'
  obtain ⟨x3_1, x8_1, rfl, HA, HK1, HO_3, HB⟩ := hrel
  cases gk with
  | zero => exact absurd HA.out (by simp [congoulaw01_Of.l0])
  | succ k1 =>
   have H := HA.out
   clear HA
   simp only [congoulaw01_Of.l0] at H
   by_cases c2 : x8_1 < (l0.length : Int)
   rotate_left
   ·rw [if_neg c2] at H
    have c2b0 : decide (x8_1 < (l0.length : Int)) = false := decide_eq_false c2
    clear c2
    obtain rfl := Option.some.inj H
    go_wp2
    go_ret
    exact ⟨_, by first | rfl | (simp [errW_none, errW_some] <;> rfl) | (simp [*, errW_none, errW_some] <;> rfl), rC HO_3, hbC _⟩
   rw [if_pos c2] at H
   have c2b0 : decide (x8_1 < (l0.length : Int)) = true := decide_eq_true c2
   clear c2
   by_cases c3 : 0 ≤ x8_1
   rotate_left
   ·rw [if_neg c3] at H
    exact absurd H (by simp)
   rw [if_pos c3] at H
   have c3b0 : decide (0 ≤ x8_1) = true := decide_eq_true c3
   clear c3
   by_cases c4 : x8_1 < (l0.length : Int)
   rotate_left
   ·rw [if_neg c4] at H
    exact absurd H (by simp)
   rw [if_pos c4] at H
   have c4b0 : decide (x8_1 < (l0.length : Int)) = true := decide_eq_true c4
   clear c4
   by_cases c5 : x8_1 < 60
   rotate_left
   ·rw [if_neg c5] at H
    have c5b0 : decide (x8_1 < 60) = false := decide_eq_false c5
    clear c5
    have H' := Aside0.mk H
    clear H
    have p241 : 0 ≤ (x8_1 : Int) := dA
    have q241 : x8_1 < (l0.length : Int) := dA
    obtain ⟨ad241, e241, hx241_0, hx241_1, hx241_2⟩ := at_T78 HR0.out x8_1 p241 q241
    cases e241
    try replace hx241_0 := (HB.out.cell (World.block_lt_of_cell? w _ hx241_0)).trans hx241_0
    try replace hx241_1 := (HB.out.cell (World.block_lt_of_cell? w _ hx241_1)).trans hx241_1
    try replace hx241_2 := (HB.out.cell (World.block_lt_of_cell? w _ hx241_2)).trans hx241_2
    replace p241 := eq_true p241
    replace q241 := eq_true q241
    go_wp2_with (first | ((with_reducible refine gate_dst (N := 5) rfl ?_); refine bE 5 #[.int .i64 0, .int .i64 0, .int .i64 0] 78 ?_; intro gb242 hg w10 hbox hb; replace HO_3 := kO HO_3 hb; have BK242 := ak (hbox); have GW242 := kG w hg; have GE242 := kG w hg; replace HB := kH _ hb; clear hb hbox hg; have hcz11_0 : w10.cell? ⟨gb242, 0, none⟩ = some (.int .i64 0) := bc BK242 0; have hcz11_1 : w10.cell? ⟨gb242, 1, none⟩ = some (.int .i64 0) := bc BK242 1; have hcz11_2 : w10.cell? ⟨gb242, 2, none⟩ = some (.int .i64 0) := bc BK242 2; have hfz11_0 := fz BK242 0; have hfz11_1 := fz BK242 1; have hfz11_2 := fz BK242 2))
    go_roundg k1
    case measure => have := HK1.out; omega
    case rel => exact ⟨(x3_1), (wrap64 (x8_1 + 1)), (by first | rfl | (simp; done) | (simp [*]; done)), H', ⟨by have := HK1.out; omega⟩, ⟨rD (Kd.R_mono (Kd.R_far (p := ⟨gb242, 2, none⟩) (Kd.R_far (p := ⟨gb242, 1, none⟩) (Kd.R_far (p := ⟨gb242, 0, none⟩) (Kd.R_types HO_3.out BK242.out (by decide)) (fun _ hk => hk.2) (.int .i64 ((rd_T78 l0 x8_1).f0))) (fun _ hk => hk.2) (.int .i64 ((rd_T78 l0 x8_1).f1))) (fun _ hk => hk.2) (.int .i64 ((rd_T78 l0 x8_1).f2))) (fun _ hk => trivial))⟩, ⟨hbC _⟩⟩
   rw [if_pos c5] at H
   have c5b0 : decide (x8_1 < 60) = true := decide_eq_true c5
   clear c5
   by_cases c6 : x3_1.length < 5864062014805
   rotate_left
   ·rw [if_neg c6] at H
    exact absurd H (by simp)
   rw [if_pos c6] at H
   have LMc6 := Aside0.mk c6
   clear c6
   obtain ⟨y243, hy243⟩ : ∃ y_ : List (S77), y_ = (x3_1 ++ [(⟨(rd_T78 l0 x8_1).f0, (rd_T78 l0 x8_1).f1, (rd_T78 l0 x8_1).f2⟩ : S77)]) := ⟨_, rfl⟩
   replace H : (congoulaw01_Of.l0 k1 y243 l0 (l0.length : Int) (wrap64 (x8_1 + 1))) = some r := by first | (rw [hy243]; with_reducible exact H) | (have H2_ := (Option.bind_some _ _).symm.trans H; rw [hy243]; with_reducible exact H2_) | (have H2_ := (Option.bind_some _ _).symm.trans H; with_reducible exact H2_) | with_reducible exact H | (rw [hy243]; exact H) | exact H
   have Ny243 := Aside0.mk hy243
   clear hy243
   have H' := Aside0.mk H
   clear H
   have p241 : 0 ≤ (x8_1 : Int) := dA
   have q241 : x8_1 < (l0.length : Int) := dA
   obtain ⟨ad241, e241, hx241_0, hx241_1, hx241_2⟩ := at_T78 HR0.out x8_1 p241 q241
   cases e241
   try replace hx241_0 := (HB.out.cell (World.block_lt_of_cell? w _ hx241_0)).trans hx241_0
   try replace hx241_1 := (HB.out.cell (World.block_lt_of_cell? w _ hx241_1)).trans hx241_1
   try replace hx241_2 := (HB.out.cell (World.block_lt_of_cell? w _ hx241_2)).trans hx241_2
   replace p241 := eq_true p241
   replace q241 := eq_true q241
   go_wp2_with (first | ((with_reducible refine gate_dst (N := 5) rfl ?_); refine bE 5 #[.int .i64 0, .int .i64 0, .int .i64 0] 78 ?_; intro gb242 hg w7 hbox hb; replace HO_3 := kO HO_3 hb; have BK242 := ak (hbox); have GW242 := kG w hg; have GE242 := kG w hg; replace HB := kH _ hb; clear hb hbox hg; have hcz8_0 : w7.cell? ⟨gb242, 0, none⟩ = some (.int .i64 0) := bc BK242 0; have hcz8_1 : w7.cell? ⟨gb242, 1, none⟩ = some (.int .i64 0) := bc BK242 1; have hcz8_2 : w7.cell? ⟨gb242, 2, none⟩ = some (.int .i64 0) := bc BK242 2; have hfz8_0 := fz BK242 0; have hfz8_1 := fz BK242 1; have hfz8_2 := fz BK242 2) | ((with_reducible refine gate_builtin (b := .append) (xs := #[.tmp 15, .tmp 23]) rfl ?_); at_builtin; refine Kd.R_append k77 (w0 := w) w.heap.size rfl (.tmp 15) (.tmp 23) 40 77 (.agg #[(.int .i64 0), (.int .i64 0), (.int .i64 0)]) 24 rfl Try.underlying40 info77 rfl (by decide) (by omega) u3 x3_1 (⟨(rd_T78 l0 x8_1).f0, (rd_T78 l0 x8_1).f1, (rd_T78 l0 x8_1).f2⟩ : S77) [.int .i64 ((rd_T78 l0 x8_1).f0), .int .i64 ((rd_T78 l0 x8_1).f1), .int .i64 ((rd_T78 l0 x8_1).f2)] (fun _ => True) (fun _ => False) rfl (by first | (go_simp; done) | (go_simp; rfl)) ?aP (fun _ hk => hk.elim) ?aF ?aO ?aB ?aS ?aL ?_; (case aP => exact k77_mkM _ _ _ (⟨(rd_T78 l0 x8_1).f0, (rd_T78 l0 x8_1).f1, (rd_T78 l0 x8_1).f2⟩ : S77)); (case aB => exact (hbC _)); (case aF => exact (fun _ _ => trivial)); (case aO => exact (rD (Kd.R_mono (Kd.R_far (p := ⟨gb242, 2, none⟩) (Kd.R_far (p := ⟨gb242, 1, none⟩) (Kd.R_far (p := ⟨gb242, 0, none⟩) (Kd.R_types HO_3.out BK242.out (by decide)) (fun _ hk => hk.2) (.int .i64 ((rd_T78 l0 x8_1).f0))) (fun _ hk => hk.2) (.int .i64 ((rd_T78 l0 x8_1).f1))) (fun _ hk => hk.2) (.int .i64 ((rd_T78 l0 x8_1).f2))) (fun _ hk => trivial)))); (case aS => exact (below_size (hbC _))); (case aL => have := LMc6.out; omega); intro v244 w9 ho hb hg hat; rw [← Ny243.out] at ho; have n0_ := ak (blk_grown (g := gb242) (o := .cells #[.int .i64 ((rd_T78 l0 x8_1).f0), .int .i64 ((rd_T78 l0 x8_1).f1), .int .i64 ((rd_T78 l0 x8_1).f2)] 78 (0, 0)) (by (with_reducible repeat (first | refine blk_drewN ?_ _ | refine blk_drew ?_ | refine blk_alloc ?_ _)); refine blk_put (cs := #[.int .i64 ((rd_T78 l0 x8_1).f0), .int .i64 ((rd_T78 l0 x8_1).f1), .int .i64 0]) ?_ 2 _ rfl; (with_reducible repeat (first | refine blk_drewN ?_ _ | refine blk_drew ?_ | refine blk_alloc ?_ _)); refine blk_put (cs := #[.int .i64 ((rd_T78 l0 x8_1).f0), .int .i64 0, .int .i64 0]) ?_ 1 _ rfl; (with_reducible repeat (first | refine blk_drewN ?_ _ | refine blk_drew ?_ | refine blk_alloc ?_ _)); refine blk_put (cs := #[.int .i64 0, .int .i64 0, .int .i64 0]) ?_ 0 _ rfl; (with_reducible repeat (first | refine blk_drewN ?_ _ | refine blk_drew ?_ | refine blk_alloc ?_ _)); exact BK242.out) hg (Kd.R_ne HO_3.out BK242.out (by decide))); have n1_ := ak (hb); have n2_ := ak (ho); clear BK242; clear HB; clear HO_3; have BK242 := n0_; have HB := n1_; have HO245 := n2_; clear n0_ n1_ n2_; clear ho hb hg hat))
   go_roundg k1
   case measure => have := HK1.out; omega
   case rel => exact ⟨(y243), (wrap64 (x8_1 + 1)), (by first | rfl | (simp; done) | (simp [*]; done)), H', ⟨by have := HK1.out; omega⟩, ⟨rC HO245⟩, ⟨hbC _⟩⟩

end Go.Proofs.Ytefmafbbnkkpjaa.X
