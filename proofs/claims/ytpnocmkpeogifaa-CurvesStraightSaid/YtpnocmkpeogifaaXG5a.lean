-- Written by a program of this work (wip/xprint.py, over the kit's printer) out of the translation.
import Derived.Test.YtpnocmkpeogifaaX0
import Derived.Test.YtpnocmkpeogifaaXf55
namespace Go.Proofs.Ytpnocmkpeogifaa.X
open Go.RowKit Go.Proofs.YtpnocmkpeogifaaW.PrintWords Go.Proofs.YtpnocmkpeogifaaW.PrintLast Go.Proofs.YtpnocmkpeogifaaW.PrintMore
attribute [local go_sem] max2_int min2_int max_two min_two max_three min_three max_four min_four   -- for this text's walks alone
set_option linter.unusedVariables false
set_option linter.unusedSimpArgs false

/-! ### congouref04_Basic: function 24 -/
def congouref04_Basic.l0 : Nat → List (S26) → Int → Int → Int → List Int → List Int → Int → Int → Option ((List (S26)))
 | 0, _, _, _, _, _, _, _, _ => none
 | k + 1, x5, x9, x10, x475000, x475001, x475002, x476000, x476001 => if x10 < x9 then ((congouref04_basic.f k x475000 x475001 x475002 x10 x475000 x476000 x476001).bind fun bt476 => (if x5.length < 8796093022208 then (congouref04_Basic.l0 k (x5 ++ [(⟨bt476.1, bt476.2⟩ : S26)]) x9 (wrap64 (x10 + 1)) x475000 x475001 x475002 x476000 x476001) else (none))) else (some x5)
def congouref04_Basic.f (k : Nat) (a0_0 : Int) (l0_1 : List Int) (l0_2 : List Int) (a1_0 : Int) (a1_1 : Int) : Option ((List (S26))) := congouref04_Basic.l0 k ([] : List (S26)) (l0_2.length : Int) 0 a0_0 l0_1 l0_2 a1_0 a1_1
theorem congouref04_Basic.mono_l : ∀ k, (∀ y0 y1 y2 y3 y4 y5 y6 y7, LeO (congouref04_Basic.l0 k y0 y1 y2 y3 y4 y5 y6 y7) (congouref04_Basic.l0 (k + 1) y0 y1 y2 y3 y4 y5 y6 y7))
 | 0 => fun _ _ _ _ _ _ _ _ r h => by simp [congouref04_Basic.l0] at h
 | k + 1 => by
  have ih0 := congouref04_Basic.mono_l k
  ·intro y0 y1 y2 y3 y4 y5 y6 y7
   unfold congouref04_Basic.l0
   repeat' first
   | (with_reducible exact ih0 _ _ _ _ _ _ _ _)
   | (with_reducible exact congouref04_basic.mono _ _ _ _ _ _ _ _)
   | (with_reducible exact LeO.refl _)
   | (with_reducible exact LeO.none _)
   | (with_reducible refine LeO.ite ?_ ?_)
   | (with_reducible refine LeO.bind ?_ (fun _ => ?_))
   | exact ih0 _ _ _ _ _ _ _ _
   | exact congouref04_basic.mono _ _ _ _ _ _ _ _
   | exact LeO.none _
   | refine LeO.ite ?_ ?_
   | refine LeO.bind ?_ (fun _ => ?_)
theorem congouref04_Basic.mono : ∀ a0 a1 a2 a3 a4 k, LeO (congouref04_Basic.f k a0 a1 a2 a3 a4) (congouref04_Basic.f (k + 1) a0 a1 a2 a3 a4) := by
 intro a0 a1 a2 a3 a4 k
 have ih0 := congouref04_Basic.mono_l k
 unfold congouref04_Basic.f
 repeat' first
   | (with_reducible exact ih0 _ _ _ _ _ _ _ _)
   | (with_reducible exact congouref04_basic.mono _ _ _ _ _ _ _ _)
   | (with_reducible exact LeO.refl _)
   | (with_reducible exact LeO.none _)
   | (with_reducible refine LeO.ite ?_ ?_)
   | (with_reducible refine LeO.bind ?_ (fun _ => ?_))
   | exact ih0 _ _ _ _ _ _ _ _
   | exact congouref04_basic.mono _ _ _ _ _ _ _ _
   | exact LeO.none _
   | refine LeO.ite ?_ ?_
   | refine LeO.bind ?_ (fun _ => ?_)
set_option maxHeartbeats 8000000 in
set_option maxRecDepth 100000 in
theorem congouref04_Basic.calls (k : Nat) (a0_0 : Int) (A0_1 : Option Addr) (c0_1 : Nat) (l0_1 : List Int) (A0_2 : Option Addr) (c0_2 : Nat) (l0_2 : List Int) (a1_0 : Int) (a1_1 : Int) (r : List (S26)) (w : World) (hr0_1 : Kd.C (Kd.int .i64) w A0_1 l0_1.length l0_1) (hc0_1 : l0_1.length ≤ c0_1) (hr0_2 : Kd.C (Kd.int .i64) w A0_2 l0_2.length l0_2) (hc0_2 : l0_2.length ≤ c0_2) (h : congouref04_Basic.f k a0_0 l0_1 l0_2 a1_0 a1_1 = some r) :
  Calls Try.prog 24 #[.agg #[.int .i64 a0_0, .slice A0_1 l0_1.length c0_1, .slice A0_2 l0_2.length c0_2], .agg #[.int .i64 a1_0, .int .i64 a1_1]] w fun e w' => ∃ v0_ : Value, e = .returned (v0_) ∧ Kd.R k26 26 w' w.heap.size (fun _ => True) v0_ r ∧ Below w.heap.size w w' := by
 have hu24 := Try.underlying24
 have hu26 := Try.underlying26
 have HR0_1 := Aside0.mk hr0_1
 have HC0_1 := Aside0.mk hc0_1
 clear hr0_1 hc0_1
 have HR0_2 := Aside0.mk hr0_2
 have HC0_2 := Aside0.mk hc0_2
 clear hr0_2 hc0_2
 have HB := Aside0.mk (Below.refl w.heap.size w)
 have H : (congouref04_Basic.l0 k ([] : List (S26)) (l0_2.length : Int) 0 a0_0 l0_1 l0_2 a1_0 a1_1) = some r := h
 clear h
 have H' := Aside0.mk H
 clear H
 go_enter Try.func24, Try.ntmps24
 go_wp2_with (first | ((with_reducible refine gate_dst (N := 2) rfl ?_); refine bE 2 #[.int .i64 a0_0, .slice A0_1 l0_1.length c0_1, .slice A0_2 l0_2.length c0_2] 24 ?_; intro gb474 hg w3 hbox hb; have BK474 := Aside0.mk (hbox); have GW474 := kG w hg; have GE474 := kG w hg; replace HB := kH _ hb; clear hb hbox hg) | ((with_reducible refine gate_dst (N := 3) rfl ?_); refine bE 3 #[.int .i64 a1_0, .int .i64 a1_1] 26 ?_; intro gb475 hg w4 hbox hb; have BK475 := Aside0.mk (hbox); have GW475 := kG w hg; have GE475 := kG w hg; replace HB := kH _ hb; have NB474_475 := kL BK474 hg; have NB475_474 := kR BK474 hg; replace BK474 := kB BK474 hb; clear hb hbox hg; have hnb5 := NB474_475.out; have hnc5 := NB475_474.out; have hcz6_0 : w4.cell? ⟨gb474, 0, none⟩ = some (.int .i64 a0_0) := bc BK474 0; have hcz6_1 : w4.cell? ⟨gb474, 1, none⟩ = some (.slice A0_1 l0_1.length c0_1) := bc BK474 1; have hcz6_2 : w4.cell? ⟨gb474, 2, none⟩ = some (.slice A0_2 l0_2.length c0_2) := bc BK474 2; have hfz6_0 := fz BK474 0; have hfz6_1 := fz BK474 1; have hfz6_2 := fz BK474 2))
 go_loopg [5, 10] k (fun kq v5 v10 w' => ∃ (x5_1 : List (S26)) (x10_1 : Int), v10 = .int .i64 x10_1 ∧ Aside0 (congouref04_Basic.l0 kq x5_1 (l0_2.length : Int) x10_1 a0_0 l0_1 l0_2 a1_0 a1_1 = some r) ∧ Aside0 (kq ≤ k) ∧ Aside0 (Kd.R k26 26 w' w.heap.size (fun k_ => k_ ≠ gb475) v5 x5_1) ∧ Aside0 (w'.heap[gb474]? = some (.cells #[.int .i64 a0_0, (.slice A0_1 l0_1.length c0_1), (.slice A0_2 l0_2.length c0_2)] 24 (0, 0))) ∧ Aside0 (w'.heap[gb475]? = some (.cells #[.int .i64 a1_0, .int .i64 a1_1] 26 (0, 0))) ∧ Aside0 (Below w.heap.size w w'))
 case atStart => exact ⟨(([] : List (S26))), (0), (by first | rfl | (simp; done) | (simp [*]; done)), H', ⟨Nat.le_refl _⟩, ⟨by first | exact Kd.R_nil _ _ _ _ _ | exact Kd.N_nil _ _ _ _ _ | exact Kd.V_nil _ _ _ _ _ | exact Kd.Q_nil _ _ _ _ _ | exact Kd.S_nil _ _ _ _ _⟩, ⟨bkC BK474⟩, ⟨bkC BK475⟩, ⟨hbC _⟩⟩
 case round =>
  clear H'
  try clear c2
  try clear p2
  try clear c5
  try clear hcz6_0
  try clear hcz6_1
  try clear hcz6_2
  try clear hfz6_0
  try clear hfz6_1
  try clear hfz6_2
  obtain ⟨x5_1, x10_1, rfl, HA, HK1, HO_5, BK474, BK475, HB⟩ := hrel
  cases gk with
  | zero => exact absurd HA.out (by simp [congouref04_Basic.l0])
  | succ k1 =>
   have H := HA.out
   clear HA
   simp only [congouref04_Basic.l0] at H
   by_cases c7 : x10_1 < (l0_2.length : Int)
   rotate_left
   ·rw [if_neg c7] at H
    have c7b0 : decide (x10_1 < (l0_2.length : Int)) = false := decide_eq_false c7
    clear c7
    obtain rfl := Option.some.inj H
    go_wp2
    go_ret
    exact ⟨_, by first | rfl | (simp [errW_none, errW_some] <;> rfl) | (simp [*, errW_none, errW_some] <;> rfl), by (with_reducible repeat (first | apply Kd.R_alloc | apply Kd.R_drewN | apply Kd.R_drew)); exact Kd.R_mono HO_5.out (fun _ hk => trivial), hbC _⟩
   rw [if_pos c7] at H
   have c7b0 : decide (x10_1 < (l0_2.length : Int)) = true := decide_eq_true c7
   clear c7
   replace H := Option.bind_eq_some_iff.mp H
   obtain ⟨⟨t476, t477⟩, A80, H⟩ := H
   replace H : (if x5_1.length < 8796093022208 then (congouref04_Basic.l0 k1 (x5_1 ++ [(⟨t476, t477⟩ : S26)]) (l0_2.length : Int) (wrap64 (x10_1 + 1)) a0_0 l0_1 l0_2 a1_0 a1_1) else (none)) = some r := H
   have A8 := Aside0.mk A80
   clear A80
   by_cases c9 : x5_1.length < 8796093022208
   rotate_left
   ·rw [if_neg c9] at H
    exact absurd H (by simp)
   rw [if_pos c9] at H
   have LMc9 := Aside0.mk c9
   clear c9
   obtain ⟨y478, hy478⟩ : ∃ y_ : List (S26), y_ = (x5_1 ++ [(⟨t476, t477⟩ : S26)]) := ⟨_, rfl⟩
   replace H : (congouref04_Basic.l0 k1 y478 (l0_2.length : Int) (wrap64 (x10_1 + 1)) a0_0 l0_1 l0_2 a1_0 a1_1) = some r := by first | (rw [hy478]; with_reducible exact H) | (have H2_ := (Option.bind_some _ _).symm.trans H; rw [hy478]; with_reducible exact H2_) | (have H2_ := (Option.bind_some _ _).symm.trans H; with_reducible exact H2_) | with_reducible exact H | (rw [hy478]; exact H) | exact H
   have Ny478 := Aside0.mk hy478
   clear hy478
   have H' := Aside0.mk H
   clear H
   have hnb10 := NB474_475.out
   have hnc10 := NB475_474.out
   have hcz11_0 : wr.cell? ⟨gb474, 0, none⟩ = some (.int .i64 a0_0) := bc BK474 0
   have hcz11_1 : wr.cell? ⟨gb474, 1, none⟩ = some (.slice A0_1 l0_1.length c0_1) := bc BK474 1
   have hcz11_2 : wr.cell? ⟨gb474, 2, none⟩ = some (.slice A0_2 l0_2.length c0_2) := bc BK474 2
   have hfz11_0 := fz BK474 0
   have hfz11_1 := fz BK474 1
   have hfz11_2 := fz BK474 2
   have hcz12_0 : wr.cell? ⟨gb475, 0, none⟩ = some (.int .i64 a1_0) := bc BK475 0
   have hcz12_1 : wr.cell? ⟨gb475, 1, none⟩ = some (.int .i64 a1_1) := bc BK475 1
   have hfz12_0 := fz BK475 0
   have hfz12_1 := fz BK475 1
   go_wp2_with (first | ((with_reducible refine gate_callee (f := 55) rfl ?_); refine gL 19 Try.func55 #[.agg #[.int .i64 a0_0, .slice A0_1 l0_1.length c0_1, .slice A0_2 l0_2.length c0_2], .int .i64 x10_1, .int .i64 a0_0, .agg #[.int .i64 a1_0, .int .i64 a1_1]] ?_; (with_reducible refine (congouref04_basic.calls k1 a0_0 _ _ l0_1 _ _ l0_2 x10_1 a0_0 a1_0 a1_1 t476 t477 _ ?side1 ?side2 ?side3 ?side4 A8.out).mono ?_); (case side1 => exact kC HR0_1); (case side2 => exact HC0_1.out); (case side3 => exact kC HR0_2); (case side4 => exact HC0_2.out); rintro e w13 ⟨rfl, hb⟩; refine ⟨_, rfl, ?_⟩; replace HO_5 := kO HO_5 hb; replace BK474 := kB BK474 hb; replace BK475 := kB BK475 hb; replace HB := kH _ hb; (try clear hb); (try clear hb2); (try clear hk); (try clear hi)) | ((with_reducible refine gate_builtin (b := .append) (xs := #[.tmp 13, .tmp 20]) rfl ?_); at_builtin; refine Kd.R_append k26 (w0 := w) w.heap.size rfl (.tmp 13) (.tmp 20) 34 26 (.agg #[(.int .i64 0), (.int .i64 0)]) 16 rfl Try.underlying34 info26 rfl (by decide) (by omega) u5 x5_1 (⟨t476, t477⟩ : S26) [.int .i64 t476, .int .i64 t477] (fun k_ => k_ ≠ gb475) (fun _ => False) rfl rfl ?aP (fun _ hk => hk.elim) ?aF ?aO ?aB ?aS ?aL ?_; (case aP => exact k26_mkM _ _ _ (⟨t476, t477⟩ : S26)); (case aB => exact (hbC _)); (case aF => exact (fun k_ hk => Kd.freshB (g := gb475) (o := .cells #[.int .i64 a1_0, .int .i64 a1_1] 26 (0, 0)) (bkC BK475) k_ hk)); (case aO => exact (rC HO_5)); (case aS => exact (below_size (hbC _))); (case aL => have := LMc9.out; omega); intro v479 w14 ho hb hg hat; rw [← Ny478.out] at ho; have n0_ := Aside0.mk (blk_grown (g := gb474) (o := .cells #[.int .i64 a0_0, .slice A0_1 l0_1.length c0_1, .slice A0_2 l0_2.length c0_2] 24 (0, 0)) (bkC BK474) hg (Kd.R_ne HO_5.out BK474.out (by decide))); have n1_ := Aside0.mk (blk_grown (g := gb475) (o := .cells #[.int .i64 a1_0, .int .i64 a1_1] 26 (0, 0)) (bkC BK475) hg (Kd.R_away HO_5.out (fun _ hk => hk))); have n2_ := Aside0.mk (hb); have n3_ := Aside0.mk (ho); clear BK474; clear BK475; clear HB; clear HO_5; have BK474 := n0_; have BK475 := n1_; have HB := n2_; have HO480 := n3_; clear n0_ n1_ n2_ n3_; clear ho hb hg hat))
   go_roundg k1
   case measure => have := HK1.out; omega
   case rel => exact ⟨(y478), (wrap64 (x10_1 + 1)), (by first | rfl | (simp; done) | (simp [*]; done)), H', ⟨by have := HK1.out; omega⟩, ⟨rC HO480⟩, ⟨bkC BK474⟩, ⟨bkC BK475⟩, ⟨hbC _⟩⟩

end Go.Proofs.Ytpnocmkpeogifaa.X
