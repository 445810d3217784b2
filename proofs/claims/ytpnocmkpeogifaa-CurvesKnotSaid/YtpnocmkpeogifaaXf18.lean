-- Written by a program of this work (wip/xprint.py, over the kit's printer) out of the translation.
import Derived.Test.YtpnocmkpeogifaaX0
import Derived.Test.YtpnocmkpeogifaaXG1a
import Derived.Test.YtpnocmkpeogifaaXf47
import Derived.Test.YtpnocmkpeogifaaXf49
namespace Go.Proofs.Ytpnocmkpeogifaa.X
open Go.RowKit Go.Proofs.YtpnocmkpeogifaaW.PrintWords Go.Proofs.YtpnocmkpeogifaaW.PrintLast Go.Proofs.YtpnocmkpeogifaaW.PrintMore
attribute [local go_sem] max2_int min2_int max_two min_two max_three min_three max_four min_four   -- for this text's walks alone
set_option linter.unusedVariables false
set_option linter.unusedSimpArgs false

/-! ### curves_Basic: function 18 -/
def curves_Basic.f (k : Nat) (a0_0 : Int) (l0_1 : List Int) (l0_2 : List Int) (a1_0 : Int) (a1_1 : Int) : Option ((List (S26)) × Int) := (curves_Curve_at.f k a0_0 l0_1 l0_2 a1_0 a1_1).bind fun bt301 => (if bt301.2.2 = true then ((curves_Curve_basic.f k a0_0 l0_1 l0_2 a0_0 bt301.1 bt301.2.1).bind fun t305 => ((curves_told.f k t305).bind fun t308 => (some (t308, 0)))) else (some (([] : List (S26)), 2)))
theorem curves_Basic.mono : ∀ a0 a1 a2 a3 a4 k, LeO (curves_Basic.f k a0 a1 a2 a3 a4) (curves_Basic.f (k + 1) a0 a1 a2 a3 a4) := by
 intro a0 a1 a2 a3 a4 k
 unfold curves_Basic.f
 repeat' first
   | (with_reducible exact curves_Curve_at.mono _ _ _ _ _ _)
   | (with_reducible exact curves_Curve_basic.mono _ _ _ _ _ _ _)
   | (with_reducible exact curves_told.mono _ _)
   | (with_reducible exact LeO.refl _)
   | (with_reducible exact LeO.none _)
   | (with_reducible refine LeO.ite ?_ ?_)
   | (with_reducible refine LeO.bind ?_ (fun _ => ?_))
   | exact curves_Curve_at.mono _ _ _ _ _ _
   | exact curves_Curve_basic.mono _ _ _ _ _ _ _
   | exact curves_told.mono _ _
   | exact LeO.none _
   | refine LeO.ite ?_ ?_
   | refine LeO.bind ?_ (fun _ => ?_)
set_option maxHeartbeats 8000000 in
set_option maxRecDepth 100000 in
theorem curves_Basic.calls (k : Nat) (a0_0 : Int) (A0_1 : Option Addr) (c0_1 : Nat) (l0_1 : List Int) (A0_2 : Option Addr) (c0_2 : Nat) (l0_2 : List Int) (a1_0 : Int) (a1_1 : Int) (r1 : List (S26)) (r2 : Int) (w : World) (hr0_1 : Kd.C (Kd.int .i64) w A0_1 l0_1.length l0_1) (hc0_1 : l0_1.length ≤ c0_1) (hr0_2 : Kd.C (Kd.int .i64) w A0_2 l0_2.length l0_2) (hc0_2 : l0_2.length ≤ c0_2) (h : curves_Basic.f k a0_0 l0_1 l0_2 a1_0 a1_1 = some (r1, r2)) :
  Calls Try.prog 18 #[.agg #[.int .i64 a0_0, .slice A0_1 l0_1.length c0_1, .slice A0_2 l0_2.length c0_2], .agg #[.int .i64 a1_0, .int .i64 a1_1]] w fun e w' => ∃ v0_ : Value, e = .returned (.tuple #[v0_, .int .i64 r2]) ∧ Kd.R k26 26 w' w.heap.size (fun _ => True) v0_ r1 ∧ Below w.heap.size w w' := by
 have hu30 := Try.underlying30
 have hu26 := Try.underlying26
 have hu76 := Try.underlying76
 have HR0_1 := Aside0.mk hr0_1
 have HC0_1 := Aside0.mk hc0_1
 clear hr0_1 hc0_1
 have HR0_2 := Aside0.mk hr0_2
 have HC0_2 := Aside0.mk hc0_2
 clear hr0_2 hc0_2
 have HB := ak (Below.refl w.heap.size w)
 have H : ((curves_Curve_at.f k a0_0 l0_1 l0_2 a1_0 a1_1).bind fun bt301 => (if bt301.2.2 = true then ((curves_Curve_basic.f k a0_0 l0_1 l0_2 a0_0 bt301.1 bt301.2.1).bind fun t305 => ((curves_told.f k t305).bind fun t308 => (some (t308, 0)))) else (some (([] : List (S26)), 2)))) = some (r1, r2) := h
 clear h
 replace H := Option.bind_eq_some_iff.mp H
 obtain ⟨⟨t301, t302, t303⟩, A30, H⟩ := H
 replace H : (if t303 = true then ((curves_Curve_basic.f k a0_0 l0_1 l0_2 a0_0 t301 t302).bind fun t305 => ((curves_told.f k t305).bind fun t308 => (some (t308, 0)))) else (some (([] : List (S26)), 2))) = some (r1, r2) := H
 have A3 := Aside0.mk A30
 clear A30
 by_cases c4 : t303 = true
 rotate_left
 ·replace c4 := Bool.eq_false_iff.mpr c4
  subst c4
  have H1 : (some (([] : List (S26)), 2)) = some (r1, r2) := by rw [if_neg (show ¬ (false = true) by decide)] at H; exact H
  clear H
  have H := H1
  clear H1
  simp only [Option.some.injEq, Prod.mk.injEq] at H
  obtain ⟨rfl, rfl⟩ := H
  go_enter Try.func18, Try.ntmps18
  go_wp2_with (first | ((with_reducible refine gate_dst (N := 2) rfl ?_); refine bE 2 #[.int .i64 a0_0, .slice A0_1 l0_1.length c0_1, .slice A0_2 l0_2.length c0_2] 30 ?_; intro gb299 hg w21 hbox hb; have BK299 := ak (hbox); have GW299 := kG w hg; have GE299 := kG w hg; replace HB := kH _ hb; clear hb hbox hg) | ((with_reducible refine gate_dst (N := 3) rfl ?_); refine bE 3 #[.int .i64 a1_0, .int .i64 a1_1] 26 ?_; intro gb300 hg w22 hbox hb; have BK300 := ak (hbox); have GW300 := kG w hg; have GE300 := kG w hg; replace HB := kH _ hb; have NB299_300 := kL BK299 hg; have NB300_299 := kR BK299 hg; replace BK299 := kB BK299 hb; clear hb hbox hg; have hnb23 := NB299_300.out; have hnc23 := NB300_299.out; have hcz24_0 : w22.cell? ⟨gb299, 0, none⟩ = some (.int .i64 a0_0) := bc BK299 0; have hcz24_1 : w22.cell? ⟨gb299, 1, none⟩ = some (.slice A0_1 l0_1.length c0_1) := bc BK299 1; have hcz24_2 : w22.cell? ⟨gb299, 2, none⟩ = some (.slice A0_2 l0_2.length c0_2) := bc BK299 2; have hfz24_0 := fz BK299 0; have hfz24_1 := fz BK299 1; have hfz24_2 := fz BK299 2; have hcz25_0 : w22.cell? ⟨gb300, 0, none⟩ = some (.int .i64 a1_0) := bc BK300 0; have hcz25_1 : w22.cell? ⟨gb300, 1, none⟩ = some (.int .i64 a1_1) := bc BK300 1; have hfz25_0 := fz BK300 0; have hfz25_1 := fz BK300 1) | ((with_reducible refine gate_callee (f := 47) rfl ?_); refine gL 11 Try.func47 #[.agg #[.int .i64 a0_0, .slice A0_1 l0_1.length c0_1, .slice A0_2 l0_2.length c0_2], .agg #[.int .i64 a1_0, .int .i64 a1_1]] ?_; (with_reducible refine (curves_Curve_at.calls k a0_0 _ _ l0_1 _ _ l0_2 a1_0 a1_1 t301 t302 false _ ?side1 ?side2 ?side3 ?side4 A3.out).mono ?_); (case side1 => exact kC HR0_1); (case side2 => exact HC0_1.out); (case side3 => exact kC HR0_2); (case side4 => exact HC0_2.out); rintro e w26 ⟨rfl, hb⟩; refine ⟨_, rfl, ?_⟩; replace BK299 := kB BK299 hb; replace BK300 := kB BK300 hb; replace HB := kH _ hb; (try clear hb); (try clear hb2); (try clear hk); (try clear hi)) | ((with_reducible refine gate_dst (N := 6) rfl ?_); refine bE 6 #[.int .i64 0, .int .i64 0] 76 ?_; intro gb304 hg w27 hbox hb; have BK304 := ak (hbox); have GW304 := kG w hg; have GE304 := kG w hg; replace HB := kH _ hb; have NB299_304 := kL BK299 hg; have NB304_299 := kR BK299 hg; replace BK299 := kB BK299 hb; have NB300_304 := kL BK300 hg; have NB304_300 := kR BK300 hg; replace BK300 := kB BK300 hb; clear hb hbox hg; have hnb28 := NB304_299.out; have hnc28 := NB299_304.out; have hnb29 := NB304_300.out; have hnc29 := NB300_304.out; have hcz30_0 : w27.cell? ⟨gb304, 0, none⟩ = some (.int .i64 0) := bc BK304 0; have hcz30_1 : w27.cell? ⟨gb304, 1, none⟩ = some (.int .i64 0) := bc BK304 1; have hfz30_0 := fz BK304 0; have hfz30_1 := fz BK304 1))
  go_ret2
  exact ⟨_, by first | rfl | (simp [errW_none, errW_some] <;> rfl) | (simp [*, errW_none, errW_some] <;> rfl), by first | exact Kd.R_nil _ _ _ _ _ | exact Kd.N_nil _ _ _ _ _ | exact Kd.V_nil _ _ _ _ _ | exact Kd.Q_nil _ _ _ _ _ | exact Kd.S_nil _ _ _ _ _, hbC _⟩
 subst c4
 have H1 : ((curves_Curve_basic.f k a0_0 l0_1 l0_2 a0_0 t301 t302).bind fun t305 => ((curves_told.f k t305).bind fun t308 => (some (t308, 0)))) = some (r1, r2) := by rw [if_pos rfl] at H; exact H
 clear H
 have H := H1
 clear H1
 replace H := Option.bind_eq_some_iff.mp H
 obtain ⟨t305, A50, H⟩ := H
 replace H : ((curves_told.f k t305).bind fun t308 => (some (t308, 0))) = some (r1, r2) := H
 have A5 := Aside0.mk A50
 clear A50
 replace H := Option.bind_eq_some_iff.mp H
 obtain ⟨t308, A60, H⟩ := H
 replace H : (some (t308, 0)) = some (r1, r2) := H
 have A6 := Aside0.mk A60
 clear A60
 simp only [Option.some.injEq, Prod.mk.injEq] at H
 obtain ⟨rfl, rfl⟩ := H
 go_enter Try.func18, Try.ntmps18
 go_wp2_with (first | ((with_reducible refine gate_dst (N := 2) rfl ?_); refine bE 2 #[.int .i64 a0_0, .slice A0_1 l0_1.length c0_1, .slice A0_2 l0_2.length c0_2] 30 ?_; intro gb299 hg w7 hbox hb; have BK299 := ak (hbox); have GW299 := kG w hg; have GE299 := kG w hg; replace HB := kH _ hb; clear hb hbox hg) | ((with_reducible refine gate_dst (N := 3) rfl ?_); refine bE 3 #[.int .i64 a1_0, .int .i64 a1_1] 26 ?_; intro gb300 hg w8 hbox hb; have BK300 := ak (hbox); have GW300 := kG w hg; have GE300 := kG w hg; replace HB := kH _ hb; have NB299_300 := kL BK299 hg; have NB300_299 := kR BK299 hg; replace BK299 := kB BK299 hb; clear hb hbox hg; have hnb9 := NB299_300.out; have hnc9 := NB300_299.out; have hcz10_0 : w8.cell? ⟨gb299, 0, none⟩ = some (.int .i64 a0_0) := bc BK299 0; have hcz10_1 : w8.cell? ⟨gb299, 1, none⟩ = some (.slice A0_1 l0_1.length c0_1) := bc BK299 1; have hcz10_2 : w8.cell? ⟨gb299, 2, none⟩ = some (.slice A0_2 l0_2.length c0_2) := bc BK299 2; have hfz10_0 := fz BK299 0; have hfz10_1 := fz BK299 1; have hfz10_2 := fz BK299 2; have hcz11_0 : w8.cell? ⟨gb300, 0, none⟩ = some (.int .i64 a1_0) := bc BK300 0; have hcz11_1 : w8.cell? ⟨gb300, 1, none⟩ = some (.int .i64 a1_1) := bc BK300 1; have hfz11_0 := fz BK300 0; have hfz11_1 := fz BK300 1) | ((with_reducible refine gate_callee (f := 47) rfl ?_); refine gL 11 Try.func47 #[.agg #[.int .i64 a0_0, .slice A0_1 l0_1.length c0_1, .slice A0_2 l0_2.length c0_2], .agg #[.int .i64 a1_0, .int .i64 a1_1]] ?_; (with_reducible refine (curves_Curve_at.calls k a0_0 _ _ l0_1 _ _ l0_2 a1_0 a1_1 t301 t302 true _ ?side1 ?side2 ?side3 ?side4 A3.out).mono ?_); (case side1 => exact kC HR0_1); (case side2 => exact HC0_1.out); (case side3 => exact kC HR0_2); (case side4 => exact HC0_2.out); rintro e w12 ⟨rfl, hb⟩; refine ⟨_, rfl, ?_⟩; replace BK299 := kB BK299 hb; replace BK300 := kB BK300 hb; replace HB := kH _ hb; (try clear hb); (try clear hb2); (try clear hk); (try clear hi)) | ((with_reducible refine gate_dst (N := 6) rfl ?_); refine bE 6 #[.int .i64 0, .int .i64 0] 76 ?_; intro gb304 hg w13 hbox hb; have BK304 := ak (hbox); have GW304 := kG w hg; have GE304 := kG w hg; replace HB := kH _ hb; have NB299_304 := kL BK299 hg; have NB304_299 := kR BK299 hg; replace BK299 := kB BK299 hb; have NB300_304 := kL BK300 hg; have NB304_300 := kR BK300 hg; replace BK300 := kB BK300 hb; clear hb hbox hg; have hnb14 := NB304_299.out; have hnc14 := NB299_304.out; have hnb15 := NB304_300.out; have hnc15 := NB300_304.out; have hcz16_0 : w13.cell? ⟨gb304, 0, none⟩ = some (.int .i64 0) := bc BK304 0; have hcz16_1 : w13.cell? ⟨gb304, 1, none⟩ = some (.int .i64 0) := bc BK304 1; have hfz16_0 := fz BK304 0; have hfz16_1 := fz BK304 1; have hcz17_0 : w13.cell? ⟨gb299, 0, none⟩ = some (.int .i64 a0_0) := bc BK299 0; have hcz17_1 : w13.cell? ⟨gb299, 1, none⟩ = some (.slice A0_1 l0_1.length c0_1) := bc BK299 1; have hcz17_2 : w13.cell? ⟨gb299, 2, none⟩ = some (.slice A0_2 l0_2.length c0_2) := bc BK299 2; have hfz17_0 := fz BK299 0; have hfz17_1 := fz BK299 1; have hfz17_2 := fz BK299 2) | ((with_reducible refine gate_callee (f := 49) rfl ?_); refine gL 20 Try.func49 #[.agg #[.int .i64 a0_0, .slice A0_1 l0_1.length c0_1, .slice A0_2 l0_2.length c0_2], .int .i64 a0_0, .agg #[.int .i64 t301, .int .i64 t302]] ?_; (with_reducible refine (curves_Curve_basic.calls k a0_0 _ _ l0_1 _ _ l0_2 a0_0 t301 t302 t305 _ ?side1 ?side2 ?side3 ?side4 A5.out).mono ?_); (case side1 => exact Kd.C_below HR0_1.out (hbC _)); (case side2 => exact HC0_1.out); (case side3 => exact Kd.C_below HR0_2.out (hbC _)); (case side4 => exact HC0_2.out); rintro e w18 ⟨v306, rfl, ho0, hb⟩; refine ⟨_, rfl, ?_⟩; have HO307 := ak (Kd.R_lower (Kd.R_newB ho0 (g := gb304) (o := .cells #[.int .i64 t301, .int .i64 t302] 76 (0, 0)) (by (with_reducible repeat (first | refine blk_drewN ?_ _ | refine blk_drew ?_ | refine blk_alloc ?_ _)); refine blk_put (cs := #[.int .i64 t301, .int .i64 0]) ?_ 1 _ rfl; (with_reducible repeat (first | refine blk_drewN ?_ _ | refine blk_drew ?_ | refine blk_alloc ?_ _)); refine blk_put (cs := #[.int .i64 0, .int .i64 0]) ?_ 0 _ rfl; (with_reducible repeat (first | refine blk_drewN ?_ _ | refine blk_drew ?_ | refine blk_alloc ?_ _)); exact BK304.out)) (below_size (hbC _))); replace BK299 := ak (blk_below (g := gb299) (o := .cells #[.int .i64 a0_0, .slice A0_1 l0_1.length c0_1, .slice A0_2 l0_2.length c0_2] 30 (0, 0)) (bF BK299) hb); replace BK300 := ak (blk_below (g := gb300) (o := .cells #[.int .i64 a1_0, .int .i64 a1_1] 26 (0, 0)) (bF BK300) hb); replace BK304 := ak (blk_below (g := gb304) (o := .cells #[.int .i64 t301, .int .i64 t302] 76 (0, 0)) (by (with_reducible repeat (first | refine blk_drewN ?_ _ | refine blk_drew ?_ | refine blk_alloc ?_ _)); refine blk_put (cs := #[.int .i64 t301, .int .i64 0]) ?_ 1 _ rfl; (with_reducible repeat (first | refine blk_drewN ?_ _ | refine blk_drew ?_ | refine blk_alloc ?_ _)); refine blk_put (cs := #[.int .i64 0, .int .i64 0]) ?_ 0 _ rfl; (with_reducible repeat (first | refine blk_drewN ?_ _ | refine blk_drew ?_ | refine blk_alloc ?_ _)); exact BK304.out) hb); replace HB := kH _ hb; (try clear hb); (try clear hb2); (try clear hk); (try clear hi); (try clear ho0); obtain ⟨Ao19, co19, eo19⟩ := Kd.R_slice HO307.out; subst eo19) | ((with_reducible refine gate_callee (f := 52) rfl ?_); refine gL 21 Try.func52 #[.slice Ao19 t305.length co19] ?_; (with_reducible refine (curves_told.calls k _ _ t305 t308 _ ?side1 ?side2 A6.out).mono ?_); (case side1 => exact kD (Kd.R_reads' HO307.out).2.2); (case side2 => exact (Kd.R_reads' HO307.out).2.1); rintro e w20 ⟨v309, rfl, ho0, hb⟩; refine ⟨_, rfl, ?_⟩; replace HO307 := kO HO307 hb; have HO310 := ak (Kd.R_lower (Kd.R_newB ho0 (g := gb300) (o := .cells #[.int .i64 a1_0, .int .i64 a1_1] 26 (0, 0)) (bkC BK300)) (below_size (hbC _))); replace BK299 := kB BK299 hb; replace BK300 := kB BK300 hb; replace BK304 := kB BK304 hb; replace HB := kH _ hb; (try clear hb); (try clear hb2); (try clear hk); (try clear hi); (try clear ho0)))
 go_ret2
 exact ⟨_, by first | rfl | (simp [errW_none, errW_some] <;> rfl) | (simp [*, errW_none, errW_some] <;> rfl), rD (Kd.R_mono HO310.out (fun _ hk => trivial)), hbC _⟩

end Go.Proofs.Ytpnocmkpeogifaa.X
