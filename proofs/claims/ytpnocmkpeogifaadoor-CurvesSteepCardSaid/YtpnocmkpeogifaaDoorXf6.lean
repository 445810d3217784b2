-- Written by a program of this work (wip/xprint.py, over the kit's printer) out of the translation.
import Derived.Test.YtpnocmkpeogifaaDoorX0
import Derived.Test.YtpnocmkpeogifaaDoorXG1a
import Derived.Test.YtpnocmkpeogifaaDoorXf17
import Derived.Test.YtpnocmkpeogifaaDoorXf19
namespace Go.Proofs.YtpnocmkpeogifaaDoor.X
open Go.RowKit Go.Proofs.YtpnocmkpeogifaaDoorW.PrintWords Go.Proofs.YtpnocmkpeogifaaDoorW.PrintLast Go.Proofs.YtpnocmkpeogifaaDoorW.PrintMore
attribute [local go_sem] max2_int min2_int max_two min_two max_three min_three max_four min_four   -- for this text's walks alone
set_option linter.unusedVariables false
set_option linter.unusedSimpArgs false

/-! ### curves_Basic: function 6 -/
def curves_Basic.f (k : Nat) (a0_0 : Int) (l0_1 : List Int) (l0_2 : List Int) (a1_0 : Int) (a1_1 : Int) : Option ((List (S26)) × Int) := (curves_Curve_at.f k a0_0 l0_1 l0_2 a1_0 a1_1).bind fun bt249 => (if bt249.2.2 = true then ((curves_Curve_basic.f k a0_0 l0_1 l0_2 a0_0 bt249.1 bt249.2.1).bind fun t253 => ((curves_told.f k t253).bind fun t256 => (some (t256, 0)))) else (some (([] : List (S26)), 2)))
theorem curves_Basic.mono : ∀ a0 a1 a2 a3 a4 k, LeO (curves_Basic.f k a0 a1 a2 a3 a4) (curves_Basic.f (k + 1) a0 a1 a2 a3 a4) := by
 intro a0 a1 a2 a3 a4 k
 unfold curves_Basic.f
 repeat' first
   | (with_reducible exact curves_Curve_at.mono _ _ _ _ _ _)
   | (with_reducible exact curves_Curve_basic.mono _ _ _ _ _ _ _)
   | (with_reducible exact curves_told.mono _ _)
   | (with_reducible exact LeO.refl _)
   | (with_reducible exact LeO.none _)
   | (with_reducible refine LeO.ite ?_ ?_)
   | (with_reducible refine LeO.bind ?_ (fun _ => ?_))
   | exact curves_Curve_at.mono _ _ _ _ _ _
   | exact curves_Curve_basic.mono _ _ _ _ _ _ _
   | exact curves_told.mono _ _
   | exact LeO.none _
   | refine LeO.ite ?_ ?_
   | refine LeO.bind ?_ (fun _ => ?_)
set_option maxHeartbeats 8000000 in
set_option maxRecDepth 100000 in
theorem curves_Basic.calls (k : Nat) (a0_0 : Int) (A0_1 : Option Addr) (c0_1 : Nat) (l0_1 : List Int) (A0_2 : Option Addr) (c0_2 : Nat) (l0_2 : List Int) (a1_0 : Int) (a1_1 : Int) (r1 : List (S26)) (r2 : Int) (w : World) (hr0_1 : Kd.C (Kd.int .i64) w A0_1 l0_1.length l0_1) (hc0_1 : l0_1.length ≤ c0_1) (hr0_2 : Kd.C (Kd.int .i64) w A0_2 l0_2.length l0_2) (hc0_2 : l0_2.length ≤ c0_2) (h : curves_Basic.f k a0_0 l0_1 l0_2 a1_0 a1_1 = some (r1, r2)) :
  Calls Tryd.prog 6 #[.agg #[.int .i64 a0_0, .slice A0_1 l0_1.length c0_1, .slice A0_2 l0_2.length c0_2], .agg #[.int .i64 a1_0, .int .i64 a1_1]] w fun e w' => ∃ v0_ : Value, e = .returned (.tuple #[v0_, .int .i64 r2]) ∧ Kd.R k26 26 w' w.heap.size (fun _ => True) v0_ r1 ∧ Below w.heap.size w w' := by
 have hu31 := Tryd.underlying31
 have hu26 := Tryd.underlying26
 have hu49 := Tryd.underlying49
 have HR0_1 := Aside0.mk hr0_1
 have HC0_1 := Aside0.mk hc0_1
 clear hr0_1 hc0_1
 have HR0_2 := Aside0.mk hr0_2
 have HC0_2 := Aside0.mk hc0_2
 clear hr0_2 hc0_2
 have HB := ak (Below.refl w.heap.size w)
 have H : ((curves_Curve_at.f k a0_0 l0_1 l0_2 a1_0 a1_1).bind fun bt249 => (if bt249.2.2 = true then ((curves_Curve_basic.f k a0_0 l0_1 l0_2 a0_0 bt249.1 bt249.2.1).bind fun t253 => ((curves_told.f k t253).bind fun t256 => (some (t256, 0)))) else (some (([] : List (S26)), 2)))) = some (r1, r2) := h
 clear h
 replace H := Option.bind_eq_some_iff.mp H
 obtain ⟨⟨t249, t250, t251⟩, A30, H⟩ := H
 replace H : (if t251 = true then ((curves_Curve_basic.f k a0_0 l0_1 l0_2 a0_0 t249 t250).bind fun t253 => ((curves_told.f k t253).bind fun t256 => (some (t256, 0)))) else (some (([] : List (S26)), 2))) = some (r1, r2) := H
 have A3 := Aside0.mk A30
 clear A30
 by_cases c4 : t251 = true
 rotate_left
 ·replace c4 := Bool.eq_false_iff.mpr c4
  subst c4
  have H1 : (some (([] : List (S26)), 2)) = some (r1, r2) := by rw [if_neg (show ¬ (false = true) by decide)] at H; exact H
  clear H
  have H := H1
  clear H1
  simp only [Option.some.injEq, Prod.mk.injEq] at H
  obtain ⟨rfl, rfl⟩ := H
  go_enter Tryd.func6, Tryd.ntmps6
  go_wp2_with (first | ((with_reducible refine gate_dst (N := 2) rfl ?_); refine bE 2 #[.int .i64 a0_0, .slice A0_1 l0_1.length c0_1, .slice A0_2 l0_2.length c0_2] 31 ?_; intro gb247 hg w21 hbox hb; have BK247 := ak (hbox); have GW247 := kG w hg; have GE247 := kG w hg; replace HB := kH _ hb; clear hb hbox hg) | ((with_reducible refine gate_dst (N := 3) rfl ?_); refine bE 3 #[.int .i64 a1_0, .int .i64 a1_1] 26 ?_; intro gb248 hg w22 hbox hb; have BK248 := ak (hbox); have GW248 := kG w hg; have GE248 := kG w hg; replace HB := kH _ hb; have NB247_248 := kL BK247 hg; have NB248_247 := kR BK247 hg; replace BK247 := kB BK247 hb; clear hb hbox hg; have hnb23 := NB247_248.out; have hnc23 := NB248_247.out; have hcz24_0 : w22.cell? ⟨gb247, 0, none⟩ = some (.int .i64 a0_0) := bc BK247 0; have hcz24_1 : w22.cell? ⟨gb247, 1, none⟩ = some (.slice A0_1 l0_1.length c0_1) := bc BK247 1; have hcz24_2 : w22.cell? ⟨gb247, 2, none⟩ = some (.slice A0_2 l0_2.length c0_2) := bc BK247 2; have hfz24_0 := fz BK247 0; have hfz24_1 := fz BK247 1; have hfz24_2 := fz BK247 2; have hcz25_0 : w22.cell? ⟨gb248, 0, none⟩ = some (.int .i64 a1_0) := bc BK248 0; have hcz25_1 : w22.cell? ⟨gb248, 1, none⟩ = some (.int .i64 a1_1) := bc BK248 1; have hfz25_0 := fz BK248 0; have hfz25_1 := fz BK248 1) | ((with_reducible refine gate_callee (f := 17) rfl ?_); refine gL 11 Tryd.func17 #[.agg #[.int .i64 a0_0, .slice A0_1 l0_1.length c0_1, .slice A0_2 l0_2.length c0_2], .agg #[.int .i64 a1_0, .int .i64 a1_1]] ?_; (with_reducible refine (curves_Curve_at.calls k a0_0 _ _ l0_1 _ _ l0_2 a1_0 a1_1 t249 t250 false _ ?side1 ?side2 ?side3 ?side4 A3.out).mono ?_); (case side1 => exact kC HR0_1); (case side2 => exact HC0_1.out); (case side3 => exact kC HR0_2); (case side4 => exact HC0_2.out); rintro e w26 ⟨rfl, hb⟩; refine ⟨_, rfl, ?_⟩; replace BK247 := kB BK247 hb; replace BK248 := kB BK248 hb; replace HB := kH _ hb; (try clear hb); (try clear hb2); (try clear hk); (try clear hi)) | ((with_reducible refine gate_dst (N := 6) rfl ?_); refine bE 6 #[.int .i64 0, .int .i64 0] 49 ?_; intro gb252 hg w27 hbox hb; have BK252 := ak (hbox); have GW252 := kG w hg; have GE252 := kG w hg; replace HB := kH _ hb; have NB247_252 := kL BK247 hg; have NB252_247 := kR BK247 hg; replace BK247 := kB BK247 hb; have NB248_252 := kL BK248 hg; have NB252_248 := kR BK248 hg; replace BK248 := kB BK248 hb; clear hb hbox hg; have hnb28 := NB252_247.out; have hnc28 := NB247_252.out; have hnb29 := NB252_248.out; have hnc29 := NB248_252.out; have hcz30_0 : w27.cell? ⟨gb252, 0, none⟩ = some (.int .i64 0) := bc BK252 0; have hcz30_1 : w27.cell? ⟨gb252, 1, none⟩ = some (.int .i64 0) := bc BK252 1; have hfz30_0 := fz BK252 0; have hfz30_1 := fz BK252 1))
  go_ret2
  exact ⟨_, by first | rfl | (simp [errW_none, errW_some] <;> rfl) | (simp [*, errW_none, errW_some] <;> rfl), by first | exact Kd.R_nil _ _ _ _ _ | exact Kd.N_nil _ _ _ _ _ | exact Kd.V_nil _ _ _ _ _ | exact Kd.Q_nil _ _ _ _ _ | exact Kd.S_nil _ _ _ _ _, hbC _⟩
 subst c4
 have H1 : ((curves_Curve_basic.f k a0_0 l0_1 l0_2 a0_0 t249 t250).bind fun t253 => ((curves_told.f k t253).bind fun t256 => (some (t256, 0)))) = some (r1, r2) := by rw [if_pos rfl] at H; exact H
 clear H
 have H := H1
 clear H1
 replace H := Option.bind_eq_some_iff.mp H
 obtain ⟨t253, A50, H⟩ := H
 replace H : ((curves_told.f k t253).bind fun t256 => (some (t256, 0))) = some (r1, r2) := H
 have A5 := Aside0.mk A50
 clear A50
 replace H := Option.bind_eq_some_iff.mp H
 obtain ⟨t256, A60, H⟩ := H
 replace H : (some (t256, 0)) = some (r1, r2) := H
 have A6 := Aside0.mk A60
 clear A60
 simp only [Option.some.injEq, Prod.mk.injEq] at H
 obtain ⟨rfl, rfl⟩ := H
 go_enter Tryd.func6, Tryd.ntmps6
 go_wp2_with (first | ((with_reducible refine gate_dst (N := 2) rfl ?_); refine bE 2 #[.int .i64 a0_0, .slice A0_1 l0_1.length c0_1, .slice A0_2 l0_2.length c0_2] 31 ?_; intro gb247 hg w7 hbox hb; have BK247 := ak (hbox); have GW247 := kG w hg; have GE247 := kG w hg; replace HB := kH _ hb; clear hb hbox hg) | ((with_reducible refine gate_dst (N := 3) rfl ?_); refine bE 3 #[.int .i64 a1_0, .int .i64 a1_1] 26 ?_; intro gb248 hg w8 hbox hb; have BK248 := ak (hbox); have GW248 := kG w hg; have GE248 := kG w hg; replace HB := kH _ hb; have NB247_248 := kL BK247 hg; have NB248_247 := kR BK247 hg; replace BK247 := kB BK247 hb; clear hb hbox hg; have hnb9 := NB247_248.out; have hnc9 := NB248_247.out; have hcz10_0 : w8.cell? ⟨gb247, 0, none⟩ = some (.int .i64 a0_0) := bc BK247 0; have hcz10_1 : w8.cell? ⟨gb247, 1, none⟩ = some (.slice A0_1 l0_1.length c0_1) := bc BK247 1; have hcz10_2 : w8.cell? ⟨gb247, 2, none⟩ = some (.slice A0_2 l0_2.length c0_2) := bc BK247 2; have hfz10_0 := fz BK247 0; have hfz10_1 := fz BK247 1; have hfz10_2 := fz BK247 2; have hcz11_0 : w8.cell? ⟨gb248, 0, none⟩ = some (.int .i64 a1_0) := bc BK248 0; have hcz11_1 : w8.cell? ⟨gb248, 1, none⟩ = some (.int .i64 a1_1) := bc BK248 1; have hfz11_0 := fz BK248 0; have hfz11_1 := fz BK248 1) | ((with_reducible refine gate_callee (f := 17) rfl ?_); refine gL 11 Tryd.func17 #[.agg #[.int .i64 a0_0, .slice A0_1 l0_1.length c0_1, .slice A0_2 l0_2.length c0_2], .agg #[.int .i64 a1_0, .int .i64 a1_1]] ?_; (with_reducible refine (curves_Curve_at.calls k a0_0 _ _ l0_1 _ _ l0_2 a1_0 a1_1 t249 t250 true _ ?side1 ?side2 ?side3 ?side4 A3.out).mono ?_); (case side1 => exact kC HR0_1); (case side2 => exact HC0_1.out); (case side3 => exact kC HR0_2); (case side4 => exact HC0_2.out); rintro e w12 ⟨rfl, hb⟩; refine ⟨_, rfl, ?_⟩; replace BK247 := kB BK247 hb; replace BK248 := kB BK248 hb; replace HB := kH _ hb; (try clear hb); (try clear hb2); (try clear hk); (try clear hi)) | ((with_reducible refine gate_dst (N := 6) rfl ?_); refine bE 6 #[.int .i64 0, .int .i64 0] 49 ?_; intro gb252 hg w13 hbox hb; have BK252 := ak (hbox); have GW252 := kG w hg; have GE252 := kG w hg; replace HB := kH _ hb; have NB247_252 := kL BK247 hg; have NB252_247 := kR BK247 hg; replace BK247 := kB BK247 hb; have NB248_252 := kL BK248 hg; have NB252_248 := kR BK248 hg; replace BK248 := kB BK248 hb; clear hb hbox hg; have hnb14 := NB252_247.out; have hnc14 := NB247_252.out; have hnb15 := NB252_248.out; have hnc15 := NB248_252.out; have hcz16_0 : w13.cell? ⟨gb252, 0, none⟩ = some (.int .i64 0) := bc BK252 0; have hcz16_1 : w13.cell? ⟨gb252, 1, none⟩ = some (.int .i64 0) := bc BK252 1; have hfz16_0 := fz BK252 0; have hfz16_1 := fz BK252 1; have hcz17_0 : w13.cell? ⟨gb247, 0, none⟩ = some (.int .i64 a0_0) := bc BK247 0; have hcz17_1 : w13.cell? ⟨gb247, 1, none⟩ = some (.slice A0_1 l0_1.length c0_1) := bc BK247 1; have hcz17_2 : w13.cell? ⟨gb247, 2, none⟩ = some (.slice A0_2 l0_2.length c0_2) := bc BK247 2; have hfz17_0 := fz BK247 0; have hfz17_1 := fz BK247 1; have hfz17_2 := fz BK247 2) | ((with_reducible refine gate_callee (f := 19) rfl ?_); refine gL 20 Tryd.func19 #[.agg #[.int .i64 a0_0, .slice A0_1 l0_1.length c0_1, .slice A0_2 l0_2.length c0_2], .int .i64 a0_0, .agg #[.int .i64 t249, .int .i64 t250]] ?_; (with_reducible refine (curves_Curve_basic.calls k a0_0 _ _ l0_1 _ _ l0_2 a0_0 t249 t250 t253 _ ?side1 ?side2 ?side3 ?side4 A5.out).mono ?_); (case side1 => exact Kd.C_below HR0_1.out (hbC _)); (case side2 => exact HC0_1.out); (case side3 => exact Kd.C_below HR0_2.out (hbC _)); (case side4 => exact HC0_2.out); rintro e w18 ⟨v254, rfl, ho0, hb⟩; refine ⟨_, rfl, ?_⟩; have HO255 := ak (Kd.R_lower (Kd.R_newB ho0 (g := gb252) (o := .cells #[.int .i64 t249, .int .i64 t250] 49 (0, 0)) (by (with_reducible repeat (first | refine blk_drewN ?_ _ | refine blk_drew ?_ | refine blk_alloc ?_ _)); refine blk_put (cs := #[.int .i64 t249, .int .i64 0]) ?_ 1 _ rfl; (with_reducible repeat (first | refine blk_drewN ?_ _ | refine blk_drew ?_ | refine blk_alloc ?_ _)); refine blk_put (cs := #[.int .i64 0, .int .i64 0]) ?_ 0 _ rfl; (with_reducible repeat (first | refine blk_drewN ?_ _ | refine blk_drew ?_ | refine blk_alloc ?_ _)); exact BK252.out)) (below_size (hbC _))); replace BK247 := ak (blk_below (g := gb247) (o := .cells #[.int .i64 a0_0, .slice A0_1 l0_1.length c0_1, .slice A0_2 l0_2.length c0_2] 31 (0, 0)) (bF BK247) hb); replace BK248 := ak (blk_below (g := gb248) (o := .cells #[.int .i64 a1_0, .int .i64 a1_1] 26 (0, 0)) (bF BK248) hb); replace BK252 := ak (blk_below (g := gb252) (o := .cells #[.int .i64 t249, .int .i64 t250] 49 (0, 0)) (by (with_reducible repeat (first | refine blk_drewN ?_ _ | refine blk_drew ?_ | refine blk_alloc ?_ _)); refine blk_put (cs := #[.int .i64 t249, .int .i64 0]) ?_ 1 _ rfl; (with_reducible repeat (first | refine blk_drewN ?_ _ | refine blk_drew ?_ | refine blk_alloc ?_ _)); refine blk_put (cs := #[.int .i64 0, .int .i64 0]) ?_ 0 _ rfl; (with_reducible repeat (first | refine blk_drewN ?_ _ | refine blk_drew ?_ | refine blk_alloc ?_ _)); exact BK252.out) hb); replace HB := kH _ hb; (try clear hb); (try clear hb2); (try clear hk); (try clear hi); (try clear ho0); obtain ⟨Ao19, co19, eo19⟩ := Kd.R_slice HO255.out; subst eo19) | ((with_reducible refine gate_callee (f := 18) rfl ?_); refine gL 21 Tryd.func18 #[.slice Ao19 t253.length co19] ?_; (with_reducible refine (curves_told.calls k _ _ t253 t256 _ ?side1 ?side2 A6.out).mono ?_); (case side1 => exact kD (Kd.R_reads' HO255.out).2.2); (case side2 => exact (Kd.R_reads' HO255.out).2.1); rintro e w20 ⟨v257, rfl, ho0, hb⟩; refine ⟨_, rfl, ?_⟩; replace HO255 := kO HO255 hb; have HO258 := ak (Kd.R_lower (Kd.R_newB ho0 (g := gb248) (o := .cells #[.int .i64 a1_0, .int .i64 a1_1] 26 (0, 0)) (bkC BK248)) (below_size (hbC _))); replace BK247 := kB BK247 hb; replace BK248 := kB BK248 hb; replace BK252 := kB BK252 hb; replace HB := kH _ hb; (try clear hb); (try clear hb2); (try clear hk); (try clear hi); (try clear ho0)))
 go_ret2
 exact ⟨_, by first | rfl | (simp [errW_none, errW_some] <;> rfl) | (simp [*, errW_none, errW_some] <;> rfl), rD (Kd.R_mono HO258.out (fun _ hk => trivial)), hbC _⟩

end Go.Proofs.YtpnocmkpeogifaaDoor.X
