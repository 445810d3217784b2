-- Written by a program of this work (wip/xprint.py, over the kit's printer) out of the translation.
import Derived.Test.YtpnocmkpeogifaaDoorX0
import Derived.Test.YtpnocmkpeogifaaDoorXG1a
import Derived.Test.YtpnocmkpeogifaaDoorXG2a
namespace Go.Proofs.YtpnocmkpeogifaaDoor.X
open Go.RowKit Go.Proofs.YtpnocmkpeogifaaDoorW.PrintWords Go.Proofs.YtpnocmkpeogifaaDoorW.PrintLast Go.Proofs.YtpnocmkpeogifaaDoorW.PrintMore
attribute [local go_sem] max2_int min2_int max_two min_two max_three min_three max_four min_four   -- for this text's walks alone
set_option linter.unusedVariables false
set_option linter.unusedSimpArgs false

/-! ### congoulaw04_more: function 10 -/
mutual
def congoulaw04_more.j0 : Nat → Int → Int → Bool → Int → Int → Option (Int × Int × Bool)
 | 0, _, _, _, _, _ => none
 | k + 1, x8, x10, x55, x312000, x312001 => if x55 = true then (some (x312000, x312001, false)) else ((congouref04_Frac.f k x8 x10).bind fun bt319 => (congoulaw04_more.l0 k x312001 bt319.2 x312000 x312001 bt319.1 bt319.2))
def congoulaw04_more.l0 : Nat → Int → Int → Int → Int → Int → Int → Option (Int × Int × Bool)
 | 0, _, _, _, _, _, _ => none
 | k + 1, x13, x14, x312000, x312001, x322000, x322001 => if x14 = 0 then (if x13 = 0 then (none) else ((congoulaw04_product.f (wrap64 (Int.tdiv x312001 x13)) x322001).bind fun bt322 => (if bt322.2 = true then (if x312001 = 0 then (none) else ((congoulaw04_product.f x312000 (wrap64 (Int.tdiv bt322.1 x312001))).bind fun bt324 => (if x322001 = 0 then (none) else ((congoulaw04_product.f x322000 (wrap64 (Int.tdiv bt322.1 x322001))).bind fun bt326 => (if bt324.2 = true then (if bt326.2 = true then (if (mx (mx (mx bt324.1 (wrap64 (-bt324.1))) bt326.1) (wrap64 (-bt326.1))) > 2305843009213693952 then (some (x312000, x312001, false)) else ((congouref04_Frac.f k (wrap64 (bt324.1 + bt326.1)) bt322.1).bind fun bt328 => (some (bt328.1, bt328.2, true)))) else (some (x312000, x312001, false))) else (some (x312000, x312001, false))))))) else (some (x312000, x312001, false))))) else (congoulaw04_more.l0 k x14 (Int.tmod x13 x14) x312000 x312001 x322000 x322001)
end
def congoulaw04_more.f (k : Nat) (a0_0 : Int) (a0_1 : Int) (a1_0 : Int) (a1_1 : Int) (a2_0 : Int) (a2_1 : Int) : Option (Int × Int × Bool) := (congoulaw04_product.f a1_0 a2_0).bind fun bt315 => ((congoulaw04_product.f a1_1 a2_1).bind fun bt317 => (if a1_1 < 1 then (congoulaw04_more.j0 k bt315.1 bt317.1 true a0_0 a0_1) else (if a2_1 < 1 then (congoulaw04_more.j0 k bt315.1 bt317.1 true a0_0 a0_1) else (if a0_1 < 1 then (congoulaw04_more.j0 k bt315.1 bt317.1 true a0_0 a0_1) else (if bt315.2 = true then (congoulaw04_more.j0 k bt315.1 bt317.1 (!bt317.2) a0_0 a0_1) else (congoulaw04_more.j0 k bt315.1 bt317.1 true a0_0 a0_1))))))
theorem congoulaw04_more.mono_l : ∀ k, (∀ y0 y1 y2 y3 y4, LeO (congoulaw04_more.j0 k y0 y1 y2 y3 y4) (congoulaw04_more.j0 (k + 1) y0 y1 y2 y3 y4)) ∧ (∀ y0 y1 y2 y3 y4 y5, LeO (congoulaw04_more.l0 k y0 y1 y2 y3 y4 y5) (congoulaw04_more.l0 (k + 1) y0 y1 y2 y3 y4 y5))
 | 0 => ⟨fun _ _ _ _ _ r h => by simp [congoulaw04_more.j0] at h, fun _ _ _ _ _ _ r h => by simp [congoulaw04_more.l0] at h⟩
 | k + 1 => by
  obtain ⟨ih0, ih1⟩ := congoulaw04_more.mono_l k
  refine ⟨?_, ?_⟩
  ·intro y0 y1 y2 y3 y4
   unfold congoulaw04_more.j0
   repeat' first
   | (with_reducible exact ih0 _ _ _ _ _)
   | (with_reducible exact ih1 _ _ _ _ _ _)
   | (with_reducible exact congouref04_Frac.mono _ _ _)
   | (with_reducible exact LeO.refl _)
   | (with_reducible exact LeO.none _)
   | (with_reducible refine LeO.ite ?_ ?_)
   | (with_reducible refine LeO.bind ?_ (fun _ => ?_))
   | exact ih0 _ _ _ _ _
   | exact ih1 _ _ _ _ _ _
   | exact congouref04_Frac.mono _ _ _
   | exact LeO.none _
   | refine LeO.ite ?_ ?_
   | refine LeO.bind ?_ (fun _ => ?_)
  ·intro y0 y1 y2 y3 y4 y5
   unfold congoulaw04_more.l0
   repeat' first
   | (with_reducible exact ih0 _ _ _ _ _)
   | (with_reducible exact ih1 _ _ _ _ _ _)
   | (with_reducible exact congouref04_Frac.mono _ _ _)
   | (with_reducible exact LeO.refl _)
   | (with_reducible exact LeO.none _)
   | (with_reducible refine LeO.ite ?_ ?_)
   | (with_reducible refine LeO.bind ?_ (fun _ => ?_))
   | exact ih0 _ _ _ _ _
   | exact ih1 _ _ _ _ _ _
   | exact congouref04_Frac.mono _ _ _
   | exact LeO.none _
   | refine LeO.ite ?_ ?_
   | refine LeO.bind ?_ (fun _ => ?_)
theorem congoulaw04_more.mono : ∀ a0 a1 a2 a3 a4 a5 k, LeO (congoulaw04_more.f k a0 a1 a2 a3 a4 a5) (congoulaw04_more.f (k + 1) a0 a1 a2 a3 a4 a5) := by
 intro a0 a1 a2 a3 a4 a5 k
 obtain ⟨ih0, ih1⟩ := congoulaw04_more.mono_l k
 unfold congoulaw04_more.f
 repeat' first
   | (with_reducible exact ih0 _ _ _ _ _)
   | (with_reducible exact ih1 _ _ _ _ _ _)
   | (with_reducible exact congouref04_Frac.mono _ _ _)
   | (with_reducible exact LeO.refl _)
   | (with_reducible exact LeO.none _)
   | (with_reducible refine LeO.ite ?_ ?_)
   | (with_reducible refine LeO.bind ?_ (fun _ => ?_))
   | exact ih0 _ _ _ _ _
   | exact ih1 _ _ _ _ _ _
   | exact congouref04_Frac.mono _ _ _
   | exact LeO.none _
   | refine LeO.ite ?_ ?_
   | refine LeO.bind ?_ (fun _ => ?_)
def congoulaw04_more.T9 : Bool × List (List Nat × List Nat) := (true, [([], []), ([0], [0]), ([], []), ([1, 2], [1, 2]), ([], []), ([4], [4]), ([3, 5], [3, 5]), ([6], [6]), ([7], [7]), ([7], [7]), ([8, 6, 0, 1, 2, 3, 4, 5, 6, 7, 8], [8]), ([9, 10, 0, 1, 2, 3, 4, 5, 6, 7, 8, 9, 10], [9])])
def congoulaw04_more.B9 : List Nat := [0, 1, 0, 7, 0, 16, 63, 127, 255, 255, 511, 2047]
theorem congoulaw04_more.tab9 : rtab .any (opsOf Tryd.f10 9) = congoulaw04_more.T9 := by kernel_rfl
theorem congoulaw04_more.bits9 : waitsOk congoulaw04_more.T9.2 congoulaw04_more.B9 = true := by kernel_rfl
def congoulaw04_more.T12 : Bool × List (List Nat × List Nat) := (true, [([], []), ([0], [0]), ([], []), ([], []), ([3], [3]), ([2, 4], [2, 4]), ([1, 5], [1, 5]), ([6], [6]), ([7], [7]), ([7], [7]), ([8, 6, 0, 1, 2, 3, 4, 5, 6, 7, 8], [8]), ([9, 10, 0, 1, 2, 3, 4, 5, 6, 7, 8, 9, 10], [9])])
def congoulaw04_more.B12 : List Nat := [0, 1, 0, 0, 8, 28, 63, 127, 255, 255, 511, 2047]
theorem congoulaw04_more.tab12 : rtab .any (opsOf Tryd.f10 12) = congoulaw04_more.T12 := by kernel_rfl
theorem congoulaw04_more.bits12 : waitsOk congoulaw04_more.T12.2 congoulaw04_more.B12 = true := by kernel_rfl
def congoulaw04_more.T13 : Bool × List (List Nat × List Nat) := (true, [([], []), ([0], [0]), ([], []), ([], []), ([3], [3]), ([2, 4], [2, 4]), ([1, 5], [1, 5]), ([6], [6]), ([7], [7]), ([7], [7]), ([8, 6, 0, 1, 2, 3, 4, 5, 6, 7, 8], [8]), ([9, 10, 0, 1, 2, 3, 4, 5, 6, 7, 8, 9, 10], [9])])
def congoulaw04_more.B13 : List Nat := [0, 1, 0, 0, 8, 28, 63, 127, 255, 255, 511, 2047]
theorem congoulaw04_more.tab13 : rtab .any (opsOf Tryd.f10 13) = congoulaw04_more.T13 := by kernel_rfl
theorem congoulaw04_more.bits13 : waitsOk congoulaw04_more.T13.2 congoulaw04_more.B13 = true := by kernel_rfl
set_option maxHeartbeats 8000000 in
set_option maxRecDepth 100000 in
theorem congoulaw04_more.calls (k : Nat) (a0_0 : Int) (a0_1 : Int) (a1_0 : Int) (a1_1 : Int) (a2_0 : Int) (a2_1 : Int) (r1 : Int) (r2 : Int) (r3 : Bool) (w : World) (h : congoulaw04_more.f k a0_0 a0_1 a1_0 a1_1 a2_0 a2_1 = some (r1, r2, r3)) :
  Calls Tryd.prog 10 #[.agg #[.int .i64 a0_0, .int .i64 a0_1], .agg #[.int .i64 a1_0, .int .i64 a1_1], .agg #[.int .i64 a2_0, .int .i64 a2_1]] w fun e w' => e = .returned (.tuple #[.agg #[.int .i64 r1, .int .i64 r2], .bool r3]) ∧ Below w.heap.size w w' := by
 have hu26 := Tryd.underlying26
 have HB := ak (Below.refl w.heap.size w)
 have H : ((congoulaw04_product.f a1_0 a2_0).bind fun bt315 => ((congoulaw04_product.f a1_1 a2_1).bind fun bt317 => (if a1_1 < 1 then (congoulaw04_more.j0 k bt315.1 bt317.1 true a0_0 a0_1) else (if a2_1 < 1 then (congoulaw04_more.j0 k bt315.1 bt317.1 true a0_0 a0_1) else (if a0_1 < 1 then (congoulaw04_more.j0 k bt315.1 bt317.1 true a0_0 a0_1) else (if bt315.2 = true then (congoulaw04_more.j0 k bt315.1 bt317.1 (!bt317.2) a0_0 a0_1) else (congoulaw04_more.j0 k bt315.1 bt317.1 true a0_0 a0_1))))))) = some (r1, r2, r3) := h
 clear h
 replace H := Option.bind_eq_some_iff.mp H
 obtain ⟨⟨t315, t316⟩, A40, H⟩ := H
 replace H : ((congoulaw04_product.f a1_1 a2_1).bind fun bt317 => (if a1_1 < 1 then (congoulaw04_more.j0 k t315 bt317.1 true a0_0 a0_1) else (if a2_1 < 1 then (congoulaw04_more.j0 k t315 bt317.1 true a0_0 a0_1) else (if a0_1 < 1 then (congoulaw04_more.j0 k t315 bt317.1 true a0_0 a0_1) else (if t316 = true then (congoulaw04_more.j0 k t315 bt317.1 (!bt317.2) a0_0 a0_1) else (congoulaw04_more.j0 k t315 bt317.1 true a0_0 a0_1)))))) = some (r1, r2, r3) := H
 have A4 := Aside0.mk A40
 clear A40
 replace H := Option.bind_eq_some_iff.mp H
 obtain ⟨⟨t317, t318⟩, A50, H⟩ := H
 replace H : (if a1_1 < 1 then (congoulaw04_more.j0 k t315 t317 true a0_0 a0_1) else (if a2_1 < 1 then (congoulaw04_more.j0 k t315 t317 true a0_0 a0_1) else (if a0_1 < 1 then (congoulaw04_more.j0 k t315 t317 true a0_0 a0_1) else (if t316 = true then (congoulaw04_more.j0 k t315 t317 (!t318) a0_0 a0_1) else (congoulaw04_more.j0 k t315 t317 true a0_0 a0_1))))) = some (r1, r2, r3) := H
 have A5 := Aside0.mk A50
 clear A50
 have HC6 := Aside0.mk H
 clear H
 go_enter Tryd.func10, Tryd.ntmps10
 go_upto_region 3 with (first | ((with_reducible refine gate_dst (N := 3) rfl ?_); (try (refine gate_guard (by rfl) ?_; dsimp only)); refine bE 3 #[.int .i64 a0_0, .int .i64 a0_1] 26 ?_; intro gb311 hg w7 hbox hb; have BK311 := ak (hbox); have GW311 := kG w hg; have GE311 := kG w hg; replace HB := kH _ hb; clear hb hbox hg) | ((with_reducible refine gate_dst (N := 4) rfl ?_); (try (refine gate_guard (by rfl) ?_; dsimp only)); refine bE 4 #[.int .i64 a1_0, .int .i64 a1_1] 26 ?_; intro gb312 hg w8 hbox hb; have BK312 := ak (hbox); have GW312 := kG w hg; have GE312 := kG w hg; replace HB := kH _ hb; have NB311_312 := kL BK311 hg; have NB312_311 := kR BK311 hg; replace BK311 := kB BK311 hb; clear hb hbox hg) | ((with_reducible refine gate_dst (N := 5) rfl ?_); (try (refine gate_guard (by rfl) ?_; dsimp only)); refine bE 5 #[.int .i64 a2_0, .int .i64 a2_1] 26 ?_; intro gb313 hg w9 hbox hb; have BK313 := ak (hbox); have GW313 := kG w hg; have GE313 := kG w hg; replace HB := kH _ hb; have NB311_313 := kL BK311 hg; have NB313_311 := kR BK311 hg; replace BK311 := kB BK311 hb; have NB312_313 := kL BK312 hg; have NB313_312 := kR BK312 hg; replace BK312 := kB BK312 hb; clear hb hbox hg) | ((with_reducible refine gate_dst (N := 6) rfl ?_); (try (refine gate_guard (by rfl) ?_; dsimp only)); refine bE 6 #[.int .i64 0, .int .i64 0] 26 ?_; intro gb314 hg w10 hbox hb; have BK314 := ak (hbox); have GW314 := kG w hg; have GE314 := kG w hg; replace HB := kH _ hb; have NB311_314 := kL BK311 hg; have NB314_311 := kR BK311 hg; replace BK311 := kB BK311 hb; have NB312_314 := kL BK312 hg; have NB314_312 := kR BK312 hg; replace BK312 := kB BK312 hb; have NB313_314 := kL BK313 hg; have NB314_313 := kR BK313 hg; replace BK313 := kB BK313 hb; clear hb hbox hg; have hnb11 := NB312_311.out; have hnc11 := NB311_312.out; have hnb12 := NB312_313.out; have hnc12 := NB313_312.out; have hnb13 := NB312_314.out; have hnc13 := NB314_312.out; have hcz14_0 : w10.cell? ⟨gb312, 0, none⟩ = some (.int .i64 a1_0) := bc BK312 0; have hcz14_1 : w10.cell? ⟨gb312, 1, none⟩ = some (.int .i64 a1_1) := bc BK312 1; have hfz14_0 := fz BK312 0; have hfz14_1 := fz BK312 1; have hnb15 := NB313_311.out; have hnc15 := NB311_313.out; have hnb16 := NB313_314.out; have hnc16 := NB314_313.out; have hcz17_0 : w10.cell? ⟨gb313, 0, none⟩ = some (.int .i64 a2_0) := bc BK313 0; have hcz17_1 : w10.cell? ⟨gb313, 1, none⟩ = some (.int .i64 a2_1) := bc BK313 1; have hfz17_0 := fz BK313 0; have hfz17_1 := fz BK313 1) | ((with_reducible refine gate_callee (f := 21) rfl ?_); refine gL 24 Tryd.func21 #[.int .i64 a1_0, .int .i64 a2_0] ?_; (with_reducible refine (congoulaw04_product.calls a1_0 a2_0 t315 t316 _ A4.out).mono ?_); rintro e w18 ⟨rfl, hb⟩; refine ⟨_, rfl, ?_⟩; replace BK311 := kB BK311 hb; replace BK312 := kB BK312 hb; replace BK313 := kB BK313 hb; replace BK314 := kB BK314 hb; replace HB := kH _ hb; (try clear hb); (try clear hb2); (try clear hk); (try clear hi); have hcz19_0 : w18.cell? ⟨gb312, 0, none⟩ = some (.int .i64 a1_0) := bc BK312 0; have hcz19_1 : w18.cell? ⟨gb312, 1, none⟩ = some (.int .i64 a1_1) := bc BK312 1; have hfz19_0 := fz BK312 0; have hfz19_1 := fz BK312 1; have hcz20_0 : w18.cell? ⟨gb313, 0, none⟩ = some (.int .i64 a2_0) := bc BK313 0; have hcz20_1 : w18.cell? ⟨gb313, 1, none⟩ = some (.int .i64 a2_1) := bc BK313 1; have hfz20_0 := fz BK313 0; have hfz20_1 := fz BK313 1) | ((with_reducible refine gate_callee (f := 21) rfl ?_); refine gL 32 Tryd.func21 #[.int .i64 a1_1, .int .i64 a2_1] ?_; (with_reducible refine (congoulaw04_product.calls a1_1 a2_1 t317 t318 _ A5.out).mono ?_); rintro e w21 ⟨rfl, hb⟩; refine ⟨_, rfl, ?_⟩; replace BK311 := kB BK311 hb; replace BK312 := kB BK312 hb; replace BK313 := kB BK313 hb; replace BK314 := kB BK314 hb; replace HB := kH _ hb; (try clear hb); (try clear hb2); (try clear hk); (try clear hi)))
 (try simp only [Act.put, List.setIfInBounds_toArray, List.set_cons_zero, List.set_cons_succ])
 go_cut [55] (fun v55 wc => ∃ (kq : Nat) (x55_5 : Bool), v55 = .bool x55_5 ∧ Aside0 (congoulaw04_more.j0 kq t315 t317 x55_5 a0_0 a0_1 = some (r1, r2, r3)) ∧ Aside0 (kq ≤ k) ∧ Aside0 (wc.heap[gb311]? = some (.cells #[.int .i64 a0_0, .int .i64 a0_1] 26 (0, 0))) ∧ Aside0 (wc.heap[gb312]? = some (.cells #[.int .i64 a1_0, .int .i64 a1_1] 26 (0, 0))) ∧ Aside0 (wc.heap[gb313]? = some (.cells #[.int .i64 a2_0, .int .i64 a2_1] 26 (0, 0))) ∧ Aside0 (wc.heap[gb314]? = some (.cells #[.int .i64 0, .int .i64 0] 26 (0, 0))) ∧ Aside0 (Below w.heap.size w wc))
 case first =>
  have H := HC6.out
  clear HC6
  by_cases c22 : a1_1 < 1
  ·rw [if_pos c22] at H
   have c22b0 : decide (a1_1 < 1) = true := decide_eq_true c22
   clear c22
   (first | rw [c22b0] | (simp only [i64_w, i32_w]; rw [c22b0]) | skip)
   have H' := Aside0.mk H
   clear H
   have hnb23 := NB312_311.out
   have hnc23 := NB311_312.out
   have hnb24 := NB312_313.out
   have hnc24 := NB313_312.out
   have hnb25 := NB312_314.out
   have hnc25 := NB314_312.out
   have hcz26_0 : w21.cell? ⟨gb312, 0, none⟩ = some (.int .i64 a1_0) := bc BK312 0
   have hcz26_1 : w21.cell? ⟨gb312, 1, none⟩ = some (.int .i64 a1_1) := bc BK312 1
   have hfz26_0 := fz BK312 0
   have hfz26_1 := fz BK312 1
   go_wp2
   go_meet
   case rel => exact ⟨_, (true), (by first | rfl | (simp; done) | (simp [*]; done)), H', ⟨by first | omega | exact Nat.le_refl _⟩, ⟨bkC BK311⟩, ⟨bkC BK312⟩, ⟨bkC BK313⟩, ⟨bkC BK314⟩, ⟨hbC _⟩⟩
  rw [if_neg c22] at H
  have c22b0 : decide (a1_1 < 1) = false := decide_eq_false c22
  clear c22
  (first | rw [c22b0] | (simp only [i64_w, i32_w]; rw [c22b0]) | skip)
  by_cases c27 : a2_1 < 1
  ·rw [if_pos c27] at H
   have c27b0 : decide (a2_1 < 1) = true := decide_eq_true c27
   clear c27
   have H' := Aside0.mk H
   clear H
   have hnb28 := NB312_311.out
   have hnc28 := NB311_312.out
   have hnb29 := NB312_313.out
   have hnc29 := NB313_312.out
   have hnb30 := NB312_314.out
   have hnc30 := NB314_312.out
   have hcz31_0 : w21.cell? ⟨gb312, 0, none⟩ = some (.int .i64 a1_0) := bc BK312 0
   have hcz31_1 : w21.cell? ⟨gb312, 1, none⟩ = some (.int .i64 a1_1) := bc BK312 1
   have hfz31_0 := fz BK312 0
   have hfz31_1 := fz BK312 1
   have hnb32 := NB313_311.out
   have hnc32 := NB311_313.out
   have hnb33 := NB313_314.out
   have hnc33 := NB314_313.out
   have hcz34_0 : w21.cell? ⟨gb313, 0, none⟩ = some (.int .i64 a2_0) := bc BK313 0
   have hcz34_1 : w21.cell? ⟨gb313, 1, none⟩ = some (.int .i64 a2_1) := bc BK313 1
   have hfz34_0 := fz BK313 0
   have hfz34_1 := fz BK313 1
   go_wp2
   go_meet
   case rel => exact ⟨_, (true), (by first | rfl | (simp; done) | (simp [*]; done)), H', ⟨by first | omega | exact Nat.le_refl _⟩, ⟨bkC BK311⟩, ⟨bkC BK312⟩, ⟨bkC BK313⟩, ⟨bkC BK314⟩, ⟨hbC _⟩⟩
  rw [if_neg c27] at H
  have c27b0 : decide (a2_1 < 1) = false := decide_eq_false c27
  clear c27
  by_cases c35 : a0_1 < 1
  ·rw [if_pos c35] at H
   have c35b0 : decide (a0_1 < 1) = true := decide_eq_true c35
   clear c35
   have H' := Aside0.mk H
   clear H
   have hnb36 := NB312_311.out
   have hnc36 := NB311_312.out
   have hnb37 := NB312_313.out
   have hnc37 := NB313_312.out
   have hnb38 := NB312_314.out
   have hnc38 := NB314_312.out
   have hcz39_0 : w21.cell? ⟨gb312, 0, none⟩ = some (.int .i64 a1_0) := bc BK312 0
   have hcz39_1 : w21.cell? ⟨gb312, 1, none⟩ = some (.int .i64 a1_1) := bc BK312 1
   have hfz39_0 := fz BK312 0
   have hfz39_1 := fz BK312 1
   have hnb40 := NB313_311.out
   have hnc40 := NB311_313.out
   have hnb41 := NB313_314.out
   have hnc41 := NB314_313.out
   have hcz42_0 : w21.cell? ⟨gb313, 0, none⟩ = some (.int .i64 a2_0) := bc BK313 0
   have hcz42_1 : w21.cell? ⟨gb313, 1, none⟩ = some (.int .i64 a2_1) := bc BK313 1
   have hfz42_0 := fz BK313 0
   have hfz42_1 := fz BK313 1
   have hnb43 := NB311_314.out
   have hnc43 := NB314_311.out
   have hcz44_0 : w21.cell? ⟨gb311, 0, none⟩ = some (.int .i64 a0_0) := bc BK311 0
   have hcz44_1 : w21.cell? ⟨gb311, 1, none⟩ = some (.int .i64 a0_1) := bc BK311 1
   have hfz44_0 := fz BK311 0
   have hfz44_1 := fz BK311 1
   go_wp2
   go_meet
   case rel => exact ⟨_, (true), (by first | rfl | (simp; done) | (simp [*]; done)), H', ⟨by first | omega | exact Nat.le_refl _⟩, ⟨bkC BK311⟩, ⟨bkC BK312⟩, ⟨bkC BK313⟩, ⟨bkC BK314⟩, ⟨hbC _⟩⟩
  rw [if_neg c35] at H
  have c35b0 : decide (a0_1 < 1) = false := decide_eq_false c35
  clear c35
  by_cases c45 : t316 = true
  ·subst c45
   have H1 : (congoulaw04_more.j0 k t315 t317 (!t318) a0_0 a0_1) = some (r1, r2, r3) := by rw [if_pos rfl] at H; exact H
   clear H
   have H := H1
   clear H1
   have H' := Aside0.mk H
   clear H
   have hnb46 := NB312_311.out
   have hnc46 := NB311_312.out
   have hnb47 := NB312_313.out
   have hnc47 := NB313_312.out
   have hnb48 := NB312_314.out
   have hnc48 := NB314_312.out
   have hcz49_0 : w21.cell? ⟨gb312, 0, none⟩ = some (.int .i64 a1_0) := bc BK312 0
   have hcz49_1 : w21.cell? ⟨gb312, 1, none⟩ = some (.int .i64 a1_1) := bc BK312 1
   have hfz49_0 := fz BK312 0
   have hfz49_1 := fz BK312 1
   have hnb50 := NB313_311.out
   have hnc50 := NB311_313.out
   have hnb51 := NB313_314.out
   have hnc51 := NB314_313.out
   have hcz52_0 : w21.cell? ⟨gb313, 0, none⟩ = some (.int .i64 a2_0) := bc BK313 0
   have hcz52_1 : w21.cell? ⟨gb313, 1, none⟩ = some (.int .i64 a2_1) := bc BK313 1
   have hfz52_0 := fz BK313 0
   have hfz52_1 := fz BK313 1
   have hnb53 := NB311_314.out
   have hnc53 := NB314_311.out
   have hcz54_0 : w21.cell? ⟨gb311, 0, none⟩ = some (.int .i64 a0_0) := bc BK311 0
   have hcz54_1 : w21.cell? ⟨gb311, 1, none⟩ = some (.int .i64 a0_1) := bc BK311 1
   have hfz54_0 := fz BK311 0
   have hfz54_1 := fz BK311 1
   go_wp2
   go_meet
   case rel => exact ⟨_, (!t318), (by first | rfl | (simp; done) | (simp [*]; done)), H', ⟨by first | omega | exact Nat.le_refl _⟩, ⟨bkC BK311⟩, ⟨bkC BK312⟩, ⟨bkC BK313⟩, ⟨bkC BK314⟩, ⟨hbC _⟩⟩
  replace c45 := Bool.eq_false_iff.mpr c45
  subst c45
  have H1 : (congoulaw04_more.j0 k t315 t317 true a0_0 a0_1) = some (r1, r2, r3) := by rw [if_neg (show ¬ (false = true) by decide)] at H; exact H
  clear H
  have H := H1
  clear H1
  have H' := Aside0.mk H
  clear H
  have hnb55 := NB312_311.out
  have hnc55 := NB311_312.out
  have hnb56 := NB312_313.out
  have hnc56 := NB313_312.out
  have hnb57 := NB312_314.out
  have hnc57 := NB314_312.out
  have hcz58_0 : w21.cell? ⟨gb312, 0, none⟩ = some (.int .i64 a1_0) := bc BK312 0
  have hcz58_1 : w21.cell? ⟨gb312, 1, none⟩ = some (.int .i64 a1_1) := bc BK312 1
  have hfz58_0 := fz BK312 0
  have hfz58_1 := fz BK312 1
  have hnb59 := NB313_311.out
  have hnc59 := NB311_313.out
  have hnb60 := NB313_314.out
  have hnc60 := NB314_313.out
  have hcz61_0 : w21.cell? ⟨gb313, 0, none⟩ = some (.int .i64 a2_0) := bc BK313 0
  have hcz61_1 : w21.cell? ⟨gb313, 1, none⟩ = some (.int .i64 a2_1) := bc BK313 1
  have hfz61_0 := fz BK313 0
  have hfz61_1 := fz BK313 1
  have hnb62 := NB311_314.out
  have hnc62 := NB314_311.out
  have hcz63_0 : w21.cell? ⟨gb311, 0, none⟩ = some (.int .i64 a0_0) := bc BK311 0
  have hcz63_1 : w21.cell? ⟨gb311, 1, none⟩ = some (.int .i64 a0_1) := bc BK311 1
  have hfz63_0 := fz BK311 0
  have hfz63_1 := fz BK311 1
  go_wp2
  go_meet
  case rel => exact ⟨_, (true), (by first | rfl | (simp; done) | (simp [*]; done)), H', ⟨by first | omega | exact Nat.le_refl _⟩, ⟨bkC BK311⟩, ⟨bkC BK312⟩, ⟨bkC BK313⟩, ⟨bkC BK314⟩, ⟨hbC _⟩⟩
 case rest =>
  clear HC6
  try clear c1
  try clear c2
  try clear p2
  try clear c3
  try clear c4
  try clear c5
  try clear c6
  try clear c10
  try clear c11
  try clear c12
  try clear c13
  try clear c15
  try clear c16
  try clear c21
  try clear c22
  try clear c22b0
  try clear c23
  try clear c24
  try clear c25
  try clear c27
  try clear c27b0
  try clear c28
  try clear c29
  try clear c30
  try clear c32
  try clear c33
  try clear c35
  try clear c35b0
  try clear c36
  try clear c37
  try clear c38
  try clear c40
  try clear c41
  try clear c43
  try clear c45
  try clear c46
  try clear c47
  try clear c48
  try clear c50
  try clear c51
  try clear c53
  try clear c55
  try clear c56
  try clear c57
  try clear c59
  try clear c60
  try clear c62
  try clear hcz14_0
  try clear hcz14_1
  try clear hcz17_0
  try clear hcz17_1
  try clear hcz19_0
  try clear hcz19_1
  try clear hcz20_0
  try clear hcz20_1
  try clear hcz26_0
  try clear hcz26_1
  try clear hcz31_0
  try clear hcz31_1
  try clear hcz34_0
  try clear hcz34_1
  try clear hcz39_0
  try clear hcz39_1
  try clear hcz42_0
  try clear hcz42_1
  try clear hcz44_0
  try clear hcz44_1
  try clear hcz49_0
  try clear hcz49_1
  try clear hcz52_0
  try clear hcz52_1
  try clear hcz54_0
  try clear hcz54_1
  try clear hcz58_0
  try clear hcz58_1
  try clear hcz61_0
  try clear hcz61_1
  try clear hcz63_0
  try clear hcz63_1
  try clear hfz14_0
  try clear hfz14_1
  try clear hfz17_0
  try clear hfz17_1
  try clear hfz19_0
  try clear hfz19_1
  try clear hfz20_0
  try clear hfz20_1
  try clear hfz26_0
  try clear hfz26_1
  try clear hfz31_0
  try clear hfz31_1
  try clear hfz34_0
  try clear hfz34_1
  try clear hfz39_0
  try clear hfz39_1
  try clear hfz42_0
  try clear hfz42_1
  try clear hfz44_0
  try clear hfz44_1
  try clear hfz49_0
  try clear hfz49_1
  try clear hfz52_0
  try clear hfz52_1
  try clear hfz54_0
  try clear hfz54_1
  try clear hfz58_0
  try clear hfz58_1
  try clear hfz61_0
  try clear hfz61_1
  try clear hfz63_0
  try clear hfz63_1
  obtain ⟨kq, x55_5, rfl, HA, HJ5, BK311, BK312, BK313, BK314, HB⟩ := hcut
  cases kq with
  | zero => exact absurd HA.out (by simp [congoulaw04_more.j0])
  | succ kj5 =>
   have H := HA.out
   clear HA
   simp only [congoulaw04_more.j0] at H
   by_cases c64 : x55_5 = true
   ·subst c64
    have H1 : (some (a0_0, a0_1, false)) = some (r1, r2, r3) := by rw [if_pos rfl] at H; exact H
    clear H
    have H := H1
    clear H1
    simp only [Option.some.injEq, Prod.mk.injEq] at H
    obtain ⟨rfl, rfl, rfl⟩ := H
    have hnb65 := NB311_312.out
    have hnc65 := NB312_311.out
    have hnb66 := NB311_313.out
    have hnc66 := NB313_311.out
    have hnb67 := NB311_314.out
    have hnc67 := NB314_311.out
    have hcz68_0 : wc.cell? ⟨gb311, 0, none⟩ = some (.int .i64 a0_0) := bc BK311 0
    have hcz68_1 : wc.cell? ⟨gb311, 1, none⟩ = some (.int .i64 a0_1) := bc BK311 1
    have hfz68_0 := fz BK311 0
    have hfz68_1 := fz BK311 1
    have hnb69 := NB314_312.out
    have hnc69 := NB312_314.out
    have hnb70 := NB314_313.out
    have hnc70 := NB313_314.out
    have hcz71_0 : wc.cell? ⟨gb314, 0, none⟩ = some (.int .i64 0) := bc BK314 0
    have hcz71_1 : wc.cell? ⟨gb314, 1, none⟩ = some (.int .i64 0) := bc BK314 1
    have hfz71_0 := fz BK314 0
    have hfz71_1 := fz BK314 1
    go_wp2
    refine bodyPost_ret (results_ct rfl _ _ gb314 26 #[.int .i64 a0_0, .int .i64 a0_1] (0, 0) _ rfl (by (with_reducible repeat (first | refine blk_drewN ?_ _ | refine blk_drew ?_ | refine blk_alloc ?_ _)); refine blk_put (cs := #[.int .i64 a0_0, .int .i64 0]) ?_ 1 _ rfl; (with_reducible repeat (first | refine blk_drewN ?_ _ | refine blk_drew ?_ | refine blk_alloc ?_ _)); refine blk_put (cs := #[.int .i64 0, .int .i64 0]) ?_ 0 _ rfl; (with_reducible repeat (first | refine blk_drewN ?_ _ | refine blk_drew ?_ | refine blk_alloc ?_ _)); exact BK314.out) Tryd.underlying26 rfl (by kernel_rfl)) rfl ?_
    exact ⟨by first | rfl | (simp [errW_none, errW_some] <;> rfl) | (simp [*, errW_none, errW_some] <;> rfl), hbC _⟩
   replace c64 := Bool.eq_false_iff.mpr c64
   subst c64
   have H1 : ((congouref04_Frac.f kj5 t315 t317).bind fun bt319 => (congoulaw04_more.l0 kj5 a0_1 bt319.2 a0_0 a0_1 bt319.1 bt319.2)) = some (r1, r2, r3) := by rw [if_neg (show ¬ (false = true) by decide)] at H; exact H
   clear H
   have H := H1
   clear H1
   replace H := Option.bind_eq_some_iff.mp H
   obtain ⟨⟨t319, t320⟩, A720, H⟩ := H
   replace H : (congoulaw04_more.l0 kj5 a0_1 t320 a0_0 a0_1 t319 t320) = some (r1, r2, r3) := H
   have A72 := Aside0.mk A720
   clear A720
   have H' := Aside0.mk H
   clear H
   try go_wp2_with (first | ((with_reducible refine gate_callee (f := 22) rfl ?_); refine gL 59 Tryd.func22 #[.int .i64 t315, .int .i64 t317] ?_; (with_reducible refine (congouref04_Frac.calls kj5 t315 t317 t319 t320 _ A72.out).mono ?_); rintro e w73 ⟨rfl, hb⟩; refine ⟨_, rfl, ?_⟩; replace BK311 := kB BK311 hb; replace BK312 := kB BK312 hb; replace BK313 := kB BK313 hb; replace BK314 := kB BK314 hb; replace HB := kH _ hb; (try clear hb); (try clear hb2); (try clear hk); (try clear hi)) | ((with_reducible refine gate_dst (N := 12) rfl ?_); (try (refine gate_guard (by rfl) ?_; dsimp only)); refine bE 12 #[.int .i64 0, .int .i64 0] 26 ?_; intro gb321 hg w74 hbox hb; have BK321 := ak (hbox); have GW321 := kG w hg; have GE321 := kG w hg; replace HB := kH _ hb; have NB311_321 := kL BK311 hg; have NB321_311 := kR BK311 hg; replace BK311 := kB BK311 hb; have NB312_321 := kL BK312 hg; have NB321_312 := kR BK312 hg; replace BK312 := kB BK312 hb; have NB313_321 := kL BK313 hg; have NB321_313 := kR BK313 hg; replace BK313 := kB BK313 hb; have NB314_321 := kL BK314 hg; have NB321_314 := kR BK314 hg; replace BK314 := kB BK314 hb; clear hb hbox hg; have hnb75 := NB321_311.out; have hnc75 := NB311_321.out; have hnb76 := NB321_312.out; have hnc76 := NB312_321.out; have hnb77 := NB321_313.out; have hnc77 := NB313_321.out; have hnb78 := NB321_314.out; have hnc78 := NB314_321.out; have hcz79_0 : w74.cell? ⟨gb321, 0, none⟩ = some (.int .i64 0) := bc BK321 0; have hcz79_1 : w74.cell? ⟨gb321, 1, none⟩ = some (.int .i64 0) := bc BK321 1; have hfz79_0 := fz BK321 0; have hfz79_1 := fz BK321 1))
   have n0_ : Aside0 (((w74.setCell ⟨gb321, 0, none⟩ (.int .i64 t319)).setCell ⟨gb321, 1, none⟩ (.int .i64 t320)).heap[gb311]? = some (.cells #[.int .i64 a0_0, .int .i64 a0_1] 26 (0, 0))) := ⟨bF BK311⟩
   have n1_ : Aside0 (((w74.setCell ⟨gb321, 0, none⟩ (.int .i64 t319)).setCell ⟨gb321, 1, none⟩ (.int .i64 t320)).heap[gb312]? = some (.cells #[.int .i64 a1_0, .int .i64 a1_1] 26 (0, 0))) := ⟨bF BK312⟩
   have n2_ : Aside0 (((w74.setCell ⟨gb321, 0, none⟩ (.int .i64 t319)).setCell ⟨gb321, 1, none⟩ (.int .i64 t320)).heap[gb313]? = some (.cells #[.int .i64 a2_0, .int .i64 a2_1] 26 (0, 0))) := ⟨bF BK313⟩
   have n3_ : Aside0 (((w74.setCell ⟨gb321, 0, none⟩ (.int .i64 t319)).setCell ⟨gb321, 1, none⟩ (.int .i64 t320)).heap[gb314]? = some (.cells #[.int .i64 0, .int .i64 0] 26 (0, 0))) := ⟨bF BK314⟩
   have n4_ : Aside0 (((w74.setCell ⟨gb321, 0, none⟩ (.int .i64 t319)).setCell ⟨gb321, 1, none⟩ (.int .i64 t320)).heap[gb321]? = some (.cells #[.int .i64 t319, .int .i64 t320] 26 (0, 0))) := ⟨by (with_reducible repeat (first | refine blk_drewN ?_ _ | refine blk_drew ?_ | refine blk_alloc ?_ _)); refine blk_put (cs := #[.int .i64 t319, .int .i64 0]) ?_ 1 _ rfl; (with_reducible repeat (first | refine blk_drewN ?_ _ | refine blk_drew ?_ | refine blk_alloc ?_ _)); refine blk_put (cs := #[.int .i64 0, .int .i64 0]) ?_ 0 _ rfl; (with_reducible repeat (first | refine blk_drewN ?_ _ | refine blk_drew ?_ | refine blk_alloc ?_ _)); exact BK321.out⟩
   have n5_ : Aside0 (Below w.heap.size w ((w74.setCell ⟨gb321, 0, none⟩ (.int .i64 t319)).setCell ⟨gb321, 1, none⟩ (.int .i64 t320))) := ⟨hbC _⟩
   (try clear BK311)
   (try clear BK312)
   (try clear BK313)
   (try clear BK314)
   (try clear BK321)
   (try clear HB)
   generalize ((w74.setCell ⟨gb321, 0, none⟩ (.int .i64 t319)).setCell ⟨gb321, 1, none⟩ (.int .i64 t320)) = w80 at n0_ n1_ n2_ n3_ n4_ n5_ ⊢
   have BK311 := n0_
   have BK312 := n1_
   have BK313 := n2_
   have BK314 := n3_
   have BK321 := n4_
   have HB := n5_
   clear n0_ n1_ n2_ n3_ n4_ n5_
   replace BK311 := kd BK311
   replace BK312 := kd BK312
   replace BK313 := kd BK313
   replace BK314 := kd BK314
   replace BK321 := kd BK321
   replace HB := ak (below_drew1 HB.out)
   refine sS (n := 6) (S := fun w' => w'.cell? ⟨gb311, 0, none⟩ = some (.int .i64 a0_0) ∧ w'.cell? ⟨gb311, 1, none⟩ = some (.int .i64 a0_1) ∧ w'.cell? ⟨gb321, 0, none⟩ = some (.int .i64 t319) ∧ w'.cell? ⟨gb321, 1, none⟩ = some (.int .i64 t320)) (ds := []) ⟨bc BK311 0, bc BK311 1, bc BK321 0, bc BK321 1⟩ (fun hHeld => ?_)
   generalize w80.drew = w81 at BK311 BK312 BK313 BK314 BK321 HB hHeld ⊢
   refine pure_ (i := 0) (N := some 60) (v := ?_) (a' := ?_) (ba 6 1) rfl rfl (by kernel_rfl) (fun _ _ _ h => h) (Or.inl ⟨by rfl, ?_⟩) ?_ ?_
   rotate_left
   ·intro w'
    go_simp
    with_reducible rfl
   rotate_left
   ·simp only [Act.put, List.setIfInBounds_toArray, List.set_cons_zero, List.set_cons_succ, i64_w, i32_w]
    rfl
   refine pure_ (i := 2) (N := some 62) (v := ?_) (a' := ?_) (ba 6 5) rfl rfl (by kernel_rfl) (fun _ _ _ h => h) (Or.inl ⟨by rfl, ?_⟩) ?_ ?_
   rotate_left
   ·intro w'
    go_simp
    with_reducible rfl
   rotate_left
   ·simp only [Act.put, List.setIfInBounds_toArray, List.set_cons_zero, List.set_cons_succ, i64_w, i32_w]
    rfl
   refine take_ (i := 1) (N := some 61) (v := ?_) (a' := ?_) (ba 6 7) rfl rfl (by kernel_rfl) (fun _ _ _ h => h) (Or.inl ⟨by rfl, ?_⟩) hHeld ?_ ?_
   rotate_left
   ·rintro w' ⟨s0, s1, s2, s3⟩
    go_simp
    with_reducible rfl
   rotate_left
   ·simp only [Act.put, List.setIfInBounds_toArray, List.set_cons_zero, List.set_cons_succ, i64_w, i32_w]
    rfl
   refine pure_ (i := 4) (N := some 13) (v := ?_) (a' := ?_) (ba 6 23) rfl rfl (by kernel_rfl) (fun _ _ _ h => h) (Or.inl ⟨by rfl, ?_⟩) ?_ ?_
   rotate_left
   ·intro w'
    go_simp
    with_reducible rfl
   rotate_left
   ·simp only [Act.put, List.setIfInBounds_toArray, List.set_cons_zero, List.set_cons_succ, i64_w, i32_w]
    rfl
   refine take_ (i := 3) (N := some 63) (v := ?_) (a' := ?_) (ba 6 31) rfl rfl (by kernel_rfl) (fun _ _ _ h => h) (Or.inl ⟨by rfl, ?_⟩) hHeld ?_ ?_
   rotate_left
   ·rintro w' ⟨s0, s1, s2, s3⟩
    go_simp
    with_reducible rfl
   rotate_left
   ·simp only [Act.put, List.setIfInBounds_toArray, List.set_cons_zero, List.set_cons_succ, i64_w, i32_w]
    rfl
   refine pure_ (i := 5) (N := some 14) (v := ?_) (a' := ?_) (ba 6 63) rfl rfl (by kernel_rfl) (fun _ _ _ h => h) (Or.inl ⟨by rfl, ?_⟩) ?_ ?_
   rotate_left
   ·intro w'
    go_simp
    with_reducible rfl
   rotate_left
   ·simp only [Act.put, List.setIfInBounds_toArray, List.set_cons_zero, List.set_cons_succ, i64_w, i32_w]
    rfl
   refine done_ (by kernel_rfl) ?_
   try go_wp2
   go_loopg [13, 14] kj5 (fun kq v13 v14 w' => ∃ (x13_2 : Int) (x14_2 : Int), v13 = .int .i64 x13_2 ∧ v14 = .int .i64 x14_2 ∧ Aside0 (congoulaw04_more.l0 kq x13_2 x14_2 a0_0 a0_1 t319 t320 = some (r1, r2, r3)) ∧ Aside0 (kq ≤ kj5) ∧ Aside0 (w'.heap[gb311]? = some (.cells #[.int .i64 a0_0, .int .i64 a0_1] 26 (0, 0))) ∧ Aside0 (w'.heap[gb312]? = some (.cells #[.int .i64 a1_0, .int .i64 a1_1] 26 (0, 0))) ∧ Aside0 (w'.heap[gb313]? = some (.cells #[.int .i64 a2_0, .int .i64 a2_1] 26 (0, 0))) ∧ Aside0 (w'.heap[gb314]? = some (.cells #[.int .i64 0, .int .i64 0] 26 (0, 0))) ∧ Aside0 (w'.heap[gb321]? = some (.cells #[.int .i64 t319, .int .i64 t320] 26 (0, 0))) ∧ Aside0 (Below w.heap.size w w'))
   case atStart => exact ⟨(a0_1), (t320), (by first | rfl | (simp; done) | (simp [*]; done)), (by first | rfl | (simp; done) | (simp [*]; done)), H', ⟨Nat.le_refl _⟩, ⟨bkC BK311⟩, ⟨bkC BK312⟩, ⟨bkC BK313⟩, ⟨bkC BK314⟩, ⟨bkC BK321⟩, ⟨hbC _⟩⟩
   case round =>
    clear H'
    try clear c1
    try clear c2
    try clear p2
    try clear c3
    try clear c4
    try clear c5
    try clear c6
    try clear c7
    try clear c10
    try clear c11
    try clear c12
    try clear c13
    try clear c15
    try clear c16
    try clear c21
    try clear c22
    try clear c22b0
    try clear c23
    try clear c24
    try clear c25
    try clear c27
    try clear c27b0
    try clear c28
    try clear c29
    try clear c30
    try clear c32
    try clear c33
    try clear c35
    try clear c35b0
    try clear c36
    try clear c37
    try clear c38
    try clear c40
    try clear c41
    try clear c43
    try clear c45
    try clear c46
    try clear c47
    try clear c48
    try clear c50
    try clear c51
    try clear c53
    try clear c55
    try clear c56
    try clear c57
    try clear c59
    try clear c60
    try clear c62
    try clear c64
    try clear c65
    try clear c66
    try clear c67
    try clear c69
    try clear c70
    try clear c75
    try clear c76
    try clear c77
    try clear c78
    try clear hcz14_0
    try clear hcz14_1
    try clear hcz17_0
    try clear hcz17_1
    try clear hcz19_0
    try clear hcz19_1
    try clear hcz20_0
    try clear hcz20_1
    try clear hcz26_0
    try clear hcz26_1
    try clear hcz31_0
    try clear hcz31_1
    try clear hcz34_0
    try clear hcz34_1
    try clear hcz39_0
    try clear hcz39_1
    try clear hcz42_0
    try clear hcz42_1
    try clear hcz44_0
    try clear hcz44_1
    try clear hcz49_0
    try clear hcz49_1
    try clear hcz52_0
    try clear hcz52_1
    try clear hcz54_0
    try clear hcz54_1
    try clear hcz58_0
    try clear hcz58_1
    try clear hcz61_0
    try clear hcz61_1
    try clear hcz63_0
    try clear hcz63_1
    try clear hcz68_0
    try clear hcz68_1
    try clear hcz71_0
    try clear hcz71_1
    try clear hcz79_0
    try clear hcz79_1
    try clear hfz14_0
    try clear hfz14_1
    try clear hfz17_0
    try clear hfz17_1
    try clear hfz19_0
    try clear hfz19_1
    try clear hfz20_0
    try clear hfz20_1
    try clear hfz26_0
    try clear hfz26_1
    try clear hfz31_0
    try clear hfz31_1
    try clear hfz34_0
    try clear hfz34_1
    try clear hfz39_0
    try clear hfz39_1
    try clear hfz42_0
    try clear hfz42_1
    try clear hfz44_0
    try clear hfz44_1
    try clear hfz49_0
    try clear hfz49_1
    try clear hfz52_0
    try clear hfz52_1
    try clear hfz54_0
    try clear hfz54_1
    try clear hfz58_0
    try clear hfz58_1
    try clear hfz61_0
    try clear hfz61_1
    try clear hfz63_0
    try clear hfz63_1
    try clear hfz68_0
    try clear hfz68_1
    try clear hfz71_0
    try clear hfz71_1
    try clear hfz79_0
    try clear hfz79_1
    try clear p2
    obtain ⟨x13_2, x14_2, rfl, rfl, HA, HK2, BK311, BK312, BK313, BK314, BK321, HB⟩ := hrel
    cases gk with
    | zero => exact absurd HA.out (by simp [congoulaw04_more.l0])
    | succ k2 =>
     have H := HA.out
     clear HA
     simp only [congoulaw04_more.l0] at H
     by_cases c82 : x14_2 = 0
     rotate_left
     ·rw [if_neg c82] at H
      have c82b0 : (x14_2 == 0) = false := beq_eq_false_iff_ne.mpr c82
      have c82b1 : (x14_2 != 0) = true := bne_iff_ne.mpr c82
      have H' := Aside0.mk H
      clear H
      try go_wp2
      replace BK311 := kd BK311
      replace BK312 := kd BK312
      replace BK313 := kd BK313
      replace BK314 := kd BK314
      replace BK321 := kd BK321
      replace HB := ak (below_drew1 HB.out)
      refine sS (n := 6) (S := fun w' => True) (ds := []) trivial (fun hHeld => ?_)
      generalize wr.drew = w165 at BK311 BK312 BK313 BK314 BK321 HB hHeld ⊢
      refine pure_ (i := 0) (N := some 66) (v := ?_) (a' := ?_) (ba 6 1) rfl rfl (by kernel_rfl) (fun _ _ _ h => h) (Or.inl ⟨by rfl, ?_⟩) ?_ ?_
      rotate_left
      ·intro w'
       go_simp
       with_reducible rfl
      rotate_left
      ·simp only [Act.put, List.setIfInBounds_toArray, List.set_cons_zero, List.set_cons_succ, i64_w, i32_w]
       rfl
      refine pure_ (i := 1) (N := some 67) (v := ?_) (a' := ?_) (ba 6 3) rfl rfl (by kernel_rfl) (fun _ _ _ h => h) (Or.inl ⟨by rfl, ?_⟩) ?_ ?_
      rotate_left
      ·intro w'
       go_simp
       with_reducible rfl
      rotate_left
      ·simp only [Act.put, List.setIfInBounds_toArray, List.set_cons_zero, List.set_cons_succ, i64_w, i32_w]
       rfl
      refine pure_ (i := 2) (N := some 68) (v := ?_) (a' := ?_) (ba 6 7) rfl rfl (by kernel_rfl) (fun _ _ _ h => h) (Or.inl ⟨by rfl, ?_⟩) ?_ ?_
      rotate_left
      ·intro w'
       go_simp
       with_reducible rfl
      rotate_left
      ·simp only [Act.put, List.setIfInBounds_toArray, List.set_cons_zero, List.set_cons_succ, i64_w, i32_w]
       rfl
      refine pure_ (i := 3) (N := some 69) (v := ?_) (a' := ?_) (ba 6 15) rfl rfl (by kernel_rfl) (fun _ _ _ h => h) (Or.inl ⟨by rfl, ?_⟩) ?_ ?_
      rotate_left
      ·intro w'
       go_simp
       with_reducible rfl
      rotate_left
      ·simp only [Act.put, List.setIfInBounds_toArray, List.set_cons_zero, List.set_cons_succ, i64_w, i32_w]
       rfl
      refine pure_ (i := 4) (N := some 13) (v := ?_) (a' := ?_) (ba 6 31) rfl rfl (by kernel_rfl) (fun _ _ _ h => h) (Or.inl ⟨by rfl, ?_⟩) ?_ ?_
      rotate_left
      ·intro w'
       go_simp
       with_reducible rfl
      rotate_left
      ·simp only [Act.put, List.setIfInBounds_toArray, List.set_cons_zero, List.set_cons_succ, i64_w, i32_w]
       rfl
      refine pure_ (i := 5) (N := some 14) (v := ?_) (a' := ?_) (ba 6 63) rfl rfl (by kernel_rfl) (fun _ _ _ h => h) (Or.inl ⟨by rfl, ?_⟩) ?_ ?_
      rotate_left
      ·intro w'
       go_simp
       with_reducible rfl
      rotate_left
      ·simp only [Act.put, List.setIfInBounds_toArray, List.set_cons_zero, List.set_cons_succ, i64_w, i32_w]
       rfl
      refine done_ (by kernel_rfl) ?_
      try go_wp2
      go_roundg k2
      case measure => have := HJ5.out; have := HK2.out; omega
      case rel => exact ⟨(x14_2), (Int.tmod x13_2 x14_2), (by first | rfl | (simp; done) | (simp [*]; done)), (by first | rfl | (simp; done) | (simp [*]; done)), H', ⟨by have := HJ5.out; have := HK2.out; omega⟩, ⟨bkC BK311⟩, ⟨bkC BK312⟩, ⟨bkC BK313⟩, ⟨bkC BK314⟩, ⟨bkC BK321⟩, ⟨hbC _⟩⟩
     rw [if_pos c82] at H
     have c82b0 : (x14_2 == 0) = true := beq_iff_eq.mpr c82
     have c82b1 : (x14_2 != 0) = false := bne_eq_false_iff_eq.mpr c82
     clear c82
     by_cases c83 : x13_2 = 0
     ·rw [if_pos c83] at H
      exact absurd H (by simp)
     rw [if_neg c83] at H
     have c83b0 : (x13_2 == 0) = false := beq_eq_false_iff_ne.mpr c83
     have c83b1 : (x13_2 != 0) = true := bne_iff_ne.mpr c83
     replace H := Option.bind_eq_some_iff.mp H
     obtain ⟨⟨t322, t323⟩, A840, H⟩ := H
     replace H : (if t323 = true then (if a0_1 = 0 then (none) else ((congoulaw04_product.f a0_0 (wrap64 (Int.tdiv t322 a0_1))).bind fun bt324 => (if t320 = 0 then (none) else ((congoulaw04_product.f t319 (wrap64 (Int.tdiv t322 t320))).bind fun bt326 => (if bt324.2 = true then (if bt326.2 = true then (if (mx (mx (mx bt324.1 (wrap64 (-bt324.1))) bt326.1) (wrap64 (-bt326.1))) > 2305843009213693952 then (some (a0_0, a0_1, false)) else ((congouref04_Frac.f k2 (wrap64 (bt324.1 + bt326.1)) t322).bind fun bt328 => (some (bt328.1, bt328.2, true)))) else (some (a0_0, a0_1, false))) else (some (a0_0, a0_1, false))))))) else (some (a0_0, a0_1, false))) = some (r1, r2, r3) := H
     have A84 := Aside0.mk A840
     clear A840
     by_cases c85 : t323 = true
     rotate_left
     ·replace c85 := Bool.eq_false_iff.mpr c85
      subst c85
      have H1 : (some (a0_0, a0_1, false)) = some (r1, r2, r3) := by rw [if_neg (show ¬ (false = true) by decide)] at H; exact H
      clear H
      have H := H1
      clear H1
      simp only [Option.some.injEq, Prod.mk.injEq] at H
      obtain ⟨rfl, rfl, rfl⟩ := H
      try go_wp2
      replace BK311 := kd BK311
      replace BK312 := kd BK312
      replace BK313 := kd BK313
      replace BK314 := kd BK314
      replace BK321 := kd BK321
      replace HB := ak (below_drew1 HB.out)
      refine sS (n := 12) (S := fun w' => w'.cell? ⟨gb311, 0, none⟩ = some (.int .i64 a0_0) ∧ w'.cell? ⟨gb311, 1, none⟩ = some (.int .i64 a0_1) ∧ w'.cell? ⟨gb321, 0, none⟩ = some (.int .i64 t319) ∧ w'.cell? ⟨gb321, 1, none⟩ = some (.int .i64 t320)) (ds := []) ⟨bc BK311 0, bc BK311 1, bc BK321 0, bc BK321 1⟩ (fun hHeld => ?_); refine with_tabW congoulaw04_more.tab9 congoulaw04_more.bits9 (fun HT_ HW_ => ?_)
      generalize wr.drew = w154 at BK311 BK312 BK313 BK314 BK321 HB hHeld ⊢
      refine pS 0 71 12 1 ?_
      refine pS 2 73 12 5 ?_
      refine pS 4 75 12 21 ?_
      refine tS 1 72 12 23 ?_
      refine pS 3 74 12 31 ?_
      refine tS 5 76 12 63 ?_
      refine one_ (i := 6) (N := some 77) (ba 12 127) rfl rfl (one_of HT_.out (by kernel_rfl)) (by decide) (fun K hK => ?_)
      refine gC Tryd.func21 #[.int .i64 (wrap64 (Int.tdiv a0_1 x13_2)), .int .i64 t320] ?_
      with_reducible refine (congoulaw04_product.calls (wrap64 (Int.tdiv a0_1 x13_2)) t320 t322 false _ A84.out).mono ?_
      rintro e w155 ⟨rfl, hb⟩
      refine ⟨_, rfl, ?_⟩
      replace BK311 := kB BK311 hb
      replace BK312 := kB BK312 hb
      replace BK313 := kB BK313 hb
      replace BK314 := kB BK314 hb
      replace BK321 := kB BK321 hb
      replace HB := kH _ hb
      (try clear hb)
      (try clear hb2)
      (try clear hk)
      (try clear hi)
      refine hK.out _ _ ⟨bc BK311 0, bc BK311 1, bc BK321 0, bc BK321 1⟩ (fun hHeld => ?_)
      clear hK K
      refine norm_ (a' := ?_) ?_ ?_
      rotate_left
      ·show Act.put _ (some 77) _ = _
       simp only [Act.put, List.setIfInBounds_toArray, List.set_cons_zero, List.set_cons_succ, i64_w, i32_w]
       rfl
      refine pS 7 70 12 255 ?_
      refine pS 8 78 12 511 ?_
      refine pS 9 79 12 1023 ?_
      refine pS 10 15 12 2047 ?_
      refine pS 11 16 12 4095 ?_
      refine done_ (done_of HT_.out (by kernel_rfl)) ?_
      have hnb156 := NB311_312.out
      have hnc156 := NB312_311.out
      have hnb157 := NB311_313.out
      have hnc157 := NB313_311.out
      have hnb158 := NB311_314.out
      have hnc158 := NB314_311.out
      have hnb159 := NB311_321.out
      have hnc159 := NB321_311.out
      have hcz160_0 : w155.cell? ⟨gb311, 0, none⟩ = some (.int .i64 a0_0) := bc BK311 0
      have hcz160_1 : w155.cell? ⟨gb311, 1, none⟩ = some (.int .i64 a0_1) := bc BK311 1
      have hfz160_0 := fz BK311 0
      have hfz160_1 := fz BK311 1
      have hnb161 := NB314_312.out
      have hnc161 := NB312_314.out
      have hnb162 := NB314_313.out
      have hnc162 := NB313_314.out
      have hnb163 := NB314_321.out
      have hnc163 := NB321_314.out
      have hcz164_0 : w155.cell? ⟨gb314, 0, none⟩ = some (.int .i64 0) := bc BK314 0
      have hcz164_1 : w155.cell? ⟨gb314, 1, none⟩ = some (.int .i64 0) := bc BK314 1
      have hfz164_0 := fz BK314 0
      have hfz164_1 := fz BK314 1
      try go_wp2
      refine bodyPost_ret (results_ct rfl _ _ gb314 26 #[.int .i64 a0_0, .int .i64 a0_1] (0, 0) _ rfl (by (with_reducible repeat (first | refine blk_drewN ?_ _ | refine blk_drew ?_ | refine blk_alloc ?_ _)); refine blk_put (cs := #[.int .i64 a0_0, .int .i64 0]) ?_ 1 _ rfl; (with_reducible repeat (first | refine blk_drewN ?_ _ | refine blk_drew ?_ | refine blk_alloc ?_ _)); refine blk_put (cs := #[.int .i64 0, .int .i64 0]) ?_ 0 _ rfl; (with_reducible repeat (first | refine blk_drewN ?_ _ | refine blk_drew ?_ | refine blk_alloc ?_ _)); exact BK314.out) Tryd.underlying26 rfl (by kernel_rfl)) rfl ?_
      exact ⟨by first | rfl | (simp [errW_none, errW_some] <;> rfl) | (simp [*, errW_none, errW_some] <;> rfl), hbC _⟩
     subst c85
     have H1 : (if a0_1 = 0 then (none) else ((congoulaw04_product.f a0_0 (wrap64 (Int.tdiv t322 a0_1))).bind fun bt324 => (if t320 = 0 then (none) else ((congoulaw04_product.f t319 (wrap64 (Int.tdiv t322 t320))).bind fun bt326 => (if bt324.2 = true then (if bt326.2 = true then (if (mx (mx (mx bt324.1 (wrap64 (-bt324.1))) bt326.1) (wrap64 (-bt326.1))) > 2305843009213693952 then (some (a0_0, a0_1, false)) else ((congouref04_Frac.f k2 (wrap64 (bt324.1 + bt326.1)) t322).bind fun bt328 => (some (bt328.1, bt328.2, true)))) else (some (a0_0, a0_1, false))) else (some (a0_0, a0_1, false))))))) = some (r1, r2, r3) := by rw [if_pos rfl] at H; exact H
     clear H
     have H := H1
     clear H1
     by_cases c86 : a0_1 = 0
     ·rw [if_pos c86] at H
      exact absurd H (by simp)
     rw [if_neg c86] at H
     have c86b0 : (a0_1 == 0) = false := beq_eq_false_iff_ne.mpr c86
     have c86b1 : (a0_1 != 0) = true := bne_iff_ne.mpr c86
     replace H := Option.bind_eq_some_iff.mp H
     obtain ⟨⟨t324, t325⟩, A870, H⟩ := H
     replace H : (if t320 = 0 then (none) else ((congoulaw04_product.f t319 (wrap64 (Int.tdiv t322 t320))).bind fun bt326 => (if t325 = true then (if bt326.2 = true then (if (mx (mx (mx t324 (wrap64 (-t324))) bt326.1) (wrap64 (-bt326.1))) > 2305843009213693952 then (some (a0_0, a0_1, false)) else ((congouref04_Frac.f k2 (wrap64 (t324 + bt326.1)) t322).bind fun bt328 => (some (bt328.1, bt328.2, true)))) else (some (a0_0, a0_1, false))) else (some (a0_0, a0_1, false))))) = some (r1, r2, r3) := H
     have A87 := Aside0.mk A870
     clear A870
     by_cases c88 : t320 = 0
     ·rw [if_pos c88] at H
      exact absurd H (by simp)
     rw [if_neg c88] at H
     have c88b0 : (t320 == 0) = false := beq_eq_false_iff_ne.mpr c88
     have c88b1 : (t320 != 0) = true := bne_iff_ne.mpr c88
     replace H := Option.bind_eq_some_iff.mp H
     obtain ⟨⟨t326, t327⟩, A890, H⟩ := H
     replace H : (if t325 = true then (if t327 = true then (if (mx (mx (mx t324 (wrap64 (-t324))) t326) (wrap64 (-t326))) > 2305843009213693952 then (some (a0_0, a0_1, false)) else ((congouref04_Frac.f k2 (wrap64 (t324 + t326)) t322).bind fun bt328 => (some (bt328.1, bt328.2, true)))) else (some (a0_0, a0_1, false))) else (some (a0_0, a0_1, false))) = some (r1, r2, r3) := H
     have A89 := Aside0.mk A890
     clear A890
     by_cases c90 : t325 = true
     rotate_left
     ·replace c90 := Bool.eq_false_iff.mpr c90
      subst c90
      have H1 : (some (a0_0, a0_1, false)) = some (r1, r2, r3) := by rw [if_neg (show ¬ (false = true) by decide)] at H; exact H
      clear H
      have H := H1
      clear H1
      simp only [Option.some.injEq, Prod.mk.injEq] at H
      obtain ⟨rfl, rfl, rfl⟩ := H
      try go_wp2
      replace BK311 := kd BK311
      replace BK312 := kd BK312
      replace BK313 := kd BK313
      replace BK314 := kd BK314
      replace BK321 := kd BK321
      replace HB := ak (below_drew1 HB.out)
      refine sS (n := 12) (S := fun w' => w'.cell? ⟨gb311, 0, none⟩ = some (.int .i64 a0_0) ∧ w'.cell? ⟨gb311, 1, none⟩ = some (.int .i64 a0_1) ∧ w'.cell? ⟨gb321, 0, none⟩ = some (.int .i64 t319) ∧ w'.cell? ⟨gb321, 1, none⟩ = some (.int .i64 t320)) (ds := []) ⟨bc BK311 0, bc BK311 1, bc BK321 0, bc BK321 1⟩ (fun hHeld => ?_); refine with_tabW congoulaw04_more.tab9 congoulaw04_more.bits9 (fun HT_ HW_ => ?_)
      generalize wr.drew = w139 at BK311 BK312 BK313 BK314 BK321 HB hHeld ⊢
      refine pS 0 71 12 1 ?_
      refine pS 2 73 12 5 ?_
      refine pS 4 75 12 21 ?_
      refine tS 1 72 12 23 ?_
      refine pS 3 74 12 31 ?_
      refine tS 5 76 12 63 ?_
      refine one_ (i := 6) (N := some 77) (ba 12 127) rfl rfl (one_of HT_.out (by kernel_rfl)) (by decide) (fun K hK => ?_)
      refine gC Tryd.func21 #[.int .i64 (wrap64 (Int.tdiv a0_1 x13_2)), .int .i64 t320] ?_
      with_reducible refine (congoulaw04_product.calls (wrap64 (Int.tdiv a0_1 x13_2)) t320 t322 true _ A84.out).mono ?_
      rintro e w140 ⟨rfl, hb⟩
      refine ⟨_, rfl, ?_⟩
      replace BK311 := kB BK311 hb
      replace BK312 := kB BK312 hb
      replace BK313 := kB BK313 hb
      replace BK314 := kB BK314 hb
      replace BK321 := kB BK321 hb
      replace HB := kH _ hb
      (try clear hb)
      (try clear hb2)
      (try clear hk)
      (try clear hi)
      refine hK.out _ _ ⟨bc BK311 0, bc BK311 1, bc BK321 0, bc BK321 1⟩ (fun hHeld => ?_)
      clear hK K
      refine norm_ (a' := ?_) ?_ ?_
      rotate_left
      ·show Act.put _ (some 77) _ = _
       simp only [Act.put, List.setIfInBounds_toArray, List.set_cons_zero, List.set_cons_succ, i64_w, i32_w]
       rfl
      refine pS 7 70 12 255 ?_
      refine pS 8 78 12 511 ?_
      refine pS 9 79 12 1023 ?_
      refine pS 10 15 12 2047 ?_
      refine pS 11 16 12 4095 ?_
      refine done_ (done_of HT_.out (by kernel_rfl)) ?_
      try go_wp2
      replace BK311 := kd BK311
      replace BK312 := kd BK312
      replace BK313 := kd BK313
      replace BK314 := kd BK314
      replace BK321 := kd BK321
      replace HB := ak (below_drew1 HB.out)
      refine sS (n := 12) (S := fun w' => w'.cell? ⟨gb311, 0, none⟩ = some (.int .i64 a0_0) ∧ w'.cell? ⟨gb311, 1, none⟩ = some (.int .i64 a0_1)) (ds := []) ⟨bc BK311 0, bc BK311 1⟩ (fun hHeld => ?_); refine with_tabW congoulaw04_more.tab12 congoulaw04_more.bits12 (fun HT_ HW_ => ?_)
      generalize w140.drew = w141 at BK311 BK312 BK313 BK314 BK321 HB hHeld ⊢
      refine pS 0 84 12 1 ?_
      refine pS 2 86 12 5 ?_
      refine pS 3 87 12 13 ?_
      refine tS 1 85 12 15 ?_
      refine tS 4 88 12 31 ?_
      refine pS 5 89 12 63 ?_
      refine one_ (i := 6) (N := some 90) (ba 12 127) rfl rfl (one_of HT_.out (by kernel_rfl)) (by decide) (fun K hK => ?_)
      refine gC Tryd.func21 #[.int .i64 a0_0, .int .i64 (wrap64 (Int.tdiv t322 a0_1))] ?_
      with_reducible refine (congoulaw04_product.calls a0_0 (wrap64 (Int.tdiv t322 a0_1)) t324 false _ A87.out).mono ?_
      rintro e w142 ⟨rfl, hb⟩
      refine ⟨_, rfl, ?_⟩
      replace BK311 := kB BK311 hb
      replace BK312 := kB BK312 hb
      replace BK313 := kB BK313 hb
      replace BK314 := kB BK314 hb
      replace BK321 := kB BK321 hb
      replace HB := kH _ hb
      (try clear hb)
      (try clear hb2)
      (try clear hk)
      (try clear hi)
      refine hK.out _ _ ⟨bc BK311 0, bc BK311 1⟩ (fun hHeld => ?_)
      clear hK K
      refine norm_ (a' := ?_) ?_ ?_
      rotate_left
      ·show Act.put _ (some 90) _ = _
       simp only [Act.put, List.setIfInBounds_toArray, List.set_cons_zero, List.set_cons_succ, i64_w, i32_w]
       rfl
      refine pS 7 83 12 255 ?_
      refine pS 8 91 12 511 ?_
      refine pS 9 92 12 1023 ?_
      refine pS 10 17 12 2047 ?_
      refine pS 11 9 12 4095 ?_
      refine done_ (done_of HT_.out (by kernel_rfl)) ?_
      try go_wp2
      replace BK311 := kd BK311
      replace BK312 := kd BK312
      replace BK313 := kd BK313
      replace BK314 := kd BK314
      replace BK321 := kd BK321
      replace HB := ak (below_drew1 HB.out)
      refine sS (n := 12) (S := fun w' => w'.cell? ⟨gb321, 0, none⟩ = some (.int .i64 t319) ∧ w'.cell? ⟨gb321, 1, none⟩ = some (.int .i64 t320)) (ds := []) ⟨bc BK321 0, bc BK321 1⟩ (fun hHeld => ?_); refine with_tabW congoulaw04_more.tab13 congoulaw04_more.bits13 (fun HT_ HW_ => ?_)
      generalize w142.drew = w143 at BK311 BK312 BK313 BK314 BK321 HB hHeld ⊢
      refine pS 0 94 12 1 ?_
      refine pS 2 96 12 5 ?_
      refine pS 3 97 12 13 ?_
      refine tS 1 95 12 15 ?_
      refine tS 4 98 12 31 ?_
      refine pS 5 99 12 63 ?_
      refine one_ (i := 6) (N := some 100) (ba 12 127) rfl rfl (one_of HT_.out (by kernel_rfl)) (by decide) (fun K hK => ?_)
      refine gC Tryd.func21 #[.int .i64 t319, .int .i64 (wrap64 (Int.tdiv t322 t320))] ?_
      with_reducible refine (congoulaw04_product.calls t319 (wrap64 (Int.tdiv t322 t320)) t326 t327 _ A89.out).mono ?_
      rintro e w144 ⟨rfl, hb⟩
      refine ⟨_, rfl, ?_⟩
      replace BK311 := kB BK311 hb
      replace BK312 := kB BK312 hb
      replace BK313 := kB BK313 hb
      replace BK314 := kB BK314 hb
      replace BK321 := kB BK321 hb
      replace HB := kH _ hb
      (try clear hb)
      (try clear hb2)
      (try clear hk)
      (try clear hi)
      refine hK.out _ _ ⟨bc BK321 0, bc BK321 1⟩ (fun hHeld => ?_)
      clear hK K
      refine norm_ (a' := ?_) ?_ ?_
      rotate_left
      ·show Act.put _ (some 100) _ = _
       simp only [Act.put, List.setIfInBounds_toArray, List.set_cons_zero, List.set_cons_succ, i64_w, i32_w]
       rfl
      refine pS 7 93 12 255 ?_
      refine pS 8 101 12 511 ?_
      refine pS 9 102 12 1023 ?_
      refine pS 10 18 12 2047 ?_
      refine pS 11 11 12 4095 ?_
      refine done_ (done_of HT_.out (by kernel_rfl)) ?_
      have hnb145 := NB311_312.out
      have hnc145 := NB312_311.out
      have hnb146 := NB311_313.out
      have hnc146 := NB313_311.out
      have hnb147 := NB311_314.out
      have hnc147 := NB314_311.out
      have hnb148 := NB311_321.out
      have hnc148 := NB321_311.out
      have hcz149_0 : w144.cell? ⟨gb311, 0, none⟩ = some (.int .i64 a0_0) := bc BK311 0
      have hcz149_1 : w144.cell? ⟨gb311, 1, none⟩ = some (.int .i64 a0_1) := bc BK311 1
      have hfz149_0 := fz BK311 0
      have hfz149_1 := fz BK311 1
      have hnb150 := NB314_312.out
      have hnc150 := NB312_314.out
      have hnb151 := NB314_313.out
      have hnc151 := NB313_314.out
      have hnb152 := NB314_321.out
      have hnc152 := NB321_314.out
      have hcz153_0 : w144.cell? ⟨gb314, 0, none⟩ = some (.int .i64 0) := bc BK314 0
      have hcz153_1 : w144.cell? ⟨gb314, 1, none⟩ = some (.int .i64 0) := bc BK314 1
      have hfz153_0 := fz BK314 0
      have hfz153_1 := fz BK314 1
      try go_wp2
      refine bodyPost_ret (results_ct rfl _ _ gb314 26 #[.int .i64 a0_0, .int .i64 a0_1] (0, 0) _ rfl (by (with_reducible repeat (first | refine blk_drewN ?_ _ | refine blk_drew ?_ | refine blk_alloc ?_ _)); refine blk_put (cs := #[.int .i64 a0_0, .int .i64 0]) ?_ 1 _ rfl; (with_reducible repeat (first | refine blk_drewN ?_ _ | refine blk_drew ?_ | refine blk_alloc ?_ _)); refine blk_put (cs := #[.int .i64 0, .int .i64 0]) ?_ 0 _ rfl; (with_reducible repeat (first | refine blk_drewN ?_ _ | refine blk_drew ?_ | refine blk_alloc ?_ _)); exact BK314.out) Tryd.underlying26 rfl (by kernel_rfl)) rfl ?_
      exact ⟨by first | rfl | (simp [errW_none, errW_some] <;> rfl) | (simp [*, errW_none, errW_some] <;> rfl), hbC _⟩
     subst c90
     have H1 : (if t327 = true then (if (mx (mx (mx t324 (wrap64 (-t324))) t326) (wrap64 (-t326))) > 2305843009213693952 then (some (a0_0, a0_1, false)) else ((congouref04_Frac.f k2 (wrap64 (t324 + t326)) t322).bind fun bt328 => (some (bt328.1, bt328.2, true)))) else (some (a0_0, a0_1, false))) = some (r1, r2, r3) := by rw [if_pos rfl] at H; exact H
     clear H
     have H := H1
     clear H1
     by_cases c91 : t327 = true
     rotate_left
     ·replace c91 := Bool.eq_false_iff.mpr c91
      subst c91
      have H1 : (some (a0_0, a0_1, false)) = some (r1, r2, r3) := by rw [if_neg (show ¬ (false = true) by decide)] at H; exact H
      clear H
      have H := H1
      clear H1
      simp only [Option.some.injEq, Prod.mk.injEq] at H
      obtain ⟨rfl, rfl, rfl⟩ := H
      try go_wp2
      replace BK311 := kd BK311
      replace BK312 := kd BK312
      replace BK313 := kd BK313
      replace BK314 := kd BK314
      replace BK321 := kd BK321
      replace HB := ak (below_drew1 HB.out)
      refine sS (n := 12) (S := fun w' => w'.cell? ⟨gb311, 0, none⟩ = some (.int .i64 a0_0) ∧ w'.cell? ⟨gb311, 1, none⟩ = some (.int .i64 a0_1) ∧ w'.cell? ⟨gb321, 0, none⟩ = some (.int .i64 t319) ∧ w'.cell? ⟨gb321, 1, none⟩ = some (.int .i64 t320)) (ds := []) ⟨bc BK311 0, bc BK311 1, bc BK321 0, bc BK321 1⟩ (fun hHeld => ?_); refine with_tabW congoulaw04_more.tab9 congoulaw04_more.bits9 (fun HT_ HW_ => ?_)
      generalize wr.drew = w124 at BK311 BK312 BK313 BK314 BK321 HB hHeld ⊢
      refine pS 0 71 12 1 ?_
      refine pS 2 73 12 5 ?_
      refine pS 4 75 12 21 ?_
      refine tS 1 72 12 23 ?_
      refine pS 3 74 12 31 ?_
      refine tS 5 76 12 63 ?_
      refine one_ (i := 6) (N := some 77) (ba 12 127) rfl rfl (one_of HT_.out (by kernel_rfl)) (by decide) (fun K hK => ?_)
      refine gC Tryd.func21 #[.int .i64 (wrap64 (Int.tdiv a0_1 x13_2)), .int .i64 t320] ?_
      with_reducible refine (congoulaw04_product.calls (wrap64 (Int.tdiv a0_1 x13_2)) t320 t322 true _ A84.out).mono ?_
      rintro e w125 ⟨rfl, hb⟩
      refine ⟨_, rfl, ?_⟩
      replace BK311 := kB BK311 hb
      replace BK312 := kB BK312 hb
      replace BK313 := kB BK313 hb
      replace BK314 := kB BK314 hb
      replace BK321 := kB BK321 hb
      replace HB := kH _ hb
      (try clear hb)
      (try clear hb2)
      (try clear hk)
      (try clear hi)
      refine hK.out _ _ ⟨bc BK311 0, bc BK311 1, bc BK321 0, bc BK321 1⟩ (fun hHeld => ?_)
      clear hK K
      refine norm_ (a' := ?_) ?_ ?_
      rotate_left
      ·show Act.put _ (some 77) _ = _
       simp only [Act.put, List.setIfInBounds_toArray, List.set_cons_zero, List.set_cons_succ, i64_w, i32_w]
       rfl
      refine pS 7 70 12 255 ?_
      refine pS 8 78 12 511 ?_
      refine pS 9 79 12 1023 ?_
      refine pS 10 15 12 2047 ?_
      refine pS 11 16 12 4095 ?_
      refine done_ (done_of HT_.out (by kernel_rfl)) ?_
      try go_wp2
      replace BK311 := kd BK311
      replace BK312 := kd BK312
      replace BK313 := kd BK313
      replace BK314 := kd BK314
      replace BK321 := kd BK321
      replace HB := ak (below_drew1 HB.out)
      refine sS (n := 12) (S := fun w' => w'.cell? ⟨gb311, 0, none⟩ = some (.int .i64 a0_0) ∧ w'.cell? ⟨gb311, 1, none⟩ = some (.int .i64 a0_1)) (ds := []) ⟨bc BK311 0, bc BK311 1⟩ (fun hHeld => ?_); refine with_tabW congoulaw04_more.tab12 congoulaw04_more.bits12 (fun HT_ HW_ => ?_)
      generalize w125.drew = w126 at BK311 BK312 BK313 BK314 BK321 HB hHeld ⊢
      refine pS 0 84 12 1 ?_
      refine pS 2 86 12 5 ?_
      refine pS 3 87 12 13 ?_
      refine tS 1 85 12 15 ?_
      refine tS 4 88 12 31 ?_
      refine pS 5 89 12 63 ?_
      refine one_ (i := 6) (N := some 90) (ba 12 127) rfl rfl (one_of HT_.out (by kernel_rfl)) (by decide) (fun K hK => ?_)
      refine gC Tryd.func21 #[.int .i64 a0_0, .int .i64 (wrap64 (Int.tdiv t322 a0_1))] ?_
      with_reducible refine (congoulaw04_product.calls a0_0 (wrap64 (Int.tdiv t322 a0_1)) t324 true _ A87.out).mono ?_
      rintro e w127 ⟨rfl, hb⟩
      refine ⟨_, rfl, ?_⟩
      replace BK311 := kB BK311 hb
      replace BK312 := kB BK312 hb
      replace BK313 := kB BK313 hb
      replace BK314 := kB BK314 hb
      replace BK321 := kB BK321 hb
      replace HB := kH _ hb
      (try clear hb)
      (try clear hb2)
      (try clear hk)
      (try clear hi)
      refine hK.out _ _ ⟨bc BK311 0, bc BK311 1⟩ (fun hHeld => ?_)
      clear hK K
      refine norm_ (a' := ?_) ?_ ?_
      rotate_left
      ·show Act.put _ (some 90) _ = _
       simp only [Act.put, List.setIfInBounds_toArray, List.set_cons_zero, List.set_cons_succ, i64_w, i32_w]
       rfl
      refine pS 7 83 12 255 ?_
      refine pS 8 91 12 511 ?_
      refine pS 9 92 12 1023 ?_
      refine pS 10 17 12 2047 ?_
      refine pS 11 9 12 4095 ?_
      refine done_ (done_of HT_.out (by kernel_rfl)) ?_
      try go_wp2
      replace BK311 := kd BK311
      replace BK312 := kd BK312
      replace BK313 := kd BK313
      replace BK314 := kd BK314
      replace BK321 := kd BK321
      replace HB := ak (below_drew1 HB.out)
      refine sS (n := 12) (S := fun w' => w'.cell? ⟨gb321, 0, none⟩ = some (.int .i64 t319) ∧ w'.cell? ⟨gb321, 1, none⟩ = some (.int .i64 t320)) (ds := []) ⟨bc BK321 0, bc BK321 1⟩ (fun hHeld => ?_); refine with_tabW congoulaw04_more.tab13 congoulaw04_more.bits13 (fun HT_ HW_ => ?_)
      generalize w127.drew = w128 at BK311 BK312 BK313 BK314 BK321 HB hHeld ⊢
      refine pS 0 94 12 1 ?_
      refine pS 2 96 12 5 ?_
      refine pS 3 97 12 13 ?_
      refine tS 1 95 12 15 ?_
      refine tS 4 98 12 31 ?_
      refine pS 5 99 12 63 ?_
      refine one_ (i := 6) (N := some 100) (ba 12 127) rfl rfl (one_of HT_.out (by kernel_rfl)) (by decide) (fun K hK => ?_)
      refine gC Tryd.func21 #[.int .i64 t319, .int .i64 (wrap64 (Int.tdiv t322 t320))] ?_
      with_reducible refine (congoulaw04_product.calls t319 (wrap64 (Int.tdiv t322 t320)) t326 false _ A89.out).mono ?_
      rintro e w129 ⟨rfl, hb⟩
      refine ⟨_, rfl, ?_⟩
      replace BK311 := kB BK311 hb
      replace BK312 := kB BK312 hb
      replace BK313 := kB BK313 hb
      replace BK314 := kB BK314 hb
      replace BK321 := kB BK321 hb
      replace HB := kH _ hb
      (try clear hb)
      (try clear hb2)
      (try clear hk)
      (try clear hi)
      refine hK.out _ _ ⟨bc BK321 0, bc BK321 1⟩ (fun hHeld => ?_)
      clear hK K
      refine norm_ (a' := ?_) ?_ ?_
      rotate_left
      ·show Act.put _ (some 100) _ = _
       simp only [Act.put, List.setIfInBounds_toArray, List.set_cons_zero, List.set_cons_succ, i64_w, i32_w]
       rfl
      refine pS 7 93 12 255 ?_
      refine pS 8 101 12 511 ?_
      refine pS 9 102 12 1023 ?_
      refine pS 10 18 12 2047 ?_
      refine pS 11 11 12 4095 ?_
      refine done_ (done_of HT_.out (by kernel_rfl)) ?_
      have hnb130 := NB311_312.out
      have hnc130 := NB312_311.out
      have hnb131 := NB311_313.out
      have hnc131 := NB313_311.out
      have hnb132 := NB311_314.out
      have hnc132 := NB314_311.out
      have hnb133 := NB311_321.out
      have hnc133 := NB321_311.out
      have hcz134_0 : w129.cell? ⟨gb311, 0, none⟩ = some (.int .i64 a0_0) := bc BK311 0
      have hcz134_1 : w129.cell? ⟨gb311, 1, none⟩ = some (.int .i64 a0_1) := bc BK311 1
      have hfz134_0 := fz BK311 0
      have hfz134_1 := fz BK311 1
      have hnb135 := NB314_312.out
      have hnc135 := NB312_314.out
      have hnb136 := NB314_313.out
      have hnc136 := NB313_314.out
      have hnb137 := NB314_321.out
      have hnc137 := NB321_314.out
      have hcz138_0 : w129.cell? ⟨gb314, 0, none⟩ = some (.int .i64 0) := bc BK314 0
      have hcz138_1 : w129.cell? ⟨gb314, 1, none⟩ = some (.int .i64 0) := bc BK314 1
      have hfz138_0 := fz BK314 0
      have hfz138_1 := fz BK314 1
      try go_wp2
      refine bodyPost_ret (results_ct rfl _ _ gb314 26 #[.int .i64 a0_0, .int .i64 a0_1] (0, 0) _ rfl (by (with_reducible repeat (first | refine blk_drewN ?_ _ | refine blk_drew ?_ | refine blk_alloc ?_ _)); refine blk_put (cs := #[.int .i64 a0_0, .int .i64 0]) ?_ 1 _ rfl; (with_reducible repeat (first | refine blk_drewN ?_ _ | refine blk_drew ?_ | refine blk_alloc ?_ _)); refine blk_put (cs := #[.int .i64 0, .int .i64 0]) ?_ 0 _ rfl; (with_reducible repeat (first | refine blk_drewN ?_ _ | refine blk_drew ?_ | refine blk_alloc ?_ _)); exact BK314.out) Tryd.underlying26 rfl (by kernel_rfl)) rfl ?_
      exact ⟨by first | rfl | (simp [errW_none, errW_some] <;> rfl) | (simp [*, errW_none, errW_some] <;> rfl), hbC _⟩
     subst c91
     have H1 : (if (mx (mx (mx t324 (wrap64 (-t324))) t326) (wrap64 (-t326))) > 2305843009213693952 then (some (a0_0, a0_1, false)) else ((congouref04_Frac.f k2 (wrap64 (t324 + t326)) t322).bind fun bt328 => (some (bt328.1, bt328.2, true)))) = some (r1, r2, r3) := by rw [if_pos rfl] at H; exact H
     clear H
     have H := H1
     clear H1
     obtain ⟨ji92, hji92⟩ : ∃ j_ : Int, (mx t324 (wrap64 (-t324))) = j_ := ⟨_, rfl⟩
     replace H : (if (mx (mx (ji92) t326) (wrap64 (-t326))) > 2305843009213693952 then (some (a0_0, a0_1, false)) else ((congouref04_Frac.f k2 (wrap64 (t324 + t326)) t322).bind fun bt328 => (some (bt328.1, bt328.2, true)))) = some (r1, r2, r3) := by first | (rw [hji92] at H; exact H) | (simp only [hji92] at H ⊢; exact H)
     (try rw [hji92] at A84)
     (try rw [hji92] at A87)
     (try rw [hji92] at A89)
     have hji92_ : (if t324 < (wrap64 (-t324)) then (wrap64 (-t324)) else t324) = ji92 := hji92
     obtain ⟨ji93, hji93⟩ : ∃ j_ : Int, (mx (ji92) t326) = j_ := ⟨_, rfl⟩
     replace H : (if (mx (ji93) (wrap64 (-t326))) > 2305843009213693952 then (some (a0_0, a0_1, false)) else ((congouref04_Frac.f k2 (wrap64 (t324 + t326)) t322).bind fun bt328 => (some (bt328.1, bt328.2, true)))) = some (r1, r2, r3) := by first | (rw [hji93] at H; exact H) | (simp only [hji93] at H ⊢; exact H)
     (try rw [hji93] at A84)
     (try rw [hji93] at A87)
     (try rw [hji93] at A89)
     have hji93_ : (if (ji92) < t326 then t326 else (ji92)) = ji93 := hji93
     obtain ⟨ji94, hji94⟩ : ∃ j_ : Int, (mx (ji93) (wrap64 (-t326))) = j_ := ⟨_, rfl⟩
     replace H : (if (ji94) > 2305843009213693952 then (some (a0_0, a0_1, false)) else ((congouref04_Frac.f k2 (wrap64 (t324 + t326)) t322).bind fun bt328 => (some (bt328.1, bt328.2, true)))) = some (r1, r2, r3) := by first | (rw [hji94] at H; exact H) | (simp only [hji94] at H ⊢; exact H)
     (try rw [hji94] at A84)
     (try rw [hji94] at A87)
     (try rw [hji94] at A89)
     have hji94_ : (if (ji93) < (wrap64 (-t326)) then (wrap64 (-t326)) else (ji93)) = ji94 := hji94
     by_cases c95 : (ji94) > 2305843009213693952
     ·rw [if_pos c95] at H
      have c95b0 : decide (2305843009213693952 < (ji94)) = true := decide_eq_true c95
      clear c95
      simp only [Option.some.injEq, Prod.mk.injEq] at H
      obtain ⟨rfl, rfl, rfl⟩ := H
      try go_wp2
      replace BK311 := kd BK311
      replace BK312 := kd BK312
      replace BK313 := kd BK313
      replace BK314 := kd BK314
      replace BK321 := kd BK321
      replace HB := ak (below_drew1 HB.out)
      refine sS (n := 12) (S := fun w' => w'.cell? ⟨gb311, 0, none⟩ = some (.int .i64 a0_0) ∧ w'.cell? ⟨gb311, 1, none⟩ = some (.int .i64 a0_1) ∧ w'.cell? ⟨gb321, 0, none⟩ = some (.int .i64 t319) ∧ w'.cell? ⟨gb321, 1, none⟩ = some (.int .i64 t320)) (ds := []) ⟨bc BK311 0, bc BK311 1, bc BK321 0, bc BK321 1⟩ (fun hHeld => ?_); refine with_tabW congoulaw04_more.tab9 congoulaw04_more.bits9 (fun HT_ HW_ => ?_)
      generalize wr.drew = w96 at BK311 BK312 BK313 BK314 BK321 HB hHeld ⊢
      refine pS 0 71 12 1 ?_
      refine pS 2 73 12 5 ?_
      refine pS 4 75 12 21 ?_
      refine tS 1 72 12 23 ?_
      refine pS 3 74 12 31 ?_
      refine tS 5 76 12 63 ?_
      refine one_ (i := 6) (N := some 77) (ba 12 127) rfl rfl (one_of HT_.out (by kernel_rfl)) (by decide) (fun K hK => ?_)
      refine gC Tryd.func21 #[.int .i64 (wrap64 (Int.tdiv a0_1 x13_2)), .int .i64 t320] ?_
      with_reducible refine (congoulaw04_product.calls (wrap64 (Int.tdiv a0_1 x13_2)) t320 t322 true _ A84.out).mono ?_
      rintro e w97 ⟨rfl, hb⟩
      refine ⟨_, rfl, ?_⟩
      replace BK311 := kB BK311 hb
      replace BK312 := kB BK312 hb
      replace BK313 := kB BK313 hb
      replace BK314 := kB BK314 hb
      replace BK321 := kB BK321 hb
      replace HB := kH _ hb
      (try clear hb)
      (try clear hb2)
      (try clear hk)
      (try clear hi)
      refine hK.out _ _ ⟨bc BK311 0, bc BK311 1, bc BK321 0, bc BK321 1⟩ (fun hHeld => ?_)
      clear hK K
      refine norm_ (a' := ?_) ?_ ?_
      rotate_left
      ·show Act.put _ (some 77) _ = _
       simp only [Act.put, List.setIfInBounds_toArray, List.set_cons_zero, List.set_cons_succ, i64_w, i32_w]
       rfl
      refine pS 7 70 12 255 ?_
      refine pS 8 78 12 511 ?_
      refine pS 9 79 12 1023 ?_
      refine pS 10 15 12 2047 ?_
      refine pS 11 16 12 4095 ?_
      refine done_ (done_of HT_.out (by kernel_rfl)) ?_
      try go_wp2
      replace BK311 := kd BK311
      replace BK312 := kd BK312
      replace BK313 := kd BK313
      replace BK314 := kd BK314
      replace BK321 := kd BK321
      replace HB := ak (below_drew1 HB.out)
      refine sS (n := 12) (S := fun w' => w'.cell? ⟨gb311, 0, none⟩ = some (.int .i64 a0_0) ∧ w'.cell? ⟨gb311, 1, none⟩ = some (.int .i64 a0_1)) (ds := []) ⟨bc BK311 0, bc BK311 1⟩ (fun hHeld => ?_); refine with_tabW congoulaw04_more.tab12 congoulaw04_more.bits12 (fun HT_ HW_ => ?_)
      generalize w97.drew = w98 at BK311 BK312 BK313 BK314 BK321 HB hHeld ⊢
      refine pS 0 84 12 1 ?_
      refine pS 2 86 12 5 ?_
      refine pS 3 87 12 13 ?_
      refine tS 1 85 12 15 ?_
      refine tS 4 88 12 31 ?_
      refine pS 5 89 12 63 ?_
      refine one_ (i := 6) (N := some 90) (ba 12 127) rfl rfl (one_of HT_.out (by kernel_rfl)) (by decide) (fun K hK => ?_)
      refine gC Tryd.func21 #[.int .i64 a0_0, .int .i64 (wrap64 (Int.tdiv t322 a0_1))] ?_
      with_reducible refine (congoulaw04_product.calls a0_0 (wrap64 (Int.tdiv t322 a0_1)) t324 true _ A87.out).mono ?_
      rintro e w99 ⟨rfl, hb⟩
      refine ⟨_, rfl, ?_⟩
      replace BK311 := kB BK311 hb
      replace BK312 := kB BK312 hb
      replace BK313 := kB BK313 hb
      replace BK314 := kB BK314 hb
      replace BK321 := kB BK321 hb
      replace HB := kH _ hb
      (try clear hb)
      (try clear hb2)
      (try clear hk)
      (try clear hi)
      refine hK.out _ _ ⟨bc BK311 0, bc BK311 1⟩ (fun hHeld => ?_)
      clear hK K
      refine norm_ (a' := ?_) ?_ ?_
      rotate_left
      ·show Act.put _ (some 90) _ = _
       simp only [Act.put, List.setIfInBounds_toArray, List.set_cons_zero, List.set_cons_succ, i64_w, i32_w]
       rfl
      refine pS 7 83 12 255 ?_
      refine pS 8 91 12 511 ?_
      refine pS 9 92 12 1023 ?_
      refine pS 10 17 12 2047 ?_
      refine pS 11 9 12 4095 ?_
      refine done_ (done_of HT_.out (by kernel_rfl)) ?_
      try go_wp2
      replace BK311 := kd BK311
      replace BK312 := kd BK312
      replace BK313 := kd BK313
      replace BK314 := kd BK314
      replace BK321 := kd BK321
      replace HB := ak (below_drew1 HB.out)
      refine sS (n := 12) (S := fun w' => w'.cell? ⟨gb321, 0, none⟩ = some (.int .i64 t319) ∧ w'.cell? ⟨gb321, 1, none⟩ = some (.int .i64 t320)) (ds := []) ⟨bc BK321 0, bc BK321 1⟩ (fun hHeld => ?_); refine with_tabW congoulaw04_more.tab13 congoulaw04_more.bits13 (fun HT_ HW_ => ?_)
      generalize w99.drew = w100 at BK311 BK312 BK313 BK314 BK321 HB hHeld ⊢
      refine pS 0 94 12 1 ?_
      refine pS 2 96 12 5 ?_
      refine pS 3 97 12 13 ?_
      refine tS 1 95 12 15 ?_
      refine tS 4 98 12 31 ?_
      refine pS 5 99 12 63 ?_
      refine one_ (i := 6) (N := some 100) (ba 12 127) rfl rfl (one_of HT_.out (by kernel_rfl)) (by decide) (fun K hK => ?_)
      refine gC Tryd.func21 #[.int .i64 t319, .int .i64 (wrap64 (Int.tdiv t322 t320))] ?_
      with_reducible refine (congoulaw04_product.calls t319 (wrap64 (Int.tdiv t322 t320)) t326 true _ A89.out).mono ?_
      rintro e w101 ⟨rfl, hb⟩
      refine ⟨_, rfl, ?_⟩
      replace BK311 := kB BK311 hb
      replace BK312 := kB BK312 hb
      replace BK313 := kB BK313 hb
      replace BK314 := kB BK314 hb
      replace BK321 := kB BK321 hb
      replace HB := kH _ hb
      (try clear hb)
      (try clear hb2)
      (try clear hk)
      (try clear hi)
      refine hK.out _ _ ⟨bc BK321 0, bc BK321 1⟩ (fun hHeld => ?_)
      clear hK K
      refine norm_ (a' := ?_) ?_ ?_
      rotate_left
      ·show Act.put _ (some 100) _ = _
       simp only [Act.put, List.setIfInBounds_toArray, List.set_cons_zero, List.set_cons_succ, i64_w, i32_w]
       rfl
      refine pS 7 93 12 255 ?_
      refine pS 8 101 12 511 ?_
      refine pS 9 102 12 1023 ?_
      refine pS 10 18 12 2047 ?_
      refine pS 11 11 12 4095 ?_
      refine done_ (done_of HT_.out (by kernel_rfl)) ?_
      have hnb102 := NB311_312.out
      have hnc102 := NB312_311.out
      have hnb103 := NB311_313.out
      have hnc103 := NB313_311.out
      have hnb104 := NB311_314.out
      have hnc104 := NB314_311.out
      have hnb105 := NB311_321.out
      have hnc105 := NB321_311.out
      have hcz106_0 : w101.cell? ⟨gb311, 0, none⟩ = some (.int .i64 a0_0) := bc BK311 0
      have hcz106_1 : w101.cell? ⟨gb311, 1, none⟩ = some (.int .i64 a0_1) := bc BK311 1
      have hfz106_0 := fz BK311 0
      have hfz106_1 := fz BK311 1
      have hnb107 := NB314_312.out
      have hnc107 := NB312_314.out
      have hnb108 := NB314_313.out
      have hnc108 := NB313_314.out
      have hnb109 := NB314_321.out
      have hnc109 := NB321_314.out
      have hcz110_0 : w101.cell? ⟨gb314, 0, none⟩ = some (.int .i64 0) := bc BK314 0
      have hcz110_1 : w101.cell? ⟨gb314, 1, none⟩ = some (.int .i64 0) := bc BK314 1
      have hfz110_0 := fz BK314 0
      have hfz110_1 := fz BK314 1
      try go_wp2
      refine bodyPost_ret (results_ct rfl _ _ gb314 26 #[.int .i64 a0_0, .int .i64 a0_1] (0, 0) _ rfl (by (with_reducible repeat (first | refine blk_drewN ?_ _ | refine blk_drew ?_ | refine blk_alloc ?_ _)); refine blk_put (cs := #[.int .i64 a0_0, .int .i64 0]) ?_ 1 _ rfl; (with_reducible repeat (first | refine blk_drewN ?_ _ | refine blk_drew ?_ | refine blk_alloc ?_ _)); refine blk_put (cs := #[.int .i64 0, .int .i64 0]) ?_ 0 _ rfl; (with_reducible repeat (first | refine blk_drewN ?_ _ | refine blk_drew ?_ | refine blk_alloc ?_ _)); exact BK314.out) Tryd.underlying26 rfl (by kernel_rfl)) rfl ?_
      exact ⟨by first | rfl | (simp [errW_none, errW_some] <;> rfl) | (simp only [← hji92, ← hji93, ← hji94]; first | rfl | (simp [errW_none, errW_some] <;> rfl)) | (simp [*, errW_none, errW_some] <;> rfl), hbC _⟩
     rw [if_neg c95] at H
     have c95b0 : decide (2305843009213693952 < (ji94)) = false := decide_eq_false c95
     clear c95
     replace H := Option.bind_eq_some_iff.mp H
     obtain ⟨⟨t328, t329⟩, A1110, H⟩ := H
     replace H : (some (t328, t329, true)) = some (r1, r2, r3) := H
     have A111 := Aside0.mk A1110
     clear A1110
     simp only [Option.some.injEq, Prod.mk.injEq] at H
     obtain ⟨rfl, rfl, rfl⟩ := H
     try go_wp2
     replace BK311 := kd BK311
     replace BK312 := kd BK312
     replace BK313 := kd BK313
     replace BK314 := kd BK314
     replace BK321 := kd BK321
     replace HB := ak (below_drew1 HB.out)
     refine sS (n := 12) (S := fun w' => w'.cell? ⟨gb311, 0, none⟩ = some (.int .i64 a0_0) ∧ w'.cell? ⟨gb311, 1, none⟩ = some (.int .i64 a0_1) ∧ w'.cell? ⟨gb321, 0, none⟩ = some (.int .i64 t319) ∧ w'.cell? ⟨gb321, 1, none⟩ = some (.int .i64 t320)) (ds := []) ⟨bc BK311 0, bc BK311 1, bc BK321 0, bc BK321 1⟩ (fun hHeld => ?_); refine with_tabW congoulaw04_more.tab9 congoulaw04_more.bits9 (fun HT_ HW_ => ?_)
     generalize wr.drew = w112 at BK311 BK312 BK313 BK314 BK321 HB hHeld ⊢
     refine pS 0 71 12 1 ?_
     refine pS 2 73 12 5 ?_
     refine pS 4 75 12 21 ?_
     refine tS 1 72 12 23 ?_
     refine pS 3 74 12 31 ?_
     refine tS 5 76 12 63 ?_
     refine one_ (i := 6) (N := some 77) (ba 12 127) rfl rfl (one_of HT_.out (by kernel_rfl)) (by decide) (fun K hK => ?_)
     refine gC Tryd.func21 #[.int .i64 (wrap64 (Int.tdiv a0_1 x13_2)), .int .i64 t320] ?_
     with_reducible refine (congoulaw04_product.calls (wrap64 (Int.tdiv a0_1 x13_2)) t320 t322 true _ A84.out).mono ?_
     rintro e w113 ⟨rfl, hb⟩
     refine ⟨_, rfl, ?_⟩
     replace BK311 := kB BK311 hb
     replace BK312 := kB BK312 hb
     replace BK313 := kB BK313 hb
     replace BK314 := kB BK314 hb
     replace BK321 := kB BK321 hb
     replace HB := kH _ hb
     (try clear hb)
     (try clear hb2)
     (try clear hk)
     (try clear hi)
     refine hK.out _ _ ⟨bc BK311 0, bc BK311 1, bc BK321 0, bc BK321 1⟩ (fun hHeld => ?_)
     clear hK K
     refine norm_ (a' := ?_) ?_ ?_
     rotate_left
     ·show Act.put _ (some 77) _ = _
      simp only [Act.put, List.setIfInBounds_toArray, List.set_cons_zero, List.set_cons_succ, i64_w, i32_w]
      rfl
     refine pS 7 70 12 255 ?_
     refine pS 8 78 12 511 ?_
     refine pS 9 79 12 1023 ?_
     refine pS 10 15 12 2047 ?_
     refine pS 11 16 12 4095 ?_
     refine done_ (done_of HT_.out (by kernel_rfl)) ?_
     try go_wp2
     replace BK311 := kd BK311
     replace BK312 := kd BK312
     replace BK313 := kd BK313
     replace BK314 := kd BK314
     replace BK321 := kd BK321
     replace HB := ak (below_drew1 HB.out)
     refine sS (n := 12) (S := fun w' => w'.cell? ⟨gb311, 0, none⟩ = some (.int .i64 a0_0) ∧ w'.cell? ⟨gb311, 1, none⟩ = some (.int .i64 a0_1)) (ds := []) ⟨bc BK311 0, bc BK311 1⟩ (fun hHeld => ?_); refine with_tabW congoulaw04_more.tab12 congoulaw04_more.bits12 (fun HT_ HW_ => ?_)
     generalize w113.drew = w114 at BK311 BK312 BK313 BK314 BK321 HB hHeld ⊢
     refine pS 0 84 12 1 ?_
     refine pS 2 86 12 5 ?_
     refine pS 3 87 12 13 ?_
     refine tS 1 85 12 15 ?_
     refine tS 4 88 12 31 ?_
     refine pS 5 89 12 63 ?_
     refine one_ (i := 6) (N := some 90) (ba 12 127) rfl rfl (one_of HT_.out (by kernel_rfl)) (by decide) (fun K hK => ?_)
     refine gC Tryd.func21 #[.int .i64 a0_0, .int .i64 (wrap64 (Int.tdiv t322 a0_1))] ?_
     with_reducible refine (congoulaw04_product.calls a0_0 (wrap64 (Int.tdiv t322 a0_1)) t324 true _ A87.out).mono ?_
     rintro e w115 ⟨rfl, hb⟩
     refine ⟨_, rfl, ?_⟩
     replace BK311 := kB BK311 hb
     replace BK312 := kB BK312 hb
     replace BK313 := kB BK313 hb
     replace BK314 := kB BK314 hb
     replace BK321 := kB BK321 hb
     replace HB := kH _ hb
     (try clear hb)
     (try clear hb2)
     (try clear hk)
     (try clear hi)
     refine hK.out _ _ ⟨bc BK311 0, bc BK311 1⟩ (fun hHeld => ?_)
     clear hK K
     refine norm_ (a' := ?_) ?_ ?_
     rotate_left
     ·show Act.put _ (some 90) _ = _
      simp only [Act.put, List.setIfInBounds_toArray, List.set_cons_zero, List.set_cons_succ, i64_w, i32_w]
      rfl
     refine pS 7 83 12 255 ?_
     refine pS 8 91 12 511 ?_
     refine pS 9 92 12 1023 ?_
     refine pS 10 17 12 2047 ?_
     refine pS 11 9 12 4095 ?_
     refine done_ (done_of HT_.out (by kernel_rfl)) ?_
     try go_wp2
     replace BK311 := kd BK311
     replace BK312 := kd BK312
     replace BK313 := kd BK313
     replace BK314 := kd BK314
     replace BK321 := kd BK321
     replace HB := ak (below_drew1 HB.out)
     refine sS (n := 12) (S := fun w' => w'.cell? ⟨gb321, 0, none⟩ = some (.int .i64 t319) ∧ w'.cell? ⟨gb321, 1, none⟩ = some (.int .i64 t320)) (ds := []) ⟨bc BK321 0, bc BK321 1⟩ (fun hHeld => ?_); refine with_tabW congoulaw04_more.tab13 congoulaw04_more.bits13 (fun HT_ HW_ => ?_)
     generalize w115.drew = w116 at BK311 BK312 BK313 BK314 BK321 HB hHeld ⊢
     refine pS 0 94 12 1 ?_
     refine pS 2 96 12 5 ?_
     refine pS 3 97 12 13 ?_
     refine tS 1 95 12 15 ?_
     refine tS 4 98 12 31 ?_
     refine pS 5 99 12 63 ?_
     refine one_ (i := 6) (N := some 100) (ba 12 127) rfl rfl (one_of HT_.out (by kernel_rfl)) (by decide) (fun K hK => ?_)
     refine gC Tryd.func21 #[.int .i64 t319, .int .i64 (wrap64 (Int.tdiv t322 t320))] ?_
     with_reducible refine (congoulaw04_product.calls t319 (wrap64 (Int.tdiv t322 t320)) t326 true _ A89.out).mono ?_
     rintro e w117 ⟨rfl, hb⟩
     refine ⟨_, rfl, ?_⟩
     replace BK311 := kB BK311 hb
     replace BK312 := kB BK312 hb
     replace BK313 := kB BK313 hb
     replace BK314 := kB BK314 hb
     replace BK321 := kB BK321 hb
     replace HB := kH _ hb
     (try clear hb)
     (try clear hb2)
     (try clear hk)
     (try clear hi)
     refine hK.out _ _ ⟨bc BK321 0, bc BK321 1⟩ (fun hHeld => ?_)
     clear hK K
     refine norm_ (a' := ?_) ?_ ?_
     rotate_left
     ·show Act.put _ (some 100) _ = _
      simp only [Act.put, List.setIfInBounds_toArray, List.set_cons_zero, List.set_cons_succ, i64_w, i32_w]
      rfl
     refine pS 7 93 12 255 ?_
     refine pS 8 101 12 511 ?_
     refine pS 9 102 12 1023 ?_
     refine pS 10 18 12 2047 ?_
     refine pS 11 11 12 4095 ?_
     refine done_ (done_of HT_.out (by kernel_rfl)) ?_
     try go_wp2_with (first | ((with_reducible refine gate_callee (f := 22) rfl ?_); refine gL 124 Tryd.func22 #[.int .i64 (wrap64 (t324 + t326)), .int .i64 t322] ?_; (with_reducible refine (congouref04_Frac.calls k2 (wrap64 (t324 + t326)) t322 t328 t329 _ A111.out).mono ?_); rintro e w118 ⟨rfl, hb⟩; refine ⟨_, rfl, ?_⟩; replace BK311 := kB BK311 hb; replace BK312 := kB BK312 hb; replace BK313 := kB BK313 hb; replace BK314 := kB BK314 hb; replace BK321 := kB BK321 hb; replace HB := kH _ hb; (try clear hb); (try clear hb2); (try clear hk); (try clear hi); have hnb119 := NB314_311.out; have hnc119 := NB311_314.out; have hnb120 := NB314_312.out; have hnc120 := NB312_314.out; have hnb121 := NB314_313.out; have hnc121 := NB313_314.out; have hnb122 := NB314_321.out; have hnc122 := NB321_314.out; have hcz123_0 : w118.cell? ⟨gb314, 0, none⟩ = some (.int .i64 0) := bc BK314 0; have hcz123_1 : w118.cell? ⟨gb314, 1, none⟩ = some (.int .i64 0) := bc BK314 1; have hfz123_0 := fz BK314 0; have hfz123_1 := fz BK314 1))
     refine bodyPost_ret (results_ct rfl _ _ gb314 26 #[.int .i64 t328, .int .i64 t329] (0, 0) _ rfl (by (with_reducible repeat (first | refine blk_drewN ?_ _ | refine blk_drew ?_ | refine blk_alloc ?_ _)); refine blk_put (cs := #[.int .i64 t328, .int .i64 0]) ?_ 1 _ rfl; (with_reducible repeat (first | refine blk_drewN ?_ _ | refine blk_drew ?_ | refine blk_alloc ?_ _)); refine blk_put (cs := #[.int .i64 0, .int .i64 0]) ?_ 0 _ rfl; (with_reducible repeat (first | refine blk_drewN ?_ _ | refine blk_drew ?_ | refine blk_alloc ?_ _)); exact BK314.out) Tryd.underlying26 rfl (by kernel_rfl)) rfl ?_
     exact ⟨by first | rfl | (simp [errW_none, errW_some] <;> rfl) | (simp only [← hji92, ← hji93, ← hji94]; first | rfl | (simp [errW_none, errW_some] <;> rfl)) | (simp [*, errW_none, errW_some] <;> rfl), hbC _⟩

end Go.Proofs.YtpnocmkpeogifaaDoor.X
