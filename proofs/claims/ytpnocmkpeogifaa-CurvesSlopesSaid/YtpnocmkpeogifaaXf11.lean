-- Written by a program of this work (wip/xprint.py, over the kit's printer) out of the translation.
import Derived.Test.YtpnocmkpeogifaaX0
import Derived.Test.YtpnocmkpeogifaaXG1a
import Derived.Test.YtpnocmkpeogifaaXG2a
import Derived.Test.YtpnocmkpeogifaaXG3a
import Derived.Test.YtpnocmkpeogifaaXf15
import Derived.Test.YtpnocmkpeogifaaXf17
import Derived.Test.YtpnocmkpeogifaaXf29
import Derived.Test.YtpnocmkpeogifaaXf34
import Derived.Test.YtpnocmkpeogifaaXf40
import Derived.Test.YtpnocmkpeogifaaXf41
namespace Go.Proofs.Ytpnocmkpeogifaa.X
open Go.RowKit Go.Proofs.YtpnocmkpeogifaaW.PrintWords Go.Proofs.YtpnocmkpeogifaaW.PrintLast Go.Proofs.YtpnocmkpeogifaaW.PrintMore
attribute [local go_sem] max2_int min2_int max_two min_two max_three min_three max_four min_four   -- for this text's walks alone
set_option linter.unusedVariables false
set_option linter.unusedSimpArgs false

/-! ### congoulaw04_CurvesSlopes: function 11 -/
def congoulaw04_CurvesSlopes.j0 : Nat → Int → List Int → List (S26) → Int → List (S26) → Int → Bool → Int → List Int → List Int → Option (Bool)
 | 0, _, _, _, _, _, _, _, _, _, _ => none
 | k + 1, x3, x4, x5, x6, x7, x8, x34, x922000, x922001, x922002 => if x34 = true then ((congouref04_Valid.f k x922000 x922001 x922002).bind fun t949 => (if t949 = true then (if x3 = 0 then (if (wrap64 ((wrap64 ((x4.length : Int) + (x5.length : Int))) + (x7.length : Int))) = 0 then (if x6 = 4 then (if x8 = 4 then ((congoulaw04_awake.f k).bind fun t950 => (some t950)) else (some false)) else (some false)) else (some false)) else (some false)) else (if x3 = 0 then (if (wrap64 ((wrap64 ((x4.length : Int) + (x5.length : Int))) + (x7.length : Int))) = 0 then (if x6 = 2 then (if x8 = 2 then ((congoulaw04_awake.f k).bind fun t951 => (some t951)) else (some false)) else (some false)) else (some false)) else (some false)))) else ((congouref04_Slope.f k x922000 x922001 x922002).bind fun bt952 => (if x3 = bt952.1 then ((slices_Equal_int_int.f k x4 bt952.2.1).bind fun t959 => (if t959 = true then ((api_Frac.f k x5 bt952.2.2).bind fun t960 => (if t960 = true then ((congouref04_Means.f k x922000 x922001 x922002).bind fun t961 => ((api_Frac.f k x7 t961).bind fun t964 => (if t964 = true then (if x6 = 0 then (if x8 = 0 then ((congoulaw04_awake.f k).bind fun t965 => (some t965)) else (some false)) else (some false)) else (some false)))) else (some false))) else (some false))) else (some false)))
def congoulaw04_CurvesSlopes.f (k : Nat) (a0_0 : Int) (l0_1 : List Int) (l0_2 : List Int) : Option (Bool) := (congoulaw04_Of.f a0_0 l0_1 l0_2).bind fun bt922 => ((curves_Slope.f k bt922.1 bt922.2.1 bt922.2.2).bind fun bt929 => ((congoulaw04_Of.f a0_0 l0_1 l0_2).bind fun bt937 => ((curves_Means.f k bt937.1 bt937.2.1 bt937.2.2).bind fun bt944 => ((congouref04_Valid.f k a0_0 l0_1 l0_2).bind fun t948 => (if t948 = true then (congoulaw04_CurvesSlopes.j0 k bt929.1 bt929.2.1 bt929.2.2.1 bt929.2.2.2 bt944.1 bt944.2 (a0_0 == 0) a0_0 l0_1 l0_2) else (congoulaw04_CurvesSlopes.j0 k bt929.1 bt929.2.1 bt929.2.2.1 bt929.2.2.2 bt944.1 bt944.2 true a0_0 l0_1 l0_2))))))
theorem congoulaw04_CurvesSlopes.mono_l : ∀ k, (∀ y0 y1 y2 y3 y4 y5 y6 y7 y8 y9, LeO (congoulaw04_CurvesSlopes.j0 k y0 y1 y2 y3 y4 y5 y6 y7 y8 y9) (congoulaw04_CurvesSlopes.j0 (k + 1) y0 y1 y2 y3 y4 y5 y6 y7 y8 y9))
 | 0 => fun _ _ _ _ _ _ _ _ _ _ r h => by simp [congoulaw04_CurvesSlopes.j0] at h
 | k + 1 => by
  have ih0 := congoulaw04_CurvesSlopes.mono_l k
  ·intro y0 y1 y2 y3 y4 y5 y6 y7 y8 y9
   unfold congoulaw04_CurvesSlopes.j0
   repeat' first
   | (with_reducible exact ih0 _ _ _ _ _ _ _ _ _ _)
   | (with_reducible exact api_Frac.mono _ _ _)
   | (with_reducible exact congoulaw04_awake.mono _)
   | (with_reducible exact congouref04_Means.mono _ _ _ _)
   | (with_reducible exact congouref04_Slope.mono _ _ _ _)
   | (with_reducible exact congouref04_Valid.mono _ _ _ _)
   | (with_reducible exact curves_Means.mono _ _ _ _)
   | (with_reducible exact curves_Slope.mono _ _ _ _)
   | (with_reducible exact slices_Equal_int_int.mono _ _ _)
   | (with_reducible exact LeO.refl _)
   | (with_reducible exact LeO.none _)
   | (with_reducible refine LeO.ite ?_ ?_)
   | (with_reducible refine LeO.bind ?_ (fun _ => ?_))
   | exact ih0 _ _ _ _ _ _ _ _ _ _
   | exact api_Frac.mono _ _ _
   | exact congoulaw04_awake.mono _
   | exact congouref04_Means.mono _ _ _ _
   | exact congouref04_Slope.mono _ _ _ _
   | exact congouref04_Valid.mono _ _ _ _
   | exact curves_Means.mono _ _ _ _
   | exact curves_Slope.mono _ _ _ _
   | exact slices_Equal_int_int.mono _ _ _
   | exact LeO.none _
   | refine LeO.ite ?_ ?_
   | refine LeO.bind ?_ (fun _ => ?_)
theorem congoulaw04_CurvesSlopes.mono : ∀ a0 a1 a2 k, LeO (congoulaw04_CurvesSlopes.f k a0 a1 a2) (congoulaw04_CurvesSlopes.f (k + 1) a0 a1 a2) := by
 intro a0 a1 a2 k
 have ih0 := congoulaw04_CurvesSlopes.mono_l k
 unfold congoulaw04_CurvesSlopes.f
 repeat' first
   | (with_reducible exact ih0 _ _ _ _ _ _ _ _ _ _)
   | (with_reducible exact api_Frac.mono _ _ _)
   | (with_reducible exact congoulaw04_awake.mono _)
   | (with_reducible exact congouref04_Means.mono _ _ _ _)
   | (with_reducible exact congouref04_Slope.mono _ _ _ _)
   | (with_reducible exact congouref04_Valid.mono _ _ _ _)
   | (with_reducible exact curves_Means.mono _ _ _ _)
   | (with_reducible exact curves_Slope.mono _ _ _ _)
   | (with_reducible exact slices_Equal_int_int.mono _ _ _)
   | (with_reducible exact LeO.refl _)
   | (with_reducible exact LeO.none _)
   | (with_reducible refine LeO.ite ?_ ?_)
   | (with_reducible refine LeO.bind ?_ (fun _ => ?_))
   | exact ih0 _ _ _ _ _ _ _ _ _ _
   | exact api_Frac.mono _ _ _
   | exact congoulaw04_awake.mono _
   | exact congouref04_Means.mono _ _ _ _
   | exact congouref04_Slope.mono _ _ _ _
   | exact congouref04_Valid.mono _ _ _ _
   | exact curves_Means.mono _ _ _ _
   | exact curves_Slope.mono _ _ _ _
   | exact slices_Equal_int_int.mono _ _ _
   | exact LeO.none _
   | refine LeO.ite ?_ ?_
   | refine LeO.bind ?_ (fun _ => ?_)
set_option maxHeartbeats 8000000 in
set_option maxRecDepth 100000 in
theorem congoulaw04_CurvesSlopes.calls (k : Nat) (a0_0 : Int) (A0_1 : Option Addr) (c0_1 : Nat) (l0_1 : List Int) (A0_2 : Option Addr) (c0_2 : Nat) (l0_2 : List Int) (r : Bool) (w : World) (hr0_1 : Kd.C (Kd.int .i64) w A0_1 l0_1.length l0_1) (hc0_1 : l0_1.length ≤ c0_1) (hr0_2 : Kd.C (Kd.int .i64) w A0_2 l0_2.length l0_2) (hc0_2 : l0_2.length ≤ c0_2) (hrt : r = true) (h : congoulaw04_CurvesSlopes.f k a0_0 l0_1 l0_2 = some r) :
  Calls Try.prog 11 #[.agg #[.int .i64 a0_0, .slice A0_1 l0_1.length c0_1, .slice A0_2 l0_2.length c0_2]] w fun e w' => e = .returned (.bool r) ∧ Below w.heap.size w w' := by
 have hu24 := Try.underlying24
 have HR0_1 := Aside0.mk hr0_1
 have HC0_1 := Aside0.mk hc0_1
 clear hr0_1 hc0_1
 have HR0_2 := Aside0.mk hr0_2
 have HC0_2 := Aside0.mk hc0_2
 clear hr0_2 hc0_2
 have HB := Aside0.mk (Below.refl w.heap.size w)
 have H : ((congoulaw04_Of.f a0_0 l0_1 l0_2).bind fun bt922 => ((curves_Slope.f k bt922.1 bt922.2.1 bt922.2.2).bind fun bt929 => ((congoulaw04_Of.f a0_0 l0_1 l0_2).bind fun bt937 => ((curves_Means.f k bt937.1 bt937.2.1 bt937.2.2).bind fun bt944 => ((congouref04_Valid.f k a0_0 l0_1 l0_2).bind fun t948 => (if t948 = true then (congoulaw04_CurvesSlopes.j0 k bt929.1 bt929.2.1 bt929.2.2.1 bt929.2.2.2 bt944.1 bt944.2 (a0_0 == 0) a0_0 l0_1 l0_2) else (congoulaw04_CurvesSlopes.j0 k bt929.1 bt929.2.1 bt929.2.2.1 bt929.2.2.2 bt944.1 bt944.2 true a0_0 l0_1 l0_2))))))) = some r := h
 clear h
 have HRT := Aside0.mk hrt
 clear hrt
 replace H := Option.bind_eq_some_iff.mp H
 obtain ⟨⟨t922, t923, t926⟩, A20, H⟩ := H
 replace H : ((curves_Slope.f k t922 t923 t926).bind fun bt929 => ((congoulaw04_Of.f a0_0 l0_1 l0_2).bind fun bt937 => ((curves_Means.f k bt937.1 bt937.2.1 bt937.2.2).bind fun bt944 => ((congouref04_Valid.f k a0_0 l0_1 l0_2).bind fun t948 => (if t948 = true then (congoulaw04_CurvesSlopes.j0 k bt929.1 bt929.2.1 bt929.2.2.1 bt929.2.2.2 bt944.1 bt944.2 (a0_0 == 0) a0_0 l0_1 l0_2) else (congoulaw04_CurvesSlopes.j0 k bt929.1 bt929.2.1 bt929.2.2.1 bt929.2.2.2 bt944.1 bt944.2 true a0_0 l0_1 l0_2)))))) = some r := H
 have A2 := Aside0.mk A20
 clear A20
 replace H := Option.bind_eq_some_iff.mp H
 obtain ⟨⟨t929, t930, t933, t936⟩, A30, H⟩ := H
 replace H : ((congoulaw04_Of.f a0_0 l0_1 l0_2).bind fun bt937 => ((curves_Means.f k bt937.1 bt937.2.1 bt937.2.2).bind fun bt944 => ((congouref04_Valid.f k a0_0 l0_1 l0_2).bind fun t948 => (if t948 = true then (congoulaw04_CurvesSlopes.j0 k t929 t930 t933 t936 bt944.1 bt944.2 (a0_0 == 0) a0_0 l0_1 l0_2) else (congoulaw04_CurvesSlopes.j0 k t929 t930 t933 t936 bt944.1 bt944.2 true a0_0 l0_1 l0_2))))) = some r := H
 have A3 := Aside0.mk A30
 clear A30
 replace H := Option.bind_eq_some_iff.mp H
 obtain ⟨⟨t937, t938, t941⟩, A40, H⟩ := H
 replace H : ((curves_Means.f k t937 t938 t941).bind fun bt944 => ((congouref04_Valid.f k a0_0 l0_1 l0_2).bind fun t948 => (if t948 = true then (congoulaw04_CurvesSlopes.j0 k t929 t930 t933 t936 bt944.1 bt944.2 (a0_0 == 0) a0_0 l0_1 l0_2) else (congoulaw04_CurvesSlopes.j0 k t929 t930 t933 t936 bt944.1 bt944.2 true a0_0 l0_1 l0_2)))) = some r := H
 have A4 := Aside0.mk A40
 clear A40
 replace H := Option.bind_eq_some_iff.mp H
 obtain ⟨⟨t944, t947⟩, A50, H⟩ := H
 replace H : ((congouref04_Valid.f k a0_0 l0_1 l0_2).bind fun t948 => (if t948 = true then (congoulaw04_CurvesSlopes.j0 k t929 t930 t933 t936 t944 t947 (a0_0 == 0) a0_0 l0_1 l0_2) else (congoulaw04_CurvesSlopes.j0 k t929 t930 t933 t936 t944 t947 true a0_0 l0_1 l0_2))) = some r := H
 have A5 := Aside0.mk A50
 clear A50
 have HC6 := Aside0.mk H
 clear H
 go_enter Try.func11, Try.ntmps11
 go_upto_region 3 with (first | ((with_reducible refine gate_dst (N := 1) rfl ?_); (try (refine gate_guard (by rfl) ?_; dsimp only)); refine bE 1 #[.int .i64 a0_0, .slice A0_1 l0_1.length c0_1, .slice A0_2 l0_2.length c0_2] 24 ?_; intro gb921 hg w7 hbox hb; have BK921 := Aside0.mk (hbox); have GW921 := kG w hg; have GE921 := kG w hg; replace HB := kH _ hb; clear hb hbox hg; have hcz8_0 : w7.cell? ⟨gb921, 0, none⟩ = some (.int .i64 a0_0) := bc BK921 0; have hcz8_1 : w7.cell? ⟨gb921, 1, none⟩ = some (.slice A0_1 l0_1.length c0_1) := bc BK921 1; have hcz8_2 : w7.cell? ⟨gb921, 2, none⟩ = some (.slice A0_2 l0_2.length c0_2) := bc BK921 2; have hfz8_0 := fz BK921 0; have hfz8_1 := fz BK921 1; have hfz8_2 := fz BK921 2) | ((with_reducible refine gate_callee (f := 15) rfl ?_); refine gL 15 Try.func15 #[.agg #[.int .i64 a0_0, .slice A0_1 l0_1.length c0_1, .slice A0_2 l0_2.length c0_2]] ?_; (with_reducible refine (congoulaw04_Of.calls a0_0 _ _ l0_1 _ _ l0_2 t922 t923 t926 _ ?side1 ?side2 ?side3 ?side4 A2.out).mono ?_); (case side1 => exact kC HR0_1); (case side2 => exact HC0_1.out); (case side3 => exact kC HR0_2); (case side4 => exact HC0_2.out); rintro e w9 ⟨v924, v927, rfl, ho0, ho1, hb⟩; refine ⟨_, rfl, ?_⟩; have HO925 := Aside0.mk (Kd.R_lower ho0 (below_size (hbC _))); have HO928 := Aside0.mk (Kd.R_lower ho1 (below_size (hbC _))); replace BK921 := kB BK921 hb; replace HB := kH _ hb; (try clear hb); (try clear hb2); (try clear hk); (try clear hi); (try clear ho0); (try clear ho1); obtain ⟨Ao10, co10, eo10⟩ := Kd.R_slice HO925.out; subst eo10; obtain ⟨Ao11, co11, eo11⟩ := Kd.R_slice HO928.out; subst eo11) | ((with_reducible refine gate_callee (f := 40) rfl ?_); refine gL 16 Try.func40 #[.agg #[.int .i64 t922, .slice Ao10 t923.length co10, .slice Ao11 t926.length co11]] ?_; (with_reducible refine (curves_Slope.calls k t922 _ _ t923 _ _ t926 t929 t930 t933 t936 _ ?side1 ?side2 ?side3 ?side4 A3.out).mono ?_); (case side1 => exact kD (Kd.R_reads' HO925.out).2.2); (case side2 => exact (Kd.R_reads' HO925.out).2.1); (case side3 => exact kD (Kd.R_reads' HO928.out).2.2); (case side4 => exact (Kd.R_reads' HO928.out).2.1); rintro e w12 ⟨v931, v934, rfl, ho0, ho1, hb⟩; refine ⟨_, rfl, ?_⟩; have HO932 := Aside0.mk (Kd.R_lower (Kd.R_new' (Kd.R_new' ho0 (Kd.R_lt (rC HO925))) (Kd.R_lt (rC HO928))) (below_size (hbC _))); replace HO925 := Aside0.mk (Kd.R_elder' (rC HO925) (Kd.R_base ho0) hb); replace HO928 := Aside0.mk (Kd.R_elder' (rC HO928) (Kd.R_base ho0) hb); have HO935 := Aside0.mk (Kd.R_lower ho1 (below_size (hbC _))); replace BK921 := kB BK921 hb; replace HB := kH _ hb; (try clear hb); (try clear hb2); (try clear hk); (try clear hi); (try clear ho0); (try clear ho1); have hcz13_0 : w12.cell? ⟨gb921, 0, none⟩ = some (.int .i64 a0_0) := bc BK921 0; have hcz13_1 : w12.cell? ⟨gb921, 1, none⟩ = some (.slice A0_1 l0_1.length c0_1) := bc BK921 1; have hcz13_2 : w12.cell? ⟨gb921, 2, none⟩ = some (.slice A0_2 l0_2.length c0_2) := bc BK921 2; have hfz13_0 := fz BK921 0; have hfz13_1 := fz BK921 1; have hfz13_2 := fz BK921 2) | ((with_reducible refine gate_callee (f := 15) rfl ?_); refine gL 23 Try.func15 #[.agg #[.int .i64 a0_0, .slice A0_1 l0_1.length c0_1, .slice A0_2 l0_2.length c0_2]] ?_; (with_reducible refine (congoulaw04_Of.calls a0_0 _ _ l0_1 _ _ l0_2 t937 t938 t941 _ ?side1 ?side2 ?side3 ?side4 A4.out).mono ?_); (case side1 => exact kC HR0_1); (case side2 => exact HC0_1.out); (case side3 => exact kC HR0_2); (case side4 => exact HC0_2.out); rintro e w14 ⟨v939, v942, rfl, ho0, ho1, hb⟩; refine ⟨_, rfl, ?_⟩; replace HO935 := kO HO935 hb; have HO940 := Aside0.mk (Kd.R_lower (Kd.R_new' (Kd.R_new' (Kd.R_new' ho0 (Kd.R_lt (rC HO925))) (Kd.R_lt (rC HO928))) (Kd.R_lt (rC HO932))) (below_size (hbC _))); have HO943 := Aside0.mk (Kd.R_lower (Kd.R_new' (Kd.R_new' (Kd.R_new' ho1 (Kd.R_lt (rC HO925))) (Kd.R_lt (rC HO928))) (Kd.R_lt (rC HO932))) (below_size (hbC _))); replace HO925 := Aside0.mk (Kd.R_mono (Kd.R_told (Kd.R_told (Kd.R_old (rC HO925) hb) (Kd.R_base ho0)) (Kd.R_base ho1)) (fun _ h_ => h_.1)); replace HO928 := Aside0.mk (Kd.R_mono (Kd.R_told (Kd.R_told (Kd.R_old (rC HO928) hb) (Kd.R_base ho0)) (Kd.R_base ho1)) (fun _ h_ => h_.1)); replace HO932 := Aside0.mk (Kd.R_mono (Kd.R_told (Kd.R_told (Kd.R_old (rC HO932) hb) (Kd.R_base ho0)) (Kd.R_base ho1)) (fun _ h_ => h_.1)); replace BK921 := kB BK921 hb; replace HB := kH _ hb; (try clear hb); (try clear hb2); (try clear hk); (try clear hi); (try clear ho0); (try clear ho1); obtain ⟨Ao15, co15, eo15⟩ := Kd.R_slice HO940.out; subst eo15; obtain ⟨Ao16, co16, eo16⟩ := Kd.R_slice HO943.out; subst eo16) | ((with_reducible refine gate_callee (f := 34) rfl ?_); refine gL 24 Try.func34 #[.agg #[.int .i64 t937, .slice Ao15 t938.length co15, .slice Ao16 t941.length co16]] ?_; (with_reducible refine (curves_Means.calls k t937 _ _ t938 _ _ t941 t944 t947 _ ?side1 ?side2 ?side3 ?side4 A5.out).mono ?_); (case side1 => exact kD (Kd.R_reads' HO940.out).2.2); (case side2 => exact (Kd.R_reads' HO940.out).2.1); (case side3 => exact kD (Kd.R_reads' HO943.out).2.2); (case side4 => exact (Kd.R_reads' HO943.out).2.1); rintro e w17 ⟨v945, rfl, ho0, hb⟩; refine ⟨_, rfl, ?_⟩; replace HO925 := kO HO925 hb; replace HO928 := kO HO928 hb; replace HO932 := kO HO932 hb; replace HO940 := kO HO940 hb; replace HO943 := kO HO943 hb; have HO946 := Aside0.mk (Kd.R_lower (Kd.R_new' ho0 (Kd.R_lt (rC HO935))) (below_size (hbC _))); replace HO935 := Aside0.mk (Kd.R_elder' (rC HO935) (Kd.R_base ho0) hb); replace BK921 := kB BK921 hb; replace HB := kH _ hb; (try clear hb); (try clear hb2); (try clear hk); (try clear hi); (try clear ho0)))
 (try simp only [Act.put, List.setIfInBounds_toArray, List.set_cons_zero, List.set_cons_succ])
 go_cut [34] (fun v34 wc => ∃ (kq : Nat) (x34_5 : Bool), v34 = .bool x34_5 ∧ Aside0 (congoulaw04_CurvesSlopes.j0 kq t929 t930 t933 t936 t944 t947 x34_5 a0_0 l0_1 l0_2 = some r) ∧ Aside0 (kq ≤ k) ∧ Aside0 (Kd.R (Kd.int .i64) 3 wc w.heap.size (fun _ => True) v931 t930) ∧ Aside0 (Kd.R k26 26 wc w.heap.size (fun k_ => some k_ ≠ (v945 : Value).ownBlock) v934 t933) ∧ Aside0 (Kd.R k26 26 wc w.heap.size (fun k_ => some k_ ≠ (v934 : Value).ownBlock) v945 t944) ∧ Aside0 (wc.heap[gb921]? = some (.cells #[.int .i64 a0_0, (.slice A0_1 l0_1.length c0_1), (.slice A0_2 l0_2.length c0_2)] 24 (0, 0))) ∧ Aside0 (Below w.heap.size w wc))
 case first =>
  have H := HC6.out
  clear HC6
  replace H := Option.bind_eq_some_iff.mp H
  obtain ⟨t948, A180, H⟩ := H
  replace H : (if t948 = true then (congoulaw04_CurvesSlopes.j0 k t929 t930 t933 t936 t944 t947 (a0_0 == 0) a0_0 l0_1 l0_2) else (congoulaw04_CurvesSlopes.j0 k t929 t930 t933 t936 t944 t947 true a0_0 l0_1 l0_2)) = some r := H
  have A18 := Aside0.mk A180
  clear A180
  by_cases c19 : t948 = true
  ·subst c19
   have H1 : (congoulaw04_CurvesSlopes.j0 k t929 t930 t933 t936 t944 t947 (a0_0 == 0) a0_0 l0_1 l0_2) = some r := by rw [if_pos rfl] at H; exact H
   clear H
   have H := H1
   clear H1
   have H' := Aside0.mk H
   clear H
   have hcz20_0 : w17.cell? ⟨gb921, 0, none⟩ = some (.int .i64 a0_0) := bc BK921 0
   have hcz20_1 : w17.cell? ⟨gb921, 1, none⟩ = some (.slice A0_1 l0_1.length c0_1) := bc BK921 1
   have hcz20_2 : w17.cell? ⟨gb921, 2, none⟩ = some (.slice A0_2 l0_2.length c0_2) := bc BK921 2
   have hfz20_0 := fz BK921 0
   have hfz20_1 := fz BK921 1
   have hfz20_2 := fz BK921 2
   go_wp2_with (first | ((with_reducible refine gate_callee (f := 29) rfl ?_); refine gL 28 Try.func29 #[.agg #[.int .i64 a0_0, .slice A0_1 l0_1.length c0_1, .slice A0_2 l0_2.length c0_2]] ?_; (with_reducible refine (congouref04_Valid.calls k a0_0 _ _ l0_1 _ _ l0_2 true _ ?side1 ?side2 ?side3 ?side4 A18.out).mono ?_); (case side1 => exact kC HR0_1); (case side2 => exact HC0_1.out); (case side3 => exact kC HR0_2); (case side4 => exact HC0_2.out); rintro e w21 ⟨rfl, hb⟩; refine ⟨_, rfl, ?_⟩; replace HO925 := kO HO925 hb; replace HO928 := kO HO928 hb; replace HO932 := kO HO932 hb; replace HO935 := kO HO935 hb; replace HO940 := kO HO940 hb; replace HO943 := kO HO943 hb; replace HO946 := kO HO946 hb; replace BK921 := kB BK921 hb; replace HB := kH _ hb; (try clear hb); (try clear hb2); (try clear hk); (try clear hi); have hcz22_0 : w21.cell? ⟨gb921, 0, none⟩ = some (.int .i64 a0_0) := bc BK921 0; have hcz22_1 : w21.cell? ⟨gb921, 1, none⟩ = some (.slice A0_1 l0_1.length c0_1) := bc BK921 1; have hcz22_2 : w21.cell? ⟨gb921, 2, none⟩ = some (.slice A0_2 l0_2.length c0_2) := bc BK921 2; have hfz22_0 := fz BK921 0; have hfz22_1 := fz BK921 1; have hfz22_2 := fz BK921 2))
   go_meet
   case rel => exact ⟨_, ((a0_0 == 0)), (by first | rfl | (simp; done) | (simp [*]; done)), H', ⟨by first | omega | exact Nat.le_refl _⟩, ⟨by (with_reducible repeat (first | apply Kd.R_alloc | apply Kd.R_drewN | apply Kd.R_drew)); exact Kd.R_mono HO932.out (fun _ hk => trivial)⟩, ⟨by (with_reducible repeat (first | apply Kd.R_alloc | apply Kd.R_drewN | apply Kd.R_drew)); exact Kd.R_mono HO935.out (fun _ hk => hk.2)⟩, ⟨by (with_reducible repeat (first | apply Kd.R_alloc | apply Kd.R_drewN | apply Kd.R_drew)); exact Kd.R_mono HO946.out (fun _ hk => hk.2)⟩, ⟨bkC BK921⟩, ⟨hbC _⟩⟩
  ·replace c19 := Bool.eq_false_iff.mpr c19
   subst c19
   have H1 : (congoulaw04_CurvesSlopes.j0 k t929 t930 t933 t936 t944 t947 true a0_0 l0_1 l0_2) = some r := by rw [if_neg (show ¬ (false = true) by decide)] at H; exact H
   clear H
   have H := H1
   clear H1
   have H' := Aside0.mk H
   clear H
   have hcz23_0 : w17.cell? ⟨gb921, 0, none⟩ = some (.int .i64 a0_0) := bc BK921 0
   have hcz23_1 : w17.cell? ⟨gb921, 1, none⟩ = some (.slice A0_1 l0_1.length c0_1) := bc BK921 1
   have hcz23_2 : w17.cell? ⟨gb921, 2, none⟩ = some (.slice A0_2 l0_2.length c0_2) := bc BK921 2
   have hfz23_0 := fz BK921 0
   have hfz23_1 := fz BK921 1
   have hfz23_2 := fz BK921 2
   go_wp2_with (first | ((with_reducible refine gate_callee (f := 29) rfl ?_); refine gL 28 Try.func29 #[.agg #[.int .i64 a0_0, .slice A0_1 l0_1.length c0_1, .slice A0_2 l0_2.length c0_2]] ?_; (with_reducible refine (congouref04_Valid.calls k a0_0 _ _ l0_1 _ _ l0_2 false _ ?side1 ?side2 ?side3 ?side4 A18.out).mono ?_); (case side1 => exact kC HR0_1); (case side2 => exact HC0_1.out); (case side3 => exact kC HR0_2); (case side4 => exact HC0_2.out); rintro e w24 ⟨rfl, hb⟩; refine ⟨_, rfl, ?_⟩; replace HO925 := kO HO925 hb; replace HO928 := kO HO928 hb; replace HO932 := kO HO932 hb; replace HO935 := kO HO935 hb; replace HO940 := kO HO940 hb; replace HO943 := kO HO943 hb; replace HO946 := kO HO946 hb; replace BK921 := kB BK921 hb; replace HB := kH _ hb; (try clear hb); (try clear hb2); (try clear hk); (try clear hi)))
   go_meet
   case rel => exact ⟨_, (true), (by first | rfl | (simp; done) | (simp [*]; done)), H', ⟨by first | omega | exact Nat.le_refl _⟩, ⟨by (with_reducible repeat (first | apply Kd.R_alloc | apply Kd.R_drewN | apply Kd.R_drew)); exact Kd.R_mono HO932.out (fun _ hk => trivial)⟩, ⟨by (with_reducible repeat (first | apply Kd.R_alloc | apply Kd.R_drewN | apply Kd.R_drew)); exact Kd.R_mono HO935.out (fun _ hk => hk.2)⟩, ⟨by (with_reducible repeat (first | apply Kd.R_alloc | apply Kd.R_drewN | apply Kd.R_drew)); exact Kd.R_mono HO946.out (fun _ hk => hk.2)⟩, ⟨bkC BK921⟩, ⟨hbC _⟩⟩
 case rest =>
  clear HC6
  try clear c1
  try clear c2
  try clear p2
  try clear c3
  try clear c4
  try clear c11
  try clear c15
  try clear c19
  try clear hcz13_0
  try clear hcz13_1
  try clear hcz13_2
  try clear hcz20_0
  try clear hcz20_1
  try clear hcz20_2
  try clear hcz22_0
  try clear hcz22_1
  try clear hcz22_2
  try clear hcz23_0
  try clear hcz23_1
  try clear hcz23_2
  try clear hcz8_0
  try clear hcz8_1
  try clear hcz8_2
  try clear hfz13_0
  try clear hfz13_1
  try clear hfz13_2
  try clear hfz20_0
  try clear hfz20_1
  try clear hfz20_2
  try clear hfz22_0
  try clear hfz22_1
  try clear hfz22_2
  try clear hfz23_0
  try clear hfz23_1
  try clear hfz23_2
  try clear hfz8_0
  try clear hfz8_1
  try clear hfz8_2
  obtain ⟨kq, x34_5, rfl, HA, HJ5, HO_4, HO_5, HO_7, BK921, HB⟩ := hcut
  cases kq with
  | zero => exact absurd HA.out (by simp [congoulaw04_CurvesSlopes.j0])
  | succ kj5 =>
   have H := HA.out
   clear HA
   simp only [congoulaw04_CurvesSlopes.j0] at H
   by_cases c25 : x34_5 = true
   ·subst c25
    have H1 : ((congouref04_Valid.f kj5 a0_0 l0_1 l0_2).bind fun t949 => (if t949 = true then (if t929 = 0 then (if (wrap64 ((wrap64 ((t930.length : Int) + (t933.length : Int))) + (t944.length : Int))) = 0 then (if t936 = 4 then (if t947 = 4 then ((congoulaw04_awake.f kj5).bind fun t950 => (some t950)) else (some false)) else (some false)) else (some false)) else (some false)) else (if t929 = 0 then (if (wrap64 ((wrap64 ((t930.length : Int) + (t933.length : Int))) + (t944.length : Int))) = 0 then (if t936 = 2 then (if t947 = 2 then ((congoulaw04_awake.f kj5).bind fun t951 => (some t951)) else (some false)) else (some false)) else (some false)) else (some false)))) = some r := by rw [if_pos rfl] at H; exact H
    clear H
    have H := H1
    clear H1
    replace H := Option.bind_eq_some_iff.mp H
    obtain ⟨t949, A260, H⟩ := H
    replace H : (if t949 = true then (if t929 = 0 then (if (wrap64 ((wrap64 ((t930.length : Int) + (t933.length : Int))) + (t944.length : Int))) = 0 then (if t936 = 4 then (if t947 = 4 then ((congoulaw04_awake.f kj5).bind fun t950 => (some t950)) else (some false)) else (some false)) else (some false)) else (some false)) else (if t929 = 0 then (if (wrap64 ((wrap64 ((t930.length : Int) + (t933.length : Int))) + (t944.length : Int))) = 0 then (if t936 = 2 then (if t947 = 2 then ((congoulaw04_awake.f kj5).bind fun t951 => (some t951)) else (some false)) else (some false)) else (some false)) else (some false))) = some r := H
    have A26 := Aside0.mk A260
    clear A260
    by_cases c27 : t949 = true
    ·subst c27
     have H1 : (if t929 = 0 then (if (wrap64 ((wrap64 ((t930.length : Int) + (t933.length : Int))) + (t944.length : Int))) = 0 then (if t936 = 4 then (if t947 = 4 then ((congoulaw04_awake.f kj5).bind fun t950 => (some t950)) else (some false)) else (some false)) else (some false)) else (some false)) = some r := by rw [if_pos rfl] at H; exact H
     clear H
     have H := H1
     clear H1
     by_cases c28 : t929 = 0
     ·rw [if_pos c28] at H
      have c28b0 : (t929 == 0) = true := beq_iff_eq.mpr c28
      have c28b1 : (t929 != 0) = false := bne_eq_false_iff_eq.mpr c28
      clear c28
      by_cases c29 : (wrap64 ((wrap64 ((t930.length : Int) + (t933.length : Int))) + (t944.length : Int))) = 0
      ·rw [if_pos c29] at H
       have c29b0 : ((wrap64 ((wrap64 ((t930.length : Int) + (t933.length : Int))) + (t944.length : Int))) == 0) = true := beq_iff_eq.mpr c29
       have c29b1 : ((wrap64 ((wrap64 ((t930.length : Int) + (t933.length : Int))) + (t944.length : Int))) != 0) = false := bne_eq_false_iff_eq.mpr c29
       clear c29
       by_cases c30 : t936 = 4
       ·rw [if_pos c30] at H
        have c30b0 : (t936 == 4) = true := beq_iff_eq.mpr c30
        have c30b1 : (t936 != 4) = false := bne_eq_false_iff_eq.mpr c30
        clear c30
        by_cases c31 : t947 = 4
        ·rw [if_pos c31] at H
         have c31b0 : (t947 == 4) = true := beq_iff_eq.mpr c31
         have c31b1 : (t947 != 4) = false := bne_eq_false_iff_eq.mpr c31
         clear c31
         replace H := Option.bind_eq_some_iff.mp H
         obtain ⟨t950, A320, H⟩ := H
         replace H : (some t950) = some r := H
         have A32 := Aside0.mk A320
         clear A320
         obtain rfl := Option.some.inj H
         have hcz33_0 : wc.cell? ⟨gb921, 0, none⟩ = some (.int .i64 a0_0) := bc BK921 0
         have hcz33_1 : wc.cell? ⟨gb921, 1, none⟩ = some (.slice A0_1 l0_1.length c0_1) := bc BK921 1
         have hcz33_2 : wc.cell? ⟨gb921, 2, none⟩ = some (.slice A0_2 l0_2.length c0_2) := bc BK921 2
         have hfz33_0 := fz BK921 0
         have hfz33_1 := fz BK921 1
         have hfz33_2 := fz BK921 2
         go_wp2_with (first | ((with_reducible refine gate_callee (f := 29) rfl ?_); refine gL 36 Try.func29 #[.agg #[.int .i64 a0_0, .slice A0_1 l0_1.length c0_1, .slice A0_2 l0_2.length c0_2]] ?_; (with_reducible refine (congouref04_Valid.calls kj5 a0_0 _ _ l0_1 _ _ l0_2 true _ ?side1 ?side2 ?side3 ?side4 A26.out).mono ?_); (case side1 => exact kC HR0_1); (case side2 => exact HC0_1.out); (case side3 => exact kC HR0_2); (case side4 => exact HC0_2.out); rintro e w34 ⟨rfl, hb⟩; refine ⟨_, rfl, ?_⟩; replace HO_4 := kO HO_4 hb; replace HO_5 := kO HO_5 hb; replace HO_7 := kO HO_7 hb; replace BK921 := kB BK921 hb; replace HB := kH _ hb; (try clear hb); (try clear hb2); (try clear hk); (try clear hi); obtain ⟨Ao35, co35, eo35⟩ := Kd.R_slice HO_4.out; subst eo35; obtain ⟨Ao36, co36, eo36⟩ := Kd.R_slice HO_5.out; subst eo36; obtain ⟨Ao37, co37, eo37⟩ := Kd.R_slice HO_7.out; subst eo37) | (go_at_call 17; (with_reducible refine (congoulaw04_awake.calls kj5  t950 _ A32.out).mono ?_); rintro e w38 ⟨rfl, hb⟩; replace HO_4 := kO HO_4 hb; replace HO_5 := kO HO_5 hb; replace HO_7 := kO HO_7 hb; replace BK921 := kB BK921 hb; replace HB := kH _ hb; (try clear hb); (try clear hb2); (try clear hk); (try clear hi)))
         go_ret
         exact ⟨by first | rfl | (simp [errW_none, errW_some] <;> rfl) | (simp [*, errW_none, errW_some] <;> rfl), hbC _⟩
        ·rw [if_neg c31] at H
         have c31b0 : (t947 == 4) = false := beq_eq_false_iff_ne.mpr c31
         have c31b1 : (t947 != 4) = true := bne_iff_ne.mpr c31
         exact absurd (H.trans (congrArg some HRT.out)) (by simp)
       ·rw [if_neg c30] at H
        have c30b0 : (t936 == 4) = false := beq_eq_false_iff_ne.mpr c30
        have c30b1 : (t936 != 4) = true := bne_iff_ne.mpr c30
        exact absurd (H.trans (congrArg some HRT.out)) (by simp)
      ·rw [if_neg c29] at H
       have c29b0 : ((wrap64 ((wrap64 ((t930.length : Int) + (t933.length : Int))) + (t944.length : Int))) == 0) = false := beq_eq_false_iff_ne.mpr c29
       have c29b1 : ((wrap64 ((wrap64 ((t930.length : Int) + (t933.length : Int))) + (t944.length : Int))) != 0) = true := bne_iff_ne.mpr c29
       exact absurd (H.trans (congrArg some HRT.out)) (by simp)
     ·rw [if_neg c28] at H
      have c28b0 : (t929 == 0) = false := beq_eq_false_iff_ne.mpr c28
      have c28b1 : (t929 != 0) = true := bne_iff_ne.mpr c28
      exact absurd (H.trans (congrArg some HRT.out)) (by simp)
    ·replace c27 := Bool.eq_false_iff.mpr c27
     subst c27
     have H1 : (if t929 = 0 then (if (wrap64 ((wrap64 ((t930.length : Int) + (t933.length : Int))) + (t944.length : Int))) = 0 then (if t936 = 2 then (if t947 = 2 then ((congoulaw04_awake.f kj5).bind fun t951 => (some t951)) else (some false)) else (some false)) else (some false)) else (some false)) = some r := by rw [if_neg (show ¬ (false = true) by decide)] at H; exact H
     clear H
     have H := H1
     clear H1
     by_cases c39 : t929 = 0
     ·rw [if_pos c39] at H
      have c39b0 : (t929 == 0) = true := beq_iff_eq.mpr c39
      have c39b1 : (t929 != 0) = false := bne_eq_false_iff_eq.mpr c39
      clear c39
      by_cases c40 : (wrap64 ((wrap64 ((t930.length : Int) + (t933.length : Int))) + (t944.length : Int))) = 0
      ·rw [if_pos c40] at H
       have c40b0 : ((wrap64 ((wrap64 ((t930.length : Int) + (t933.length : Int))) + (t944.length : Int))) == 0) = true := beq_iff_eq.mpr c40
       have c40b1 : ((wrap64 ((wrap64 ((t930.length : Int) + (t933.length : Int))) + (t944.length : Int))) != 0) = false := bne_eq_false_iff_eq.mpr c40
       clear c40
       by_cases c41 : t936 = 2
       ·rw [if_pos c41] at H
        have c41b0 : (t936 == 2) = true := beq_iff_eq.mpr c41
        have c41b1 : (t936 != 2) = false := bne_eq_false_iff_eq.mpr c41
        clear c41
        by_cases c42 : t947 = 2
        ·rw [if_pos c42] at H
         have c42b0 : (t947 == 2) = true := beq_iff_eq.mpr c42
         have c42b1 : (t947 != 2) = false := bne_eq_false_iff_eq.mpr c42
         clear c42
         replace H := Option.bind_eq_some_iff.mp H
         obtain ⟨t951, A430, H⟩ := H
         replace H : (some t951) = some r := H
         have A43 := Aside0.mk A430
         clear A430
         obtain rfl := Option.some.inj H
         have hcz44_0 : wc.cell? ⟨gb921, 0, none⟩ = some (.int .i64 a0_0) := bc BK921 0
         have hcz44_1 : wc.cell? ⟨gb921, 1, none⟩ = some (.slice A0_1 l0_1.length c0_1) := bc BK921 1
         have hcz44_2 : wc.cell? ⟨gb921, 2, none⟩ = some (.slice A0_2 l0_2.length c0_2) := bc BK921 2
         have hfz44_0 := fz BK921 0
         have hfz44_1 := fz BK921 1
         have hfz44_2 := fz BK921 2
         go_wp2_with (first | ((with_reducible refine gate_callee (f := 29) rfl ?_); refine gL 36 Try.func29 #[.agg #[.int .i64 a0_0, .slice A0_1 l0_1.length c0_1, .slice A0_2 l0_2.length c0_2]] ?_; (with_reducible refine (congouref04_Valid.calls kj5 a0_0 _ _ l0_1 _ _ l0_2 false _ ?side1 ?side2 ?side3 ?side4 A26.out).mono ?_); (case side1 => exact kC HR0_1); (case side2 => exact HC0_1.out); (case side3 => exact kC HR0_2); (case side4 => exact HC0_2.out); rintro e w45 ⟨rfl, hb⟩; refine ⟨_, rfl, ?_⟩; replace HO_4 := kO HO_4 hb; replace HO_5 := kO HO_5 hb; replace HO_7 := kO HO_7 hb; replace BK921 := kB BK921 hb; replace HB := kH _ hb; (try clear hb); (try clear hb2); (try clear hk); (try clear hi); obtain ⟨Ao46, co46, eo46⟩ := Kd.R_slice HO_4.out; subst eo46; obtain ⟨Ao47, co47, eo47⟩ := Kd.R_slice HO_5.out; subst eo47; obtain ⟨Ao48, co48, eo48⟩ := Kd.R_slice HO_7.out; subst eo48) | (go_at_call 17; (with_reducible refine (congoulaw04_awake.calls kj5  t951 _ A43.out).mono ?_); rintro e w49 ⟨rfl, hb⟩; replace HO_4 := kO HO_4 hb; replace HO_5 := kO HO_5 hb; replace HO_7 := kO HO_7 hb; replace BK921 := kB BK921 hb; replace HB := kH _ hb; (try clear hb); (try clear hb2); (try clear hk); (try clear hi)))
         go_ret
         exact ⟨by first | rfl | (simp [errW_none, errW_some] <;> rfl) | (simp [*, errW_none, errW_some] <;> rfl), hbC _⟩
        ·rw [if_neg c42] at H
         have c42b0 : (t947 == 2) = false := beq_eq_false_iff_ne.mpr c42
         have c42b1 : (t947 != 2) = true := bne_iff_ne.mpr c42
         exact absurd (H.trans (congrArg some HRT.out)) (by simp)
       ·rw [if_neg c41] at H
        have c41b0 : (t936 == 2) = false := beq_eq_false_iff_ne.mpr c41
        have c41b1 : (t936 != 2) = true := bne_iff_ne.mpr c41
        exact absurd (H.trans (congrArg some HRT.out)) (by simp)
      ·rw [if_neg c40] at H
       have c40b0 : ((wrap64 ((wrap64 ((t930.length : Int) + (t933.length : Int))) + (t944.length : Int))) == 0) = false := beq_eq_false_iff_ne.mpr c40
       have c40b1 : ((wrap64 ((wrap64 ((t930.length : Int) + (t933.length : Int))) + (t944.length : Int))) != 0) = true := bne_iff_ne.mpr c40
       exact absurd (H.trans (congrArg some HRT.out)) (by simp)
     ·rw [if_neg c39] at H
      have c39b0 : (t929 == 0) = false := beq_eq_false_iff_ne.mpr c39
      have c39b1 : (t929 != 0) = true := bne_iff_ne.mpr c39
      exact absurd (H.trans (congrArg some HRT.out)) (by simp)
   ·replace c25 := Bool.eq_false_iff.mpr c25
    subst c25
    have H1 : ((congouref04_Slope.f kj5 a0_0 l0_1 l0_2).bind fun bt952 => (if t929 = bt952.1 then ((slices_Equal_int_int.f kj5 t930 bt952.2.1).bind fun t959 => (if t959 = true then ((api_Frac.f kj5 t933 bt952.2.2).bind fun t960 => (if t960 = true then ((congouref04_Means.f kj5 a0_0 l0_1 l0_2).bind fun t961 => ((api_Frac.f kj5 t944 t961).bind fun t964 => (if t964 = true then (if t936 = 0 then (if t947 = 0 then ((congoulaw04_awake.f kj5).bind fun t965 => (some t965)) else (some false)) else (some false)) else (some false)))) else (some false))) else (some false))) else (some false))) = some r := by rw [if_neg (show ¬ (false = true) by decide)] at H; exact H
    clear H
    have H := H1
    clear H1
    replace H := Option.bind_eq_some_iff.mp H
    obtain ⟨⟨t952, t953, t956⟩, A500, H⟩ := H
    replace H : (if t929 = t952 then ((slices_Equal_int_int.f kj5 t930 t953).bind fun t959 => (if t959 = true then ((api_Frac.f kj5 t933 t956).bind fun t960 => (if t960 = true then ((congouref04_Means.f kj5 a0_0 l0_1 l0_2).bind fun t961 => ((api_Frac.f kj5 t944 t961).bind fun t964 => (if t964 = true then (if t936 = 0 then (if t947 = 0 then ((congoulaw04_awake.f kj5).bind fun t965 => (some t965)) else (some false)) else (some false)) else (some false)))) else (some false))) else (some false))) else (some false)) = some r := H
    have A50 := Aside0.mk A500
    clear A500
    by_cases c51 : t929 = t952
    ·rw [if_pos c51] at H
     have c51b0 : (t929 == t952) = true := beq_iff_eq.mpr c51
     have c51b1 : (t929 != t952) = false := bne_eq_false_iff_eq.mpr c51
     clear c51
     replace H := Option.bind_eq_some_iff.mp H
     obtain ⟨t959, A520, H⟩ := H
     replace H : (if t959 = true then ((api_Frac.f kj5 t933 t956).bind fun t960 => (if t960 = true then ((congouref04_Means.f kj5 a0_0 l0_1 l0_2).bind fun t961 => ((api_Frac.f kj5 t944 t961).bind fun t964 => (if t964 = true then (if t936 = 0 then (if t947 = 0 then ((congoulaw04_awake.f kj5).bind fun t965 => (some t965)) else (some false)) else (some false)) else (some false)))) else (some false))) else (some false)) = some r := H
     have A52 := Aside0.mk A520
     clear A520
     by_cases c53 : t959 = true
     ·subst c53
      have H1 : ((api_Frac.f kj5 t933 t956).bind fun t960 => (if t960 = true then ((congouref04_Means.f kj5 a0_0 l0_1 l0_2).bind fun t961 => ((api_Frac.f kj5 t944 t961).bind fun t964 => (if t964 = true then (if t936 = 0 then (if t947 = 0 then ((congoulaw04_awake.f kj5).bind fun t965 => (some t965)) else (some false)) else (some false)) else (some false)))) else (some false))) = some r := by rw [if_pos rfl] at H; exact H
      clear H
      have H := H1
      clear H1
      replace H := Option.bind_eq_some_iff.mp H
      obtain ⟨t960, A540, H⟩ := H
      replace H : (if t960 = true then ((congouref04_Means.f kj5 a0_0 l0_1 l0_2).bind fun t961 => ((api_Frac.f kj5 t944 t961).bind fun t964 => (if t964 = true then (if t936 = 0 then (if t947 = 0 then ((congoulaw04_awake.f kj5).bind fun t965 => (some t965)) else (some false)) else (some false)) else (some false)))) else (some false)) = some r := H
      have A54 := Aside0.mk A540
      clear A540
      by_cases c55 : t960 = true
      ·subst c55
       have H1 : ((congouref04_Means.f kj5 a0_0 l0_1 l0_2).bind fun t961 => ((api_Frac.f kj5 t944 t961).bind fun t964 => (if t964 = true then (if t936 = 0 then (if t947 = 0 then ((congoulaw04_awake.f kj5).bind fun t965 => (some t965)) else (some false)) else (some false)) else (some false)))) = some r := by rw [if_pos rfl] at H; exact H
       clear H
       have H := H1
       clear H1
       replace H := Option.bind_eq_some_iff.mp H
       obtain ⟨t961, A560, H⟩ := H
       replace H : ((api_Frac.f kj5 t944 t961).bind fun t964 => (if t964 = true then (if t936 = 0 then (if t947 = 0 then ((congoulaw04_awake.f kj5).bind fun t965 => (some t965)) else (some false)) else (some false)) else (some false))) = some r := H
       have A56 := Aside0.mk A560
       clear A560
       replace H := Option.bind_eq_some_iff.mp H
       obtain ⟨t964, A570, H⟩ := H
       replace H : (if t964 = true then (if t936 = 0 then (if t947 = 0 then ((congoulaw04_awake.f kj5).bind fun t965 => (some t965)) else (some false)) else (some false)) else (some false)) = some r := H
       have A57 := Aside0.mk A570
       clear A570
       by_cases c58 : t964 = true
       ·subst c58
        have H1 : (if t936 = 0 then (if t947 = 0 then ((congoulaw04_awake.f kj5).bind fun t965 => (some t965)) else (some false)) else (some false)) = some r := by rw [if_pos rfl] at H; exact H
        clear H
        have H := H1
        clear H1
        by_cases c59 : t936 = 0
        ·rw [if_pos c59] at H
         have c59b0 : (t936 == 0) = true := beq_iff_eq.mpr c59
         have c59b1 : (t936 != 0) = false := bne_eq_false_iff_eq.mpr c59
         clear c59
         by_cases c60 : t947 = 0
         ·rw [if_pos c60] at H
          have c60b0 : (t947 == 0) = true := beq_iff_eq.mpr c60
          have c60b1 : (t947 != 0) = false := bne_eq_false_iff_eq.mpr c60
          clear c60
          replace H := Option.bind_eq_some_iff.mp H
          obtain ⟨t965, A610, H⟩ := H
          replace H : (some t965) = some r := H
          have A61 := Aside0.mk A610
          clear A610
          obtain rfl := Option.some.inj H
          have hcz62_0 : wc.cell? ⟨gb921, 0, none⟩ = some (.int .i64 a0_0) := bc BK921 0
          have hcz62_1 : wc.cell? ⟨gb921, 1, none⟩ = some (.slice A0_1 l0_1.length c0_1) := bc BK921 1
          have hcz62_2 : wc.cell? ⟨gb921, 2, none⟩ = some (.slice A0_2 l0_2.length c0_2) := bc BK921 2
          have hfz62_0 := fz BK921 0
          have hfz62_1 := fz BK921 1
          have hfz62_2 := fz BK921 2
          go_wp2_with (first | ((with_reducible refine gate_callee (f := 41) rfl ?_); refine gL 66 Try.func41 #[.agg #[.int .i64 a0_0, .slice A0_1 l0_1.length c0_1, .slice A0_2 l0_2.length c0_2]] ?_; (with_reducible refine (congouref04_Slope.calls kj5 a0_0 _ _ l0_1 _ _ l0_2 t952 t953 t956 _ ?side1 ?side2 ?side3 ?side4 A50.out).mono ?_); (case side1 => exact kC HR0_1); (case side2 => exact HC0_1.out); (case side3 => exact kC HR0_2); (case side4 => exact HC0_2.out); rintro e w63 ⟨v954, v957, rfl, ho0, ho1, hb⟩; refine ⟨_, rfl, ?_⟩; have HO955 := Aside0.mk (Kd.R_lower (Kd.R_new' ho0 (Kd.R_lt (rC HO_4))) (below_size (hbC _))); replace HO_4 := Aside0.mk (Kd.R_elder' (rC HO_4) (Kd.R_base ho0) hb); have HO958 := Aside0.mk (Kd.R_lower (Kd.R_new' (Kd.R_new' ho1 (Kd.R_lt (rC HO_5))) (Kd.R_lt (rC HO_7))) (below_size (hbC _))); replace HO_5 := Aside0.mk (Kd.R_elder' (rC HO_5) (Kd.R_base ho1) hb); replace HO_7 := Aside0.mk (Kd.R_elder' (rC HO_7) (Kd.R_base ho1) hb); replace BK921 := kB BK921 hb; replace HB := kH _ hb; (try clear hb); (try clear hb2); (try clear hk); (try clear hi); (try clear ho0); (try clear ho1); obtain ⟨Ao64, co64, eo64⟩ := Kd.R_slice HO_4.out; subst eo64; obtain ⟨Ao65, co65, eo65⟩ := Kd.R_slice HO955.out; subst eo65) | (go_at_call 42; (with_reducible refine (slices_Equal_int_int.calls kj5 _ _ t930 _ _ t953 true _ ?side1 ?side2 ?side3 ?side4 A52.out).mono ?_); (case side1 => exact kD (Kd.R_reads' HO_4.out).2.2); (case side2 => exact (Kd.R_reads' HO_4.out).2.1); (case side3 => exact kD (Kd.R_reads' HO955.out).2.2); (case side4 => exact (Kd.R_reads' HO955.out).2.1); rintro e w' ⟨rfl, ⟨nd, rfl⟩⟩; obtain ⟨Ao66, co66, eo66⟩ := Kd.R_slice HO_5.out; subst eo66; obtain ⟨Ao67, co67, eo67⟩ := Kd.R_slice HO958.out; subst eo67) | (go_at_call 23; (with_reducible refine (api_Frac.calls kj5 _ _ t933 _ _ t956 true _ ?side1 ?side2 ?side3 ?side4 A54.out).mono ?_); (case side1 => exact kD (Kd.R_reads' HO_5.out).2.2); (case side2 => exact (Kd.R_reads' HO_5.out).2.1); (case side3 => exact kD (Kd.R_reads' HO958.out).2.2); (case side4 => exact (Kd.R_reads' HO958.out).2.1); rintro e w' ⟨rfl, ⟨nd, rfl⟩⟩; have hcz68_0 : w63.cell? ⟨gb921, 0, none⟩ = some (.int .i64 a0_0) := bc BK921 0; have hcz68_1 : w63.cell? ⟨gb921, 1, none⟩ = some (.slice A0_1 l0_1.length c0_1) := bc BK921 1; have hcz68_2 : w63.cell? ⟨gb921, 2, none⟩ = some (.slice A0_2 l0_2.length c0_2) := bc BK921 2; have hfz68_0 := fz BK921 0; have hfz68_1 := fz BK921 1; have hfz68_2 := fz BK921 2) | (go_at_call 43; (with_reducible refine (congouref04_Means.calls kj5 a0_0 _ _ l0_1 _ _ l0_2 t961 _ ?side1 ?side2 ?side3 ?side4 A56.out).mono ?_); (case side1 => repeat (first | exact (Kd.C_below HR0_1.out (hbC _)) | (with_reducible refine Kd.C_alloc ?_ _) | (with_reducible refine Kd.C_drewN ?_ _) | (with_reducible refine Kd.C_drew ?_))); (case side2 => exact HC0_1.out); (case side3 => repeat (first | exact (Kd.C_below HR0_2.out (hbC _)) | (with_reducible refine Kd.C_alloc ?_ _) | (with_reducible refine Kd.C_drewN ?_ _) | (with_reducible refine Kd.C_drew ?_))); (case side4 => exact HC0_2.out); rintro e w69 ⟨v962, rfl, ho0, hb⟩; replace HO_4 := kO HO_4 hb; replace HO955 := kO HO955 hb; have HO963 := Aside0.mk (Kd.R_lower (Kd.R_new' (Kd.R_new' (Kd.R_new' ho0 (Kd.R_lt (rC HO_5))) (Kd.R_lt (rC HO_7))) (Kd.R_lt (rC HO958))) (below_size (hbC _))); replace HO_5 := Aside0.mk (Kd.R_elder' (rC HO_5) (Kd.R_base ho0) hb); replace HO_7 := Aside0.mk (Kd.R_elder' (rC HO_7) (Kd.R_base ho0) hb); replace HO958 := Aside0.mk (Kd.R_elder' (rC HO958) (Kd.R_base ho0) hb); replace BK921 := kB BK921 hb; replace HB := kH _ hb; (try clear hb); (try clear hb2); (try clear hk); (try clear hi); (try clear ho0); obtain ⟨Ao70, co70, eo70⟩ := Kd.R_slice HO_7.out; subst eo70; obtain ⟨Ao71, co71, eo71⟩ := Kd.R_slice HO963.out; subst eo71) | (go_at_call 23; (with_reducible refine (api_Frac.calls kj5 _ _ t944 _ _ t961 true _ ?side1 ?side2 ?side3 ?side4 A57.out).mono ?_); (case side1 => exact kD (Kd.R_reads' HO_7.out).2.2); (case side2 => exact (Kd.R_reads' HO_7.out).2.1); (case side3 => exact kD (Kd.R_reads' HO963.out).2.2); (case side4 => exact (Kd.R_reads' HO963.out).2.1); rintro e w' ⟨rfl, ⟨nd, rfl⟩⟩) | (go_at_call 17; (with_reducible refine (congoulaw04_awake.calls kj5  t965 _ A61.out).mono ?_); rintro e w72 ⟨rfl, hb⟩; replace HO_4 := kO HO_4 hb; replace HO_5 := kO HO_5 hb; replace HO_7 := kO HO_7 hb; replace HO955 := kO HO955 hb; replace HO958 := kO HO958 hb; replace HO963 := kO HO963 hb; replace BK921 := kB BK921 hb; replace HB := kH _ hb; (try clear hb); (try clear hb2); (try clear hk); (try clear hi)))
          go_ret
          exact ⟨by first | rfl | (simp [errW_none, errW_some] <;> rfl) | (simp [*, errW_none, errW_some] <;> rfl), hbC _⟩
         ·rw [if_neg c60] at H
          have c60b0 : (t947 == 0) = false := beq_eq_false_iff_ne.mpr c60
          have c60b1 : (t947 != 0) = true := bne_iff_ne.mpr c60
          exact absurd (H.trans (congrArg some HRT.out)) (by simp)
        ·rw [if_neg c59] at H
         have c59b0 : (t936 == 0) = false := beq_eq_false_iff_ne.mpr c59
         have c59b1 : (t936 != 0) = true := bne_iff_ne.mpr c59
         exact absurd (H.trans (congrArg some HRT.out)) (by simp)
       ·replace c58 := Bool.eq_false_iff.mpr c58
        subst c58
        have H1 : (some false) = some r := by rw [if_neg (show ¬ (false = true) by decide)] at H; exact H
        clear H
        have H := H1
        clear H1
        exact absurd (H.trans (congrArg some HRT.out)) (by simp)
      ·replace c55 := Bool.eq_false_iff.mpr c55
       subst c55
       have H1 : (some false) = some r := by rw [if_neg (show ¬ (false = true) by decide)] at H; exact H
       clear H
       have H := H1
       clear H1
       exact absurd (H.trans (congrArg some HRT.out)) (by simp)
     ·replace c53 := Bool.eq_false_iff.mpr c53
      subst c53
      have H1 : (some false) = some r := by rw [if_neg (show ¬ (false = true) by decide)] at H; exact H
      clear H
      have H := H1
      clear H1
      exact absurd (H.trans (congrArg some HRT.out)) (by simp)
    ·rw [if_neg c51] at H
     have c51b0 : (t929 == t952) = false := beq_eq_false_iff_ne.mpr c51
     have c51b1 : (t929 != t952) = true := bne_iff_ne.mpr c51
     exact absurd (H.trans (congrArg some HRT.out)) (by simp)

end Go.Proofs.Ytpnocmkpeogifaa.X
