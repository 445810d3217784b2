-- Written by a program of this work (wip/xprint.py, over the kit's printer) out of the translation.
import Derived.Test.YtpnocmkpeogifaaDoorX0
import Derived.Test.YtpnocmkpeogifaaDoorXf14
import Derived.Test.YtpnocmkpeogifaaDoorXq0
namespace Go.Proofs.YtpnocmkpeogifaaDoor.X
open Go.RowKit Go.Proofs.YtpnocmkpeogifaaDoorW.PrintWords Go.Proofs.YtpnocmkpeogifaaDoorW.PrintLast Go.Proofs.YtpnocmkpeogifaaDoorW.PrintMore
attribute [local go_sem] max2_int min2_int max_two min_two max_three min_three max_four min_four   -- for this text's walks alone
set_option linter.unusedVariables false
set_option linter.unusedSimpArgs false

attribute [local go_sem high] eqA26
/-! ### congoulaw04_awake: function 9 -/
def congoulaw04_awake.f (k : Nat)  : Option (Bool) := (curves_Value.f k 1 (([0, 0, 2, 2] : List Int)) (([1, 5] : List Int)) 1 1).bind fun bt307 => (if bt307.2.2 = 0 then (some (bt307.1 == 3 && (bt307.2.1 == 1))) else (some false))
theorem congoulaw04_awake.mono : ∀ k, LeO (congoulaw04_awake.f k ) (congoulaw04_awake.f (k + 1) ) := by
 intro  k
 unfold congoulaw04_awake.f
 repeat' first
   | (with_reducible exact curves_Value.mono _ _ _ _ _ _)
   | (with_reducible exact LeO.refl _)
   | (with_reducible exact LeO.none _)
   | (with_reducible refine LeO.ite ?_ ?_)
   | (with_reducible refine LeO.bind ?_ (fun _ => ?_))
   | exact curves_Value.mono _ _ _ _ _ _
   | exact LeO.none _
   | refine LeO.ite ?_ ?_
   | refine LeO.bind ?_ (fun _ => ?_)
set_option maxHeartbeats 8000000 in
set_option maxRecDepth 100000 in
theorem congoulaw04_awake.calls (k : Nat)  (r : Bool) (w : World) (h : congoulaw04_awake.f k  = some r) :
  Calls Tryd.prog 9 #[] w fun e w' => e = .returned (.bool r) ∧ Below w.heap.size w w' := by
 have hu31 := Tryd.underlying31
 have hu26 := Tryd.underlying26
 have HB := ak (Below.refl w.heap.size w)
 have H : ((curves_Value.f k 1 (([0, 0, 2, 2] : List Int)) (([1, 5] : List Int)) 1 1).bind fun bt307 => (if bt307.2.2 = 0 then (some (bt307.1 == 3 && (bt307.2.1 == 1))) else (some false))) = some r := h
 clear h
 obtain ⟨y301, hy301⟩ : ∃ y_ : List Int, y_ = (([0, 0, 2, 2] : List Int)) := ⟨_, rfl⟩
 replace H : ((curves_Value.f k 1 y301 (([1, 5] : List Int)) 1 1).bind fun bt307 => (if bt307.2.2 = 0 then (some (bt307.1 == 3 && (bt307.2.1 == 1))) else (some false))) = some r := by first | (rw [hy301]; with_reducible exact H) | (have H2_ := (Option.bind_some _ _).symm.trans H; rw [hy301]; with_reducible exact H2_) | (have H2_ := (Option.bind_some _ _).symm.trans H; with_reducible exact H2_) | with_reducible exact H | (rw [hy301]; exact H) | exact H
 have Ny301 := Aside0.mk hy301
 clear hy301
 obtain ⟨y304, hy304⟩ : ∃ y_ : List Int, y_ = (([1, 5] : List Int)) := ⟨_, rfl⟩
 replace H : ((curves_Value.f k 1 y301 y304 1 1).bind fun bt307 => (if bt307.2.2 = 0 then (some (bt307.1 == 3 && (bt307.2.1 == 1))) else (some false))) = some r := by first | (rw [hy304]; with_reducible exact H) | (have H2_ := (Option.bind_some _ _).symm.trans H; rw [hy304]; with_reducible exact H2_) | (have H2_ := (Option.bind_some _ _).symm.trans H; with_reducible exact H2_) | with_reducible exact H | (rw [hy304]; exact H) | exact H
 have Ny304 := Aside0.mk hy304
 clear hy304
 replace H := Option.bind_eq_some_iff.mp H
 obtain ⟨⟨t307, t308, t309⟩, A10, H⟩ := H
 replace H : (if t309 = 0 then (some (t307 == 3 && (t308 == 1))) else (some false)) = some r := H
 have A1 := Aside0.mk A10
 clear A10
 by_cases c2 : t309 = 0
 ·rw [if_pos c2] at H
  have c2b0 : (t309 == 0) = true := beq_iff_eq.mpr c2
  have c2b1 : (t309 != 0) = false := bne_eq_false_iff_eq.mpr c2
  clear c2
  obtain rfl := Option.some.inj H
  go_enter Tryd.func9, Tryd.ntmps9
  go_wp2_with (first | ((with_reducible refine gate_dst (N := 4) rfl ?_); refine Kd.R_lit (Kd.int .i64) _ 3 ?hg (N := 4) ?hd (xs := ([0, 0, 2, 2] : List Int)) (inner := [.int .i64 0, .int .i64 0, .int .i64 2, .int .i64 2]) (ok := fun _ => True) (okp := fun _ => True) ?hr ?hp (fun _ hk => hk) trivial (Below.refl _ _) (Nat.le_refl _) (by simp) ?_; (case hd => rfl); (case hg => rfl); (case hr => first | (go_simp; done) | (go_simp; rfl)); (case hp => exact (Reps.one (show Kd.M (Kd.int .i64) _ _ _ 0 [.int .i64 0] from rfl) (Reps.one (show Kd.M (Kd.int .i64) _ _ _ 0 [.int .i64 0] from rfl) (Reps.one (show Kd.M (Kd.int .i64) _ _ _ 2 [.int .i64 2] from rfl) (Reps.one (show Kd.M (Kd.int .i64) _ _ _ 2 [.int .i64 2] from rfl) (Reps.none _ _)))))); intro v302 w3 ho4 hb hg_ hnew_; clear hg_ hnew_; (first | rw [← Ny301.out] at ho4 | (simp only [Int.reduceToNat] at ho4; rw [← Ny301.out] at ho4)); have HO303 := ak (Kd.R_lower ho4 (below_size (hbC _))); replace HB := kH _ hb; clear hb ho4) | ((with_reducible refine gate_dst (N := 5) rfl ?_); refine Kd.R_lit (Kd.int .i64) _ 3 ?hg (N := 5) ?hd (xs := ([1, 5] : List Int)) (inner := [.int .i64 1, .int .i64 5]) (ok := fun _ => True) (okp := fun _ => True) ?hr ?hp (fun _ hk => hk) trivial (Below.refl _ _) (Nat.le_refl _) (by simp) ?_; (case hd => rfl); (case hg => rfl); (case hr => first | (go_simp; done) | (go_simp; rfl)); (case hp => exact (Reps.one (show Kd.M (Kd.int .i64) _ _ _ 1 [.int .i64 1] from rfl) (Reps.one (show Kd.M (Kd.int .i64) _ _ _ 5 [.int .i64 5] from rfl) (Reps.none _ _)))); intro v305 w5 ho6 hb hg_ hnew_; clear hg_ hnew_; (first | rw [← Ny304.out] at ho6 | (simp only [Int.reduceToNat] at ho6; rw [← Ny304.out] at ho6)); have HO306 := ak (Kd.R_lower (Kd.R_new' ho6 (Kd.R_lt (rC HO303))) (below_size (hbC _))); replace HO303 := ak (Kd.R_elder' (rC HO303) (Kd.R_base ho6) hb); replace HB := kH _ hb; clear hb ho6; obtain ⟨Ao7, co7, eo7⟩ := Kd.R_slice HO306.out; subst eo7; obtain ⟨Ao8, co8, eo8⟩ := Kd.R_slice HO303.out; subst eo8) | ((with_reducible refine gate_callee (f := 14) rfl ?_); refine gL 8 Tryd.func14 #[.agg #[.int .i64 1, .slice Ao8 y301.length co8, .slice Ao7 y304.length co7], .agg #[.int .i64 1, .int .i64 1]] ?_; (with_reducible refine (curves_Value.calls k 1 _ _ y301 _ _ y304 1 1 t307 t308 t309 _ ?side1 ?side2 ?side3 ?side4 A1.out).mono ?_); (case side1 => exact kD (Kd.R_reads' HO303.out).2.2); (case side2 => exact (Kd.R_reads' HO303.out).2.1); (case side3 => exact kD (Kd.R_reads' HO306.out).2.2); (case side4 => exact (Kd.R_reads' HO306.out).2.1); rintro e w9 ⟨rfl, hb⟩; refine ⟨_, rfl, ?_⟩; replace HO303 := kO HO303 hb; replace HO306 := kO HO306 hb; replace HB := kH _ hb; (try clear hb); (try clear hb2); (try clear hk); (try clear hi)) | ((with_reducible refine gate_dst (N := 1) rfl ?_); refine bE 1 #[.int .i64 0, .int .i64 0] 26 ?_; intro gb310 hg w10 hbox hb; replace HO303 := kO HO303 hb; replace HO306 := kO HO306 hb; have BK310 := ak (hbox); have GW310 := kG w hg; have GE310 := kG w hg; replace HB := kH _ hb; clear hb hbox hg; have hcz11_0 : w10.cell? ⟨gb310, 0, none⟩ = some (.int .i64 0) := bc BK310 0; have hcz11_1 : w10.cell? ⟨gb310, 1, none⟩ = some (.int .i64 0) := bc BK310 1; have hfz11_0 := fz BK310 0; have hfz11_1 := fz BK310 1))
  go_ret
  exact ⟨by first | rfl | (simp [errW_none, errW_some] <;> rfl) | (simp [*, errW_none, errW_some] <;> rfl), hbC _⟩
 rw [if_neg c2] at H
 have c2b0 : (t309 == 0) = false := beq_eq_false_iff_ne.mpr c2
 have c2b1 : (t309 != 0) = true := bne_iff_ne.mpr c2
 obtain rfl := Option.some.inj H
 go_enter Tryd.func9, Tryd.ntmps9
 go_wp2_with (first | ((with_reducible refine gate_dst (N := 4) rfl ?_); refine Kd.R_lit (Kd.int .i64) _ 3 ?hg (N := 4) ?hd (xs := ([0, 0, 2, 2] : List Int)) (inner := [.int .i64 0, .int .i64 0, .int .i64 2, .int .i64 2]) (ok := fun _ => True) (okp := fun _ => True) ?hr ?hp (fun _ hk => hk) trivial (Below.refl _ _) (Nat.le_refl _) (by simp) ?_; (case hd => rfl); (case hg => rfl); (case hr => first | (go_simp; done) | (go_simp; rfl)); (case hp => exact (Reps.one (show Kd.M (Kd.int .i64) _ _ _ 0 [.int .i64 0] from rfl) (Reps.one (show Kd.M (Kd.int .i64) _ _ _ 0 [.int .i64 0] from rfl) (Reps.one (show Kd.M (Kd.int .i64) _ _ _ 2 [.int .i64 2] from rfl) (Reps.one (show Kd.M (Kd.int .i64) _ _ _ 2 [.int .i64 2] from rfl) (Reps.none _ _)))))); intro v302 w12 ho13 hb hg_ hnew_; clear hg_ hnew_; (first | rw [← Ny301.out] at ho13 | (simp only [Int.reduceToNat] at ho13; rw [← Ny301.out] at ho13)); have HO303 := ak (Kd.R_lower ho13 (below_size (hbC _))); replace HB := kH _ hb; clear hb ho13) | ((with_reducible refine gate_dst (N := 5) rfl ?_); refine Kd.R_lit (Kd.int .i64) _ 3 ?hg (N := 5) ?hd (xs := ([1, 5] : List Int)) (inner := [.int .i64 1, .int .i64 5]) (ok := fun _ => True) (okp := fun _ => True) ?hr ?hp (fun _ hk => hk) trivial (Below.refl _ _) (Nat.le_refl _) (by simp) ?_; (case hd => rfl); (case hg => rfl); (case hr => first | (go_simp; done) | (go_simp; rfl)); (case hp => exact (Reps.one (show Kd.M (Kd.int .i64) _ _ _ 1 [.int .i64 1] from rfl) (Reps.one (show Kd.M (Kd.int .i64) _ _ _ 5 [.int .i64 5] from rfl) (Reps.none _ _)))); intro v305 w14 ho15 hb hg_ hnew_; clear hg_ hnew_; (first | rw [← Ny304.out] at ho15 | (simp only [Int.reduceToNat] at ho15; rw [← Ny304.out] at ho15)); have HO306 := ak (Kd.R_lower (Kd.R_new' ho15 (Kd.R_lt (rC HO303))) (below_size (hbC _))); replace HO303 := ak (Kd.R_elder' (rC HO303) (Kd.R_base ho15) hb); replace HB := kH _ hb; clear hb ho15; obtain ⟨Ao16, co16, eo16⟩ := Kd.R_slice HO306.out; subst eo16; obtain ⟨Ao17, co17, eo17⟩ := Kd.R_slice HO303.out; subst eo17) | ((with_reducible refine gate_callee (f := 14) rfl ?_); refine gL 8 Tryd.func14 #[.agg #[.int .i64 1, .slice Ao17 y301.length co17, .slice Ao16 y304.length co16], .agg #[.int .i64 1, .int .i64 1]] ?_; (with_reducible refine (curves_Value.calls k 1 _ _ y301 _ _ y304 1 1 t307 t308 t309 _ ?side1 ?side2 ?side3 ?side4 A1.out).mono ?_); (case side1 => exact kD (Kd.R_reads' HO303.out).2.2); (case side2 => exact (Kd.R_reads' HO303.out).2.1); (case side3 => exact kD (Kd.R_reads' HO306.out).2.2); (case side4 => exact (Kd.R_reads' HO306.out).2.1); rintro e w18 ⟨rfl, hb⟩; refine ⟨_, rfl, ?_⟩; replace HO303 := kO HO303 hb; replace HO306 := kO HO306 hb; replace HB := kH _ hb; (try clear hb); (try clear hb2); (try clear hk); (try clear hi)) | ((with_reducible refine gate_dst (N := 1) rfl ?_); refine bE 1 #[.int .i64 0, .int .i64 0] 26 ?_; intro gb310 hg w19 hbox hb; replace HO303 := kO HO303 hb; replace HO306 := kO HO306 hb; have BK310 := ak (hbox); have GW310 := kG w hg; have GE310 := kG w hg; replace HB := kH _ hb; clear hb hbox hg; have hcz20_0 : w19.cell? ⟨gb310, 0, none⟩ = some (.int .i64 0) := bc BK310 0; have hcz20_1 : w19.cell? ⟨gb310, 1, none⟩ = some (.int .i64 0) := bc BK310 1; have hfz20_0 := fz BK310 0; have hfz20_1 := fz BK310 1))
 go_ret
 exact ⟨by first | rfl | (simp [errW_none, errW_some] <;> rfl) | (simp [*, errW_none, errW_some] <;> rfl), hbC _⟩

end Go.Proofs.YtpnocmkpeogifaaDoor.X
