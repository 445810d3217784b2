-- Written by a program of this work (wip/xprint.py, over the kit's printer) out of the translation.
import Derived.Test.YtpnocmkpeogifaaX0
import Derived.Test.YtpnocmkpeogifaaXf14
import Derived.Test.YtpnocmkpeogifaaXq0
namespace Go.Proofs.Ytpnocmkpeogifaa.X
open Go.RowKit Go.Proofs.YtpnocmkpeogifaaW.PrintWords Go.Proofs.YtpnocmkpeogifaaW.PrintLast Go.Proofs.YtpnocmkpeogifaaW.PrintMore
attribute [local go_sem] max2_int min2_int max_two min_two max_three min_three max_four min_four   -- for this text's walks alone
set_option linter.unusedVariables false
set_option linter.unusedSimpArgs false

attribute [local go_sem high] eqA26
/-! ### congoulaw04_awake: function 17 -/
def congoulaw04_awake.f (k : Nat)  : Option (Bool) := (curves_Value.f k 1 (([0, 0, 2, 2] : List Int)) (([1, 5] : List Int)) 1 1).bind fun bt290 => (if bt290.2.2 = 0 then (some (bt290.1 == 3 && (bt290.2.1 == 1))) else (some false))
theorem congoulaw04_awake.mono : ∀ k, LeO (congoulaw04_awake.f k ) (congoulaw04_awake.f (k + 1) ) := by
 intro  k
 unfold congoulaw04_awake.f
 repeat' first
   | (with_reducible exact curves_Value.mono _ _ _ _ _ _)
   | (with_reducible exact LeO.refl _)
   | (with_reducible exact LeO.none _)
   | (with_reducible refine LeO.ite ?_ ?_)
   | (with_reducible refine LeO.bind ?_ (fun _ => ?_))
   | exact curves_Value.mono _ _ _ _ _ _
   | exact LeO.none _
   | refine LeO.ite ?_ ?_
   | refine LeO.bind ?_ (fun _ => ?_)
set_option maxHeartbeats 8000000 in
set_option maxRecDepth 100000 in
theorem congoulaw04_awake.calls (k : Nat)  (r : Bool) (w : World) (h : congoulaw04_awake.f k  = some r) :
  Calls Try.prog 17 #[] w fun e w' => e = .returned (.bool r) ∧ Below w.heap.size w w' := by
 have hu30 := Try.underlying30
 have hu26 := Try.underlying26
 have HB := ak (Below.refl w.heap.size w)
 have H : ((curves_Value.f k 1 (([0, 0, 2, 2] : List Int)) (([1, 5] : List Int)) 1 1).bind fun bt290 => (if bt290.2.2 = 0 then (some (bt290.1 == 3 && (bt290.2.1 == 1))) else (some false))) = some r := h
 clear h
 obtain ⟨y284, hy284⟩ : ∃ y_ : List Int, y_ = (([0, 0, 2, 2] : List Int)) := ⟨_, rfl⟩
 replace H : ((curves_Value.f k 1 y284 (([1, 5] : List Int)) 1 1).bind fun bt290 => (if bt290.2.2 = 0 then (some (bt290.1 == 3 && (bt290.2.1 == 1))) else (some false))) = some r := by first | (rw [hy284]; with_reducible exact H) | (have H2_ := (Option.bind_some _ _).symm.trans H; rw [hy284]; with_reducible exact H2_) | (have H2_ := (Option.bind_some _ _).symm.trans H; with_reducible exact H2_) | with_reducible exact H | (rw [hy284]; exact H) | exact H
 have Ny284 := Aside0.mk hy284
 clear hy284
 obtain ⟨y287, hy287⟩ : ∃ y_ : List Int, y_ = (([1, 5] : List Int)) := ⟨_, rfl⟩
 replace H : ((curves_Value.f k 1 y284 y287 1 1).bind fun bt290 => (if bt290.2.2 = 0 then (some (bt290.1 == 3 && (bt290.2.1 == 1))) else (some false))) = some r := by first | (rw [hy287]; with_reducible exact H) | (have H2_ := (Option.bind_some _ _).symm.trans H; rw [hy287]; with_reducible exact H2_) | (have H2_ := (Option.bind_some _ _).symm.trans H; with_reducible exact H2_) | with_reducible exact H | (rw [hy287]; exact H) | exact H
 have Ny287 := Aside0.mk hy287
 clear hy287
 replace H := Option.bind_eq_some_iff.mp H
 obtain ⟨⟨t290, t291, t292⟩, A10, H⟩ := H
 replace H : (if t292 = 0 then (some (t290 == 3 && (t291 == 1))) else (some false)) = some r := H
 have A1 := Aside0.mk A10
 clear A10
 by_cases c2 : t292 = 0
 ·rw [if_pos c2] at H
  have c2b0 : (t292 == 0) = true := beq_iff_eq.mpr c2
  have c2b1 : (t292 != 0) = false := bne_eq_false_iff_eq.mpr c2
  clear c2
  obtain rfl := Option.some.inj H
  go_enter Try.func17, Try.ntmps17
  go_wp2_with (first | ((with_reducible refine gate_dst (N := 4) rfl ?_); refine Kd.R_lit (Kd.int .i64) _ 3 ?hg (N := 4) ?hd (xs := ([0, 0, 2, 2] : List Int)) (inner := [.int .i64 0, .int .i64 0, .int .i64 2, .int .i64 2]) (ok := fun _ => True) (okp := fun _ => True) ?hr ?hp (fun _ hk => hk) trivial (Below.refl _ _) (Nat.le_refl _) (by simp) ?_; (case hd => rfl); (case hg => rfl); (case hr => first | (go_simp; done) | (go_simp; rfl)); (case hp => exact (Reps.one (show Kd.M (Kd.int .i64) _ _ _ 0 [.int .i64 0] from rfl) (Reps.one (show Kd.M (Kd.int .i64) _ _ _ 0 [.int .i64 0] from rfl) (Reps.one (show Kd.M (Kd.int .i64) _ _ _ 2 [.int .i64 2] from rfl) (Reps.one (show Kd.M (Kd.int .i64) _ _ _ 2 [.int .i64 2] from rfl) (Reps.none _ _)))))); intro v285 w3 ho4 hb hg_ hnew_; clear hg_ hnew_; (first | rw [← Ny284.out] at ho4 | (simp only [Int.reduceToNat] at ho4; rw [← Ny284.out] at ho4)); have HO286 := ak (Kd.R_lower ho4 (below_size (hbC _))); replace HB := kH _ hb; clear hb ho4) | ((with_reducible refine gate_dst (N := 5) rfl ?_); refine Kd.R_lit (Kd.int .i64) _ 3 ?hg (N := 5) ?hd (xs := ([1, 5] : List Int)) (inner := [.int .i64 1, .int .i64 5]) (ok := fun _ => True) (okp := fun _ => True) ?hr ?hp (fun _ hk => hk) trivial (Below.refl _ _) (Nat.le_refl _) (by simp) ?_; (case hd => rfl); (case hg => rfl); (case hr => first | (go_simp; done) | (go_simp; rfl)); (case hp => exact (Reps.one (show Kd.M (Kd.int .i64) _ _ _ 1 [.int .i64 1] from rfl) (Reps.one (show Kd.M (Kd.int .i64) _ _ _ 5 [.int .i64 5] from rfl) (Reps.none _ _)))); intro v288 w5 ho6 hb hg_ hnew_; clear hg_ hnew_; (first | rw [← Ny287.out] at ho6 | (simp only [Int.reduceToNat] at ho6; rw [← Ny287.out] at ho6)); have HO289 := ak (Kd.R_lower (Kd.R_new' ho6 (Kd.R_lt (rC HO286))) (below_size (hbC _))); replace HO286 := ak (Kd.R_elder' (rC HO286) (Kd.R_base ho6) hb); replace HB := kH _ hb; clear hb ho6; obtain ⟨Ao7, co7, eo7⟩ := Kd.R_slice HO289.out; subst eo7; obtain ⟨Ao8, co8, eo8⟩ := Kd.R_slice HO286.out; subst eo8) | ((with_reducible refine gate_callee (f := 14) rfl ?_); refine gL 8 Try.func14 #[.agg #[.int .i64 1, .slice Ao8 y284.length co8, .slice Ao7 y287.length co7], .agg #[.int .i64 1, .int .i64 1]] ?_; (with_reducible refine (curves_Value.calls k 1 _ _ y284 _ _ y287 1 1 t290 t291 t292 _ ?side1 ?side2 ?side3 ?side4 A1.out).mono ?_); (case side1 => exact kD (Kd.R_reads' HO286.out).2.2); (case side2 => exact (Kd.R_reads' HO286.out).2.1); (case side3 => exact kD (Kd.R_reads' HO289.out).2.2); (case side4 => exact (Kd.R_reads' HO289.out).2.1); rintro e w9 ⟨rfl, hb⟩; refine ⟨_, rfl, ?_⟩; replace HO286 := kO HO286 hb; replace HO289 := kO HO289 hb; replace HB := kH _ hb; (try clear hb); (try clear hb2); (try clear hk); (try clear hi)) | ((with_reducible refine gate_dst (N := 1) rfl ?_); refine bE 1 #[.int .i64 0, .int .i64 0] 26 ?_; intro gb293 hg w10 hbox hb; replace HO286 := kO HO286 hb; replace HO289 := kO HO289 hb; have BK293 := ak (hbox); have GW293 := kG w hg; have GE293 := kG w hg; replace HB := kH _ hb; clear hb hbox hg; have hcz11_0 : w10.cell? ⟨gb293, 0, none⟩ = some (.int .i64 0) := bc BK293 0; have hcz11_1 : w10.cell? ⟨gb293, 1, none⟩ = some (.int .i64 0) := bc BK293 1; have hfz11_0 := fz BK293 0; have hfz11_1 := fz BK293 1))
  go_ret
  exact ⟨by first | rfl | (simp [errW_none, errW_some] <;> rfl) | (simp [*, errW_none, errW_some] <;> rfl), hbC _⟩
 rw [if_neg c2] at H
 have c2b0 : (t292 == 0) = false := beq_eq_false_iff_ne.mpr c2
 have c2b1 : (t292 != 0) = true := bne_iff_ne.mpr c2
 obtain rfl := Option.some.inj H
 go_enter Try.func17, Try.ntmps17
 go_wp2_with (first | ((with_reducible refine gate_dst (N := 4) rfl ?_); refine Kd.R_lit (Kd.int .i64) _ 3 ?hg (N := 4) ?hd (xs := ([0, 0, 2, 2] : List Int)) (inner := [.int .i64 0, .int .i64 0, .int .i64 2, .int .i64 2]) (ok := fun _ => True) (okp := fun _ => True) ?hr ?hp (fun _ hk => hk) trivial (Below.refl _ _) (Nat.le_refl _) (by simp) ?_; (case hd => rfl); (case hg => rfl); (case hr => first | (go_simp; done) | (go_simp; rfl)); (case hp => exact (Reps.one (show Kd.M (Kd.int .i64) _ _ _ 0 [.int .i64 0] from rfl) (Reps.one (show Kd.M (Kd.int .i64) _ _ _ 0 [.int .i64 0] from rfl) (Reps.one (show Kd.M (Kd.int .i64) _ _ _ 2 [.int .i64 2] from rfl) (Reps.one (show Kd.M (Kd.int .i64) _ _ _ 2 [.int .i64 2] from rfl) (Reps.none _ _)))))); intro v285 w12 ho13 hb hg_ hnew_; clear hg_ hnew_; (first | rw [← Ny284.out] at ho13 | (simp only [Int.reduceToNat] at ho13; rw [← Ny284.out] at ho13)); have HO286 := ak (Kd.R_lower ho13 (below_size (hbC _))); replace HB := kH _ hb; clear hb ho13) | ((with_reducible refine gate_dst (N := 5) rfl ?_); refine Kd.R_lit (Kd.int .i64) _ 3 ?hg (N := 5) ?hd (xs := ([1, 5] : List Int)) (inner := [.int .i64 1, .int .i64 5]) (ok := fun _ => True) (okp := fun _ => True) ?hr ?hp (fun _ hk => hk) trivial (Below.refl _ _) (Nat.le_refl _) (by simp) ?_; (case hd => rfl); (case hg => rfl); (case hr => first | (go_simp; done) | (go_simp; rfl)); (case hp => exact (Reps.one (show Kd.M (Kd.int .i64) _ _ _ 1 [.int .i64 1] from rfl) (Reps.one (show Kd.M (Kd.int .i64) _ _ _ 5 [.int .i64 5] from rfl) (Reps.none _ _)))); intro v288 w14 ho15 hb hg_ hnew_; clear hg_ hnew_; (first | rw [← Ny287.out] at ho15 | (simp only [Int.reduceToNat] at ho15; rw [← Ny287.out] at ho15)); have HO289 := ak (Kd.R_lower (Kd.R_new' ho15 (Kd.R_lt (rC HO286))) (below_size (hbC _))); replace HO286 := ak (Kd.R_elder' (rC HO286) (Kd.R_base ho15) hb); replace HB := kH _ hb; clear hb ho15; obtain ⟨Ao16, co16, eo16⟩ := Kd.R_slice HO289.out; subst eo16; obtain ⟨Ao17, co17, eo17⟩ := Kd.R_slice HO286.out; subst eo17) | ((with_reducible refine gate_callee (f := 14) rfl ?_); refine gL 8 Try.func14 #[.agg #[.int .i64 1, .slice Ao17 y284.length co17, .slice Ao16 y287.length co16], .agg #[.int .i64 1, .int .i64 1]] ?_; (with_reducible refine (curves_Value.calls k 1 _ _ y284 _ _ y287 1 1 t290 t291 t292 _ ?side1 ?side2 ?side3 ?side4 A1.out).mono ?_); (case side1 => exact kD (Kd.R_reads' HO286.out).2.2); (case side2 => exact (Kd.R_reads' HO286.out).2.1); (case side3 => exact kD (Kd.R_reads' HO289.out).2.2); (case side4 => exact (Kd.R_reads' HO289.out).2.1); rintro e w18 ⟨rfl, hb⟩; refine ⟨_, rfl, ?_⟩; replace HO286 := kO HO286 hb; replace HO289 := kO HO289 hb; replace HB := kH _ hb; (try clear hb); (try clear hb2); (try clear hk); (try clear hi)) | ((with_reducible refine gate_dst (N := 1) rfl ?_); refine bE 1 #[.int .i64 0, .int .i64 0] 26 ?_; intro gb293 hg w19 hbox hb; replace HO286 := kO HO286 hb; replace HO289 := kO HO289 hb; have BK293 := ak (hbox); have GW293 := kG w hg; have GE293 := kG w hg; replace HB := kH _ hb; clear hb hbox hg; have hcz20_0 : w19.cell? ⟨gb293, 0, none⟩ = some (.int .i64 0) := bc BK293 0; have hcz20_1 : w19.cell? ⟨gb293, 1, none⟩ = some (.int .i64 0) := bc BK293 1; have hfz20_0 := fz BK293 0; have hfz20_1 := fz BK293 1))
 go_ret
 exact ⟨by first | rfl | (simp [errW_none, errW_some] <;> rfl) | (simp [*, errW_none, errW_some] <;> rfl), hbC _⟩

end Go.Proofs.Ytpnocmkpeogifaa.X
