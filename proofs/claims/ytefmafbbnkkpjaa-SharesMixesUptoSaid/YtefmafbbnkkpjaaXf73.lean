-- Written by a program of this work (wip/xprint.py, over the kit's printer) out of the translation.
import Derived.Test.YtefmafbbnkkpjaaX0
import Derived.Test.YtefmafbbnkkpjaaXG1a
import Derived.Test.YtefmafbbnkkpjaaXf100
import Derived.Test.YtefmafbbnkkpjaaXf74
namespace Go.Proofs.Ytefmafbbnkkpjaa.X
open Go.RowKit Go.Proofs.YtefmafbbnkkpjaaW.PrintWords Go.Proofs.YtefmafbbnkkpjaaW.PrintLast Go.Proofs.YtefmafbbnkkpjaaW.PrintMore
attribute [local go_sem] max2_int min2_int max_two min_two max_three min_three max_four min_four   -- for this text's walks alone
set_option linter.unusedVariables false
set_option linter.unusedSimpArgs false

/-! ### shares_gives: function 73 -/
def shares_gives.l0 : Nat → List Int → List Int → List (S77) → Option ((List (S77)))
 | 0, _, _, _ => none
 | k + 1, x0, x1, x5 => (shares_step.f k x0 x1).bind fun bt221 => (if bt221.2.2.2 = true then ((shares_Give_do.f bt221.1 bt221.2.1 bt221.2.2.1 x0).bind fun bt226 => (if x5.length < 5864062014805 then (shares_gives.l0 k bt226.2 x1 (x5 ++ [(⟨bt221.1, bt221.2.1, bt221.2.2.1⟩ : S77)])) else (none))) else (some x5))
def shares_gives.f (k : Nat) (l0 : List Int) (l1 : List Int) : Option ((List (S77))) := (slices_Clone_int_int.f l0).bind fun t218 => (shares_gives.l0 k t218 l1 ([] : List (S77)))
theorem shares_gives.mono_l : ∀ k, (∀ y0 y1 y2, LeO (shares_gives.l0 k y0 y1 y2) (shares_gives.l0 (k + 1) y0 y1 y2))
 | 0 => fun _ _ _ r h => by simp [shares_gives.l0] at h
 | k + 1 => by
  have ih0 := shares_gives.mono_l k
  ·intro y0 y1 y2
   unfold shares_gives.l0
   repeat' first
   | (with_reducible exact ih0 _ _ _)
   | (with_reducible exact shares_step.mono _ _ _)
   | (with_reducible exact LeO.refl _)
   | (with_reducible exact LeO.none _)
   | (with_reducible refine LeO.ite ?_ ?_)
   | (with_reducible refine LeO.bind ?_ (fun _ => ?_))
   | exact ih0 _ _ _
   | exact shares_step.mono _ _ _
   | exact LeO.none _
   | refine LeO.ite ?_ ?_
   | refine LeO.bind ?_ (fun _ => ?_)
theorem shares_gives.mono : ∀ a0 a1 k, LeO (shares_gives.f k a0 a1) (shares_gives.f (k + 1) a0 a1) := by
 intro a0 a1 k
 have ih0 := shares_gives.mono_l k
 unfold shares_gives.f
 repeat' first
   | (with_reducible exact ih0 _ _ _)
   | (with_reducible exact shares_step.mono _ _ _)
   | (with_reducible exact LeO.refl _)
   | (with_reducible exact LeO.none _)
   | (with_reducible refine LeO.ite ?_ ?_)
   | (with_reducible refine LeO.bind ?_ (fun _ => ?_))
   | exact ih0 _ _ _
   | exact shares_step.mono _ _ _
   | exact LeO.none _
   | refine LeO.ite ?_ ?_
   | refine LeO.bind ?_ (fun _ => ?_)
set_option maxHeartbeats 8000000 in
set_option maxRecDepth 100000 in
theorem shares_gives.calls (k : Nat) (A0 : Option Addr) (c0 : Nat) (l0 : List Int) (A1 : Option Addr) (c1 : Nat) (l1 : List Int) (r : List (S77)) (w : World) (hr0 : Kd.C (Kd.int .i64) w A0 l0.length l0) (hc0 : l0.length ≤ c0) (hr1 : Kd.C (Kd.int .i64) w A1 l1.length l1) (hc1 : l1.length ≤ c1) (h : shares_gives.f k l0 l1 = some r) :
  Calls Try.prog 73 #[.slice A0 l0.length c0, .slice A1 l1.length c1] w fun e w' => ∃ v0_ : Value, e = .returned (v0_) ∧ Kd.R k77 77 w' w.heap.size (fun _ => True) v0_ r ∧ Below w.heap.size w w' := by
 have hu77 := Try.underlying77
 have HR0 := Aside0.mk hr0
 have HC0 := Aside0.mk hc0
 clear hr0 hc0
 have HR1 := Aside0.mk hr1
 have HC1 := Aside0.mk hc1
 clear hr1 hc1
 have HB := ak (Below.refl w.heap.size w)
 have H : ((slices_Clone_int_int.f l0).bind fun t218 => (shares_gives.l0 k t218 l1 ([] : List (S77)))) = some r := h
 clear h
 replace H := Option.bind_eq_some_iff.mp H
 obtain ⟨t218, A30, H⟩ := H
 replace H : (shares_gives.l0 k t218 l1 ([] : List (S77))) = some r := H
 have A3 := Aside0.mk A30
 clear A30
 have H' := Aside0.mk H
 clear H
 go_enter Try.func73, Try.ntmps73
 go_wp2_with (first | ((with_reducible refine gate_callee (f := 42) rfl ?_); refine gL 9 Try.func42 #[.slice A0 l0.length c0] ?_; (with_reducible refine (slices_Clone_int_int.calls _ _ l0 t218 _ ?side1 ?side2 A3.out).mono ?_); (case side1 => repeat (first | exact HR0.out | (with_reducible refine Kd.C_alloc ?_ _) | (with_reducible refine Kd.C_drewN ?_ _) | (with_reducible refine Kd.C_drew ?_))); (case side2 => exact HC0.out); rintro e w4 ⟨v219, rfl, ho0, hb⟩; refine ⟨_, rfl, ?_⟩; have HO220 := ak (Kd.R_lower ho0 (below_size (hbC _))); replace HB := kH _ hb; (try clear hb); (try clear hb2); (try clear hk); (try clear hi); (try clear ho0)))
 go_loopg [5] k (fun kq v5 w' => ∃ (x0_1 : List Int) (x5_1 : List (S77)), Aside0 (shares_gives.l0 kq x0_1 l1 x5_1 = some r) ∧ Aside0 (kq ≤ k) ∧ Aside0 (Kd.R (Kd.int .i64) 3 w' w.heap.size (fun _ => True) v219 x0_1) ∧ Aside0 (Kd.R k77 77 w' w.heap.size (fun _ => True) v5 x5_1) ∧ Aside0 (Below w.heap.size w w'))
 case atStart => exact ⟨(t218), (([] : List (S77))), H', ⟨Nat.le_refl _⟩, ⟨rC HO220⟩, ⟨by first | exact Kd.R_nil _ _ _ _ _ | exact Kd.N_nil _ _ _ _ _ | exact Kd.V_nil _ _ _ _ _ | exact Kd.Q_nil _ _ _ _ _ | exact Kd.S_nil _ _ _ _ _⟩, ⟨hbC _⟩⟩
 case round =>
  clear H'
  try clear c1
  try clear p2
  try clear c4
  obtain ⟨x0_1, x5_1, HA, HK1, HO_0, HO_5, HB⟩ := hrel
  cases gk with
  | zero => exact absurd HA.out (by simp [shares_gives.l0])
  | succ k1 =>
   have H := HA.out
   clear HA
   simp only [shares_gives.l0] at H
   replace H := Option.bind_eq_some_iff.mp H
   obtain ⟨⟨t221, t222, t223, t224⟩, A50, H⟩ := H
   replace H : (if t224 = true then ((shares_Give_do.f t221 t222 t223 x0_1).bind fun bt226 => (if x5_1.length < 5864062014805 then (shares_gives.l0 k1 bt226.2 l1 (x5_1 ++ [(⟨t221, t222, t223⟩ : S77)])) else (none))) else (some x5_1)) = some r := H
   have A5 := Aside0.mk A50
   clear A50
   by_cases c6 : t224 = true
   rotate_left
   ·replace c6 := Bool.eq_false_iff.mpr c6
    subst c6
    have H1 : (some x5_1) = some r := by rw [if_neg (show ¬ (false = true) by decide)] at H; exact H
    clear H
    have H := H1
    clear H1
    obtain rfl := Option.some.inj H
    obtain ⟨Ao18, co18, eo18⟩ := Kd.R_slice HO_0.out
    subst eo18
    go_wp2_with (first | ((with_reducible refine gate_callee (f := 100) rfl ?_); refine gL 13 Try.func100 #[.slice Ao18 x0_1.length co18, .slice A1 l1.length c1] ?_; (with_reducible refine (shares_step.calls k1 _ _ x0_1 _ _ l1 t221 t222 t223 false _ ?side1 ?side2 ?side3 ?side4 A5.out).mono ?_); (case side1 => exact kD (Kd.R_reads' HO_0.out).2.2); (case side2 => exact (Kd.R_reads' HO_0.out).2.1); (case side3 => exact kC HR1); (case side4 => exact HC1.out); rintro e w19 ⟨rfl, hb⟩; refine ⟨_, rfl, ?_⟩; replace HO_0 := kO HO_0 hb; replace HO_5 := kO HO_5 hb; replace HB := kH _ hb; (try clear hb); (try clear hb2); (try clear hk); (try clear hi)) | ((with_reducible refine gate_dst (N := 6) rfl ?_); refine bE 6 #[.int .i64 0, .int .i64 0, .int .i64 0] 77 ?_; intro gb225 hg w20 hbox hb; replace HO_0 := kO HO_0 hb; replace HO_5 := ak (Kd.R_below (Kd.R_elderB (rC HO_5) gb225 (Nat.le_of_eq hg.symm)) hb); have BK225 := ak (hbox); have GW225 := kG w hg; have GE225 := kG w hg; replace HB := kH _ hb; clear hb hbox hg; have hcz21_0 : w20.cell? ⟨gb225, 0, none⟩ = some (.int .i64 0) := bc BK225 0; have hcz21_1 : w20.cell? ⟨gb225, 1, none⟩ = some (.int .i64 0) := bc BK225 1; have hcz21_2 : w20.cell? ⟨gb225, 2, none⟩ = some (.int .i64 0) := bc BK225 2; have hfz21_0 := fz BK225 0; have hfz21_1 := fz BK225 1; have hfz21_2 := fz BK225 2))
    go_ret
    exact ⟨_, by first | rfl | (simp [errW_none, errW_some] <;> rfl) | (simp [*, errW_none, errW_some] <;> rfl), rD (Kd.R_mono (Kd.R_far (p := ⟨gb225, 2, none⟩) (Kd.R_far (p := ⟨gb225, 1, none⟩) (Kd.R_far (p := ⟨gb225, 0, none⟩) (Kd.R_mono HO_5.out (fun k_ hk => (⟨hk, hk.2⟩ : _ ∧ k_ ≠ gb225))) (fun _ hk => hk.2) (.int .i64 t221)) (fun _ hk => hk.2) (.int .i64 t222)) (fun _ hk => hk.2) (.int .i64 t223)) (fun _ hk => trivial)), hbC _⟩
   subst c6
   have H1 : ((shares_Give_do.f t221 t222 t223 x0_1).bind fun bt226 => (if x5_1.length < 5864062014805 then (shares_gives.l0 k1 bt226.2 l1 (x5_1 ++ [(⟨t221, t222, t223⟩ : S77)])) else (none))) = some r := by rw [if_pos rfl] at H; exact H
   clear H
   have H := H1
   clear H1
   replace H := Option.bind_eq_some_iff.mp H
   obtain ⟨⟨t226, t227⟩, A70, H⟩ := H
   replace H : (if x5_1.length < 5864062014805 then (shares_gives.l0 k1 t227 l1 (x5_1 ++ [(⟨t221, t222, t223⟩ : S77)])) else (none)) = some r := H
   have A7 := Aside0.mk A70
   clear A70
   by_cases c8 : x5_1.length < 5864062014805
   rotate_left
   ·rw [if_neg c8] at H
    exact absurd H (by simp)
   rw [if_pos c8] at H
   have LMc8 := Aside0.mk c8
   clear c8
   obtain ⟨y228, hy228⟩ : ∃ y_ : List (S77), y_ = (x5_1 ++ [(⟨t221, t222, t223⟩ : S77)]) := ⟨_, rfl⟩
   replace H : (shares_gives.l0 k1 t227 l1 y228) = some r := by first | (rw [hy228]; with_reducible exact H) | (have H2_ := (Option.bind_some _ _).symm.trans H; rw [hy228]; with_reducible exact H2_) | (have H2_ := (Option.bind_some _ _).symm.trans H; with_reducible exact H2_) | with_reducible exact H | (rw [hy228]; exact H) | exact H
   have Ny228 := Aside0.mk hy228
   clear hy228
   have H' := Aside0.mk H
   clear H
   obtain ⟨Ao9, co9, eo9⟩ := Kd.R_slice HO_0.out
   subst eo9
   go_wp2_with (first | ((with_reducible refine gate_callee (f := 100) rfl ?_); refine gL 13 Try.func100 #[.slice Ao9 x0_1.length co9, .slice A1 l1.length c1] ?_; (with_reducible refine (shares_step.calls k1 _ _ x0_1 _ _ l1 t221 t222 t223 true _ ?side1 ?side2 ?side3 ?side4 A5.out).mono ?_); (case side1 => exact kD (Kd.R_reads' HO_0.out).2.2); (case side2 => exact (Kd.R_reads' HO_0.out).2.1); (case side3 => exact kC HR1); (case side4 => exact HC1.out); rintro e w10 ⟨rfl, hb⟩; refine ⟨_, rfl, ?_⟩; replace HO_0 := kO HO_0 hb; replace HO_5 := kO HO_5 hb; replace HB := kH _ hb; (try clear hb); (try clear hb2); (try clear hk); (try clear hi)) | ((with_reducible refine gate_dst (N := 6) rfl ?_); refine bE 6 #[.int .i64 0, .int .i64 0, .int .i64 0] 77 ?_; intro gb225 hg w11 hbox hb; replace HO_0 := kO HO_0 hb; replace HO_5 := ak (Kd.R_below (Kd.R_elderB (rC HO_5) gb225 (Nat.le_of_eq hg.symm)) hb); have BK225 := ak (hbox); have GW225 := kG w hg; have GE225 := kG w hg; replace HB := kH _ hb; clear hb hbox hg; have hcz12_0 : w11.cell? ⟨gb225, 0, none⟩ = some (.int .i64 0) := bc BK225 0; have hcz12_1 : w11.cell? ⟨gb225, 1, none⟩ = some (.int .i64 0) := bc BK225 1; have hcz12_2 : w11.cell? ⟨gb225, 2, none⟩ = some (.int .i64 0) := bc BK225 2; have hfz12_0 := fz BK225 0; have hfz12_1 := fz BK225 1; have hfz12_2 := fz BK225 2) | ((with_reducible refine gate_store (t := 77) (p := 6) rfl ?_); refine store_event (t := 77) (p := 6) (v := ?vo_w13) (w1 := (((w11.setCell ⟨gb225, 0, none⟩ (.int .i64 t221)).setCell ⟨gb225, 1, none⟩ (.int .i64 t222)).setCell ⟨gb225, 2, none⟩ (.int .i64 t223))) ?hg ?ho ?hn ?hr ?_; (case ho => rfl); (case hg => rfl); (case hn => rfl); (case hr => first | (go_simp; done) | (go_simp; rfl)); intro w13 hw; have n0_ : Aside0 (Kd.R (Kd.int .i64) 3 w13 w.heap.size (fun _ => True) (.slice Ao9 x0_1.length co9) x0_1) := ⟨(by rw [hw]; exact (rD (Kd.R_mono (Kd.R_far (p := ⟨gb225, 2, none⟩) (Kd.R_far (p := ⟨gb225, 1, none⟩) (Kd.R_far (p := ⟨gb225, 0, none⟩) (Kd.R_types HO_0.out BK225.out (by decide)) (fun _ hk => hk.2) (.int .i64 t221)) (fun _ hk => hk.2) (.int .i64 t222)) (fun _ hk => hk.2) (.int .i64 t223)) (fun _ hk => trivial))))⟩; have n1_ : Aside0 (Kd.R k77 77 w13 w.heap.size (fun k_ => k_ ≠ gb225) u5 x5_1) := ⟨(by rw [hw]; exact (rD (Kd.R_mono (Kd.R_far (p := ⟨gb225, 2, none⟩) (Kd.R_far (p := ⟨gb225, 1, none⟩) (Kd.R_far (p := ⟨gb225, 0, none⟩) (Kd.R_mono HO_5.out (fun k_ hk => (⟨hk, hk.2⟩ : _ ∧ k_ ≠ gb225))) (fun _ hk => hk.2) (.int .i64 t221)) (fun _ hk => hk.2) (.int .i64 t222)) (fun _ hk => hk.2) (.int .i64 t223)) (fun _ hk => hk.1.2))))⟩; have n2_ : Aside0 (w13.heap[gb225]? = some (.cells #[.int .i64 t221, .int .i64 t222, .int .i64 t223] 77 (0, 0))) := ⟨(by rw [hw]; exact (by (with_reducible repeat (first | refine blk_drewN ?_ _ | refine blk_drew ?_ | refine blk_alloc ?_ _)); refine blk_put (cs := #[.int .i64 t221, .int .i64 t222, .int .i64 0]) ?_ 2 _ rfl; (with_reducible repeat (first | refine blk_drewN ?_ _ | refine blk_drew ?_ | refine blk_alloc ?_ _)); refine blk_put (cs := #[.int .i64 t221, .int .i64 0, .int .i64 0]) ?_ 1 _ rfl; (with_reducible repeat (first | refine blk_drewN ?_ _ | refine blk_drew ?_ | refine blk_alloc ?_ _)); refine blk_put (cs := #[.int .i64 0, .int .i64 0, .int .i64 0]) ?_ 0 _ rfl; (with_reducible repeat (first | refine blk_drewN ?_ _ | refine blk_drew ?_ | refine blk_alloc ?_ _)); exact BK225.out))⟩; have n3_ : Aside0 (Below w.heap.size w w13) := ⟨(by rw [hw]; exact (hbC _))⟩; clear hw; clear HO_0; clear HO_5; clear BK225; clear HB; have HO_0 := n0_; have HO_5 := n1_; have BK225 := n2_; have HB := n3_; clear n0_ n1_ n2_ n3_; have hcz14_0 : w13.cell? ⟨gb225, 0, none⟩ = some (.int .i64 t221) := bc BK225 0; have hcz14_1 : w13.cell? ⟨gb225, 1, none⟩ = some (.int .i64 t222) := bc BK225 1; have hcz14_2 : w13.cell? ⟨gb225, 2, none⟩ = some (.int .i64 t223) := bc BK225 2; have hfz14_0 := fz BK225 0; have hfz14_1 := fz BK225 1; have hfz14_2 := fz BK225 2) | ((with_reducible refine gate_callee (f := 74) rfl ?_); refine gL 21 Try.func74 #[.agg #[.int .i64 t221, .int .i64 t222, .int .i64 t223], .slice Ao9 x0_1.length co9] ?_; (with_reducible refine (shares_Give_do.calls t221 t222 t223 (fun k_ => some k_ = (.slice Ao9 x0_1.length co9 : Value).ownBlock) (.slice Ao9 x0_1.length co9) x0_1 t226 t227 w _ ?side1 ?side2 A7.out).mono ?_); (case side1 => repeat (first | (with_reducible first | exact HB.out | apply below_alloc | apply pw_below_drewN | apply below_drew1 | refine below_set ?_ GE225.out) | exact HB.out)); (case side2 => exact Kd.R_tight rfl HO_0.out); rintro e w15 ⟨rfl, hy0, hb, hkp⟩; refine ⟨_, rfl, ?_⟩; replace HO_5 := ak (Kd.R_mono (ok' := fun k_ => k_ ≠ gb225) (Kd.R_keptB ((Kd.R_apart' HO_5.out (Kd.R_typed HO_0.out) (by decide))) hkp (fun k_ hk_ hs_ => (hk_.2) hs_)) (fun k_ hk_ => hk_.1.1)); replace BK225 := ak (blk_kept (bkC BK225) hkp (fun hs_ => (fun e_ => (Kd.R_ne HO_0.out BK225.out (by decide)) e_) hs_)); replace HO_0 := ak (Kd.R_reok rfl hy0 (fun k_ e_ => HO_0.out.1 k_ e_)); replace HB := ak (hb); (try clear hb); (try clear hkp); (try clear hy0); have hcz16_0 : w15.cell? ⟨gb225, 0, none⟩ = some (.int .i64 t221) := bc BK225 0; have hcz16_1 : w15.cell? ⟨gb225, 1, none⟩ = some (.int .i64 t222) := bc BK225 1; have hcz16_2 : w15.cell? ⟨gb225, 2, none⟩ = some (.int .i64 t223) := bc BK225 2; have hfz16_0 := fz BK225 0; have hfz16_1 := fz BK225 1; have hfz16_2 := fz BK225 2) | ((with_reducible refine gate_builtin (b := .append) (xs := #[.tmp 22, .tmp 24]) rfl ?_); at_builtin; refine Kd.R_append k77 (w0 := w) w.heap.size rfl (.tmp 22) (.tmp 24) 40 77 (.agg #[(.int .i64 0), (.int .i64 0), (.int .i64 0)]) 24 rfl Try.underlying40 info77 rfl (by decide) (by omega) u5 x5_1 (⟨t221, t222, t223⟩ : S77) [.int .i64 t221, .int .i64 t222, .int .i64 t223] (fun k_ => k_ ≠ gb225) (fun _ => False) rfl rfl ?aP (fun _ hk => hk.elim) ?aF ?aO ?aB ?aS ?aL ?_; (case aP => exact k77_mkM _ _ _ (⟨t221, t222, t223⟩ : S77)); (case aB => exact (hbC _)); (case aF => exact (fun k_ hk => Kd.freshB (g := gb225) (o := .cells #[.int .i64 t221, .int .i64 t222, .int .i64 t223] 77 (0, 0)) (bkC BK225) k_ hk)); (case aO => exact (rC HO_5)); (case aS => exact (below_size (hbC _))); (case aL => have := LMc8.out; omega); intro v229 w17 ho hb hg hat; rw [← Ny228.out] at ho; have n0_ := ak (Kd.R_over' (rC HO_0) (Kd.R_typed (rC HO_5)) (by decide) hg); have n1_ := ak (blk_grown (g := gb225) (o := .cells #[.int .i64 t221, .int .i64 t222, .int .i64 t223] 77 (0, 0)) (bkC BK225) hg (Kd.R_away HO_5.out (fun _ hk => hk))); have n2_ := ak (hb); have n3_ := ak (ho); clear HO_0; clear BK225; clear HB; clear HO_5; have HO_0 := n0_; have BK225 := n1_; have HB := n2_; have HO230 := n3_; clear n0_ n1_ n2_ n3_; clear ho hb hg hat))
   go_roundg k1
   case measure => have := HK1.out; omega
   case rel => exact ⟨(t227), (y228), H', ⟨by have := HK1.out; omega⟩, ⟨rC HO_0⟩, ⟨rD (Kd.R_mono HO230.out (fun _ hk => trivial))⟩, ⟨hbC _⟩⟩

end Go.Proofs.Ytefmafbbnkkpjaa.X
