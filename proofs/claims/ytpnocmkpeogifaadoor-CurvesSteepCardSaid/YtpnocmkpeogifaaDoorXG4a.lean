-- Written by a program of this work (wip/xprint.py, over the kit's printer) out of the translation.
import Derived.Test.YtpnocmkpeogifaaDoorX0
import Derived.Test.YtpnocmkpeogifaaDoorXf12
import Derived.Test.YtpnocmkpeogifaaDoorXf13
namespace Go.Proofs.YtpnocmkpeogifaaDoor.X
open Go.RowKit Go.Proofs.YtpnocmkpeogifaaDoorW.PrintWords Go.Proofs.YtpnocmkpeogifaaDoorW.PrintLast Go.Proofs.YtpnocmkpeogifaaDoorW.PrintMore
attribute [local go_sem] max2_int min2_int max_two min_two max_three min_three max_four min_four   -- for this text's walks alone
set_option linter.unusedVariables false
set_option linter.unusedSimpArgs false

/-! ### congoulaw04_fine: function 8 -/
def congoulaw04_fine.f (k : Nat) (a0_0 : Int) (l0_1 : List Int) (l0_2 : List Int) (a1_0 : Int) (a1_1 : Int) : Option (Bool) := (congouref04_Valid.f k a0_0 l0_1 l0_2).bind fun t277 => (if t277 = true then ((congouref04_In.f k a0_0 l0_1 l0_2 a1_0 a1_1).bind fun t278 => (some t278)) else (some false))
theorem congoulaw04_fine.mono : ∀ a0 a1 a2 a3 a4 k, LeO (congoulaw04_fine.f k a0 a1 a2 a3 a4) (congoulaw04_fine.f (k + 1) a0 a1 a2 a3 a4) := by
 intro a0 a1 a2 a3 a4 k
 unfold congoulaw04_fine.f
 repeat' first
   | (with_reducible exact congouref04_In.mono _ _ _ _ _ _)
   | (with_reducible exact congouref04_Valid.mono _ _ _ _)
   | (with_reducible exact LeO.refl _)
   | (with_reducible exact LeO.none _)
   | (with_reducible refine LeO.ite ?_ ?_)
   | (with_reducible refine LeO.bind ?_ (fun _ => ?_))
   | exact congouref04_In.mono _ _ _ _ _ _
   | exact congouref04_Valid.mono _ _ _ _
   | exact LeO.none _
   | refine LeO.ite ?_ ?_
   | refine LeO.bind ?_ (fun _ => ?_)
set_option maxHeartbeats 8000000 in
set_option maxRecDepth 100000 in
theorem congoulaw04_fine.calls (k : Nat) (a0_0 : Int) (A0_1 : Option Addr) (c0_1 : Nat) (l0_1 : List Int) (A0_2 : Option Addr) (c0_2 : Nat) (l0_2 : List Int) (a1_0 : Int) (a1_1 : Int) (r : Bool) (w : World) (hr0_1 : Kd.C (Kd.int .i64) w A0_1 l0_1.length l0_1) (hc0_1 : l0_1.length ≤ c0_1) (hr0_2 : Kd.C (Kd.int .i64) w A0_2 l0_2.length l0_2) (hc0_2 : l0_2.length ≤ c0_2) (h : congoulaw04_fine.f k a0_0 l0_1 l0_2 a1_0 a1_1 = some r) :
  Calls Tryd.prog 8 #[.agg #[.int .i64 a0_0, .slice A0_1 l0_1.length c0_1, .slice A0_2 l0_2.length c0_2], .agg #[.int .i64 a1_0, .int .i64 a1_1]] w fun e w' => e = .returned (.bool r) ∧ Below w.heap.size w w' := by
 have hu24 := Tryd.underlying24
 have hu26 := Tryd.underlying26
 have HR0_1 := Aside0.mk hr0_1
 have HC0_1 := Aside0.mk hc0_1
 clear hr0_1 hc0_1
 have HR0_2 := Aside0.mk hr0_2
 have HC0_2 := Aside0.mk hc0_2
 clear hr0_2 hc0_2
 have HB := ak (Below.refl w.heap.size w)
 have H : ((congouref04_Valid.f k a0_0 l0_1 l0_2).bind fun t277 => (if t277 = true then ((congouref04_In.f k a0_0 l0_1 l0_2 a1_0 a1_1).bind fun t278 => (some t278)) else (some false))) = some r := h
 clear h
 replace H := Option.bind_eq_some_iff.mp H
 obtain ⟨t277, A30, H⟩ := H
 replace H : (if t277 = true then ((congouref04_In.f k a0_0 l0_1 l0_2 a1_0 a1_1).bind fun t278 => (some t278)) else (some false)) = some r := H
 have A3 := Aside0.mk A30
 clear A30
 by_cases c4 : t277 = true
 rotate_left
 ·replace c4 := Bool.eq_false_iff.mpr c4
  subst c4
  have H1 : (some false) = some r := by rw [if_neg (show ¬ (false = true) by decide)] at H; exact H
  clear H
  have H := H1
  clear H1
  obtain rfl := Option.some.inj H
  go_enter Tryd.func8, Tryd.ntmps8
  go_wp2_with (first | ((with_reducible refine gate_dst (N := 2) rfl ?_); refine bE 2 #[.int .i64 a0_0, .slice A0_1 l0_1.length c0_1, .slice A0_2 l0_2.length c0_2] 24 ?_; intro gb275 hg w14 hbox hb; have BK275 := ak (hbox); have GW275 := kG w hg; have GE275 := kG w hg; replace HB := kH _ hb; clear hb hbox hg) | ((with_reducible refine gate_dst (N := 3) rfl ?_); refine bE 3 #[.int .i64 a1_0, .int .i64 a1_1] 26 ?_; intro gb276 hg w15 hbox hb; have BK276 := ak (hbox); have GW276 := kG w hg; have GE276 := kG w hg; replace HB := kH _ hb; have NB275_276 := kL BK275 hg; have NB276_275 := kR BK275 hg; replace BK275 := kB BK275 hb; clear hb hbox hg; have hnb16 := NB275_276.out; have hnc16 := NB276_275.out; have hcz17_0 : w15.cell? ⟨gb275, 0, none⟩ = some (.int .i64 a0_0) := bc BK275 0; have hcz17_1 : w15.cell? ⟨gb275, 1, none⟩ = some (.slice A0_1 l0_1.length c0_1) := bc BK275 1; have hcz17_2 : w15.cell? ⟨gb275, 2, none⟩ = some (.slice A0_2 l0_2.length c0_2) := bc BK275 2; have hfz17_0 := fz BK275 0; have hfz17_1 := fz BK275 1; have hfz17_2 := fz BK275 2) | ((with_reducible refine gate_callee (f := 12) rfl ?_); refine gL 6 Tryd.func12 #[.agg #[.int .i64 a0_0, .slice A0_1 l0_1.length c0_1, .slice A0_2 l0_2.length c0_2]] ?_; (with_reducible refine (congouref04_Valid.calls k a0_0 _ _ l0_1 _ _ l0_2 false _ ?side1 ?side2 ?side3 ?side4 A3.out).mono ?_); (case side1 => exact kC HR0_1); (case side2 => exact HC0_1.out); (case side3 => exact kC HR0_2); (case side4 => exact HC0_2.out); rintro e w18 ⟨rfl, hb⟩; refine ⟨_, rfl, ?_⟩; replace BK275 := kB BK275 hb; replace BK276 := kB BK276 hb; replace HB := kH _ hb; (try clear hb); (try clear hb2); (try clear hk); (try clear hi)))
  go_ret
  exact ⟨by first | rfl | (simp [errW_none, errW_some] <;> rfl) | (simp [*, errW_none, errW_some] <;> rfl), hbC _⟩
 subst c4
 have H1 : ((congouref04_In.f k a0_0 l0_1 l0_2 a1_0 a1_1).bind fun t278 => (some t278)) = some r := by rw [if_pos rfl] at H; exact H
 clear H
 have H := H1
 clear H1
 replace H := Option.bind_eq_some_iff.mp H
 obtain ⟨t278, A50, H⟩ := H
 replace H : (some t278) = some r := H
 have A5 := Aside0.mk A50
 clear A50
 obtain rfl := Option.some.inj H
 go_enter Tryd.func8, Tryd.ntmps8
 go_wp2_with (first | ((with_reducible refine gate_dst (N := 2) rfl ?_); refine bE 2 #[.int .i64 a0_0, .slice A0_1 l0_1.length c0_1, .slice A0_2 l0_2.length c0_2] 24 ?_; intro gb275 hg w6 hbox hb; have BK275 := ak (hbox); have GW275 := kG w hg; have GE275 := kG w hg; replace HB := kH _ hb; clear hb hbox hg) | ((with_reducible refine gate_dst (N := 3) rfl ?_); refine bE 3 #[.int .i64 a1_0, .int .i64 a1_1] 26 ?_; intro gb276 hg w7 hbox hb; have BK276 := ak (hbox); have GW276 := kG w hg; have GE276 := kG w hg; replace HB := kH _ hb; have NB275_276 := kL BK275 hg; have NB276_275 := kR BK275 hg; replace BK275 := kB BK275 hb; clear hb hbox hg; have hnb8 := NB275_276.out; have hnc8 := NB276_275.out; have hcz9_0 : w7.cell? ⟨gb275, 0, none⟩ = some (.int .i64 a0_0) := bc BK275 0; have hcz9_1 : w7.cell? ⟨gb275, 1, none⟩ = some (.slice A0_1 l0_1.length c0_1) := bc BK275 1; have hcz9_2 : w7.cell? ⟨gb275, 2, none⟩ = some (.slice A0_2 l0_2.length c0_2) := bc BK275 2; have hfz9_0 := fz BK275 0; have hfz9_1 := fz BK275 1; have hfz9_2 := fz BK275 2) | ((with_reducible refine gate_callee (f := 12) rfl ?_); refine gL 6 Tryd.func12 #[.agg #[.int .i64 a0_0, .slice A0_1 l0_1.length c0_1, .slice A0_2 l0_2.length c0_2]] ?_; (with_reducible refine (congouref04_Valid.calls k a0_0 _ _ l0_1 _ _ l0_2 true _ ?side1 ?side2 ?side3 ?side4 A3.out).mono ?_); (case side1 => exact kC HR0_1); (case side2 => exact HC0_1.out); (case side3 => exact kC HR0_2); (case side4 => exact HC0_2.out); rintro e w10 ⟨rfl, hb⟩; refine ⟨_, rfl, ?_⟩; replace BK275 := kB BK275 hb; replace BK276 := kB BK276 hb; replace HB := kH _ hb; (try clear hb); (try clear hb2); (try clear hk); (try clear hi); have hcz11_0 : w10.cell? ⟨gb275, 0, none⟩ = some (.int .i64 a0_0) := bc BK275 0; have hcz11_1 : w10.cell? ⟨gb275, 1, none⟩ = some (.slice A0_1 l0_1.length c0_1) := bc BK275 1; have hcz11_2 : w10.cell? ⟨gb275, 2, none⟩ = some (.slice A0_2 l0_2.length c0_2) := bc BK275 2; have hfz11_0 := fz BK275 0; have hfz11_1 := fz BK275 1; have hfz11_2 := fz BK275 2; have hcz12_0 : w10.cell? ⟨gb276, 0, none⟩ = some (.int .i64 a1_0) := bc BK276 0; have hcz12_1 : w10.cell? ⟨gb276, 1, none⟩ = some (.int .i64 a1_1) := bc BK276 1; have hfz12_0 := fz BK276 0; have hfz12_1 := fz BK276 1) | (go_at_call 13; (with_reducible refine (congouref04_In.calls k a0_0 _ _ l0_1 _ _ l0_2 a1_0 a1_1 t278 _ ?side1 ?side2 ?side3 ?side4 A5.out).mono ?_); (case side1 => exact kC HR0_1); (case side2 => exact HC0_1.out); (case side3 => exact kC HR0_2); (case side4 => exact HC0_2.out); rintro e w13 ⟨rfl, hb⟩; replace BK275 := kB BK275 hb; replace BK276 := kB BK276 hb; replace HB := kH _ hb; (try clear hb); (try clear hb2); (try clear hk); (try clear hi)))
 go_ret
 exact ⟨by first | rfl | (simp [errW_none, errW_some] <;> rfl) | (simp [*, errW_none, errW_some] <;> rfl), hbC _⟩

end Go.Proofs.YtpnocmkpeogifaaDoor.X
