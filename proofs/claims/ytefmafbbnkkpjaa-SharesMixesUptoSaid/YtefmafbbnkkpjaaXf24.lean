-- Written by a program of this work (wip/xprint.py, over the kit's printer) out of the translation.
import Derived.Test.YtefmafbbnkkpjaaX0
import Derived.Test.YtefmafbbnkkpjaaXG1a
import Derived.Test.YtefmafbbnkkpjaaE61
namespace Go.Proofs.Ytefmafbbnkkpjaa.X
open Go.RowKit Go.Proofs.YtefmafbbnkkpjaaW.PrintWords Go.Proofs.YtefmafbbnkkpjaaW.PrintLast Go.Proofs.YtefmafbbnkkpjaaW.PrintMore
attribute [local go_sem] max2_int min2_int max_two min_two max_three min_three max_four min_four   -- for this text's walks alone
set_option linter.unusedVariables false
set_option linter.unusedSimpArgs false

/-! ### congouref01_Uneven: function 24 -/
def congouref01_Uneven.l0 : Nat → List Int → List Int → Int → Int → Option (Bool)
 | 0, _, _, _, _ => none
 | k + 1, x5, x6, x16, x17 => if x17 < x16 then ((congouref01_sum.f k x5 x17).bind fun t178 => ((congouref01_sum.f k x6 x17).bind fun t179 => (if t178 < t179 then (some false) else (congouref01_Uneven.l0 k x5 x6 x16 (wrap64 (x17 + 1)))))) else ((congouref01_sum.f k x5 (x5.length : Int)).bind fun t176 => ((congouref01_sum.f k x6 (x6.length : Int)).bind fun t177 => (some (t176 == t177))))
def congouref01_Uneven.f (k : Nat) (l0 : List Int) (l1 : List Int) : Option (Bool) := (xRFalling.f l0).bind fun t170 => ((xRFalling.f l1).bind fun t173 => (congouref01_Uneven.l0 k t170 t173 (wrap64 ((t170.length : Int) + (t173.length : Int))) 0))
theorem congouref01_Uneven.mono_l : ∀ k, (∀ y0 y1 y2 y3, LeO (congouref01_Uneven.l0 k y0 y1 y2 y3) (congouref01_Uneven.l0 (k + 1) y0 y1 y2 y3))
 | 0 => fun _ _ _ _ r h => by simp [congouref01_Uneven.l0] at h
 | k + 1 => by
  have ih0 := congouref01_Uneven.mono_l k
  ·intro y0 y1 y2 y3
   unfold congouref01_Uneven.l0
   repeat' first
   | (with_reducible exact ih0 _ _ _ _)
   | (with_reducible exact congouref01_sum.mono _ _ _)
   | (with_reducible exact LeO.refl _)
   | (with_reducible exact LeO.none _)
   | (with_reducible refine LeO.ite ?_ ?_)
   | (with_reducible refine LeO.bind ?_ (fun _ => ?_))
   | exact ih0 _ _ _ _
   | exact congouref01_sum.mono _ _ _
   | exact LeO.none _
   | refine LeO.ite ?_ ?_
   | refine LeO.bind ?_ (fun _ => ?_)
theorem congouref01_Uneven.mono : ∀ a0 a1 k, LeO (congouref01_Uneven.f k a0 a1) (congouref01_Uneven.f (k + 1) a0 a1) := by
 intro a0 a1 k
 have ih0 := congouref01_Uneven.mono_l k
 unfold congouref01_Uneven.f
 repeat' first
   | (with_reducible exact ih0 _ _ _ _)
   | (with_reducible exact congouref01_sum.mono _ _ _)
   | (with_reducible exact LeO.refl _)
   | (with_reducible exact LeO.none _)
   | (with_reducible refine LeO.ite ?_ ?_)
   | (with_reducible refine LeO.bind ?_ (fun _ => ?_))
   | exact ih0 _ _ _ _
   | exact congouref01_sum.mono _ _ _
   | exact LeO.none _
   | refine LeO.ite ?_ ?_
   | refine LeO.bind ?_ (fun _ => ?_)
set_option maxHeartbeats 8000000 in
set_option maxRecDepth 100000 in
theorem congouref01_Uneven.calls (k : Nat) (A0 : Option Addr) (c0 : Nat) (l0 : List Int) (A1 : Option Addr) (c1 : Nat) (l1 : List Int) (r : Bool) (w : World) (hr0 : Kd.C (Kd.int .i64) w A0 l0.length l0) (hc0 : l0.length ≤ c0) (hr1 : Kd.C (Kd.int .i64) w A1 l1.length l1) (hc1 : l1.length ≤ c1) (h : congouref01_Uneven.f k l0 l1 = some r) :
  Calls Try.prog 24 #[.slice A0 l0.length c0, .slice A1 l1.length c1] w fun e w' => e = .returned (.bool r) ∧ Below w.heap.size w w' := by
 have HR0 := Aside0.mk hr0
 have HC0 := Aside0.mk hc0
 clear hr0 hc0
 have HR1 := Aside0.mk hr1
 have HC1 := Aside0.mk hc1
 clear hr1 hc1
 have HB := ak (Below.refl w.heap.size w)
 have H : ((xRFalling.f l0).bind fun t170 => ((xRFalling.f l1).bind fun t173 => (congouref01_Uneven.l0 k t170 t173 (wrap64 ((t170.length : Int) + (t173.length : Int))) 0))) = some r := h
 clear h
 replace H := Option.bind_eq_some_iff.mp H
 obtain ⟨t170, A30, H⟩ := H
 replace H : ((xRFalling.f l1).bind fun t173 => (congouref01_Uneven.l0 k t170 t173 (wrap64 ((t170.length : Int) + (t173.length : Int))) 0)) = some r := H
 have A3 := Aside0.mk A30
 clear A30
 replace H := Option.bind_eq_some_iff.mp H
 obtain ⟨t173, A40, H⟩ := H
 replace H : (congouref01_Uneven.l0 k t170 t173 (wrap64 ((t170.length : Int) + (t173.length : Int))) 0) = some r := H
 have A4 := Aside0.mk A40
 clear A40
 have H' := Aside0.mk H
 clear H
 go_enter Try.func24, Try.ntmps24
 go_wp2_with (first | ((with_reducible refine gate_callee (f := 61) rfl ?_); refine gL 9 Try.func61 #[.slice A0 l0.length c0] ?_; (with_reducible refine (xRFalling.calls _ _ l0 t170 _ ?side1 ?side2 A3.out).mono ?_); (case side1 => repeat (first | exact HR0.out | (with_reducible refine Kd.C_alloc ?_ _) | (with_reducible refine Kd.C_drewN ?_ _) | (with_reducible refine Kd.C_drew ?_))); (case side2 => exact HC0.out); rintro e w5 ⟨v171, rfl, ho0, hb⟩; refine ⟨_, rfl, ?_⟩; have HO172 := ak (Kd.R_lower ho0 (below_size (hbC _))); replace HB := kH _ hb; (try clear hb); (try clear hb2); (try clear hk); (try clear hi); (try clear ho0)) | ((with_reducible refine gate_callee (f := 61) rfl ?_); refine gL 11 Try.func61 #[.slice A1 l1.length c1] ?_; (with_reducible refine (xRFalling.calls _ _ l1 t173 _ ?side1 ?side2 A4.out).mono ?_); (case side1 => exact kC HR1); (case side2 => exact HC1.out); rintro e w6 ⟨v174, rfl, ho0, hb⟩; refine ⟨_, rfl, ?_⟩; have HO175 := ak (Kd.R_lower (Kd.R_new' ho0 (Kd.R_lt (rC HO172))) (below_size (hbC _))); replace HO172 := ak (Kd.R_elder' (rC HO172) (Kd.R_base ho0) hb); replace HB := kH _ hb; (try clear hb); (try clear hb2); (try clear hk); (try clear hi); (try clear ho0); obtain ⟨Ao7, co7, eo7⟩ := Kd.R_slice HO172.out; subst eo7; obtain ⟨Ao8, co8, eo8⟩ := Kd.R_slice HO175.out; subst eo8))
 go_loopg [17] k (fun kq v17 w' => ∃ (x17_1 : Int), v17 = .int .i64 x17_1 ∧ Aside0 (congouref01_Uneven.l0 kq t170 t173 (wrap64 ((t170.length : Int) + (t173.length : Int))) x17_1 = some r) ∧ Aside0 (kq ≤ k) ∧ Aside0 (Kd.R (Kd.int .i64) 3 w' w.heap.size (fun k_ => some k_ ≠ ((.slice Ao8 t173.length co8) : Value).ownBlock) (.slice Ao7 t170.length co7) t170) ∧ Aside0 (Kd.R (Kd.int .i64) 3 w' w.heap.size (fun k_ => some k_ ≠ ((.slice Ao7 t170.length co7) : Value).ownBlock) (.slice Ao8 t173.length co8) t173) ∧ Aside0 (Below w.heap.size w w'))
 case atStart => exact ⟨(0), (by first | rfl | (simp; done) | (simp [*]; done)), H', ⟨Nat.le_refl _⟩, ⟨rD (Kd.R_mono HO172.out (fun _ hk => hk.2))⟩, ⟨rD (Kd.R_mono HO175.out (fun _ hk => hk.2))⟩, ⟨hbC _⟩⟩
 case round =>
  clear H'
  try clear c1
  try clear c2
  try clear p2
  try clear c6
  try clear p6
  obtain ⟨x17_1, rfl, HA, HK1, HO_5, HO_6, HB⟩ := hrel
  cases gk with
  | zero => exact absurd HA.out (by simp [congouref01_Uneven.l0])
  | succ k1 =>
   have H := HA.out
   clear HA
   simp only [congouref01_Uneven.l0] at H
   by_cases c9 : x17_1 < (wrap64 ((t170.length : Int) + (t173.length : Int)))
   rotate_left
   ·rw [if_neg c9] at H
    have c9b0 : decide (x17_1 < (wrap64 ((t170.length : Int) + (t173.length : Int)))) = false := decide_eq_false c9
    clear c9
    replace H := Option.bind_eq_some_iff.mp H
    obtain ⟨t176, A130, H⟩ := H
    replace H : ((congouref01_sum.f k1 t173 (t173.length : Int)).bind fun t177 => (some (t176 == t177))) = some r := H
    have A13 := Aside0.mk A130
    clear A130
    replace H := Option.bind_eq_some_iff.mp H
    obtain ⟨t177, A140, H⟩ := H
    replace H : (some (t176 == t177)) = some r := H
    have A14 := Aside0.mk A140
    clear A140
    obtain rfl := Option.some.inj H
    go_wp2_with (first | ((with_reducible refine gate_callee (f := 62) rfl ?_); refine gL 31 Try.func62 #[.slice Ao7 t170.length co7, .int .i64 (t170.length : Int)] ?_; (with_reducible refine (congouref01_sum.calls k1 _ _ t170 (t170.length : Int) t176 _ ?side1 ?side2 A13.out).mono ?_); (case side1 => exact kD (Kd.R_reads' HO_5.out).2.2); (case side2 => exact (Kd.R_reads' HO_5.out).2.1); rintro e w' ⟨rfl, ⟨nd, rfl⟩⟩; refine ⟨_, rfl, ?_⟩) | ((with_reducible refine gate_callee (f := 62) rfl ?_); refine gL 35 Try.func62 #[.slice Ao8 t173.length co8, .int .i64 (t173.length : Int)] ?_; (with_reducible refine (congouref01_sum.calls k1 _ _ t173 (t173.length : Int) t177 _ ?side1 ?side2 A14.out).mono ?_); (case side1 => exact kD (Kd.R_reads' HO_6.out).2.2); (case side2 => exact (Kd.R_reads' HO_6.out).2.1); rintro e w' ⟨rfl, ⟨nd, rfl⟩⟩; refine ⟨_, rfl, ?_⟩))
    go_ret
    exact ⟨by first | rfl | (simp [errW_none, errW_some] <;> rfl) | (simp [*, errW_none, errW_some] <;> rfl), hbC _⟩
   rw [if_pos c9] at H
   have c9b0 : decide (x17_1 < (wrap64 ((t170.length : Int) + (t173.length : Int)))) = true := decide_eq_true c9
   clear c9
   replace H := Option.bind_eq_some_iff.mp H
   obtain ⟨t178, A100, H⟩ := H
   replace H : ((congouref01_sum.f k1 t173 x17_1).bind fun t179 => (if t178 < t179 then (some false) else (congouref01_Uneven.l0 k1 t170 t173 (wrap64 ((t170.length : Int) + (t173.length : Int))) (wrap64 (x17_1 + 1))))) = some r := H
   have A10 := Aside0.mk A100
   clear A100
   replace H := Option.bind_eq_some_iff.mp H
   obtain ⟨t179, A110, H⟩ := H
   replace H : (if t178 < t179 then (some false) else (congouref01_Uneven.l0 k1 t170 t173 (wrap64 ((t170.length : Int) + (t173.length : Int))) (wrap64 (x17_1 + 1)))) = some r := H
   have A11 := Aside0.mk A110
   clear A110
   by_cases c12 : t178 < t179
   ·rw [if_pos c12] at H
    have c12b0 : decide (t178 < t179) = true := decide_eq_true c12
    clear c12
    obtain rfl := Option.some.inj H
    go_wp2_with (first | ((with_reducible refine gate_callee (f := 62) rfl ?_); refine gL 22 Try.func62 #[.slice Ao7 t170.length co7, .int .i64 x17_1] ?_; (with_reducible refine (congouref01_sum.calls k1 _ _ t170 x17_1 t178 _ ?side1 ?side2 A10.out).mono ?_); (case side1 => exact kD (Kd.R_reads' HO_5.out).2.2); (case side2 => exact (Kd.R_reads' HO_5.out).2.1); rintro e w' ⟨rfl, ⟨nd, rfl⟩⟩; refine ⟨_, rfl, ?_⟩) | ((with_reducible refine gate_callee (f := 62) rfl ?_); refine gL 25 Try.func62 #[.slice Ao8 t173.length co8, .int .i64 x17_1] ?_; (with_reducible refine (congouref01_sum.calls k1 _ _ t173 x17_1 t179 _ ?side1 ?side2 A11.out).mono ?_); (case side1 => exact kD (Kd.R_reads' HO_6.out).2.2); (case side2 => exact (Kd.R_reads' HO_6.out).2.1); rintro e w' ⟨rfl, ⟨nd, rfl⟩⟩; refine ⟨_, rfl, ?_⟩))
    go_ret
    exact ⟨by first | rfl | (simp [errW_none, errW_some] <;> rfl) | (simp [*, errW_none, errW_some] <;> rfl), hbC _⟩
   rw [if_neg c12] at H
   have c12b0 : decide (t178 < t179) = false := decide_eq_false c12
   clear c12
   have H' := Aside0.mk H
   clear H
   go_wp2_with (first | ((with_reducible refine gate_callee (f := 62) rfl ?_); refine gL 22 Try.func62 #[.slice Ao7 t170.length co7, .int .i64 x17_1] ?_; (with_reducible refine (congouref01_sum.calls k1 _ _ t170 x17_1 t178 _ ?side1 ?side2 A10.out).mono ?_); (case side1 => exact kD (Kd.R_reads' HO_5.out).2.2); (case side2 => exact (Kd.R_reads' HO_5.out).2.1); rintro e w' ⟨rfl, ⟨nd, rfl⟩⟩; refine ⟨_, rfl, ?_⟩) | ((with_reducible refine gate_callee (f := 62) rfl ?_); refine gL 25 Try.func62 #[.slice Ao8 t173.length co8, .int .i64 x17_1] ?_; (with_reducible refine (congouref01_sum.calls k1 _ _ t173 x17_1 t179 _ ?side1 ?side2 A11.out).mono ?_); (case side1 => exact kD (Kd.R_reads' HO_6.out).2.2); (case side2 => exact (Kd.R_reads' HO_6.out).2.1); rintro e w' ⟨rfl, ⟨nd, rfl⟩⟩; refine ⟨_, rfl, ?_⟩))
   go_roundg k1
   case measure => have := HK1.out; omega
   case rel => exact ⟨(wrap64 (x17_1 + 1)), (by first | rfl | (simp; done) | (simp [*]; done)), H', ⟨by have := HK1.out; omega⟩, ⟨rC HO_5⟩, ⟨rC HO_6⟩, ⟨hbC _⟩⟩

end Go.Proofs.Ytefmafbbnkkpjaa.X
