-- Written by a program of this work (wip/xprint.py, over the kit's printer) out of the translation.
import Derived.Test.YtefmafbbnkkpjaaX0
import Derived.Test.YtefmafbbnkkpjaaXf98
import Derived.Test.YtefmafbbnkkpjaaE97
namespace Go.Proofs.Ytefmafbbnkkpjaa.X
open Go.RowKit Go.Proofs.YtefmafbbnkkpjaaW.PrintWords Go.Proofs.YtefmafbbnkkpjaaW.PrintLast Go.Proofs.YtefmafbbnkkpjaaW.PrintMore
attribute [local go_sem] max2_int min2_int max_two min_two max_three min_three max_four min_four   -- for this text's walks alone
set_option linter.unusedVariables false
set_option linter.unusedSimpArgs false

/-! ### shares_read: function 83 -/
def shares_read.j0 : Nat → List (List (S62)) → Bool → Option ((List (List Int)) × Int × Bool)
 | 0, _, _ => none
 | k + 1, x0, x12 => if x12 = true then (some (([] : List (List Int)), 0, false)) else ((xCommon.f k x0 (x0.length : Int) 10000).bind fun bt1030 => (if bt1030.2 = true then ((shares_mixture_parts.f k x0 bt1030.1).bind fun bt1032 => (some (bt1032.1, bt1030.1, bt1032.2))) else (some (([] : List (List Int)), 0, false))))
def shares_read.f (k : Nat) (l0 : List (List (S62))) : Option ((List (List Int)) × Int × Bool) := if (l0.length : Int) < 1 then (shares_read.j0 k l0 true) else (shares_read.j0 k l0 (decide ((l0.length : Int) > 5)))
theorem shares_read.mono_l : ∀ k, (∀ y0 y1, LeO (shares_read.j0 k y0 y1) (shares_read.j0 (k + 1) y0 y1))
 | 0 => fun _ _ r h => by simp [shares_read.j0] at h
 | k + 1 => by
  have ih0 := shares_read.mono_l k
  ·intro y0 y1
   unfold shares_read.j0
   repeat' first
   | (with_reducible exact ih0 _ _)
   | (with_reducible exact shares_mixture_parts.mono _ _ _)
   | (with_reducible exact xCommon.mono _ _ _ _)
   | (with_reducible exact LeO.refl _)
   | (with_reducible exact LeO.none _)
   | (with_reducible refine LeO.ite ?_ ?_)
   | (with_reducible refine LeO.bind ?_ (fun _ => ?_))
   | exact ih0 _ _
   | exact shares_mixture_parts.mono _ _ _
   | exact xCommon.mono _ _ _ _
   | exact LeO.none _
   | refine LeO.ite ?_ ?_
   | refine LeO.bind ?_ (fun _ => ?_)
theorem shares_read.mono : ∀ a0 k, LeO (shares_read.f k a0) (shares_read.f (k + 1) a0) := by
 intro a0 k
 have ih0 := shares_read.mono_l k
 unfold shares_read.f
 repeat' first
   | (with_reducible exact ih0 _ _)
   | (with_reducible exact shares_mixture_parts.mono _ _ _)
   | (with_reducible exact xCommon.mono _ _ _ _)
   | (with_reducible exact LeO.refl _)
   | (with_reducible exact LeO.none _)
   | (with_reducible refine LeO.ite ?_ ?_)
   | (with_reducible refine LeO.bind ?_ (fun _ => ?_))
   | exact ih0 _ _
   | exact shares_mixture_parts.mono _ _ _
   | exact xCommon.mono _ _ _ _
   | exact LeO.none _
   | refine LeO.ite ?_ ?_
   | refine LeO.bind ?_ (fun _ => ?_)
set_option maxHeartbeats 8000000 in
set_option maxRecDepth 100000 in
theorem shares_read.calls (k : Nat) (A0 : Option Addr) (c0 : Nat) (l0 : List (List (S62))) (r1 : List (List Int)) (r2 : Int) (r3 : Bool) (w : World) (hr0 : Kd.C (Kd.slice 62 k62) w A0 l0.length l0) (hc0 : l0.length ≤ c0) (h : shares_read.f k l0 = some (r1, r2, r3)) :
  Calls Try.prog 83 #[.slice A0 l0.length c0] w fun e w' => ∃ v0_ : Value, e = .returned (.tuple #[v0_, .int .i64 r2, .bool r3]) ∧ Kd.S (Kd.slice 3 (Kd.int .i64)) 22 w' w.heap.size (fun _ => True) v0_ r1 ∧ Below w.heap.size w w' := by
 have HR0 := Aside0.mk hr0
 have HC0 := Aside0.mk hc0
 clear hr0 hc0
 have HB := ak (Below.refl w.heap.size w)
 have H : (if (l0.length : Int) < 1 then (shares_read.j0 k l0 true) else (shares_read.j0 k l0 (decide ((l0.length : Int) > 5)))) = some (r1, r2, r3) := h
 clear h
 have HC2 := Aside0.mk H
 clear H
 go_enter Try.func83, Try.ntmps83
 go_upto_region 1 with (fail)
 go_cut [12] (fun v12 wc => ∃ (kq : Nat) (x12_1 : Bool), v12 = .bool x12_1 ∧ Aside0 (shares_read.j0 kq l0 x12_1 = some (r1, r2, r3)) ∧ Aside0 (kq ≤ k) ∧ Aside0 (Below w.heap.size w wc))
 case first =>
  have H := HC2.out
  clear HC2
  by_cases c3 : (l0.length : Int) < 1
  ·rw [if_pos c3] at H
   have c3b0 : decide ((l0.length : Int) < 1) = true := decide_eq_true c3
   have c3b1 : decide (l0.length < 1) = true := decide_eq_true (by omega)
   clear c3
   (first | rw [c3b0] | (simp only [i64_w, i32_w]; rw [c3b0]) | skip)
   have H' := Aside0.mk H
   clear H
   go_wp2
   go_meet
   case rel => exact ⟨_, (true), (by first | rfl | (simp; done) | (simp [*]; done)), H', ⟨by first | omega | exact Nat.le_refl _⟩, ⟨hbC _⟩⟩
  rw [if_neg c3] at H
  have c3b0 : decide ((l0.length : Int) < 1) = false := decide_eq_false c3
  have c3b1 : decide (l0.length < 1) = false := decide_eq_false (by omega)
  clear c3
  (first | rw [c3b0] | (simp only [i64_w, i32_w]; rw [c3b0]) | skip)
  have H' := Aside0.mk H
  clear H
  go_wp2
  go_meet
  case rel => exact ⟨_, (decide ((l0.length : Int) > 5)), (by first | rfl | (simp; done) | (simp [*]; done)), H', ⟨by first | omega | exact Nat.le_refl _⟩, ⟨hbC _⟩⟩
 case rest =>
  clear HC2
  try clear p2
  try clear c3
  try clear c3b0
  try clear c3b1
  obtain ⟨kq, x12_1, rfl, HA, HJ1, HB⟩ := hcut
  cases kq with
  | zero => exact absurd HA.out (by simp [shares_read.j0])
  | succ kj1 =>
   have H := HA.out
   clear HA
   simp only [shares_read.j0] at H
   by_cases c4 : x12_1 = true
   ·subst c4
    have H1 : (some (([] : List (List Int)), 0, false)) = some (r1, r2, r3) := by rw [if_pos rfl] at H; exact H
    clear H
    have H := H1
    clear H1
    simp only [Option.some.injEq, Prod.mk.injEq] at H
    obtain ⟨rfl, rfl, rfl⟩ := H
    go_wp2
    go_ret3
    exact ⟨_, by first | rfl | (simp [errW_none, errW_some] <;> rfl) | (simp [*, errW_none, errW_some] <;> rfl), by first | exact Kd.S_nil _ _ _ _ _ | exact Kd.N_nil _ _ _ _ _ | exact Kd.V_nil _ _ _ _ _ | exact Kd.Q_nil _ _ _ _ _ | exact Kd.R_nil _ _ _ _ _, hbC _⟩
   replace c4 := Bool.eq_false_iff.mpr c4
   subst c4
   have H1 : ((xCommon.f kj1 l0 (l0.length : Int) 10000).bind fun bt1030 => (if bt1030.2 = true then ((shares_mixture_parts.f kj1 l0 bt1030.1).bind fun bt1032 => (some (bt1032.1, bt1030.1, bt1032.2))) else (some (([] : List (List Int)), 0, false)))) = some (r1, r2, r3) := by rw [if_neg (show ¬ (false = true) by decide)] at H; exact H
   clear H
   have H := H1
   clear H1
   replace H := Option.bind_eq_some_iff.mp H
   obtain ⟨⟨t1030, t1031⟩, A50, H⟩ := H
   replace H : (if t1031 = true then ((shares_mixture_parts.f kj1 l0 t1030).bind fun bt1032 => (some (bt1032.1, t1030, bt1032.2))) else (some (([] : List (List Int)), 0, false))) = some (r1, r2, r3) := H
   have A5 := Aside0.mk A50
   clear A50
   by_cases c6 : t1031 = true
   rotate_left
   ·replace c6 := Bool.eq_false_iff.mpr c6
    subst c6
    have H1 : (some (([] : List (List Int)), 0, false)) = some (r1, r2, r3) := by rw [if_neg (show ¬ (false = true) by decide)] at H; exact H
    clear H
    have H := H1
    clear H1
    simp only [Option.some.injEq, Prod.mk.injEq] at H
    obtain ⟨rfl, rfl, rfl⟩ := H
    go_wp2_with (first | ((with_reducible refine gate_callee (f := 97) rfl ?_); refine gL 17 Try.func97 #[.slice A0 l0.length c0, .int .i64 (l0.length : Int), .int .i64 10000] ?_; (with_reducible refine (xCommon.calls kj1 _ _ l0 (l0.length : Int) 10000 t1030 false _ ?side1 ?side2 A5.out).mono ?_); (case side1 => exact kC HR0); (case side2 => exact HC0.out); rintro e w10 ⟨rfl, hb⟩; refine ⟨_, rfl, ?_⟩; replace HB := kH _ hb; (try clear hb); (try clear hb2); (try clear hk); (try clear hi)))
    go_ret3
    exact ⟨_, by first | rfl | (simp [errW_none, errW_some] <;> rfl) | (simp [*, errW_none, errW_some] <;> rfl), by first | exact Kd.S_nil _ _ _ _ _ | exact Kd.N_nil _ _ _ _ _ | exact Kd.V_nil _ _ _ _ _ | exact Kd.Q_nil _ _ _ _ _ | exact Kd.R_nil _ _ _ _ _, hbC _⟩
   subst c6
   have H1 : ((shares_mixture_parts.f kj1 l0 t1030).bind fun bt1032 => (some (bt1032.1, t1030, bt1032.2))) = some (r1, r2, r3) := by rw [if_pos rfl] at H; exact H
   clear H
   have H := H1
   clear H1
   replace H := Option.bind_eq_some_iff.mp H
   obtain ⟨⟨t1032, t1033⟩, A70, H⟩ := H
   replace H : (some (t1032, t1030, t1033)) = some (r1, r2, r3) := H
   have A7 := Aside0.mk A70
   clear A70
   simp only [Option.some.injEq, Prod.mk.injEq] at H
   obtain ⟨rfl, rfl, rfl⟩ := H
   go_wp2_with (first | ((with_reducible refine gate_callee (f := 97) rfl ?_); refine gL 17 Try.func97 #[.slice A0 l0.length c0, .int .i64 (l0.length : Int), .int .i64 10000] ?_; (with_reducible refine (xCommon.calls kj1 _ _ l0 (l0.length : Int) 10000 t1030 true _ ?side1 ?side2 A5.out).mono ?_); (case side1 => exact kC HR0); (case side2 => exact HC0.out); rintro e w8 ⟨rfl, hb⟩; refine ⟨_, rfl, ?_⟩; replace HB := kH _ hb; (try clear hb); (try clear hb2); (try clear hk); (try clear hi)) | ((with_reducible refine gate_callee (f := 98) rfl ?_); refine gL 25 Try.func98 #[.slice A0 l0.length c0, .int .i64 t1030] ?_; (with_reducible refine (shares_mixture_parts.calls kj1 _ _ l0 t1030 t1032 t1033 _ ?side1 ?side2 A7.out).mono ?_); (case side1 => exact kC HR0); (case side2 => exact HC0.out); rintro e w9 ⟨v1034, rfl, ho0, hb⟩; refine ⟨_, rfl, ?_⟩; have HO1035 := ak (Kd.S_lower ho0 (below_size (hbC _))); replace HB := kH _ hb; (try clear hb); (try clear hb2); (try clear hk); (try clear hi); (try clear ho0)))
   go_ret3
   exact ⟨_, by first | rfl | (simp [errW_none, errW_some] <;> rfl) | (simp [*, errW_none, errW_some] <;> rfl), by (with_reducible repeat (first | apply Kd.S_alloc | apply Kd.S_drewN | apply Kd.S_drew)); exact HO1035.out, hbC _⟩

end Go.Proofs.Ytefmafbbnkkpjaa.X
