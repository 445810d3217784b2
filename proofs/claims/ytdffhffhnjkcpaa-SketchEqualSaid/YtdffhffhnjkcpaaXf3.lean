-- Written by a program of this work (wip/xprint.py, over the kit's printer) out of the translation.
import Derived.Test.YtdffhffhnjkcpaaX0
import Derived.Test.YtdffhffhnjkcpaaXf16
import Derived.Test.YtdffhffhnjkcpaaXf17
import Derived.Test.YtdffhffhnjkcpaaXf18
namespace Go.Proofs.Ytdffhffhnjkcpaa.X
open Go.RowKit Go.Proofs.YtdffhffhnjkcpaaW.PrintWords Go.Proofs.YtdffhffhnjkcpaaW.PrintLast Go.Proofs.YtdffhffhnjkcpaaW.PrintMore
attribute [local go_sem] max2_int min2_int max_two min_two max_three min_three max_four min_four   -- for this text's walks alone
set_option linter.unusedVariables false
set_option linter.unusedSimpArgs false

/-! ### congoulaw03_SketchEqual: function 3 -/
mutual
def congoulaw03_SketchEqual.l0 : Nat → Int → Int → List Int → Int → Int → Int → Option (Bool)
  | 0, _, _, _, _, _, _ => none
  | k + 1, x0, x1, x5, x6, x28, x29 => if x29 < x28 then (if x5.length < 17592186044416 then (congoulaw03_SketchEqual.l0 k x0 x1 (x5 ++ [x29]) (wrap64 (x6 * (wrap64 (x29 + 1)))) x28 (wrap64 (x29 + 1))) else (none)) else (if 0 ≤ x1 then (if (x1 : Int).toNat ≤ 35184372088832 then (congoulaw03_SketchEqual.l1 k x0 x1 x5 x6 (List.replicate (x1 : Int).toNat 0) x6 0) else (none)) else (none))
def congoulaw03_SketchEqual.l1 : Nat → Int → Int → List Int → Int → List Int → Int → Int → Option (Bool)
  | 0, _, _, _, _, _, _, _ => none
  | k + 1, x0, x1, x5, x6, x8, x43, x44 => if x44 < x43 then (congoulaw03_SketchEqual.l2 k x0 x1 x5 x6 x8 ([] : List Int) x44 x43 x44 x1 0) else (congoulaw03_SketchEqual.l4 k x0 x1 x6 x8 (x8.length : Int) 0)
def congoulaw03_SketchEqual.l2 : Nat → Int → Int → List Int → Int → List Int → List Int → Int → Int → Int → Int → Int → Option (Bool)
  | 0, _, _, _, _, _, _, _, _, _, _, _ => none
  | k + 1, x0, x1, x5, x6, x8, x10, x11, x43, x44, x48, x49 => if x49 < x48 then (if (wrap64 (x49 + 1)) = 0 then (none) else (if x10.length < 17592186044416 then (congoulaw03_SketchEqual.l2 k x0 x1 x5 x6 x8 (x10 ++ [Int.tmod x11 (wrap64 (x49 + 1))]) (wrap64 (Int.tdiv x11 (wrap64 (x49 + 1)))) x43 x44 x48 (wrap64 (x49 + 1))) else (none))) else ((slices_Clone_int_int.f x5).bind fun t133 => ((sketch_Keep.f k x0 t133 x10).bind fun bt136 => (if bt136.2 = 0 then (congoulaw03_SketchEqual.j3 k x0 x1 x5 x6 x8 bt136.1 x43 x44 ((bt136.1.length : Int) != (mn x0 x1))) else (congoulaw03_SketchEqual.j3 k x0 x1 x5 x6 x8 bt136.1 x43 x44 true))))
def congoulaw03_SketchEqual.j3 : Nat → Int → Int → List Int → Int → List Int → List Int → Int → Int → Bool → Option (Bool)
  | 0, _, _, _, _, _, _, _, _, _ => none
  | k + 1, x0, x1, x5, x6, x8, x13, x43, x44, x81 => if x81 = true then (some false) else (congoulaw03_SketchEqual.l3 k x0 x1 x5 x6 x8 x43 x44 x13 (x13.length : Int) 0)
def congoulaw03_SketchEqual.l3 : Nat → Int → Int → List Int → Int → List Int → Int → Int → List Int → Int → Int → Option (Bool)
  | 0, _, _, _, _, _, _, _, _, _, _ => none
  | k + 1, x0, x1, x5, x6, x8, x43, x44, x82, x83, x84 => if x84 < x83 then (if 0 ≤ x84 then (if x84 < (x82.length : Int) then (if (rd x82 x84) < 0 then (some false) else (if (rd x82 x84) ≥ x1 then (some false) else (if 0 ≤ (rd x82 x84) then (if (rd x82 x84) < (x8.length : Int) then (congoulaw03_SketchEqual.l3 k x0 x1 x5 x6 (x8.set ((rd x82 x84) : Int).toNat (wrap64 ((rd x8 (rd x82 x84)) + 1))) x43 x44 x82 x83 (wrap64 (x84 + 1))) else (none)) else (none)))) else (none)) else (none)) else (congoulaw03_SketchEqual.l1 k x0 x1 x5 x6 x8 x43 (wrap64 (x44 + 1)))
def congoulaw03_SketchEqual.l4 : Nat → Int → Int → Int → List Int → Int → Int → Option (Bool)
  | 0, _, _, _, _, _, _ => none
  | k + 1, x0, x1, x6, x103, x104, x105 => if x105 < x104 then (if 0 ≤ x105 then (if x105 < (x103.length : Int) then (if (wrap64 ((rd x103 x105) * x1)) = (wrap64 (x6 * (mn x0 x1))) then (congoulaw03_SketchEqual.l4 k x0 x1 x6 x103 x104 (wrap64 (x105 + 1))) else (some false)) else (none)) else (none)) else ((congoulaw03_awake.f).bind fun t144 => (some t144))
end
def congoulaw03_SketchEqual.f (k : Nat) (a0 : Int) (a1 : Int) : Option (Bool) := congoulaw03_SketchEqual.l0 k (wrap64 (1 + (wrap64 (Int.tmod (IntKind.u64.wrap (a0)) 8)))) (wrap64 (Int.tmod (IntKind.u64.wrap (a1)) 7)) ([] : List Int) 1 (wrap64 (Int.tmod (IntKind.u64.wrap (a1)) 7)) 0
theorem congoulaw03_SketchEqual.mono_l : ∀ k, (∀ y0 y1 y2 y3 y4 y5, LeO (congoulaw03_SketchEqual.l0 k y0 y1 y2 y3 y4 y5) (congoulaw03_SketchEqual.l0 (k + 1) y0 y1 y2 y3 y4 y5)) ∧ (∀ y0 y1 y2 y3 y4 y5 y6, LeO (congoulaw03_SketchEqual.l1 k y0 y1 y2 y3 y4 y5 y6) (congoulaw03_SketchEqual.l1 (k + 1) y0 y1 y2 y3 y4 y5 y6)) ∧ (∀ y0 y1 y2 y3 y4 y5 y6 y7 y8 y9 y10, LeO (congoulaw03_SketchEqual.l2 k y0 y1 y2 y3 y4 y5 y6 y7 y8 y9 y10) (congoulaw03_SketchEqual.l2 (k + 1) y0 y1 y2 y3 y4 y5 y6 y7 y8 y9 y10)) ∧ (∀ y0 y1 y2 y3 y4 y5 y6 y7 y8, LeO (congoulaw03_SketchEqual.j3 k y0 y1 y2 y3 y4 y5 y6 y7 y8) (congoulaw03_SketchEqual.j3 (k + 1) y0 y1 y2 y3 y4 y5 y6 y7 y8)) ∧ (∀ y0 y1 y2 y3 y4 y5 y6 y7 y8 y9, LeO (congoulaw03_SketchEqual.l3 k y0 y1 y2 y3 y4 y5 y6 y7 y8 y9) (congoulaw03_SketchEqual.l3 (k + 1) y0 y1 y2 y3 y4 y5 y6 y7 y8 y9)) ∧ (∀ y0 y1 y2 y3 y4 y5, LeO (congoulaw03_SketchEqual.l4 k y0 y1 y2 y3 y4 y5) (congoulaw03_SketchEqual.l4 (k + 1) y0 y1 y2 y3 y4 y5))
  | 0 => ⟨fun _ _ _ _ _ _ r h => by simp [congoulaw03_SketchEqual.l0] at h, fun _ _ _ _ _ _ _ r h => by simp [congoulaw03_SketchEqual.l1] at h, fun _ _ _ _ _ _ _ _ _ _ _ r h => by simp [congoulaw03_SketchEqual.l2] at h, fun _ _ _ _ _ _ _ _ _ r h => by simp [congoulaw03_SketchEqual.j3] at h, fun _ _ _ _ _ _ _ _ _ _ r h => by simp [congoulaw03_SketchEqual.l3] at h, fun _ _ _ _ _ _ r h => by simp [congoulaw03_SketchEqual.l4] at h⟩
  | k + 1 => by
    obtain ⟨ih0, ih1, ih2, ih3, ih4, ih5⟩ := congoulaw03_SketchEqual.mono_l k
    refine ⟨?_, ?_, ?_, ?_, ?_, ?_⟩
    · intro y0 y1 y2 y3 y4 y5
      unfold congoulaw03_SketchEqual.l0
      repeat' first
      | (with_reducible exact ih0 _ _ _ _ _ _)
      | (with_reducible exact ih1 _ _ _ _ _ _ _)
      | (with_reducible exact ih2 _ _ _ _ _ _ _ _ _ _ _)
      | (with_reducible exact ih3 _ _ _ _ _ _ _ _ _)
      | (with_reducible exact ih4 _ _ _ _ _ _ _ _ _ _)
      | (with_reducible exact ih5 _ _ _ _ _ _)
      | (with_reducible exact sketch_Keep.mono _ _ _ _)
      | (with_reducible exact LeO.refl _)
      | (with_reducible exact LeO.none _)
      | (with_reducible refine LeO.ite ?_ ?_)
      | (with_reducible refine LeO.bind ?_ (fun _ => ?_))
      | exact ih0 _ _ _ _ _ _
      | exact ih1 _ _ _ _ _ _ _
      | exact ih2 _ _ _ _ _ _ _ _ _ _ _
      | exact ih3 _ _ _ _ _ _ _ _ _
      | exact ih4 _ _ _ _ _ _ _ _ _ _
      | exact ih5 _ _ _ _ _ _
      | exact sketch_Keep.mono _ _ _ _
      | exact LeO.none _
      | refine LeO.ite ?_ ?_
      | refine LeO.bind ?_ (fun _ => ?_)
    · intro y0 y1 y2 y3 y4 y5 y6
      unfold congoulaw03_SketchEqual.l1
      repeat' first
      | (with_reducible exact ih0 _ _ _ _ _ _)
      | (with_reducible exact ih1 _ _ _ _ _ _ _)
      | (with_reducible exact ih2 _ _ _ _ _ _ _ _ _ _ _)
      | (with_reducible exact ih3 _ _ _ _ _ _ _ _ _)
      | (with_reducible exact ih4 _ _ _ _ _ _ _ _ _ _)
      | (with_reducible exact ih5 _ _ _ _ _ _)
      | (with_reducible exact sketch_Keep.mono _ _ _ _)
      | (with_reducible exact LeO.refl _)
      | (with_reducible exact LeO.none _)
      | (with_reducible refine LeO.ite ?_ ?_)
      | (with_reducible refine LeO.bind ?_ (fun _ => ?_))
      | exact ih0 _ _ _ _ _ _
      | exact ih1 _ _ _ _ _ _ _
      | exact ih2 _ _ _ _ _ _ _ _ _ _ _
      | exact ih3 _ _ _ _ _ _ _ _ _
      | exact ih4 _ _ _ _ _ _ _ _ _ _
      | exact ih5 _ _ _ _ _ _
      | exact sketch_Keep.mono _ _ _ _
      | exact LeO.none _
      | refine LeO.ite ?_ ?_
      | refine LeO.bind ?_ (fun _ => ?_)
    · intro y0 y1 y2 y3 y4 y5 y6 y7 y8 y9 y10
      unfold congoulaw03_SketchEqual.l2
      repeat' first
      | (with_reducible exact ih0 _ _ _ _ _ _)
      | (with_reducible exact ih1 _ _ _ _ _ _ _)
      | (with_reducible exact ih2 _ _ _ _ _ _ _ _ _ _ _)
      | (with_reducible exact ih3 _ _ _ _ _ _ _ _ _)
      | (with_reducible exact ih4 _ _ _ _ _ _ _ _ _ _)
      | (with_reducible exact ih5 _ _ _ _ _ _)
      | (with_reducible exact sketch_Keep.mono _ _ _ _)
      | (with_reducible exact LeO.refl _)
      | (with_reducible exact LeO.none _)
      | (with_reducible refine LeO.ite ?_ ?_)
      | (with_reducible refine LeO.bind ?_ (fun _ => ?_))
      | exact ih0 _ _ _ _ _ _
      | exact ih1 _ _ _ _ _ _ _
      | exact ih2 _ _ _ _ _ _ _ _ _ _ _
      | exact ih3 _ _ _ _ _ _ _ _ _
      | exact ih4 _ _ _ _ _ _ _ _ _ _
      | exact ih5 _ _ _ _ _ _
      | exact sketch_Keep.mono _ _ _ _
      | exact LeO.none _
      | refine LeO.ite ?_ ?_
      | refine LeO.bind ?_ (fun _ => ?_)
    · intro y0 y1 y2 y3 y4 y5 y6 y7 y8
      unfold congoulaw03_SketchEqual.j3
      repeat' first
      | (with_reducible exact ih0 _ _ _ _ _ _)
      | (with_reducible exact ih1 _ _ _ _ _ _ _)
      | (with_reducible exact ih2 _ _ _ _ _ _ _ _ _ _ _)
      | (with_reducible exact ih3 _ _ _ _ _ _ _ _ _)
      | (with_reducible exact ih4 _ _ _ _ _ _ _ _ _ _)
      | (with_reducible exact ih5 _ _ _ _ _ _)
      | (with_reducible exact sketch_Keep.mono _ _ _ _)
      | (with_reducible exact LeO.refl _)
      | (with_reducible exact LeO.none _)
      | (with_reducible refine LeO.ite ?_ ?_)
      | (with_reducible refine LeO.bind ?_ (fun _ => ?_))
      | exact ih0 _ _ _ _ _ _
      | exact ih1 _ _ _ _ _ _ _
      | exact ih2 _ _ _ _ _ _ _ _ _ _ _
      | exact ih3 _ _ _ _ _ _ _ _ _
      | exact ih4 _ _ _ _ _ _ _ _ _ _
      | exact ih5 _ _ _ _ _ _
      | exact sketch_Keep.mono _ _ _ _
      | exact LeO.none _
      | refine LeO.ite ?_ ?_
      | refine LeO.bind ?_ (fun _ => ?_)
    · intro y0 y1 y2 y3 y4 y5 y6 y7 y8 y9
      unfold congoulaw03_SketchEqual.l3
      repeat' first
      | (with_reducible exact ih0 _ _ _ _ _ _)
      | (with_reducible exact ih1 _ _ _ _ _ _ _)
      | (with_reducible exact ih2 _ _ _ _ _ _ _ _ _ _ _)
      | (with_reducible exact ih3 _ _ _ _ _ _ _ _ _)
      | (with_reducible exact ih4 _ _ _ _ _ _ _ _ _ _)
      | (with_reducible exact ih5 _ _ _ _ _ _)
      | (with_reducible exact sketch_Keep.mono _ _ _ _)
      | (with_reducible exact LeO.refl _)
      | (with_reducible exact LeO.none _)
      | (with_reducible refine LeO.ite ?_ ?_)
      | (with_reducible refine LeO.bind ?_ (fun _ => ?_))
      | exact ih0 _ _ _ _ _ _
      | exact ih1 _ _ _ _ _ _ _
      | exact ih2 _ _ _ _ _ _ _ _ _ _ _
      | exact ih3 _ _ _ _ _ _ _ _ _
      | exact ih4 _ _ _ _ _ _ _ _ _ _
      | exact ih5 _ _ _ _ _ _
      | exact sketch_Keep.mono _ _ _ _
      | exact LeO.none _
      | refine LeO.ite ?_ ?_
      | refine LeO.bind ?_ (fun _ => ?_)
    · intro y0 y1 y2 y3 y4 y5
      unfold congoulaw03_SketchEqual.l4
      repeat' first
      | (with_reducible exact ih0 _ _ _ _ _ _)
      | (with_reducible exact ih1 _ _ _ _ _ _ _)
      | (with_reducible exact ih2 _ _ _ _ _ _ _ _ _ _ _)
      | (with_reducible exact ih3 _ _ _ _ _ _ _ _ _)
      | (with_reducible exact ih4 _ _ _ _ _ _ _ _ _ _)
      | (with_reducible exact ih5 _ _ _ _ _ _)
      | (with_reducible exact sketch_Keep.mono _ _ _ _)
      | (with_reducible exact LeO.refl _)
      | (with_reducible exact LeO.none _)
      | (with_reducible refine LeO.ite ?_ ?_)
      | (with_reducible refine LeO.bind ?_ (fun _ => ?_))
      | exact ih0 _ _ _ _ _ _
      | exact ih1 _ _ _ _ _ _ _
      | exact ih2 _ _ _ _ _ _ _ _ _ _ _
      | exact ih3 _ _ _ _ _ _ _ _ _
      | exact ih4 _ _ _ _ _ _ _ _ _ _
      | exact ih5 _ _ _ _ _ _
      | exact sketch_Keep.mono _ _ _ _
      | exact LeO.none _
      | refine LeO.ite ?_ ?_
      | refine LeO.bind ?_ (fun _ => ?_)
theorem congoulaw03_SketchEqual.mono : ∀ a0 a1 k, LeO (congoulaw03_SketchEqual.f k a0 a1) (congoulaw03_SketchEqual.f (k + 1) a0 a1) := by
  intro a0 a1 k
  obtain ⟨ih0, ih1, ih2, ih3, ih4, ih5⟩ := congoulaw03_SketchEqual.mono_l k
  unfold congoulaw03_SketchEqual.f
  repeat' first
      | (with_reducible exact ih0 _ _ _ _ _ _)
      | (with_reducible exact ih1 _ _ _ _ _ _ _)
      | (with_reducible exact ih2 _ _ _ _ _ _ _ _ _ _ _)
      | (with_reducible exact ih3 _ _ _ _ _ _ _ _ _)
      | (with_reducible exact ih4 _ _ _ _ _ _ _ _ _ _)
      | (with_reducible exact ih5 _ _ _ _ _ _)
      | (with_reducible exact sketch_Keep.mono _ _ _ _)
      | (with_reducible exact LeO.refl _)
      | (with_reducible exact LeO.none _)
      | (with_reducible refine LeO.ite ?_ ?_)
      | (with_reducible refine LeO.bind ?_ (fun _ => ?_))
      | exact ih0 _ _ _ _ _ _
      | exact ih1 _ _ _ _ _ _ _
      | exact ih2 _ _ _ _ _ _ _ _ _ _ _
      | exact ih3 _ _ _ _ _ _ _ _ _
      | exact ih4 _ _ _ _ _ _ _ _ _ _
      | exact ih5 _ _ _ _ _ _
      | exact sketch_Keep.mono _ _ _ _
      | exact LeO.none _
      | refine LeO.ite ?_ ?_
      | refine LeO.bind ?_ (fun _ => ?_)
set_option maxHeartbeats 8000000 in
set_option maxRecDepth 100000 in
theorem congoulaw03_SketchEqual.calls (k : Nat) (a0 : Int) (a1 : Int) (r : Bool) (w : World) (h : congoulaw03_SketchEqual.f k a0 a1 = some r) :
    Calls Try.prog 3 #[.int .i64 a0, .int .i64 a1] w fun e w' => e = .returned (.bool r) ∧ Below w.heap.size w w' := by
  have HB := Aside0.mk (Below.refl w.heap.size w)
  have H : (congoulaw03_SketchEqual.l0 k (wrap64 (1 + (wrap64 (Int.tmod (IntKind.u64.wrap (a0)) 8)))) (wrap64 (Int.tmod (IntKind.u64.wrap (a1)) 7)) ([] : List Int) 1 (wrap64 (Int.tmod (IntKind.u64.wrap (a1)) 7)) 0) = some r := h
  clear h
  have H' := Aside0.mk H
  clear H
  go_enter Try.func3, Try.ntmps3
  go_wp2
  go_loopg [5, 6, 29] k (fun kq v5 v6 v29 w' => ∃ (x5_1 : List Int) (x6_1 : Int) (x29_1 : Int), v6 = .int .i64 x6_1 ∧ v29 = .int .i64 x29_1 ∧ Aside0 (congoulaw03_SketchEqual.l0 kq (wrap64 (1 + (wrap64 (Int.tmod (IntKind.u64.wrap (a0)) 8)))) (wrap64 (Int.tmod (IntKind.u64.wrap (a1)) 7)) x5_1 x6_1 (wrap64 (Int.tmod (IntKind.u64.wrap (a1)) 7)) x29_1 = some r) ∧ Aside0 (kq ≤ k) ∧ Aside0 (Kd.R (Kd.int .i64) 3 w' w.heap.size (fun _ => True) v5 x5_1) ∧ Aside0 (Below w.heap.size w w'))
  case atStart => exact ⟨(([] : List Int)), (1), (0), (by first | rfl | (simp; done) | (simp [*]; done)), (by first | rfl | (simp; done) | (simp [*]; done)), H', ⟨Nat.le_refl _⟩, ⟨by first | exact Kd.R_nil _ _ _ _ _ | exact Kd.N_nil _ _ _ _ _ | exact Kd.V_nil _ _ _ _ _ | exact Kd.Q_nil _ _ _ _ _ | exact Kd.S_nil _ _ _ _ _⟩, ⟨by repeat (first | (with_reducible first | exact HB.out | apply below_alloc | apply pw_below_drewN | apply below_drew1) | exact HB.out)⟩⟩
  case round =>
    clear H'
    try clear p2
    obtain ⟨x5_1, x6_1, x29_1, rfl, rfl, HA, HK1, HO_5, HB⟩ := hrel
    cases gk with
    | zero => exact absurd HA.out (by simp [congoulaw03_SketchEqual.l0])
    | succ k1 =>
      have H := HA.out
      clear HA
      simp only [congoulaw03_SketchEqual.l0] at H
      by_cases c3 : x29_1 < (wrap64 (Int.tmod (IntKind.u64.wrap (a1)) 7))
      · rw [if_pos c3] at H
        have c3b0 : decide (x29_1 < (wrap64 (Int.tmod (IntKind.u64.wrap (a1)) 7))) = true := decide_eq_true c3
        clear c3
        by_cases c4 : x5_1.length < 17592186044416
        · rw [if_pos c4] at H
          have LMc4 := Aside0.mk c4
          clear c4
          obtain ⟨y124, hy124⟩ : ∃ y_ : List Int, y_ = (x5_1 ++ [x29_1]) := ⟨_, rfl⟩
          replace H : (congoulaw03_SketchEqual.l0 k1 (wrap64 (1 + (wrap64 (Int.tmod (IntKind.u64.wrap (a0)) 8)))) (wrap64 (Int.tmod (IntKind.u64.wrap (a1)) 7)) y124 (wrap64 (x6_1 * (wrap64 (x29_1 + 1)))) (wrap64 (Int.tmod (IntKind.u64.wrap (a1)) 7)) (wrap64 (x29_1 + 1))) = some r := by first | (rw [hy124]; with_reducible exact H) | (have H2_ := (Option.bind_some _ _).symm.trans H; rw [hy124]; with_reducible exact H2_) | (have H2_ := (Option.bind_some _ _).symm.trans H; with_reducible exact H2_) | with_reducible exact H | (rw [hy124]; exact H) | exact H
          have Ny124 := Aside0.mk hy124
          clear hy124
          have H' := Aside0.mk H
          clear H
          go_wp2_with (first | ((with_reducible refine gate_builtin (b := .append) (xs := #[.tmp 32, .tmp 34]) rfl ?_); (try (refine gate_guard (by rfl) ?_; dsimp only)); at_builtin; refine Kd.R_append (Kd.int .i64) (w0 := w) w.heap.size rfl (.tmp 32) (.tmp 34) 23 3 (.int .i64 0) 8 rfl Try.underlying23 info3 rfl (by decide) (by omega) u5 x5_1 x29_1 [.int .i64 x29_1] (fun _ => True) (fun _ => False) rfl rfl ?aP (fun _ hk => hk.elim) ?aF ?aO ?aB ?aS ?aL ?_; (case aP => exact rfl); (case aB => exact (by repeat (first | (with_reducible first | exact HB.out | apply below_alloc | apply pw_below_drewN | apply below_drew1) | exact HB.out))); (case aF => exact (fun _ _ => trivial)); (case aO => exact (by (with_reducible repeat (first | apply Kd.R_alloc | apply Kd.R_drewN | apply Kd.R_drew)); exact HO_5.out)); (case aS => exact (below_size (by repeat (first | (with_reducible first | exact HB.out | apply below_alloc | apply pw_below_drewN | apply below_drew1) | exact HB.out)))); (case aL => have := LMc4.out; omega); intro v125 w5 ho hb hg hat; rw [← Ny124.out] at ho; have n0_ := Aside0.mk (hb); have n1_ := Aside0.mk (ho); clear HB; clear HO_5; have HB := n0_; have HO126 := n1_; clear n0_ n1_; clear ho hb hg hat))
          go_roundg k1
          case measure => have := HK1.out; omega
          case rel => exact ⟨(y124), (wrap64 (x6_1 * (wrap64 (x29_1 + 1)))), (wrap64 (x29_1 + 1)), (by first | rfl | (simp; done) | (simp [*]; done)), (by first | rfl | (simp; done) | (simp [*]; done)), H', ⟨by have := HK1.out; omega⟩, ⟨by (with_reducible repeat (first | apply Kd.R_alloc | apply Kd.R_drewN | apply Kd.R_drew)); exact HO126.out⟩, ⟨by repeat (first | (with_reducible first | exact HB.out | apply below_alloc | apply pw_below_drewN | apply below_drew1) | exact HB.out)⟩⟩
        · rw [if_neg c4] at H
          exact absurd H (by simp)
      · rw [if_neg c3] at H
        have c3b0 : decide (x29_1 < (wrap64 (Int.tmod (IntKind.u64.wrap (a1)) 7))) = false := decide_eq_false c3
        clear c3
        obtain ⟨ji6, hji6⟩ : ∃ j_ : Int, (wrap64 (Int.tmod (IntKind.u64.wrap (a1)) 7)) = j_ := ⟨_, rfl⟩
        replace H : (if 0 ≤ (ji6) then (if ((ji6) : Int).toNat ≤ 35184372088832 then (congoulaw03_SketchEqual.l1 k1 (wrap64 (1 + (wrap64 (Int.tmod (IntKind.u64.wrap (a0)) 8)))) (ji6) x5_1 x6_1 (List.replicate ((ji6) : Int).toNat 0) x6_1 0) else (none)) else (none)) = some r := by first | (rw [hji6] at H; exact H) | (simp only [hji6] at H ⊢; exact H)
        (try rw [hji6] at c3b0)
        have hji6w : (IntKind.i64.wrap (Int.tmod (IntKind.u64.wrap (a1)) 7)) = ji6 := (i64_w _).trans hji6
        by_cases c7 : 0 ≤ (ji6)
        · rw [if_pos c7] at H
          have c7b0 := eq_true c7
          have c7b1 : decide (0 ≤ (ji6)) = true := decide_eq_true c7
          clear c7
          by_cases c8 : ((ji6) : Int).toNat ≤ 35184372088832
          · rw [if_pos c8] at H
            have c8b0 := eq_true c8
            have c8b1 : decide (((ji6) : Int).toNat ≤ 35184372088832) = true := decide_eq_true c8
            clear c8
            obtain ⟨y127, hy127⟩ : ∃ y_ : List Int, y_ = (List.replicate ((ji6) : Int).toNat 0) := ⟨_, rfl⟩
            replace H : (congoulaw03_SketchEqual.l1 k1 (wrap64 (1 + (wrap64 (Int.tmod (IntKind.u64.wrap (a0)) 8)))) (ji6) x5_1 x6_1 y127 x6_1 0) = some r := by first | (rw [hy127]; with_reducible exact H) | (have H2_ := (Option.bind_some _ _).symm.trans H; rw [hy127]; with_reducible exact H2_) | (have H2_ := (Option.bind_some _ _).symm.trans H; with_reducible exact H2_) | with_reducible exact H | (rw [hy127]; exact H) | exact H
            have Ny127 := Aside0.mk hy127
            clear hy127
            have H' := Aside0.mk H
            clear H
            go_wp2_with (first | ((with_reducible refine gate_dst (N := 42) rfl ?_); (try (refine gate_guard (by rfl) ?_; dsimp only)); refine Kd.R_make (Kd.int .i64) _ 3 rfl (N := 42) rfl 23 _ _ rfl (ji6) (by first | rfl | exact congrArg (Value.int _) hji6) (by first | rfl | exact congrArg (Value.int _) hji6) Try.underlying23 (.int .i64 0) 8 info3 rfl (by decide) (by omega) 0 (ok := fun _ => True) (okp := fun _ => True) rfl (fun _ hk => hk) trivial (of_decide_eq_true (by first | (with_reducible assumption) | assumption)) (Nat.le_trans (Nat.mul_le_mul_right _ (of_decide_eq_true (by first | (with_reducible assumption) | assumption) : (ji6).toNat ≤ 35184372088832)) (by omega)) (Below.refl _ _) (Nat.le_refl _) ?_; intro v128 w9 ho10 hb hg_ hnew_; clear hg_ hnew_; (first | rw [← Ny127.out] at ho10 | (simp only [Int.reduceToNat] at ho10; rw [← Ny127.out] at ho10)); have n0_ := Aside0.mk (Kd.R_elder' (by (with_reducible repeat (first | apply Kd.R_alloc | apply Kd.R_drewN | apply Kd.R_drew)); exact HO_5.out) (Kd.R_base ho10) hb); have n1_ := Aside0.mk (Kd.R_lower (Kd.R_new' ho10 (Kd.R_lt (by (with_reducible repeat (first | apply Kd.R_alloc | apply Kd.R_drewN | apply Kd.R_drew)); exact HO_5.out))) (below_size (by repeat (first | (with_reducible first | exact HB.out | apply below_alloc | apply pw_below_drewN | apply below_drew1) | exact HB.out)))); have n2_ := Aside0.mk (below_step (by repeat (first | (with_reducible first | exact HB.out | apply below_alloc | apply pw_below_drewN | apply below_drew1) | exact HB.out)) hb); clear HO_5; clear HB; have HO_5 := n0_; have HO129 := n1_; have HB := n2_; clear n0_ n1_ n2_; clear hb ho10))
            go_loopg [44] k1 (fun kq v44 w' => ∃ (x8_2 : List Int) (x44_2 : Int), v44 = .int .i64 x44_2 ∧ Aside0 (congoulaw03_SketchEqual.l1 kq (wrap64 (1 + (wrap64 (Int.tmod (IntKind.u64.wrap (a0)) 8)))) (ji6) x5_1 x6_1 x8_2 x6_1 x44_2 = some r) ∧ Aside0 (kq ≤ k1) ∧ Aside0 (Kd.R (Kd.int .i64) 3 w' w.heap.size (fun k_ => some k_ ≠ (v128 : Value).ownBlock) u5 x5_1) ∧ Aside0 (Kd.R (Kd.int .i64) 3 w' w.heap.size (fun k_ => some k_ ≠ (u5 : Value).ownBlock) v128 x8_2) ∧ Aside0 (Below w.heap.size w w'))
            case atStart => exact ⟨(y127), (0), (by first | rfl | (simp; done) | (simp [*]; done)), H', ⟨Nat.le_refl _⟩, ⟨by (with_reducible repeat (first | apply Kd.R_alloc | apply Kd.R_drewN | apply Kd.R_drew)); exact Kd.R_mono HO_5.out (fun _ hk => hk.2)⟩, ⟨by (with_reducible repeat (first | apply Kd.R_alloc | apply Kd.R_drewN | apply Kd.R_drew)); exact Kd.R_mono HO129.out (fun _ hk => hk.2)⟩, ⟨by repeat (first | (with_reducible first | exact HB.out | apply below_alloc | apply pw_below_drewN | apply below_drew1) | exact HB.out)⟩⟩
            case round =>
              clear H'
              try clear p2
              try clear c3
              try clear c3b0
              try clear c4
              try clear p6
              try clear c7
              try clear c7b0
              try clear c7b1
              try clear c8
              try clear c8b0
              try clear c8b1
              try clear p2
              obtain ⟨x8_2, x44_2, rfl, HA, HK2, HO_5, HO_8, HB⟩ := hrel
              cases gk with
              | zero => exact absurd HA.out (by simp [congoulaw03_SketchEqual.l1])
              | succ k2 =>
                have H := HA.out
                clear HA
                simp only [congoulaw03_SketchEqual.l1] at H
                by_cases c11 : x44_2 < x6_1
                · rw [if_pos c11] at H
                  have c11b0 : decide (x44_2 < x6_1) = true := decide_eq_true c11
                  clear c11
                  have H' := Aside0.mk H
                  clear H
                  go_wp2
                  go_loopg [10, 11, 49] k2 (fun kq v10 v11 v49 w' => ∃ (x10_3 : List Int) (x11_3 : Int) (x49_3 : Int), v11 = .int .i64 x11_3 ∧ v49 = .int .i64 x49_3 ∧ Aside0 (congoulaw03_SketchEqual.l2 kq (wrap64 (1 + (wrap64 (Int.tmod (IntKind.u64.wrap (a0)) 8)))) (ji6) x5_1 x6_1 x8_2 x10_3 x11_3 x6_1 x44_2 (ji6) x49_3 = some r) ∧ Aside0 (kq ≤ k2) ∧ Aside0 (Kd.R (Kd.int .i64) 3 w' w.heap.size (fun k_ => some k_ ≠ (v128 : Value).ownBlock ∧ some k_ ≠ (v10 : Value).ownBlock) u5 x5_1) ∧ Aside0 (Kd.R (Kd.int .i64) 3 w' w.heap.size (fun k_ => some k_ ≠ (u5 : Value).ownBlock ∧ some k_ ≠ (v10 : Value).ownBlock) v128 x8_2) ∧ Aside0 (Kd.R (Kd.int .i64) 3 w' w.heap.size (fun k_ => some k_ ≠ (u5 : Value).ownBlock ∧ some k_ ≠ (v128 : Value).ownBlock) v10 x10_3) ∧ Aside0 (Below w.heap.size w w'))
                  case atStart => exact ⟨(([] : List Int)), (x44_2), (0), (by first | rfl | (simp; done) | (simp [*]; done)), (by first | rfl | (simp; done) | (simp [*]; done)), H', ⟨Nat.le_refl _⟩, ⟨by (with_reducible repeat (first | apply Kd.R_alloc | apply Kd.R_drewN | apply Kd.R_drew)); exact Kd.R_mono HO_5.out (fun _ hk => ⟨hk, (by simp [Value.ownBlock])⟩)⟩, ⟨by (with_reducible repeat (first | apply Kd.R_alloc | apply Kd.R_drewN | apply Kd.R_drew)); exact Kd.R_mono HO_8.out (fun _ hk => ⟨hk, (by simp [Value.ownBlock])⟩)⟩, ⟨by first | exact Kd.R_nil _ _ _ _ _ | exact Kd.N_nil _ _ _ _ _ | exact Kd.V_nil _ _ _ _ _ | exact Kd.Q_nil _ _ _ _ _ | exact Kd.S_nil _ _ _ _ _⟩, ⟨by repeat (first | (with_reducible first | exact HB.out | apply below_alloc | apply pw_below_drewN | apply below_drew1) | exact HB.out)⟩⟩
                  case round =>
                    clear H'
                    try clear c1
                    try clear p2
                    try clear c3
                    try clear c3b0
                    try clear c4
                    try clear p6
                    try clear c7
                    try clear c7b0
                    try clear c7b1
                    try clear c8
                    try clear c8b0
                    try clear c8b1
                    try clear c11
                    try clear c11b0
                    try clear p2
                    try clear p6
                    obtain ⟨x10_3, x11_3, x49_3, rfl, rfl, HA, HK3, HO_5, HO_8, HO_10, HB⟩ := hrel
                    cases gk with
                    | zero => exact absurd HA.out (by simp [congoulaw03_SketchEqual.l2])
                    | succ k3 =>
                      have H := HA.out
                      clear HA
                      simp only [congoulaw03_SketchEqual.l2] at H
                      by_cases c12 : x49_3 < (ji6)
                      · rw [if_pos c12] at H
                        have c12b0 : decide (x49_3 < (ji6)) = true := decide_eq_true c12
                        clear c12
                        by_cases c13 : (wrap64 (x49_3 + 1)) = 0
                        · rw [if_pos c13] at H
                          exact absurd H (by simp)
                        · rw [if_neg c13] at H
                          have c13b0 : ((wrap64 (x49_3 + 1)) == 0) = false := beq_eq_false_iff_ne.mpr c13
                          have c13b1 : ((wrap64 (x49_3 + 1)) != 0) = true := bne_iff_ne.mpr c13
                          by_cases c14 : x10_3.length < 17592186044416
                          · rw [if_pos c14] at H
                            have LMc14 := Aside0.mk c14
                            clear c14
                            obtain ⟨y130, hy130⟩ : ∃ y_ : List Int, y_ = (x10_3 ++ [Int.tmod x11_3 (wrap64 (x49_3 + 1))]) := ⟨_, rfl⟩
                            replace H : (congoulaw03_SketchEqual.l2 k3 (wrap64 (1 + (wrap64 (Int.tmod (IntKind.u64.wrap (a0)) 8)))) (ji6) x5_1 x6_1 x8_2 y130 (wrap64 (Int.tdiv x11_3 (wrap64 (x49_3 + 1)))) x6_1 x44_2 (ji6) (wrap64 (x49_3 + 1))) = some r := by first | (rw [hy130]; with_reducible exact H) | (have H2_ := (Option.bind_some _ _).symm.trans H; rw [hy130]; with_reducible exact H2_) | (have H2_ := (Option.bind_some _ _).symm.trans H; with_reducible exact H2_) | with_reducible exact H | (rw [hy130]; exact H) | exact H
                            have Ny130 := Aside0.mk hy130
                            clear hy130
                            have H' := Aside0.mk H
                            clear H
                            go_wp2_with (first | ((with_reducible refine gate_builtin (b := .append) (xs := #[.tmp 52, .tmp 57]) rfl ?_); (try (refine gate_guard (by rfl) ?_; dsimp only)); at_builtin; refine Kd.R_append (Kd.int .i64) (w0 := w) w.heap.size rfl (.tmp 52) (.tmp 57) 23 3 (.int .i64 0) 8 rfl Try.underlying23 info3 rfl (by decide) (by omega) u10 x10_3 (Int.tmod x11_3 (wrap64 (x49_3 + 1))) [.int .i64 (Int.tmod x11_3 (wrap64 (x49_3 + 1)))] (fun k_ => some k_ ≠ (u5 : Value).ownBlock ∧ some k_ ≠ (v128 : Value).ownBlock) (fun _ => False) rfl rfl ?aP (fun _ hk => hk.elim) ?aF ?aO ?aB ?aS ?aL ?_; (case aP => exact rfl); (case aB => exact (by repeat (first | (with_reducible first | exact HB.out | apply below_alloc | apply pw_below_drewN | apply below_drew1) | exact HB.out))); (case aF => exact (fun k_ hk => ⟨Kd.fresh' (Kd.R_lt (by (with_reducible repeat (first | apply Kd.R_alloc | apply Kd.R_drewN | apply Kd.R_drew)); exact HO_5.out)) k_ hk, Kd.fresh' (Kd.R_lt (by (with_reducible repeat (first | apply Kd.R_alloc | apply Kd.R_drewN | apply Kd.R_drew)); exact HO_8.out)) k_ hk⟩)); (case aO => exact (by (with_reducible repeat (first | apply Kd.R_alloc | apply Kd.R_drewN | apply Kd.R_drew)); exact HO_10.out)); (case aS => exact (below_size (by repeat (first | (with_reducible first | exact HB.out | apply below_alloc | apply pw_below_drewN | apply below_drew1) | exact HB.out)))); (case aL => have := LMc14.out; omega); intro v131 w15 ho hb hg hat; rw [← Ny130.out] at ho; have n0_ := Aside0.mk (Kd.R_after (ok := (fun k_ => some k_ ≠ (v128 : Value).ownBlock)) (by (with_reducible repeat (first | apply Kd.R_alloc | apply Kd.R_drewN | apply Kd.R_drew)); exact HO_5.out) hg hat); have n1_ := Aside0.mk (Kd.R_after (ok := (fun k_ => some k_ ≠ (u5 : Value).ownBlock)) (by (with_reducible repeat (first | apply Kd.R_alloc | apply Kd.R_drewN | apply Kd.R_drew)); exact HO_8.out) hg hat); have n2_ := Aside0.mk (hb); have n3_ := Aside0.mk (ho); clear HO_5; clear HO_8; clear HB; clear HO_10; have HO_5 := n0_; have HO_8 := n1_; have HB := n2_; have HO132 := n3_; clear n0_ n1_ n2_ n3_; clear ho hb hg hat))
                            go_roundg k3
                            case measure => have := HK1.out; have := HK2.out; have := HK3.out; omega
                            case rel => exact ⟨(y130), (wrap64 (Int.tdiv x11_3 (wrap64 (x49_3 + 1)))), (wrap64 (x49_3 + 1)), (by first | rfl | (simp; done) | (simp [*]; done)), (by first | rfl | (simp; done) | (simp [*]; done)), H', ⟨by have := HK1.out; have := HK2.out; have := HK3.out; omega⟩, ⟨by (with_reducible repeat (first | apply Kd.R_alloc | apply Kd.R_drewN | apply Kd.R_drew)); exact HO_5.out⟩, ⟨by (with_reducible repeat (first | apply Kd.R_alloc | apply Kd.R_drewN | apply Kd.R_drew)); exact HO_8.out⟩, ⟨by (with_reducible repeat (first | apply Kd.R_alloc | apply Kd.R_drewN | apply Kd.R_drew)); exact HO132.out⟩, ⟨by repeat (first | (with_reducible first | exact HB.out | apply below_alloc | apply pw_below_drewN | apply below_drew1) | exact HB.out)⟩⟩
                          · rw [if_neg c14] at H
                            exact absurd H (by simp)
                      · rw [if_neg c12] at H
                        have c12b0 : decide (x49_3 < (ji6)) = false := decide_eq_false c12
                        clear c12
                        replace H := Option.bind_eq_some_iff.mp H
                        obtain ⟨t133, A160, H⟩ := H
                        replace H : ((sketch_Keep.f k3 (wrap64 (1 + (wrap64 (Int.tmod (IntKind.u64.wrap (a0)) 8)))) t133 x10_3).bind fun bt136 => (if bt136.2 = 0 then (congoulaw03_SketchEqual.j3 k3 (wrap64 (1 + (wrap64 (Int.tmod (IntKind.u64.wrap (a0)) 8)))) (ji6) x5_1 x6_1 x8_2 bt136.1 x6_1 x44_2 ((bt136.1.length : Int) != (mn (wrap64 (1 + (wrap64 (Int.tmod (IntKind.u64.wrap (a0)) 8)))) (ji6)))) else (congoulaw03_SketchEqual.j3 k3 (wrap64 (1 + (wrap64 (Int.tmod (IntKind.u64.wrap (a0)) 8)))) (ji6) x5_1 x6_1 x8_2 bt136.1 x6_1 x44_2 true))) = some r := H
                        have A16 := Aside0.mk A160
                        clear A160
                        replace H := Option.bind_eq_some_iff.mp H
                        obtain ⟨⟨t136, t137⟩, A170, H⟩ := H
                        replace H : (if t137 = 0 then (congoulaw03_SketchEqual.j3 k3 (wrap64 (1 + (wrap64 (Int.tmod (IntKind.u64.wrap (a0)) 8)))) (ji6) x5_1 x6_1 x8_2 t136 x6_1 x44_2 ((t136.length : Int) != (mn (wrap64 (1 + (wrap64 (Int.tmod (IntKind.u64.wrap (a0)) 8)))) (ji6)))) else (congoulaw03_SketchEqual.j3 k3 (wrap64 (1 + (wrap64 (Int.tmod (IntKind.u64.wrap (a0)) 8)))) (ji6) x5_1 x6_1 x8_2 t136 x6_1 x44_2 true)) = some r := H
                        have A17 := Aside0.mk A170
                        clear A170
                        have HC18 := Aside0.mk H
                        clear H
                        obtain ⟨Ao19, co19, eo19⟩ := Kd.R_slice HO_5.out
                        subst eo19
                        go_upto_region 23 with (first | ((with_reducible refine gate_callee (f := 17) rfl ?_); refine goesL_ (some 67) rfl rfl Try.func17 (by kernel_rfl) rfl #[.slice Ao19 x5_1.length co19] rfl (by (try simp only [List.map_toArray, List.map_cons, List.map_nil]); first | done | rfl | (simp only [List.length_drop, List.length_take]; rfl)) ?_; (with_reducible refine (slices_Clone_int_int.calls _ _ x5_1 t133 _ ?side1 ?side2 A16.out).mono ?_); (case side1 => repeat (first | exact (Kd.R_reads' HO_5.out).2.2 | (with_reducible refine Kd.C_alloc ?_ _) | (with_reducible refine Kd.C_drewN ?_ _) | (with_reducible refine Kd.C_drew ?_))); (case side2 => exact (Kd.R_reads' HO_5.out).2.1); rintro e w20 ⟨v134, rfl, ho0, hb⟩; refine ⟨_, rfl, ?_⟩; have n0_ := Aside0.mk (Kd.R_elder' (by (with_reducible repeat (first | apply Kd.R_alloc | apply Kd.R_drewN | apply Kd.R_drew)); exact HO_5.out) (Kd.R_base ho0) hb); have n1_ := Aside0.mk (Kd.R_elder' (by (with_reducible repeat (first | apply Kd.R_alloc | apply Kd.R_drewN | apply Kd.R_drew)); exact HO_8.out) (Kd.R_base ho0) hb); have n2_ := Aside0.mk (Kd.R_elder' (by (with_reducible repeat (first | apply Kd.R_alloc | apply Kd.R_drewN | apply Kd.R_drew)); exact HO_10.out) (Kd.R_base ho0) hb); have n3_ := Aside0.mk (Kd.R_lower (Kd.R_new' (Kd.R_new' (Kd.R_new' ho0 (Kd.R_lt (by (with_reducible repeat (first | apply Kd.R_alloc | apply Kd.R_drewN | apply Kd.R_drew)); exact HO_5.out))) (Kd.R_lt (by (with_reducible repeat (first | apply Kd.R_alloc | apply Kd.R_drewN | apply Kd.R_drew)); exact HO_8.out))) (Kd.R_lt (by (with_reducible repeat (first | apply Kd.R_alloc | apply Kd.R_drewN | apply Kd.R_drew)); exact HO_10.out))) (below_size (by repeat (first | (with_reducible first | exact HB.out | apply below_alloc | apply pw_below_drewN | apply below_drew1) | exact HB.out)))); have n4_ := Aside0.mk (below_step (by repeat (first | (with_reducible first | exact HB.out | apply below_alloc | apply pw_below_drewN | apply below_drew1) | exact HB.out)) hb); clear HO_5; clear HO_8; clear HO_10; clear HB; have HO_5 := n0_; have HO_8 := n1_; have HO_10 := n2_; have HO135 := n3_; have HB := n4_; clear n0_ n1_ n2_ n3_ n4_; (try clear hb); (try clear hb2); (try clear hk); (try clear hi); (try clear ho0); obtain ⟨Ao21, co21, eo21⟩ := Kd.R_slice HO135.out; subst eo21; obtain ⟨Ao22, co22, eo22⟩ := Kd.R_slice HO_10.out; subst eo22) | ((with_reducible refine gate_callee (f := 16) rfl ?_); refine goesL_ (some 69) rfl rfl Try.func16 (by kernel_rfl) rfl #[.int .i64 (wrap64 (1 + (wrap64 (Int.tmod (IntKind.u64.wrap (a0)) 8)))), .slice Ao21 t133.length co21, .slice Ao22 x10_3.length co22] rfl (by (try simp only [List.map_toArray, List.map_cons, List.map_nil]); first | done | rfl | (simp only [List.length_drop, List.length_take]; rfl)) ?_; (with_reducible refine (sketch_Keep.calls k3 (wrap64 (1 + (wrap64 (Int.tmod (IntKind.u64.wrap (a0)) 8)))) _ _ t133 _ _ x10_3 t136 t137 _ ?side1 ?side2 ?side3 ?side4 A17.out).mono ?_); (case side1 => repeat (first | exact (Kd.R_reads' HO135.out).2.2 | (with_reducible refine Kd.C_alloc ?_ _) | (with_reducible refine Kd.C_drewN ?_ _) | (with_reducible refine Kd.C_drew ?_))); (case side2 => exact (Kd.R_reads' HO135.out).2.1); (case side3 => repeat (first | exact (Kd.R_reads' HO_10.out).2.2 | (with_reducible refine Kd.C_alloc ?_ _) | (with_reducible refine Kd.C_drewN ?_ _) | (with_reducible refine Kd.C_drew ?_))); (case side4 => exact (Kd.R_reads' HO_10.out).2.1); rintro e w23 ⟨v138, rfl, ho0, hb⟩; refine ⟨_, rfl, ?_⟩; have n0_ := Aside0.mk (Kd.R_elder' (by (with_reducible repeat (first | apply Kd.R_alloc | apply Kd.R_drewN | apply Kd.R_drew)); exact HO_5.out) (Kd.R_base ho0) hb); have n1_ := Aside0.mk (Kd.R_elder' (by (with_reducible repeat (first | apply Kd.R_alloc | apply Kd.R_drewN | apply Kd.R_drew)); exact HO_8.out) (Kd.R_base ho0) hb); have n2_ := Aside0.mk (Kd.R_elder' (by (with_reducible repeat (first | apply Kd.R_alloc | apply Kd.R_drewN | apply Kd.R_drew)); exact HO_10.out) (Kd.R_base ho0) hb); have n3_ := Aside0.mk (Kd.R_elder' (by (with_reducible repeat (first | apply Kd.R_alloc | apply Kd.R_drewN | apply Kd.R_drew)); exact HO135.out) (Kd.R_base ho0) hb); have n4_ := Aside0.mk (Kd.R_lower (Kd.R_new' (Kd.R_new' (Kd.R_new' (Kd.R_new' ho0 (Kd.R_lt (by (with_reducible repeat (first | apply Kd.R_alloc | apply Kd.R_drewN | apply Kd.R_drew)); exact HO_5.out))) (Kd.R_lt (by (with_reducible repeat (first | apply Kd.R_alloc | apply Kd.R_drewN | apply Kd.R_drew)); exact HO_8.out))) (Kd.R_lt (by (with_reducible repeat (first | apply Kd.R_alloc | apply Kd.R_drewN | apply Kd.R_drew)); exact HO_10.out))) (Kd.R_lt (by (with_reducible repeat (first | apply Kd.R_alloc | apply Kd.R_drewN | apply Kd.R_drew)); exact HO135.out))) (below_size (by repeat (first | (with_reducible first | exact HB.out | apply below_alloc | apply pw_below_drewN | apply below_drew1) | exact HB.out)))); have n5_ := Aside0.mk (below_step (by repeat (first | (with_reducible first | exact HB.out | apply below_alloc | apply pw_below_drewN | apply below_drew1) | exact HB.out)) hb); clear HO_5; clear HO_8; clear HO_10; clear HO135; clear HB; have HO_5 := n0_; have HO_8 := n1_; have HO_10 := n2_; have HO135 := n3_; have HO139 := n4_; have HB := n5_; clear n0_ n1_ n2_ n3_ n4_ n5_; (try clear hb); (try clear hb2); (try clear hk); (try clear hi); (try clear ho0)))
                        (try simp only [Act.put, List.setIfInBounds_toArray, List.set_cons_zero, List.set_cons_succ])
                        go_cut [81] (fun v81 wc => ∃ (kq : Nat) (x81_17 : Bool), v81 = .bool x81_17 ∧ Aside0 (congoulaw03_SketchEqual.j3 kq (wrap64 (1 + (wrap64 (Int.tmod (IntKind.u64.wrap (a0)) 8)))) (ji6) x5_1 x6_1 x8_2 t136 x6_1 x44_2 x81_17 = some r) ∧ Aside0 (kq ≤ k3) ∧ Aside0 (Kd.R (Kd.int .i64) 3 wc w.heap.size (fun k_ => some k_ ≠ (v128 : Value).ownBlock ∧ some k_ ≠ (v138 : Value).ownBlock) (.slice Ao19 x5_1.length co19) x5_1) ∧ Aside0 (Kd.R (Kd.int .i64) 3 wc w.heap.size (fun k_ => some k_ ≠ ((.slice Ao19 x5_1.length co19) : Value).ownBlock ∧ some k_ ≠ (v138 : Value).ownBlock) v128 x8_2) ∧ Aside0 (Kd.R (Kd.int .i64) 3 wc w.heap.size (fun k_ => some k_ ≠ ((.slice Ao19 x5_1.length co19) : Value).ownBlock ∧ some k_ ≠ (v128 : Value).ownBlock) v138 t136) ∧ Aside0 (Below w.heap.size w wc))
                        case first =>
                          have H := HC18.out
                          clear HC18
                          by_cases c24 : t137 = 0
                          · rw [if_pos c24] at H
                            have c24b0 : (t137 == 0) = true := beq_iff_eq.mpr c24
                            have c24b1 : (t137 != 0) = false := bne_eq_false_iff_eq.mpr c24
                            clear c24
                            (first | rw [c24b0] | (simp only [i64_w, i32_w]; rw [c24b0]) | skip)
                            obtain ⟨ji25, hji25⟩ : ∃ j_ : Int, (mn (wrap64 (1 + (wrap64 (Int.tmod (IntKind.u64.wrap (a0)) 8)))) (ji6)) = j_ := ⟨_, rfl⟩
                            replace H : (congoulaw03_SketchEqual.j3 k3 (wrap64 (1 + (wrap64 (Int.tmod (IntKind.u64.wrap (a0)) 8)))) (ji6) x5_1 x6_1 x8_2 t136 x6_1 x44_2 ((t136.length : Int) != (ji25))) = some r := by first | (rw [hji25] at H; exact H) | (simp only [hji25] at H ⊢; exact H)
                            have hji25_ : (if (ji6) < (wrap64 (1 + (wrap64 (Int.tmod (IntKind.u64.wrap (a0)) 8)))) then (ji6) else (wrap64 (1 + (wrap64 (Int.tmod (IntKind.u64.wrap (a0)) 8))))) = ji25 := hji25
                            have H' := Aside0.mk H
                            clear H
                            obtain ⟨Ao26, co26, eo26⟩ := Kd.R_slice HO139.out
                            subst eo26
                            go_wp2
                            go_meet
                            case rel => exact ⟨_, (((t136.length : Int) != (ji25))), (by first | rfl | (simp; done) | (simp only [← hji25] <;> (first | rfl | simp)) | (simp [*]; done)), H', ⟨by have := HK1.out; have := HK2.out; have := HK3.out; first | omega | exact Nat.le_refl _⟩, ⟨by (with_reducible repeat (first | apply Kd.R_alloc | apply Kd.R_drewN | apply Kd.R_drew)); exact Kd.R_mono HO_5.out (fun _ hk => ⟨hk.1.1.1, hk.2⟩)⟩, ⟨by (with_reducible repeat (first | apply Kd.R_alloc | apply Kd.R_drewN | apply Kd.R_drew)); exact Kd.R_mono HO_8.out (fun _ hk => ⟨hk.1.1.1, hk.2⟩)⟩, ⟨by (with_reducible repeat (first | apply Kd.R_alloc | apply Kd.R_drewN | apply Kd.R_drew)); exact Kd.R_mono HO139.out (fun _ hk => ⟨hk.1.1.1.2, hk.1.1.2⟩)⟩, ⟨by repeat (first | (with_reducible first | exact HB.out | apply below_alloc | apply pw_below_drewN | apply below_drew1) | exact HB.out)⟩⟩
                          · rw [if_neg c24] at H
                            have c24b0 : (t137 == 0) = false := beq_eq_false_iff_ne.mpr c24
                            have c24b1 : (t137 != 0) = true := bne_iff_ne.mpr c24
                            (first | rw [c24b0] | (simp only [i64_w, i32_w]; rw [c24b0]) | skip)
                            have H' := Aside0.mk H
                            clear H
                            go_wp2
                            go_meet
                            case rel => exact ⟨_, (true), (by first | rfl | (simp; done) | (simp [*]; done)), H', ⟨by have := HK1.out; have := HK2.out; have := HK3.out; first | omega | exact Nat.le_refl _⟩, ⟨by (with_reducible repeat (first | apply Kd.R_alloc | apply Kd.R_drewN | apply Kd.R_drew)); exact Kd.R_mono HO_5.out (fun _ hk => ⟨hk.1.1.1, hk.2⟩)⟩, ⟨by (with_reducible repeat (first | apply Kd.R_alloc | apply Kd.R_drewN | apply Kd.R_drew)); exact Kd.R_mono HO_8.out (fun _ hk => ⟨hk.1.1.1, hk.2⟩)⟩, ⟨by (with_reducible repeat (first | apply Kd.R_alloc | apply Kd.R_drewN | apply Kd.R_drew)); exact Kd.R_mono HO139.out (fun _ hk => ⟨hk.1.1.1.2, hk.1.1.2⟩)⟩, ⟨by repeat (first | (with_reducible first | exact HB.out | apply below_alloc | apply pw_below_drewN | apply below_drew1) | exact HB.out)⟩⟩
                        case rest =>
                          clear HC18
                          try clear c1
                          try clear c2
                          try clear p2
                          try clear c3
                          try clear c3b0
                          try clear c4
                          try clear p6
                          try clear c7
                          try clear c7b0
                          try clear c7b1
                          try clear c8
                          try clear c8b0
                          try clear c8b1
                          try clear c11
                          try clear c11b0
                          try clear c12
                          try clear c12b0
                          try clear c13
                          try clear c13b0
                          try clear c13b1
                          try clear c14
                          try clear c16
                          try clear c17
                          try clear c24
                          try clear c24b0
                          try clear c24b1
                          try clear p2
                          try clear p6
                          obtain ⟨kq, x81_17, rfl, HA, HJ17, HO_5, HO_8, HO_13, HB⟩ := hcut
                          cases kq with
                          | zero => exact absurd HA.out (by simp [congoulaw03_SketchEqual.j3])
                          | succ kj17 =>
                            have H := HA.out
                            clear HA
                            simp only [congoulaw03_SketchEqual.j3] at H
                            by_cases c27 : x81_17 = true
                            · subst c27
                              have H1 : (some false) = some r := by rw [if_pos rfl] at H; exact H
                              clear H
                              have H := H1
                              clear H1
                              obtain rfl := Option.some.inj H
                              go_wp2
                              go_ret
                              exact ⟨by first | rfl | (simp [errW_none, errW_some] <;> rfl) | (simp only [← hji6]; first | rfl | (simp [errW_none, errW_some] <;> rfl)) | (simp [*, errW_none, errW_some] <;> rfl), by repeat (first | (with_reducible first | exact HB.out | apply below_alloc | apply pw_below_drewN | apply below_drew1) | exact HB.out)⟩
                            · replace c27 := Bool.eq_false_iff.mpr c27
                              subst c27
                              have H1 : (congoulaw03_SketchEqual.l3 kj17 (wrap64 (1 + (wrap64 (Int.tmod (IntKind.u64.wrap (a0)) 8)))) (ji6) x5_1 x6_1 x8_2 x6_1 x44_2 t136 (t136.length : Int) 0) = some r := by rw [if_neg (show ¬ (false = true) by decide)] at H; exact H
                              clear H
                              have H := H1
                              clear H1
                              have H' := Aside0.mk H
                              clear H
                              obtain ⟨Ao28, co28, eo28⟩ := Kd.R_slice HO_13.out
                              subst eo28
                              go_wp2
                              go_loopg [84] kj17 (fun kq v84 w' => ∃ (x8_5 : List Int) (x84_5 : Int), v84 = .int .i64 x84_5 ∧ Aside0 (congoulaw03_SketchEqual.l3 kq (wrap64 (1 + (wrap64 (Int.tmod (IntKind.u64.wrap (a0)) 8)))) (ji6) x5_1 x6_1 x8_5 x6_1 x44_2 t136 (t136.length : Int) x84_5 = some r) ∧ Aside0 (kq ≤ kj17) ∧ Aside0 (Kd.R (Kd.int .i64) 3 w' w.heap.size (fun k_ => some k_ ≠ (v128 : Value).ownBlock ∧ some k_ ≠ ((.slice Ao28 t136.length co28) : Value).ownBlock) (.slice Ao19 x5_1.length co19) x5_1) ∧ Aside0 (Kd.R (Kd.int .i64) 3 w' w.heap.size (fun k_ => some k_ ≠ ((.slice Ao19 x5_1.length co19) : Value).ownBlock ∧ some k_ ≠ ((.slice Ao28 t136.length co28) : Value).ownBlock) v128 x8_5) ∧ Aside0 (Kd.R (Kd.int .i64) 3 w' w.heap.size (fun k_ => some k_ ≠ ((.slice Ao19 x5_1.length co19) : Value).ownBlock ∧ some k_ ≠ (v128 : Value).ownBlock) (.slice Ao28 t136.length co28) t136) ∧ Aside0 (Below w.heap.size w w'))
                              case atStart => exact ⟨(x8_2), (0), (by first | rfl | (simp; done) | (simp [*]; done)), H', ⟨Nat.le_refl _⟩, ⟨by (with_reducible repeat (first | apply Kd.R_alloc | apply Kd.R_drewN | apply Kd.R_drew)); exact HO_5.out⟩, ⟨by (with_reducible repeat (first | apply Kd.R_alloc | apply Kd.R_drewN | apply Kd.R_drew)); exact HO_8.out⟩, ⟨by (with_reducible repeat (first | apply Kd.R_alloc | apply Kd.R_drewN | apply Kd.R_drew)); exact HO_13.out⟩, ⟨by repeat (first | (with_reducible first | exact HB.out | apply below_alloc | apply pw_below_drewN | apply below_drew1) | exact HB.out)⟩⟩
                              case round =>
                                clear H'
                                try clear c1
                                try clear c2
                                try clear p2
                                try clear c3
                                try clear c3b0
                                try clear c4
                                try clear p6
                                try clear c7
                                try clear c7b0
                                try clear c7b1
                                try clear c8
                                try clear c8b0
                                try clear c8b1
                                try clear c11
                                try clear c11b0
                                try clear c12
                                try clear c12b0
                                try clear c13
                                try clear c13b0
                                try clear c13b1
                                try clear c14
                                try clear c16
                                try clear c17
                                try clear c24
                                try clear c24b0
                                try clear c24b1
                                try clear c27
                                try clear p2
                                try clear p6
                                obtain ⟨x8_5, x84_5, rfl, HA, HK5, HO_5, HO_8, HO_82, HB⟩ := hrel
                                cases gk with
                                | zero => exact absurd HA.out (by simp [congoulaw03_SketchEqual.l3])
                                | succ k5 =>
                                  have H := HA.out
                                  clear HA
                                  simp only [congoulaw03_SketchEqual.l3] at H
                                  by_cases c29 : x84_5 < (t136.length : Int)
                                  · rw [if_pos c29] at H
                                    have c29b0 : decide (x84_5 < (t136.length : Int)) = true := decide_eq_true c29
                                    clear c29
                                    by_cases c30 : 0 ≤ x84_5
                                    · rw [if_pos c30] at H
                                      have c30b0 : decide (0 ≤ x84_5) = true := decide_eq_true c30
                                      clear c30
                                      by_cases c31 : x84_5 < (t136.length : Int)
                                      · rw [if_pos c31] at H
                                        have c31b0 : decide (x84_5 < (t136.length : Int)) = true := decide_eq_true c31
                                        clear c31
                                        by_cases c32 : (rd t136 x84_5) < 0
                                        · rw [if_pos c32] at H
                                          have c32b0 : decide ((rd t136 x84_5) < 0) = true := decide_eq_true c32
                                          clear c32
                                          obtain rfl := Option.some.inj H
                                          have p140 : 0 ≤ (x84_5 : Int) := of_decide_eq_true (by first | (with_reducible assumption) | assumption)
                                          have q140 : x84_5 < (t136.length : Int) := of_decide_eq_true (by first | (with_reducible assumption) | assumption)
                                          obtain ⟨ad140, e140, hx140_0⟩ := Kd.at_int (Kd.R_reads' HO_82.out).2.2 x84_5 p140 q140
                                          cases e140
                                          replace p140 := eq_true p140
                                          replace q140 := eq_true q140
                                          go_wp2
                                          go_ret
                                          exact ⟨by first | rfl | (simp [errW_none, errW_some] <;> rfl) | (simp only [← hji6]; first | rfl | (simp [errW_none, errW_some] <;> rfl)) | (simp [*, errW_none, errW_some] <;> rfl), by repeat (first | (with_reducible first | exact HB.out | apply below_alloc | apply pw_below_drewN | apply below_drew1) | exact HB.out)⟩
                                        · rw [if_neg c32] at H
                                          have c32b0 : decide ((rd t136 x84_5) < 0) = false := decide_eq_false c32
                                          clear c32
                                          by_cases c33 : (rd t136 x84_5) ≥ (ji6)
                                          · rw [if_pos c33] at H
                                            have c33b0 : decide ((ji6) ≤ (rd t136 x84_5)) = true := decide_eq_true c33
                                            clear c33
                                            obtain rfl := Option.some.inj H
                                            have p140 : 0 ≤ (x84_5 : Int) := of_decide_eq_true (by first | (with_reducible assumption) | assumption)
                                            have q140 : x84_5 < (t136.length : Int) := of_decide_eq_true (by first | (with_reducible assumption) | assumption)
                                            obtain ⟨ad140, e140, hx140_0⟩ := Kd.at_int (Kd.R_reads' HO_82.out).2.2 x84_5 p140 q140
                                            cases e140
                                            replace p140 := eq_true p140
                                            replace q140 := eq_true q140
                                            go_wp2
                                            go_ret
                                            exact ⟨by first | rfl | (simp [errW_none, errW_some] <;> rfl) | (simp only [← hji6]; first | rfl | (simp [errW_none, errW_some] <;> rfl)) | (simp [*, errW_none, errW_some] <;> rfl), by repeat (first | (with_reducible first | exact HB.out | apply below_alloc | apply pw_below_drewN | apply below_drew1) | exact HB.out)⟩
                                          · rw [if_neg c33] at H
                                            have c33b0 : decide ((ji6) ≤ (rd t136 x84_5)) = false := decide_eq_false c33
                                            clear c33
                                            by_cases c34 : 0 ≤ (rd t136 x84_5)
                                            · rw [if_pos c34] at H
                                              have c34b0 : decide (0 ≤ (rd t136 x84_5)) = true := decide_eq_true c34
                                              clear c34
                                              by_cases c35 : (rd t136 x84_5) < (x8_5.length : Int)
                                              · rw [if_pos c35] at H
                                                have c35b0 : decide ((rd t136 x84_5) < (x8_5.length : Int)) = true := decide_eq_true c35
                                                clear c35
                                                obtain ⟨y142, hy142⟩ : ∃ y_ : List Int, y_ = (x8_5.set ((rd t136 x84_5) : Int).toNat (wrap64 ((rd x8_5 (rd t136 x84_5)) + 1))) := ⟨_, rfl⟩
                                                replace H : (congoulaw03_SketchEqual.l3 k5 (wrap64 (1 + (wrap64 (Int.tmod (IntKind.u64.wrap (a0)) 8)))) (ji6) x5_1 x6_1 y142 x6_1 x44_2 t136 (t136.length : Int) (wrap64 (x84_5 + 1))) = some r := by first | (rw [hy142]; with_reducible exact H) | (have H2_ := (Option.bind_some _ _).symm.trans H; rw [hy142]; with_reducible exact H2_) | (have H2_ := (Option.bind_some _ _).symm.trans H; with_reducible exact H2_) | with_reducible exact H | (rw [hy142]; exact H) | exact H
                                                have Ny142 := Aside0.mk hy142
                                                clear hy142
                                                have H' := Aside0.mk H
                                                clear H
                                                have p140 : 0 ≤ (x84_5 : Int) := of_decide_eq_true (by first | (with_reducible assumption) | assumption)
                                                have q140 : x84_5 < (t136.length : Int) := of_decide_eq_true (by first | (with_reducible assumption) | assumption)
                                                obtain ⟨ad140, e140, hx140_0⟩ := Kd.at_int (Kd.R_reads' HO_82.out).2.2 x84_5 p140 q140
                                                cases e140
                                                replace p140 := eq_true p140
                                                replace q140 := eq_true q140
                                                obtain ⟨Ao37, co37, eo37⟩ := Kd.R_slice HO_8.out
                                                subst eo37
                                                have p141 : 0 ≤ ((rd t136 x84_5) : Int) := of_decide_eq_true (by first | (with_reducible assumption) | assumption)
                                                have q141 : (rd t136 x84_5) < (x8_5.length : Int) := of_decide_eq_true (by first | (with_reducible assumption) | assumption)
                                                obtain ⟨ad141, e141, hx141_0⟩ := Kd.at_int (Kd.R_reads' HO_8.out).2.2 (rd t136 x84_5) p141 q141
                                                cases e141
                                                replace p141 := eq_true p141
                                                replace q141 := eq_true q141
                                                have p36 : 0 ≤ ((rd t136 x84_5) : Int) := of_decide_eq_true (by first | (with_reducible assumption) | assumption)
                                                have q36 : ((rd t136 x84_5) : Int) < ((x8_5.length : Int) : Int) := of_decide_eq_true (by first | (with_reducible assumption) | assumption)
                                                obtain ⟨go36, co36, eo36, gb36, gl36, cl36, HG36⟩ := Kd.R_form HO_8.out (by omega)
                                                (first | cases eo36 | (injection eo36 with ea_ en_ ec_; (first | subst ea_ | (injection ea_ with ea_; subst ea_)); subst ec_; clear en_))
                                                have GB36 := Aside0.mk gb36
                                                have GG36 := Aside0.mk HG36
                                                clear gb36 gl36 HG36
                                                (first | simp only [add_plain] at hx141_0 | skip)
                                                obtain ⟨hx36_0, hf36_0⟩ := Kd.R_celln 0 HO_8.out ((rd t136 x84_5) : Int) p36 q36
                                                replace p36 := eq_true p36
                                                replace q36 := eq_true q36
                                                have HP38 := Kd.R_putg HO_8.out ((rd t136 x84_5) : Int) (wrap64 ((rd x8_5 (rd t136 x84_5)) + 1))
                                                go_wp2_with (first | ((with_reducible refine gate_store (t := 3) (p := 100) rfl ?_); refine store_event (t := 3) (p := 100) (v := ?vo_w39) (w1 := (wr.setCell ⟨go36, ((rd t136 x84_5) : Int).toNat, none⟩ (.int .i64 (wrap64 ((rd x8_5 (rd t136 x84_5)) + 1))))) ?hg ?ho ?hn ?hr ?_; (case ho => rfl); (case hg => rfl); (case hn => rfl); (case hr => first | (go_simp; done) | (go_simp; rfl)); intro w39 hw; have hg : wr.grownBy w39 (some go36) := (by rw [hw]; exact HP38.2); have hp_ : Kd.R (Kd.int .i64) 3 w39 w.heap.size (fun k_ => some k_ ≠ (.slice Ao19 x5_1.length co19 : Value).ownBlock ∧ some k_ ≠ (.slice (some ad140) t136.length co28 : Value).ownBlock) (.slice (some ⟨go36, 0, none⟩) x8_5.length co37) y142 := (by rw [hw, Ny142.out]; exact HP38.1); clear HP38; have n0_ := Aside0.mk (Kd.R_after (v := (.slice (some ⟨go36, 0, none⟩) x8_5.length co37)) (v1 := (.slice (some ⟨go36, 0, none⟩) x8_5.length co37)) (ok := (fun k_ => some k_ ≠ (.slice (some ad140) t136.length co28 : Value).ownBlock)) (by (with_reducible repeat (first | apply Kd.R_alloc | apply Kd.R_drewN | apply Kd.R_drew)); exact Kd.R_mono HO_5.out (fun _ hk => ⟨hk.2, hk.1⟩)) hg (.inl rfl)); have n1_ := Aside0.mk (hp_); have n2_ := Aside0.mk (Kd.R_after (v := (.slice (some ⟨go36, 0, none⟩) x8_5.length co37)) (v1 := (.slice (some ⟨go36, 0, none⟩) x8_5.length co37)) (ok := (fun k_ => some k_ ≠ (.slice Ao19 x5_1.length co19 : Value).ownBlock)) (by (with_reducible repeat (first | apply Kd.R_alloc | apply Kd.R_drewN | apply Kd.R_drew)); exact HO_82.out) hg (.inl rfl)); have n3_ := Aside0.mk ((by rw [hw]; exact below_set (HB.out) GB36.out : Below w.heap.size w w39)); clear HO_5; clear HO_8; clear HO_82; clear HB; have HO_5 := n0_; have HO_8 := n1_; have HO_82 := n2_; have HB := n3_; clear n0_ n1_ n2_ n3_; clear hg hw hp_))
                                                go_roundg k5
                                                case measure => have := HK1.out; have := HK2.out; have := HK3.out; have := HJ17.out; have := HK5.out; omega
                                                case rel => exact ⟨(y142), (wrap64 (x84_5 + 1)), (by first | rfl | (simp; done) | (simp [*]; done)), H', ⟨by have := HK1.out; have := HK2.out; have := HK3.out; have := HJ17.out; have := HK5.out; omega⟩, ⟨by (with_reducible repeat (first | apply Kd.R_alloc | apply Kd.R_drewN | apply Kd.R_drew)); exact Kd.R_mono HO_5.out (fun _ hk => ⟨hk.2, hk.1⟩)⟩, ⟨by (with_reducible repeat (first | apply Kd.R_alloc | apply Kd.R_drewN | apply Kd.R_drew)); exact HO_8.out⟩, ⟨by (with_reducible repeat (first | apply Kd.R_alloc | apply Kd.R_drewN | apply Kd.R_drew)); exact HO_82.out⟩, ⟨by repeat (first | (with_reducible first | exact HB.out | apply below_alloc | apply pw_below_drewN | apply below_drew1) | exact HB.out)⟩⟩
                                              · rw [if_neg c35] at H
                                                exact absurd H (by simp)
                                            · rw [if_neg c34] at H
                                              exact absurd H (by simp)
                                      · rw [if_neg c31] at H
                                        exact absurd H (by simp)
                                    · rw [if_neg c30] at H
                                      exact absurd H (by simp)
                                  · rw [if_neg c29] at H
                                    have c29b0 : decide (x84_5 < (t136.length : Int)) = false := decide_eq_false c29
                                    clear c29
                                    have H' := Aside0.mk H
                                    clear H
                                    go_wp2
                                    go_roundg k5
                                    case measure => have := HK1.out; have := HK2.out; have := HK3.out; have := HJ17.out; have := HK5.out; omega
                                    case rel => exact ⟨(x8_5), (wrap64 (x44_2 + 1)), (by first | rfl | (simp; done) | (simp [*]; done)), H', ⟨by have := HK1.out; have := HK2.out; have := HK3.out; have := HJ17.out; have := HK5.out; omega⟩, ⟨by (with_reducible repeat (first | apply Kd.R_alloc | apply Kd.R_drewN | apply Kd.R_drew)); exact Kd.R_mono HO_5.out (fun _ hk => hk.1)⟩, ⟨by (with_reducible repeat (first | apply Kd.R_alloc | apply Kd.R_drewN | apply Kd.R_drew)); exact Kd.R_mono HO_8.out (fun _ hk => hk.1)⟩, ⟨by repeat (first | (with_reducible first | exact HB.out | apply below_alloc | apply pw_below_drewN | apply below_drew1) | exact HB.out)⟩⟩
                · rw [if_neg c11] at H
                  have c11b0 : decide (x44_2 < x6_1) = false := decide_eq_false c11
                  clear c11
                  have H' := Aside0.mk H
                  clear H
                  obtain ⟨Ao40, co40, eo40⟩ := Kd.R_slice HO_8.out
                  subst eo40
                  go_wp2
                  go_loopg [105] k2 (fun kq v105 w' => ∃ (x105_3 : Int), v105 = .int .i64 x105_3 ∧ Aside0 (congoulaw03_SketchEqual.l4 kq (wrap64 (1 + (wrap64 (Int.tmod (IntKind.u64.wrap (a0)) 8)))) (ji6) x6_1 x8_2 (x8_2.length : Int) x105_3 = some r) ∧ Aside0 (kq ≤ k2) ∧ Aside0 (Kd.R (Kd.int .i64) 3 w' w.heap.size (fun _ => True) (.slice Ao40 x8_2.length co40) x8_2) ∧ Aside0 (Below w.heap.size w w'))
                  case atStart => exact ⟨(0), (by first | rfl | (simp; done) | (simp [*]; done)), H', ⟨Nat.le_refl _⟩, ⟨by (with_reducible repeat (first | apply Kd.R_alloc | apply Kd.R_drewN | apply Kd.R_drew)); exact Kd.R_mono HO_8.out (fun _ hk => trivial)⟩, ⟨by repeat (first | (with_reducible first | exact HB.out | apply below_alloc | apply pw_below_drewN | apply below_drew1) | exact HB.out)⟩⟩
                  case round =>
                    clear H'
                    try clear c1
                    try clear p1
                    try clear q1
                    try clear hx1
                    try clear c2
                    try clear p2
                    try clear c3
                    try clear c3b0
                    try clear p3
                    try clear q3
                    try clear hx3
                    try clear hf3
                    try clear c4
                    try clear p6
                    try clear c7
                    try clear c7b0
                    try clear c7b1
                    try clear c8
                    try clear c8b0
                    try clear c8b1
                    try clear c11
                    try clear c11b0
                    try clear c12
                    try clear c12b0
                    try clear c13
                    try clear c13b0
                    try clear c13b1
                    try clear c14
                    try clear p14
                    try clear q14
                    try clear hx14
                    try clear c16
                    try clear c17
                    try clear c24
                    try clear c24b0
                    try clear c24b1
                    try clear c27
                    try clear c29
                    try clear c29b0
                    try clear c30
                    try clear c30b0
                    try clear c31
                    try clear c31b0
                    try clear c32
                    try clear c32b0
                    try clear c33
                    try clear c33b0
                    try clear c34
                    try clear c34b0
                    try clear c35
                    try clear c35b0
                    try clear p36
                    try clear q36
                    try clear hx36
                    try clear hf36
                    try clear hx140_0
                    try clear hx141_0
                    try clear hx36_0
                    try clear p140
                    try clear p141
                    try clear p2
                    try clear p36
                    try clear p6
                    try clear q140
                    try clear q141
                    try clear q36
                    obtain ⟨x105_3, rfl, HA, HK3, HO_103, HB⟩ := hrel
                    cases gk with
                    | zero => exact absurd HA.out (by simp [congoulaw03_SketchEqual.l4])
                    | succ k3 =>
                      have H := HA.out
                      clear HA
                      simp only [congoulaw03_SketchEqual.l4] at H
                      by_cases c41 : x105_3 < (x8_2.length : Int)
                      · rw [if_pos c41] at H
                        have c41b0 : decide (x105_3 < (x8_2.length : Int)) = true := decide_eq_true c41
                        clear c41
                        by_cases c42 : 0 ≤ x105_3
                        · rw [if_pos c42] at H
                          have c42b0 : decide (0 ≤ x105_3) = true := decide_eq_true c42
                          clear c42
                          by_cases c43 : x105_3 < (x8_2.length : Int)
                          · rw [if_pos c43] at H
                            have c43b0 : decide (x105_3 < (x8_2.length : Int)) = true := decide_eq_true c43
                            clear c43
                            obtain ⟨ji44, hji44⟩ : ∃ j_ : Int, (mn (wrap64 (1 + (wrap64 (Int.tmod (IntKind.u64.wrap (a0)) 8)))) (ji6)) = j_ := ⟨_, rfl⟩
                            replace H : (if (wrap64 ((rd x8_2 x105_3) * (ji6))) = (wrap64 (x6_1 * (ji44))) then (congoulaw03_SketchEqual.l4 k3 (wrap64 (1 + (wrap64 (Int.tmod (IntKind.u64.wrap (a0)) 8)))) (ji6) x6_1 x8_2 (x8_2.length : Int) (wrap64 (x105_3 + 1))) else (some false)) = some r := by first | (rw [hji44] at H; exact H) | (simp only [hji44] at H ⊢; exact H)
                            have hji44_ : (if (ji6) < (wrap64 (1 + (wrap64 (Int.tmod (IntKind.u64.wrap (a0)) 8)))) then (ji6) else (wrap64 (1 + (wrap64 (Int.tmod (IntKind.u64.wrap (a0)) 8))))) = ji44 := hji44
                            by_cases c45 : (wrap64 ((rd x8_2 x105_3) * (ji6))) = (wrap64 (x6_1 * (ji44)))
                            · rw [if_pos c45] at H
                              have c45b0 : ((wrap64 ((rd x8_2 x105_3) * (ji6))) == (wrap64 (x6_1 * (ji44)))) = true := beq_iff_eq.mpr c45
                              have c45b1 : ((wrap64 ((rd x8_2 x105_3) * (ji6))) != (wrap64 (x6_1 * (ji44)))) = false := bne_eq_false_iff_eq.mpr c45
                              clear c45
                              have H' := Aside0.mk H
                              clear H
                              have p143 : 0 ≤ (x105_3 : Int) := of_decide_eq_true (by first | (with_reducible assumption) | assumption)
                              have q143 : x105_3 < (x8_2.length : Int) := of_decide_eq_true (by first | (with_reducible assumption) | assumption)
                              obtain ⟨ad143, e143, hx143_0⟩ := Kd.at_int (Kd.R_reads' HO_103.out).2.2 x105_3 p143 q143
                              cases e143
                              replace p143 := eq_true p143
                              replace q143 := eq_true q143
                              go_wp2
                              go_roundg k3
                              case measure => have := HK1.out; have := HK2.out; have := HK3.out; omega
                              case rel => exact ⟨(wrap64 (x105_3 + 1)), (by first | rfl | (simp; done) | (simp [*]; done)), H', ⟨by have := HK1.out; have := HK2.out; have := HK3.out; omega⟩, ⟨by (with_reducible repeat (first | apply Kd.R_alloc | apply Kd.R_drewN | apply Kd.R_drew)); exact HO_103.out⟩, ⟨by repeat (first | (with_reducible first | exact HB.out | apply below_alloc | apply pw_below_drewN | apply below_drew1) | exact HB.out)⟩⟩
                            · rw [if_neg c45] at H
                              have c45b0 : ((wrap64 ((rd x8_2 x105_3) * (ji6))) == (wrap64 (x6_1 * (ji44)))) = false := beq_eq_false_iff_ne.mpr c45
                              have c45b1 : ((wrap64 ((rd x8_2 x105_3) * (ji6))) != (wrap64 (x6_1 * (ji44)))) = true := bne_iff_ne.mpr c45
                              obtain rfl := Option.some.inj H
                              have p143 : 0 ≤ (x105_3 : Int) := of_decide_eq_true (by first | (with_reducible assumption) | assumption)
                              have q143 : x105_3 < (x8_2.length : Int) := of_decide_eq_true (by first | (with_reducible assumption) | assumption)
                              obtain ⟨ad143, e143, hx143_0⟩ := Kd.at_int (Kd.R_reads' HO_103.out).2.2 x105_3 p143 q143
                              cases e143
                              replace p143 := eq_true p143
                              replace q143 := eq_true q143
                              go_wp2
                              go_ret
                              exact ⟨by first | rfl | (simp [errW_none, errW_some] <;> rfl) | (simp only [← hji6, ← hji44]; first | rfl | (simp [errW_none, errW_some] <;> rfl)) | (simp [*, errW_none, errW_some] <;> rfl), by repeat (first | (with_reducible first | exact HB.out | apply below_alloc | apply pw_below_drewN | apply below_drew1) | exact HB.out)⟩
                          · rw [if_neg c43] at H
                            exact absurd H (by simp)
                        · rw [if_neg c42] at H
                          exact absurd H (by simp)
                      · rw [if_neg c41] at H
                        have c41b0 : decide (x105_3 < (x8_2.length : Int)) = false := decide_eq_false c41
                        clear c41
                        replace H := Option.bind_eq_some_iff.mp H
                        obtain ⟨t144, A460, H⟩ := H
                        replace H : (some t144) = some r := H
                        have A46 := Aside0.mk A460
                        clear A460
                        obtain rfl := Option.some.inj H
                        go_wp2_with (first | ((with_reducible refine gate_callee (f := 18) rfl ?_); refine goesL_ (some 119) rfl rfl Try.func18 (by kernel_rfl) rfl #[] rfl (by (try simp only [List.map_toArray, List.map_cons, List.map_nil]); first | done | rfl | (simp only [List.length_drop, List.length_take]; rfl)) ?_; (with_reducible refine (congoulaw03_awake.calls  t144 _ A46.out).mono ?_); rintro e w47 ⟨rfl, hb⟩; refine ⟨_, rfl, ?_⟩; have n0_ := Aside0.mk (Kd.R_below (by (with_reducible repeat (first | apply Kd.R_alloc | apply Kd.R_drewN | apply Kd.R_drew)); exact HO_103.out) hb); have n1_ := Aside0.mk (below_step (by repeat (first | (with_reducible first | exact HB.out | apply below_alloc | apply pw_below_drewN | apply below_drew1) | exact HB.out)) hb); clear HO_103; clear HB; have HO_103 := n0_; have HB := n1_; clear n0_ n1_; (try clear hb); (try clear hb2); (try clear hk); (try clear hi)))
                        go_ret
                        exact ⟨by first | rfl | (simp [errW_none, errW_some] <;> rfl) | (simp only [← hji6]; first | rfl | (simp [errW_none, errW_some] <;> rfl)) | (simp [*, errW_none, errW_some] <;> rfl), by repeat (first | (with_reducible first | exact HB.out | apply below_alloc | apply pw_below_drewN | apply below_drew1) | exact HB.out)⟩
          · rw [if_neg c8] at H
            exact absurd H (by simp)
        · rw [if_neg c7] at H
          exact absurd H (by simp)

/-- THE ONE PURE STATEMENT of congoulaw03_SketchEqual: yours. -/
def congoulaw03_SketchEqual.Pure : Prop := ∀ (a0 : Int) (a1 : Int), (Lit.int .i64 a0).wf = true → (Lit.int .i64 a1).wf = true → ∃ k, congoulaw03_SketchEqual.f k a0 a1 = some true
theorem congoulaw03_SketchEqual.walk (P : congoulaw03_SketchEqual.Pure) (a0 : Int) (a1 : Int) (w : World) (w0 : (Lit.int .i64 a0).wf = true) (w1 : (Lit.int .i64 a1).wf = true) :
    Calls Try.prog 3 #[.int .i64 a0, .int .i64 a1] w fun e w' => e = .returned (.bool true) ∧ Below w.heap.size w w' := by
  obtain ⟨k, h⟩ := P a0 a1 w0 w1
  refine (congoulaw03_SketchEqual.calls k a0 a1 true w h).mono ?_
  rintro e w' ⟨rfl, hd⟩
  exact ⟨rfl, hd⟩

end Go.Proofs.Ytdffhffhnjkcpaa.X
