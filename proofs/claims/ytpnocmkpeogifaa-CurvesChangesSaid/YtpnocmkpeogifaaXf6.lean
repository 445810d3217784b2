-- Written by a program of this work (wip/xprint.py, over the kit's printer) out of the translation.
import Derived.Test.YtpnocmkpeogifaaX0
import Derived.Test.YtpnocmkpeogifaaXG1a
import Derived.Test.YtpnocmkpeogifaaXG2a
import Derived.Test.YtpnocmkpeogifaaXG4a
import Derived.Test.YtpnocmkpeogifaaXf17
namespace Go.Proofs.Ytpnocmkpeogifaa.X
open Go.RowKit Go.Proofs.YtpnocmkpeogifaaW.PrintWords Go.Proofs.YtpnocmkpeogifaaW.PrintLast Go.Proofs.YtpnocmkpeogifaaW.PrintMore
attribute [local go_sem] max2_int min2_int max_two min_two max_three min_three max_four min_four   -- for this text's walks alone
set_option linter.unusedVariables false
set_option linter.unusedSimpArgs false

/-! ### congoulaw04_CurvesChanges: function 6 -/
def congoulaw04_CurvesChanges.l0 : Nat → List Int → Int → Int → List Int → Int → Int → Option (Bool)
 | 0, _, _, _, _, _, _ => none
 | k + 1, x0, x3, x4, x13, x14, x15 => if x15 < x14 then (if 0 ≤ x15 then (if x15 < (x13.length : Int) then (if (rd x13 x15) < (-50) then (if x3 = 0 then (if x4 = 2 then ((congoulaw04_awake.f k).bind fun t547 => (some t547)) else (some false)) else (some false)) else (if (rd x13 x15) > 50 then (if x3 = 0 then (if x4 = 2 then ((congoulaw04_awake.f k).bind fun t548 => (some t548)) else (some false)) else (some false)) else (congoulaw04_CurvesChanges.l0 k x0 x3 x4 x13 x14 (wrap64 (x15 + 1))))) else (none)) else (none)) else (if (x0.length : Int) > 20 then (if x3 = 0 then (if x4 = 2 then ((congoulaw04_awake.f k).bind fun t549 => (some t549)) else (some false)) else (some false)) else ((congouref04_Changes.f k x0).bind fun t550 => (if x3 = t550 then (if x4 = 0 then ((congoulaw04_awake.f k).bind fun t551 => (some t551)) else (some false)) else (some false))))
def congoulaw04_CurvesChanges.f (k : Nat) (l0 : List Int) : Option (Bool) := (congoulaw04_list.f l0).bind fun t541 => ((curves_Changes.f k t541).bind fun bt544 => (congoulaw04_CurvesChanges.l0 k l0 bt544.1 bt544.2 l0 (l0.length : Int) 0))
theorem congoulaw04_CurvesChanges.mono_l : ∀ k, (∀ y0 y1 y2 y3 y4 y5, LeO (congoulaw04_CurvesChanges.l0 k y0 y1 y2 y3 y4 y5) (congoulaw04_CurvesChanges.l0 (k + 1) y0 y1 y2 y3 y4 y5))
 | 0 => fun _ _ _ _ _ _ r h => by simp [congoulaw04_CurvesChanges.l0] at h
 | k + 1 => by
  have ih0 := congoulaw04_CurvesChanges.mono_l k
  ·intro y0 y1 y2 y3 y4 y5
   unfold congoulaw04_CurvesChanges.l0
   repeat' first
   | (with_reducible exact ih0 _ _ _ _ _ _)
   | (with_reducible exact congoulaw04_awake.mono _)
   | (with_reducible exact congouref04_Changes.mono _ _)
   | (with_reducible exact curves_Changes.mono _ _)
   | (with_reducible exact LeO.refl _)
   | (with_reducible exact LeO.none _)
   | (with_reducible refine LeO.ite ?_ ?_)
   | (with_reducible refine LeO.bind ?_ (fun _ => ?_))
   | exact ih0 _ _ _ _ _ _
   | exact congoulaw04_awake.mono _
   | exact congouref04_Changes.mono _ _
   | exact curves_Changes.mono _ _
   | exact LeO.none _
   | refine LeO.ite ?_ ?_
   | refine LeO.bind ?_ (fun _ => ?_)
theorem congoulaw04_CurvesChanges.mono : ∀ a0 k, LeO (congoulaw04_CurvesChanges.f k a0) (congoulaw04_CurvesChanges.f (k + 1) a0) := by
 intro a0 k
 have ih0 := congoulaw04_CurvesChanges.mono_l k
 unfold congoulaw04_CurvesChanges.f
 repeat' first
   | (with_reducible exact ih0 _ _ _ _ _ _)
   | (with_reducible exact congoulaw04_awake.mono _)
   | (with_reducible exact congouref04_Changes.mono _ _)
   | (with_reducible exact curves_Changes.mono _ _)
   | (with_reducible exact LeO.refl _)
   | (with_reducible exact LeO.none _)
   | (with_reducible refine LeO.ite ?_ ?_)
   | (with_reducible refine LeO.bind ?_ (fun _ => ?_))
   | exact ih0 _ _ _ _ _ _
   | exact congoulaw04_awake.mono _
   | exact congouref04_Changes.mono _ _
   | exact curves_Changes.mono _ _
   | exact LeO.none _
   | refine LeO.ite ?_ ?_
   | refine LeO.bind ?_ (fun _ => ?_)
set_option maxHeartbeats 8000000 in
set_option maxRecDepth 100000 in
theorem congoulaw04_CurvesChanges.calls (k : Nat) (A0 : Option Addr) (c0 : Nat) (l0 : List Int) (r : Bool) (w : World) (hr0 : Kd.C (Kd.int .i64) w A0 l0.length l0) (hc0 : l0.length ≤ c0) (hrt : r = true) (h : congoulaw04_CurvesChanges.f k l0 = some r) :
  Calls Try.prog 6 #[.slice A0 l0.length c0] w fun e w' => e = .returned (.bool r) ∧ Below w.heap.size w w' := by
 have HR0 := Aside0.mk hr0
 have HC0 := Aside0.mk hc0
 clear hr0 hc0
 have HB := Aside0.mk (Below.refl w.heap.size w)
 have H : ((congoulaw04_list.f l0).bind fun t541 => ((curves_Changes.f k t541).bind fun bt544 => (congoulaw04_CurvesChanges.l0 k l0 bt544.1 bt544.2 l0 (l0.length : Int) 0))) = some r := h
 clear h
 have HRT := Aside0.mk hrt
 clear hrt
 replace H := Option.bind_eq_some_iff.mp H
 obtain ⟨t541, A20, H⟩ := H
 replace H : ((curves_Changes.f k t541).bind fun bt544 => (congoulaw04_CurvesChanges.l0 k l0 bt544.1 bt544.2 l0 (l0.length : Int) 0)) = some r := H
 have A2 := Aside0.mk A20
 clear A20
 replace H := Option.bind_eq_some_iff.mp H
 obtain ⟨⟨t544, t545⟩, A30, H⟩ := H
 replace H : (congoulaw04_CurvesChanges.l0 k l0 t544 t545 l0 (l0.length : Int) 0) = some r := H
 have A3 := Aside0.mk A30
 clear A30
 have H' := Aside0.mk H
 clear H
 go_enter Try.func6, Try.ntmps6
 go_wp2_with (first | ((with_reducible refine gate_callee (f := 21) rfl ?_); refine goesL_ (some 9) rfl rfl Try.func21 (by kernel_rfl) rfl #[.slice A0 l0.length c0] rfl (by (try simp only [List.map_toArray, List.map_cons, List.map_nil]); first | done | rfl | (simp only [List.length_drop, List.length_take]; rfl)) ?_; (with_reducible refine (congoulaw04_list.calls _ _ l0 t541 _ ?side1 ?side2 A2.out).mono ?_); (case side1 => repeat (first | exact HR0.out | (with_reducible refine Kd.C_alloc ?_ _) | (with_reducible refine Kd.C_drewN ?_ _) | (with_reducible refine Kd.C_drew ?_))); (case side2 => exact HC0.out); rintro e w4 ⟨v542, rfl, ho0, hb⟩; refine ⟨_, rfl, ?_⟩; have HO543 := Aside0.mk (Kd.R_lower ho0 (below_size (hbC _))); replace HB := kH _ hb; (try clear hb); (try clear hb2); (try clear hk); (try clear hi); (try clear ho0); obtain ⟨Ao5, co5, eo5⟩ := Kd.R_slice HO543.out; subst eo5) | ((with_reducible refine gate_callee (f := 26) rfl ?_); refine goesL_ (some 10) rfl rfl Try.func26 (by kernel_rfl) rfl #[.slice Ao5 t541.length co5] rfl (by (try simp only [List.map_toArray, List.map_cons, List.map_nil]); first | done | rfl | (simp only [List.length_drop, List.length_take]; rfl)) ?_; (with_reducible refine (curves_Changes.calls k _ _ t541 t544 t545 _ ?side1 ?side2 A3.out).mono ?_); (case side1 => exact kD (Kd.R_reads' HO543.out).2.2); (case side2 => exact (Kd.R_reads' HO543.out).2.1); rintro e w' ⟨rfl, ⟨nd, rfl⟩⟩; refine ⟨_, rfl, ?_⟩))
 go_loopg [15] k (fun kq v15 w' => ∃ (x15_1 : Int), v15 = .int .i64 x15_1 ∧ Aside0 (congoulaw04_CurvesChanges.l0 kq l0 t544 t545 l0 (l0.length : Int) x15_1 = some r) ∧ Aside0 (kq ≤ k) ∧ Aside0 (Below w.heap.size w w'))
 case atStart => exact ⟨(0), (by first | rfl | (simp; done) | (simp [*]; done)), H', ⟨Nat.le_refl _⟩, ⟨hbC _⟩⟩
 case round =>
  clear H'
  try clear c2
  try clear p2
  obtain ⟨x15_1, rfl, HA, HK1, HB⟩ := hrel
  cases gk with
  | zero => exact absurd HA.out (by simp [congoulaw04_CurvesChanges.l0])
  | succ k1 =>
   have H := HA.out
   clear HA
   simp only [congoulaw04_CurvesChanges.l0] at H
   by_cases c6 : x15_1 < (l0.length : Int)
   ·rw [if_pos c6] at H
    have c6b0 : decide (x15_1 < (l0.length : Int)) = true := decide_eq_true c6
    clear c6
    by_cases c7 : 0 ≤ x15_1
    ·rw [if_pos c7] at H
     have c7b0 : decide (0 ≤ x15_1) = true := decide_eq_true c7
     clear c7
     by_cases c8 : x15_1 < (l0.length : Int)
     ·rw [if_pos c8] at H
      have c8b0 : decide (x15_1 < (l0.length : Int)) = true := decide_eq_true c8
      clear c8
      by_cases c9 : (rd l0 x15_1) < (-50)
      ·rw [if_pos c9] at H
       have c9b0 : decide ((rd l0 x15_1) < (-50)) = true := decide_eq_true c9
       clear c9
       by_cases c10 : t544 = 0
       ·rw [if_pos c10] at H
        have c10b0 : (t544 == 0) = true := beq_iff_eq.mpr c10
        have c10b1 : (t544 != 0) = false := bne_eq_false_iff_eq.mpr c10
        clear c10
        by_cases c11 : t545 = 2
        ·rw [if_pos c11] at H
         have c11b0 : (t545 == 2) = true := beq_iff_eq.mpr c11
         have c11b1 : (t545 != 2) = false := bne_eq_false_iff_eq.mpr c11
         clear c11
         replace H := Option.bind_eq_some_iff.mp H
         obtain ⟨t547, A120, H⟩ := H
         replace H : (some t547) = some r := H
         have A12 := Aside0.mk A120
         clear A120
         obtain rfl := Option.some.inj H
         have p546 : 0 ≤ (x15_1 : Int) := dA
         have q546 : x15_1 < (l0.length : Int) := dA
         obtain ⟨ad546, e546, hx546_0⟩ := Kd.at_int HR0.out x15_1 p546 q546
         cases e546
         try replace hx546_0 := (HB.out.cell (World.block_lt_of_cell? w _ hx546_0)).trans hx546_0
         replace p546 := eq_true p546
         replace q546 := eq_true q546
         go_wp2_with (first | (go_at_call 17; (with_reducible refine (congoulaw04_awake.calls k1  t547 _ A12.out).mono ?_); rintro e w13 ⟨rfl, hb⟩; replace HB := kH _ hb; (try clear hb); (try clear hb2); (try clear hk); (try clear hi)))
         go_ret
         exact ⟨by first | rfl | (simp [errW_none, errW_some] <;> rfl) | (simp [*, errW_none, errW_some] <;> rfl), hbC _⟩
        ·rw [if_neg c11] at H
         have c11b0 : (t545 == 2) = false := beq_eq_false_iff_ne.mpr c11
         have c11b1 : (t545 != 2) = true := bne_iff_ne.mpr c11
         exact absurd (H.trans (congrArg some HRT.out)) (by simp)
       ·rw [if_neg c10] at H
        have c10b0 : (t544 == 0) = false := beq_eq_false_iff_ne.mpr c10
        have c10b1 : (t544 != 0) = true := bne_iff_ne.mpr c10
        exact absurd (H.trans (congrArg some HRT.out)) (by simp)
      ·rw [if_neg c9] at H
       have c9b0 : decide ((rd l0 x15_1) < (-50)) = false := decide_eq_false c9
       clear c9
       by_cases c14 : (rd l0 x15_1) > 50
       ·rw [if_pos c14] at H
        have c14b0 : decide (50 < (rd l0 x15_1)) = true := decide_eq_true c14
        clear c14
        by_cases c15 : t544 = 0
        ·rw [if_pos c15] at H
         have c15b0 : (t544 == 0) = true := beq_iff_eq.mpr c15
         have c15b1 : (t544 != 0) = false := bne_eq_false_iff_eq.mpr c15
         clear c15
         by_cases c16 : t545 = 2
         ·rw [if_pos c16] at H
          have c16b0 : (t545 == 2) = true := beq_iff_eq.mpr c16
          have c16b1 : (t545 != 2) = false := bne_eq_false_iff_eq.mpr c16
          clear c16
          replace H := Option.bind_eq_some_iff.mp H
          obtain ⟨t548, A170, H⟩ := H
          replace H : (some t548) = some r := H
          have A17 := Aside0.mk A170
          clear A170
          obtain rfl := Option.some.inj H
          have p546 : 0 ≤ (x15_1 : Int) := dA
          have q546 : x15_1 < (l0.length : Int) := dA
          obtain ⟨ad546, e546, hx546_0⟩ := Kd.at_int HR0.out x15_1 p546 q546
          cases e546
          try replace hx546_0 := (HB.out.cell (World.block_lt_of_cell? w _ hx546_0)).trans hx546_0
          replace p546 := eq_true p546
          replace q546 := eq_true q546
          go_wp2_with (first | (go_at_call 17; (with_reducible refine (congoulaw04_awake.calls k1  t548 _ A17.out).mono ?_); rintro e w18 ⟨rfl, hb⟩; replace HB := kH _ hb; (try clear hb); (try clear hb2); (try clear hk); (try clear hi)))
          go_ret
          exact ⟨by first | rfl | (simp [errW_none, errW_some] <;> rfl) | (simp [*, errW_none, errW_some] <;> rfl), hbC _⟩
         ·rw [if_neg c16] at H
          have c16b0 : (t545 == 2) = false := beq_eq_false_iff_ne.mpr c16
          have c16b1 : (t545 != 2) = true := bne_iff_ne.mpr c16
          exact absurd (H.trans (congrArg some HRT.out)) (by simp)
        ·rw [if_neg c15] at H
         have c15b0 : (t544 == 0) = false := beq_eq_false_iff_ne.mpr c15
         have c15b1 : (t544 != 0) = true := bne_iff_ne.mpr c15
         exact absurd (H.trans (congrArg some HRT.out)) (by simp)
       ·rw [if_neg c14] at H
        have c14b0 : decide (50 < (rd l0 x15_1)) = false := decide_eq_false c14
        clear c14
        have H' := Aside0.mk H
        clear H
        have p546 : 0 ≤ (x15_1 : Int) := dA
        have q546 : x15_1 < (l0.length : Int) := dA
        obtain ⟨ad546, e546, hx546_0⟩ := Kd.at_int HR0.out x15_1 p546 q546
        cases e546
        try replace hx546_0 := (HB.out.cell (World.block_lt_of_cell? w _ hx546_0)).trans hx546_0
        replace p546 := eq_true p546
        replace q546 := eq_true q546
        go_wp2
        go_roundg k1
        case measure => have := HK1.out; omega
        case rel => exact ⟨(wrap64 (x15_1 + 1)), (by first | rfl | (simp; done) | (simp [*]; done)), H', ⟨by have := HK1.out; omega⟩, ⟨hbC _⟩⟩
     ·rw [if_neg c8] at H
      exact absurd H (by simp)
    ·rw [if_neg c7] at H
     exact absurd H (by simp)
   ·rw [if_neg c6] at H
    have c6b0 : decide (x15_1 < (l0.length : Int)) = false := decide_eq_false c6
    clear c6
    by_cases c19 : (l0.length : Int) > 20
    ·rw [if_pos c19] at H
     have c19b0 : decide (20 < (l0.length : Int)) = true := decide_eq_true c19
     have c19b1 : decide (20 < l0.length) = true := decide_eq_true (by omega)
     clear c19
     by_cases c20 : t544 = 0
     ·rw [if_pos c20] at H
      have c20b0 : (t544 == 0) = true := beq_iff_eq.mpr c20
      have c20b1 : (t544 != 0) = false := bne_eq_false_iff_eq.mpr c20
      clear c20
      by_cases c21 : t545 = 2
      ·rw [if_pos c21] at H
       have c21b0 : (t545 == 2) = true := beq_iff_eq.mpr c21
       have c21b1 : (t545 != 2) = false := bne_eq_false_iff_eq.mpr c21
       clear c21
       replace H := Option.bind_eq_some_iff.mp H
       obtain ⟨t549, A220, H⟩ := H
       replace H : (some t549) = some r := H
       have A22 := Aside0.mk A220
       clear A220
       obtain rfl := Option.some.inj H
       go_wp2_with (first | (go_at_call 17; (with_reducible refine (congoulaw04_awake.calls k1  t549 _ A22.out).mono ?_); rintro e w23 ⟨rfl, hb⟩; replace HB := kH _ hb; (try clear hb); (try clear hb2); (try clear hk); (try clear hi)))
       go_ret
       exact ⟨by first | rfl | (simp [errW_none, errW_some] <;> rfl) | (simp [*, errW_none, errW_some] <;> rfl), hbC _⟩
      ·rw [if_neg c21] at H
       have c21b0 : (t545 == 2) = false := beq_eq_false_iff_ne.mpr c21
       have c21b1 : (t545 != 2) = true := bne_iff_ne.mpr c21
       exact absurd (H.trans (congrArg some HRT.out)) (by simp)
     ·rw [if_neg c20] at H
      have c20b0 : (t544 == 0) = false := beq_eq_false_iff_ne.mpr c20
      have c20b1 : (t544 != 0) = true := bne_iff_ne.mpr c20
      exact absurd (H.trans (congrArg some HRT.out)) (by simp)
    ·rw [if_neg c19] at H
     have c19b0 : decide (20 < (l0.length : Int)) = false := decide_eq_false c19
     have c19b1 : decide (20 < l0.length) = false := decide_eq_false (by omega)
     clear c19
     replace H := Option.bind_eq_some_iff.mp H
     obtain ⟨t550, A240, H⟩ := H
     replace H : (if t544 = t550 then (if t545 = 0 then ((congoulaw04_awake.f k1).bind fun t551 => (some t551)) else (some false)) else (some false)) = some r := H
     have A24 := Aside0.mk A240
     clear A240
     by_cases c25 : t544 = t550
     ·rw [if_pos c25] at H
      have c25b0 : (t544 == t550) = true := beq_iff_eq.mpr c25
      have c25b1 : (t544 != t550) = false := bne_eq_false_iff_eq.mpr c25
      clear c25
      by_cases c26 : t545 = 0
      ·rw [if_pos c26] at H
       have c26b0 : (t545 == 0) = true := beq_iff_eq.mpr c26
       have c26b1 : (t545 != 0) = false := bne_eq_false_iff_eq.mpr c26
       clear c26
       replace H := Option.bind_eq_some_iff.mp H
       obtain ⟨t551, A270, H⟩ := H
       replace H : (some t551) = some r := H
       have A27 := Aside0.mk A270
       clear A270
       obtain rfl := Option.some.inj H
       go_wp2_with (first | ((with_reducible refine gate_callee (f := 27) rfl ?_); refine goesL_ (some 49) rfl rfl Try.func27 (by kernel_rfl) rfl #[.slice A0 l0.length c0] rfl (by (try simp only [List.map_toArray, List.map_cons, List.map_nil]); first | done | rfl | (simp only [List.length_drop, List.length_take]; rfl)) ?_; (with_reducible refine (congouref04_Changes.calls k1 _ _ l0 t550 _ ?side1 ?side2 A24.out).mono ?_); (case side1 => exact kC HR0); (case side2 => exact HC0.out); rintro e w' ⟨rfl, ⟨nd, rfl⟩⟩; refine ⟨_, rfl, ?_⟩) | (go_at_call 17; (with_reducible refine (congoulaw04_awake.calls k1  t551 _ A27.out).mono ?_); rintro e w28 ⟨rfl, hb⟩; replace HB := kH _ hb; (try clear hb); (try clear hb2); (try clear hk); (try clear hi)))
       go_ret
       exact ⟨by first | rfl | (simp [errW_none, errW_some] <;> rfl) | (simp [*, errW_none, errW_some] <;> rfl), hbC _⟩
      ·rw [if_neg c26] at H
       have c26b0 : (t545 == 0) = false := beq_eq_false_iff_ne.mpr c26
       have c26b1 : (t545 != 0) = true := bne_iff_ne.mpr c26
       exact absurd (H.trans (congrArg some HRT.out)) (by simp)
     ·rw [if_neg c25] at H
      have c25b0 : (t544 == t550) = false := beq_eq_false_iff_ne.mpr c25
      have c25b1 : (t544 != t550) = true := bne_iff_ne.mpr c25
      exact absurd (H.trans (congrArg some HRT.out)) (by simp)

/-- THE ONE PURE STATEMENT of congoulaw04_CurvesChanges: yours. -/
def congoulaw04_CurvesChanges.Pure : Prop := ∀ (l0 : List Int), l0.length ≤ maxLen → l0.length * 8 ≤ 140737488351232 → (∀ x ∈ l0, (Lit.int .i64 x).wf = true) → ∃ k, congoulaw04_CurvesChanges.f k l0 = some true
theorem congoulaw04_CurvesChanges.walk (P : congoulaw04_CurvesChanges.Pure) (a0 : Option Addr) (len0 cap0 : Nat) (z0 : List Int) (w : World) (w0 : (a0 = none ∧ len0 = 0 ∧ cap0 = 0 ∧ z0 = []) ∨ ∃ x, a0 = some x ∧ len0 ≤ cap0 ∧ cap0 ≤ maxLen ∧ z0.length = cap0 ∧ (∀ i, i < z0.length → w.cell? (x.add i) = some (.int .i64 (z0.getD i 0))) ∧ ∀ n ∈ z0, (Lit.int .i64 n).wf = true) (y0 : len0 * 8 ≤ 140737488351232) :
  Calls Try.prog 6 #[.slice a0 len0 cap0] w fun e w' => e = .returned (.bool true) ∧ Below w.heap.size w w' := by
 obtain ⟨l0, rfl, hr0, hm0, hw0, hc0⟩ := ReadsInt.ofRowC w0
 obtain ⟨k, h⟩ := P l0 hm0 y0 hw0
 refine (congoulaw04_CurvesChanges.calls k _ _ l0 true w (Kd.C_of_reads (d := (0 : Int)) (h1 := fun _ => rfl) hr0) hc0 rfl h).mono ?_
 rintro e w' ⟨rfl, hd⟩
 exact ⟨rfl, hd⟩

end Go.Proofs.Ytpnocmkpeogifaa.X
