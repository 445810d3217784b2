-- Written by a program of this work (wip/xprint.py, over the kit's printer) out of the translation.
import Derived.Test.YtefmafbbnkkpjaaX0
import Derived.Test.YtefmafbbnkkpjaaXG1a
namespace Go.Proofs.Ytefmafbbnkkpjaa.X
open Go.RowKit Go.Proofs.YtefmafbbnkkpjaaW.PrintWords Go.Proofs.YtefmafbbnkkpjaaW.PrintLast Go.Proofs.YtefmafbbnkkpjaaW.PrintMore
attribute [local go_sem] max2_int min2_int max_two min_two max_three min_three max_four min_four   -- for this text's walks alone
set_option linter.unusedVariables false
set_option linter.unusedSimpArgs false

/-! ### shares_Power_1: function 65 -/
mutual
def shares_Power_1.l0 : Nat → Int → Int → List Int → List Int → Int → Int → List Int → Int → Int → Option (Int)
 | 0, _, _, _, _, _, _, _, _, _ => none
 | k + 1, x0, x1, x2, x3, x4, x8, x15, x16, x17 => if x17 < x16 then (if 0 ≤ x17 then (if x17 < (x15.length : Int) then (if (Go.bits .and .i64 (shr .i64 x1 x17) 1) = 0 then (if 0 ≤ x0 then (if x0 < (x2.length : Int) then ((shares_power.f k (rd x2 x0) (rd x15 x17)).bind fun t643 => ((shares_Power_1.f k (wrap64 (x0 + 1)) (Go.bits .or .i64 x1 (shl .i64 1 x17)) x2 x3 x4).bind fun t644 => (shares_Power_1.l0 k x0 x1 x2 x3 x4 (wrap64 (x8 + (wrap64 (t643 * t644)))) x15 x16 (wrap64 (x17 + 1))))) else (none)) else (none)) else (shares_Power_1.l0 k x0 x1 x2 x3 x4 x8 x15 x16 (wrap64 (x17 + 1)))) else (none)) else (none)) else (some x8)
def shares_Power_1.f : Nat → Int → Int → List Int → List Int → Int → Option (Int)
 | 0, _, _, _, _, _ => none
 | k + 1, a0, a1, l2, l3, a4 => if a0 = (l2.length : Int) then (some 1) else (shares_Power_1.l0 k a0 a1 l2 l3 a4 0 l3 (l3.length : Int) 0)
end
theorem shares_Power_1.mono_l : ∀ k, (∀ y0 y1 y2 y3 y4, LeO (shares_Power_1.f k y0 y1 y2 y3 y4) (shares_Power_1.f (k + 1) y0 y1 y2 y3 y4)) ∧ (∀ y0 y1 y2 y3 y4 y5 y6 y7 y8, LeO (shares_Power_1.l0 k y0 y1 y2 y3 y4 y5 y6 y7 y8) (shares_Power_1.l0 (k + 1) y0 y1 y2 y3 y4 y5 y6 y7 y8))
 | 0 => ⟨fun _ _ _ _ _ r h => by simp [shares_Power_1.f] at h, fun _ _ _ _ _ _ _ _ _ r h => by simp [shares_Power_1.l0] at h⟩
 | k + 1 => by
  obtain ⟨ih0, ih1⟩ := shares_Power_1.mono_l k
  refine ⟨?_, ?_⟩
  ·intro y0 y1 y2 y3 y4
   unfold shares_Power_1.f
   repeat' first
   | (with_reducible exact ih0 _ _ _ _ _)
   | (with_reducible exact ih1 _ _ _ _ _ _ _ _ _)
   | (with_reducible exact shares_power.mono _ _ _)
   | (with_reducible exact LeO.refl _)
   | (with_reducible exact LeO.none _)
   | (with_reducible refine LeO.ite ?_ ?_)
   | (with_reducible refine LeO.bind ?_ (fun _ => ?_))
   | exact ih0 _ _ _ _ _
   | exact ih1 _ _ _ _ _ _ _ _ _
   | exact shares_power.mono _ _ _
   | exact LeO.none _
   | refine LeO.ite ?_ ?_
   | refine LeO.bind ?_ (fun _ => ?_)
  ·intro y0 y1 y2 y3 y4 y5 y6 y7 y8
   unfold shares_Power_1.l0
   repeat' first
   | (with_reducible exact ih0 _ _ _ _ _)
   | (with_reducible exact ih1 _ _ _ _ _ _ _ _ _)
   | (with_reducible exact shares_power.mono _ _ _)
   | (with_reducible exact LeO.refl _)
   | (with_reducible exact LeO.none _)
   | (with_reducible refine LeO.ite ?_ ?_)
   | (with_reducible refine LeO.bind ?_ (fun _ => ?_))
   | exact ih0 _ _ _ _ _
   | exact ih1 _ _ _ _ _ _ _ _ _
   | exact shares_power.mono _ _ _
   | exact LeO.none _
   | refine LeO.ite ?_ ?_
   | refine LeO.bind ?_ (fun _ => ?_)
theorem shares_Power_1.mono : ∀ a0 a1 a2 a3 a4 k, LeO (shares_Power_1.f k a0 a1 a2 a3 a4) (shares_Power_1.f (k + 1) a0 a1 a2 a3 a4) := by
 intro a0 a1 a2 a3 a4 k
 obtain ⟨ih0, ih1⟩ := shares_Power_1.mono_l k
 exact ih0 a0 a1 a2 a3 a4
def shares_Power_1.T8 : Bool × List (List Nat × List Nat) := (true, [([], []), ([], []), ([], []), ([1, 2], [1, 2]), ([3], [3]), ([], []), ([4, 5], [4, 5]), ([], []), ([], []), ([8], [8]), ([], []), ([], []), ([11], [11]), ([10, 12], [10, 12]), ([7, 9, 13, 6], [7, 9, 13]), ([6, 14], [6, 14]), ([0, 15], [0, 15]), ([16, 14, 0, 1, 2, 3, 4, 5, 6, 7, 8, 9, 10, 11, 12, 13, 14, 15, 16], [0, 16])])
def shares_Power_1.B8 : List Nat := [0, 0, 0, 6, 14, 0, 62, 0, 0, 256, 0, 0, 2048, 7168, 16382, 32766, 65535, 131071]
theorem shares_Power_1.tab8 : rtab .any (opsOf Try.f65 8) = shares_Power_1.T8 := by kernel_rfl
theorem shares_Power_1.bits8 : waitsOk shares_Power_1.T8.2 shares_Power_1.B8 = true := by kernel_rfl
theorem shares_Power_1.goesV {P : Program} {ops : Array Oper} {Q : Exit → Act → World → Prop} {oi : Oper} {N : Option Tmp} {a : Act} {w : World} {K : Act → World → Prop} {f : FuncId} {fn : Func} {t : Operand} {ars : Array Operand} {ts : Array TypeId} {cap : Array Value} (hf : P.funcs[f]? = some fn) (hname : (fn.name == "runtime.NumGoroutine") = false) (hb : fn.body.isSome = true) (args0 args : Array Value)
  (hw : Region.wanted oi (yielded ops a.tmps) = true) (hN : oi.dst = N) (hop : oi.op = .call { callee := .value t, args := ars, argTypes := ts }) (hv : a.eval t = .func (.func f) #[] cap) (hcap : args0 ++ cap = args) (hargs : ars.map a.eval = args0)
  (h : Calls P f args w fun e w' => ∃ v, e = .returned v ∧ K (a.put N v) w') : if Region.wanted oi (yielded ops a.tmps) = true then Oper.wp P oi a w K Q else K (a.put N undef) w := by
 refine call_ f args hw hN ?_ h
 have he := enters_ hf hname hb args w
 unfold execOp
 simp [hop, resolve, Deferred.ofValue, invoke, hv, hargs, hcap, he]
set_option maxHeartbeats 8000000 in
set_option maxRecDepth 100000 in
theorem shares_Power_1.calls (k : Nat) : ∀ (a0 : Int) (a1 : Int) (A2 : Option Addr) (c2 : Nat) (l2 : List Int) (A3 : Option Addr) (c3 : Nat) (l3 : List Int) (a4 : Int) (Ba Bx Bs : Nat) (r : Int) (w : World) (hr2 : Kd.C (Kd.int .i64) w A2 l2.length l2) (hc2 : l2.length ≤ c2) (hr3 : Kd.C (Kd.int .i64) w A3 l3.length l3) (hc3 : l3.length ≤ c3) (hka : w.cell? ⟨Ba, 0, none⟩ = some (.slice A2 l2.length c2)) (hkx : w.cell? ⟨Bx, 0, none⟩ = some (.slice A3 l3.length c3)) (hks : w.cell? ⟨Bs, 0, none⟩ = some (.func (.func 65) #[] #[.pointer (some ⟨Ba, 0, none⟩), .pointer (some ⟨Bx, 0, none⟩), .pointer (some ⟨Bs, 0, none⟩)])) (h : shares_Power_1.f k a0 a1 l2 l3 a4 = some r),
  Calls Try.prog 65 #[.int .i64 a0, .int .i64 a1, .pointer (some ⟨Ba, 0, none⟩), .pointer (some ⟨Bx, 0, none⟩), .pointer (some ⟨Bs, 0, none⟩)] w fun e w' => e = .returned (.int .i64 r) ∧ Below w.heap.size w w' := by
 induction k using Nat.strongRecOn with
 | _ k ih =>
 intro a0 a1 A2 c2 l2 A3 c3 l3 a4 Ba Bx Bs r w hr2 hc2 hr3 hc3 hka hkx hks h
 cases k with
 | zero => exact absurd h (by simp [shares_Power_1.f])
 | succ k =>
 simp only [shares_Power_1.f] at h
 have HKA := Aside0.mk hka
 have HKX := Aside0.mk hkx
 have HKS := Aside0.mk hks
 clear hks
 have HR2 := Aside0.mk hr2
 have HC2 := Aside0.mk hc2
 clear hr2 hc2
 have HR3 := Aside0.mk hr3
 have HC3 := Aside0.mk hc3
 clear hr3 hc3
 have HB := ak (Below.refl w.heap.size w)
 have H : (if a0 = (l2.length : Int) then (some 1) else (shares_Power_1.l0 k a0 a1 l2 l3 a4 0 l3 (l3.length : Int) 0)) = some r := h
 clear h
 by_cases c6 : a0 = (l2.length : Int)
 ·rw [if_pos c6] at H
  have c6b0 : (a0 == (l2.length : Int)) = true := beq_iff_eq.mpr c6
  have c6b1 : (a0 != (l2.length : Int)) = false := bne_eq_false_iff_eq.mpr c6
  clear c6
  obtain rfl := Option.some.inj H
  go_enter Try.func65, Try.ntmps65
  go_wp2
  go_ret
  exact ⟨by first | rfl | (simp [errW_none, errW_some] <;> rfl) | (simp [*, errW_none, errW_some] <;> rfl), hbC _⟩
 rw [if_neg c6] at H
 have c6b0 : (a0 == (l2.length : Int)) = false := beq_eq_false_iff_ne.mpr c6
 have c6b1 : (a0 != (l2.length : Int)) = true := bne_iff_ne.mpr c6
 have H' := Aside0.mk H
 clear H
 go_enter Try.func65, Try.ntmps65
 go_wp2
 go_loopg [8, 17] k (fun kq v8 v17 w' => ∃ (x8_1 : Int) (x17_1 : Int), v8 = .int .i64 x8_1 ∧ v17 = .int .i64 x17_1 ∧ Aside0 (shares_Power_1.l0 kq a0 a1 l2 l3 a4 x8_1 l3 (l3.length : Int) x17_1 = some r) ∧ Aside0 (kq ≤ k) ∧ Aside0 (Below w.heap.size w w'))
 case atStart => exact ⟨(0), (0), (by first | rfl | (simp; done) | (simp [*]; done)), (by first | rfl | (simp; done) | (simp [*]; done)), H', ⟨Nat.le_refl _⟩, ⟨hbC _⟩⟩
 case round =>
  clear H'
  try clear c2
  try clear p2
  try clear c3
  try clear c6
  try clear c6b0
  try clear c6b1
  obtain ⟨x8_1, x17_1, rfl, rfl, HA, HK1, HB⟩ := hrel
  clear hka hkx
  cases gk with
  | zero => exact absurd HA.out (by simp [shares_Power_1.l0])
  | succ k1 =>
   have H := HA.out
   clear HA
   simp only [shares_Power_1.l0] at H
   by_cases c7 : x17_1 < (l3.length : Int)
   rotate_left
   ·rw [if_neg c7] at H
    have c7b0 : decide (x17_1 < (l3.length : Int)) = false := decide_eq_false c7
    clear c7
    obtain rfl := Option.some.inj H
    go_wp2
    go_ret
    exact ⟨by first | rfl | (simp [errW_none, errW_some] <;> rfl) | (simp [*, errW_none, errW_some] <;> rfl), hbC _⟩
   rw [if_pos c7] at H
   have c7b0 : decide (x17_1 < (l3.length : Int)) = true := decide_eq_true c7
   clear c7
   by_cases c8 : 0 ≤ x17_1
   rotate_left
   ·rw [if_neg c8] at H
    exact absurd H (by simp)
   rw [if_pos c8] at H
   have c8b0 : decide (0 ≤ x17_1) = true := decide_eq_true c8
   clear c8
   by_cases c9 : x17_1 < (l3.length : Int)
   rotate_left
   ·rw [if_neg c9] at H
    exact absurd H (by simp)
   rw [if_pos c9] at H
   have c9b0 : decide (x17_1 < (l3.length : Int)) = true := decide_eq_true c9
   clear c9
   have c10b0 := eq_true (dA : 0 ≤ x17_1)
   obtain ⟨ji11, hji11⟩ : ∃ j_ : Int, (shr .i64 a1 x17_1) = j_ := ⟨_, rfl⟩
   replace H : (if (Go.bits .and .i64 (ji11) 1) = 0 then (if 0 ≤ a0 then (if a0 < (l2.length : Int) then ((shares_power.f k1 (rd l2 a0) (rd l3 x17_1)).bind fun t643 => ((shares_Power_1.f k1 (wrap64 (a0 + 1)) (Go.bits .or .i64 a1 (shl .i64 1 x17_1)) l2 l3 a4).bind fun t644 => (shares_Power_1.l0 k1 a0 a1 l2 l3 a4 (wrap64 (x8_1 + (wrap64 (t643 * t644)))) l3 (l3.length : Int) (wrap64 (x17_1 + 1))))) else (none)) else (none)) else (shares_Power_1.l0 k1 a0 a1 l2 l3 a4 x8_1 l3 (l3.length : Int) (wrap64 (x17_1 + 1)))) = some r := by first | (rw [hji11] at H; exact H) | (simp only [hji11] at H ⊢; exact H)
   have hji11_ : (a1 / 2 ^ min x17_1.toNat 64) = ji11 := hji11
   have hji11z : x17_1 ≤ 64 → (a1 / 2 ^ x17_1.toNat) = ji11 := shr_small hji11
   by_cases c12 : (Go.bits .and .i64 (ji11) 1) = 0
   rotate_left
   ·rw [if_neg c12] at H
    have c12b0 : ((Go.bits .and .i64 (ji11) 1) == 0) = false := beq_eq_false_iff_ne.mpr c12
    have c12b1 : ((Go.bits .and .i64 (ji11) 1) != 0) = true := bne_iff_ne.mpr c12
    have H' := Aside0.mk H
    clear H
    have p641 : 0 ≤ (x17_1 : Int) := dA
    have q641 : x17_1 < (l3.length : Int) := dA
    obtain ⟨ad641, e641, hx641_0⟩ := Kd.at_int HR3.out x17_1 p641 q641
    cases e641
    try replace hx641_0 := (HB.out.cell (World.block_lt_of_cell? w _ hx641_0)).trans hx641_0
    replace p641 := eq_true p641
    replace q641 := eq_true q641
    go_wp2
    go_roundg k1
    case measure => have := HK1.out; omega
    case rel => exact ⟨(x8_1), (wrap64 (x17_1 + 1)), (by first | rfl | (simp; done) | (simp [*]; done)), (by first | rfl | (simp; done) | (simp [*]; done)), H', ⟨by have := HK1.out; omega⟩, ⟨hbC _⟩⟩
   rw [if_pos c12] at H
   have c12b0 : ((Go.bits .and .i64 (ji11) 1) == 0) = true := beq_iff_eq.mpr c12
   have c12b1 : ((Go.bits .and .i64 (ji11) 1) != 0) = false := bne_eq_false_iff_eq.mpr c12
   clear c12
   by_cases c13 : 0 ≤ a0
   rotate_left
   ·rw [if_neg c13] at H
    exact absurd H (by simp)
   rw [if_pos c13] at H
   have c13b0 : decide (0 ≤ a0) = true := decide_eq_true c13
   clear c13
   by_cases c14 : a0 < (l2.length : Int)
   rotate_left
   ·rw [if_neg c14] at H
    exact absurd H (by simp)
   rw [if_pos c14] at H
   have c14b0 : decide (a0 < (l2.length : Int)) = true := decide_eq_true c14
   clear c14
   replace H := Option.bind_eq_some_iff.mp H
   obtain ⟨t643, A150, H⟩ := H
   replace H : ((shares_Power_1.f k1 (wrap64 (a0 + 1)) (Go.bits .or .i64 a1 (shl .i64 1 x17_1)) l2 l3 a4).bind fun t644 => (shares_Power_1.l0 k1 a0 a1 l2 l3 a4 (wrap64 (x8_1 + (wrap64 (t643 * t644)))) l3 (l3.length : Int) (wrap64 (x17_1 + 1)))) = some r := H
   have A15 := Aside0.mk A150
   clear A150
   have c16b0 := eq_true (dA : 0 ≤ x17_1)
   obtain ⟨ji17, hji17⟩ : ∃ j_ : Int, (shl .i64 1 x17_1) = j_ := ⟨_, rfl⟩
   replace H : ((shares_Power_1.f k1 (wrap64 (a0 + 1)) (Go.bits .or .i64 a1 (ji17)) l2 l3 a4).bind fun t644 => (shares_Power_1.l0 k1 a0 a1 l2 l3 a4 (wrap64 (x8_1 + (wrap64 (t643 * t644)))) l3 (l3.length : Int) (wrap64 (x17_1 + 1)))) = some r := by first | (rw [hji17] at H; exact H) | (simp only [hji17] at H ⊢; exact H)
   (try rw [hji17] at A15)
   have hji17_ : (IntKind.i64.wrap (1 * 2 ^ min x17_1.toNat 64)) = ji17 := hji17
   have hji17z : x17_1 ≤ 64 → (IntKind.i64.wrap (1 * 2 ^ x17_1.toNat)) = ji17 := shl_small hji17
   have hji17u : (IntKind.i64.wrap (2 ^ min x17_1.toNat 64)) = ji17 := by have h_ := hji17_; rw [Int.one_mul] at h_; exact h_
   have hji17v : x17_1 ≤ 64 → (IntKind.i64.wrap (2 ^ x17_1.toNat)) = ji17 := fun hle_ => by have h_ := hji17z hle_; rw [Int.one_mul] at h_; exact h_
   have hji17y : (wrap64 (1 * 2 ^ min x17_1.toNat 64)) = ji17 := (i64_w _).symm.trans hji17_
   have hji17x : x17_1 ≤ 64 → (wrap64 (1 * 2 ^ x17_1.toNat)) = ji17 := fun h_ => (i64_w _).symm.trans (hji17z h_)
   replace H := Option.bind_eq_some_iff.mp H
   obtain ⟨t644, A180, H⟩ := H
   replace H : (shares_Power_1.l0 k1 a0 a1 l2 l3 a4 (wrap64 (x8_1 + (wrap64 (t643 * t644)))) l3 (l3.length : Int) (wrap64 (x17_1 + 1))) = some r := H
   have A18 := Aside0.mk A180
   clear A180
   have H' := Aside0.mk H
   clear H
   have p641 : 0 ≤ (x17_1 : Int) := dA
   have q641 : x17_1 < (l3.length : Int) := dA
   obtain ⟨ad641, e641, hx641_0⟩ := Kd.at_int HR3.out x17_1 p641 q641
   cases e641
   try replace hx641_0 := (HB.out.cell (World.block_lt_of_cell? w _ hx641_0)).trans hx641_0
   replace p641 := eq_true p641
   replace q641 := eq_true q641
   try go_wp2
   replace HB := ak (below_drew1 HB.out)
   have p642 : 0 ≤ (a0 : Int) := dA
   have q642 : a0 < (l2.length : Int) := dA
   obtain ⟨ad642, e642, hx642_0⟩ := Kd.at_int HR2.out a0 p642 q642
   have hw642_0 := hx642_0
   cases e642
   try replace hx642_0 := (HB.out.cell (World.block_lt_of_cell? w _ hx642_0)).trans hx642_0
   replace p642 := eq_true p642
   replace q642 := eq_true q642
   refine sS (n := 18) (S := fun w' => (w'.cell? ⟨Ba, 0, none⟩ = some (.slice (some ad642) l2.length c2) ∧ w'.cell? ⟨Bs, 0, none⟩ = some (.func (.func 65) #[] #[.pointer (some ⟨Ba, 0, none⟩), .pointer (some ⟨Bx, 0, none⟩), .pointer (some ⟨Bs, 0, none⟩)])) ∧ w'.cell? (ad642.add (a0).toNat) = some (.int .i64 (rd l2 a0))) (ds := []) ⟨⟨((HB.out.cell (World.block_lt_of_cell? w _ HKA.out)).trans HKA.out), ((HB.out.cell (World.block_lt_of_cell? w _ HKS.out)).trans HKS.out)⟩, ((HB.out.cell (World.block_lt_of_cell? w _ hw642_0)).trans hw642_0)⟩ (fun hHeld => ?_); refine with_tabW shares_Power_1.tab8 shares_Power_1.bits8 (fun HT_ HW_ => ?_)
   generalize wr.drew = w19 at HB hx642_0 hHeld ⊢
   refine pS 0 27 18 1 ?_
   refine take_ (i := 1) (N := some 28) (v := ?_) (a' := ?_) (ba 18 3) rfl rfl (take_ofW HT_.out HW_.out (by kernel_rfl)) (fun _ _ _ h => h) (Or.inl ⟨by rfl, ?_⟩) hHeld ?_ ?_
   rotate_left
   ·intro w' s0
    obtain ⟨⟨s1, s2⟩, s3⟩ := s0
    go_simp
    with_reducible rfl
   rotate_left
   ·simp only [Act.put, List.setIfInBounds_toArray, List.set_cons_zero, List.set_cons_succ, i64_w, i32_w]
    rfl
   refine pS 2 29 18 7 ?_
   refine pS 3 30 18 15 ?_
   refine pS 5 32 18 47 ?_
   refine take_ (i := 7) (N := some 34) (v := ?_) (a' := ?_) (ba 18 175) rfl rfl (take_ofW HT_.out HW_.out (by kernel_rfl)) (fun _ _ _ h => h) (Or.inl ⟨by rfl, ?_⟩) hHeld ?_ ?_
   rotate_left
   ·intro w' s0
    obtain ⟨⟨s1, s2⟩, s3⟩ := s0
    go_simp
    with_reducible rfl
   rotate_left
   ·simp only [Act.put, List.setIfInBounds_toArray, List.set_cons_zero, List.set_cons_succ, i64_w, i32_w]
    rfl
   refine pS 8 35 18 431 ?_
   refine pS 9 36 18 943 ?_
   refine pS 10 37 18 1967 ?_
   refine pS 11 38 18 4015 ?_
   refine pS 12 39 18 8111 ?_
   refine pS 13 40 18 16303 ?_
   refine take_ (i := 4) (N := some 31) (v := ?_) (a' := ?_) (ba 18 16319) rfl rfl (take_ofW HT_.out HW_.out (by kernel_rfl)) (fun _ _ _ h => h) (Or.inl ⟨by rfl, ?_⟩) hHeld ?_ ?_
   rotate_left
   ·intro w' s0
    obtain ⟨⟨s1, s2⟩, s3⟩ := s0
    go_simp
    with_reducible rfl
   rotate_left
   ·simp only [Act.put, List.setIfInBounds_toArray, List.set_cons_zero, List.set_cons_succ, i64_w, i32_w]
    rfl
   refine one_ (i := 6) (N := some 33) (ba 18 16383) rfl rfl (one_of HT_.out (by kernel_rfl)) (by decide) (fun K hK => ?_)
   refine gC Try.func66 #[.int .i64 (rd l2 a0), .int .i64 (rd l3 x17_1)] ?_
   with_reducible refine (shares_power.calls k1 (rd l2 a0) (rd l3 x17_1) t643 _ A15.out).mono ?_
   rintro e w' ⟨rfl, ⟨nd, rfl⟩⟩
   refine ⟨_, rfl, ?_⟩
   refine hK.out _ _ ⟨⟨((HB.out.cell (World.block_lt_of_cell? w _ HKA.out)).trans HKA.out), ((HB.out.cell (World.block_lt_of_cell? w _ HKS.out)).trans HKS.out)⟩, ((HB.out.cell (World.block_lt_of_cell? w _ hw642_0)).trans hw642_0)⟩ (fun hHeld => ?_)
   clear hK K
   refine norm_ (a' := ?_) ?_ ?_
   rotate_left
   ·show Act.put _ (some 33) _ = _
    simp only [Act.put, List.setIfInBounds_toArray, List.set_cons_zero, List.set_cons_succ, i64_w, i32_w]
    rfl
   refine one_ (i := 14) (N := some 41) (ba 18 32767) rfl rfl (one_of HT_.out (by kernel_rfl)) (by decide) (fun K hK => ?_)
   refine shares_Power_1.goesV Try.func65 (by kernel_rfl) rfl #[.int .i64 (wrap64 (a0 + 1)), .int .i64 (Go.bits .or .i64 a1 (ji17))] #[.int .i64 (wrap64 (a0 + 1)), .int .i64 (Go.bits .or .i64 a1 (ji17)), .pointer (some ⟨Ba, 0, none⟩), .pointer (some ⟨Bx, 0, none⟩), .pointer (some ⟨Bs, 0, none⟩)] (by rfl) rfl rfl (by rfl) rfl (by (try simp only [List.map_toArray, List.map_cons, List.map_nil]); first | done | (simp only [hji17]; rfl) | rfl | (simp only [List.length_drop, List.length_take]; rfl)) ?_
   with_reducible refine (ih k1 (by have := HK1.out; omega) (wrap64 (a0 + 1)) (Go.bits .or .i64 a1 (ji17)) (some ad642) c2 l2 (some ad641) c3 l3 a4 Ba Bx Bs t644 _ ?side1 ?side2 ?side3 ?side4 ?side5 ?side6 ?side7 A18.out).mono ?_
   (case side1 => repeat (first | exact (Kd.C_below HR2.out (hbC _)) | (with_reducible refine Kd.C_alloc ?_ _) | (with_reducible refine Kd.C_drewN ?_ _) | (with_reducible refine Kd.C_drew ?_)))
   (case side2 => exact HC2.out)
   (case side3 => repeat (first | exact (Kd.C_below HR3.out (hbC _)) | (with_reducible refine Kd.C_alloc ?_ _) | (with_reducible refine Kd.C_drewN ?_ _) | (with_reducible refine Kd.C_drew ?_)))
   (case side4 => exact HC3.out)
   (case side5 => exact ((HB.out.cell (World.block_lt_of_cell? w _ HKA.out)).trans HKA.out))
   (case side6 => exact ((HB.out.cell (World.block_lt_of_cell? w _ HKX.out)).trans HKX.out))
   (case side7 => exact ((HB.out.cell (World.block_lt_of_cell? w _ HKS.out)).trans HKS.out))
   rintro e w20 ⟨rfl, hb⟩
   refine ⟨_, rfl, ?_⟩
   replace HB := kH _ hb
   (try clear hb)
   (try clear hb2)
   (try clear hk)
   (try clear hi)
   refine hK.out _ _ ⟨⟨((HB.out.cell (World.block_lt_of_cell? w _ HKA.out)).trans HKA.out), ((HB.out.cell (World.block_lt_of_cell? w _ HKS.out)).trans HKS.out)⟩, ((HB.out.cell (World.block_lt_of_cell? w _ hw642_0)).trans hw642_0)⟩ (fun hHeld => ?_)
   clear hK K
   refine norm_ (a' := ?_) ?_ ?_
   rotate_left
   ·show Act.put _ (some 41) _ = _
    simp only [Act.put, List.setIfInBounds_toArray, List.set_cons_zero, List.set_cons_succ, i64_w, i32_w]
    rfl
   refine pS 15 42 18 65535 ?_
   refine pS 16 43 18 131071 ?_
   refine pS 17 8 18 262143 ?_
   refine done_ (done_of HT_.out (by kernel_rfl)) ?_
   try go_wp2
   go_roundg k1
   case measure => have := HK1.out; omega
   case rel => exact ⟨(wrap64 (x8_1 + (wrap64 (t643 * t644)))), (wrap64 (x17_1 + 1)), (by first | rfl | (simp; done) | (simp [*]; done)), (by first | rfl | (simp; done) | (simp [*]; done)), H', ⟨by have := HK1.out; omega⟩, ⟨hbC _⟩⟩

end Go.Proofs.Ytefmafbbnkkpjaa.X
