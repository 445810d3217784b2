-- Written by a program of this work (wip/xprint.py, over the kit's printer) out of the translation.
import Derived.Test.YtkieehjpnjplmaaDoorX0
import Derived.Test.YtkieehjpnjplmaaDoorE47
import Derived.Test.YtkieehjpnjplmaaDoorEG
namespace Go.Proofs.YtkieehjpnjplmaaDoor.X
open Go.RowKit Go.Proofs.YtkieehjpnjplmaaDoorW.PrintWords Go.Proofs.YtkieehjpnjplmaaDoorW.PrintLast Go.Proofs.YtkieehjpnjplmaaDoorW.PrintMore
attribute [local go_sem] max2_int min2_int max_two min_two max_three min_three max_four min_four   -- for this text's walks alone
set_option linter.unusedVariables false
set_option linter.unusedSimpArgs false

/-! ### squares_blocks: function 31 -/
def squares_blocks.l0 : Nat → List Int → Int → Option (List Int)
 | 0, _, _ => none
 | k + 1, x3, x4 => if x4 = 0 then (some x3) else ((xTz.f x4).bind fun t107 => (if 0 ≤ t107 then ((xTz.f (Go.bits .xor .u64 18446744073709551615 (shr .u64 x4 t107))).bind fun t108 => (if x3.length < 17592186044416 then (if 0 ≤ t108 then (squares_blocks.l0 k (x3 ++ [t108]) (shr .u64 (shr .u64 x4 t107) t108)) else (none)) else (none))) else (none)))
def squares_blocks.f (k : Nat) (a0 : Int) : Option (List Int) := squares_blocks.l0 k ([] : List Int) (IntKind.u64.wrap (a0))
theorem squares_blocks.mono_l : ∀ k, (∀ y0 y1, LeO (squares_blocks.l0 k y0 y1) (squares_blocks.l0 (k + 1) y0 y1))
 | 0 => fun _ _ r h => by simp [squares_blocks.l0] at h
 | k + 1 => by
  have ih0 := squares_blocks.mono_l k
  ·intro y0 y1
   unfold squares_blocks.l0
   repeat' first
   | (with_reducible exact ih0 _ _)
   | (with_reducible exact LeO.refl _)
   | (with_reducible exact LeO.none _)
   | (with_reducible refine LeO.ite ?_ ?_)
   | (with_reducible refine LeO.bind ?_ (fun _ => ?_))
   | exact ih0 _ _
   | exact LeO.none _
   | refine LeO.ite ?_ ?_
   | refine LeO.bind ?_ (fun _ => ?_)
theorem squares_blocks.mono : ∀ a0 k, LeO (squares_blocks.f k a0) (squares_blocks.f (k + 1) a0) := by
 intro a0 k
 have ih0 := squares_blocks.mono_l k
 unfold squares_blocks.f
 repeat' first
   | (with_reducible exact ih0 _ _)
   | (with_reducible exact LeO.refl _)
   | (with_reducible exact LeO.none _)
   | (with_reducible refine LeO.ite ?_ ?_)
   | (with_reducible refine LeO.bind ?_ (fun _ => ?_))
   | exact ih0 _ _
   | exact LeO.none _
   | refine LeO.ite ?_ ?_
   | refine LeO.bind ?_ (fun _ => ?_)
set_option maxHeartbeats 8000000 in
set_option maxRecDepth 100000 in
theorem squares_blocks.calls (k : Nat) (a0 : Int) (r : List Int) (w : World) (h : squares_blocks.f k a0 = some r) (hG0 : GL w := by exact GL.to HG.out (hbC _)) :
  Calls Tryd.prog 31 #[.int .i64 a0] w fun e w' => ∃ v0_ : Value, e = .returned (v0_) ∧ Kd.R (Kd.int .i64) 3 w' w.heap.size (fun _ => True) v0_ r ∧ Below w.heap.size w w' := by
 have HG := Aside0.mk hG0
 clear hG0
 have HB := ak (Below.refl w.heap.size w)
 have H : (squares_blocks.l0 k ([] : List Int) (IntKind.u64.wrap (a0))) = some r := h
 clear h
 have H' := Aside0.mk H
 clear H
 go_enter Tryd.func31, Tryd.ntmps31
 go_wp2
 go_loopg [3, 4] k (fun kq v3 v4 w' => ∃ (x3_1 : List Int) (x4_1 : Int), v4 = .int .u64 x4_1 ∧ Aside0 (squares_blocks.l0 kq x3_1 x4_1 = some r) ∧ Aside0 (kq ≤ k) ∧ Aside0 (Kd.R (Kd.int .i64) 3 w' w.heap.size (fun _ => True) v3 x3_1) ∧ Aside0 (Below w.heap.size w w'))
 case atStart => exact ⟨(([] : List Int)), (IntKind.u64.wrap (a0)), (by first | rfl | (simp; done) | (simp [*]; done)), H', ⟨Nat.le_refl _⟩, ⟨by first | exact Kd.R_nil _ _ _ _ _ | exact Kd.N_nil _ _ _ _ _ | exact Kd.V_nil _ _ _ _ _ | exact Kd.Q_nil _ _ _ _ _ | exact Kd.S_nil _ _ _ _ _⟩, ⟨hbC _⟩⟩
 case round =>
  clear H'
  obtain ⟨x3_1, x4_1, rfl, HA, HK1, HO_3, HB⟩ := hrel
  cases gk with
  | zero => exact absurd HA.out (by simp [squares_blocks.l0])
  | succ k1 =>
   have H := HA.out
   clear HA
   simp only [squares_blocks.l0] at H
   by_cases c2 : x4_1 = 0
   ·rw [if_pos c2] at H
    have c2b0 : (x4_1 == 0) = true := beq_iff_eq.mpr c2
    have c2b1 : (x4_1 != 0) = false := bne_eq_false_iff_eq.mpr c2
    clear c2
    obtain rfl := Option.some.inj H
    go_wp2
    go_ret
    exact ⟨_, by first | rfl | (simp [errW_none, errW_some] <;> rfl) | (simp [*, errW_none, errW_some] <;> rfl), rC HO_3, hbC _⟩
   rw [if_neg c2] at H
   have c2b0 : (x4_1 == 0) = false := beq_eq_false_iff_ne.mpr c2
   have c2b1 : (x4_1 != 0) = true := bne_iff_ne.mpr c2
   replace H := Option.bind_eq_some_iff.mp H
   obtain ⟨t107, A30, H⟩ := H
   replace H : (if 0 ≤ t107 then ((xTz.f (Go.bits .xor .u64 18446744073709551615 (shr .u64 x4_1 t107))).bind fun t108 => (if x3_1.length < 17592186044416 then (if 0 ≤ t108 then (squares_blocks.l0 k1 (x3_1 ++ [t108]) (shr .u64 (shr .u64 x4_1 t107) t108)) else (none)) else (none))) else (none)) = some r := H
   have A3 := Aside0.mk A30
   clear A30
   by_cases c4 : 0 ≤ t107
   rotate_left
   ·rw [if_neg c4] at H
    exact absurd H (by simp)
   rw [if_pos c4] at H
   have c4b0 := eq_true c4
   have c4b1 : decide (0 ≤ t107) = true := decide_eq_true c4
   clear c4
   obtain ⟨ji5, hji5⟩ : ∃ j_ : Int, (shr .u64 x4_1 t107) = j_ := ⟨_, rfl⟩
   replace H : ((xTz.f (Go.bits .xor .u64 18446744073709551615 (ji5))).bind fun t108 => (if x3_1.length < 17592186044416 then (if 0 ≤ t108 then (squares_blocks.l0 k1 (x3_1 ++ [t108]) (shr .u64 (ji5) t108)) else (none)) else (none))) = some r := by first | (rw [hji5] at H; exact H) | (simp only [hji5] at H ⊢; exact H)
   (try rw [hji5] at A3)
   have hji5_ : (x4_1 / 2 ^ min t107.toNat 64) = ji5 := hji5
   have hji5z : t107 ≤ 64 → (x4_1 / 2 ^ t107.toNat) = ji5 := shr_small hji5
   replace H := Option.bind_eq_some_iff.mp H
   obtain ⟨t108, A60, H⟩ := H
   replace H : (if x3_1.length < 17592186044416 then (if 0 ≤ t108 then (squares_blocks.l0 k1 (x3_1 ++ [t108]) (shr .u64 (ji5) t108)) else (none)) else (none)) = some r := H
   have A6 := Aside0.mk A60
   clear A60
   by_cases c7 : x3_1.length < 17592186044416
   rotate_left
   ·rw [if_neg c7] at H
    exact absurd H (by simp)
   rw [if_pos c7] at H
   have LMc7 := Aside0.mk c7
   clear c7
   obtain ⟨y109, hy109⟩ : ∃ y_ : List Int, y_ = (x3_1 ++ [t108]) := ⟨_, rfl⟩
   replace H : (if 0 ≤ t108 then (squares_blocks.l0 k1 y109 (shr .u64 (ji5) t108)) else (none)) = some r := by first | (rw [hy109]; with_reducible exact H) | (have H2_ := (Option.bind_some _ _).symm.trans H; rw [hy109]; with_reducible exact H2_) | (have H2_ := (Option.bind_some _ _).symm.trans H; with_reducible exact H2_) | with_reducible exact H | (rw [hy109]; exact H) | exact H
   have Ny109 := Aside0.mk hy109
   clear hy109
   by_cases c8 : 0 ≤ t108
   rotate_left
   ·rw [if_neg c8] at H
    exact absurd H (by simp)
   rw [if_pos c8] at H
   have c8b0 := eq_true c8
   have c8b1 : decide (0 ≤ t108) = true := decide_eq_true c8
   clear c8
   obtain ⟨ji9, hji9⟩ : ∃ j_ : Int, (shr .u64 (ji5) t108) = j_ := ⟨_, rfl⟩
   replace H : (squares_blocks.l0 k1 y109 ji9) = some r := by first | (rw [hji9] at H; exact H) | (simp only [hji9] at H ⊢; exact H)
   (try rw [hji9] at A3)
   (try rw [hji9] at A6)
   have hji9_ : ((ji5) / 2 ^ min t108.toNat 64) = ji9 := hji9
   have hji9z : t108 ≤ 64 → ((ji5) / 2 ^ t108.toNat) = ji9 := shr_small hji9
   have H' := Aside0.mk H
   clear H
   go_wp2_with (first | ((with_reducible refine gate_callee (f := 47) rfl ?_); refine gL 12 Tryd.func47 #[.int .u64 x4_1] ?_; (with_reducible refine (xTz.calls x4_1 t107 _ A3.out).mono ?_); rintro e w' ⟨rfl, ⟨nd, rfl⟩⟩; refine ⟨_, rfl, ?_⟩) | ((with_reducible refine gate_callee (f := 47) rfl ?_); refine goesL_ (some 16) rfl rfl Tryd.func47 (by kernel_rfl) rfl #[.int .u64 (Go.bits .xor .u64 18446744073709551615 (ji5))] rfl (by (try simp only [List.map_toArray, List.map_cons, List.map_nil]); first | done | (simp only [hji5]; rfl) | rfl | (simp only [List.length_drop, List.length_take]; rfl)) ?_; (with_reducible refine (xTz.calls (Go.bits .xor .u64 18446744073709551615 (ji5)) t108 _ A6.out).mono ?_); rintro e w' ⟨rfl, ⟨nd, rfl⟩⟩; refine ⟨_, rfl, ?_⟩) | ((with_reducible refine gate_builtin (b := .append) (xs := #[.tmp 17, .tmp 19]) rfl ?_); at_builtin; refine Kd.R_append (Kd.int .i64) (w0 := w) w.heap.size rfl (.tmp 17) (.tmp 19) 22 3 (.int .i64 0) 8 rfl Tryd.underlying22 info3 rfl (by decide) (by omega) u3 x3_1 t108 [.int .i64 t108] (fun _ => True) (fun _ => False) rfl rfl ?aP (fun _ hk => hk.elim) ?aF ?aO ?aB ?aS ?aL ?_; (case aP => exact rfl); (case aB => exact (hbC _)); (case aF => exact (fun _ _ => trivial)); (case aO => exact (rC HO_3)); (case aS => exact (below_size (hbC _))); (case aL => have := LMc7.out; omega); intro v110 w10 ho hb hg hat; rw [← Ny109.out] at ho; have n0_ := ak (hb); have n1_ := ak (ho); clear HB; clear HO_3; have HB := n0_; have HO111 := n1_; clear n0_ n1_; clear ho hb hg hat))
   go_roundg k1
   case measure => have := HK1.out; omega
   case rel => exact ⟨(y109), (ji9), (by first | rfl | (simp; done) | (simp only [← hji9] <;> (first | rfl | simp)) | (simp [*]; done)), H', ⟨by have := HK1.out; omega⟩, ⟨rC HO111⟩, ⟨hbC _⟩⟩

end Go.Proofs.YtkieehjpnjplmaaDoor.X
