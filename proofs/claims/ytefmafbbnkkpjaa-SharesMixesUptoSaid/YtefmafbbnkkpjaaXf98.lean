-- Written by a program of this work (wip/xprint.py, over the kit's printer) out of the translation.
import Derived.Test.YtefmafbbnkkpjaaX0
import Derived.Test.YtefmafbbnkkpjaaE121
namespace Go.Proofs.Ytefmafbbnkkpjaa.X
open Go.RowKit Go.Proofs.YtefmafbbnkkpjaaW.PrintWords Go.Proofs.YtefmafbbnkkpjaaW.PrintLast Go.Proofs.YtefmafbbnkkpjaaW.PrintMore
attribute [local go_sem] max2_int min2_int max_two min_two max_three min_three max_four min_four   -- for this text's walks alone
set_option linter.unusedVariables false
set_option linter.unusedSimpArgs false

/-! ### shares_mixture_parts: function 98 -/
mutual
def shares_mixture_parts.l0 : Nat → Int → List (List Int) → List Int → List (List (S62)) → Int → Int → Option ((List (List Int)) × Bool)
 | 0, _, _, _, _, _, _ => none
 | k + 1, x3, x4, x6, x17, x18, x19 => if x19 < x18 then (if 0 ≤ x19 then (if x19 < (x17.length : Int) then (shares_mixture_parts.l1 k x3 x4 x6 ([] : List Int) 0 x17 x18 x19 (rd_L5 x17 x19) ((rd_L5 x17 x19).length : Int) 0) else (none)) else (none)) else ((xAnyNe.f x6 x3).bind fun t877 => (some (x4, !t877)))
def shares_mixture_parts.l1 : Nat → Int → List (List Int) → List Int → List Int → Int → List (List (S62)) → Int → Int → List (S62) → Int → Int → Option ((List (List Int)) × Bool)
 | 0, _, _, _, _, _, _, _, _, _, _, _ => none
 | k + 1, x3, x4, x6, x9, x10, x17, x18, x19, x23, x24, x25 => if x25 < x24 then (if 0 ≤ x25 then (if x25 < (x23.length : Int) then (if ((rd_T62 x23 x25).f1) = 0 then (none) else (if x9.length < 17592186044416 then (if x25 < (x6.length : Int) then (shares_mixture_parts.l1 k x3 x4 (x6.set (x25 : Int).toNat (wrap64 ((rd x6 x25) + (wrap64 (((rd_T62 x23 x25).f0) * (wrap64 (Int.tdiv x3 ((rd_T62 x23 x25).f1)))))))) (x9 ++ [wrap64 (((rd_T62 x23 x25).f0) * (wrap64 (Int.tdiv x3 ((rd_T62 x23 x25).f1))))]) (wrap64 (x10 + (wrap64 (((rd_T62 x23 x25).f0) * (wrap64 (Int.tdiv x3 ((rd_T62 x23 x25).f1))))))) x17 x18 x19 x23 x24 (wrap64 (x25 + 1))) else (none)) else (none))) else (none)) else (none)) else (if x10 = x3 then (if x4.length < 5864062014805 then (shares_mixture_parts.l0 k x3 (x4 ++ [x9]) x6 x17 x18 (wrap64 (x19 + 1))) else (none)) else (some (([] : List (List Int)), false)))
end
def shares_mixture_parts.f (k : Nat) (l0 : List (List (S62))) (a1 : Int) : Option ((List (List Int)) × Bool) := if 0 ≤ (l0.length : Int) then (if ((l0.length : Int) : Int).toNat ≤ 35184372088832 then (shares_mixture_parts.l0 k a1 ([] : List (List Int)) (List.replicate ((l0.length : Int) : Int).toNat 0) l0 (l0.length : Int) 0) else (none)) else (none)
theorem shares_mixture_parts.mono_l : ∀ k, (∀ y0 y1 y2 y3 y4 y5, LeO (shares_mixture_parts.l0 k y0 y1 y2 y3 y4 y5) (shares_mixture_parts.l0 (k + 1) y0 y1 y2 y3 y4 y5)) ∧ (∀ y0 y1 y2 y3 y4 y5 y6 y7 y8 y9 y10, LeO (shares_mixture_parts.l1 k y0 y1 y2 y3 y4 y5 y6 y7 y8 y9 y10) (shares_mixture_parts.l1 (k + 1) y0 y1 y2 y3 y4 y5 y6 y7 y8 y9 y10))
 | 0 => ⟨fun _ _ _ _ _ _ r h => by simp [shares_mixture_parts.l0] at h, fun _ _ _ _ _ _ _ _ _ _ _ r h => by simp [shares_mixture_parts.l1] at h⟩
 | k + 1 => by
  obtain ⟨ih0, ih1⟩ := shares_mixture_parts.mono_l k
  refine ⟨?_, ?_⟩
  ·intro y0 y1 y2 y3 y4 y5
   unfold shares_mixture_parts.l0
   repeat' first
   | (with_reducible exact ih0 _ _ _ _ _ _)
   | (with_reducible exact ih1 _ _ _ _ _ _ _ _ _ _ _)
   | (with_reducible exact LeO.refl _)
   | (with_reducible exact LeO.none _)
   | (with_reducible refine LeO.ite ?_ ?_)
   | (with_reducible refine LeO.bind ?_ (fun _ => ?_))
   | exact ih0 _ _ _ _ _ _
   | exact ih1 _ _ _ _ _ _ _ _ _ _ _
   | exact LeO.none _
   | refine LeO.ite ?_ ?_
   | refine LeO.bind ?_ (fun _ => ?_)
  ·intro y0 y1 y2 y3 y4 y5 y6 y7 y8 y9 y10
   unfold shares_mixture_parts.l1
   repeat' first
   | (with_reducible exact ih0 _ _ _ _ _ _)
   | (with_reducible exact ih1 _ _ _ _ _ _ _ _ _ _ _)
   | (with_reducible exact LeO.refl _)
   | (with_reducible exact LeO.none _)
   | (with_reducible refine LeO.ite ?_ ?_)
   | (with_reducible refine LeO.bind ?_ (fun _ => ?_))
   | exact ih0 _ _ _ _ _ _
   | exact ih1 _ _ _ _ _ _ _ _ _ _ _
   | exact LeO.none _
   | refine LeO.ite ?_ ?_
   | refine LeO.bind ?_ (fun _ => ?_)
theorem shares_mixture_parts.mono : ∀ a0 a1 k, LeO (shares_mixture_parts.f k a0 a1) (shares_mixture_parts.f (k + 1) a0 a1) := by
 intro a0 a1 k
 obtain ⟨ih0, ih1⟩ := shares_mixture_parts.mono_l k
 unfold shares_mixture_parts.f
 repeat' first
   | (with_reducible exact ih0 _ _ _ _ _ _)
   | (with_reducible exact ih1 _ _ _ _ _ _ _ _ _ _ _)
   | (with_reducible exact LeO.refl _)
   | (with_reducible exact LeO.none _)
   | (with_reducible refine LeO.ite ?_ ?_)
   | (with_reducible refine LeO.bind ?_ (fun _ => ?_))
   | exact ih0 _ _ _ _ _ _
   | exact ih1 _ _ _ _ _ _ _ _ _ _ _
   | exact LeO.none _
   | refine LeO.ite ?_ ?_
   | refine LeO.bind ?_ (fun _ => ?_)
structure shares_mixture_parts.Hold (p : Prop) : Prop where
 mk :: out : p
theorem shares_mixture_parts.stopH {p : Prop} (h : shares_mixture_parts.Hold p) : p := h.out
set_option maxHeartbeats 8000000 in
set_option maxRecDepth 100000 in
theorem shares_mixture_parts.calls (k : Nat) (A0 : Option Addr) (c0 : Nat) (l0 : List (List (S62))) (a1 : Int) (r1 : List (List Int)) (r2 : Bool) (w0 : World) (hr0 : Kd.C (Kd.slice 62 k62) w0 A0 l0.length l0) (hc0 : l0.length ≤ c0) (h : shares_mixture_parts.f k l0 a1 = some (r1, r2)) :
  Calls Try.prog 98 #[.slice A0 l0.length c0, .int .i64 a1] w0 fun e w' => ∃ v0_ : Value, e = .returned (.tuple #[v0_, .bool r2]) ∧ Kd.S (Kd.slice 3 (Kd.int .i64)) 22 w' w0.heap.size (fun _ => True) v0_ r1 ∧ Below w0.heap.size w0 w' := by
 have hmf : ∀ (fn : Fn) (first cap : Array Value) (w : World), (Instr.makeFunc fn first cap).run Try.prog w = .ok (.func fn first cap) w := fun _ _ _ _ => rfl
 have HR0_ := Aside0.mk hr0
 clear hr0
 go_enter Try.func98, Try.ntmps98
 go_wp2_with ((with_reducible refine gate_dst (N := 3) rfl ?_); refine bE 3 #[.int .i64 a1] 3 ?_; intro gb3 hg3 w hbox3 hb3; have HB3 := Aside0.mk hb3; have HR0_ := ak (Kd.C_below HR0_.out hb3); have HKD : Aside0 (w.cell? ⟨gb3, 0, none⟩ = some (.int .i64 a1)) := ak ((blk_cell hbox3 0).trans rfl); clear hbox3 hg3 hb3; refine shares_mixture_parts.stopH ?_)
 refine shares_mixture_parts.Hold.mk ?_
 have hr0 := HR0_.out
 clear HR0_
 have hu62 := Try.underlying62
 have HR0 := Aside0.mk hr0
 have HC0 := Aside0.mk hc0
 clear hr0 hc0
 have HB := ak (Below.refl w.heap.size w)
 have H : (if 0 ≤ (l0.length : Int) then (if ((l0.length : Int) : Int).toNat ≤ 35184372088832 then (shares_mixture_parts.l0 k a1 ([] : List (List Int)) (List.replicate ((l0.length : Int) : Int).toNat 0) l0 (l0.length : Int) 0) else (none)) else (none)) = some (r1, r2) := h
 clear h
 by_cases c3 : 0 ≤ (l0.length : Int)
 rotate_left
 ·rw [if_neg c3] at H
  exact absurd H (by simp)
 rw [if_pos c3] at H
 have c3b0 := eq_true c3
 have c3b1 : decide (0 ≤ (l0.length : Int)) = true := decide_eq_true c3
 clear c3
 by_cases c4 : ((l0.length : Int) : Int).toNat ≤ 35184372088832
 rotate_left
 ·rw [if_neg c4] at H
  exact absurd H (by simp)
 rw [if_pos c4] at H
 have c4b0 := eq_true c4
 have c4b1 : decide (((l0.length : Int) : Int).toNat ≤ 35184372088832) = true := decide_eq_true c4
 clear c4
 obtain ⟨y874, hy874⟩ : ∃ y_ : List Int, y_ = (List.replicate ((l0.length : Int) : Int).toNat 0) := ⟨_, rfl⟩
 replace H : (shares_mixture_parts.l0 k a1 ([] : List (List Int)) y874 l0 (l0.length : Int) 0) = some (r1, r2) := by first | (rw [hy874]; with_reducible exact H) | (have H2_ := (Option.bind_some _ _).symm.trans H; rw [hy874]; with_reducible exact H2_) | (have H2_ := (Option.bind_some _ _).symm.trans H; with_reducible exact H2_) | with_reducible exact H | (rw [hy874]; exact H) | exact H
 have Ny874 := Aside0.mk hy874
 clear hy874
 have H' := Aside0.mk H
 clear H
 go_wp2_with (first | ((with_reducible refine gate_dst (N := 16) rfl ?_); refine Kd.R_make (Kd.int .i64) _ 3 rfl (N := 16) rfl 22 _ _ rfl (l0.length : Int) rfl rfl Try.underlying22 (.int .i64 0) 8 info3 rfl (by decide) (by omega) 0 (ok := fun _ => True) (okp := fun _ => True) rfl (fun _ hk => hk) trivial (dA) (Nat.le_trans (Nat.mul_le_mul_right _ (dA : (l0.length : Int).toNat ≤ 35184372088832)) (by omega)) (Below.refl _ _) (Nat.le_refl _) ?_; intro v875 w5 ho6 hb hg_ hnew_; clear hg_ hnew_; (first | rw [← Ny874.out] at ho6 | (simp only [Int.reduceToNat] at ho6; rw [← Ny874.out] at ho6)); have HO876 := ak (Kd.R_lower ho6 (below_size (hbC _))); replace HB := kH _ hb; clear hb ho6))
 repeat (go_quiet (first | ((with_reducible refine gate_dst (N := 16) rfl ?_); refine Kd.R_make (Kd.int .i64) _ 3 rfl (N := 16) rfl 22 _ _ rfl (l0.length : Int) rfl rfl Try.underlying22 (.int .i64 0) 8 info3 rfl (by decide) (by omega) 0 (ok := fun _ => True) (okp := fun _ => True) rfl (fun _ hk => hk) trivial (dA) (Nat.le_trans (Nat.mul_le_mul_right _ (dA : (l0.length : Int).toNat ≤ 35184372088832)) (by omega)) (Below.refl _ _) (Nat.le_refl _) ?_; intro v875 w5 ho6 hb hg_ hnew_; clear hg_ hnew_; (first | rw [← Ny874.out] at ho6 | (simp only [Int.reduceToNat] at ho6; rw [← Ny874.out] at ho6)); have HO876 := ak (Kd.R_lower ho6 (below_size (hbC _))); replace HB := kH _ hb; clear hb ho6)); try go_wp2_with (first | ((with_reducible refine gate_dst (N := 16) rfl ?_); refine Kd.R_make (Kd.int .i64) _ 3 rfl (N := 16) rfl 22 _ _ rfl (l0.length : Int) rfl rfl Try.underlying22 (.int .i64 0) 8 info3 rfl (by decide) (by omega) 0 (ok := fun _ => True) (okp := fun _ => True) rfl (fun _ hk => hk) trivial (dA) (Nat.le_trans (Nat.mul_le_mul_right _ (dA : (l0.length : Int).toNat ≤ 35184372088832)) (by omega)) (Below.refl _ _) (Nat.le_refl _) ?_; intro v875 w5 ho6 hb hg_ hnew_; clear hg_ hnew_; (first | rw [← Ny874.out] at ho6 | (simp only [Int.reduceToNat] at ho6; rw [← Ny874.out] at ho6)); have HO876 := ak (Kd.R_lower ho6 (below_size (hbC _))); replace HB := kH _ hb; clear hb ho6)))
 go_loopg [4, 19] k (fun kq v4 v19 w' => ∃ (x4_1 : List (List Int)) (x6_1 : List Int) (x19_1 : Int), v19 = .int .i64 x19_1 ∧ Aside0 (shares_mixture_parts.l0 kq a1 x4_1 x6_1 l0 (l0.length : Int) x19_1 = some (r1, r2)) ∧ Aside0 (kq ≤ k) ∧ Aside0 (Kd.S (Kd.slice 3 (Kd.int .i64)) 22 w' w.heap.size (fun k_ => nb k_ v875) v4 x4_1) ∧ Aside0 (Kd.R (Kd.int .i64) 3 w' w.heap.size (fun _ => True) v875 x6_1) ∧ Aside0 (Below w.heap.size w w'))
 case atStart => exact ⟨(([] : List (List Int))), (y874), (0), (by first | rfl | (simp; done) | (simp [*]; done)), H', ⟨Nat.le_refl _⟩, ⟨by first | exact Kd.S_nil _ _ _ _ _ | exact Kd.N_nil _ _ _ _ _ | exact Kd.V_nil _ _ _ _ _ | exact Kd.Q_nil _ _ _ _ _ | exact Kd.R_nil _ _ _ _ _⟩, ⟨rC HO876⟩, ⟨hbC _⟩⟩
 case round =>
  clear H'
  try clear p2
  try clear c3
  try clear c3b0
  try clear c3b1
  try clear c4
  try clear c4b0
  try clear c4b1
  obtain ⟨x4_1, x6_1, x19_1, rfl, HA, HK1, HO_4, HO_6, HB⟩ := hrel
  cases gk with
  | zero => exact absurd HA.out (by simp [shares_mixture_parts.l0])
  | succ k1 =>
   have H := HA.out
   clear HA
   simp only [shares_mixture_parts.l0] at H
   by_cases c7 : x19_1 < (l0.length : Int)
   rotate_left
   ·rw [if_neg c7] at H
    have c7b0 : decide (x19_1 < (l0.length : Int)) = false := decide_eq_false c7
    clear c7
    replace H := Option.bind_eq_some_iff.mp H
    obtain ⟨t877, A270, H⟩ := H
    replace H : (some (x4_1, !t877)) = some (r1, r2) := H
    have A27 := Aside0.mk A270
    clear A270
    simp only [Option.some.injEq, Prod.mk.injEq] at H
    obtain ⟨rfl, rfl⟩ := H
    obtain ⟨Ao28, co28, eo28⟩ := Kd.R_slice HO_6.out
    subst eo28
    have hD_ : wr.cell? ⟨gb3, 0, none⟩ = some (.int .i64 a1) := (HB.out.cell (World.block_lt_of_cell? w _ HKD.out)).trans HKD.out
    go_wp2_with (first | (go_at_call 121; (with_reducible refine (xAnyNe.calls gb3 _ _ x6_1 a1 t877 _ ?side0 ?side1 ?side2 A27.out).mono ?_); (case side0 => exact hD_); (case side1 => exact kD (Kd.R_reads' HO_6.out).2.2); (case side2 => exact (Kd.R_reads' HO_6.out).2.1); rintro e w29 ⟨rfl, hb⟩; replace HO_4 := ak (Kd.S_below (by (with_reducible repeat (first | apply Kd.S_alloc | apply Kd.S_drewN | apply Kd.S_drew)); exact HO_4.out) hb); replace HO_6 := kO HO_6 hb; replace HB := kH _ hb; (try clear hb); (try clear hb2); (try clear hk); (try clear hi)))
    repeat (go_quiet (first | (go_at_call 121; (with_reducible refine (xAnyNe.calls gb3 _ _ x6_1 a1 t877 _ ?side0 ?side1 ?side2 A27.out).mono ?_); (case side0 => exact hD_); (case side1 => exact kD (Kd.R_reads' HO_6.out).2.2); (case side2 => exact (Kd.R_reads' HO_6.out).2.1); rintro e w29 ⟨rfl, hb⟩; replace HO_4 := ak (Kd.S_below (by (with_reducible repeat (first | apply Kd.S_alloc | apply Kd.S_drewN | apply Kd.S_drew)); exact HO_4.out) hb); replace HO_6 := kO HO_6 hb; replace HB := kH _ hb; (try clear hb); (try clear hb2); (try clear hk); (try clear hi))); try go_wp2_with (first | (go_at_call 121; (with_reducible refine (xAnyNe.calls gb3 _ _ x6_1 a1 t877 _ ?side0 ?side1 ?side2 A27.out).mono ?_); (case side0 => exact hD_); (case side1 => exact kD (Kd.R_reads' HO_6.out).2.2); (case side2 => exact (Kd.R_reads' HO_6.out).2.1); rintro e w29 ⟨rfl, hb⟩; replace HO_4 := ak (Kd.S_below (by (with_reducible repeat (first | apply Kd.S_alloc | apply Kd.S_drewN | apply Kd.S_drew)); exact HO_4.out) hb); replace HO_6 := kO HO_6 hb; replace HB := kH _ hb; (try clear hb); (try clear hb2); (try clear hk); (try clear hi))))
    go_ret2
    exact ⟨_, by first | rfl | (simp [errW_none, errW_some] <;> rfl) | (simp [*, errW_none, errW_some] <;> rfl), by (with_reducible repeat (first | apply Kd.S_alloc | apply Kd.S_drewN | apply Kd.S_drew)); exact Kd.S_lower (Kd.S_mono HO_4.out (fun _ hk => trivial)) (below_size HB3.out), below_step HB3.out (hbC _)⟩
   rw [if_pos c7] at H
   have c7b0 : decide (x19_1 < (l0.length : Int)) = true := decide_eq_true c7
   clear c7
   by_cases c8 : 0 ≤ x19_1
   rotate_left
   ·rw [if_neg c8] at H
    exact absurd H (by simp)
   rw [if_pos c8] at H
   have c8b0 : decide (0 ≤ x19_1) = true := decide_eq_true c8
   clear c8
   by_cases c9 : x19_1 < (l0.length : Int)
   rotate_left
   ·rw [if_neg c9] at H
    exact absurd H (by simp)
   rw [if_pos c9] at H
   have c9b0 : decide (x19_1 < (l0.length : Int)) = true := decide_eq_true c9
   clear c9
   have H' := Aside0.mk H
   clear H
   have p878 : 0 ≤ (x19_1 : Int) := dA
   have q878 : x19_1 < (l0.length : Int) := dA
   obtain ⟨ad878, A878_0, c878_0, e878, hx878_0, hl878_0, hi878_0⟩ := at_L5 HR0.out x19_1 p878 q878
   cases e878
   try replace hx878_0 := (HB.out.cell (World.block_lt_of_cell? w _ hx878_0)).trans hx878_0
   have HR878_0 := Aside0.mk hi878_0
   have HC878_0 := Aside0.mk hl878_0
   clear hi878_0 hl878_0
   replace p878 := eq_true p878
   replace q878 := eq_true q878
   go_wp2
   repeat (go_quiet (fail); try go_wp2)
   go_loopg [9, 10, 25] k1 (fun kq v9 v10 v25 w' => ∃ (x6_2 : List Int) (x9_2 : List Int) (x10_2 : Int) (x25_2 : Int), v10 = .int .i64 x10_2 ∧ v25 = .int .i64 x25_2 ∧ Aside0 (shares_mixture_parts.l1 kq a1 x4_1 x6_2 x9_2 x10_2 l0 (l0.length : Int) x19_1 (rd_L5 l0 x19_1) ((rd_L5 l0 x19_1).length : Int) x25_2 = some (r1, r2)) ∧ Aside0 (kq ≤ k1) ∧ Aside0 (Kd.S (Kd.slice 3 (Kd.int .i64)) 22 w' w.heap.size (fun k_ => nb k_ v875 ∧ nb k_ v9) u4 x4_1) ∧ Aside0 (Kd.R (Kd.int .i64) 3 w' w.heap.size (fun k_ => nb k_ v9) v875 x6_2) ∧ Aside0 (Kd.R (Kd.int .i64) 3 w' w.heap.size (fun k_ => nb k_ v875) v9 x9_2) ∧ Aside0 (Below w.heap.size w w'))
   case atStart => exact ⟨(x6_1), (([] : List Int)), (0), (0), (by first | rfl | (simp; done) | (simp [*]; done)), (by first | rfl | (simp; done) | (simp [*]; done)), H', ⟨Nat.le_refl _⟩, ⟨by (with_reducible repeat (first | apply Kd.S_alloc | apply Kd.S_drewN | apply Kd.S_drew)); exact Kd.S_mono HO_4.out (fun _ hk => ⟨hk, (by simp [Value.ownBlock])⟩)⟩, ⟨rD (Kd.R_mono HO_6.out (fun _ hk => (by simp [Value.ownBlock])))⟩, ⟨by first | exact Kd.R_nil _ _ _ _ _ | exact Kd.N_nil _ _ _ _ _ | exact Kd.V_nil _ _ _ _ _ | exact Kd.Q_nil _ _ _ _ _ | exact Kd.S_nil _ _ _ _ _⟩, ⟨hbC _⟩⟩
   case round =>
    clear H'
    try clear p2
    try clear c3
    try clear c3b0
    try clear c3b1
    try clear c4
    try clear c4b0
    try clear c4b1
    try clear c7
    try clear c7b0
    try clear c8
    try clear c8b0
    try clear p8
    try clear q8
    try clear hx8
    try clear c9
    try clear c9b0
    try clear hx878_0
    try clear p2
    try clear p878
    try clear q878
    obtain ⟨x6_2, x9_2, x10_2, x25_2, rfl, rfl, HA, HK2, HO_4, HO_6, HO_9, HB⟩ := hrel
    cases gk with
    | zero => exact absurd HA.out (by simp [shares_mixture_parts.l1])
    | succ k2 =>
     have H := HA.out
     clear HA
     simp only [shares_mixture_parts.l1] at H
     by_cases c10 : x25_2 < ((rd_L5 l0 x19_1).length : Int)
     rotate_left
     ·rw [if_neg c10] at H
      have c10b0 : decide (x25_2 < ((rd_L5 l0 x19_1).length : Int)) = false := decide_eq_false c10
      clear c10
      have hD_ : wr.cell? ⟨gb3, 0, none⟩ = some (.int .i64 a1) := (HB.out.cell (World.block_lt_of_cell? w _ HKD.out)).trans HKD.out
      by_cases c23 : x10_2 = a1
      rotate_left
      ·rw [if_neg c23] at H
       have c23b0 : (x10_2 == a1) = false := beq_eq_false_iff_ne.mpr c23
       have c23b1 : (x10_2 != a1) = true := bne_iff_ne.mpr c23
       simp only [Option.some.injEq, Prod.mk.injEq] at H
       obtain ⟨rfl, rfl⟩ := H
       go_wp2
       repeat (go_quiet (fail); try go_wp2)
       go_ret2
       exact ⟨_, by first | rfl | (simp [errW_none, errW_some] <;> rfl) | (simp [*, errW_none, errW_some] <;> rfl), by first | exact Kd.S_nil _ _ _ _ _ | exact Kd.N_nil _ _ _ _ _ | exact Kd.V_nil _ _ _ _ _ | exact Kd.Q_nil _ _ _ _ _ | exact Kd.R_nil _ _ _ _ _, below_step HB3.out (hbC _)⟩
      rw [if_pos c23] at H
      have c23b0 : (x10_2 == a1) = true := beq_iff_eq.mpr c23
      have c23b1 : (x10_2 != a1) = false := bne_eq_false_iff_eq.mpr c23
      clear c23
      by_cases c24 : x4_1.length < 5864062014805
      rotate_left
      ·rw [if_neg c24] at H
       exact absurd H (by simp)
      rw [if_pos c24] at H
      have LMc24 := Aside0.mk c24
      clear c24
      obtain ⟨y886, hy886⟩ : ∃ y_ : List (List Int), y_ = (x4_1 ++ [x9_2]) := ⟨_, rfl⟩
      replace H : (shares_mixture_parts.l0 k2 a1 y886 x6_2 l0 (l0.length : Int) (wrap64 (x19_1 + 1))) = some (r1, r2) := by first | (rw [hy886]; with_reducible exact H) | (have H2_ := (Option.bind_some _ _).symm.trans H; rw [hy886]; with_reducible exact H2_) | (have H2_ := (Option.bind_some _ _).symm.trans H; with_reducible exact H2_) | with_reducible exact H | (rw [hy886]; exact H) | exact H
      have Ny886 := Aside0.mk hy886
      clear hy886
      have H' := Aside0.mk H
      clear H
      obtain ⟨Ao26, co26, eo26⟩ := Kd.R_slice HO_9.out
      subst eo26
      go_wp2_with (first | ((with_reducible refine gate_builtin (b := .append) (xs := #[.tmp 55, .tmp 57]) rfl ?_); at_builtin; refine Kd.S_append (Kd.slice 3 (Kd.int .i64)) (w0 := w) w.heap.size rfl (.tmp 55) (.tmp 57) 48 22 (.slice none 0 0) 24 rfl Try.underlying48 info22 rfl (by decide) (by omega) u4 x4_1 x9_2 [.slice Ao26 x9_2.length co26] (fun k_ => nb k_ v875) (fun k_ => some k_ = (.slice Ao26 x9_2.length co26 : Value).ownBlock) rfl rfl ?aP (fun k_ hk_ => ((Kd.R_mono (ok' := fun k_ => ((fun k_ => nb k_ v875)) k_ ∧ nb k_ u4) (Kd.R_apart' (HO_9.out) (Kd.S_typed HO_4.out) (by decide)) (fun k_ hk => ⟨hk.1, hk.2⟩))).1 k_ hk_.symm) ?aF ?aO ?aB ?aS ?aL ?_; (case aP => exact Kd.M_row (Kd.R_mono (Kd.R_tight rfl (Kd.R_mono (ok' := fun k_ => ((fun k_ => nb k_ v875)) k_ ∧ nb k_ u4) (Kd.R_apart' (HO_9.out) (Kd.S_typed HO_4.out) (by decide)) (fun k_ hk => ⟨hk.1, hk.2⟩))) (fun _ h_ => h_))); (case aB => exact (hbC _)); (case aF => exact (fun k_ hk => Kd.fresh' (Kd.R_lt (rC HO_6)) k_ hk)); (case aO => exact (by (with_reducible repeat (first | apply Kd.S_alloc | apply Kd.S_drewN | apply Kd.S_drew)); exact Kd.S_mono HO_4.out (fun k_ hk => ⟨hk.1, fun e_ => hk.2 e_⟩))); (case aS => exact (below_size (hbC _))); (case aL => have := LMc24.out; omega); intro v887 w25 ho hb hg hat; rw [← Ny886.out] at ho; have n0_ := ak (Kd.R_over' (rC HO_6) (Kd.S_typed (by (with_reducible repeat (first | apply Kd.S_alloc | apply Kd.S_drewN | apply Kd.S_drew)); exact HO_4.out)) (by decide) hg); have n1_ := ak (hb); have n2_ := ak (ho); clear HO_6; clear HB; clear HO_4; clear HO_9; have HO_6 := n0_; have HB := n1_; have HO888 := n2_; clear n0_ n1_ n2_; clear ho hb hg hat))
      repeat (go_quiet (first | ((with_reducible refine gate_builtin (b := .append) (xs := #[.tmp 55, .tmp 57]) rfl ?_); at_builtin; refine Kd.S_append (Kd.slice 3 (Kd.int .i64)) (w0 := w) w.heap.size rfl (.tmp 55) (.tmp 57) 48 22 (.slice none 0 0) 24 rfl Try.underlying48 info22 rfl (by decide) (by omega) u4 x4_1 x9_2 [.slice Ao26 x9_2.length co26] (fun k_ => nb k_ v875) (fun k_ => some k_ = (.slice Ao26 x9_2.length co26 : Value).ownBlock) rfl rfl ?aP (fun k_ hk_ => ((Kd.R_mono (ok' := fun k_ => ((fun k_ => nb k_ v875)) k_ ∧ nb k_ u4) (Kd.R_apart' (HO_9.out) (Kd.S_typed HO_4.out) (by decide)) (fun k_ hk => ⟨hk.1, hk.2⟩))).1 k_ hk_.symm) ?aF ?aO ?aB ?aS ?aL ?_; (case aP => exact Kd.M_row (Kd.R_mono (Kd.R_tight rfl (Kd.R_mono (ok' := fun k_ => ((fun k_ => nb k_ v875)) k_ ∧ nb k_ u4) (Kd.R_apart' (HO_9.out) (Kd.S_typed HO_4.out) (by decide)) (fun k_ hk => ⟨hk.1, hk.2⟩))) (fun _ h_ => h_))); (case aB => exact (hbC _)); (case aF => exact (fun k_ hk => Kd.fresh' (Kd.R_lt (rC HO_6)) k_ hk)); (case aO => exact (by (with_reducible repeat (first | apply Kd.S_alloc | apply Kd.S_drewN | apply Kd.S_drew)); exact Kd.S_mono HO_4.out (fun k_ hk => ⟨hk.1, fun e_ => hk.2 e_⟩))); (case aS => exact (below_size (hbC _))); (case aL => have := LMc24.out; omega); intro v887 w25 ho hb hg hat; rw [← Ny886.out] at ho; have n0_ := ak (Kd.R_over' (rC HO_6) (Kd.S_typed (by (with_reducible repeat (first | apply Kd.S_alloc | apply Kd.S_drewN | apply Kd.S_drew)); exact HO_4.out)) (by decide) hg); have n1_ := ak (hb); have n2_ := ak (ho); clear HO_6; clear HB; clear HO_4; clear HO_9; have HO_6 := n0_; have HB := n1_; have HO888 := n2_; clear n0_ n1_ n2_; clear ho hb hg hat)); try go_wp2_with (first | ((with_reducible refine gate_builtin (b := .append) (xs := #[.tmp 55, .tmp 57]) rfl ?_); at_builtin; refine Kd.S_append (Kd.slice 3 (Kd.int .i64)) (w0 := w) w.heap.size rfl (.tmp 55) (.tmp 57) 48 22 (.slice none 0 0) 24 rfl Try.underlying48 info22 rfl (by decide) (by omega) u4 x4_1 x9_2 [.slice Ao26 x9_2.length co26] (fun k_ => nb k_ v875) (fun k_ => some k_ = (.slice Ao26 x9_2.length co26 : Value).ownBlock) rfl rfl ?aP (fun k_ hk_ => ((Kd.R_mono (ok' := fun k_ => ((fun k_ => nb k_ v875)) k_ ∧ nb k_ u4) (Kd.R_apart' (HO_9.out) (Kd.S_typed HO_4.out) (by decide)) (fun k_ hk => ⟨hk.1, hk.2⟩))).1 k_ hk_.symm) ?aF ?aO ?aB ?aS ?aL ?_; (case aP => exact Kd.M_row (Kd.R_mono (Kd.R_tight rfl (Kd.R_mono (ok' := fun k_ => ((fun k_ => nb k_ v875)) k_ ∧ nb k_ u4) (Kd.R_apart' (HO_9.out) (Kd.S_typed HO_4.out) (by decide)) (fun k_ hk => ⟨hk.1, hk.2⟩))) (fun _ h_ => h_))); (case aB => exact (hbC _)); (case aF => exact (fun k_ hk => Kd.fresh' (Kd.R_lt (rC HO_6)) k_ hk)); (case aO => exact (by (with_reducible repeat (first | apply Kd.S_alloc | apply Kd.S_drewN | apply Kd.S_drew)); exact Kd.S_mono HO_4.out (fun k_ hk => ⟨hk.1, fun e_ => hk.2 e_⟩))); (case aS => exact (below_size (hbC _))); (case aL => have := LMc24.out; omega); intro v887 w25 ho hb hg hat; rw [← Ny886.out] at ho; have n0_ := ak (Kd.R_over' (rC HO_6) (Kd.S_typed (by (with_reducible repeat (first | apply Kd.S_alloc | apply Kd.S_drewN | apply Kd.S_drew)); exact HO_4.out)) (by decide) hg); have n1_ := ak (hb); have n2_ := ak (ho); clear HO_6; clear HB; clear HO_4; clear HO_9; have HO_6 := n0_; have HB := n1_; have HO888 := n2_; clear n0_ n1_ n2_; clear ho hb hg hat)))
      go_roundg k2
      case measure => have := HK1.out; have := HK2.out; omega
      case rel => exact ⟨(y886), (x6_2), (wrap64 (x19_1 + 1)), (by first | rfl | (simp; done) | (simp [*]; done)), H', ⟨by have := HK1.out; have := HK2.out; omega⟩, ⟨by (with_reducible repeat (first | apply Kd.S_alloc | apply Kd.S_drewN | apply Kd.S_drew)); exact HO888.out⟩, ⟨rD (Kd.R_mono HO_6.out (fun _ hk => trivial))⟩, ⟨hbC _⟩⟩
     rw [if_pos c10] at H
     have c10b0 : decide (x25_2 < ((rd_L5 l0 x19_1).length : Int)) = true := decide_eq_true c10
     clear c10
     by_cases c11 : 0 ≤ x25_2
     rotate_left
     ·rw [if_neg c11] at H
      exact absurd H (by simp)
     rw [if_pos c11] at H
     have c11b0 : decide (0 ≤ x25_2) = true := decide_eq_true c11
     clear c11
     by_cases c12 : x25_2 < ((rd_L5 l0 x19_1).length : Int)
     rotate_left
     ·rw [if_neg c12] at H
      exact absurd H (by simp)
     rw [if_pos c12] at H
     have c12b0 : decide (x25_2 < ((rd_L5 l0 x19_1).length : Int)) = true := decide_eq_true c12
     clear c12
     by_cases c13 : ((rd_T62 (rd_L5 l0 x19_1) x25_2).f1) = 0
     ·rw [if_pos c13] at H
      exact absurd H (by simp)
     rw [if_neg c13] at H
     have c13b0 : (((rd_T62 (rd_L5 l0 x19_1) x25_2).f1) == 0) = false := beq_eq_false_iff_ne.mpr c13
     have c13b1 : (((rd_T62 (rd_L5 l0 x19_1) x25_2).f1) != 0) = true := bne_iff_ne.mpr c13
     by_cases c14 : x9_2.length < 17592186044416
     rotate_left
     ·rw [if_neg c14] at H
      exact absurd H (by simp)
     rw [if_pos c14] at H
     have LMc14 := Aside0.mk c14
     clear c14
     obtain ⟨y881, hy881⟩ : ∃ y_ : List Int, y_ = (x9_2 ++ [wrap64 (((rd_T62 (rd_L5 l0 x19_1) x25_2).f0) * (wrap64 (Int.tdiv a1 ((rd_T62 (rd_L5 l0 x19_1) x25_2).f1))))]) := ⟨_, rfl⟩
     replace H : (if x25_2 < (x6_2.length : Int) then (shares_mixture_parts.l1 k2 a1 x4_1 (x6_2.set (x25_2 : Int).toNat (wrap64 ((rd x6_2 x25_2) + (wrap64 (((rd_T62 (rd_L5 l0 x19_1) x25_2).f0) * (wrap64 (Int.tdiv a1 ((rd_T62 (rd_L5 l0 x19_1) x25_2).f1)))))))) y881 (wrap64 (x10_2 + (wrap64 (((rd_T62 (rd_L5 l0 x19_1) x25_2).f0) * (wrap64 (Int.tdiv a1 ((rd_T62 (rd_L5 l0 x19_1) x25_2).f1))))))) l0 (l0.length : Int) x19_1 (rd_L5 l0 x19_1) ((rd_L5 l0 x19_1).length : Int) (wrap64 (x25_2 + 1))) else (none)) = some (r1, r2) := by first | (rw [hy881]; with_reducible exact H) | (have H2_ := (Option.bind_some _ _).symm.trans H; rw [hy881]; with_reducible exact H2_) | (have H2_ := (Option.bind_some _ _).symm.trans H; with_reducible exact H2_) | with_reducible exact H | (rw [hy881]; exact H) | exact H
     have Ny881 := Aside0.mk hy881
     clear hy881
     by_cases c15 : x25_2 < (x6_2.length : Int)
     rotate_left
     ·rw [if_neg c15] at H
      exact absurd H (by simp)
     rw [if_pos c15] at H
     have c15b0 : decide (x25_2 < (x6_2.length : Int)) = true := decide_eq_true c15
     clear c15
     obtain ⟨y885, hy885⟩ : ∃ y_ : List Int, y_ = (x6_2.set (x25_2 : Int).toNat (wrap64 ((rd x6_2 x25_2) + (wrap64 (((rd_T62 (rd_L5 l0 x19_1) x25_2).f0) * (wrap64 (Int.tdiv a1 ((rd_T62 (rd_L5 l0 x19_1) x25_2).f1)))))))) := ⟨_, rfl⟩
     replace H : (shares_mixture_parts.l1 k2 a1 x4_1 y885 y881 (wrap64 (x10_2 + (wrap64 (((rd_T62 (rd_L5 l0 x19_1) x25_2).f0) * (wrap64 (Int.tdiv a1 ((rd_T62 (rd_L5 l0 x19_1) x25_2).f1))))))) l0 (l0.length : Int) x19_1 (rd_L5 l0 x19_1) ((rd_L5 l0 x19_1).length : Int) (wrap64 (x25_2 + 1))) = some (r1, r2) := by first | (rw [hy885]; with_reducible exact H) | (have H2_ := (Option.bind_some _ _).symm.trans H; rw [hy885]; with_reducible exact H2_) | (have H2_ := (Option.bind_some _ _).symm.trans H; with_reducible exact H2_) | with_reducible exact H | (rw [hy885]; exact H) | exact H
     have Ny885 := Aside0.mk hy885
     clear hy885
     have H' := Aside0.mk H
     clear H
     have p879 : 0 ≤ (x25_2 : Int) := dA
     have q879 : x25_2 < ((rd_L5 l0 x19_1).length : Int) := dA
     obtain ⟨ad879, e879, hx879_0, hx879_1⟩ := at_T62 HR878_0.out x25_2 p879 q879
     cases e879
     try replace hx879_0 := (HB.out.cell (World.block_lt_of_cell? w _ hx879_0)).trans hx879_0
     try replace hx879_1 := (HB.out.cell (World.block_lt_of_cell? w _ hx879_1)).trans hx879_1
     replace p879 := eq_true p879
     replace q879 := eq_true q879
     go_wp2_with (first | ((with_reducible refine gate_dst (N := 12) rfl ?_); refine bE 12 #[.int .i64 0, .int .i64 0] 62 ?_; intro gb880 hg w17 hbox hb; replace HO_4 := ak (Kd.S_below (by (with_reducible repeat (first | apply Kd.S_alloc | apply Kd.S_drewN | apply Kd.S_drew)); exact HO_4.out) hb); replace HO_6 := kO HO_6 hb; replace HO_9 := kO HO_9 hb; have BK880 := ak (hbox); have GW880 := kG w hg; have GE880 := kG w hg; replace HB := kH _ hb; clear hb hbox hg; have hcz18_0 : w17.cell? ⟨gb880, 0, none⟩ = some (.int .i64 0) := bc BK880 0; have hcz18_1 : w17.cell? ⟨gb880, 1, none⟩ = some (.int .i64 0) := bc BK880 1; have hD_ : w17.cell? ⟨gb3, 0, none⟩ = some (.int .i64 a1) := (HB.out.cell (World.block_lt_of_cell? w _ HKD.out)).trans HKD.out; have hne1_ : ¬ gb880 = gb3 := (fun h_ => by have h1_ := GW880.out; have h2_ : gb3 < w.heap.size := World.block_lt_of_cell? w _ HKD.out; omega); have hne2_ : ¬ gb3 = gb880 := (fun h_ => hne1_ h_.symm); have hfz18_0 := fz BK880 0; have hfz18_1 := fz BK880 1) | ((with_reducible refine gate_builtin (b := .append) (xs := #[.tmp 37, .tmp 39]) rfl ?_); at_builtin; refine Kd.R_append (Kd.int .i64) (w0 := w) w.heap.size rfl (.tmp 37) (.tmp 39) 22 3 (.int .i64 0) 8 rfl Try.underlying22 info3 rfl (by decide) (by omega) u9 x9_2 (wrap64 (((rd_T62 (rd_L5 l0 x19_1) x25_2).f0) * (wrap64 (Int.tdiv a1 ((rd_T62 (rd_L5 l0 x19_1) x25_2).f1))))) [.int .i64 (wrap64 (((rd_T62 (rd_L5 l0 x19_1) x25_2).f0) * (wrap64 (Int.tdiv a1 ((rd_T62 (rd_L5 l0 x19_1) x25_2).f1)))))] (fun k_ => nb k_ v875) (fun _ => False) rfl (by first | (go_simp; done) | (go_simp; rfl)) ?aP (fun _ hk => hk.elim) ?aF ?aO ?aB ?aS ?aL ?_; (case aP => exact rfl); (case aB => exact (hbC _)); (case aF => exact (fun k_ hk => Kd.fresh' (Kd.R_lt (rD ((Kd.R_mono (Kd.R_far (p := ⟨gb880, 1, none⟩) (Kd.R_far (p := ⟨gb880, 0, none⟩) (Kd.R_types HO_6.out BK880.out (by decide)) (fun _ hk => hk.2) (.int .i64 ((rd_T62 (rd_L5 l0 x19_1) x25_2).f0))) (fun _ hk => hk.2) (.int .i64 ((rd_T62 (rd_L5 l0 x19_1) x25_2).f1))) (fun _ h_ => h_.1))))) k_ hk)); (case aO => exact (rD (Kd.R_mono (Kd.R_far (p := ⟨gb880, 1, none⟩) (Kd.R_far (p := ⟨gb880, 0, none⟩) (Kd.R_types HO_9.out BK880.out (by decide)) (fun _ hk => hk.2) (.int .i64 ((rd_T62 (rd_L5 l0 x19_1) x25_2).f0))) (fun _ hk => hk.2) (.int .i64 ((rd_T62 (rd_L5 l0 x19_1) x25_2).f1))) (fun _ hk => hk.1)))); (case aS => exact (below_size (hbC _))); (case aL => have := LMc14.out; omega); intro v882 w19 ho hb hg hat; rw [← Ny881.out] at ho; have n0_ := ak (Kd.S_after (ok := (fun k_ => nb k_ v875)) (by (with_reducible repeat (first | apply Kd.S_alloc | apply Kd.S_drewN | apply Kd.S_drew)); exact Kd.S_mono (Kd.S_far (p := ⟨gb880, 1, none⟩) (Kd.S_far (p := ⟨gb880, 0, none⟩) (Kd.S_types HO_4.out BK880.out (by decide)) (fun _ hk => hk.2) (.int .i64 ((rd_T62 (rd_L5 l0 x19_1) x25_2).f0))) (fun _ hk => hk.2) (.int .i64 ((rd_T62 (rd_L5 l0 x19_1) x25_2).f1))) (fun _ hk => ⟨hk.1.1, hk.1.2⟩)) hg hat); have n1_ := ak (Kd.R_after (ok := (fun _ => True)) (rD (Kd.R_mono (Kd.R_far (p := ⟨gb880, 1, none⟩) (Kd.R_far (p := ⟨gb880, 0, none⟩) (Kd.R_types HO_6.out BK880.out (by decide)) (fun _ hk => hk.2) (.int .i64 ((rd_T62 (rd_L5 l0 x19_1) x25_2).f0))) (fun _ hk => hk.2) (.int .i64 ((rd_T62 (rd_L5 l0 x19_1) x25_2).f1))) (fun _ hk => ⟨trivial, hk.1⟩))) hg hat); have n2_ := ak (blk_grown (g := gb880) (o := .cells #[.int .i64 ((rd_T62 (rd_L5 l0 x19_1) x25_2).f0), .int .i64 ((rd_T62 (rd_L5 l0 x19_1) x25_2).f1)] 62 (0, 0)) (by (with_reducible repeat (first | refine blk_drewN ?_ _ | refine blk_drew ?_ | refine blk_alloc ?_ _)); refine blk_put (cs := #[.int .i64 ((rd_T62 (rd_L5 l0 x19_1) x25_2).f0), .int .i64 0]) ?_ 1 _ rfl; (with_reducible repeat (first | refine blk_drewN ?_ _ | refine blk_drew ?_ | refine blk_alloc ?_ _)); refine blk_put (cs := #[.int .i64 0, .int .i64 0]) ?_ 0 _ rfl; (with_reducible repeat (first | refine blk_drewN ?_ _ | refine blk_drew ?_ | refine blk_alloc ?_ _)); exact BK880.out) hg (Kd.R_ne HO_9.out BK880.out (by decide))); have n3_ := ak (hb); have n4_ := ak (ho); clear HO_4; clear HO_6; clear BK880; clear HB; clear HO_9; have HO_4 := n0_; have HO_6 := n1_; have BK880 := n2_; have HB := n3_; have HO883 := n4_; clear n0_ n1_ n2_ n3_ n4_; clear ho hb hg hat; obtain ⟨Ao20, co20, eo20⟩ := Kd.R_slice HO_6.out; subst eo20; have p884 : 0 ≤ (x25_2 : Int) := dA; have q884 : x25_2 < (x6_2.length : Int) := dA; obtain ⟨ad884, e884, hx884_0⟩ := Kd.at_int (Kd.R_reads' HO_6.out).2.2 x25_2 p884 q884; cases e884; replace p884 := eq_true p884; replace q884 := eq_true q884; have p16 : 0 ≤ (x25_2 : Int) := dA; have q16 : (x25_2 : Int) < ((x6_2.length : Int) : Int) := dA; obtain ⟨go16, co16, eo16, gb16, gl16, cl16, HG16⟩ := Kd.R_form HO_6.out (by omega); (first | cases eo16 | (injection eo16 with ea_ en_ ec_; (first | subst ea_ | (injection ea_ with ea_; subst ea_)); subst ec_; clear en_)); have GB16 := Aside0.mk gb16; have GG16 := Aside0.mk HG16; clear gb16 gl16 HG16; (first | simp only [add_plain] at hx884_0 | skip); obtain ⟨hx16_0, hf16_0⟩ := Kd.R_celln 0 HO_6.out (x25_2 : Int) p16 q16; replace p16 := eq_true p16; replace q16 := eq_true q16; have n_ := ak (Kd.R_mono (ok' := (fun k_ => nb k_ v882)) HO_6.out (fun k_ hk => hk.2)); clear HO_6; have HO_6 := n_; clear n_; obtain ⟨hy21_, hz21_⟩ := Kd.R_celln 0 HO_6.out (x25_2 : Int) (dA) (dA); have HP21 := Kd.R_putg HO_6.out (x25_2 : Int) (wrap64 ((rd x6_2 x25_2) + (wrap64 (((rd_T62 (rd_L5 l0 x19_1) x25_2).f0) * (wrap64 (Int.tdiv a1 ((rd_T62 (rd_L5 l0 x19_1) x25_2).f1)))))))) | ((with_reducible refine gate_store (t := 3) (p := 50) rfl ?_); (try (rw [drewN_self w19]; generalize hq_ : World.drewN w19 _ = w19; have n0_ := ak (Kd.S_at hq_ HO_4.out); have n1_ := ak (Kd.R_at hq_ HO_6.out); have n2_ := ak (Kd.R_at hq_ HO883.out); have n3_ := ak (blk_at hq_ BK880.out); have n4_ := ak (below_at hq_ HB.out); clear hq_ HO_4 HO_6 HO883 BK880 HB; have HO_4 := n0_; have HO_6 := n1_; have HO883 := n2_; have BK880 := n3_; have HB := n4_; clear n0_ n1_ n2_ n3_ n4_; (try (have n_ := ak (Kd.R_mono (ok' := (fun k_ => nb k_ v882)) HO_6.out (fun k_ hk => hk.2)); clear HO_6; have HO_6 := n_; clear n_)); (try (obtain ⟨hy21_, hz21_⟩ := Kd.R_celln 0 HO_6.out (x25_2 : Int) (dA) (dA))); (try (have HP21 := Kd.R_putg HO_6.out (x25_2 : Int) (wrap64 ((rd x6_2 x25_2) + (wrap64 (((rd_T62 (rd_L5 l0 x19_1) x25_2).f0) * (wrap64 (Int.tdiv a1 ((rd_T62 (rd_L5 l0 x19_1) x25_2).f1))))))))))); refine store_event (t := 3) (p := 50) (v := ?vo_w22) (w1 := (w19.setCell ⟨go16, (x25_2 : Int).toNat, none⟩ (.int .i64 (wrap64 ((rd x6_2 x25_2) + (wrap64 (((rd_T62 (rd_L5 l0 x19_1) x25_2).f0) * (wrap64 (Int.tdiv a1 ((rd_T62 (rd_L5 l0 x19_1) x25_2).f1)))))))))) ?hg ?ho ?hn ?hr ?_; (case ho => rfl); (case hg => rfl); (case hn => rfl); (case hr => first | (go_simp; done) | (go_simp; rfl)); intro w22 hw; have hg : w19.grownBy w22 (some go16) := (by rw [hw]; exact HP21.2); have hp_ : Kd.R (Kd.int .i64) 3 w22 w.heap.size (fun k_ => nb k_ v882) (.slice (some ⟨go16, 0, none⟩) x6_2.length co20) y885 := (by rw [hw, Ny885.out]; exact HP21.1); clear HP21; replace HO_4 := ak (Kd.S_after (v := (.slice (some ⟨go16, 0, none⟩) x6_2.length co20)) (v1 := (.slice (some ⟨go16, 0, none⟩) x6_2.length co20)) (ok := (fun k_ => nb k_ v882)) (by (with_reducible repeat (first | apply Kd.S_alloc | apply Kd.S_drewN | apply Kd.S_drew)); exact Kd.S_mono HO_4.out (fun _ hk => ⟨hk.2, hk.1⟩)) hg (.inl rfl)); replace BK880 := ak (blk_grown (g := gb880) (o := .cells #[.int .i64 ((rd_T62 (rd_L5 l0 x19_1) x25_2).f0), .int .i64 ((rd_T62 (rd_L5 l0 x19_1) x25_2).f1)] 62 (0, 0)) (bkC BK880) hg (Kd.R_ne HO_6.out BK880.out (by decide))); replace HO_6 := ak (hp_); replace HO883 := ak (Kd.R_after (v := (.slice (some ⟨go16, 0, none⟩) x6_2.length co20)) (v1 := (.slice (some ⟨go16, 0, none⟩) x6_2.length co20)) (ok := (fun _ => True)) (rD (Kd.R_mono HO883.out (fun _ hk => ⟨trivial, hk⟩))) hg (.inl rfl)); replace HB := ak ((by rw [hw]; exact below_set (HB.out) GB16.out : Below w.heap.size w w22)); clear hg hw hp_))
     repeat (go_quiet (first | ((with_reducible refine gate_dst (N := 12) rfl ?_); refine bE 12 #[.int .i64 0, .int .i64 0] 62 ?_; intro gb880 hg w17 hbox hb; replace HO_4 := ak (Kd.S_below (by (with_reducible repeat (first | apply Kd.S_alloc | apply Kd.S_drewN | apply Kd.S_drew)); exact HO_4.out) hb); replace HO_6 := kO HO_6 hb; replace HO_9 := kO HO_9 hb; have BK880 := ak (hbox); have GW880 := kG w hg; have GE880 := kG w hg; replace HB := kH _ hb; clear hb hbox hg; have hcz18_0 : w17.cell? ⟨gb880, 0, none⟩ = some (.int .i64 0) := bc BK880 0; have hcz18_1 : w17.cell? ⟨gb880, 1, none⟩ = some (.int .i64 0) := bc BK880 1; have hD_ : w17.cell? ⟨gb3, 0, none⟩ = some (.int .i64 a1) := (HB.out.cell (World.block_lt_of_cell? w _ HKD.out)).trans HKD.out; have hne1_ : ¬ gb880 = gb3 := (fun h_ => by have h1_ := GW880.out; have h2_ : gb3 < w.heap.size := World.block_lt_of_cell? w _ HKD.out; omega); have hne2_ : ¬ gb3 = gb880 := (fun h_ => hne1_ h_.symm); have hfz18_0 := fz BK880 0; have hfz18_1 := fz BK880 1) | ((with_reducible refine gate_builtin (b := .append) (xs := #[.tmp 37, .tmp 39]) rfl ?_); at_builtin; refine Kd.R_append (Kd.int .i64) (w0 := w) w.heap.size rfl (.tmp 37) (.tmp 39) 22 3 (.int .i64 0) 8 rfl Try.underlying22 info3 rfl (by decide) (by omega) u9 x9_2 (wrap64 (((rd_T62 (rd_L5 l0 x19_1) x25_2).f0) * (wrap64 (Int.tdiv a1 ((rd_T62 (rd_L5 l0 x19_1) x25_2).f1))))) [.int .i64 (wrap64 (((rd_T62 (rd_L5 l0 x19_1) x25_2).f0) * (wrap64 (Int.tdiv a1 ((rd_T62 (rd_L5 l0 x19_1) x25_2).f1)))))] (fun k_ => nb k_ v875) (fun _ => False) rfl (by first | (go_simp; done) | (go_simp; rfl)) ?aP (fun _ hk => hk.elim) ?aF ?aO ?aB ?aS ?aL ?_; (case aP => exact rfl); (case aB => exact (hbC _)); (case aF => exact (fun k_ hk => Kd.fresh' (Kd.R_lt (rD ((Kd.R_mono (Kd.R_far (p := ⟨gb880, 1, none⟩) (Kd.R_far (p := ⟨gb880, 0, none⟩) (Kd.R_types HO_6.out BK880.out (by decide)) (fun _ hk => hk.2) (.int .i64 ((rd_T62 (rd_L5 l0 x19_1) x25_2).f0))) (fun _ hk => hk.2) (.int .i64 ((rd_T62 (rd_L5 l0 x19_1) x25_2).f1))) (fun _ h_ => h_.1))))) k_ hk)); (case aO => exact (rD (Kd.R_mono (Kd.R_far (p := ⟨gb880, 1, none⟩) (Kd.R_far (p := ⟨gb880, 0, none⟩) (Kd.R_types HO_9.out BK880.out (by decide)) (fun _ hk => hk.2) (.int .i64 ((rd_T62 (rd_L5 l0 x19_1) x25_2).f0))) (fun _ hk => hk.2) (.int .i64 ((rd_T62 (rd_L5 l0 x19_1) x25_2).f1))) (fun _ hk => hk.1)))); (case aS => exact (below_size (hbC _))); (case aL => have := LMc14.out; omega); intro v882 w19 ho hb hg hat; rw [← Ny881.out] at ho; have n0_ := ak (Kd.S_after (ok := (fun k_ => nb k_ v875)) (by (with_reducible repeat (first | apply Kd.S_alloc | apply Kd.S_drewN | apply Kd.S_drew)); exact Kd.S_mono (Kd.S_far (p := ⟨gb880, 1, none⟩) (Kd.S_far (p := ⟨gb880, 0, none⟩) (Kd.S_types HO_4.out BK880.out (by decide)) (fun _ hk => hk.2) (.int .i64 ((rd_T62 (rd_L5 l0 x19_1) x25_2).f0))) (fun _ hk => hk.2) (.int .i64 ((rd_T62 (rd_L5 l0 x19_1) x25_2).f1))) (fun _ hk => ⟨hk.1.1, hk.1.2⟩)) hg hat); have n1_ := ak (Kd.R_after (ok := (fun _ => True)) (rD (Kd.R_mono (Kd.R_far (p := ⟨gb880, 1, none⟩) (Kd.R_far (p := ⟨gb880, 0, none⟩) (Kd.R_types HO_6.out BK880.out (by decide)) (fun _ hk => hk.2) (.int .i64 ((rd_T62 (rd_L5 l0 x19_1) x25_2).f0))) (fun _ hk => hk.2) (.int .i64 ((rd_T62 (rd_L5 l0 x19_1) x25_2).f1))) (fun _ hk => ⟨trivial, hk.1⟩))) hg hat); have n2_ := ak (blk_grown (g := gb880) (o := .cells #[.int .i64 ((rd_T62 (rd_L5 l0 x19_1) x25_2).f0), .int .i64 ((rd_T62 (rd_L5 l0 x19_1) x25_2).f1)] 62 (0, 0)) (by (with_reducible repeat (first | refine blk_drewN ?_ _ | refine blk_drew ?_ | refine blk_alloc ?_ _)); refine blk_put (cs := #[.int .i64 ((rd_T62 (rd_L5 l0 x19_1) x25_2).f0), .int .i64 0]) ?_ 1 _ rfl; (with_reducible repeat (first | refine blk_drewN ?_ _ | refine blk_drew ?_ | refine blk_alloc ?_ _)); refine blk_put (cs := #[.int .i64 0, .int .i64 0]) ?_ 0 _ rfl; (with_reducible repeat (first | refine blk_drewN ?_ _ | refine blk_drew ?_ | refine blk_alloc ?_ _)); exact BK880.out) hg (Kd.R_ne HO_9.out BK880.out (by decide))); have n3_ := ak (hb); have n4_ := ak (ho); clear HO_4; clear HO_6; clear BK880; clear HB; clear HO_9; have HO_4 := n0_; have HO_6 := n1_; have BK880 := n2_; have HB := n3_; have HO883 := n4_; clear n0_ n1_ n2_ n3_ n4_; clear ho hb hg hat; obtain ⟨Ao20, co20, eo20⟩ := Kd.R_slice HO_6.out; subst eo20; have p884 : 0 ≤ (x25_2 : Int) := dA; have q884 : x25_2 < (x6_2.length : Int) := dA; obtain ⟨ad884, e884, hx884_0⟩ := Kd.at_int (Kd.R_reads' HO_6.out).2.2 x25_2 p884 q884; cases e884; replace p884 := eq_true p884; replace q884 := eq_true q884; have p16 : 0 ≤ (x25_2 : Int) := dA; have q16 : (x25_2 : Int) < ((x6_2.length : Int) : Int) := dA; obtain ⟨go16, co16, eo16, gb16, gl16, cl16, HG16⟩ := Kd.R_form HO_6.out (by omega); (first | cases eo16 | (injection eo16 with ea_ en_ ec_; (first | subst ea_ | (injection ea_ with ea_; subst ea_)); subst ec_; clear en_)); have GB16 := Aside0.mk gb16; have GG16 := Aside0.mk HG16; clear gb16 gl16 HG16; (first | simp only [add_plain] at hx884_0 | skip); obtain ⟨hx16_0, hf16_0⟩ := Kd.R_celln 0 HO_6.out (x25_2 : Int) p16 q16; replace p16 := eq_true p16; replace q16 := eq_true q16; have n_ := ak (Kd.R_mono (ok' := (fun k_ => nb k_ v882)) HO_6.out (fun k_ hk => hk.2)); clear HO_6; have HO_6 := n_; clear n_; obtain ⟨hy21_, hz21_⟩ := Kd.R_celln 0 HO_6.out (x25_2 : Int) (dA) (dA); have HP21 := Kd.R_putg HO_6.out (x25_2 : Int) (wrap64 ((rd x6_2 x25_2) + (wrap64 (((rd_T62 (rd_L5 l0 x19_1) x25_2).f0) * (wrap64 (Int.tdiv a1 ((rd_T62 (rd_L5 l0 x19_1) x25_2).f1)))))))) | ((with_reducible refine gate_store (t := 3) (p := 50) rfl ?_); (try (rw [drewN_self w19]; generalize hq_ : World.drewN w19 _ = w19; have n0_ := ak (Kd.S_at hq_ HO_4.out); have n1_ := ak (Kd.R_at hq_ HO_6.out); have n2_ := ak (Kd.R_at hq_ HO883.out); have n3_ := ak (blk_at hq_ BK880.out); have n4_ := ak (below_at hq_ HB.out); clear hq_ HO_4 HO_6 HO883 BK880 HB; have HO_4 := n0_; have HO_6 := n1_; have HO883 := n2_; have BK880 := n3_; have HB := n4_; clear n0_ n1_ n2_ n3_ n4_; (try (have n_ := ak (Kd.R_mono (ok' := (fun k_ => nb k_ v882)) HO_6.out (fun k_ hk => hk.2)); clear HO_6; have HO_6 := n_; clear n_)); (try (obtain ⟨hy21_, hz21_⟩ := Kd.R_celln 0 HO_6.out (x25_2 : Int) (dA) (dA))); (try (have HP21 := Kd.R_putg HO_6.out (x25_2 : Int) (wrap64 ((rd x6_2 x25_2) + (wrap64 (((rd_T62 (rd_L5 l0 x19_1) x25_2).f0) * (wrap64 (Int.tdiv a1 ((rd_T62 (rd_L5 l0 x19_1) x25_2).f1))))))))))); refine store_event (t := 3) (p := 50) (v := ?vo_w22) (w1 := (w19.setCell ⟨go16, (x25_2 : Int).toNat, none⟩ (.int .i64 (wrap64 ((rd x6_2 x25_2) + (wrap64 (((rd_T62 (rd_L5 l0 x19_1) x25_2).f0) * (wrap64 (Int.tdiv a1 ((rd_T62 (rd_L5 l0 x19_1) x25_2).f1)))))))))) ?hg ?ho ?hn ?hr ?_; (case ho => rfl); (case hg => rfl); (case hn => rfl); (case hr => first | (go_simp; done) | (go_simp; rfl)); intro w22 hw; have hg : w19.grownBy w22 (some go16) := (by rw [hw]; exact HP21.2); have hp_ : Kd.R (Kd.int .i64) 3 w22 w.heap.size (fun k_ => nb k_ v882) (.slice (some ⟨go16, 0, none⟩) x6_2.length co20) y885 := (by rw [hw, Ny885.out]; exact HP21.1); clear HP21; replace HO_4 := ak (Kd.S_after (v := (.slice (some ⟨go16, 0, none⟩) x6_2.length co20)) (v1 := (.slice (some ⟨go16, 0, none⟩) x6_2.length co20)) (ok := (fun k_ => nb k_ v882)) (by (with_reducible repeat (first | apply Kd.S_alloc | apply Kd.S_drewN | apply Kd.S_drew)); exact Kd.S_mono HO_4.out (fun _ hk => ⟨hk.2, hk.1⟩)) hg (.inl rfl)); replace BK880 := ak (blk_grown (g := gb880) (o := .cells #[.int .i64 ((rd_T62 (rd_L5 l0 x19_1) x25_2).f0), .int .i64 ((rd_T62 (rd_L5 l0 x19_1) x25_2).f1)] 62 (0, 0)) (bkC BK880) hg (Kd.R_ne HO_6.out BK880.out (by decide))); replace HO_6 := ak (hp_); replace HO883 := ak (Kd.R_after (v := (.slice (some ⟨go16, 0, none⟩) x6_2.length co20)) (v1 := (.slice (some ⟨go16, 0, none⟩) x6_2.length co20)) (ok := (fun _ => True)) (rD (Kd.R_mono HO883.out (fun _ hk => ⟨trivial, hk⟩))) hg (.inl rfl)); replace HB := ak ((by rw [hw]; exact below_set (HB.out) GB16.out : Below w.heap.size w w22)); clear hg hw hp_)); try go_wp2_with (first | ((with_reducible refine gate_dst (N := 12) rfl ?_); refine bE 12 #[.int .i64 0, .int .i64 0] 62 ?_; intro gb880 hg w17 hbox hb; replace HO_4 := ak (Kd.S_below (by (with_reducible repeat (first | apply Kd.S_alloc | apply Kd.S_drewN | apply Kd.S_drew)); exact HO_4.out) hb); replace HO_6 := kO HO_6 hb; replace HO_9 := kO HO_9 hb; have BK880 := ak (hbox); have GW880 := kG w hg; have GE880 := kG w hg; replace HB := kH _ hb; clear hb hbox hg; have hcz18_0 : w17.cell? ⟨gb880, 0, none⟩ = some (.int .i64 0) := bc BK880 0; have hcz18_1 : w17.cell? ⟨gb880, 1, none⟩ = some (.int .i64 0) := bc BK880 1; have hD_ : w17.cell? ⟨gb3, 0, none⟩ = some (.int .i64 a1) := (HB.out.cell (World.block_lt_of_cell? w _ HKD.out)).trans HKD.out; have hne1_ : ¬ gb880 = gb3 := (fun h_ => by have h1_ := GW880.out; have h2_ : gb3 < w.heap.size := World.block_lt_of_cell? w _ HKD.out; omega); have hne2_ : ¬ gb3 = gb880 := (fun h_ => hne1_ h_.symm); have hfz18_0 := fz BK880 0; have hfz18_1 := fz BK880 1) | ((with_reducible refine gate_builtin (b := .append) (xs := #[.tmp 37, .tmp 39]) rfl ?_); at_builtin; refine Kd.R_append (Kd.int .i64) (w0 := w) w.heap.size rfl (.tmp 37) (.tmp 39) 22 3 (.int .i64 0) 8 rfl Try.underlying22 info3 rfl (by decide) (by omega) u9 x9_2 (wrap64 (((rd_T62 (rd_L5 l0 x19_1) x25_2).f0) * (wrap64 (Int.tdiv a1 ((rd_T62 (rd_L5 l0 x19_1) x25_2).f1))))) [.int .i64 (wrap64 (((rd_T62 (rd_L5 l0 x19_1) x25_2).f0) * (wrap64 (Int.tdiv a1 ((rd_T62 (rd_L5 l0 x19_1) x25_2).f1)))))] (fun k_ => nb k_ v875) (fun _ => False) rfl (by first | (go_simp; done) | (go_simp; rfl)) ?aP (fun _ hk => hk.elim) ?aF ?aO ?aB ?aS ?aL ?_; (case aP => exact rfl); (case aB => exact (hbC _)); (case aF => exact (fun k_ hk => Kd.fresh' (Kd.R_lt (rD ((Kd.R_mono (Kd.R_far (p := ⟨gb880, 1, none⟩) (Kd.R_far (p := ⟨gb880, 0, none⟩) (Kd.R_types HO_6.out BK880.out (by decide)) (fun _ hk => hk.2) (.int .i64 ((rd_T62 (rd_L5 l0 x19_1) x25_2).f0))) (fun _ hk => hk.2) (.int .i64 ((rd_T62 (rd_L5 l0 x19_1) x25_2).f1))) (fun _ h_ => h_.1))))) k_ hk)); (case aO => exact (rD (Kd.R_mono (Kd.R_far (p := ⟨gb880, 1, none⟩) (Kd.R_far (p := ⟨gb880, 0, none⟩) (Kd.R_types HO_9.out BK880.out (by decide)) (fun _ hk => hk.2) (.int .i64 ((rd_T62 (rd_L5 l0 x19_1) x25_2).f0))) (fun _ hk => hk.2) (.int .i64 ((rd_T62 (rd_L5 l0 x19_1) x25_2).f1))) (fun _ hk => hk.1)))); (case aS => exact (below_size (hbC _))); (case aL => have := LMc14.out; omega); intro v882 w19 ho hb hg hat; rw [← Ny881.out] at ho; have n0_ := ak (Kd.S_after (ok := (fun k_ => nb k_ v875)) (by (with_reducible repeat (first | apply Kd.S_alloc | apply Kd.S_drewN | apply Kd.S_drew)); exact Kd.S_mono (Kd.S_far (p := ⟨gb880, 1, none⟩) (Kd.S_far (p := ⟨gb880, 0, none⟩) (Kd.S_types HO_4.out BK880.out (by decide)) (fun _ hk => hk.2) (.int .i64 ((rd_T62 (rd_L5 l0 x19_1) x25_2).f0))) (fun _ hk => hk.2) (.int .i64 ((rd_T62 (rd_L5 l0 x19_1) x25_2).f1))) (fun _ hk => ⟨hk.1.1, hk.1.2⟩)) hg hat); have n1_ := ak (Kd.R_after (ok := (fun _ => True)) (rD (Kd.R_mono (Kd.R_far (p := ⟨gb880, 1, none⟩) (Kd.R_far (p := ⟨gb880, 0, none⟩) (Kd.R_types HO_6.out BK880.out (by decide)) (fun _ hk => hk.2) (.int .i64 ((rd_T62 (rd_L5 l0 x19_1) x25_2).f0))) (fun _ hk => hk.2) (.int .i64 ((rd_T62 (rd_L5 l0 x19_1) x25_2).f1))) (fun _ hk => ⟨trivial, hk.1⟩))) hg hat); have n2_ := ak (blk_grown (g := gb880) (o := .cells #[.int .i64 ((rd_T62 (rd_L5 l0 x19_1) x25_2).f0), .int .i64 ((rd_T62 (rd_L5 l0 x19_1) x25_2).f1)] 62 (0, 0)) (by (with_reducible repeat (first | refine blk_drewN ?_ _ | refine blk_drew ?_ | refine blk_alloc ?_ _)); refine blk_put (cs := #[.int .i64 ((rd_T62 (rd_L5 l0 x19_1) x25_2).f0), .int .i64 0]) ?_ 1 _ rfl; (with_reducible repeat (first | refine blk_drewN ?_ _ | refine blk_drew ?_ | refine blk_alloc ?_ _)); refine blk_put (cs := #[.int .i64 0, .int .i64 0]) ?_ 0 _ rfl; (with_reducible repeat (first | refine blk_drewN ?_ _ | refine blk_drew ?_ | refine blk_alloc ?_ _)); exact BK880.out) hg (Kd.R_ne HO_9.out BK880.out (by decide))); have n3_ := ak (hb); have n4_ := ak (ho); clear HO_4; clear HO_6; clear BK880; clear HB; clear HO_9; have HO_4 := n0_; have HO_6 := n1_; have BK880 := n2_; have HB := n3_; have HO883 := n4_; clear n0_ n1_ n2_ n3_ n4_; clear ho hb hg hat; obtain ⟨Ao20, co20, eo20⟩ := Kd.R_slice HO_6.out; subst eo20; have p884 : 0 ≤ (x25_2 : Int) := dA; have q884 : x25_2 < (x6_2.length : Int) := dA; obtain ⟨ad884, e884, hx884_0⟩ := Kd.at_int (Kd.R_reads' HO_6.out).2.2 x25_2 p884 q884; cases e884; replace p884 := eq_true p884; replace q884 := eq_true q884; have p16 : 0 ≤ (x25_2 : Int) := dA; have q16 : (x25_2 : Int) < ((x6_2.length : Int) : Int) := dA; obtain ⟨go16, co16, eo16, gb16, gl16, cl16, HG16⟩ := Kd.R_form HO_6.out (by omega); (first | cases eo16 | (injection eo16 with ea_ en_ ec_; (first | subst ea_ | (injection ea_ with ea_; subst ea_)); subst ec_; clear en_)); have GB16 := Aside0.mk gb16; have GG16 := Aside0.mk HG16; clear gb16 gl16 HG16; (first | simp only [add_plain] at hx884_0 | skip); obtain ⟨hx16_0, hf16_0⟩ := Kd.R_celln 0 HO_6.out (x25_2 : Int) p16 q16; replace p16 := eq_true p16; replace q16 := eq_true q16; have n_ := ak (Kd.R_mono (ok' := (fun k_ => nb k_ v882)) HO_6.out (fun k_ hk => hk.2)); clear HO_6; have HO_6 := n_; clear n_; obtain ⟨hy21_, hz21_⟩ := Kd.R_celln 0 HO_6.out (x25_2 : Int) (dA) (dA); have HP21 := Kd.R_putg HO_6.out (x25_2 : Int) (wrap64 ((rd x6_2 x25_2) + (wrap64 (((rd_T62 (rd_L5 l0 x19_1) x25_2).f0) * (wrap64 (Int.tdiv a1 ((rd_T62 (rd_L5 l0 x19_1) x25_2).f1)))))))) | ((with_reducible refine gate_store (t := 3) (p := 50) rfl ?_); (try (rw [drewN_self w19]; generalize hq_ : World.drewN w19 _ = w19; have n0_ := ak (Kd.S_at hq_ HO_4.out); have n1_ := ak (Kd.R_at hq_ HO_6.out); have n2_ := ak (Kd.R_at hq_ HO883.out); have n3_ := ak (blk_at hq_ BK880.out); have n4_ := ak (below_at hq_ HB.out); clear hq_ HO_4 HO_6 HO883 BK880 HB; have HO_4 := n0_; have HO_6 := n1_; have HO883 := n2_; have BK880 := n3_; have HB := n4_; clear n0_ n1_ n2_ n3_ n4_; (try (have n_ := ak (Kd.R_mono (ok' := (fun k_ => nb k_ v882)) HO_6.out (fun k_ hk => hk.2)); clear HO_6; have HO_6 := n_; clear n_)); (try (obtain ⟨hy21_, hz21_⟩ := Kd.R_celln 0 HO_6.out (x25_2 : Int) (dA) (dA))); (try (have HP21 := Kd.R_putg HO_6.out (x25_2 : Int) (wrap64 ((rd x6_2 x25_2) + (wrap64 (((rd_T62 (rd_L5 l0 x19_1) x25_2).f0) * (wrap64 (Int.tdiv a1 ((rd_T62 (rd_L5 l0 x19_1) x25_2).f1))))))))))); refine store_event (t := 3) (p := 50) (v := ?vo_w22) (w1 := (w19.setCell ⟨go16, (x25_2 : Int).toNat, none⟩ (.int .i64 (wrap64 ((rd x6_2 x25_2) + (wrap64 (((rd_T62 (rd_L5 l0 x19_1) x25_2).f0) * (wrap64 (Int.tdiv a1 ((rd_T62 (rd_L5 l0 x19_1) x25_2).f1)))))))))) ?hg ?ho ?hn ?hr ?_; (case ho => rfl); (case hg => rfl); (case hn => rfl); (case hr => first | (go_simp; done) | (go_simp; rfl)); intro w22 hw; have hg : w19.grownBy w22 (some go16) := (by rw [hw]; exact HP21.2); have hp_ : Kd.R (Kd.int .i64) 3 w22 w.heap.size (fun k_ => nb k_ v882) (.slice (some ⟨go16, 0, none⟩) x6_2.length co20) y885 := (by rw [hw, Ny885.out]; exact HP21.1); clear HP21; replace HO_4 := ak (Kd.S_after (v := (.slice (some ⟨go16, 0, none⟩) x6_2.length co20)) (v1 := (.slice (some ⟨go16, 0, none⟩) x6_2.length co20)) (ok := (fun k_ => nb k_ v882)) (by (with_reducible repeat (first | apply Kd.S_alloc | apply Kd.S_drewN | apply Kd.S_drew)); exact Kd.S_mono HO_4.out (fun _ hk => ⟨hk.2, hk.1⟩)) hg (.inl rfl)); replace BK880 := ak (blk_grown (g := gb880) (o := .cells #[.int .i64 ((rd_T62 (rd_L5 l0 x19_1) x25_2).f0), .int .i64 ((rd_T62 (rd_L5 l0 x19_1) x25_2).f1)] 62 (0, 0)) (bkC BK880) hg (Kd.R_ne HO_6.out BK880.out (by decide))); replace HO_6 := ak (hp_); replace HO883 := ak (Kd.R_after (v := (.slice (some ⟨go16, 0, none⟩) x6_2.length co20)) (v1 := (.slice (some ⟨go16, 0, none⟩) x6_2.length co20)) (ok := (fun _ => True)) (rD (Kd.R_mono HO883.out (fun _ hk => ⟨trivial, hk⟩))) hg (.inl rfl)); replace HB := ak ((by rw [hw]; exact below_set (HB.out) GB16.out : Below w.heap.size w w22)); clear hg hw hp_)))
     go_roundg k2
     case measure => have := HK1.out; have := HK2.out; omega
     case rel => exact ⟨(y885), (y881), (wrap64 (x10_2 + (wrap64 (((rd_T62 (rd_L5 l0 x19_1) x25_2).f0) * (wrap64 (Int.tdiv a1 ((rd_T62 (rd_L5 l0 x19_1) x25_2).f1))))))), (wrap64 (x25_2 + 1)), (by first | rfl | (simp; done) | (simp [*]; done)), (by first | rfl | (simp; done) | (simp [*]; done)), H', ⟨by have := HK1.out; have := HK2.out; omega⟩, ⟨by (with_reducible repeat (first | apply Kd.S_alloc | apply Kd.S_drewN | apply Kd.S_drew)); exact Kd.S_mono HO_4.out (fun _ hk => ⟨hk.2, hk.1⟩)⟩, ⟨rC HO_6⟩, ⟨rD (Kd.R_mono HO883.out (fun _ hk => hk.2))⟩, ⟨hbC _⟩⟩

end Go.Proofs.Ytefmafbbnkkpjaa.X
