-- Written by a program of this work (wip/xprint.py, over the kit's printer) out of the translation.
import Derived.Test.YtpnocmkpeogifaaDoorX0
namespace Go.Proofs.YtpnocmkpeogifaaDoor.X
open Go.RowKit Go.Proofs.YtpnocmkpeogifaaDoorW.PrintWords Go.Proofs.YtpnocmkpeogifaaDoorW.PrintLast Go.Proofs.YtpnocmkpeogifaaDoorW.PrintMore
attribute [local go_sem] max2_int min2_int max_two min_two max_three min_three max_four min_four   -- for this text's walks alone
set_option linter.unusedVariables false
set_option linter.unusedSimpArgs false

/-! ### congouref04_Like: function 16 -/
mutual
def congouref04_Like.j0 : Nat → Bool → Int → List Int → List Int → Int → List Int → List Int → Option (Bool)
 | 0, _, _, _, _, _, _, _ => none
 | k + 1, x20, x452000, x452001, x452002, x453000, x453001, x453002 => if x20 = true then (some false) else (congouref04_Like.l0 k x452001 (x452001.length : Int) 0 x453000 x453001 x453002)
def congouref04_Like.l0 : Nat → List Int → Int → Int → Int → List Int → List Int → Option (Bool)
 | 0, _, _, _, _, _, _ => none
 | k + 1, x22, x23, x24, x453000, x453001, x453002 => if x24 < x23 then (if 0 ≤ x24 then (if x24 < (x22.length : Int) then (if x24 < (x453001.length : Int) then (if (rd x453001 x24) = (rd x22 x24) then (congouref04_Like.l0 k x22 x23 (wrap64 (x24 + 1)) x453000 x453001 x453002) else (some false)) else (none)) else (none)) else (none)) else (some true)
end
def congouref04_Like.f (k : Nat) (a0_0 : Int) (l0_1 : List Int) (l0_2 : List Int) (a1_0 : Int) (l1_1 : List Int) (l1_2 : List Int) : Option (Bool) := if a0_0 = a1_0 then (congouref04_Like.j0 k ((l0_1.length : Int) != (l1_1.length : Int)) a0_0 l0_1 l0_2 a1_0 l1_1 l1_2) else (congouref04_Like.j0 k true a0_0 l0_1 l0_2 a1_0 l1_1 l1_2)
theorem congouref04_Like.mono_l : ∀ k, (∀ y0 y1 y2 y3 y4 y5 y6, LeO (congouref04_Like.j0 k y0 y1 y2 y3 y4 y5 y6) (congouref04_Like.j0 (k + 1) y0 y1 y2 y3 y4 y5 y6)) ∧ (∀ y0 y1 y2 y3 y4 y5, LeO (congouref04_Like.l0 k y0 y1 y2 y3 y4 y5) (congouref04_Like.l0 (k + 1) y0 y1 y2 y3 y4 y5))
 | 0 => ⟨fun _ _ _ _ _ _ _ r h => by simp [congouref04_Like.j0] at h, fun _ _ _ _ _ _ r h => by simp [congouref04_Like.l0] at h⟩
 | k + 1 => by
  obtain ⟨ih0, ih1⟩ := congouref04_Like.mono_l k
  refine ⟨?_, ?_⟩
  ·intro y0 y1 y2 y3 y4 y5 y6
   unfold congouref04_Like.j0
   repeat' first
   | (with_reducible exact ih0 _ _ _ _ _ _ _)
   | (with_reducible exact ih1 _ _ _ _ _ _)
   | (with_reducible exact LeO.refl _)
   | (with_reducible exact LeO.none _)
   | (with_reducible refine LeO.ite ?_ ?_)
   | (with_reducible refine LeO.bind ?_ (fun _ => ?_))
   | exact ih0 _ _ _ _ _ _ _
   | exact ih1 _ _ _ _ _ _
   | exact LeO.none _
   | refine LeO.ite ?_ ?_
   | refine LeO.bind ?_ (fun _ => ?_)
  ·intro y0 y1 y2 y3 y4 y5
   unfold congouref04_Like.l0
   repeat' first
   | (with_reducible exact ih0 _ _ _ _ _ _ _)
   | (with_reducible exact ih1 _ _ _ _ _ _)
   | (with_reducible exact LeO.refl _)
   | (with_reducible exact LeO.none _)
   | (with_reducible refine LeO.ite ?_ ?_)
   | (with_reducible refine LeO.bind ?_ (fun _ => ?_))
   | exact ih0 _ _ _ _ _ _ _
   | exact ih1 _ _ _ _ _ _
   | exact LeO.none _
   | refine LeO.ite ?_ ?_
   | refine LeO.bind ?_ (fun _ => ?_)
theorem congouref04_Like.mono : ∀ a0 a1 a2 a3 a4 a5 k, LeO (congouref04_Like.f k a0 a1 a2 a3 a4 a5) (congouref04_Like.f (k + 1) a0 a1 a2 a3 a4 a5) := by
 intro a0 a1 a2 a3 a4 a5 k
 obtain ⟨ih0, ih1⟩ := congouref04_Like.mono_l k
 unfold congouref04_Like.f
 repeat' first
   | (with_reducible exact ih0 _ _ _ _ _ _ _)
   | (with_reducible exact ih1 _ _ _ _ _ _)
   | (with_reducible exact LeO.refl _)
   | (with_reducible exact LeO.none _)
   | (with_reducible refine LeO.ite ?_ ?_)
   | (with_reducible refine LeO.bind ?_ (fun _ => ?_))
   | exact ih0 _ _ _ _ _ _ _
   | exact ih1 _ _ _ _ _ _
   | exact LeO.none _
   | refine LeO.ite ?_ ?_
   | refine LeO.bind ?_ (fun _ => ?_)
set_option maxHeartbeats 8000000 in
set_option maxRecDepth 100000 in
theorem congouref04_Like.calls (k : Nat) (a0_0 : Int) (A0_1 : Option Addr) (c0_1 : Nat) (l0_1 : List Int) (A0_2 : Option Addr) (c0_2 : Nat) (l0_2 : List Int) (a1_0 : Int) (A1_1 : Option Addr) (c1_1 : Nat) (l1_1 : List Int) (A1_2 : Option Addr) (c1_2 : Nat) (l1_2 : List Int) (r : Bool) (w : World) (hr0_1 : Kd.C (Kd.int .i64) w A0_1 l0_1.length l0_1) (hc0_1 : l0_1.length ≤ c0_1) (hr0_2 : Kd.C (Kd.int .i64) w A0_2 l0_2.length l0_2) (hc0_2 : l0_2.length ≤ c0_2) (hr1_1 : Kd.C (Kd.int .i64) w A1_1 l1_1.length l1_1) (hc1_1 : l1_1.length ≤ c1_1) (hr1_2 : Kd.C (Kd.int .i64) w A1_2 l1_2.length l1_2) (hc1_2 : l1_2.length ≤ c1_2) (h : congouref04_Like.f k a0_0 l0_1 l0_2 a1_0 l1_1 l1_2 = some r) :
  Calls Tryd.prog 16 #[.agg #[.int .i64 a0_0, .slice A0_1 l0_1.length c0_1, .slice A0_2 l0_2.length c0_2], .agg #[.int .i64 a1_0, .slice A1_1 l1_1.length c1_1, .slice A1_2 l1_2.length c1_2]] w fun e w' => e = .returned (.bool r) ∧ Below w.heap.size w w' := by
 have hu24 := Tryd.underlying24
 have HR0_1 := Aside0.mk hr0_1
 have HC0_1 := Aside0.mk hc0_1
 clear hr0_1 hc0_1
 have HR0_2 := Aside0.mk hr0_2
 have HC0_2 := Aside0.mk hc0_2
 clear hr0_2 hc0_2
 have HR1_1 := Aside0.mk hr1_1
 have HC1_1 := Aside0.mk hc1_1
 clear hr1_1 hc1_1
 have HR1_2 := Aside0.mk hr1_2
 have HC1_2 := Aside0.mk hc1_2
 clear hr1_2 hc1_2
 have HB := ak (Below.refl w.heap.size w)
 have H : (if a0_0 = a1_0 then (congouref04_Like.j0 k ((l0_1.length : Int) != (l1_1.length : Int)) a0_0 l0_1 l0_2 a1_0 l1_1 l1_2) else (congouref04_Like.j0 k true a0_0 l0_1 l0_2 a1_0 l1_1 l1_2)) = some r := h
 clear h
 have HC3 := Aside0.mk H
 clear H
 go_enter Tryd.func16, Tryd.ntmps16
 go_upto_region 1 with (first | ((with_reducible refine gate_dst (N := 2) rfl ?_); (try (refine gate_guard (by rfl) ?_; dsimp only)); refine bE 2 #[.int .i64 a0_0, .slice A0_1 l0_1.length c0_1, .slice A0_2 l0_2.length c0_2] 24 ?_; intro gb451 hg w4 hbox hb; have BK451 := ak (hbox); have GW451 := kG w hg; have GE451 := kG w hg; replace HB := kH _ hb; clear hb hbox hg) | ((with_reducible refine gate_dst (N := 3) rfl ?_); (try (refine gate_guard (by rfl) ?_; dsimp only)); refine bE 3 #[.int .i64 a1_0, .slice A1_1 l1_1.length c1_1, .slice A1_2 l1_2.length c1_2] 24 ?_; intro gb452 hg w5 hbox hb; have BK452 := ak (hbox); have GW452 := kG w hg; have GE452 := kG w hg; replace HB := kH _ hb; have NB451_452 := kL BK451 hg; have NB452_451 := kR BK451 hg; replace BK451 := kB BK451 hb; clear hb hbox hg))
 (try simp only [Act.put, List.setIfInBounds_toArray, List.set_cons_zero, List.set_cons_succ])
 go_cut [20] (fun v20 wc => ∃ (kq : Nat) (x20_2 : Bool), v20 = .bool x20_2 ∧ Aside0 (congouref04_Like.j0 kq x20_2 a0_0 l0_1 l0_2 a1_0 l1_1 l1_2 = some r) ∧ Aside0 (kq ≤ k) ∧ Aside0 (wc.heap[gb451]? = some (.cells #[.int .i64 a0_0, (.slice A0_1 l0_1.length c0_1), (.slice A0_2 l0_2.length c0_2)] 24 (0, 0))) ∧ Aside0 (wc.heap[gb452]? = some (.cells #[.int .i64 a1_0, (.slice A1_1 l1_1.length c1_1), (.slice A1_2 l1_2.length c1_2)] 24 (0, 0))) ∧ Aside0 (Below w.heap.size w wc))
 case first =>
  have H := HC3.out
  clear HC3
  by_cases c6 : a0_0 = a1_0
  rotate_left
  ·rw [if_neg c6] at H
   have c6b0 : (a0_0 == a1_0) = false := beq_eq_false_iff_ne.mpr c6
   have c6b1 : (a0_0 != a1_0) = true := bne_iff_ne.mpr c6
   (first | rw [c6b0] | (simp only [i64_w, i32_w]; rw [c6b0]) | skip)
   have H' := Aside0.mk H
   clear H
   have hnb10 := NB451_452.out
   have hnc10 := NB452_451.out
   have hcz11_0 : w5.cell? ⟨gb451, 0, none⟩ = some (.int .i64 a0_0) := bc BK451 0
   have hcz11_1 : w5.cell? ⟨gb451, 1, none⟩ = some (.slice A0_1 l0_1.length c0_1) := bc BK451 1
   have hcz11_2 : w5.cell? ⟨gb451, 2, none⟩ = some (.slice A0_2 l0_2.length c0_2) := bc BK451 2
   have hfz11_0 := fz BK451 0
   have hfz11_1 := fz BK451 1
   have hfz11_2 := fz BK451 2
   have hcz12_0 : w5.cell? ⟨gb452, 0, none⟩ = some (.int .i64 a1_0) := bc BK452 0
   have hcz12_1 : w5.cell? ⟨gb452, 1, none⟩ = some (.slice A1_1 l1_1.length c1_1) := bc BK452 1
   have hcz12_2 : w5.cell? ⟨gb452, 2, none⟩ = some (.slice A1_2 l1_2.length c1_2) := bc BK452 2
   have hfz12_0 := fz BK452 0
   have hfz12_1 := fz BK452 1
   have hfz12_2 := fz BK452 2
   go_wp2
   go_meet
   case rel => exact ⟨_, (true), (by first | rfl | (simp; done) | (simp [*]; done)), H', ⟨by first | omega | exact Nat.le_refl _⟩, ⟨bkC BK451⟩, ⟨bkC BK452⟩, ⟨hbC _⟩⟩
  rw [if_pos c6] at H
  have c6b0 : (a0_0 == a1_0) = true := beq_iff_eq.mpr c6
  have c6b1 : (a0_0 != a1_0) = false := bne_eq_false_iff_eq.mpr c6
  clear c6
  (first | rw [c6b0] | (simp only [i64_w, i32_w]; rw [c6b0]) | skip)
  have H' := Aside0.mk H
  clear H
  have hnb7 := NB451_452.out
  have hnc7 := NB452_451.out
  have hcz8_0 : w5.cell? ⟨gb451, 0, none⟩ = some (.int .i64 a0_0) := bc BK451 0
  have hcz8_1 : w5.cell? ⟨gb451, 1, none⟩ = some (.slice A0_1 l0_1.length c0_1) := bc BK451 1
  have hcz8_2 : w5.cell? ⟨gb451, 2, none⟩ = some (.slice A0_2 l0_2.length c0_2) := bc BK451 2
  have hfz8_0 := fz BK451 0
  have hfz8_1 := fz BK451 1
  have hfz8_2 := fz BK451 2
  have hcz9_0 : w5.cell? ⟨gb452, 0, none⟩ = some (.int .i64 a1_0) := bc BK452 0
  have hcz9_1 : w5.cell? ⟨gb452, 1, none⟩ = some (.slice A1_1 l1_1.length c1_1) := bc BK452 1
  have hcz9_2 : w5.cell? ⟨gb452, 2, none⟩ = some (.slice A1_2 l1_2.length c1_2) := bc BK452 2
  have hfz9_0 := fz BK452 0
  have hfz9_1 := fz BK452 1
  have hfz9_2 := fz BK452 2
  go_wp2
  go_meet
  case rel => exact ⟨_, (((l0_1.length : Int) != (l1_1.length : Int))), (by first | rfl | (simp; done) | (simp [*]; done)), H', ⟨by first | omega | exact Nat.le_refl _⟩, ⟨bkC BK451⟩, ⟨bkC BK452⟩, ⟨hbC _⟩⟩
 case rest =>
  clear HC3
  try clear c1
  try clear p2
  try clear c6
  try clear c6b0
  try clear c6b1
  try clear c7
  try clear c10
  try clear hcz11_0
  try clear hcz11_1
  try clear hcz11_2
  try clear hcz12_0
  try clear hcz12_1
  try clear hcz12_2
  try clear hcz8_0
  try clear hcz8_1
  try clear hcz8_2
  try clear hcz9_0
  try clear hcz9_1
  try clear hcz9_2
  try clear hfz11_0
  try clear hfz11_1
  try clear hfz11_2
  try clear hfz12_0
  try clear hfz12_1
  try clear hfz12_2
  try clear hfz8_0
  try clear hfz8_1
  try clear hfz8_2
  try clear hfz9_0
  try clear hfz9_1
  try clear hfz9_2
  obtain ⟨kq, x20_2, rfl, HA, HJ2, BK451, BK452, HB⟩ := hcut
  cases kq with
  | zero => exact absurd HA.out (by simp [congouref04_Like.j0])
  | succ kj2 =>
   have H := HA.out
   clear HA
   simp only [congouref04_Like.j0] at H
   by_cases c13 : x20_2 = true
   ·subst c13
    have H1 : (some false) = some r := by rw [if_pos rfl] at H; exact H
    clear H
    have H := H1
    clear H1
    obtain rfl := Option.some.inj H
    go_wp2
    go_ret
    exact ⟨by first | rfl | (simp [errW_none, errW_some] <;> rfl) | (simp [*, errW_none, errW_some] <;> rfl), hbC _⟩
   replace c13 := Bool.eq_false_iff.mpr c13
   subst c13
   have H1 : (congouref04_Like.l0 kj2 l0_1 (l0_1.length : Int) 0 a1_0 l1_1 l1_2) = some r := by rw [if_neg (show ¬ (false = true) by decide)] at H; exact H
   clear H
   have H := H1
   clear H1
   have H' := Aside0.mk H
   clear H
   have hnb14 := NB451_452.out
   have hnc14 := NB452_451.out
   have hcz15_0 : wc.cell? ⟨gb451, 0, none⟩ = some (.int .i64 a0_0) := bc BK451 0
   have hcz15_1 : wc.cell? ⟨gb451, 1, none⟩ = some (.slice A0_1 l0_1.length c0_1) := bc BK451 1
   have hcz15_2 : wc.cell? ⟨gb451, 2, none⟩ = some (.slice A0_2 l0_2.length c0_2) := bc BK451 2
   have hfz15_0 := fz BK451 0
   have hfz15_1 := fz BK451 1
   have hfz15_2 := fz BK451 2
   go_wp2
   go_loopg [24] kj2 (fun kq v24 w' => ∃ (x24_2 : Int), v24 = .int .i64 x24_2 ∧ Aside0 (congouref04_Like.l0 kq l0_1 (l0_1.length : Int) x24_2 a1_0 l1_1 l1_2 = some r) ∧ Aside0 (kq ≤ kj2) ∧ Aside0 (w'.heap[gb451]? = some (.cells #[.int .i64 a0_0, (.slice A0_1 l0_1.length c0_1), (.slice A0_2 l0_2.length c0_2)] 24 (0, 0))) ∧ Aside0 (w'.heap[gb452]? = some (.cells #[.int .i64 a1_0, (.slice A1_1 l1_1.length c1_1), (.slice A1_2 l1_2.length c1_2)] 24 (0, 0))) ∧ Aside0 (Below w.heap.size w w'))
   case atStart => exact ⟨(0), (by first | rfl | (simp; done) | (simp [*]; done)), H', ⟨Nat.le_refl _⟩, ⟨bkC BK451⟩, ⟨bkC BK452⟩, ⟨hbC _⟩⟩
   case round =>
    clear H'
    try clear c1
    try clear p2
    try clear c6
    try clear c6b0
    try clear c6b1
    try clear c7
    try clear c10
    try clear c13
    try clear c14
    try clear hcz11_0
    try clear hcz11_1
    try clear hcz11_2
    try clear hcz12_0
    try clear hcz12_1
    try clear hcz12_2
    try clear hcz15_0
    try clear hcz15_1
    try clear hcz15_2
    try clear hcz8_0
    try clear hcz8_1
    try clear hcz8_2
    try clear hcz9_0
    try clear hcz9_1
    try clear hcz9_2
    try clear hfz11_0
    try clear hfz11_1
    try clear hfz11_2
    try clear hfz12_0
    try clear hfz12_1
    try clear hfz12_2
    try clear hfz15_0
    try clear hfz15_1
    try clear hfz15_2
    try clear hfz8_0
    try clear hfz8_1
    try clear hfz8_2
    try clear hfz9_0
    try clear hfz9_1
    try clear hfz9_2
    try clear p2
    obtain ⟨x24_2, rfl, HA, HK2, BK451, BK452, HB⟩ := hrel
    cases gk with
    | zero => exact absurd HA.out (by simp [congouref04_Like.l0])
    | succ k2 =>
     have H := HA.out
     clear HA
     simp only [congouref04_Like.l0] at H
     by_cases c16 : x24_2 < (l0_1.length : Int)
     rotate_left
     ·rw [if_neg c16] at H
      have c16b0 : decide (x24_2 < (l0_1.length : Int)) = false := decide_eq_false c16
      clear c16
      obtain rfl := Option.some.inj H
      go_wp2
      go_ret
      exact ⟨by first | rfl | (simp [errW_none, errW_some] <;> rfl) | (simp [*, errW_none, errW_some] <;> rfl), hbC _⟩
     rw [if_pos c16] at H
     have c16b0 : decide (x24_2 < (l0_1.length : Int)) = true := decide_eq_true c16
     clear c16
     by_cases c17 : 0 ≤ x24_2
     rotate_left
     ·rw [if_neg c17] at H
      exact absurd H (by simp)
     rw [if_pos c17] at H
     have c17b0 : decide (0 ≤ x24_2) = true := decide_eq_true c17
     clear c17
     by_cases c18 : x24_2 < (l0_1.length : Int)
     rotate_left
     ·rw [if_neg c18] at H
      exact absurd H (by simp)
     rw [if_pos c18] at H
     have c18b0 : decide (x24_2 < (l0_1.length : Int)) = true := decide_eq_true c18
     clear c18
     by_cases c19 : x24_2 < (l1_1.length : Int)
     rotate_left
     ·rw [if_neg c19] at H
      exact absurd H (by simp)
     rw [if_pos c19] at H
     have c19b0 : decide (x24_2 < (l1_1.length : Int)) = true := decide_eq_true c19
     clear c19
     by_cases c20 : (rd l1_1 x24_2) = (rd l0_1 x24_2)
     rotate_left
     ·rw [if_neg c20] at H
      have c20b0 : ((rd l1_1 x24_2) == (rd l0_1 x24_2)) = false := beq_eq_false_iff_ne.mpr c20
      have c20b1 : ((rd l1_1 x24_2) != (rd l0_1 x24_2)) = true := bne_iff_ne.mpr c20
      obtain rfl := Option.some.inj H
      have p453 : 0 ≤ (x24_2 : Int) := dA
      have q453 : x24_2 < (l0_1.length : Int) := dA
      obtain ⟨ad453, e453, hx453_0⟩ := Kd.at_int HR0_1.out x24_2 p453 q453
      cases e453
      try replace hx453_0 := (HB.out.cell (World.block_lt_of_cell? w _ hx453_0)).trans hx453_0
      replace p453 := eq_true p453
      replace q453 := eq_true q453
      have hnb23 := NB452_451.out
      have hnc23 := NB451_452.out
      have hcz24_0 : wr.cell? ⟨gb452, 0, none⟩ = some (.int .i64 a1_0) := bc BK452 0
      have hcz24_1 : wr.cell? ⟨gb452, 1, none⟩ = some (.slice A1_1 l1_1.length c1_1) := bc BK452 1
      have hcz24_2 : wr.cell? ⟨gb452, 2, none⟩ = some (.slice A1_2 l1_2.length c1_2) := bc BK452 2
      have hfz24_0 := fz BK452 0
      have hfz24_1 := fz BK452 1
      have hfz24_2 := fz BK452 2
      have p454 : 0 ≤ (x24_2 : Int) := dA
      have q454 : x24_2 < (l1_1.length : Int) := dA
      obtain ⟨ad454, e454, hx454_0⟩ := Kd.at_int HR1_1.out x24_2 p454 q454
      cases e454
      try replace hx454_0 := (HB.out.cell (World.block_lt_of_cell? w _ hx454_0)).trans hx454_0
      replace p454 := eq_true p454
      replace q454 := eq_true q454
      go_wp2
      go_ret
      exact ⟨by first | rfl | (simp [errW_none, errW_some] <;> rfl) | (simp [*, errW_none, errW_some] <;> rfl), hbC _⟩
     rw [if_pos c20] at H
     have c20b0 : ((rd l1_1 x24_2) == (rd l0_1 x24_2)) = true := beq_iff_eq.mpr c20
     have c20b1 : ((rd l1_1 x24_2) != (rd l0_1 x24_2)) = false := bne_eq_false_iff_eq.mpr c20
     clear c20
     have H' := Aside0.mk H
     clear H
     have p453 : 0 ≤ (x24_2 : Int) := dA
     have q453 : x24_2 < (l0_1.length : Int) := dA
     obtain ⟨ad453, e453, hx453_0⟩ := Kd.at_int HR0_1.out x24_2 p453 q453
     cases e453
     try replace hx453_0 := (HB.out.cell (World.block_lt_of_cell? w _ hx453_0)).trans hx453_0
     replace p453 := eq_true p453
     replace q453 := eq_true q453
     have hnb21 := NB452_451.out
     have hnc21 := NB451_452.out
     have hcz22_0 : wr.cell? ⟨gb452, 0, none⟩ = some (.int .i64 a1_0) := bc BK452 0
     have hcz22_1 : wr.cell? ⟨gb452, 1, none⟩ = some (.slice A1_1 l1_1.length c1_1) := bc BK452 1
     have hcz22_2 : wr.cell? ⟨gb452, 2, none⟩ = some (.slice A1_2 l1_2.length c1_2) := bc BK452 2
     have hfz22_0 := fz BK452 0
     have hfz22_1 := fz BK452 1
     have hfz22_2 := fz BK452 2
     have p454 : 0 ≤ (x24_2 : Int) := dA
     have q454 : x24_2 < (l1_1.length : Int) := dA
     obtain ⟨ad454, e454, hx454_0⟩ := Kd.at_int HR1_1.out x24_2 p454 q454
     cases e454
     try replace hx454_0 := (HB.out.cell (World.block_lt_of_cell? w _ hx454_0)).trans hx454_0
     replace p454 := eq_true p454
     replace q454 := eq_true q454
     go_wp2
     go_roundg k2
     case measure => have := HJ2.out; have := HK2.out; omega
     case rel => exact ⟨(wrap64 (x24_2 + 1)), (by first | rfl | (simp; done) | (simp [*]; done)), H', ⟨by have := HJ2.out; have := HK2.out; omega⟩, ⟨bkC BK451⟩, ⟨bkC BK452⟩, ⟨hbC _⟩⟩

end Go.Proofs.YtpnocmkpeogifaaDoor.X
