-- Written by a program of this work (wip/xprint.py, over the kit's printer) out of the translation.
import Derived.Test.YtpnocmkpeogifaaX0
import Derived.Test.YtpnocmkpeogifaaXG1a
import Derived.Test.YtpnocmkpeogifaaXG2a
namespace Go.Proofs.Ytpnocmkpeogifaa.X
open Go.RowKit Go.Proofs.YtpnocmkpeogifaaW.PrintWords Go.Proofs.YtpnocmkpeogifaaW.PrintLast Go.Proofs.YtpnocmkpeogifaaW.PrintMore
attribute [local go_sem] max2_int min2_int max_two min_two max_three min_three max_four min_four   -- for this text's walks alone
set_option linter.unusedVariables false
set_option linter.unusedSimpArgs false

/-! ### congouref04_Slope: function 41 -/
def congouref04_Slope.l0 : Nat → List (S26) → Int → Int → Int → List Int → List Int → Option (Int × List Int × (List (S26)))
 | 0, _, _, _, _, _, _ => none
 | k + 1, x5, x11, x12, x892000, x892001, x892002 => if x12 < x11 then (if 0 ≤ (wrap64 ((wrap64 (x12 + x892000)) + 1)) then (if (wrap64 ((wrap64 (x12 + x892000)) + 1)) < (x892001.length : Int) then (if 0 ≤ (wrap64 (x12 + 1)) then (if (wrap64 (x12 + 1)) < (x892001.length : Int) then (if (wrap64 ((rd x892001 (wrap64 ((wrap64 (x12 + x892000)) + 1))) - (rd x892001 (wrap64 (x12 + 1))))) = 0 then ((congouref04_whole.f 0).bind fun bt901 => (if x5.length < 8796093022208 then (congouref04_Slope.l0 k (x5 ++ [(⟨bt901.1, bt901.2⟩ : S26)]) x11 (wrap64 (x12 + 1)) x892000 x892001 x892002) else (none))) else (if (wrap64 (x12 + 1)) < (x892002.length : Int) then (if 0 ≤ x12 then (if x12 < (x892002.length : Int) then ((congouref04_Frac.f k (wrap64 (x892000 * (wrap64 ((rd x892002 (wrap64 (x12 + 1))) - (rd x892002 x12))))) (wrap64 ((rd x892001 (wrap64 ((wrap64 (x12 + x892000)) + 1))) - (rd x892001 (wrap64 (x12 + 1)))))).bind fun bt908 => (if x5.length < 8796093022208 then (congouref04_Slope.l0 k (x5 ++ [(⟨bt908.1, bt908.2⟩ : S26)]) x11 (wrap64 (x12 + 1)) x892000 x892001 x892002) else (none))) else (none)) else (none)) else (none))) else (none)) else (none)) else (none)) else (none)) else ((some (([] : List Int) : List Int)).bind fun y892 => (if 1 ≤ (wrap64 ((x892001.length : Int) - 1)) then (if (wrap64 ((x892001.length : Int) - 1)) ≤ (x892001.length : Int) then (if y892.length + ((x892001.take ((wrap64 ((x892001.length : Int) - 1)) : Int).toNat).drop 1).length < 17592186044416 then (some (wrap64 (x892000 - 1), (y892 ++ ((x892001.take ((wrap64 ((x892001.length : Int) - 1)) : Int).toNat).drop 1)), x5)) else (none)) else (none)) else (none)))
def congouref04_Slope.f (k : Nat) (a0_0 : Int) (l0_1 : List Int) (l0_2 : List Int) : Option (Int × List Int × (List (S26))) := congouref04_Slope.l0 k ([] : List (S26)) (wrap64 ((l0_2.length : Int) - 1)) 0 a0_0 l0_1 l0_2
theorem congouref04_Slope.mono_l : ∀ k, (∀ y0 y1 y2 y3 y4 y5, LeO (congouref04_Slope.l0 k y0 y1 y2 y3 y4 y5) (congouref04_Slope.l0 (k + 1) y0 y1 y2 y3 y4 y5))
 | 0 => fun _ _ _ _ _ _ r h => by simp [congouref04_Slope.l0] at h
 | k + 1 => by
  have ih0 := congouref04_Slope.mono_l k
  ·intro y0 y1 y2 y3 y4 y5
   unfold congouref04_Slope.l0
   repeat' first
   | (with_reducible exact ih0 _ _ _ _ _ _)
   | (with_reducible exact congouref04_Frac.mono _ _ _)
   | (with_reducible exact LeO.refl _)
   | (with_reducible exact LeO.none _)
   | (with_reducible refine LeO.ite ?_ ?_)
   | (with_reducible refine LeO.bind ?_ (fun _ => ?_))
   | exact ih0 _ _ _ _ _ _
   | exact congouref04_Frac.mono _ _ _
   | exact LeO.none _
   | refine LeO.ite ?_ ?_
   | refine LeO.bind ?_ (fun _ => ?_)
theorem congouref04_Slope.mono : ∀ a0 a1 a2 k, LeO (congouref04_Slope.f k a0 a1 a2) (congouref04_Slope.f (k + 1) a0 a1 a2) := by
 intro a0 a1 a2 k
 have ih0 := congouref04_Slope.mono_l k
 unfold congouref04_Slope.f
 repeat' first
   | (with_reducible exact ih0 _ _ _ _ _ _)
   | (with_reducible exact congouref04_Frac.mono _ _ _)
   | (with_reducible exact LeO.refl _)
   | (with_reducible exact LeO.none _)
   | (with_reducible refine LeO.ite ?_ ?_)
   | (with_reducible refine LeO.bind ?_ (fun _ => ?_))
   | exact ih0 _ _ _ _ _ _
   | exact congouref04_Frac.mono _ _ _
   | exact LeO.none _
   | refine LeO.ite ?_ ?_
   | refine LeO.bind ?_ (fun _ => ?_)
def congouref04_Slope.T5 : Bool × List (List Nat × List Nat) := (true, [([], []), ([0], [0]), ([], []), ([], []), ([3], [3]), ([2, 4], [2, 4]), ([5], [5]), ([1, 6], [1, 6]), ([7], [7]), ([], []), ([9], [9]), ([], []), ([11], [11]), ([10, 12], [10, 12]), ([13], [13]), ([8, 14], [8, 14]), ([15, 0, 1, 2, 3, 4, 5, 6, 7, 8, 9, 10, 11, 12, 13, 14, 15], [15])])
def congouref04_Slope.B5 : List Nat := [0, 1, 0, 0, 8, 28, 60, 127, 255, 0, 512, 0, 2048, 7680, 15872, 32767, 65535]
theorem congouref04_Slope.tab5 : rtab .any (opsOf Try.f41 5) = congouref04_Slope.T5 := by kernel_rfl
theorem congouref04_Slope.bits5 : waitsOk congouref04_Slope.T5.2 congouref04_Slope.B5 = true := by kernel_rfl
def congouref04_Slope.T8 : Bool × List (List Nat × List Nat) := (true, [([], []), ([], []), ([1], [1]), ([], []), ([3], [3]), ([], []), ([5], [5]), ([4, 6], [4, 6]), ([7], [7]), ([], []), ([9], [9]), ([], []), ([10, 11], [10, 11]), ([12], [12]), ([8, 13], [8, 13]), ([2, 14], [2, 14]), ([], []), ([15, 16], [15, 16]), ([17], [17]), ([0, 18, 17], [0, 18]), ([19, 19, 0, 1, 2, 3, 4, 5, 6, 7, 8, 9, 10, 11, 12, 13, 14, 15, 16, 17, 18, 19], [0, 19])])
def congouref04_Slope.B8 : List Nat := [0, 0, 2, 0, 8, 0, 32, 120, 248, 0, 512, 0, 3584, 7680, 16376, 32766, 0, 131070, 262142, 524287, 1048575]
theorem congouref04_Slope.tab8 : rtab .any (opsOf Try.f41 8) = congouref04_Slope.T8 := by kernel_rfl
theorem congouref04_Slope.bits8 : waitsOk congouref04_Slope.T8.2 congouref04_Slope.B8 = true := by kernel_rfl
def congouref04_Slope.T10 : Bool × List (List Nat × List Nat) := (true, [([], []), ([0], [0]), ([1], [1]), ([], []), ([], []), ([4], [4]), ([], []), ([6], [6]), ([7], [7]), ([8], [8]), ([5, 9], [5, 9]), ([3, 10], [3, 10]), ([], []), ([2, 11, 0, 1, 2], [2]), ([11, 13, 0, 1, 2, 3, 4, 5, 6, 7, 8, 9, 10, 11, 13], [11]), ([12, 14, 0, 1, 2, 3, 4, 5, 6, 7, 8, 9, 10, 11, 12, 13, 14], [12])])
def congouref04_Slope.B10 : List Nat := [0, 1, 3, 0, 0, 16, 0, 64, 192, 448, 1008, 2040, 0, 4095, 12287, 32767]
theorem congouref04_Slope.tab10 : rtab .any (opsOf Try.f41 10) = congouref04_Slope.T10 := by kernel_rfl
theorem congouref04_Slope.bits10 : waitsOk congouref04_Slope.T10.2 congouref04_Slope.B10 = true := by kernel_rfl
set_option maxHeartbeats 8000000 in
set_option maxRecDepth 100000 in
theorem congouref04_Slope.calls (k : Nat) (a0_0 : Int) (A0_1 : Option Addr) (c0_1 : Nat) (l0_1 : List Int) (A0_2 : Option Addr) (c0_2 : Nat) (l0_2 : List Int) (r1 : Int) (r2 : List Int) (r3 : List (S26)) (w : World) (hr0_1 : Kd.C (Kd.int .i64) w A0_1 l0_1.length l0_1) (hc0_1 : l0_1.length ≤ c0_1) (hr0_2 : Kd.C (Kd.int .i64) w A0_2 l0_2.length l0_2) (hc0_2 : l0_2.length ≤ c0_2) (h : congouref04_Slope.f k a0_0 l0_1 l0_2 = some (r1, r2, r3)) :
  Calls Try.prog 41 #[.agg #[.int .i64 a0_0, .slice A0_1 l0_1.length c0_1, .slice A0_2 l0_2.length c0_2]] w fun e w' => ∃ v1_ v2_ : Value, e = .returned (.tuple #[.int .i64 r1, v1_, v2_]) ∧ Kd.R (Kd.int .i64) 3 w' w.heap.size (fun _ => True) v1_ r2 ∧ Kd.R k26 26 w' w.heap.size (fun _ => True) v2_ r3 ∧ Below w.heap.size w w' := by
 have hu24 := Try.underlying24
 have HR0_1 := Aside0.mk hr0_1
 have HC0_1 := Aside0.mk hc0_1
 clear hr0_1 hc0_1
 have HR0_2 := Aside0.mk hr0_2
 have HC0_2 := Aside0.mk hc0_2
 clear hr0_2 hc0_2
 have HB := Aside0.mk (Below.refl w.heap.size w)
 have H : (congouref04_Slope.l0 k ([] : List (S26)) (wrap64 ((l0_2.length : Int) - 1)) 0 a0_0 l0_1 l0_2) = some (r1, r2, r3) := h
 clear h
 have H' := Aside0.mk H
 clear H
 go_enter Try.func41, Try.ntmps41
 go_wp2_with (first | ((with_reducible refine gate_dst (N := 1) rfl ?_); refine bE 1 #[.int .i64 a0_0, .slice A0_1 l0_1.length c0_1, .slice A0_2 l0_2.length c0_2] 24 ?_; intro gb891 hg w2 hbox hb; have BK891 := Aside0.mk (hbox); have GW891 := kG w hg; have GE891 := kG w hg; replace HB := kH _ hb; clear hb hbox hg; have hcz3_0 : w2.cell? ⟨gb891, 0, none⟩ = some (.int .i64 a0_0) := bc BK891 0; have hcz3_1 : w2.cell? ⟨gb891, 1, none⟩ = some (.slice A0_1 l0_1.length c0_1) := bc BK891 1; have hcz3_2 : w2.cell? ⟨gb891, 2, none⟩ = some (.slice A0_2 l0_2.length c0_2) := bc BK891 2; have hfz3_0 := fz BK891 0; have hfz3_1 := fz BK891 1; have hfz3_2 := fz BK891 2))
 go_loopg [5, 12] k (fun kq v5 v12 w' => ∃ (x5_1 : List (S26)) (x12_1 : Int), v12 = .int .i64 x12_1 ∧ Aside0 (congouref04_Slope.l0 kq x5_1 (wrap64 ((l0_2.length : Int) - 1)) x12_1 a0_0 l0_1 l0_2 = some (r1, r2, r3)) ∧ Aside0 (kq ≤ k) ∧ Aside0 (Kd.R k26 26 w' w.heap.size (fun _ => True) v5 x5_1) ∧ Aside0 (w'.heap[gb891]? = some (.cells #[.int .i64 a0_0, (.slice A0_1 l0_1.length c0_1), (.slice A0_2 l0_2.length c0_2)] 24 (0, 0))) ∧ Aside0 (Below w.heap.size w w'))
 case atStart => exact ⟨(([] : List (S26))), (0), (by first | rfl | (simp; done) | (simp [*]; done)), H', ⟨Nat.le_refl _⟩, ⟨by first | exact Kd.R_nil _ _ _ _ _ | exact Kd.N_nil _ _ _ _ _ | exact Kd.V_nil _ _ _ _ _ | exact Kd.Q_nil _ _ _ _ _ | exact Kd.S_nil _ _ _ _ _⟩, ⟨bkC BK891⟩, ⟨hbC _⟩⟩
 case round =>
  clear H'
  try clear p2
  try clear hcz3_0
  try clear hcz3_1
  try clear hcz3_2
  try clear hfz3_0
  try clear hfz3_1
  try clear hfz3_2
  obtain ⟨x5_1, x12_1, rfl, HA, HK1, HO_5, BK891, HB⟩ := hrel
  cases gk with
  | zero => exact absurd HA.out (by simp [congouref04_Slope.l0])
  | succ k1 =>
   have H := HA.out
   clear HA
   simp only [congouref04_Slope.l0] at H
   by_cases c4 : x12_1 < (wrap64 ((l0_2.length : Int) - 1))
   ·rw [if_pos c4] at H
    have c4b0 : decide (x12_1 < (wrap64 ((l0_2.length : Int) - 1))) = true := decide_eq_true c4
    clear c4
    obtain ⟨ji5, hji5⟩ : ∃ j_ : Int, (wrap64 ((wrap64 (x12_1 + a0_0)) + 1)) = j_ := ⟨_, rfl⟩
    replace H : (if 0 ≤ (ji5) then (if (ji5) < (l0_1.length : Int) then (if 0 ≤ (wrap64 (x12_1 + 1)) then (if (wrap64 (x12_1 + 1)) < (l0_1.length : Int) then (if (wrap64 ((rd l0_1 (ji5)) - (rd l0_1 (wrap64 (x12_1 + 1))))) = 0 then ((congouref04_whole.f 0).bind fun bt901 => (if x5_1.length < 8796093022208 then (congouref04_Slope.l0 k1 (x5_1 ++ [(⟨bt901.1, bt901.2⟩ : S26)]) (wrap64 ((l0_2.length : Int) - 1)) (wrap64 (x12_1 + 1)) a0_0 l0_1 l0_2) else (none))) else (if (wrap64 (x12_1 + 1)) < (l0_2.length : Int) then (if 0 ≤ x12_1 then (if x12_1 < (l0_2.length : Int) then ((congouref04_Frac.f k1 (wrap64 (a0_0 * (wrap64 ((rd l0_2 (wrap64 (x12_1 + 1))) - (rd l0_2 x12_1))))) (wrap64 ((rd l0_1 (ji5)) - (rd l0_1 (wrap64 (x12_1 + 1)))))).bind fun bt908 => (if x5_1.length < 8796093022208 then (congouref04_Slope.l0 k1 (x5_1 ++ [(⟨bt908.1, bt908.2⟩ : S26)]) (wrap64 ((l0_2.length : Int) - 1)) (wrap64 (x12_1 + 1)) a0_0 l0_1 l0_2) else (none))) else (none)) else (none)) else (none))) else (none)) else (none)) else (none)) else (none)) = some (r1, r2, r3) := by first | (rw [hji5] at H; exact H) | (simp only [hji5] at H ⊢; exact H)
    have hji5w : (IntKind.i64.wrap ((wrap64 (x12_1 + a0_0)) + 1)) = ji5 := (i64_w _).trans hji5
    by_cases c6 : 0 ≤ (ji5)
    ·rw [if_pos c6] at H
     have c6b0 : decide (0 ≤ (ji5)) = true := decide_eq_true c6
     clear c6
     by_cases c7 : (ji5) < (l0_1.length : Int)
     ·rw [if_pos c7] at H
      have c7b0 : decide ((ji5) < (l0_1.length : Int)) = true := decide_eq_true c7
      clear c7
      obtain ⟨ji8, hji8⟩ : ∃ j_ : Int, (wrap64 (x12_1 + 1)) = j_ := ⟨_, rfl⟩
      replace H : (if 0 ≤ (ji8) then (if (ji8) < (l0_1.length : Int) then (if (wrap64 ((rd l0_1 (ji5)) - (rd l0_1 (ji8)))) = 0 then ((congouref04_whole.f 0).bind fun bt901 => (if x5_1.length < 8796093022208 then (congouref04_Slope.l0 k1 (x5_1 ++ [(⟨bt901.1, bt901.2⟩ : S26)]) (wrap64 ((l0_2.length : Int) - 1)) ji8 a0_0 l0_1 l0_2) else (none))) else (if (ji8) < (l0_2.length : Int) then (if 0 ≤ x12_1 then (if x12_1 < (l0_2.length : Int) then ((congouref04_Frac.f k1 (wrap64 (a0_0 * (wrap64 ((rd l0_2 (ji8)) - (rd l0_2 x12_1))))) (wrap64 ((rd l0_1 (ji5)) - (rd l0_1 (ji8))))).bind fun bt908 => (if x5_1.length < 8796093022208 then (congouref04_Slope.l0 k1 (x5_1 ++ [(⟨bt908.1, bt908.2⟩ : S26)]) (wrap64 ((l0_2.length : Int) - 1)) ji8 a0_0 l0_1 l0_2) else (none))) else (none)) else (none)) else (none))) else (none)) else (none)) = some (r1, r2, r3) := by first | (rw [hji8] at H; exact H) | (simp only [hji8] at H ⊢; exact H)
      have hji8w : (IntKind.i64.wrap (x12_1 + 1)) = ji8 := (i64_w _).trans hji8
      by_cases c9 : 0 ≤ (ji8)
      ·rw [if_pos c9] at H
       have c9b0 : decide (0 ≤ (ji8)) = true := decide_eq_true c9
       clear c9
       by_cases c10 : (ji8) < (l0_1.length : Int)
       ·rw [if_pos c10] at H
        have c10b0 : decide ((ji8) < (l0_1.length : Int)) = true := decide_eq_true c10
        clear c10
        by_cases c11 : (wrap64 ((rd l0_1 (ji5)) - (rd l0_1 (ji8)))) = 0
        ·rw [if_pos c11] at H
         have c11b0 : ((wrap64 ((rd l0_1 (ji5)) - (rd l0_1 (ji8)))) == 0) = true := beq_iff_eq.mpr c11
         have c11b1 : ((wrap64 ((rd l0_1 (ji5)) - (rd l0_1 (ji8)))) != 0) = false := bne_eq_false_iff_eq.mpr c11
         clear c11
         replace H := Option.bind_eq_some_iff.mp H
         obtain ⟨⟨t901, t902⟩, A120, H⟩ := H
         replace H : (if x5_1.length < 8796093022208 then (congouref04_Slope.l0 k1 (x5_1 ++ [(⟨t901, t902⟩ : S26)]) (wrap64 ((l0_2.length : Int) - 1)) ji8 a0_0 l0_1 l0_2) else (none)) = some (r1, r2, r3) := H
         have A12 := Aside0.mk A120
         clear A120
         by_cases c13 : x5_1.length < 8796093022208
         ·rw [if_pos c13] at H
          have LMc13 := Aside0.mk c13
          clear c13
          obtain ⟨y903, hy903⟩ : ∃ y_ : List (S26), y_ = (x5_1 ++ [(⟨t901, t902⟩ : S26)]) := ⟨_, rfl⟩
          replace H : (congouref04_Slope.l0 k1 y903 (wrap64 ((l0_2.length : Int) - 1)) ji8 a0_0 l0_1 l0_2) = some (r1, r2, r3) := by first | (rw [hy903]; with_reducible exact H) | (have H2_ := (Option.bind_some _ _).symm.trans H; rw [hy903]; with_reducible exact H2_) | (have H2_ := (Option.bind_some _ _).symm.trans H; with_reducible exact H2_) | with_reducible exact H | (rw [hy903]; exact H) | exact H
          have Ny903 := Aside0.mk hy903
          clear hy903
          have H' := Aside0.mk H
          clear H
          try go_wp2
          replace HO_5 := Aside0.mk (Kd.R_drew HO_5.out)
          replace BK891 := kd BK891
          replace HB := Aside0.mk (below_drew1 HB.out)
          have p899 : 0 ≤ ((ji5) : Int) := dA
          have q899 : (ji5) < (l0_1.length : Int) := dA
          obtain ⟨ad899, e899, hx899_0⟩ := Kd.at_int HR0_1.out (ji5) p899 q899
          have hw899_0 := hx899_0
          cases e899
          try replace hx899_0 := (HB.out.cell (World.block_lt_of_cell? w _ hx899_0)).trans hx899_0
          replace p899 := eq_true p899
          replace q899 := eq_true q899
          have p900 : 0 ≤ ((ji8) : Int) := dA
          have q900 : (ji8) < (l0_1.length : Int) := dA
          obtain ⟨ad900, e900, hx900_0⟩ := Kd.at_int HR0_1.out (ji8) p900 q900
          have hw900_0 := hx900_0
          obtain rfl : ad899 = ad900 := (by injection e900)
          try replace hx900_0 := (HB.out.cell (World.block_lt_of_cell? w _ hx900_0)).trans hx900_0
          replace p900 := eq_true p900
          replace q900 := eq_true q900
          refine sS (n := 17) (S := fun w' => w'.cell? ⟨gb891, 0, none⟩ = some (.int .i64 a0_0) ∧ w'.cell? ⟨gb891, 1, none⟩ = some (.slice (some ad899) l0_1.length c0_1) ∧ w'.cell? ⟨gb891, 2, none⟩ = some (.slice A0_2 l0_2.length c0_2) ∧ w'.cell? (ad899.add ((ji5)).toNat) = some (.int .i64 (rd l0_1 (ji5))) ∧ w'.cell? (ad899.add ((ji8)).toNat) = some (.int .i64 (rd l0_1 (ji8)))) (ds := []) ⟨bc BK891 0, bc BK891 1, bc BK891 2, ((HB.out.cell (World.block_lt_of_cell? w _ hw899_0)).trans hw899_0), ((HB.out.cell (World.block_lt_of_cell? w _ hw900_0)).trans hw900_0)⟩ (fun hHeld => ?_); refine with_tabW congouref04_Slope.tab5 congouref04_Slope.bits5 (fun HT_ HW_ => ?_)
          generalize wr.drew = w14 at HO_5 BK891 HB hx899_0 hx900_0 hHeld ⊢
          refine pS 0 15 17 1 ?_
          refine pS 2 17 17 5 ?_
          refine pS 3 18 17 13 ?_
          refine pS 9 24 17 525 ?_
          refine pS 11 26 17 2573 ?_
          refine pS 12 27 17 6669 ?_
          refine tS 1 16 17 6671 ?_
          refine tS 4 19 17 6687 ?_
          refine pS 5 20 17 6719 ?_
          refine pS 6 21 17 6783 ?_
          refine pS 7 22 17 6911 ?_
          refine tS 8 23 17 7167 ?_
          refine tS 10 25 17 8191 ?_
          refine pS 13 28 17 16383 ?_
          refine tS 14 29 17 32767 ?_
          refine pS 15 30 17 65535 ?_
          refine pS 16 7 17 131071 ?_
          refine done_ (done_of HT_.out (by kernel_rfl)) ?_
          try go_wp2_with (first | ((with_reducible refine gate_callee (f := 56) rfl ?_); refine gL 34 Try.func56 #[.int .i64 0] ?_; (with_reducible refine (congouref04_whole.calls 0 t901 t902 _ A12.out).mono ?_); rintro e w15 ⟨rfl, hb⟩; refine ⟨_, rfl, ?_⟩; replace HO_5 := kO HO_5 hb; replace BK891 := kB BK891 hb; replace HB := kH _ hb; (try clear hb); (try clear hb2); (try clear hk); (try clear hi)) | ((with_reducible refine gate_builtin (b := .append) (xs := #[.tmp 33, .tmp 35]) rfl ?_); at_builtin; refine Kd.R_append k26 (w0 := w) w.heap.size rfl (.tmp 33) (.tmp 35) 34 26 (.agg #[(.int .i64 0), (.int .i64 0)]) 16 rfl Try.underlying34 info26 rfl (by decide) (by omega) u5 x5_1 (⟨t901, t902⟩ : S26) [.int .i64 t901, .int .i64 t902] (fun _ => True) (fun _ => False) rfl rfl ?aP (fun _ hk => hk.elim) ?aF ?aO ?aB ?aS ?aL ?_; (case aP => exact k26_mkM _ _ _ (⟨t901, t902⟩ : S26)); (case aB => exact (hbC _)); (case aF => exact (fun _ _ => trivial)); (case aO => exact (rC HO_5)); (case aS => exact (below_size (hbC _))); (case aL => have := LMc13.out; omega); intro v904 w16 ho hb hg hat; rw [← Ny903.out] at ho; have n0_ := Aside0.mk (blk_grown (g := gb891) (o := .cells #[.int .i64 a0_0, .slice (some ad899) l0_1.length c0_1, .slice A0_2 l0_2.length c0_2] 24 (0, 0)) (bkC BK891) hg (Kd.R_ne HO_5.out BK891.out (by decide))); have n1_ := Aside0.mk (hb); have n2_ := Aside0.mk (ho); clear BK891; clear HB; clear HO_5; have BK891 := n0_; have HB := n1_; have HO905 := n2_; clear n0_ n1_ n2_; clear ho hb hg hat))
          go_roundg k1
          case measure => have := HK1.out; omega
          case rel => exact ⟨(y903), (ji8), (by first | rfl | (simp; done) | (simp only [← hji8] <;> (first | rfl | simp)) | (simp [*]; done)), H', ⟨by have := HK1.out; omega⟩, ⟨rC HO905⟩, ⟨bkC BK891⟩, ⟨hbC _⟩⟩
         ·rw [if_neg c13] at H
          exact absurd H (by simp)
        ·rw [if_neg c11] at H
         have c11b0 : ((wrap64 ((rd l0_1 (ji5)) - (rd l0_1 (ji8)))) == 0) = false := beq_eq_false_iff_ne.mpr c11
         have c11b1 : ((wrap64 ((rd l0_1 (ji5)) - (rd l0_1 (ji8)))) != 0) = true := bne_iff_ne.mpr c11
         by_cases c17 : (ji8) < (l0_2.length : Int)
         ·rw [if_pos c17] at H
          have c17b0 : decide ((ji8) < (l0_2.length : Int)) = true := decide_eq_true c17
          clear c17
          by_cases c18 : 0 ≤ x12_1
          ·rw [if_pos c18] at H
           have c18b0 : decide (0 ≤ x12_1) = true := decide_eq_true c18
           clear c18
           by_cases c19 : x12_1 < (l0_2.length : Int)
           ·rw [if_pos c19] at H
            have c19b0 : decide (x12_1 < (l0_2.length : Int)) = true := decide_eq_true c19
            clear c19
            replace H := Option.bind_eq_some_iff.mp H
            obtain ⟨⟨t908, t909⟩, A200, H⟩ := H
            replace H : (if x5_1.length < 8796093022208 then (congouref04_Slope.l0 k1 (x5_1 ++ [(⟨t908, t909⟩ : S26)]) (wrap64 ((l0_2.length : Int) - 1)) ji8 a0_0 l0_1 l0_2) else (none)) = some (r1, r2, r3) := H
            have A20 := Aside0.mk A200
            clear A200
            by_cases c21 : x5_1.length < 8796093022208
            ·rw [if_pos c21] at H
             have LMc21 := Aside0.mk c21
             clear c21
             obtain ⟨y910, hy910⟩ : ∃ y_ : List (S26), y_ = (x5_1 ++ [(⟨t908, t909⟩ : S26)]) := ⟨_, rfl⟩
             replace H : (congouref04_Slope.l0 k1 y910 (wrap64 ((l0_2.length : Int) - 1)) ji8 a0_0 l0_1 l0_2) = some (r1, r2, r3) := by first | (rw [hy910]; with_reducible exact H) | (have H2_ := (Option.bind_some _ _).symm.trans H; rw [hy910]; with_reducible exact H2_) | (have H2_ := (Option.bind_some _ _).symm.trans H; with_reducible exact H2_) | with_reducible exact H | (rw [hy910]; exact H) | exact H
             have Ny910 := Aside0.mk hy910
             clear hy910
             have H' := Aside0.mk H
             clear H
             try go_wp2
             replace HO_5 := Aside0.mk (Kd.R_drew HO_5.out)
             replace BK891 := kd BK891
             replace HB := Aside0.mk (below_drew1 HB.out)
             have p899 : 0 ≤ ((ji5) : Int) := dA
             have q899 : (ji5) < (l0_1.length : Int) := dA
             obtain ⟨ad899, e899, hx899_0⟩ := Kd.at_int HR0_1.out (ji5) p899 q899
             have hw899_0 := hx899_0
             cases e899
             try replace hx899_0 := (HB.out.cell (World.block_lt_of_cell? w _ hx899_0)).trans hx899_0
             replace p899 := eq_true p899
             replace q899 := eq_true q899
             have p900 : 0 ≤ ((ji8) : Int) := dA
             have q900 : (ji8) < (l0_1.length : Int) := dA
             obtain ⟨ad900, e900, hx900_0⟩ := Kd.at_int HR0_1.out (ji8) p900 q900
             have hw900_0 := hx900_0
             obtain rfl : ad899 = ad900 := (by injection e900)
             try replace hx900_0 := (HB.out.cell (World.block_lt_of_cell? w _ hx900_0)).trans hx900_0
             replace p900 := eq_true p900
             replace q900 := eq_true q900
             refine sS (n := 17) (S := fun w' => w'.cell? ⟨gb891, 0, none⟩ = some (.int .i64 a0_0) ∧ w'.cell? ⟨gb891, 1, none⟩ = some (.slice (some ad899) l0_1.length c0_1) ∧ w'.cell? ⟨gb891, 2, none⟩ = some (.slice A0_2 l0_2.length c0_2) ∧ w'.cell? (ad899.add ((ji5)).toNat) = some (.int .i64 (rd l0_1 (ji5))) ∧ w'.cell? (ad899.add ((ji8)).toNat) = some (.int .i64 (rd l0_1 (ji8)))) (ds := []) ⟨bc BK891 0, bc BK891 1, bc BK891 2, ((HB.out.cell (World.block_lt_of_cell? w _ hw899_0)).trans hw899_0), ((HB.out.cell (World.block_lt_of_cell? w _ hw900_0)).trans hw900_0)⟩ (fun hHeld => ?_); refine with_tabW congouref04_Slope.tab5 congouref04_Slope.bits5 (fun HT_ HW_ => ?_)
             generalize wr.drew = w22 at HO_5 BK891 HB hx899_0 hx900_0 hHeld ⊢
             refine pS 0 15 17 1 ?_
             refine pS 2 17 17 5 ?_
             refine pS 3 18 17 13 ?_
             refine pS 9 24 17 525 ?_
             refine pS 11 26 17 2573 ?_
             refine pS 12 27 17 6669 ?_
             refine tS 1 16 17 6671 ?_
             refine tS 4 19 17 6687 ?_
             refine pS 5 20 17 6719 ?_
             refine pS 6 21 17 6783 ?_
             refine pS 7 22 17 6911 ?_
             refine tS 8 23 17 7167 ?_
             refine tS 10 25 17 8191 ?_
             refine pS 13 28 17 16383 ?_
             refine tS 14 29 17 32767 ?_
             refine pS 15 30 17 65535 ?_
             refine pS 16 7 17 131071 ?_
             refine done_ (done_of HT_.out (by kernel_rfl)) ?_
             try go_wp2
             replace HO_5 := Aside0.mk (Kd.R_drew HO_5.out)
             replace BK891 := kd BK891
             replace HB := Aside0.mk (below_drew1 HB.out)
             have p906 : 0 ≤ ((ji8) : Int) := dA
             have q906 : (ji8) < (l0_2.length : Int) := dA
             obtain ⟨ad906, e906, hx906_0⟩ := Kd.at_int HR0_2.out (ji8) p906 q906
             have hw906_0 := hx906_0
             cases e906
             try replace hx906_0 := (HB.out.cell (World.block_lt_of_cell? w _ hx906_0)).trans hx906_0
             replace p906 := eq_true p906
             replace q906 := eq_true q906
             have p907 : 0 ≤ (x12_1 : Int) := dA
             have q907 : x12_1 < (l0_2.length : Int) := dA
             obtain ⟨ad907, e907, hx907_0⟩ := Kd.at_int HR0_2.out x12_1 p907 q907
             have hw907_0 := hx907_0
             obtain rfl : ad906 = ad907 := (by injection e907)
             try replace hx907_0 := (HB.out.cell (World.block_lt_of_cell? w _ hx907_0)).trans hx907_0
             replace p907 := eq_true p907
             replace q907 := eq_true q907
             refine sS (n := 21) (S := fun w' => w'.cell? ⟨gb891, 0, none⟩ = some (.int .i64 a0_0) ∧ w'.cell? ⟨gb891, 1, none⟩ = some (.slice (some ad899) l0_1.length c0_1) ∧ w'.cell? ⟨gb891, 2, none⟩ = some (.slice (some ad906) l0_2.length c0_2) ∧ w'.cell? (ad906.add ((ji8)).toNat) = some (.int .i64 (rd l0_2 (ji8))) ∧ w'.cell? (ad906.add (x12_1).toNat) = some (.int .i64 (rd l0_2 x12_1))) (ds := []) ⟨bc BK891 0, bc BK891 1, bc BK891 2, ((HB.out.cell (World.block_lt_of_cell? w _ hw906_0)).trans hw906_0), ((HB.out.cell (World.block_lt_of_cell? w _ hw907_0)).trans hw907_0)⟩ (fun hHeld => ?_); refine with_tabW congouref04_Slope.tab8 congouref04_Slope.bits8 (fun HT_ HW_ => ?_)
             generalize w22.drew = w23 at HO_5 BK891 HB hx906_0 hx907_0 hHeld ⊢
             refine pS 0 37 21 1 ?_
             refine pS 1 38 21 3 ?_
             refine pS 3 40 21 11 ?_
             refine pS 5 42 21 43 ?_
             refine pS 6 43 21 107 ?_
             refine pS 9 46 21 619 ?_
             refine pS 11 48 21 2667 ?_
             refine pS 16 53 21 68203 ?_
             refine tS 2 39 21 68207 ?_
             refine tS 4 41 21 68223 ?_
             refine pS 7 44 21 68351 ?_
             refine tS 8 45 21 68607 ?_
             refine tS 10 47 21 69631 ?_
             refine pS 12 49 21 73727 ?_
             refine tS 13 50 21 81919 ?_
             refine pS 14 51 21 98303 ?_
             refine pS 15 52 21 131071 ?_
             refine one_ (i := 17) (N := some 54) (ba 21 262143) rfl rfl (one_of HT_.out (by kernel_rfl)) (by decide) (fun K hK => ?_)
             refine goes_ Try.func33 (by kernel_rfl) rfl #[.int .i64 (wrap64 (a0_0 * (wrap64 ((rd l0_2 (ji8)) - (rd l0_2 x12_1))))), .int .i64 (wrap64 ((rd l0_1 (ji5)) - (rd l0_1 (ji8))))] (by rfl) rfl rfl (by (try simp only [List.map_toArray, List.map_cons, List.map_nil]); first | done | (simp only [hji5, hji8]; rfl) | rfl | (simp only [List.length_drop, List.length_take]; rfl)) ?_
             with_reducible refine (congouref04_Frac.calls k1 (wrap64 (a0_0 * (wrap64 ((rd l0_2 (ji8)) - (rd l0_2 x12_1))))) (wrap64 ((rd l0_1 (ji5)) - (rd l0_1 (ji8)))) t908 t909 _ A20.out).mono ?_
             rintro e w24 ⟨rfl, hb⟩
             refine ⟨_, rfl, ?_⟩
             replace HO_5 := kO HO_5 hb
             replace BK891 := kB BK891 hb
             replace HB := kH _ hb
             (try clear hb)
             (try clear hb2)
             (try clear hk)
             (try clear hi)
             refine hK.out _ _ ⟨bc BK891 0, bc BK891 1, bc BK891 2, ((HB.out.cell (World.block_lt_of_cell? w _ hw906_0)).trans hw906_0), ((HB.out.cell (World.block_lt_of_cell? w _ hw907_0)).trans hw907_0)⟩ (fun hHeld => ?_)
             clear hK K
             refine norm_ (a' := ?_) ?_ ?_
             rotate_left
             ·show Act.put _ (some 54) _ = _
              simp only [Act.put, List.setIfInBounds_toArray, List.set_cons_zero, List.set_cons_succ, i64_w, i32_w]
              rfl
             refine one_ (i := 18) (N := some 55) (ba 21 524287) rfl rfl (one_of HT_.out (by kernel_rfl)) (by decide) (fun K hK => ?_)
             refine value_ (w1 := ?_) (v := ?_) (by rfl) rfl ?_ ?_
             rotate_left 2
             ·go_simp
              constructor
              ·rfl
              ·rfl
             refine hK.out _ _ ⟨(blk_cell (blk_alloc BK891.out _) 0).trans rfl, (blk_cell (blk_alloc BK891.out _) 1).trans rfl, (blk_cell (blk_alloc BK891.out _) 2).trans rfl, (World.cell?_alloc_lt _ _ _ (World.block_lt_of_cell? _ _ (((HB.out.cell (World.block_lt_of_cell? w _ hw906_0)).trans hw906_0)))).trans (((HB.out.cell (World.block_lt_of_cell? w _ hw906_0)).trans hw906_0)), (World.cell?_alloc_lt _ _ _ (World.block_lt_of_cell? _ _ (((HB.out.cell (World.block_lt_of_cell? w _ hw907_0)).trans hw907_0)))).trans (((HB.out.cell (World.block_lt_of_cell? w _ hw907_0)).trans hw907_0))⟩ (fun hHeld => ?_)
             clear hK K
             refine norm_ (a' := ?_) ?_ ?_
             rotate_left
             ·show Act.put _ (some 55) _ = _
              simp only [Act.put, List.setIfInBounds_toArray, List.set_cons_zero, List.set_cons_succ, i64_w, i32_w]
              rfl
             refine one_ (i := 19) (N := some 56) (ba 21 1048575) rfl rfl (one_of HT_.out (by kernel_rfl)) (by decide) (fun K hK => ?_)
             refine Kd.R_append_step k26 (w0 := w) w.heap.size (by rfl) (.tmp 37) (.tmp 55) 34 26 (.agg #[(.int .i64 0), (.int .i64 0)]) 16 rfl Try.underlying34 info26 rfl (by decide) (by omega) u5 x5_1 (⟨t908, t909⟩ : S26) [.int .i64 t908, .int .i64 t909] (fun _ => True) (fun _ => False) rfl rfl ?aP (fun _ hk => hk.elim) ?aF ?aO ?aB ?aS ?aL ?_
             (case aP => exact k26_mkM _ _ _ (⟨t908, t909⟩ : S26))
             (case aB => exact (hbC _))
             (case aF => exact (fun _ _ => trivial))
             (case aO => exact (rC HO_5))
             (case aS => exact (below_size (hbC _)))
             (case aL => have := LMc21.out; omega)
             intro v911 w25 ho hb hg hat
             rw [← Ny910.out] at ho
             have n0_ := Aside0.mk (blk_grown (g := gb891) (o := .cells #[.int .i64 a0_0, .slice (some ad899) l0_1.length c0_1, .slice (some ad906) l0_2.length c0_2] 24 (0, 0)) (bkC BK891) hg (Kd.R_ne HO_5.out BK891.out (by decide)))
             have n1_ := Aside0.mk (hb)
             have n2_ := Aside0.mk (ho)
             clear BK891
             clear HB
             clear HO_5
             have BK891 := n0_
             have HB := n1_
             have HO912 := n2_
             clear n0_ n1_ n2_
             clear ho hb hg hat
             refine hK.out _ _ ⟨bc BK891 0, bc BK891 1, bc BK891 2, ((HB.out.cell (World.block_lt_of_cell? w _ hw906_0)).trans hw906_0), ((HB.out.cell (World.block_lt_of_cell? w _ hw907_0)).trans hw907_0)⟩ (fun hHeld => ?_)
             clear hK K
             refine norm_ (a' := ?_) ?_ ?_
             rotate_left
             ·show Act.put _ (some 56) _ = _
              simp only [Act.put, List.setIfInBounds_toArray, List.set_cons_zero, List.set_cons_succ, i64_w, i32_w]
              rfl
             refine pS 20 5 21 2097151 ?_
             refine done_ (done_of HT_.out (by kernel_rfl)) ?_
             try go_wp2
             go_roundg k1
             case measure => have := HK1.out; omega
             case rel => exact ⟨(y910), (ji8), (by first | rfl | (simp; done) | (simp only [← hji8] <;> (first | rfl | simp)) | (simp [*]; done)), H', ⟨by have := HK1.out; omega⟩, ⟨rC HO912⟩, ⟨bkC BK891⟩, ⟨hbC _⟩⟩
            ·rw [if_neg c21] at H
             exact absurd H (by simp)
           ·rw [if_neg c19] at H
            exact absurd H (by simp)
          ·rw [if_neg c18] at H
           exact absurd H (by simp)
         ·rw [if_neg c17] at H
          exact absurd H (by simp)
       ·rw [if_neg c10] at H
        exact absurd H (by simp)
      ·rw [if_neg c9] at H
       exact absurd H (by simp)
     ·rw [if_neg c7] at H
      exact absurd H (by simp)
    ·rw [if_neg c6] at H
     exact absurd H (by simp)
   ·rw [if_neg c4] at H
    have c4b0 : decide (x12_1 < (wrap64 ((l0_2.length : Int) - 1))) = false := decide_eq_false c4
    clear c4
    obtain ⟨y892, hy892⟩ : ∃ y_ : List Int, y_ = (([] : List Int)) := ⟨_, rfl⟩
    replace H : (if 1 ≤ (wrap64 ((l0_1.length : Int) - 1)) then (if (wrap64 ((l0_1.length : Int) - 1)) ≤ (l0_1.length : Int) then (if y892.length + ((l0_1.take ((wrap64 ((l0_1.length : Int) - 1)) : Int).toNat).drop 1).length < 17592186044416 then (some (wrap64 (a0_0 - 1), (y892 ++ ((l0_1.take ((wrap64 ((l0_1.length : Int) - 1)) : Int).toNat).drop 1)), x5_1)) else (none)) else (none)) else (none)) = some (r1, r2, r3) := by first | (rw [hy892]; with_reducible exact H) | (have H2_ := (Option.bind_some _ _).symm.trans H; rw [hy892]; with_reducible exact H2_) | (have H2_ := (Option.bind_some _ _).symm.trans H; with_reducible exact H2_) | with_reducible exact H | (rw [hy892]; exact H) | exact H
    have Ny892 := Aside0.mk hy892
    clear hy892
    by_cases c26 : 1 ≤ (wrap64 ((l0_1.length : Int) - 1))
    ·rw [if_pos c26] at H
     have c26b0 := eq_true c26
     have c26b1 : decide (1 ≤ (wrap64 ((l0_1.length : Int) - 1))) = true := decide_eq_true c26
     clear c26
     by_cases c27 : (wrap64 ((l0_1.length : Int) - 1)) ≤ (l0_1.length : Int)
     ·rw [if_pos c27] at H
      have c27b0 := eq_true c27
      have c27b1 : decide ((wrap64 ((l0_1.length : Int) - 1)) ≤ (l0_1.length : Int)) = true := decide_eq_true c27
      clear c27
      by_cases c28 : y892.length + ((l0_1.take ((wrap64 ((l0_1.length : Int) - 1)) : Int).toNat).drop 1).length < 17592186044416
      ·rw [if_pos c28] at H
       have LMc28 := Aside0.mk c28
       clear c28
       obtain ⟨y896, hy896⟩ : ∃ y_ : List Int, y_ = (y892 ++ ((l0_1.take ((wrap64 ((l0_1.length : Int) - 1)) : Int).toNat).drop 1)) := ⟨_, rfl⟩
       replace H : (some (wrap64 (a0_0 - 1), y896, x5_1)) = some (r1, r2, r3) := by first | (rw [hy896]; with_reducible exact H) | (have H2_ := (Option.bind_some _ _).symm.trans H; rw [hy896]; with_reducible exact H2_) | (have H2_ := (Option.bind_some _ _).symm.trans H; with_reducible exact H2_) | with_reducible exact H | (rw [hy896]; exact H) | exact H
       have Ny896 := Aside0.mk hy896
       clear hy896
       simp only [Option.some.injEq, Prod.mk.injEq] at H
       obtain ⟨rfl, rfl, rfl⟩ := H
       try go_wp2
       replace HO_5 := Aside0.mk (Kd.R_drew HO_5.out)
       replace BK891 := kd BK891
       replace HB := Aside0.mk (below_drew1 HB.out)
       obtain ⟨i030, hi030, _, hsz30, _⟩ := info_parts info3
       obtain ⟨A30, hcut30, hA30, hC30⟩ := print_mid_of (P := Try.prog) (Value.int .i64) 0 22 3 .i64 .i64 Try.underlying22 hi030 hsz30 A0_1 c0_1 l0_1 1 (wrap64 ((l0_1.length : Int) - 1)) (by omega) (by first | omega | exact dA) (dA) HC0_1.out
       have HR895 := Aside0.mk (Kd.C_of_reads (h1 := fun _ => rfl) (hA30 _ (Kd.reads_of_C HR0_1.out)))
       have HC895 := Aside0.mk hC30
       clear hA30 hC30 hi030 hsz30
       refine sS (n := 16) (S := fun w' => w'.cell? ⟨gb891, 0, none⟩ = some (.int .i64 a0_0) ∧ w'.cell? ⟨gb891, 1, none⟩ = some (.slice A0_1 l0_1.length c0_1) ∧ w'.cell? ⟨gb891, 2, none⟩ = some (.slice A0_2 l0_2.length c0_2)) (ds := []) ⟨bc BK891 0, bc BK891 1, bc BK891 2⟩ (fun hHeld => ?_); refine with_tabW congouref04_Slope.tab10 congouref04_Slope.bits10 (fun HT_ HW_ => ?_)
       generalize wr.drew = w29 at HO_5 BK891 HB HR895 hHeld ⊢
       refine pS 0 58 16 1 ?_
       refine pS 4 62 16 17 ?_
       refine pS 6 64 16 81 ?_
       refine pS 12 70 16 4177 ?_
       refine tS 1 59 16 4179 ?_
       refine pS 2 60 16 4183 ?_
       refine tS 5 63 16 4215 ?_
       refine tS 7 65 16 4343 ?_
       refine pS 8 66 16 4599 ?_
       refine pS 9 67 16 5111 ?_
       refine pS 10 68 16 6135 ?_
       refine one_ (i := 3) (N := some 61) (ba 16 6143) rfl rfl (one_of HT_.out (by kernel_rfl)) (by decide) (fun K hK => ?_)
       refine Kd.R_lit_step (Kd.int .i64) _ 3 ?hg (N := 61) ?hd (xs := ([] : List Int)) (inner := []) (ok := fun _ => True) (okp := fun _ => True) ?hr ?hp (fun _ hk => hk) trivial (Below.refl _ _) (Nat.le_refl _) (by simp) ?_; (case hd => rfl); (case hg => rfl); (case hr => first | (go_simp; done) | (go_simp; rfl)); (case hp => exact (Reps.none _ _))
       intro v893 w31 ho32 hb hg_ hnew_
       clear hg_ hnew_
       (first | rw [← Ny892.out] at ho32 | (simp only [Int.reduceToNat] at ho32; rw [← Ny892.out] at ho32))
       replace HO_5 := kO HO_5 hb
       have HO894 := Aside0.mk (Kd.R_lower ho32 (below_size (hbC _)))
       replace BK891 := kB BK891 hb
       replace HB := kH _ hb
       clear hb ho32
       refine hK.out _ _ ⟨bc BK891 0, bc BK891 1, bc BK891 2⟩ (fun hHeld => ?_)
       clear hK K
       refine norm_ (a' := ?_) ?_ ?_
       rotate_left
       ·show Act.put _ (some 61) _ = _
        simp only [Act.put, List.setIfInBounds_toArray, List.set_cons_zero, List.set_cons_succ, i64_w, i32_w]
        rfl
       refine one_ (i := 11) (N := some 69) (ba 16 8191) rfl rfl (one_of HT_.out (by kernel_rfl)) (by decide) (fun K hK => ?_)
       refine Kd.R_append_rows_step (Kd.int .i64) (w0 := w) w.heap.size (by rfl) (.tmp 61) (.tmp 68) 22 3 (.int .i64 0) 8 rfl Try.underlying22 info3 rfl (by decide) (by omega) v893 y892 ((l0_1.take ((wrap64 ((l0_1.length : Int) - 1)) : Int).toNat).drop 1) _ _ _ (fun _ => True) (fun _ => False) rfl rfl ?aO ?aR (fun _ _ h => h) (fun _ h => h.elim) ?aF ?aB ?aS ?aL ?_
       (case aR => first | (rw [← show ((l0_1.take ((wrap64 ((l0_1.length : Int) - 1)) : Int).toNat).drop 1).length = ((wrap64 ((l0_1.length : Int) - 1)).toNat - 1) from (by rw [List.length_drop, List.length_take]; have h_ : ((wrap64 ((l0_1.length : Int) - 1)) : Int) ≤ (l0_1.length : Int) := dA; omega)]; exact kC HR895) | (exact kC HR895))
       (case aB => exact (hbC _))
       (case aF => exact (fun _ _ => trivial))
       (case aO => exact (rC HO894))
       (case aS => exact (below_size (hbC _)))
       (case aL => have := LMc28.out; have hlx_ := (show ((l0_1.take ((wrap64 ((l0_1.length : Int) - 1)) : Int).toNat).drop 1).length = ((wrap64 ((l0_1.length : Int) - 1)).toNat - 1) from (by rw [List.length_drop, List.length_take]; have h_ : ((wrap64 ((l0_1.length : Int) - 1)) : Int) ≤ (l0_1.length : Int) := dA; omega)); omega)
       intro v897 w33 ho hb hg hat
       rw [← Ny896.out] at ho
       have n0_ := Aside0.mk (Kd.R_over' (rC HO_5) (Kd.R_typed (rC HO894)) (by decide) hg)
       have n1_ := Aside0.mk (blk_grown (g := gb891) (o := .cells #[.int .i64 a0_0, .slice A0_1 l0_1.length c0_1, .slice A0_2 l0_2.length c0_2] 24 (0, 0)) (bkC BK891) hg (Kd.R_ne HO894.out BK891.out (by decide)))
       have n2_ := Aside0.mk (hb)
       have n3_ := Aside0.mk (ho)
       clear HO_5
       clear BK891
       clear HB
       clear HO894
       have HO_5 := n0_
       have BK891 := n1_
       have HB := n2_
       have HO898 := n3_
       clear n0_ n1_ n2_ n3_
       clear ho hb hg hat
       refine hK.out _ _ ⟨bc BK891 0, bc BK891 1, bc BK891 2⟩ (fun hHeld => ?_)
       clear hK K
       refine norm_ (a' := ?_) ?_ ?_
       rotate_left
       ·show Act.put _ (some 69) _ = _
        simp only [Act.put, List.setIfInBounds_toArray, List.set_cons_zero, List.set_cons_succ, i64_w, i32_w]
        rfl
       refine pS 13 2 16 16383 ?_
       refine pS 14 3 16 32767 ?_
       refine pS 15 4 16 65535 ?_
       refine done_ (done_of HT_.out (by kernel_rfl)) ?_
       try go_wp2
       go_ret3
       exact ⟨_, _, by first | rfl | (simp [errW_none, errW_some] <;> rfl) | (simp [*, errW_none, errW_some] <;> rfl), rC HO898, rC HO_5, hbC _⟩
      ·rw [if_neg c28] at H
       exact absurd H (by simp)
     ·rw [if_neg c27] at H
      exact absurd H (by simp)
    ·rw [if_neg c26] at H
     exact absurd H (by simp)

end Go.Proofs.Ytpnocmkpeogifaa.X
