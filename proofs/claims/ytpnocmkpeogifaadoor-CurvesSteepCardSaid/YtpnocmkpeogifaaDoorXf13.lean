-- Written by a program of this work (wip/xprint.py, over the kit's printer) out of the translation.
import Derived.Test.YtpnocmkpeogifaaDoorX0
import Derived.Test.YtpnocmkpeogifaaDoorXG2a
import Derived.Test.YtpnocmkpeogifaaDoorXq0
namespace Go.Proofs.YtpnocmkpeogifaaDoor.X
open Go.RowKit Go.Proofs.YtpnocmkpeogifaaDoorW.PrintWords Go.Proofs.YtpnocmkpeogifaaDoorW.PrintLast Go.Proofs.YtpnocmkpeogifaaDoorW.PrintMore
attribute [local go_sem] max2_int min2_int max_two min_two max_three min_three max_four min_four   -- for this text's walks alone
set_option linter.unusedVariables false
set_option linter.unusedSimpArgs false

attribute [local go_sem high] eqA26
/-! ### congouref04_In: function 13 -/
def congouref04_In.f (k : Nat) (a0_0 : Int) (l0_1 : List Int) (l0_2 : List Int) (a1_0 : Int) (a1_1 : Int) : Option (Bool) := if a1_1 ≥ 1 then (if a1_1 ≤ 12 then (if a1_0 ≥ 0 then (if a1_0 ≤ (wrap64 (12 * a1_1)) then ((congouref04_Frac.f k a1_0 a1_1).bind fun bt271 => (if (bt271.1 == a1_0 && (bt271.2 == a1_1)) = true then (if 0 ≤ a0_0 then (if a0_0 < (l0_1.length : Int) then (if a1_0 ≥ (wrap64 ((rd l0_1 a0_0) * a1_1)) then (if 0 ≤ (l0_2.length : Int) then (if (l0_2.length : Int) < (l0_1.length : Int) then (some (decide (a1_0 ≤ (wrap64 ((rd l0_1 (l0_2.length : Int)) * a1_1))))) else (none)) else (none)) else (some false)) else (none)) else (none)) else (some false))) else (some false)) else (some false)) else (some false)) else (some false)
theorem congouref04_In.mono : ∀ a0 a1 a2 a3 a4 k, LeO (congouref04_In.f k a0 a1 a2 a3 a4) (congouref04_In.f (k + 1) a0 a1 a2 a3 a4) := by
 intro a0 a1 a2 a3 a4 k
 unfold congouref04_In.f
 repeat' first
   | (with_reducible exact congouref04_Frac.mono _ _ _)
   | (with_reducible exact LeO.refl _)
   | (with_reducible exact LeO.none _)
   | (with_reducible refine LeO.ite ?_ ?_)
   | (with_reducible refine LeO.bind ?_ (fun _ => ?_))
   | exact congouref04_Frac.mono _ _ _
   | exact LeO.none _
   | refine LeO.ite ?_ ?_
   | refine LeO.bind ?_ (fun _ => ?_)
def congouref04_In.T1 : Bool × List (List Nat × List Nat) := (true, [([], []), ([0], [0]), ([1], [1]), ([2], [2]), ([3], [3]), ([4, 3], [3, 4]), ([5, 3], [3, 5]), ([3, 6], [3, 6]), ([7, 3], [7]), ([8], [8]), ([9, 8], [8, 9]), ([10, 8], [8, 10]), ([8, 11], [8, 11]), ([12, 8], [12]), ([13], [13]), ([14, 13], [13, 14]), ([13], [13]), ([16, 13], [13, 16]), ([17, 13], [13, 17]), ([15, 18, 13], [13, 15, 18]), ([13, 19], [13, 19]), ([20, 13], [20]), ([21], [21]), ([22, 21], [21, 22]), ([21], [21]), ([24, 21], [21, 24]), ([23, 25, 21, 21], [21, 23, 25]), ([21], [21]), ([26, 27, 21], [21, 26, 27]), ([21, 28], [21, 28]), ([29, 26], [29]), ([30], [30]), ([31, 30], [30, 31]), ([30], [30]), ([33, 30], [30, 33]), ([30], [30]), ([35, 30], [30, 35]), ([34, 36, 30], [30, 34, 36]), ([37, 30], [30, 37]), ([30], [30]), ([39, 30], [30, 39]), ([38, 40, 30], [30, 38, 40]), ([32, 41, 30], [30, 32, 41]), ([30, 42], [30, 42]), ([43, 30], [43]), ([44], [44]), ([45, 44], [44, 45]), ([44], [44]), ([47, 44], [44, 47]), ([44], [44]), ([49, 44], [44, 49]), ([50, 44], [44, 50]), ([48, 51, 44], [44, 48, 51]), ([52, 44], [44, 52]), ([44], [44]), ([54, 44], [44, 54]), ([53, 55, 44], [44, 53, 55]), ([46, 56, 44], [44, 46, 56]), ([44, 57], [44, 57]), ([58, 44, 0, 1, 2, 3, 4, 5, 6, 7, 8, 9, 10, 11, 12, 13, 14, 15, 16, 17, 18, 19, 20, 21, 22, 23, 24, 25, 26, 27, 28, 29, 30, 31, 32, 33, 34, 35, 36, 37, 38, 39, 40, 41, 42, 43, 44, 45, 46, 47, 48, 49, 50, 51, 52, 53, 54, 55, 56, 57, 58], [58])])
def congouref04_In.B1 : List Nat := [0, 1, 3, 7, 15, 31, 63, 127, 255, 511, 1023, 2047, 4095, 8191, 16383, 32767, 16383, 81919, 212991, 524287, 1048575, 2097151, 4194303, 8388607, 4194303, 20971519, 67108863, 4194303, 268435455, 536870911, 1073741823, 2147483647, 4294967295, 2147483647, 10737418239, 2147483647, 36507222015, 130996502527, 268435455999, 2147483647, 551903297535, 2192580804607, 4398046511103, 8796093022207, 17592186044415, 35184372088831, 70368744177663, 35184372088831, 175921860444159, 35184372088831, 598134325510143, 1724034232352767, 4398046511103999, 8901646138474495, 35184372088831, 18049582881570815, 71952040921661439, 144115188075855871, 288230376151711743, 576460752303423487]
theorem congouref04_In.tab1 : rtab .any (opsOf Tryd.f13 1) = congouref04_In.T1 := by kernel_rfl
theorem congouref04_In.bits1 : waitsOk congouref04_In.T1.2 congouref04_In.B1 = true := by kernel_rfl
set_option maxHeartbeats 8000000 in
set_option maxRecDepth 100000 in
theorem congouref04_In.calls (k : Nat) (a0_0 : Int) (A0_1 : Option Addr) (c0_1 : Nat) (l0_1 : List Int) (A0_2 : Option Addr) (c0_2 : Nat) (l0_2 : List Int) (a1_0 : Int) (a1_1 : Int) (r : Bool) (w : World) (hr0_1 : Kd.C (Kd.int .i64) w A0_1 l0_1.length l0_1) (hc0_1 : l0_1.length ≤ c0_1) (hr0_2 : Kd.C (Kd.int .i64) w A0_2 l0_2.length l0_2) (hc0_2 : l0_2.length ≤ c0_2) (h : congouref04_In.f k a0_0 l0_1 l0_2 a1_0 a1_1 = some r) :
  Calls Tryd.prog 13 #[.agg #[.int .i64 a0_0, .slice A0_1 l0_1.length c0_1, .slice A0_2 l0_2.length c0_2], .agg #[.int .i64 a1_0, .int .i64 a1_1]] w fun e w' => e = .returned (.bool r) ∧ Below w.heap.size w w' := by
 have hu24 := Tryd.underlying24
 have hu26 := Tryd.underlying26
 have HR0_1 := Aside0.mk hr0_1
 have HC0_1 := Aside0.mk hc0_1
 clear hr0_1 hc0_1
 have HR0_2 := Aside0.mk hr0_2
 have HC0_2 := Aside0.mk hc0_2
 clear hr0_2 hc0_2
 have HB := ak (Below.refl w.heap.size w)
 have H : (if a1_1 ≥ 1 then (if a1_1 ≤ 12 then (if a1_0 ≥ 0 then (if a1_0 ≤ (wrap64 (12 * a1_1)) then ((congouref04_Frac.f k a1_0 a1_1).bind fun bt271 => (if (bt271.1 == a1_0 && (bt271.2 == a1_1)) = true then (if 0 ≤ a0_0 then (if a0_0 < (l0_1.length : Int) then (if a1_0 ≥ (wrap64 ((rd l0_1 a0_0) * a1_1)) then (if 0 ≤ (l0_2.length : Int) then (if (l0_2.length : Int) < (l0_1.length : Int) then (some (decide (a1_0 ≤ (wrap64 ((rd l0_1 (l0_2.length : Int)) * a1_1))))) else (none)) else (none)) else (some false)) else (none)) else (none)) else (some false))) else (some false)) else (some false)) else (some false)) else (some false)) = some r := h
 clear h
 by_cases c3 : a1_1 ≥ 1
 rotate_left
 ·rw [if_neg c3] at H
  have c3b0 : decide (1 ≤ a1_1) = false := decide_eq_false c3
  clear c3
  obtain rfl := Option.some.inj H
  go_enter Tryd.func13, Tryd.ntmps13
  try go_wp2_with (first | ((with_reducible refine gate_dst (N := 2) rfl ?_); (try (refine gate_guard (by rfl) ?_; dsimp only)); refine bE 2 #[.int .i64 a0_0, .slice A0_1 l0_1.length c0_1, .slice A0_2 l0_2.length c0_2] 24 ?_; intro gb269 hg w35 hbox hb; have BK269 := ak (hbox); have GW269 := kG w hg; have GE269 := kG w hg; replace HB := kH _ hb; clear hb hbox hg) | ((with_reducible refine gate_dst (N := 3) rfl ?_); (try (refine gate_guard (by rfl) ?_; dsimp only)); refine bE 3 #[.int .i64 a1_0, .int .i64 a1_1] 26 ?_; intro gb270 hg w36 hbox hb; have BK270 := ak (hbox); have GW270 := kG w hg; have GE270 := kG w hg; replace HB := kH _ hb; have NB269_270 := kL BK269 hg; have NB270_269 := kR BK269 hg; replace BK269 := kB BK269 hb; clear hb hbox hg))
  replace BK269 := kd BK269
  replace BK270 := kd BK270
  replace HB := ak (below_drew1 HB.out)
  refine sS (n := 60) (S := fun w' => w'.cell? ⟨gb270, 0, none⟩ = some (.int .i64 a1_0) ∧ w'.cell? ⟨gb270, 1, none⟩ = some (.int .i64 a1_1)) (ds := []) ⟨bc BK270 0, bc BK270 1⟩ (fun hHeld => ?_); refine with_tabW congouref04_In.tab1 congouref04_In.bits1 (fun HT_ HW_ => ?_)
  generalize w36.drew = w37 at BK269 BK270 HB hHeld ⊢
  refine pS 0 5 60 1 ?_
  refine tS 1 6 60 3 ?_
  refine pS 2 7 60 7 ?_
  refine pS 3 8 60 15 ?_
  refine uS 4 9 60 31 ?_
  refine uS 5 10 60 63 ?_
  refine uS 6 11 60 127 ?_
  refine pS 7 12 60 255 ?_
  refine pS 8 13 60 511 ?_
  refine uS 9 14 60 1023 ?_
  refine uS 10 15 60 2047 ?_
  refine uS 11 16 60 4095 ?_
  refine pS 12 17 60 8191 ?_
  refine pS 13 18 60 16383 ?_
  refine uS 14 19 60 32767 ?_
  refine uS 15 20 60 65535 ?_
  refine uS 16 21 60 131071 ?_
  refine uS 17 22 60 262143 ?_
  refine uS 18 23 60 524287 ?_
  refine uS 19 24 60 1048575 ?_
  refine pS 20 25 60 2097151 ?_
  refine pS 21 26 60 4194303 ?_
  refine uS 22 27 60 8388607 ?_
  refine uS 23 28 60 16777215 ?_
  refine uS 24 29 60 33554431 ?_
  refine uS 25 30 60 67108863 ?_
  refine uS 26 31 60 134217727 ?_
  refine uS 27 32 60 268435455 ?_
  refine uS 28 33 60 536870911 ?_
  refine pS 29 34 60 1073741823 ?_
  refine pS 30 35 60 2147483647 ?_
  refine uS 31 36 60 4294967295 ?_
  refine uS 32 37 60 8589934591 ?_
  refine uS 33 38 60 17179869183 ?_
  refine uS 34 39 60 34359738367 ?_
  refine uS 35 40 60 68719476735 ?_
  refine uS 36 41 60 137438953471 ?_
  refine uS 37 42 60 274877906943 ?_
  refine uS 38 43 60 549755813887 ?_
  refine uS 39 44 60 1099511627775 ?_
  refine uS 40 45 60 2199023255551 ?_
  refine uS 41 46 60 4398046511103 ?_
  refine uS 42 47 60 8796093022207 ?_
  refine pS 43 48 60 17592186044415 ?_
  refine pS 44 49 60 35184372088831 ?_
  refine uS 45 50 60 70368744177663 ?_
  refine uS 46 51 60 140737488355327 ?_
  refine uS 47 52 60 281474976710655 ?_
  refine uS 48 53 60 562949953421311 ?_
  refine uS 49 54 60 1125899906842623 ?_
  refine uS 50 55 60 2251799813685247 ?_
  refine uS 51 56 60 4503599627370495 ?_
  refine uS 52 57 60 9007199254740991 ?_
  refine uS 53 58 60 18014398509481983 ?_
  refine uS 54 59 60 36028797018963967 ?_
  refine uS 55 60 60 72057594037927935 ?_
  refine uS 56 61 60 144115188075855871 ?_
  refine uS 57 62 60 288230376151711743 ?_
  refine pS 58 63 60 576460752303423487 ?_
  refine pS 59 4 60 1152921504606846975 ?_
  refine done_ (done_of HT_.out (by kernel_rfl)) ?_
  try go_wp2
  go_ret
  exact ⟨by first | rfl | (simp [errW_none, errW_some] <;> rfl) | (simp [*, errW_none, errW_some] <;> rfl), hbC _⟩
 rw [if_pos c3] at H
 have c3b0 : decide (1 ≤ a1_1) = true := decide_eq_true c3
 clear c3
 by_cases c4 : a1_1 ≤ 12
 rotate_left
 ·rw [if_neg c4] at H
  have c4b0 : decide (a1_1 ≤ 12) = false := decide_eq_false c4
  clear c4
  obtain rfl := Option.some.inj H
  go_enter Tryd.func13, Tryd.ntmps13
  try go_wp2_with (first | ((with_reducible refine gate_dst (N := 2) rfl ?_); (try (refine gate_guard (by rfl) ?_; dsimp only)); refine bE 2 #[.int .i64 a0_0, .slice A0_1 l0_1.length c0_1, .slice A0_2 l0_2.length c0_2] 24 ?_; intro gb269 hg w32 hbox hb; have BK269 := ak (hbox); have GW269 := kG w hg; have GE269 := kG w hg; replace HB := kH _ hb; clear hb hbox hg) | ((with_reducible refine gate_dst (N := 3) rfl ?_); (try (refine gate_guard (by rfl) ?_; dsimp only)); refine bE 3 #[.int .i64 a1_0, .int .i64 a1_1] 26 ?_; intro gb270 hg w33 hbox hb; have BK270 := ak (hbox); have GW270 := kG w hg; have GE270 := kG w hg; replace HB := kH _ hb; have NB269_270 := kL BK269 hg; have NB270_269 := kR BK269 hg; replace BK269 := kB BK269 hb; clear hb hbox hg))
  replace BK269 := kd BK269
  replace BK270 := kd BK270
  replace HB := ak (below_drew1 HB.out)
  refine sS (n := 60) (S := fun w' => w'.cell? ⟨gb270, 0, none⟩ = some (.int .i64 a1_0) ∧ w'.cell? ⟨gb270, 1, none⟩ = some (.int .i64 a1_1)) (ds := []) ⟨bc BK270 0, bc BK270 1⟩ (fun hHeld => ?_); refine with_tabW congouref04_In.tab1 congouref04_In.bits1 (fun HT_ HW_ => ?_)
  generalize w33.drew = w34 at BK269 BK270 HB hHeld ⊢
  refine pS 0 5 60 1 ?_
  refine tS 1 6 60 3 ?_
  refine pS 2 7 60 7 ?_
  refine pS 3 8 60 15 ?_
  refine pS 4 9 60 31 ?_
  refine tS 5 10 60 63 ?_
  refine pS 6 11 60 127 ?_
  refine pS 7 12 60 255 ?_
  refine pS 8 13 60 511 ?_
  refine uS 9 14 60 1023 ?_
  refine uS 10 15 60 2047 ?_
  refine uS 11 16 60 4095 ?_
  refine pS 12 17 60 8191 ?_
  refine pS 13 18 60 16383 ?_
  refine uS 14 19 60 32767 ?_
  refine uS 15 20 60 65535 ?_
  refine uS 16 21 60 131071 ?_
  refine uS 17 22 60 262143 ?_
  refine uS 18 23 60 524287 ?_
  refine uS 19 24 60 1048575 ?_
  refine pS 20 25 60 2097151 ?_
  refine pS 21 26 60 4194303 ?_
  refine uS 22 27 60 8388607 ?_
  refine uS 23 28 60 16777215 ?_
  refine uS 24 29 60 33554431 ?_
  refine uS 25 30 60 67108863 ?_
  refine uS 26 31 60 134217727 ?_
  refine uS 27 32 60 268435455 ?_
  refine uS 28 33 60 536870911 ?_
  refine pS 29 34 60 1073741823 ?_
  refine pS 30 35 60 2147483647 ?_
  refine uS 31 36 60 4294967295 ?_
  refine uS 32 37 60 8589934591 ?_
  refine uS 33 38 60 17179869183 ?_
  refine uS 34 39 60 34359738367 ?_
  refine uS 35 40 60 68719476735 ?_
  refine uS 36 41 60 137438953471 ?_
  refine uS 37 42 60 274877906943 ?_
  refine uS 38 43 60 549755813887 ?_
  refine uS 39 44 60 1099511627775 ?_
  refine uS 40 45 60 2199023255551 ?_
  refine uS 41 46 60 4398046511103 ?_
  refine uS 42 47 60 8796093022207 ?_
  refine pS 43 48 60 17592186044415 ?_
  refine pS 44 49 60 35184372088831 ?_
  refine uS 45 50 60 70368744177663 ?_
  refine uS 46 51 60 140737488355327 ?_
  refine uS 47 52 60 281474976710655 ?_
  refine uS 48 53 60 562949953421311 ?_
  refine uS 49 54 60 1125899906842623 ?_
  refine uS 50 55 60 2251799813685247 ?_
  refine uS 51 56 60 4503599627370495 ?_
  refine uS 52 57 60 9007199254740991 ?_
  refine uS 53 58 60 18014398509481983 ?_
  refine uS 54 59 60 36028797018963967 ?_
  refine uS 55 60 60 72057594037927935 ?_
  refine uS 56 61 60 144115188075855871 ?_
  refine uS 57 62 60 288230376151711743 ?_
  refine pS 58 63 60 576460752303423487 ?_
  refine pS 59 4 60 1152921504606846975 ?_
  refine done_ (done_of HT_.out (by kernel_rfl)) ?_
  try go_wp2
  go_ret
  exact ⟨by first | rfl | (simp [errW_none, errW_some] <;> rfl) | (simp [*, errW_none, errW_some] <;> rfl), hbC _⟩
 rw [if_pos c4] at H
 have c4b0 : decide (a1_1 ≤ 12) = true := decide_eq_true c4
 clear c4
 by_cases c5 : a1_0 ≥ 0
 rotate_left
 ·rw [if_neg c5] at H
  have c5b0 : decide (0 ≤ a1_0) = false := decide_eq_false c5
  clear c5
  obtain rfl := Option.some.inj H
  go_enter Tryd.func13, Tryd.ntmps13
  try go_wp2_with (first | ((with_reducible refine gate_dst (N := 2) rfl ?_); (try (refine gate_guard (by rfl) ?_; dsimp only)); refine bE 2 #[.int .i64 a0_0, .slice A0_1 l0_1.length c0_1, .slice A0_2 l0_2.length c0_2] 24 ?_; intro gb269 hg w29 hbox hb; have BK269 := ak (hbox); have GW269 := kG w hg; have GE269 := kG w hg; replace HB := kH _ hb; clear hb hbox hg) | ((with_reducible refine gate_dst (N := 3) rfl ?_); (try (refine gate_guard (by rfl) ?_; dsimp only)); refine bE 3 #[.int .i64 a1_0, .int .i64 a1_1] 26 ?_; intro gb270 hg w30 hbox hb; have BK270 := ak (hbox); have GW270 := kG w hg; have GE270 := kG w hg; replace HB := kH _ hb; have NB269_270 := kL BK269 hg; have NB270_269 := kR BK269 hg; replace BK269 := kB BK269 hb; clear hb hbox hg))
  replace BK269 := kd BK269
  replace BK270 := kd BK270
  replace HB := ak (below_drew1 HB.out)
  refine sS (n := 60) (S := fun w' => w'.cell? ⟨gb270, 0, none⟩ = some (.int .i64 a1_0) ∧ w'.cell? ⟨gb270, 1, none⟩ = some (.int .i64 a1_1)) (ds := []) ⟨bc BK270 0, bc BK270 1⟩ (fun hHeld => ?_); refine with_tabW congouref04_In.tab1 congouref04_In.bits1 (fun HT_ HW_ => ?_)
  generalize w30.drew = w31 at BK269 BK270 HB hHeld ⊢
  refine pS 0 5 60 1 ?_
  refine tS 1 6 60 3 ?_
  refine pS 2 7 60 7 ?_
  refine pS 3 8 60 15 ?_
  refine pS 4 9 60 31 ?_
  refine tS 5 10 60 63 ?_
  refine pS 6 11 60 127 ?_
  refine pS 7 12 60 255 ?_
  refine pS 8 13 60 511 ?_
  refine pS 9 14 60 1023 ?_
  refine tS 10 15 60 2047 ?_
  refine pS 11 16 60 4095 ?_
  refine pS 12 17 60 8191 ?_
  refine pS 13 18 60 16383 ?_
  refine uS 14 19 60 32767 ?_
  refine uS 15 20 60 65535 ?_
  refine uS 16 21 60 131071 ?_
  refine uS 17 22 60 262143 ?_
  refine uS 18 23 60 524287 ?_
  refine uS 19 24 60 1048575 ?_
  refine pS 20 25 60 2097151 ?_
  refine pS 21 26 60 4194303 ?_
  refine uS 22 27 60 8388607 ?_
  refine uS 23 28 60 16777215 ?_
  refine uS 24 29 60 33554431 ?_
  refine uS 25 30 60 67108863 ?_
  refine uS 26 31 60 134217727 ?_
  refine uS 27 32 60 268435455 ?_
  refine uS 28 33 60 536870911 ?_
  refine pS 29 34 60 1073741823 ?_
  refine pS 30 35 60 2147483647 ?_
  refine uS 31 36 60 4294967295 ?_
  refine uS 32 37 60 8589934591 ?_
  refine uS 33 38 60 17179869183 ?_
  refine uS 34 39 60 34359738367 ?_
  refine uS 35 40 60 68719476735 ?_
  refine uS 36 41 60 137438953471 ?_
  refine uS 37 42 60 274877906943 ?_
  refine uS 38 43 60 549755813887 ?_
  refine uS 39 44 60 1099511627775 ?_
  refine uS 40 45 60 2199023255551 ?_
  refine uS 41 46 60 4398046511103 ?_
  refine uS 42 47 60 8796093022207 ?_
  refine pS 43 48 60 17592186044415 ?_
  refine pS 44 49 60 35184372088831 ?_
  refine uS 45 50 60 70368744177663 ?_
  refine uS 46 51 60 140737488355327 ?_
  refine uS 47 52 60 281474976710655 ?_
  refine uS 48 53 60 562949953421311 ?_
  refine uS 49 54 60 1125899906842623 ?_
  refine uS 50 55 60 2251799813685247 ?_
  refine uS 51 56 60 4503599627370495 ?_
  refine uS 52 57 60 9007199254740991 ?_
  refine uS 53 58 60 18014398509481983 ?_
  refine uS 54 59 60 36028797018963967 ?_
  refine uS 55 60 60 72057594037927935 ?_
  refine uS 56 61 60 144115188075855871 ?_
  refine uS 57 62 60 288230376151711743 ?_
  refine pS 58 63 60 576460752303423487 ?_
  refine pS 59 4 60 1152921504606846975 ?_
  refine done_ (done_of HT_.out (by kernel_rfl)) ?_
  try go_wp2
  go_ret
  exact ⟨by first | rfl | (simp [errW_none, errW_some] <;> rfl) | (simp [*, errW_none, errW_some] <;> rfl), hbC _⟩
 rw [if_pos c5] at H
 have c5b0 : decide (0 ≤ a1_0) = true := decide_eq_true c5
 clear c5
 by_cases c6 : a1_0 ≤ (wrap64 (12 * a1_1))
 rotate_left
 ·rw [if_neg c6] at H
  have c6b0 : decide (a1_0 ≤ (wrap64 (12 * a1_1))) = false := decide_eq_false c6
  clear c6
  obtain rfl := Option.some.inj H
  go_enter Tryd.func13, Tryd.ntmps13
  try go_wp2_with (first | ((with_reducible refine gate_dst (N := 2) rfl ?_); (try (refine gate_guard (by rfl) ?_; dsimp only)); refine bE 2 #[.int .i64 a0_0, .slice A0_1 l0_1.length c0_1, .slice A0_2 l0_2.length c0_2] 24 ?_; intro gb269 hg w26 hbox hb; have BK269 := ak (hbox); have GW269 := kG w hg; have GE269 := kG w hg; replace HB := kH _ hb; clear hb hbox hg) | ((with_reducible refine gate_dst (N := 3) rfl ?_); (try (refine gate_guard (by rfl) ?_; dsimp only)); refine bE 3 #[.int .i64 a1_0, .int .i64 a1_1] 26 ?_; intro gb270 hg w27 hbox hb; have BK270 := ak (hbox); have GW270 := kG w hg; have GE270 := kG w hg; replace HB := kH _ hb; have NB269_270 := kL BK269 hg; have NB270_269 := kR BK269 hg; replace BK269 := kB BK269 hb; clear hb hbox hg))
  replace BK269 := kd BK269
  replace BK270 := kd BK270
  replace HB := ak (below_drew1 HB.out)
  refine sS (n := 60) (S := fun w' => w'.cell? ⟨gb270, 0, none⟩ = some (.int .i64 a1_0) ∧ w'.cell? ⟨gb270, 1, none⟩ = some (.int .i64 a1_1)) (ds := []) ⟨bc BK270 0, bc BK270 1⟩ (fun hHeld => ?_); refine with_tabW congouref04_In.tab1 congouref04_In.bits1 (fun HT_ HW_ => ?_)
  generalize w27.drew = w28 at BK269 BK270 HB hHeld ⊢
  refine pS 0 5 60 1 ?_
  refine tS 1 6 60 3 ?_
  refine pS 2 7 60 7 ?_
  refine pS 3 8 60 15 ?_
  refine pS 4 9 60 31 ?_
  refine tS 5 10 60 63 ?_
  refine pS 6 11 60 127 ?_
  refine pS 7 12 60 255 ?_
  refine pS 8 13 60 511 ?_
  refine pS 9 14 60 1023 ?_
  refine tS 10 15 60 2047 ?_
  refine pS 11 16 60 4095 ?_
  refine pS 12 17 60 8191 ?_
  refine pS 13 18 60 16383 ?_
  refine pS 14 19 60 32767 ?_
  refine pS 16 21 60 98303 ?_
  refine tS 15 20 60 131071 ?_
  refine tS 17 22 60 262143 ?_
  refine pS 18 23 60 524287 ?_
  refine pS 19 24 60 1048575 ?_
  refine pS 20 25 60 2097151 ?_
  refine pS 21 26 60 4194303 ?_
  refine uS 22 27 60 8388607 ?_
  refine uS 23 28 60 16777215 ?_
  refine uS 24 29 60 33554431 ?_
  refine uS 25 30 60 67108863 ?_
  refine uS 26 31 60 134217727 ?_
  refine uS 27 32 60 268435455 ?_
  refine uS 28 33 60 536870911 ?_
  refine pS 29 34 60 1073741823 ?_
  refine pS 30 35 60 2147483647 ?_
  refine uS 31 36 60 4294967295 ?_
  refine uS 32 37 60 8589934591 ?_
  refine uS 33 38 60 17179869183 ?_
  refine uS 34 39 60 34359738367 ?_
  refine uS 35 40 60 68719476735 ?_
  refine uS 36 41 60 137438953471 ?_
  refine uS 37 42 60 274877906943 ?_
  refine uS 38 43 60 549755813887 ?_
  refine uS 39 44 60 1099511627775 ?_
  refine uS 40 45 60 2199023255551 ?_
  refine uS 41 46 60 4398046511103 ?_
  refine uS 42 47 60 8796093022207 ?_
  refine pS 43 48 60 17592186044415 ?_
  refine pS 44 49 60 35184372088831 ?_
  refine uS 45 50 60 70368744177663 ?_
  refine uS 46 51 60 140737488355327 ?_
  refine uS 47 52 60 281474976710655 ?_
  refine uS 48 53 60 562949953421311 ?_
  refine uS 49 54 60 1125899906842623 ?_
  refine uS 50 55 60 2251799813685247 ?_
  refine uS 51 56 60 4503599627370495 ?_
  refine uS 52 57 60 9007199254740991 ?_
  refine uS 53 58 60 18014398509481983 ?_
  refine uS 54 59 60 36028797018963967 ?_
  refine uS 55 60 60 72057594037927935 ?_
  refine uS 56 61 60 144115188075855871 ?_
  refine uS 57 62 60 288230376151711743 ?_
  refine pS 58 63 60 576460752303423487 ?_
  refine pS 59 4 60 1152921504606846975 ?_
  refine done_ (done_of HT_.out (by kernel_rfl)) ?_
  try go_wp2
  go_ret
  exact ⟨by first | rfl | (simp [errW_none, errW_some] <;> rfl) | (simp [*, errW_none, errW_some] <;> rfl), hbC _⟩
 rw [if_pos c6] at H
 have c6b0 : decide (a1_0 ≤ (wrap64 (12 * a1_1))) = true := decide_eq_true c6
 clear c6
 replace H := Option.bind_eq_some_iff.mp H
 obtain ⟨⟨t271, t272⟩, A70, H⟩ := H
 replace H : (if (t271 == a1_0 && (t272 == a1_1)) = true then (if 0 ≤ a0_0 then (if a0_0 < (l0_1.length : Int) then (if a1_0 ≥ (wrap64 ((rd l0_1 a0_0) * a1_1)) then (if 0 ≤ (l0_2.length : Int) then (if (l0_2.length : Int) < (l0_1.length : Int) then (some (decide (a1_0 ≤ (wrap64 ((rd l0_1 (l0_2.length : Int)) * a1_1))))) else (none)) else (none)) else (some false)) else (none)) else (none)) else (some false)) = some r := H
 have A7 := Aside0.mk A70
 clear A70
 by_cases c8 : (t271 == a1_0 && (t272 == a1_1)) = true
 rotate_left
 ·rw [if_neg c8] at H
  have c8b0 : (t271 == a1_0 && (t272 == a1_1)) = false := by simpa using c8
  (try (have c8b1 : decide (t271 = a1_0 && (t272 == a1_1)) = false := by simpa using c8))
  (try (have c8b2 : (t271 == a1_0 && (t272 == a1_1)) = false := by simpa using c8))
  (try (have c8b3 : ¬ (t271 = a1_0 && (t272 == a1_1)) := by simpa using c8))
  clear c8
  obtain rfl := Option.some.inj H
  go_enter Tryd.func13, Tryd.ntmps13
  try go_wp2_with (first | ((with_reducible refine gate_dst (N := 2) rfl ?_); (try (refine gate_guard (by rfl) ?_; dsimp only)); refine bE 2 #[.int .i64 a0_0, .slice A0_1 l0_1.length c0_1, .slice A0_2 l0_2.length c0_2] 24 ?_; intro gb269 hg w22 hbox hb; have BK269 := ak (hbox); have GW269 := kG w hg; have GE269 := kG w hg; replace HB := kH _ hb; clear hb hbox hg) | ((with_reducible refine gate_dst (N := 3) rfl ?_); (try (refine gate_guard (by rfl) ?_; dsimp only)); refine bE 3 #[.int .i64 a1_0, .int .i64 a1_1] 26 ?_; intro gb270 hg w23 hbox hb; have BK270 := ak (hbox); have GW270 := kG w hg; have GE270 := kG w hg; replace HB := kH _ hb; have NB269_270 := kL BK269 hg; have NB270_269 := kR BK269 hg; replace BK269 := kB BK269 hb; clear hb hbox hg))
  replace BK269 := kd BK269
  replace BK270 := kd BK270
  replace HB := ak (below_drew1 HB.out)
  refine sS (n := 60) (S := fun w' => w'.cell? ⟨gb270, 0, none⟩ = some (.int .i64 a1_0) ∧ w'.cell? ⟨gb270, 1, none⟩ = some (.int .i64 a1_1)) (ds := []) ⟨bc BK270 0, bc BK270 1⟩ (fun hHeld => ?_); refine with_tabW congouref04_In.tab1 congouref04_In.bits1 (fun HT_ HW_ => ?_)
  generalize w23.drew = w24 at BK269 BK270 HB hHeld ⊢
  refine pS 0 5 60 1 ?_
  refine tS 1 6 60 3 ?_
  refine pS 2 7 60 7 ?_
  refine pS 3 8 60 15 ?_
  refine pS 4 9 60 31 ?_
  refine tS 5 10 60 63 ?_
  refine pS 6 11 60 127 ?_
  refine pS 7 12 60 255 ?_
  refine pS 8 13 60 511 ?_
  refine pS 9 14 60 1023 ?_
  refine tS 10 15 60 2047 ?_
  refine pS 11 16 60 4095 ?_
  refine pS 12 17 60 8191 ?_
  refine pS 13 18 60 16383 ?_
  refine pS 14 19 60 32767 ?_
  refine pS 16 21 60 98303 ?_
  refine tS 15 20 60 131071 ?_
  refine tS 17 22 60 262143 ?_
  refine pS 18 23 60 524287 ?_
  refine pS 19 24 60 1048575 ?_
  refine pS 20 25 60 2097151 ?_
  refine pS 21 26 60 4194303 ?_
  refine pS 22 27 60 8388607 ?_
  refine pS 24 29 60 25165823 ?_
  refine tS 23 28 60 33554431 ?_
  refine tS 25 30 60 67108863 ?_
  refine tS 27 32 60 201326591 ?_
  refine one_ (i := 26) (N := some 31) (ba 60 268435455) rfl rfl (one_of HT_.out (by kernel_rfl)) (by decide) (fun K hK => ?_)
  refine gC Tryd.func22 #[.int .i64 a1_0, .int .i64 a1_1] ?_
  with_reducible refine (congouref04_Frac.calls k a1_0 a1_1 t271 t272 _ A7.out).mono ?_
  rintro e w25 ⟨rfl, hb⟩
  refine ⟨_, rfl, ?_⟩
  replace BK269 := kB BK269 hb
  replace BK270 := kB BK270 hb
  replace HB := kH _ hb
  (try clear hb)
  (try clear hb2)
  (try clear hk)
  (try clear hi)
  refine hK.out _ _ ⟨bc BK270 0, bc BK270 1⟩ (fun hHeld => ?_)
  clear hK K
  refine norm_ (a' := ?_) ?_ ?_
  rotate_left
  ·show Act.put _ (some 31) _ = _
   simp only [Act.put, List.setIfInBounds_toArray, List.set_cons_zero, List.set_cons_succ, i64_w, i32_w]
   rfl
  refine pS 28 33 60 536870911 ?_
  refine pS 29 34 60 1073741823 ?_
  refine pS 30 35 60 2147483647 ?_
  refine uS 31 36 60 4294967295 ?_
  refine uS 32 37 60 8589934591 ?_
  refine uS 33 38 60 17179869183 ?_
  refine uS 34 39 60 34359738367 ?_
  refine uS 35 40 60 68719476735 ?_
  refine uS 36 41 60 137438953471 ?_
  refine uS 37 42 60 274877906943 ?_
  refine uS 38 43 60 549755813887 ?_
  refine uS 39 44 60 1099511627775 ?_
  refine uS 40 45 60 2199023255551 ?_
  refine uS 41 46 60 4398046511103 ?_
  refine uS 42 47 60 8796093022207 ?_
  refine pS 43 48 60 17592186044415 ?_
  refine pS 44 49 60 35184372088831 ?_
  refine uS 45 50 60 70368744177663 ?_
  refine uS 46 51 60 140737488355327 ?_
  refine uS 47 52 60 281474976710655 ?_
  refine uS 48 53 60 562949953421311 ?_
  refine uS 49 54 60 1125899906842623 ?_
  refine uS 50 55 60 2251799813685247 ?_
  refine uS 51 56 60 4503599627370495 ?_
  refine uS 52 57 60 9007199254740991 ?_
  refine uS 53 58 60 18014398509481983 ?_
  refine uS 54 59 60 36028797018963967 ?_
  refine uS 55 60 60 72057594037927935 ?_
  refine uS 56 61 60 144115188075855871 ?_
  refine uS 57 62 60 288230376151711743 ?_
  refine pS 58 63 60 576460752303423487 ?_
  refine pS 59 4 60 1152921504606846975 ?_
  refine done_ (done_of HT_.out (by kernel_rfl)) ?_
  try go_wp2
  go_ret
  exact ⟨by first | rfl | (simp [errW_none, errW_some] <;> rfl) | (simp [*, errW_none, errW_some] <;> rfl), hbC _⟩
 rw [if_pos c8] at H
 have c8b0 : (t271 == a1_0 && (t272 == a1_1)) = true := c8
 (try (have c8b1 : decide (t271 = a1_0 && (t272 == a1_1)) = true := by simpa using c8))
 (try (have c8b2 : (t271 == a1_0 && (t272 == a1_1)) = true := by simpa using c8))
 clear c8
 by_cases c9 : 0 ≤ a0_0
 rotate_left
 ·rw [if_neg c9] at H
  exact absurd H (by simp)
 rw [if_pos c9] at H
 have c9b0 : decide (0 ≤ a0_0) = true := decide_eq_true c9
 clear c9
 by_cases c10 : a0_0 < (l0_1.length : Int)
 rotate_left
 ·rw [if_neg c10] at H
  exact absurd H (by simp)
 rw [if_pos c10] at H
 have c10b0 : decide (a0_0 < (l0_1.length : Int)) = true := decide_eq_true c10
 clear c10
 by_cases c11 : a1_0 ≥ (wrap64 ((rd l0_1 a0_0) * a1_1))
 rotate_left
 ·rw [if_neg c11] at H
  have c11b0 : decide ((wrap64 ((rd l0_1 a0_0) * a1_1)) ≤ a1_0) = false := decide_eq_false c11
  clear c11
  obtain rfl := Option.some.inj H
  go_enter Tryd.func13, Tryd.ntmps13
  try go_wp2_with (first | ((with_reducible refine gate_dst (N := 2) rfl ?_); (try (refine gate_guard (by rfl) ?_; dsimp only)); refine bE 2 #[.int .i64 a0_0, .slice A0_1 l0_1.length c0_1, .slice A0_2 l0_2.length c0_2] 24 ?_; intro gb269 hg w18 hbox hb; have BK269 := ak (hbox); have GW269 := kG w hg; have GE269 := kG w hg; replace HB := kH _ hb; clear hb hbox hg) | ((with_reducible refine gate_dst (N := 3) rfl ?_); (try (refine gate_guard (by rfl) ?_; dsimp only)); refine bE 3 #[.int .i64 a1_0, .int .i64 a1_1] 26 ?_; intro gb270 hg w19 hbox hb; have BK270 := ak (hbox); have GW270 := kG w hg; have GE270 := kG w hg; replace HB := kH _ hb; have NB269_270 := kL BK269 hg; have NB270_269 := kR BK269 hg; replace BK269 := kB BK269 hb; clear hb hbox hg))
  replace BK269 := kd BK269
  replace BK270 := kd BK270
  replace HB := ak (below_drew1 HB.out)
  have p273 : 0 ≤ (a0_0 : Int) := dA
  have q273 : a0_0 < (l0_1.length : Int) := dA
  obtain ⟨ad273, e273, hx273_0⟩ := Kd.at_int HR0_1.out a0_0 p273 q273
  have hw273_0 := hx273_0
  cases e273
  try replace hx273_0 := (HB.out.cell (World.block_lt_of_cell? w _ hx273_0)).trans hx273_0
  replace p273 := eq_true p273
  replace q273 := eq_true q273
  refine sS (n := 60) (S := fun w' => w'.cell? ⟨gb270, 0, none⟩ = some (.int .i64 a1_0) ∧ w'.cell? ⟨gb270, 1, none⟩ = some (.int .i64 a1_1) ∧ w'.cell? ⟨gb269, 0, none⟩ = some (.int .i64 a0_0) ∧ w'.cell? ⟨gb269, 1, none⟩ = some (.slice (some ad273) l0_1.length c0_1) ∧ w'.cell? ⟨gb269, 2, none⟩ = some (.slice A0_2 l0_2.length c0_2) ∧ w'.cell? (ad273.add (a0_0).toNat) = some (.int .i64 (rd l0_1 a0_0))) (ds := []) ⟨bc BK270 0, bc BK270 1, bc BK269 0, bc BK269 1, bc BK269 2, ((HB.out.cell (World.block_lt_of_cell? w _ hw273_0)).trans hw273_0)⟩ (fun hHeld => ?_); refine with_tabW congouref04_In.tab1 congouref04_In.bits1 (fun HT_ HW_ => ?_)
  generalize w19.drew = w20 at BK269 BK270 HB hx273_0 hHeld ⊢
  refine pS 0 5 60 1 ?_
  refine tS 1 6 60 3 ?_
  refine pS 2 7 60 7 ?_
  refine pS 3 8 60 15 ?_
  refine pS 4 9 60 31 ?_
  refine tS 5 10 60 63 ?_
  refine pS 6 11 60 127 ?_
  refine pS 7 12 60 255 ?_
  refine pS 8 13 60 511 ?_
  refine pS 9 14 60 1023 ?_
  refine tS 10 15 60 2047 ?_
  refine pS 11 16 60 4095 ?_
  refine pS 12 17 60 8191 ?_
  refine pS 13 18 60 16383 ?_
  refine pS 14 19 60 32767 ?_
  refine pS 16 21 60 98303 ?_
  refine tS 15 20 60 131071 ?_
  refine tS 17 22 60 262143 ?_
  refine pS 18 23 60 524287 ?_
  refine pS 19 24 60 1048575 ?_
  refine pS 20 25 60 2097151 ?_
  refine pS 21 26 60 4194303 ?_
  refine pS 22 27 60 8388607 ?_
  refine pS 24 29 60 25165823 ?_
  refine tS 23 28 60 33554431 ?_
  refine tS 25 30 60 67108863 ?_
  refine tS 27 32 60 201326591 ?_
  refine one_ (i := 26) (N := some 31) (ba 60 268435455) rfl rfl (one_of HT_.out (by kernel_rfl)) (by decide) (fun K hK => ?_)
  refine gC Tryd.func22 #[.int .i64 a1_0, .int .i64 a1_1] ?_
  with_reducible refine (congouref04_Frac.calls k a1_0 a1_1 t271 t272 _ A7.out).mono ?_
  rintro e w21 ⟨rfl, hb⟩
  refine ⟨_, rfl, ?_⟩
  replace BK269 := kB BK269 hb
  replace BK270 := kB BK270 hb
  replace HB := kH _ hb
  (try clear hb)
  (try clear hb2)
  (try clear hk)
  (try clear hi)
  refine hK.out _ _ ⟨bc BK270 0, bc BK270 1, bc BK269 0, bc BK269 1, bc BK269 2, ((HB.out.cell (World.block_lt_of_cell? w _ hw273_0)).trans hw273_0)⟩ (fun hHeld => ?_)
  clear hK K
  refine norm_ (a' := ?_) ?_ ?_
  rotate_left
  ·show Act.put _ (some 31) _ = _
   simp only [Act.put, List.setIfInBounds_toArray, List.set_cons_zero, List.set_cons_succ, i64_w, i32_w]
   rfl
  refine pS 28 33 60 536870911 ?_
  refine pS 29 34 60 1073741823 ?_
  refine pS 30 35 60 2147483647 ?_
  refine pS 31 36 60 4294967295 ?_
  refine pS 33 38 60 12884901887 ?_
  refine pS 35 40 60 47244640255 ?_
  refine pS 39 44 60 597000454143 ?_
  refine tS 32 37 60 601295421439 ?_
  refine tS 34 39 60 618475290623 ?_
  refine tS 36 41 60 687194767359 ?_
  refine pS 37 42 60 824633720831 ?_
  refine tS 38 43 60 1099511627775 ?_
  refine tS 40 45 60 2199023255551 ?_
  refine pS 41 46 60 4398046511103 ?_
  refine pS 42 47 60 8796093022207 ?_
  refine pS 43 48 60 17592186044415 ?_
  refine pS 44 49 60 35184372088831 ?_
  refine uS 45 50 60 70368744177663 ?_
  refine uS 46 51 60 140737488355327 ?_
  refine uS 47 52 60 281474976710655 ?_
  refine uS 48 53 60 562949953421311 ?_
  refine uS 49 54 60 1125899906842623 ?_
  refine uS 50 55 60 2251799813685247 ?_
  refine uS 51 56 60 4503599627370495 ?_
  refine uS 52 57 60 9007199254740991 ?_
  refine uS 53 58 60 18014398509481983 ?_
  refine uS 54 59 60 36028797018963967 ?_
  refine uS 55 60 60 72057594037927935 ?_
  refine uS 56 61 60 144115188075855871 ?_
  refine uS 57 62 60 288230376151711743 ?_
  refine pS 58 63 60 576460752303423487 ?_
  refine pS 59 4 60 1152921504606846975 ?_
  refine done_ (done_of HT_.out (by kernel_rfl)) ?_
  try go_wp2
  go_ret
  exact ⟨by first | rfl | (simp [errW_none, errW_some] <;> rfl) | (simp [*, errW_none, errW_some] <;> rfl), hbC _⟩
 rw [if_pos c11] at H
 have c11b0 : decide ((wrap64 ((rd l0_1 a0_0) * a1_1)) ≤ a1_0) = true := decide_eq_true c11
 clear c11
 by_cases c12 : 0 ≤ (l0_2.length : Int)
 rotate_left
 ·rw [if_neg c12] at H
  exact absurd H (by simp)
 rw [if_pos c12] at H
 have c12b0 : decide (0 ≤ (l0_2.length : Int)) = true := decide_eq_true c12
 have c12b1 : decide (0 ≤ l0_2.length) = true := decide_eq_true (by omega)
 clear c12
 by_cases c13 : (l0_2.length : Int) < (l0_1.length : Int)
 rotate_left
 ·rw [if_neg c13] at H
  exact absurd H (by simp)
 rw [if_pos c13] at H
 have c13b0 : decide ((l0_2.length : Int) < (l0_1.length : Int)) = true := decide_eq_true c13
 have c13b1 : decide (l0_2.length < l0_1.length) = true := decide_eq_true (Int.ofNat_lt.mp c13)
 clear c13
 obtain rfl := Option.some.inj H
 go_enter Tryd.func13, Tryd.ntmps13
 try go_wp2_with (first | ((with_reducible refine gate_dst (N := 2) rfl ?_); (try (refine gate_guard (by rfl) ?_; dsimp only)); refine bE 2 #[.int .i64 a0_0, .slice A0_1 l0_1.length c0_1, .slice A0_2 l0_2.length c0_2] 24 ?_; intro gb269 hg w14 hbox hb; have BK269 := ak (hbox); have GW269 := kG w hg; have GE269 := kG w hg; replace HB := kH _ hb; clear hb hbox hg) | ((with_reducible refine gate_dst (N := 3) rfl ?_); (try (refine gate_guard (by rfl) ?_; dsimp only)); refine bE 3 #[.int .i64 a1_0, .int .i64 a1_1] 26 ?_; intro gb270 hg w15 hbox hb; have BK270 := ak (hbox); have GW270 := kG w hg; have GE270 := kG w hg; replace HB := kH _ hb; have NB269_270 := kL BK269 hg; have NB270_269 := kR BK269 hg; replace BK269 := kB BK269 hb; clear hb hbox hg))
 replace BK269 := kd BK269
 replace BK270 := kd BK270
 replace HB := ak (below_drew1 HB.out)
 have p273 : 0 ≤ (a0_0 : Int) := dA
 have q273 : a0_0 < (l0_1.length : Int) := dA
 obtain ⟨ad273, e273, hx273_0⟩ := Kd.at_int HR0_1.out a0_0 p273 q273
 have hw273_0 := hx273_0
 cases e273
 try replace hx273_0 := (HB.out.cell (World.block_lt_of_cell? w _ hx273_0)).trans hx273_0
 replace p273 := eq_true p273
 replace q273 := eq_true q273
 have p274 : 0 ≤ ((l0_2.length : Int) : Int) := dA
 have q274 : (l0_2.length : Int) < (l0_1.length : Int) := dA
 obtain ⟨ad274, e274, hx274_0⟩ := Kd.at_int HR0_1.out (l0_2.length : Int) p274 q274
 have hw274_0 := hx274_0
 obtain rfl : ad273 = ad274 := (by injection e274)
 try replace hx274_0 := (HB.out.cell (World.block_lt_of_cell? w _ hx274_0)).trans hx274_0
 (try simp only [Go.IntWalk.toNatUp] at hx274_0)
 (try simp only [Int.toNat_natCast] at hx274_0)
 replace p274 := eq_true p274
 replace q274 := eq_true q274
 refine sS (n := 60) (S := fun w' => w'.cell? ⟨gb270, 0, none⟩ = some (.int .i64 a1_0) ∧ w'.cell? ⟨gb270, 1, none⟩ = some (.int .i64 a1_1) ∧ w'.cell? ⟨gb269, 0, none⟩ = some (.int .i64 a0_0) ∧ w'.cell? ⟨gb269, 1, none⟩ = some (.slice (some ad273) l0_1.length c0_1) ∧ w'.cell? ⟨gb269, 2, none⟩ = some (.slice A0_2 l0_2.length c0_2) ∧ w'.cell? (ad273.add (a0_0).toNat) = some (.int .i64 (rd l0_1 a0_0)) ∧ w'.cell? (ad273.add l0_2.length) = some (.int .i64 (rd l0_1 (l0_2.length : Int)))) (ds := []) ⟨bc BK270 0, bc BK270 1, bc BK269 0, bc BK269 1, bc BK269 2, ((HB.out.cell (World.block_lt_of_cell? w _ hw273_0)).trans hw273_0), ((HB.out.cell (World.block_lt_of_cell? w _ hw274_0)).trans hw274_0)⟩ (fun hHeld => ?_); refine with_tabW congouref04_In.tab1 congouref04_In.bits1 (fun HT_ HW_ => ?_)
 generalize w15.drew = w16 at BK269 BK270 HB hx273_0 hx274_0 hHeld ⊢
 refine pS 0 5 60 1 ?_
 refine tS 1 6 60 3 ?_
 refine pS 2 7 60 7 ?_
 refine pS 3 8 60 15 ?_
 refine pS 4 9 60 31 ?_
 refine tS 5 10 60 63 ?_
 refine pS 6 11 60 127 ?_
 refine pS 7 12 60 255 ?_
 refine pS 8 13 60 511 ?_
 refine pS 9 14 60 1023 ?_
 refine tS 10 15 60 2047 ?_
 refine pS 11 16 60 4095 ?_
 refine pS 12 17 60 8191 ?_
 refine pS 13 18 60 16383 ?_
 refine pS 14 19 60 32767 ?_
 refine pS 16 21 60 98303 ?_
 refine tS 15 20 60 131071 ?_
 refine tS 17 22 60 262143 ?_
 refine pS 18 23 60 524287 ?_
 refine pS 19 24 60 1048575 ?_
 refine pS 20 25 60 2097151 ?_
 refine pS 21 26 60 4194303 ?_
 refine pS 22 27 60 8388607 ?_
 refine pS 24 29 60 25165823 ?_
 refine tS 23 28 60 33554431 ?_
 refine tS 25 30 60 67108863 ?_
 refine tS 27 32 60 201326591 ?_
 refine one_ (i := 26) (N := some 31) (ba 60 268435455) rfl rfl (one_of HT_.out (by kernel_rfl)) (by decide) (fun K hK => ?_)
 refine gC Tryd.func22 #[.int .i64 a1_0, .int .i64 a1_1] ?_
 with_reducible refine (congouref04_Frac.calls k a1_0 a1_1 t271 t272 _ A7.out).mono ?_
 rintro e w17 ⟨rfl, hb⟩
 refine ⟨_, rfl, ?_⟩
 replace BK269 := kB BK269 hb
 replace BK270 := kB BK270 hb
 replace HB := kH _ hb
 (try clear hb)
 (try clear hb2)
 (try clear hk)
 (try clear hi)
 refine hK.out _ _ ⟨bc BK270 0, bc BK270 1, bc BK269 0, bc BK269 1, bc BK269 2, ((HB.out.cell (World.block_lt_of_cell? w _ hw273_0)).trans hw273_0), ((HB.out.cell (World.block_lt_of_cell? w _ hw274_0)).trans hw274_0)⟩ (fun hHeld => ?_)
 clear hK K
 refine norm_ (a' := ?_) ?_ ?_
 rotate_left
 ·show Act.put _ (some 31) _ = _
  simp only [Act.put, List.setIfInBounds_toArray, List.set_cons_zero, List.set_cons_succ, i64_w, i32_w]
  rfl
 refine pS 28 33 60 536870911 ?_
 refine pS 29 34 60 1073741823 ?_
 refine pS 30 35 60 2147483647 ?_
 refine pS 31 36 60 4294967295 ?_
 refine pS 33 38 60 12884901887 ?_
 refine pS 35 40 60 47244640255 ?_
 refine pS 39 44 60 597000454143 ?_
 refine tS 32 37 60 601295421439 ?_
 refine tS 34 39 60 618475290623 ?_
 refine tS 36 41 60 687194767359 ?_
 refine pS 37 42 60 824633720831 ?_
 refine tS 38 43 60 1099511627775 ?_
 refine tS 40 45 60 2199023255551 ?_
 refine pS 41 46 60 4398046511103 ?_
 refine pS 42 47 60 8796093022207 ?_
 refine pS 43 48 60 17592186044415 ?_
 refine pS 44 49 60 35184372088831 ?_
 refine pS 45 50 60 70368744177663 ?_
 refine pS 47 52 60 211106232532991 ?_
 refine pS 49 54 60 774056185954303 ?_
 refine pS 54 59 60 18788454695436287 ?_
 refine tS 46 51 60 18858823439613951 ?_
 refine tS 48 53 60 19140298416324607 ?_
 refine tS 50 55 60 20266198323167231 ?_
 refine pS 51 56 60 22517998136852479 ?_
 refine pS 52 57 60 27021597764222975 ?_
 refine tS 53 58 60 36028797018963967 ?_
 refine tS 55 60 60 72057594037927935 ?_
 refine pS 56 61 60 144115188075855871 ?_
 refine pS 57 62 60 288230376151711743 ?_
 refine pS 58 63 60 576460752303423487 ?_
 refine pS 59 4 60 1152921504606846975 ?_
 refine done_ (done_of HT_.out (by kernel_rfl)) ?_
 try go_wp2
 go_ret
 exact ⟨by first | rfl | (simp [errW_none, errW_some] <;> rfl) | (simp [*, errW_none, errW_some] <;> rfl), hbC _⟩

end Go.Proofs.YtpnocmkpeogifaaDoor.X
