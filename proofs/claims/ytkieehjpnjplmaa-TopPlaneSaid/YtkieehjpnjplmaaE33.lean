/- The walk of areThrees in the good case: triples that are threes of nine players. -/
import Derived.Test.YtkieehjpnjplmaaE61
import Derived.Test.YtkieehjpnjplmaaE14
import Derived.Deep.RegionWith
import Derived.BigRegion
namespace Go.Proofs.Ytkieehjpnjplmaa
open Go Go.Proofs Go.RowKit Go.Proofs.Ytkieehjpnjplmaa.X Go.Proofs.YtkieehjpnjplmaaW.PrintWords Go.Proofs.YtkieehjpnjplmaaW.PrintLast Go.Proofs.YtkieehjpnjplmaaW.PrintMore
set_option linter.unusedVariables false
set_option linter.unusedSimpArgs false
def putS (S : List (Int × Int)) (t : S39) : List (Int × Int) := (t.f1, t.f2) :: (t.f0, t.f2) :: (t.f0, t.f1) :: S
def setOf (l : List S39) (i : Nat) : List (Int × Int) := (l.take i).foldl putS []
theorem setOf_succ (l : List S39) (i : Nat) (h : i < l.length) : setOf l (i + 1) = putS (setOf l i) (rd_T39 l (i : Int)) := by
  unfold setOf
  rw [List.take_succ_eq_append_getElem h, List.foldl_append]
  simp [rd_T39, List.getD_eq_getElem?_getD, List.getElem?_eq_getElem h]
/-- threes of nine players -/
structure Good (l : List S39) : Prop where
  hl : l.length ≤ 100
  hb : ∀ i : Nat, i < l.length → 0 ≤ (rd_T39 l i).f0 ∧ (rd_T39 l i).f0 < (rd_T39 l i).f1 ∧ (rd_T39 l i).f1 < (rd_T39 l i).f2 ∧ (rd_T39 l i).f2 < 9
  hn : ∀ i : Nat, i < l.length → ((rd_T39 l i).f0, (rd_T39 l i).f1) ∉ setOf l i ∧ ((rd_T39 l i).f0, (rd_T39 l i).f2) ∉ setOf l i ∧ ((rd_T39 l i).f1, (rd_T39 l i).f2) ∉ setOf l i
  hc : ∀ i : Nat, i + 1 < l.length → cmp3 (rd_T39 l i) (rd_T39 l (i + 1 : Nat)) < 0
  ha : ∀ x y : Int, 0 ≤ x → x < y → y < 9 → (x, y) ∈ setOf l l.length
def Y33.T5 : Bool × List (List Nat × List Nat) := (true, [([], []), ([0], [0]), ([1], [1]), ([2], [2]), ([3], [3]), ([4, 3], [3, 4]), ([3], [3]), ([6, 3], [3, 6]), ([5, 7, 3], [3, 5, 7]), ([3, 8], [3, 8]), ([9, 3], [9]), ([10], [10]), ([11, 10], [10, 11]), ([10], [10]), ([13, 10], [10, 13]), ([12, 14, 10], [10, 12, 14]), ([10, 15], [10, 15]), ([16, 10], [16]), ([17], [17]), ([18, 17], [17, 18]), ([17], [17]), ([19, 20, 17], [17, 19, 20]), ([17, 21], [17, 21]), ([22, 17], [22]), ([23], [23]), ([23], [23]), ([24, 25, 23, 23], [23, 24, 25]), ([26, 23], [23, 26]), ([23, 27], [23, 27]), ([28, 26], [28]), ([29], [29]), ([30, 29], [29, 30]), ([31, 29, 29], [29, 31]), ([32], [32]), ([32], [32]), ([34, 32], [32, 34]), ([33, 35, 32], [32, 33, 35]), ([36, 32], [32, 36]), ([32], [32]), ([37, 38, 32, 32], [32, 37, 38]), ([39, 32], [32, 39]), ([32, 40, 29], [29, 32, 40]), ([29, 41], [29, 41])])
def Y33.B5 : List Nat := [0, 1, 3, 7, 15, 31, 15, 79, 255, 511, 1023, 2047, 4095, 2047, 10239, 32767, 65535, 131071, 262143, 524287, 262143, 2097151, 4194303, 8388607, 16777215, 16777215, 67108863, 134217727, 268435455, 536870911, 1073741823, 2147483647, 4294967295, 8589934591, 8589934591, 25769803775, 68719476735, 137438953471, 8589934591, 549755813887, 1099511627775, 2199023255551, 4398046511103]
theorem Y33.tab5 : rtab .any (opsOf Try.f33 5) = Y33.T5 := by kernel_rfl
theorem Y33.bits5 : waitsOk Y33.T5.2 Y33.B5 = true := by kernel_rfl

theorem C3_elem {w : World} {ad : Addr} {a b c : Int} (c0 : w.cell? ad = some (.int .i64 a)) (c1 : w.cell? ⟨ad.block, ad.off + 1, none⟩ = some (.int .i64 b)) (c2 : w.cell? ⟨ad.block, ad.off + 2, none⟩ = some (.int .i64 c)) : Kd.C (Kd.int .i64) w (some ad) 3 [a, b, c] := by
  refine C3_cells ?_ ?_ ?_
  · unfold Addr.add; rw [if_pos rfl]; exact c0
  · unfold Addr.add; rw [if_neg (by decide)]; exact c1
  · unfold Addr.add; rw [if_neg (by decide)]; exact c2
set_option maxHeartbeats 16000000 in
set_option maxRecDepth 100000 in
theorem areThrees_calls (A : Option Addr) (c0 : Nat) (l : List S39) (w : World) (hr : Kd.C k39 w A l.length l) (hg : Good l) :
    Calls Try.prog 33 #[.int .i64 9, .slice A l.length c0] w fun e w' => e = .returned (.bool true) ∧ Below w.heap.size w w' := by
  have HR := ak hr
  have HG := ak hg
  have hl100 := hg.hl
  have HB := ak (Below.refl w.heap.size w)
  clear hr hg
  have hmk : (Instr.makeMap 87 none).run Try.prog w = .ok (.map (some w.heap.size)) (w.alloc (.map #[] 0)) := run_makeMap _ _
  have HT := ak (TM.made w)
  replace HB := ak (below_alloc HB.out (.map #[] 0))
  have HBM := ak (Nat.le_refl w.heap.size)
  go_enter Try.func33, Try.ntmps33
  go_wp2
  generalize hW1 : w.alloc (.map #[] 0) = W1 at *
  generalize hbm : w.heap.size = bm at HBM HT ⊢
  clear hW1
  have HBM2 := ak (show w.heap.size ≤ bm by rw [hbm]; exact Nat.le_refl _)
  clear hbm HBM
  go_loopw [13] (fun v13 wr => ∃ i : Nat, i ≤ l.length ∧ v13 = .int .i64 i ∧ Aside0 (TM wr bm (3 * i) (setOf l i)) ∧ Aside0 (Below w.heap.size w wr)) (fun v13 _ => l.length - (intOf v13).toNat)
  case atStart => exact ⟨0, by omega, rfl, HT, HB⟩
  case round =>
    clear HT HB
    obtain ⟨i, hi, rfl, HT, HB⟩ := hrel
    by_cases hlt : i < l.length
    · have hkd : decide ((i : Int) < (l.length : Int)) = true := decide_eq_true (by omega)
      have hkd2 : decide (i < l.length) = true := decide_eq_true hlt
      obtain ⟨ad, e, h0, h1, h2⟩ := at_T39 (Kd.C_below HR.out HB.out) (i : Int) (by omega) (by omega)
      subst e
      obtain ⟨g1, g2, g3, g4⟩ := HG.out.hb i hlt
      obtain ⟨n1, n2, n3⟩ := HG.out.hn i hlt
      generalize hx : rd_T39 l (i : Int) = x at *
      obtain ⟨a, b, c⟩ := x
      simp only [Int.toNat_natCast] at g1 g2 g3 g4 n1 n2 n3 h0 h1 h2
      have HX := ak hx
      clear hx
      have HF := ak (fun (W : World) (hm : TM W bm (3 * i) (setOf l i)) => fits_calls a b c (by omega) (by omega) (by omega) bm (3 * i) (setOf l i) W hm n1 n2 n3)
      have BT := ak (heap_alloc_new wr (.cells #[.int .i64 a, .int .i64 b, .int .i64 c] 39))
      have HT2 := ak (HT.out.same (w' := wr.alloc (.cells #[.int .i64 a, .int .i64 b, .int .i64 c] 39)) (heap_alloc_old _ _ HT.out.lt))
      have HB2 := ak (below_alloc HB.out (.cells #[.int .i64 a, .int .i64 b, .int .i64 c] 39))
      clear n1 n2 n3 HT HB
      go_wp2
      generalize hgt : wr.heap.size = gt at BT ⊢
      generalize wr.alloc (.cells #[.int .i64 a, .int .i64 b, .int .i64 c] 39) = W2 at *
      clear hgt h0 h1 h2
      have hcy0 : W2.cell? ⟨gt, 0, none⟩ = some (.int .i64 a) := bc BT 0
      have hcy1 : W2.cell? ⟨gt, 1, none⟩ = some (.int .i64 b) := bc BT 1
      have hcy2 : W2.cell? ⟨gt, 2, none⟩ = some (.int .i64 c) := bc BT 2
      have d0 : decide (a < 0) = false := decide_eq_false (by omega)
      have d1 : decide (a ≥ b) = false := decide_eq_false (by omega)
      have d2 : decide (b ≥ c) = false := decide_eq_false (by omega)
      have d3 : decide (c ≥ 9) = false := decide_eq_false (by omega)
      cases i with
      | zero =>
        have d4 : decide (((0 : Nat) : Int) > 0) = false := decide_eq_false (by omega)
        replace BT := kd BT
        replace HB2 := ak (below_drew1 HB2.out)
        clear hcy0 hcy1 hcy2
        refine sS (n := 43) (S := fun w' => w'.cell? ⟨gt, 0, none⟩ = some (.int .i64 a) ∧ w'.cell? ⟨gt, 1, none⟩ = some (.int .i64 b) ∧ w'.cell? ⟨gt, 2, none⟩ = some (.int .i64 c)) (ds := []) ⟨bc BT 0, bc BT 1, bc BT 2⟩ (fun hHeld => ?_); refine with_tabW Y33.tab5 Y33.bits5 (fun HT_ HW_ => ?_)
        generalize hw53 : W2.drew = w53 at BT HB2 hHeld ⊢
        replace HT2 := ak (show TM w53 bm _ _ by rw [← hw53]; exact HT2.out.same rfl)
        clear hw53
        refine pS 0 18 43 1 ?_
        refine tS 1 19 43 3 ?_
        refine pS 2 20 43 7 ?_
        refine pS 3 21 43 15 ?_
        refine pS 4 22 43 31 ?_
        refine pS 6 24 43 95 ?_
        refine tS 5 23 43 127 ?_
        refine tS 7 25 43 255 ?_
        refine pS 8 26 43 511 ?_
        refine pS 9 27 43 1023 ?_
        refine pS 10 28 43 2047 ?_
        refine pS 11 29 43 4095 ?_
        refine pS 13 31 43 12287 ?_
        refine tS 12 30 43 16383 ?_
        refine tS 14 32 43 32767 ?_
        refine pS 15 33 43 65535 ?_
        refine pS 16 34 43 131071 ?_
        refine pS 17 35 43 262143 ?_
        refine pS 18 36 43 524287 ?_
        refine pS 20 38 43 1572863 ?_
        refine tS 19 37 43 2097151 ?_
        refine pS 21 39 43 4194303 ?_
        refine pS 22 40 43 8388607 ?_
        refine pS 23 41 43 16777215 ?_
        refine pS 24 42 43 33554431 ?_
        refine tS 25 43 43 67108863 ?_
        refine one_ (i := 26) (N := some 44) (ba 43 134217727) rfl rfl (one_of HT_.out (by kernel_rfl)) (by decide) (fun K hK => ?_)
        refine gC Try.func59 #[.map (some bm), .agg #[.int .i64 a, .int .i64 b, .int .i64 c]] ?_
        refine (HF.out _ HT2.out).mono ?_
        rintro e w54 ⟨rfl, hb⟩
        refine ⟨_, rfl, ?_⟩
        replace BT := kB BT hb
        replace HT2 := ak (TM.below HT2.out hb)
        replace HB2 := ak (below_step HB2.out hb)
        clear hb
        refine hK.out _ _ ⟨bc BT 0, bc BT 1, bc BT 2⟩ (fun hHeld => ?_)
        clear hK K
        refine norm_ (a' := ?_) ?_ ?_
        rotate_left
        ·show Act.put _ (some 44) _ = _
         simp only [Act.put, List.setIfInBounds_toArray, List.set_cons_zero, List.set_cons_succ, i64_w, i32_w]
         rfl
        refine pS 27 45 43 268435455 ?_
        refine pS 28 46 43 536870911 ?_
        refine pS 29 47 43 1073741823 ?_
        refine pS 30 48 43 2147483647 ?_
        refine pS 31 49 43 4294967295 ?_
        refine pS 32 50 43 8589934591 ?_
        refine uS 33 51 43 17179869183 ?_
        refine uS 34 52 43 34359738367 ?_
        refine uS 35 53 43 68719476735 ?_
        refine uS 36 54 43 137438953471 ?_
        refine uS 37 55 43 274877906943 ?_
        refine uS 38 56 43 549755813887 ?_
        refine uS 39 57 43 1099511627775 ?_
        refine uS 40 58 43 2199023255551 ?_
        refine pS 41 59 43 4398046511103 ?_
        refine pS 42 60 43 8796093022207 ?_
        refine done_ (done_of HT_.out (by kernel_rfl)) ?_
        have HX0 : Aside0 (setOf l (0 + 1) = (b, c) :: (a, c) :: (a, b) :: setOf l 0) := ⟨by rw [setOf_succ l 0 hlt, HX.out]; rfl⟩
        have hcy0 : w54.cell? ⟨gt, 0, none⟩ = some (.int .i64 a) := bc BT 0
        have hcy1 : w54.cell? ⟨gt, 1, none⟩ = some (.int .i64 b) := bc BT 1
        have hcy2 : w54.cell? ⟨gt, 2, none⟩ = some (.int .i64 c) := bc BT 2
        have HPU := ak (put_calls a b c (by omega) (by omega) (by omega) bm (3 * 0) (by omega) (setOf l 0) w w54 HB2.out HBM2.out HT2.out)
        go_wp2_with (go_at_call 60; refine (HPU.out).mono ?_; rintro e w9 ⟨rfl, hm9, hb9⟩; have HT9 := ak hm9; have HB9 := ak hb9; clear hm9 hb9)
        go_roundw
        case rel => exact ⟨0 + 1, by omega, by go_num, ⟨by rw [HX0.out]; exact HT9.out⟩, HB9⟩
        case measure => simp [intOf]; omega
      | succ i =>
        have d4 : decide (((i + 1 : Nat) : Int) > 0) = true := decide_eq_true (by omega)
        have hji : (((i + 1 : Nat) : Int) - 1) = (i : Int) := by omega
        have hjw : wrap64 (((i + 1 : Nat) : Int) - 1) = (i : Int) := by rw [hji]; unfold wrap64; omega
        have hil2 : i < l.length := by omega
        have hil3 : decide (i < l.length) = true := decide_eq_true hil2
        have hwi : wrap64 (i : Int) = (i : Int) := by unfold wrap64; omega
        have hil : decide ((i : Int) < (l.length : Int)) = true := decide_eq_true (by omega)
        obtain ⟨ad2, e2, p0, p1, p2⟩ := at_T39 HR.out (i : Int) (by omega) (by omega)
        cases e2
        have hcc := HG.out.hc i hlt
        rw [HX.out] at hcc
        obtain ⟨q, hq⟩ : ∃ q, q = cmp3 (rd_T39 l (i : Int)) ⟨a, b, c⟩ := ⟨_, rfl⟩
        have dq : decide (q ≥ 0) = false := decide_eq_false (by rw [hq]; omega)
        have HCM : Aside0 (∀ (W : World) (hb : Below w.heap.size w W) (g : Nat) (hC : Kd.C (Kd.int .i64) W (some ⟨g, 0, none⟩) 3 [a, b, c]), Calls Try.prog 15 #[.slice (some (ad.add (i * 3))) 3 3, .slice (some ⟨g, 0, none⟩) 3 3] W fun e w' => e = .returned (.int .i64 q) ∧ ∃ n, w' = W.drewN n) := ⟨fun W hb g hC => by
          have hC1 : Kd.C (Kd.int .i64) W (some (ad.add (i * 3))) 3 [(rd_T39 l (i : Int)).f0, (rd_T39 l (i : Int)).f1, (rd_T39 l (i : Int)).f2] := Kd.C_below (C3_elem p0 p1 p2) hb
          exact (slices_Compare_int_int.calls 10 _ 3 [(rd_T39 l (i : Int)).f0, (rd_T39 l (i : Int)).f1, (rd_T39 l (i : Int)).f2] _ 3 [a, b, c] q W hC1 (Nat.le_refl _) hC (Nat.le_refl _) (by rw [hq]; exact compare_f (rd_T39 l (i : Int)) ⟨a, b, c⟩ 10 (by omega))).mono fun e w' h9 => by obtain ⟨he, m, hm⟩ := h9; exact ⟨he, m, hm⟩⟩
        clear p0 p1 p2 hcc hq
        replace BT := kd BT
        replace HB2 := ak (below_drew1 HB2.out)
        clear hcy0 hcy1 hcy2
        refine sS (n := 43) (S := fun w' => w'.cell? ⟨gt, 0, none⟩ = some (.int .i64 a) ∧ w'.cell? ⟨gt, 1, none⟩ = some (.int .i64 b) ∧ w'.cell? ⟨gt, 2, none⟩ = some (.int .i64 c)) (ds := []) ⟨bc BT 0, bc BT 1, bc BT 2⟩ (fun hHeld => ?_); refine with_tabW Y33.tab5 Y33.bits5 (fun HT_ HW_ => ?_)
        generalize hw53 : W2.drew = w53 at BT HB2 hHeld ⊢
        replace HT2 := ak (show TM w53 bm _ _ by rw [← hw53]; exact HT2.out.same rfl)
        clear hw53
        refine pS 0 18 43 1 ?_
        refine tS 1 19 43 3 ?_
        refine pS 2 20 43 7 ?_
        refine pS 3 21 43 15 ?_
        refine pS 4 22 43 31 ?_
        refine pS 6 24 43 95 ?_
        refine tS 5 23 43 127 ?_
        refine tS 7 25 43 255 ?_
        refine pS 8 26 43 511 ?_
        refine pS 9 27 43 1023 ?_
        refine pS 10 28 43 2047 ?_
        refine pS 11 29 43 4095 ?_
        refine pS 13 31 43 12287 ?_
        refine tS 12 30 43 16383 ?_
        refine tS 14 32 43 32767 ?_
        refine pS 15 33 43 65535 ?_
        refine pS 16 34 43 131071 ?_
        refine pS 17 35 43 262143 ?_
        refine pS 18 36 43 524287 ?_
        refine pS 20 38 43 1572863 ?_
        refine tS 19 37 43 2097151 ?_
        refine pS 21 39 43 4194303 ?_
        refine pS 22 40 43 8388607 ?_
        refine pS 23 41 43 16777215 ?_
        refine pS 24 42 43 33554431 ?_
        refine tS 25 43 43 67108863 ?_
        refine one_ (i := 26) (N := some 44) (ba 43 134217727) rfl rfl (one_of HT_.out (by kernel_rfl)) (by decide) (fun K hK => ?_)
        refine gC Try.func59 #[.map (some bm), .agg #[.int .i64 a, .int .i64 b, .int .i64 c]] ?_
        refine (HF.out _ HT2.out).mono ?_
        rintro e w54 ⟨rfl, hb⟩
        refine ⟨_, rfl, ?_⟩
        replace BT := kB BT hb
        replace HT2 := ak (TM.below HT2.out hb)
        replace HB2 := ak (below_step HB2.out hb)
        clear hb
        refine hK.out _ _ ⟨bc BT 0, bc BT 1, bc BT 2⟩ (fun hHeld => ?_)
        clear hK K
        refine norm_ (a' := ?_) ?_ ?_
        rotate_left
        ·show Act.put _ (some 44) _ = _
         simp only [Act.put, List.setIfInBounds_toArray, List.set_cons_zero, List.set_cons_succ, i64_w, i32_w]
         rfl
        refine pS 27 45 43 268435455 ?_
        refine pS 28 46 43 536870911 ?_
        refine pS 29 47 43 1073741823 ?_
        refine pS 30 48 43 2147483647 ?_
        refine pS 31 49 43 4294967295 ?_
        refine pS 32 50 43 8589934591 ?_
        refine pS 33 51 43 17179869183 ?_
        refine pS 34 52 43 34359738367 ?_
        refine pS 35 53 43 68719476735 ?_
        refine pS 36 54 43 137438953471 ?_
        refine pS 37 55 43 274877906943 ?_
        refine pS 38 56 43 549755813887 ?_
        refine one_ (i := 39) (N := some 57) (ba 43 1099511627775) rfl rfl (one_of HT_.out (by kernel_rfl)) (by decide) (fun K hK => ?_)
        refine gC Try.func15 #[.slice (some (ad.add (i * 3))) 3 3, .slice (some ⟨gt, 0, none⟩) 3 3] ?_
        refine (HCM.out w54 HB2.out gt (C3_box BT.out)).mono ?_
        rintro e w55 ⟨rfl, nn, rfl⟩
        refine ⟨_, rfl, ?_⟩
        replace BT := ak (blk_drewN BT.out nn)
        replace HT2 := ak (show TM (w54.drewN nn) _ _ _ from HT2.out.same rfl)
        replace HB2 := ak (pw_below_drewN HB2.out nn)
        refine hK.out _ _ ⟨bc BT 0, bc BT 1, bc BT 2⟩ (fun hHeld => ?_)
        clear hK K
        refine norm_ (a' := ?_) ?_ ?_
        rotate_left
        · show Act.put _ (some 57) _ = _
          simp only [Act.put, List.setIfInBounds_toArray, List.set_cons_zero, List.set_cons_succ, i64_w, i32_w]
          rfl
        refine pS 40 58 43 2199023255551 ?_
        refine pS 41 59 43 4398046511103 ?_
        refine pS 42 60 43 8796093022207 ?_
        refine done_ (done_of HT_.out (by kernel_rfl)) ?_

        have HX0 : Aside0 (setOf l (i + 1 + 1) = (b, c) :: (a, c) :: (a, b) :: setOf l (i + 1)) := ⟨by rw [setOf_succ l (i + 1) hlt, HX.out]; rfl⟩
        have hcy0 : (w54.drewN nn).cell? ⟨gt, 0, none⟩ = some (.int .i64 a) := bc BT 0
        have hcy1 : (w54.drewN nn).cell? ⟨gt, 1, none⟩ = some (.int .i64 b) := bc BT 1
        have hcy2 : (w54.drewN nn).cell? ⟨gt, 2, none⟩ = some (.int .i64 c) := bc BT 2
        generalize w54.drewN nn = w56 at *
        have HPU := ak (put_calls a b c (by omega) (by omega) (by omega) bm (3 * (i + 1)) (by omega) (setOf l (i + 1)) w w56 HB2.out HBM2.out HT2.out)
        go_wp2_with (go_at_call 60; refine (HPU.out).mono ?_; rintro e w9 ⟨rfl, hm9, hb9⟩; have HT9 := ak hm9; have HB9 := ak hb9; clear hm9 hb9)
        go_roundw
        case rel => exact ⟨i + 1 + 1, by omega, by go_num, ⟨by rw [HX0.out]; exact HT9.out⟩, HB9⟩
        case measure => simp [intOf]; omega
    · have hkd : decide ((i : Int) < (l.length : Int)) = false := decide_eq_false (by omega)
      have hkd2 : decide (i < l.length) = false := decide_eq_false hlt
      obtain rfl : i = l.length := by omega
      have HFI := ak (first_calls bm (3 * l.length) (setOf l l.length) HG.out.ha wr HT.out)
      go_wp2_with (go_at_call 61; refine (HFI.out).mono ?_; rintro e w9 ⟨⟨v1, v2, rfl⟩, hb9⟩; have HB9 := ak (below_step HB.out hb9); clear hb9)
      go_ret
      exact ⟨rfl, below_alloc HB9.out _⟩
end Go.Proofs.Ytkieehjpnjplmaa
