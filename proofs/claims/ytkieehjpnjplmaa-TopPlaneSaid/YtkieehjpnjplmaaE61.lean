/- The walk of first: every pair is in the map. -/
import Derived.Test.YtkieehjpnjplmaaEM
import Derived.Test.YtkieehjpnjplmaaX0
import Derived.Test.YtkieehjpnjplmaaE60
namespace Go.Proofs.Ytkieehjpnjplmaa
open Go Go.Proofs Go.RowKit Go.Proofs.YtkieehjpnjplmaaW.PrintWords Go.Proofs.YtkieehjpnjplmaaW.PrintLast Go.Proofs.YtkieehjpnjplmaaW.PrintMore
set_option linter.unusedVariables false
set_option linter.unusedSimpArgs false
theorem two_cells (w : World) (g : Nat) {u0 u1 : Value} (c0 : w.cell? ⟨g, 0, none⟩ = some u0) (c1 : w.cell? ⟨g, 1, none⟩ = some u1) (v0 v1 : Value) :
    ((w.setCell ⟨g, 0, none⟩ v0).setCell ⟨g, 1, none⟩ v1).cell? ⟨g, 0, none⟩ = some v0 ∧ ((w.setCell ⟨g, 0, none⟩ v0).setCell ⟨g, 1, none⟩ v1).cell? ⟨g, 1, none⟩ = some v1 := by
  have e1 : (⟨g, 1, none⟩ : Addr) ≠ ⟨g, 0, none⟩ := by simp
  have e2 : (⟨g, 0, none⟩ : Addr) ≠ ⟨g, 1, none⟩ := by simp
  refine ⟨?_, ?_⟩
  · rw [World.cell?_setCell_other (h := e1)]
    exact World.cell?_setCell_same (h := c0) ..
  · refine World.cell?_setCell_same (u := u1) (h := ?_) ..
    rw [World.cell?_setCell_other (h := e2)]
    exact c1
set_option maxHeartbeats 8000000 in
set_option maxRecDepth 100000 in
theorem first_calls (bm n : Nat) (S : List (Int × Int)) (hall : ∀ x y : Int, 0 ≤ x → x < y → y < 9 → (x, y) ∈ S) (w : World) (hm : TM w bm n S) :
    Calls Try.prog 61 #[.map (some bm), .int .i64 9] w fun e w' => (∃ v1 v2, e = .returned (.tuple #[.agg #[.int .i64 v1, .int .i64 v2], .bool false])) ∧ Below w.heap.size w w' := by
  have HM := ak hm
  have HB := ak (Below.refl w.heap.size w)
  have HALL := ak hall
  clear hm hall
  go_enter Try.func61, Try.ntmps61
  go_wp2_with (first | ((with_reducible refine gate_dst (N := 4) rfl ?_); refine bE 4 #[.int .i64 0, .int .i64 0] 90 ?_; intro gt hg w7 hbox hb; have BT := ak (hbox); have HGT := ak (show w.heap.size ≤ gt by rw [hg]; exact Nat.le_refl _); replace HB := kH _ hb; clear hb hg hbox))
  go_loopw [10] (fun v10 wr => ∃ i : Nat, i ≤ 9 ∧ v10 = .int .i64 i ∧ Aside0 (Below w.heap.size w wr) ∧ Aside0 (wr.heap[gt]? = some (.cells #[.int .i64 0, .int .i64 0] 90 (0, 0)))) (fun v10 _ => 9 - (intOf v10).toNat)
  case atStart => exact ⟨0, by omega, rfl, HB, BT⟩
  case round =>
    clear HB BT
    obtain ⟨i, hi, rfl, HB, BT⟩ := hrel
    by_cases hlt : i < 9
    · have hkd : decide ((i : Int) < 9) = true := decide_eq_true (by omega)
      have hkd2 : decide (i < 9) = true := decide_eq_true hlt
      go_wp2
      go_loopw [7] (fun v7 wr => ∃ j : Nat, i < j ∧ j ≤ 9 ∧ v7 = .int .i64 j ∧ Aside0 (Below w.heap.size w wr) ∧ Aside0 (wr.heap[gt]? = some (.cells #[.int .i64 0, .int .i64 0] 90 (0, 0)))) (fun v7 _ => 9 - (intOf v7).toNat)
      case atStart => exact ⟨i + 1, by omega, by omega, by go_num, HB, BT⟩
      case round =>
        clear HB BT hkd hkd2
        obtain ⟨j, hij, hj, rfl, HB, BT⟩ := hrel
        by_cases hjt : j < 9
        · have hkd : decide ((j : Int) < 9) = true := decide_eq_true (by omega)
          have hkd2 : decide (j < 9) = true := decide_eq_true hjt
          have HM1 := ak (HM.out.below HB.out)
          have hl := (HM1.out.same (w' := wr.alloc (.cells #[.int .i64 (i : Int), .int .i64 (j : Int)] 90)) (heap_alloc_old _ _ HM1.out.lt)).look (x := (i : Int)) (y := (j : Int)) (by omega) (by omega)
          rw [decide_eq_true (HALL.out _ _ (by omega) (by omega) (by omega))] at hl
          go_wp2
          go_roundw
          case rel => exact ⟨j + 1, by omega, by omega, by go_num, ak (hbC _), ak (bkC BT)⟩
          case measure => simp [intOf]; omega
        · have hkd : decide ((j : Int) < 9) = false := decide_eq_false (by omega)
          have hkd2 : decide (j < 9) = false := decide_eq_false hjt
          go_wp2
          go_roundw
          case rel => exact ⟨i + 1, by omega, by go_num, HB, BT⟩
          case measure => simp [intOf]; omega
    · have hkd : decide ((i : Int) < 9) = false := decide_eq_false (by omega)
      have hkd2 : decide (i < 9) = false := decide_eq_false hlt
      have c0 : wr.cell? ⟨gt, 0, none⟩ = some (.int .i64 0) := (blk_cell BT.out 0).trans rfl
      have c1 : wr.cell? ⟨gt, 1, none⟩ = some (.int .i64 0) := (blk_cell BT.out 1).trans rfl
      have f0 := fz BT 0
      have f1 := fz BT 1
      go_wp2
      obtain ⟨d0, d1⟩ := two_cells wr gt c0 c1 (.int .i64 0) (.int .i64 0)
      refine bodyPost_ret (v := .tuple #[.agg #[.int .i64 0, .int .i64 0], .bool false]) (by simp [results, Try.results61, go_sem, d0, d1]) rfl ?_
      exact ⟨⟨0, 0, rfl⟩, below_set (below_set HB.out HGT.out) HGT.out⟩
end Go.Proofs.Ytkieehjpnjplmaa
