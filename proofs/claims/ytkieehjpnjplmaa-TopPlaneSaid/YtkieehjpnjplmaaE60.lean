/- The walk of put: a triple's pairs are put into the map. -/
import Derived.Test.YtkieehjpnjplmaaEM
import Derived.Test.YtkieehjpnjplmaaX0
import Derived.Test.YtkieehjpnjplmaaE59
namespace Go.Proofs.Ytkieehjpnjplmaa
open Go Go.Proofs Go.RowKit Go.Proofs.YtkieehjpnjplmaaW.PrintWords Go.Proofs.YtkieehjpnjplmaaW.PrintLast Go.Proofs.YtkieehjpnjplmaaW.PrintMore
set_option linter.unusedVariables false
set_option linter.unusedSimpArgs false
/-- A pair put into the map, at the operation. -/
theorem wpList_put_TM (w : World) {ops : Array Oper} {rest : List Oper} {o : Oper} {a : Act} {Q : Exit → Act → World → Prop} (hg : o.guard = none) (m x v : Operand) (hop : o.op = Op.mapUpdate 87 m x v) (b n : Nat) (S : List (Int × Int)) (hm : a.eval m = .map (some b)) (h : TM w b n S) (hn : n < 1000000)
    (p q : Int) (hp : 0 ≤ p ∧ p < 9) (hq : 0 ≤ q ∧ q < 9) (hx : a.eval x = .agg #[.int .i64 p, .int .i64 q]) (hv : a.eval v = .bool true) (hK : ∀ w', TM w' b (n + 1) ((p, q) :: S) → w.grownBy w' (some b) → wpList Try.prog ops Q rest (a.put o.dst undef) w') : wpList Try.prog ops Q (o :: rest) a w := by
  refine wpList_plain hg fun K' hK' => ?_
  obtain ⟨w', hrun, r1, r2⟩ := h.put (by unfold maxLen; omega) hp hq
  unfold Oper.wp
  simp [execOp, hop, hm, hx, hv, hrun, Result.andThen]
  exact hK' _ _ (hK w' r1 r2)
set_option maxHeartbeats 8000000 in
set_option maxRecDepth 100000 in
theorem put_calls (a b c : Int) (ha : 0 ≤ a ∧ a < 9) (hb : 0 ≤ b ∧ b < 9) (hc : 0 ≤ c ∧ c < 9) (bm n : Nat) (hn : n < 1000) (S : List (Int × Int)) (w0 w : World) (hB : Below w0.heap.size w0 w) (hge : w0.heap.size ≤ bm) (hm : TM w bm n S) :
    Calls Try.prog 60 #[.map (some bm), .agg #[.int .i64 a, .int .i64 b, .int .i64 c], .bool true] w fun e w' => e = .returned (.tuple #[]) ∧ TM w' bm (n + 3) ((b, c) :: (a, c) :: (a, b) :: S) ∧ Below w0.heap.size w0 w' := by
  have HW := ak hB
  have HM := ak hm
  have HB := ak (Below.refl w.heap.size w)
  have HP := Aside0.mk (fun W => pairs_calls a b c W)
  clear hB hm
  go_enter Try.func60, Try.ntmps60
  go_wp2_with (first | ((with_reducible refine gate_dst (N := 4) rfl ?_); refine bE 4 #[.int .i64 a, .int .i64 b, .int .i64 c] 39 ?_; intro gt hg w7 hbox hb; have BT := ak (hbox); replace HB := kH _ hb; clear hb hg hbox; have hcy0 : w7.cell? ⟨gt, 0, none⟩ = some (.int .i64 a) := bc BT 0; have hcy1 : w7.cell? ⟨gt, 1, none⟩ = some (.int .i64 b) := bc BT 1; have hcy2 : w7.cell? ⟨gt, 2, none⟩ = some (.int .i64 c) := bc BT 2) | (go_at_call 71; refine (HP.out _).mono ?_; rintro e w8 ⟨g, rfl, hcs, hge2, hb⟩; replace HB := kH _ hb; have BC := ak hcs; have HBS := hb.size; clear hb hcs))
  have HGM : Aside0 (g ≠ bm) := ⟨by have h1 := HM.out.lt; have h2 := HB.out.size; intro e9; have h3 := (HM.out.below HB.out); obtain ⟨D, ⟨es, cl, hh, _⟩, _⟩ := h3; rw [← e9, BC.out] at hh; cases hh⟩
  replace HW := ak (HW.out.trans (HB.out.mono HW.out.size))
  replace HM := ak (HM.out.below HB.out)
  clear BT HB HBS hge2
  go_loopw [11] (fun v11 wr => ∃ (j : Nat) (T : List (Int × Int)), j ≤ 3 ∧ v11 = .int .i64 j ∧ Aside0 (TM wr bm (n + j) T) ∧ Aside0 (T = [S, (a, b) :: S, (a, c) :: (a, b) :: S, (b, c) :: (a, c) :: (a, b) :: S].getD j []) ∧ Aside0 (Below w0.heap.size w0 wr) ∧ Aside0 (wr.heap[g]? = some (.cells #[.int .i64 a, .int .i64 b, .int .i64 a, .int .i64 c, .int .i64 b, .int .i64 c] 90 (0, 0)))) (fun v11 _ => 3 - (intOf v11).toNat)
  case atStart => exact ⟨0, S, by omega, rfl, HM, ⟨rfl⟩, HW, BC⟩
  case round =>
    clear HM HW BC
    obtain ⟨j, T, hj, rfl, HM, HT, HW, BC⟩ := hrel
    have c0 : wr.cell? ⟨g, 0, none⟩ = some (.int .i64 a) := (blk_cell BC.out 0).trans rfl
    have c1 : wr.cell? ⟨g, 1, none⟩ = some (.int .i64 b) := (blk_cell BC.out 1).trans rfl
    have c2 : wr.cell? ⟨g, 2, none⟩ = some (.int .i64 a) := (blk_cell BC.out 2).trans rfl
    have c3 : wr.cell? ⟨g, 3, none⟩ = some (.int .i64 c) := (blk_cell BC.out 3).trans rfl
    have c4 : wr.cell? ⟨g, 4, none⟩ = some (.int .i64 b) := (blk_cell BC.out 4).trans rfl
    have c5 : wr.cell? ⟨g, 5, none⟩ = some (.int .i64 c) := (blk_cell BC.out 5).trans rfl
    have hj4 : j = 0 ∨ j = 1 ∨ j = 2 ∨ j = 3 := by omega
    rcases hj4 with rfl | rfl | rfl | rfl
    · have HM2 := ak (HM.out.same (w' := wr.alloc (.cells #[.int .i64 a, .int .i64 b] 90)) (heap_alloc_old _ _ HM.out.lt))
      have BC2 := ak (blk_alloc BC.out (.cells #[.int .i64 a, .int .i64 b] 90))
      have HW2 := ak (below_alloc HW.out (.cells #[.int .i64 a, .int .i64 b] 90))
      go_wp2_with (at_mapUpdate; refine wpList_put_TM _ rfl _ _ _ rfl bm _ T rfl HM2.out (by omega) a b ha hb rfl rfl ?_; intro w9 hm9 hg9; have HM3 := ak hm9; have BC3 := ak ((hg9.block g (blk_lt BC2.out) (fun e9 => HGM.out (Option.some.inj e9))).trans BC2.out); have HW3 := ak (HW2.out.grown hg9 HW2.out.size (fun k9 e9 => by cases e9; exact hge)); clear hm9 hg9)
      go_roundw
      case rel => exact ⟨1, _, by omega, by go_num, HM3, ⟨by rw [HT.out]; rfl⟩, HW3, BC3⟩
      case measure => simp [intOf]
    · have HM2 := ak (HM.out.same (w' := wr.alloc (.cells #[.int .i64 a, .int .i64 c] 90)) (heap_alloc_old _ _ HM.out.lt))
      have BC2 := ak (blk_alloc BC.out (.cells #[.int .i64 a, .int .i64 c] 90))
      have HW2 := ak (below_alloc HW.out (.cells #[.int .i64 a, .int .i64 c] 90))
      go_wp2_with (at_mapUpdate; refine wpList_put_TM _ rfl _ _ _ rfl bm _ T rfl HM2.out (by omega) a c ha hc rfl rfl ?_; intro w9 hm9 hg9; have HM3 := ak hm9; have BC3 := ak ((hg9.block g (blk_lt BC2.out) (fun e9 => HGM.out (Option.some.inj e9))).trans BC2.out); have HW3 := ak (HW2.out.grown hg9 HW2.out.size (fun k9 e9 => by cases e9; exact hge)); clear hm9 hg9)
      go_roundw
      case rel => exact ⟨2, _, by omega, by go_num, HM3, ⟨by rw [HT.out]; rfl⟩, HW3, BC3⟩
      case measure => simp [intOf]
    · have HM2 := ak (HM.out.same (w' := wr.alloc (.cells #[.int .i64 b, .int .i64 c] 90)) (heap_alloc_old _ _ HM.out.lt))
      have BC2 := ak (blk_alloc BC.out (.cells #[.int .i64 b, .int .i64 c] 90))
      have HW2 := ak (below_alloc HW.out (.cells #[.int .i64 b, .int .i64 c] 90))
      go_wp2_with (at_mapUpdate; refine wpList_put_TM _ rfl _ _ _ rfl bm _ T rfl HM2.out (by omega) b c hb hc rfl rfl ?_; intro w9 hm9 hg9; have HM3 := ak hm9; have BC3 := ak ((hg9.block g (blk_lt BC2.out) (fun e9 => HGM.out (Option.some.inj e9))).trans BC2.out); have HW3 := ak (HW2.out.grown hg9 HW2.out.size (fun k9 e9 => by cases e9; exact hge)); clear hm9 hg9)
      go_roundw
      case rel => exact ⟨3, _, by omega, by go_num, HM3, ⟨by rw [HT.out]; rfl⟩, HW3, BC3⟩
      case measure => simp [intOf]
    · go_wp2
      go_end0
      have h := HM.out
      rw [HT.out] at h
      exact ⟨rfl, h, HW.out⟩
end Go.Proofs.Ytkieehjpnjplmaa
