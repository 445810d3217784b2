/- The walk of fits: none of a triple's pairs is in the map. -/
import Derived.Test.YtkieehjpnjplmaaEM
import Derived.Test.YtkieehjpnjplmaaX0
import Derived.Test.YtkieehjpnjplmaaE71
import Derived.Lib.Hide
namespace Go.Proofs.Ytkieehjpnjplmaa
open Go Go.Proofs Go.RowKit Go.Proofs.YtkieehjpnjplmaaW.PrintWords Go.Proofs.YtkieehjpnjplmaaW.PrintLast Go.Proofs.YtkieehjpnjplmaaW.PrintMore
set_option linter.unusedVariables false
set_option linter.unusedSimpArgs false
theorem TM.below {w W : World} {b n : Nat} {S : List (Int × Int)} (h : TM w b n S) (hb : Below w.heap.size w W) : TM W b n S := h.same (hb.block b h.lt)
set_option maxHeartbeats 1000000 in
theorem fits1_calls (x y : Int) (hx : 0 ≤ x ∧ x < 9) (hy : 0 ≤ y ∧ y < 9) (bm n B : Nat) (S : List (Int × Int)) (w : World) (hB : w.cell? ⟨B, 0, none⟩ = some (.map (some bm))) (hm : TM w bm n S) (hno : (x, y) ∉ S) :
    Calls Try.prog 72 #[.agg #[.int .i64 x, .int .i64 y], .pointer (some ⟨B, 0, none⟩)] w fun e w' => e = .returned (.bool false) ∧ Below w.heap.size w w' := by
  have HM := Aside0.mk hm
  have hlt : B < w.heap.size := World.block_lt_of_cell? w _ hB
  have HBC := Aside0.mk hB
  clear hm hB
  have hl := (HM.out.same (w' := w.alloc (.cells #[.int .i64 x, .int .i64 y] 90)) (heap_alloc_old _ _ HM.out.lt)).look hx hy
  rw [decide_eq_false hno] at hl
  have hc : (w.alloc (.cells #[.int .i64 x, .int .i64 y] 90)).cell? ⟨B, 0, none⟩ = some (.map (some bm)) := by rw [World.cell?_alloc_lt _ _ _ hlt]; exact HBC.out
  go_enter Try.func72, Try.ntmps72
  go_wp2
  go_ret
  exact ⟨rfl, below_alloc (Below.refl _ _) _⟩
set_option maxHeartbeats 4000000 in
set_option maxRecDepth 100000 in
theorem idx75_calls (a b c : Int) (ha : 0 ≤ a ∧ a < 9) (hb : 0 ≤ b ∧ b < 9) (hc : 0 ≤ c ∧ c < 9) (bm n B g : Nat) (S : List (Int × Int)) (W : World) (hB : W.cell? ⟨B, 0, none⟩ = some (.map (some bm))) (hm : TM W bm n S)
    (hg : W.heap[g]? = some (.cells #[.int .i64 a, .int .i64 b, .int .i64 a, .int .i64 c, .int .i64 b, .int .i64 c] 90 (0, 0))) (h1 : (a, b) ∉ S) (h2 : (a, c) ∉ S) (h3 : (b, c) ∉ S) :
    Calls Try.prog 75 #[.slice (some ⟨g, 0, none⟩) 3 3, .func (.func 72) #[] #[.pointer (some ⟨B, 0, none⟩)]] W fun e w' => e = .returned (.int .i64 (-1)) ∧ Below W.heap.size W w' := by
  have BK := Aside0.mk hg
  have HP := Aside0.mk (fun (x y : Int) (hx : 0 ≤ x ∧ x < 9) (hy : 0 ≤ y ∧ y < 9) (hno : (x, y) ∉ S) (W' : World) (hb : Below W.heap.size W W') => fits1_calls x y hx hy bm n B S W' (pw_cell_below hb hB) (hm.below hb) hno)
  have H1 := Aside0.mk (HP.out a b ha hb h1)
  have H2 := Aside0.mk (HP.out a c ha hc h2)
  have H3 := Aside0.mk (HP.out b c hb hc h3)
  clear hg hB hm HP h1 h2 h3 ha hb hc
  go_enter Try.func75, Try.ntmps75
  go_wp2
  go_loopw [8] (fun v8 wr => ∃ j : Nat, j ≤ 3 ∧ v8 = .int .i64 j ∧ Aside0 (Below W.heap.size W wr)) (fun v8 _ => 3 - (intOf v8).toNat)
  case atStart => exact ⟨0, by omega, rfl, ⟨Below.refl _ _⟩⟩
  case round =>
    obtain ⟨j, hj, rfl, HB⟩ := hrel
    have BK1 := Aside0.mk (blk_below BK.out HB.out)
    have c0 : wr.cell? ⟨g, 0, none⟩ = some (.int .i64 a) := (blk_cell BK1.out 0).trans rfl
    have c1 : wr.cell? ⟨g, 1, none⟩ = some (.int .i64 b) := (blk_cell BK1.out 1).trans rfl
    have c2 : wr.cell? ⟨g, 2, none⟩ = some (.int .i64 a) := (blk_cell BK1.out 2).trans rfl
    have c3 : wr.cell? ⟨g, 3, none⟩ = some (.int .i64 c) := (blk_cell BK1.out 3).trans rfl
    have c4 : wr.cell? ⟨g, 4, none⟩ = some (.int .i64 b) := (blk_cell BK1.out 4).trans rfl
    have c5 : wr.cell? ⟨g, 5, none⟩ = some (.int .i64 c) := (blk_cell BK1.out 5).trans rfl
    have hj4 : j = 0 ∨ j = 1 ∨ j = 2 ∨ j = 3 := by omega
    rcases hj4 with rfl | rfl | rfl | rfl
    · go_wp2_with (go_at_call 72; refine (H1.out _ HB.out).mono ?_; rintro e w' ⟨rfl, hb⟩; have HB2 := Aside0.mk (below_step HB.out hb); clear hb)
      go_roundw
      case rel => exact ⟨1, by omega, by go_num, HB2⟩
      case measure => simp [intOf]
    · go_wp2_with (go_at_call 72; refine (H2.out _ HB.out).mono ?_; rintro e w' ⟨rfl, hb⟩; have HB2 := Aside0.mk (below_step HB.out hb); clear hb)
      go_roundw
      case rel => exact ⟨2, by omega, by go_num, HB2⟩
      case measure => simp [intOf]
    · go_wp2_with (go_at_call 72; refine (H3.out _ HB.out).mono ?_; rintro e w' ⟨rfl, hb⟩; have HB2 := Aside0.mk (below_step HB.out hb); clear hb)
      go_roundw
      case rel => exact ⟨3, by omega, by go_num, HB2⟩
      case measure => simp [intOf]
    · go_wp2
      go_ret
      exact ⟨rfl, HB.out⟩
set_option maxHeartbeats 4000000 in
theorem fits_calls (a b c : Int) (ha : 0 ≤ a ∧ a < 9) (hb : 0 ≤ b ∧ b < 9) (hc : 0 ≤ c ∧ c < 9) (bm n : Nat) (S : List (Int × Int)) (w : World) (hm : TM w bm n S) (h1 : (a, b) ∉ S) (h2 : (a, c) ∉ S) (h3 : (b, c) ∉ S) :
    Calls Try.prog 59 #[.map (some bm), .agg #[.int .i64 a, .int .i64 b, .int .i64 c]] w fun e w' => e = .returned (.bool true) ∧ Below w.heap.size w w' := by
  have HB := ak (Below.refl w.heap.size w)
  have HX := Aside0.mk (fun (B g : Nat) (W : World) (hbel : Below w.heap.size w W) (hB : W.cell? ⟨B, 0, none⟩ = some (.map (some bm))) (hg : W.heap[g]? = some (.cells #[.int .i64 a, .int .i64 b, .int .i64 a, .int .i64 c, .int .i64 b, .int .i64 c] 90 (0, 0))) => idx75_calls a b c ha hb hc bm n B g S W hB (hm.below hbel) hg h1 h2 h3)
  have HP := Aside0.mk (fun W => pairs_calls a b c W)
  have HX2 : Aside0 (∀ (B g : Nat) (W : World), Below w.heap.size w W → W.cell? ⟨B, 0, none⟩ = some (.map (some bm)) → W.heap[g]? = some (.cells #[.int .i64 a, .int .i64 b, .int .i64 a, .int .i64 c, .int .i64 b, .int .i64 c] 90 (0, 0)) →
      Calls Try.prog 70 #[.slice (some ⟨g, 0, none⟩) 3 3, .func (.func 72) #[] #[.pointer (some ⟨B, 0, none⟩)]] W fun e w' => e = .returned (.bool false) ∧ Below W.heap.size W w') := ⟨fun B g W h1 h2 h3 => by
    have hi := Lib.hid (HX.out B g W h1 h2 h3)
    clear h1 h2 h3 HX HP HB
    go_enter Try.func70, Try.ntmps70
    go_wp2_with (go_at_call 75; refine (hi.out).mono ?_; rintro e w' ⟨rfl, hb⟩)
    go_ret
    exact ⟨rfl, hb⟩⟩
  clear HX hm h1 h2 h3 ha hb hc
  go_enter Try.func59, Try.ntmps59
  go_wp2_with (first | ((with_reducible refine gate_dst (N := 2) rfl ?_); refine bE 2 #[.map (some bm)] 87 ?_; intro gb hg w6 hbox hb; have BK := ak (hbox); replace HB := kH _ hb; clear hb hg hbox) | ((with_reducible refine gate_dst (N := 3) rfl ?_); refine bE 3 #[.int .i64 a, .int .i64 b, .int .i64 c] 39 ?_; intro gt hg w7 hbox hb; have BT := ak (hbox); replace BK := kB BK hb; replace HB := kH _ hb; clear hb hg hbox; have hcy0 : w7.cell? ⟨gt, 0, none⟩ = some (.int .i64 a) := bc BT 0; have hcy1 : w7.cell? ⟨gt, 1, none⟩ = some (.int .i64 b) := bc BT 1; have hcy2 : w7.cell? ⟨gt, 2, none⟩ = some (.int .i64 c) := bc BT 2) | (go_at_call 71; refine (HP.out _).mono ?_; rintro e w8 ⟨g, rfl, hcs, hge, hb⟩; replace BK := kB BK hb; replace HB := kH _ hb; have BC := ak hcs; clear hb hcs hge) | (go_at_call 70; refine (HX2.out gb g _ (hbC _) ((blk_cell (bkC BK) 0).trans rfl) (bkC BC)).mono ?_; rintro e w9 ⟨rfl, hb⟩; replace HB := kH _ hb; clear hb))
  go_ret
  exact ⟨rfl, hbC _⟩
end Go.Proofs.Ytkieehjpnjplmaa
