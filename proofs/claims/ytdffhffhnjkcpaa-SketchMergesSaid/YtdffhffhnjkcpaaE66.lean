/- The walks of slices.Grow at nil and of slices.Concat at two lists of counters. -/
import Derived.Test.YtdffhffhnjkcpaaX0
import Derived.Lib.Hide
import Derived.Shelf.Abstract
import Derived.Lib.AppendZeros
namespace Go.Proofs.Ytdffhffhnjkcpaa.X
open Go.RowKit Go.Shelf Go.Proofs.YtdffhffhnjkcpaaW.PrintWords Go.Proofs.YtdffhffhnjkcpaaW.PrintLast Go.Proofs.YtdffhffhnjkcpaaW.PrintMore
set_option linter.unusedVariables false
set_option linter.unusedSimpArgs false

set_option maxHeartbeats 2000000 in
theorem grow_calls (n : Nat) (hn : n ≤ 1000) (w0 W : World) (hb0 : Below w0.heap.size w0 W) :
    Calls Try.prog 78 #[.slice none 0 0, .int .i64 n] W fun e w' => ∃ v, e = .returned v ∧ Kd.R k70 70 w' w0.heap.size (fun _ => True) v [] ∧ Below w0.heap.size w0 w' ∧ Below W.heap.size W w' := by
  have hneg : decide ((n : Int) < 0) = false := decide_eq_false (by omega)
  by_cases h0 : n = 0
  · subst h0
    go_enter Try.func78, Try.ntmps78
    go_wp2
    go_ret
    exact ⟨_, rfl, Kd.R_nil _ _ _ _ _, hb0, Below.refl _ _⟩
  · obtain ⟨i0, hi, hz0, hz1, hz2⟩ := info_parts info70
    have hpos : 0 < n := by omega
    have hrun := fun ty => Lib.run_append_nil_zeros (P := Try.prog) W 57 3 ty 70 i0 _ .i64 .i64 Try.underlying57 Try.underlying3 hi hz0 n hpos (by rw [hz1]; decide) (by omega) (by rw [hz2]; omega)
    have hge := grownCap_ge W n 0 70
    have hmx := grownCap_le_maxLen W n 0 70 (by unfold maxLen; omega)
    have hpd : decide ((0 : Int) < (n : Int)) = true := decide_eq_true (by omega)
    have hpd2 : decide (0 < n) = true := decide_eq_true hpos
    generalize grownCap W n 0 70 = cap at *
    generalize hcs : (Builtin.zeroCells (Value.agg #[.int .i64 0, .int .i64 0, .int .i64 0]).cells n ++ Builtin.zeroCells (Value.agg #[.int .i64 0, .int .i64 0, .int .i64 0]).cells (cap - n)) = cs at *
    have hsz : cs.size = cap * 3 := by
      rw [← hcs]
      simp [Builtin.zeroCells, Value.cells]
      omega
    have hR : Kd.R k70 70 (W.drew.alloc (.cells cs 70)) w0.heap.size (fun _ => True) (.slice (some ⟨W.heap.size, 0, none⟩) 0 cap) [] :=
      ⟨fun _ _ => trivial, [], ⟨rfl, .inr ⟨W.heap.size, cap, cs, rfl, below_size hb0, heap_alloc_new _ _, Nat.zero_le _, hmx, hsz, by simp⟩⟩, by simp, fun j p h => by simp at h⟩
    have HR := Aside0.mk hR
    have hcut := cut_to 57 70 .i64 Try.underlying57 hi (some ⟨W.heap.size, 0, none⟩) n cap 0 (Int.le_refl _) (by omega) hge
    have hRUN := Lib.hid hrun
    clear hrun hR hcs hsz hi hz0 hz1 hz2
    go_enter Try.func78, Try.ntmps78
    go_wp2_with (at_builtin; refine Lib.wpList_append_run _ rfl _ _ _ _ rfl _ _ rfl rfl _ _ (hRUN.out _) ?_)
    go_ret
    exact ⟨_, rfl, HR.out, below_alloc (below_drew1 hb0) _, below_alloc (below_drew1 (Below.refl _ _)) _⟩

def cat2 (l1 l2 : List S70) (j : Nat) : List S70 := if j = 0 then [] else if j = 1 then l1 else l1 ++ l2
def sz2 (n1 n2 j : Nat) : Nat := if j = 0 then 0 else if j = 1 then n1 else n1 + n2
set_option maxHeartbeats 8000000 in
set_option maxRecDepth 100000 in
theorem concat_calls (w0 W : World) (b : Nat) (A1 A2 : Option Addr) (c1 c2 : Nat) (l1 l2 : List S70) (h1 : l1.length ≤ 100) (h2 : l2.length ≤ 100) (hr1 : Kd.C k70 w0 A1 l1.length l1) (hr2 : Kd.C k70 w0 A2 l2.length l2) (hb0 : Below w0.heap.size w0 W)
    (hblk : W.heap[b]? = some (.cells #[.slice A1 l1.length c1, .slice A2 l2.length c2] 57 (0, 0))) :
    Calls Try.prog 66 #[.slice (some ⟨b, 0, none⟩) 2 2] W fun e w' => ∃ v, e = .returned v ∧ Kd.R k70 70 w' w0.heap.size (fun _ => True) v (l1 ++ l2) ∧ Below w0.heap.size w0 w' := by
  have HR1 := Aside0.mk hr1
  have HR2 := Aside0.mk hr2
  have HB0 := Aside0.mk hb0
  have HK := Aside0.mk hblk
  have HC0 := Aside0.mk (show W.cell? ⟨b, 0, none⟩ = some (.slice A1 l1.length c1) from (blk_cell hblk 0).trans rfl)
  have HC1 := Aside0.mk (show W.cell? ⟨b, 1, none⟩ = some (.slice A2 l2.length c2) from (blk_cell hblk 1).trans rfl)
  have HGR := Aside0.mk (fun wr (hb : Below w0.heap.size w0 wr) => grow_calls (l1.length + l2.length) (by omega) w0 wr hb)
  clear hr1 hr2 hb0 hblk
  go_enter Try.func66, Try.ntmps66
  go_wp2
  go_loopw [3, 11] (fun v3 v11 wr => ∃ j : Nat, j ≤ 2 ∧ v11 = .int .i64 j ∧ v3 = .int .i64 (sz2 l1.length l2.length j : Nat) ∧ wr = W) (fun _ v11 _ => 2 - (intOf v11).toNat)
  case atStart => exact ⟨0, by omega, rfl, rfl, rfl⟩
  case round =>
    obtain ⟨j, hj, rfl, rfl, rfl⟩ := hrel
    have hj3 : j = 0 ∨ j = 1 ∨ j = 2 := by omega
    rcases hj3 with rfl | rfl | rfl
    · have hc0 := HC0.out
      have hneg : decide (((0 : Int) + (l1.length : Int)) < 0) = false := decide_eq_false (by omega)
      have hneg2 : decide ((l1.length : Int) < 0) = false := decide_eq_false (by omega)
      simp only [sz2, if_true]
      go_wp2
      go_roundw
      case rel => exact ⟨1, by omega, rfl, by simp [sz2], by first | rfl | trivial⟩
      case measure => simp [intOf]
    · have hc1 := HC1.out
      have hneg2 : decide (((l1.length : Int) + (l2.length : Int)) < 0) = false := decide_eq_false (by omega)
      simp only [sz2]
      go_wp2
      go_roundw
      case rel => exact ⟨2, by omega, rfl, by simp [sz2], by first | rfl | trivial⟩
      case measure => simp [intOf]
    · simp only [sz2]
      go_wp2_with (go_at_call 78; refine (HGR.out _ HB0.out).mono ?_; rintro e w1 ⟨v1, rfl, ho1, hb1, hbw⟩; have HO1 := Aside0.mk ho1; have HB1 := Aside0.mk hb1; have HBW := Aside0.mk hbw; clear ho1 hb1 hbw)
      have HK1 := HK
      clear HK
      have HK := Aside0.mk (blk_below HK1.out HBW.out)
      clear HK1 HBW HC0 HC1
      go_loopw [6, 27] (fun v6 v27 wr => ∃ j : Nat, j ≤ 2 ∧ v27 = .int .i64 j ∧ Aside0 (Kd.R k70 70 wr w0.heap.size (fun _ => True) v6 (cat2 l1 l2 j)) ∧ Aside0 (Below w0.heap.size w0 wr) ∧ Aside0 (wr.heap[b]? = some (.cells #[.slice A1 l1.length c1, .slice A2 l2.length c2] 57 (0, 0)))) (fun _ v27 _ => 2 - (intOf v27).toNat)
      case atStart => exact ⟨0, by omega, rfl, HO1, HB1, HK⟩
      case round =>
        clear HO1 HB1 HK
        obtain ⟨j, hj, rfl, HO, HB, HK⟩ := hrel
        have hj3 : j = 0 ∨ j = 1 ∨ j = 2 := by omega
        have hc0 : wr.cell? ⟨b, 0, none⟩ = some (.slice A1 l1.length c1) := (blk_cell HK.out 0).trans rfl
        have hc1 : wr.cell? ⟨b, 1, none⟩ = some (.slice A2 l2.length c2) := (blk_cell HK.out 1).trans rfl
        rcases hj3 with rfl | rfl | rfl
        · go_wp2_with ((with_reducible refine gate_builtin (b := .append) (xs := #[.tmp 31, .tmp 32]) rfl ?_); at_builtin; refine Kd.R_append_rows k70 (w0 := w0) w0.heap.size rfl (.tmp 31) (.tmp 32) 57 70 (.agg #[(.int .i64 0), (.int .i64 0), (.int .i64 0)]) 24 rfl Try.underlying57 info70 rfl (by decide) (by omega) u6 ([] : List S70) l1 _ _ _ (fun _ => True) (fun _ => False) rfl rfl ?aO ?aR (fun _ _ h => h) (fun _ h => h.elim) ?aF ?aB ?aS ?aL ?_; (case aR => exact Kd.C_below HR1.out HB.out); (case aB => exact HB.out); (case aF => exact (fun _ _ => trivial)); (case aO => exact HO.out); (case aS => exact below_size HB.out); (case aL => first | omega | (simp; omega)); intro v4 w4 ho hb hg hat; have HO4 := Aside0.mk ho; have HB4 := Aside0.mk hb; have HK4 := Aside0.mk (blk_grown HK.out hg (Kd.R_ne HO.out HK.out (by decide))); clear ho hb hg hat)
          go_roundw
          case rel => exact ⟨1, by omega, rfl, HO4, HB4, HK4⟩
          case measure => simp [intOf]
        · go_wp2_with ((with_reducible refine gate_builtin (b := .append) (xs := #[.tmp 31, .tmp 32]) rfl ?_); at_builtin; refine Kd.R_append_rows k70 (w0 := w0) w0.heap.size rfl (.tmp 31) (.tmp 32) 57 70 (.agg #[(.int .i64 0), (.int .i64 0), (.int .i64 0)]) 24 rfl Try.underlying57 info70 rfl (by decide) (by omega) u6 l1 l2 _ _ _ (fun _ => True) (fun _ => False) rfl rfl ?aO ?aR (fun _ _ h => h) (fun _ h => h.elim) ?aF ?aB ?aS ?aL ?_; (case aR => exact Kd.C_below HR2.out HB.out); (case aB => exact HB.out); (case aF => exact (fun _ _ => trivial)); (case aO => exact HO.out); (case aS => exact below_size HB.out); (case aL => first | omega | (simp; omega)); intro v4 w4 ho hb hg hat; have HO4 := Aside0.mk ho; have HB4 := Aside0.mk hb; have HK4 := Aside0.mk (blk_grown HK.out hg (Kd.R_ne HO.out HK.out (by decide))); clear ho hb hg hat)
          go_roundw
          case rel => exact ⟨2, by omega, rfl, HO4, HB4, HK4⟩
          case measure => simp [intOf]
        · go_wp2
          go_ret
          exact ⟨_, rfl, HO.out, HB.out⟩
end Go.Proofs.Ytdffhffhnjkcpaa.X
