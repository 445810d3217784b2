/- The walks of slices.Grow at nil and of slices.Concat at rows of numbers: one new slice, row behind row. -/
import Derived.Test.YtkieehjpnjplmaaDoorX0
import Derived.Lib.Hide
import Derived.Shelf.Abstract
import Derived.Lib.AppendZeros
namespace Go.Proofs.YtkieehjpnjplmaaDoor.X
open Go.RowKit Go.Shelf Go.Proofs.YtkieehjpnjplmaaDoorW.PrintWords Go.Proofs.YtkieehjpnjplmaaDoorW.PrintLast Go.Proofs.YtkieehjpnjplmaaDoorW.PrintMore
set_option linter.unusedVariables false
set_option linter.unusedSimpArgs false

set_option maxHeartbeats 2000000 in
theorem grow_calls (n : Nat) (hn : n ≤ 100000) (w0 W : World) (hb0 : Below w0.heap.size w0 W) :
    Calls Tryd.prog 37 #[.slice none 0 0, .int .i64 n] W fun e w' => ∃ v, e = .returned v ∧ Kd.R (Kd.int .i64) 3 w' w0.heap.size (fun _ => True) v [] ∧ Below w0.heap.size w0 w' ∧ Below W.heap.size W w' := by
  have hneg : decide ((n : Int) < 0) = false := decide_eq_false (by omega)
  by_cases h0 : n = 0
  · subst h0
    go_enter Tryd.func37, Tryd.ntmps37
    go_wp2
    go_ret
    exact ⟨_, rfl, Kd.R_nil _ _ _ _ _, hb0, Below.refl _ _⟩
  · obtain ⟨i0, hi, hz0, hz1, hz2⟩ := info_parts info3
    have hpos : 0 < n := by omega
    have hrun := fun ty => Lib.run_append_nil_zeros (P := Tryd.prog) W 22 3 ty 3 i0 _ .i64 .i64 Tryd.underlying22 Tryd.underlying3 hi hz0 n hpos (by rw [hz1]; decide) (by omega) (by rw [hz2]; omega)
    have hge := grownCap_ge W n 0 3
    have hmx := grownCap_le_maxLen W n 0 3 (by unfold maxLen; omega)
    have hpd : decide ((0 : Int) < (n : Int)) = true := decide_eq_true (by omega)
    have hpd2 : decide (0 < n) = true := decide_eq_true hpos
    generalize grownCap W n 0 3 = cap at *
    generalize hcs : (Builtin.zeroCells (Value.int .i64 0).cells n ++ Builtin.zeroCells (Value.int .i64 0).cells (cap - n)) = cs at *
    have hsz : cs.size = cap * 1 := by
      rw [← hcs]
      simp [Builtin.zeroCells, Value.cells]
      omega
    have hR : Kd.R (Kd.int .i64) 3 (W.drew.alloc (.cells cs 3)) w0.heap.size (fun _ => True) (.slice (some ⟨W.heap.size, 0, none⟩) 0 cap) [] :=
      ⟨fun _ _ => trivial, [], ⟨rfl, .inr ⟨W.heap.size, cap, cs, rfl, below_size hb0, heap_alloc_new _ _, Nat.zero_le _, hmx, hsz, by simp⟩⟩, by simp, fun j p h => by simp at h⟩
    have HR := Aside0.mk hR
    have hcut := cut_to 22 3 .i64 Tryd.underlying22 hi (some ⟨W.heap.size, 0, none⟩) n cap 0 (Int.le_refl _) (by omega) hge
    have hRUN := Lib.hid hrun
    clear hrun hR hcs hsz hi hz0 hz1 hz2
    go_enter Tryd.func37, Tryd.ntmps37
    go_wp2_with (at_builtin; refine Lib.wpList_append_run _ rfl _ _ _ _ rfl _ _ rfl rfl _ _ (hRUN.out _) ?_)
    go_ret
    exact ⟨_, rfl, HR.out, below_alloc (below_drew1 hb0) _, below_alloc (below_drew1 (Below.refl _ _)) _⟩


def xConcat.f (L : List (List Int)) : Option (List Int) := if L.flatten.length ≤ 100000 then some L.flatten else none
theorem flat_take (L : List (List Int)) (j : Nat) (h : j < L.length) : (L.take (j + 1)).flatten = (L.take j).flatten ++ rd_L1 L (j : Int) := by
  rw [List.take_succ_eq_append_getElem h, List.flatten_append]
  simp [rd_L1, List.getD_eq_getElem?_getD, List.getElem?_eq_getElem h]
theorem flat_le (L : List (List Int)) (j : Nat) : (L.take j).flatten.length ≤ L.flatten.length := by
  have h := congrArg (fun l => l.flatten.length) (List.take_append_drop j L)
  simp only [List.flatten_append, List.length_append] at h
  omega
set_option maxHeartbeats 8000000 in
set_option maxRecDepth 100000 in
theorem xConcat.calls (A0 : Option Addr) (c0 : Nat) (l0 : List (List Int)) (r : List Int) (w : World) (hr0 : Kd.C (Kd.slice 3 (Kd.int .i64)) w A0 l0.length l0) (hc0 : l0.length ≤ c0) (h : xConcat.f l0 = some r) :
    Calls Tryd.prog 20 #[.slice A0 l0.length c0] w fun e w' => ∃ v0_ : Value, e = .returned v0_ ∧ Kd.R (Kd.int .i64) 3 w' w.heap.size (fun _ => True) v0_ r ∧ Below w.heap.size w w' := by
  have hg : l0.flatten.length ≤ 100000 ∧ r = l0.flatten := by
    unfold xConcat.f at h
    split at h
    · rename_i hh
      exact ⟨hh, (Option.some.inj h).symm⟩
    · cases h
  obtain ⟨hm, rfl⟩ := hg
  clear h
  have HR := Aside0.mk hr0
  have HM := Aside0.mk hm
  have hlen : l0.length ≤ 9223372036854775807 := hr0.2.1
  clear hr0 hm hc0
  go_enter Tryd.func20, Tryd.ntmps20
  go_wp2
  go_loopw [3, 11] (fun v3 v11 wr => ∃ j q : Nat, j ≤ l0.length ∧ v11 = .int .i64 j ∧ v3 = .int .i64 (q : Nat) ∧ Aside0 (q = (l0.take j).flatten.length) ∧ w = wr) (fun _ v11 _ => l0.length - (intOf v11).toNat)
  case atStart => exact ⟨0, 0, Nat.zero_le _, rfl, rfl, ⟨by simp⟩, rfl⟩
  case round =>
    obtain ⟨j, q, hj, rfl, rfl, HQ, rfl⟩ := hrel
    by_cases hlt : j < l0.length
    · obtain ⟨ad, A1, c1, e, hx0, hc1, hr1⟩ := at_L1 HR.out (j : Int) (by omega) (by omega)
      subst e
      rw [Int.toNat_natCast] at hx0
      have hkd : decide ((j : Int) < (l0.length : Int)) = true := decide_eq_true (by omega)
      have hkd2 : decide (j < l0.length) = true := decide_eq_true hlt
      obtain ⟨m, hmm⟩ : ∃ m, m = (rd_L1 l0 (j : Int)).length := ⟨_, rfl⟩
      rw [← hmm] at hx0
      have HS := Aside0.mk (show q + m = (l0.take (j + 1)).flatten.length by rw [flat_take l0 j hlt, List.length_append, ← HQ.out, ← hmm])
      have hqm : q + m ≤ 100000 := by have h1 := HS.out; have h2 := flat_le l0 (j + 1); have h3 := HM.out; omega
      clear hr1 hmm hc1
      have hneg : decide (((q : Int) + (m : Int)) < 0) = false := decide_eq_false (by omega)
      go_wp2
      go_roundw
      case rel => exact ⟨j + 1, q + m, by omega, by go_num, by go_num, HS, by first | rfl | trivial⟩
      case measure => simp [intOf]; omega
    · have hkd : decide ((j : Int) < (l0.length : Int)) = false := decide_eq_false (by omega)
      have hkd2 : decide (j < l0.length) = false := decide_eq_false hlt
      obtain rfl : j = l0.length := by omega
      have hgr := grow_calls q (by have h1 := HQ.out; have h2 := flat_le l0 l0.length; have h3 := HM.out; omega) w w (Below.refl _ _)
      have HGR := Lib.hid hgr
      clear hgr hj hlt
      go_wp2_with (go_at_call 37; refine (HGR.out).mono ?_; rintro e w1 ⟨v1, rfl, ho1, hb1, hbw⟩; have HO1 := Aside0.mk ho1; have HB1 := Aside0.mk hb1; clear ho1 hb1 hbw)
      go_loopw [6, 27] (fun v6 v27 wr => ∃ j : Nat, j ≤ l0.length ∧ v27 = .int .i64 j ∧ Aside0 (Kd.R (Kd.int .i64) 3 wr w.heap.size (fun _ => True) v6 (l0.take j).flatten) ∧ Aside0 (Below w.heap.size w wr)) (fun _ v27 _ => l0.length - (intOf v27).toNat)
      case atStart => exact ⟨0, by omega, rfl, HO1, HB1⟩
      case round =>
        clear HO1 HB1 hkd hkd2 HGR HQ
        obtain ⟨j, hj, rfl, HO, HB⟩ := hrel
        by_cases hlt : j < l0.length
        · obtain ⟨ad, A1, c1, e, hx0, hc1, hr1⟩ := at_L1 (Kd.C_below HR.out HB.out) (j : Int) (by omega) (by omega)
          subst e
          rw [Int.toNat_natCast] at hx0
          have HR1 := Aside0.mk hr1
          have HC1 := Aside0.mk hc1
          clear hr1 hc1
          have hkd : decide ((j : Int) < (l0.length : Int)) = true := decide_eq_true (by omega)
          have hkd2 : decide (j < l0.length) = true := decide_eq_true hlt
          have HS := Aside0.mk (flat_take l0 j hlt)
          have HL := Aside0.mk (show (l0.take j).flatten.length + (rd_L1 l0 (j : Int)).length ≤ 100000 by have h1 := congrArg List.length HS.out; rw [List.length_append] at h1; have h2 := flat_le l0 (j + 1); have h3 := HM.out; omega)
          generalize hrow : rd_L1 l0 (j : Int) = row at *
          generalize hpre : (l0.take j).flatten = pre at *
          clear hrow hpre
          go_wp2_with ((with_reducible refine gate_builtin (b := .append) (xs := #[.tmp 31, .tmp 32]) rfl ?_); at_builtin; refine Kd.R_append_rows (Kd.int .i64) (w0 := w) w.heap.size rfl (.tmp 31) (.tmp 32) 22 3 (.int .i64 0) 8 rfl Tryd.underlying22 info3 rfl (by decide) (by omega) u6 pre row _ _ _ (fun _ => True) (fun _ => False) rfl rfl ?aO ?aR (fun _ _ h => h) (fun _ h => h.elim) ?aF ?aB ?aS ?aL ?_; (case aR => exact HR1.out); (case aB => exact HB.out); (case aF => exact (fun _ _ => trivial)); (case aO => exact HO.out); (case aS => exact below_size HB.out); (case aL => have := HL.out; first | omega | (simp; omega)); intro v4 w4 ho hb hg hat; have HO4 := Aside0.mk ho; have HB4 := Aside0.mk hb; clear ho hb hg hat)
          go_roundw
          case rel => exact ⟨j + 1, by omega, by go_num, ⟨by rw [HS.out]; exact HO4.out⟩, HB4⟩
          case measure => simp [intOf]; omega
        · have hkd : decide ((j : Int) < (l0.length : Int)) = false := decide_eq_false (by omega)
          have hkd2 : decide (j < l0.length) = false := decide_eq_false hlt
          have HO9 : Aside0 (Kd.R (Kd.int .i64) 3 wr w.heap.size (fun _ => True) u6 l0.flatten) := ⟨by have := HO.out; rw [List.take_of_length_le (by omega)] at this; exact this⟩
          clear HO
          go_wp2
          go_ret
          exact ⟨_, rfl, HO9.out, HB.out⟩
end Go.Proofs.YtkieehjpnjplmaaDoor.X
