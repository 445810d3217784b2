/- The walk of slices.ContainsFunc and IndexFunc at rows, with the closure that asks whether a row is the one in its variable. -/
import Derived.Test.YtkieehjpnjplmaaXG1a
import Derived.Lib.Hide
namespace Go.Proofs.Ytkieehjpnjplmaa.X
open Go.RowKit Go.Proofs.YtkieehjpnjplmaaW.PrintWords Go.Proofs.YtkieehjpnjplmaaW.PrintLast Go.Proofs.YtkieehjpnjplmaaW.PrintMore
set_option linter.unusedVariables false
set_option linter.unusedSimpArgs false

/-- whether one of the rows is this one -/
def hasEq (q : List Int) : List (List Int) → Option Bool
  | [] => some false
  | l :: r => (slices_Equal_int_int.f (l.length + q.length + 2) l q).bind fun b => if b = true then some true else hasEq q r
def xHas.f (L : List (List Int)) (q : List Int) : Option Bool := hasEq q L
theorem drop_row (L : List (List Int)) (j : Nat) (h : j < L.length) : L.drop j = rd_L1 L (j : Int) :: L.drop (j + 1) := by
  rw [List.drop_eq_getElem_cons h]
  simp [rd_L1, List.getD_eq_getElem?_getD, List.getElem?_eq_getElem h]
set_option maxHeartbeats 1000000 in
theorem same20_calls (k B : Nat) (A : Option Addr) (c : Nat) (l : List Int) (A1 : Option Addr) (c1 : Nat) (q : List Int) (b : Bool) (w : World) (hB : w.cell? ⟨B, 0, none⟩ = some (.slice A1 q.length c1)) (hr : Kd.C (Kd.int .i64) w A l.length l) (hc : l.length ≤ c) (hq : Kd.C (Kd.int .i64) w A1 q.length q) (hc1 : q.length ≤ c1) (h : slices_Equal_int_int.f k l q = some b) :
    Calls Try.prog 20 #[.slice A l.length c, .pointer (some ⟨B, 0, none⟩)] w fun e w' => e = .returned (.bool b) ∧ Below w.heap.size w w' := by
  have hs := slices_Equal_int_int.calls k A c l A1 c1 q b w hr hc hq hc1 h
  have HS := Lib.hid hs
  clear hs hr hc hq hc1 h
  go_enter Try.func20, Try.ntmps20
  go_wp2_with (go_at_call 21; refine (HS.out).mono ?_; rintro e w' ⟨rfl, nn, rfl⟩)
  go_ret
  exact ⟨rfl, pw_below_drewN (Below.refl _ _) _⟩
set_option maxHeartbeats 4000000 in
set_option maxRecDepth 100000 in
theorem idx35_calls (B : Nat) (A1 : Option Addr) (c1 : Nat) (q : List Int) (A : Option Addr) (c : Nat) (L : List (List Int)) (r : Bool) (W : World) (hB : W.cell? ⟨B, 0, none⟩ = some (.slice A1 q.length c1)) (hq : Kd.C (Kd.int .i64) W A1 q.length q) (hc1 : q.length ≤ c1) (hr : Kd.C (Kd.slice 3 (Kd.int .i64)) W A L.length L) (h : hasEq q L = some r) :
    Calls Try.prog 35 #[.slice A L.length c, .func (.func 20) #[] #[.pointer (some ⟨B, 0, none⟩)]] W fun e w' => (∃ i : Int, e = .returned (.int .i64 i) ∧ (0 ≤ i ↔ r = true)) ∧ Below W.heap.size W w' := by
  have HR := Aside0.mk hr
  have H := Aside0.mk h
  have HP := Aside0.mk (fun (k : Nat) (W' : World) (hb : Below W.heap.size W W') (A2 : Option Addr) (c2 : Nat) (l : List Int) (b : Bool) (hl : Kd.C (Kd.int .i64) W' A2 l.length l) (hc : l.length ≤ c2) (hf : slices_Equal_int_int.f k l q = some b) => same20_calls k B A2 c2 l A1 c1 q b W' (pw_cell_below hb hB) hl hc (Kd.C_below hq hb) hc1 hf)
  have hm : L.length ≤ 9223372036854775807 := hr.2.1
  clear hr hB hq h
  go_enter Try.func35, Try.ntmps35
  go_wp2
  go_loopw [8] (fun v8 wr => ∃ j : Nat, j ≤ L.length ∧ v8 = .int .i64 j ∧ Aside0 (hasEq q (L.drop j) = some r) ∧ Aside0 (Below W.heap.size W wr)) (fun v8 _ => L.length - (intOf v8).toNat)
  case atStart => exact ⟨0, Nat.zero_le _, rfl, H, ⟨Below.refl _ _⟩⟩
  case round =>
    clear H
    obtain ⟨j, hj, rfl, HN, HB⟩ := hrel
    by_cases hlt : j < L.length
    · obtain ⟨ad, A2, c2, e, hx0, hc2, hr2⟩ := at_L1 (Kd.C_below HR.out HB.out) (j : Int) (by omega) (by omega)
      subst e
      rw [Int.toNat_natCast] at hx0
      have hkd : decide ((j : Int) < (L.length : Int)) = true := decide_eq_true (by omega)
      have hkd2 : decide (j < L.length) = true := decide_eq_true hlt
      have h9 := HN.out
      rw [drop_row L j hlt] at h9
      unfold hasEq at h9
      obtain ⟨b, hb, h9⟩ := Option.bind_eq_some_iff.mp h9
      have hcall := HP.out _ wr HB.out A2 c2 _ b hr2 hc2 hb
      have H9 := Aside0.mk h9
      clear h9 HN hb hr2 hc2
      generalize rd_L1 L (j : Int) = row at *
      have HC := Lib.hid hcall
      clear hcall
      cases b with
      | true =>
        have hrt : r = true := by have h := H9.out; simp at h; exact h
        go_wp2_with (go_at_call 20; refine (HC.out).mono ?_; rintro e w' ⟨rfl, hb⟩; have HB2 := Aside0.mk (below_step HB.out hb); clear hb)
        go_ret
        exact ⟨⟨_, rfl, ⟨fun _ => hrt, fun _ => by omega⟩⟩, HB2.out⟩
      | false =>
        have HQ : Aside0 (hasEq q (L.drop (j + 1)) = some r) := ⟨by have h := H9.out; simpa using h⟩
        clear H9
        go_wp2_with (go_at_call 20; refine (HC.out).mono ?_; rintro e w' ⟨rfl, hb⟩; have HB2 := Aside0.mk (below_step HB.out hb); clear hb)
        go_roundw
        case rel => exact ⟨j + 1, by omega, by go_num, HQ, HB2⟩
        case measure => simp [intOf]; omega
    · have hkd : decide ((j : Int) < (L.length : Int)) = false := decide_eq_false (by omega)
      have hkd2 : decide (j < L.length) = false := decide_eq_false hlt
      have hrt : r = false := by
        have h := HN.out
        rw [List.drop_of_length_le (by omega)] at h
        exact (Option.some.inj h).symm
      go_wp2
      go_ret
      exact ⟨⟨_, rfl, ⟨fun h => absurd h (by omega), fun h => by rw [hrt] at h; cases h⟩⟩, HB.out⟩
set_option maxHeartbeats 2000000 in
theorem xHas.calls (B : Nat) (A0 : Option Addr) (c0 : Nat) (l0 : List (List Int)) (A1 : Option Addr) (c1 : Nat) (q : List Int) (r : Bool) (w : World) (hr0 : Kd.C (Kd.slice 3 (Kd.int .i64)) w A0 l0.length l0) (hc0 : l0.length ≤ c0) (hq : Kd.C (Kd.int .i64) w A1 q.length q) (hc1 : q.length ≤ c1) (hB : w.cell? ⟨B, 0, none⟩ = some (.slice A1 q.length c1)) (h : xHas.f l0 q = some r) :
    Calls Try.prog 19 #[.slice A0 l0.length c0, .func (.func 20) #[] #[.pointer (some ⟨B, 0, none⟩)]] w fun e w' => e = .returned (.bool r) ∧ Below w.heap.size w w' := by
  have hi := idx35_calls B A1 c1 q A0 c0 l0 r w hB hq hc1 hr0 h
  have HI := Lib.hid hi
  clear hi hr0 hB hq h hc0 hc1
  go_enter Try.func19, Try.ntmps19
  go_wp2_with (go_at_call 35; refine (HI.out).mono ?_; rintro e w' ⟨⟨i, rfl, hir⟩, hb⟩; have HIR := Aside0.mk hir; clear hir)
  go_ret
  refine ⟨?_, hb⟩
  have h1 := HIR.out
  cases r with
  | true => have h2 := h1.mpr rfl; simp; omega
  | false => have h2 : ¬ 0 ≤ i := fun h => by have := h1.mp h; cases this
             simp; omega
end Go.Proofs.Ytkieehjpnjplmaa.X
