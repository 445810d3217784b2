/- The walk of a puzzle's valid: slices.ContainsFunc and IndexFunc at rows, with the closures that ask whether a row is no clue. -/
import Derived.Test.YtkieehjpnjplmaaDoorE12
import Derived.Test.YtkieehjpnjplmaaDoorXf35
namespace Go.Proofs.YtkieehjpnjplmaaDoor.X
open Go.RowKit Go.Proofs.YtkieehjpnjplmaaDoorW.PrintWords Go.Proofs.YtkieehjpnjplmaaDoorW.PrintLast Go.Proofs.YtkieehjpnjplmaaDoorW.PrintMore
set_option linter.unusedVariables false
set_option linter.unusedSimpArgs false

/-- whether one of the rows is no clue for d squares -/
def anyNot (k : Nat) (d : Int) : List (List Int) → Option Bool
  | [] => some false
  | l :: r => (squares_isClue.f k d l).bind fun b => if b = true then anyNot k d r else some true
theorem anyNot.mono (d : Int) (k : Nat) : ∀ L, LeO (anyNot k d L) (anyNot (k + 1) d L)
  | [] => LeO.refl _
  | l :: r => by
    unfold anyNot
    exact LeO.bind (squares_isClue.mono _ _ _) fun b => LeO.ite (anyNot.mono d k r) (LeO.refl _)
theorem drop_row (L : List (List Int)) (j : Nat) (h : j < L.length) : L.drop j = rd_L1 L (j : Int) :: L.drop (j + 1) := by
  rw [List.drop_eq_getElem_cons h]
  simp [rd_L1, List.getD_eq_getElem?_getD, List.getElem?_eq_getElem h]

set_option maxHeartbeats 1000000 in
theorem clue34_calls (k : Nat) (d : Int) (B : Nat) (A : Option Addr) (c : Nat) (l : List Int) (b : Bool) (w : World) (hB : w.cell? ⟨B, 0, none⟩ = some (.int .i64 d)) (hr : Kd.C (Kd.int .i64) w A l.length l) (hc : l.length ≤ c) (h : squares_isClue.f k d l = some b) (hG : GL w) :
    Calls Tryd.prog 34 #[.slice A l.length c, .pointer (some ⟨B, 0, none⟩)] w fun e w' => e = .returned (.bool (!b)) ∧ Below w.heap.size w w' := by
  have hs := squares_isClue.calls k d A c l b w hr hc h hG
  have HS := Lib.hid hs
  clear hs hr hc h hG
  go_enter Tryd.func34, Tryd.ntmps34
  go_wp2_with (go_at_call 35; refine (HS.out).mono ?_; rintro e w' ⟨rfl, hb⟩)
  go_ret
  exact ⟨rfl, hb⟩
set_option maxHeartbeats 4000000 in
set_option maxRecDepth 100000 in
theorem idx48_34 (k : Nat) (B : Nat) (d : Int) (A : Option Addr) (c : Nat) (L : List (List Int)) (r : Bool) (W : World) (hB : W.cell? ⟨B, 0, none⟩ = some (.int .i64 d)) (hr : Kd.C (Kd.slice 3 (Kd.int .i64)) W A L.length L) (hG : GL W) (h : anyNot k d L = some r) :
    Calls Tryd.prog 48 #[.slice A L.length c, .func (.func 34) #[] #[.pointer (some ⟨B, 0, none⟩)]] W fun e w' => (∃ i : Int, e = .returned (.int .i64 i) ∧ (0 ≤ i ↔ r = true)) ∧ Below W.heap.size W w' := by
  have HR := Aside0.mk hr
  have HG := Aside0.mk hG
  have H := Aside0.mk h
  have HP := Aside0.mk (fun (W' : World) (hb : Below W.heap.size W W') (A1 : Option Addr) (c1 : Nat) (l : List Int) (b : Bool) (hl : Kd.C (Kd.int .i64) W' A1 l.length l) (hc : l.length ≤ c1) (hf : squares_isClue.f k d l = some b) => clue34_calls k d B A1 c1 l b W' (pw_cell_below hb hB) hl hc hf (hG.to hb))
  have hm : L.length ≤ 9223372036854775807 := hr.2.1
  clear hr hB hG h
  go_enter Tryd.func48, Tryd.ntmps48
  go_wp2
  go_loopw [8] (fun v8 wr => ∃ j : Nat, j ≤ L.length ∧ v8 = .int .i64 j ∧ Aside0 (anyNot k d (L.drop j) = some r) ∧ Aside0 (Below W.heap.size W wr)) (fun v8 _ => L.length - (intOf v8).toNat)
  case atStart => exact ⟨0, Nat.zero_le _, rfl, H, ⟨Below.refl _ _⟩⟩
  case round =>
    clear H
    obtain ⟨j, hj, rfl, HN, HB⟩ := hrel
    by_cases hlt : j < L.length
    · obtain ⟨ad, A1, c1, e, hx0, hc1, hr1⟩ := at_L1 (Kd.C_below HR.out HB.out) (j : Int) (by omega) (by omega)
      subst e
      rw [Int.toNat_natCast] at hx0
      have hkd : decide ((j : Int) < (L.length : Int)) = true := decide_eq_true (by omega)
      have hkd2 : decide (j < L.length) = true := decide_eq_true hlt
      have h9 := HN.out
      rw [drop_row L j hlt] at h9
      unfold anyNot at h9
      obtain ⟨b, hb, h9⟩ := Option.bind_eq_some_iff.mp h9
      have hcall := HP.out wr HB.out A1 c1 _ b hr1 hc1 hb
      have H9 := Aside0.mk h9
      clear h9 HN hb hr1 hc1
      generalize rd_L1 L (j : Int) = row at *
      have HC := Lib.hid hcall
      clear hcall
      cases b with
      | false =>
        have hrt : r = true := by have h := H9.out; simp at h; exact h
        go_wp2_with (go_at_call 34; refine (HC.out).mono ?_; rintro e w' ⟨rfl, hb⟩; have HB2 := Aside0.mk (below_step HB.out hb); clear hb)
        go_ret
        exact ⟨⟨_, rfl, ⟨fun _ => hrt, fun _ => by omega⟩⟩, HB2.out⟩
      | true =>
        have HQ : Aside0 (anyNot k d (L.drop (j + 1)) = some r) := ⟨by have h := H9.out; simpa using h⟩
        clear H9
        go_wp2_with (go_at_call 34; refine (HC.out).mono ?_; rintro e w' ⟨rfl, hb⟩; have HB2 := Aside0.mk (below_step HB.out hb); clear hb)
        go_roundw
        case rel => exact ⟨j + 1, by omega, by go_num, HQ, HB2⟩
        case measure => simp [intOf]; omega
    · have hkd : decide ((j : Int) < (L.length : Int)) = false := decide_eq_false (by omega)
      have hkd2 : decide (j < L.length) = false := decide_eq_false hlt
      have hrt : r = false := by
        have h := HN.out
        rw [List.drop_of_length_le (by omega)] at h
        exact (Option.some.inj h).symm
      go_wp2
      go_ret
      exact ⟨⟨_, rfl, ⟨fun h => absurd h (by omega), fun h => by rw [hrt] at h; cases h⟩⟩, HB.out⟩
set_option maxHeartbeats 2000000 in
theorem any33_34 (k : Nat) (B : Nat) (d : Int) (A : Option Addr) (c : Nat) (L : List (List Int)) (r : Bool) (W : World) (hB : W.cell? ⟨B, 0, none⟩ = some (.int .i64 d)) (hr : Kd.C (Kd.slice 3 (Kd.int .i64)) W A L.length L) (hG : GL W) (h : anyNot k d L = some r) :
    Calls Tryd.prog 33 #[.slice A L.length c, .func (.func 34) #[] #[.pointer (some ⟨B, 0, none⟩)]] W fun e w' => e = .returned (.bool r) ∧ Below W.heap.size W w' := by
  have hi := idx48_34 k B d A c L r W hB hr hG h
  have HI := Lib.hid hi
  clear hi hr hB h hG
  go_enter Tryd.func33, Tryd.ntmps33
  go_wp2_with (go_at_call 48; refine (HI.out).mono ?_; rintro e w' ⟨⟨i, rfl, hir⟩, hb⟩; have HIR := Aside0.mk hir; clear hir)
  go_ret
  refine ⟨?_, hb⟩
  have h1 := HIR.out
  cases r with
  | true => have h2 := h1.mpr rfl; simp; omega
  | false => have h2 : ¬ 0 ≤ i := fun h => by have := h1.mp h; cases this
             simp; omega

set_option maxHeartbeats 1000000 in
theorem clue36_calls (k : Nat) (d : Int) (B : Nat) (A : Option Addr) (c : Nat) (l : List Int) (b : Bool) (w : World) (hB : w.cell? ⟨B, 0, none⟩ = some (.int .i64 d)) (hr : Kd.C (Kd.int .i64) w A l.length l) (hc : l.length ≤ c) (h : squares_isClue.f k d l = some b) (hG : GL w) :
    Calls Tryd.prog 36 #[.slice A l.length c, .pointer (some ⟨B, 0, none⟩)] w fun e w' => e = .returned (.bool (!b)) ∧ Below w.heap.size w w' := by
  have hs := squares_isClue.calls k d A c l b w hr hc h hG
  have HS := Lib.hid hs
  clear hs hr hc h hG
  go_enter Tryd.func36, Tryd.ntmps36
  go_wp2_with (go_at_call 35; refine (HS.out).mono ?_; rintro e w' ⟨rfl, hb⟩)
  go_ret
  exact ⟨rfl, hb⟩
set_option maxHeartbeats 4000000 in
set_option maxRecDepth 100000 in
theorem idx48_36 (k : Nat) (B : Nat) (d : Int) (A : Option Addr) (c : Nat) (L : List (List Int)) (r : Bool) (W : World) (hB : W.cell? ⟨B, 0, none⟩ = some (.int .i64 d)) (hr : Kd.C (Kd.slice 3 (Kd.int .i64)) W A L.length L) (hG : GL W) (h : anyNot k d L = some r) :
    Calls Tryd.prog 48 #[.slice A L.length c, .func (.func 36) #[] #[.pointer (some ⟨B, 0, none⟩)]] W fun e w' => (∃ i : Int, e = .returned (.int .i64 i) ∧ (0 ≤ i ↔ r = true)) ∧ Below W.heap.size W w' := by
  have HR := Aside0.mk hr
  have HG := Aside0.mk hG
  have H := Aside0.mk h
  have HP := Aside0.mk (fun (W' : World) (hb : Below W.heap.size W W') (A1 : Option Addr) (c1 : Nat) (l : List Int) (b : Bool) (hl : Kd.C (Kd.int .i64) W' A1 l.length l) (hc : l.length ≤ c1) (hf : squares_isClue.f k d l = some b) => clue36_calls k d B A1 c1 l b W' (pw_cell_below hb hB) hl hc hf (hG.to hb))
  have hm : L.length ≤ 9223372036854775807 := hr.2.1
  clear hr hB hG h
  go_enter Tryd.func48, Tryd.ntmps48
  go_wp2
  go_loopw [8] (fun v8 wr => ∃ j : Nat, j ≤ L.length ∧ v8 = .int .i64 j ∧ Aside0 (anyNot k d (L.drop j) = some r) ∧ Aside0 (Below W.heap.size W wr)) (fun v8 _ => L.length - (intOf v8).toNat)
  case atStart => exact ⟨0, Nat.zero_le _, rfl, H, ⟨Below.refl _ _⟩⟩
  case round =>
    clear H
    obtain ⟨j, hj, rfl, HN, HB⟩ := hrel
    by_cases hlt : j < L.length
    · obtain ⟨ad, A1, c1, e, hx0, hc1, hr1⟩ := at_L1 (Kd.C_below HR.out HB.out) (j : Int) (by omega) (by omega)
      subst e
      rw [Int.toNat_natCast] at hx0
      have hkd : decide ((j : Int) < (L.length : Int)) = true := decide_eq_true (by omega)
      have hkd2 : decide (j < L.length) = true := decide_eq_true hlt
      have h9 := HN.out
      rw [drop_row L j hlt] at h9
      unfold anyNot at h9
      obtain ⟨b, hb, h9⟩ := Option.bind_eq_some_iff.mp h9
      have hcall := HP.out wr HB.out A1 c1 _ b hr1 hc1 hb
      have H9 := Aside0.mk h9
      clear h9 HN hb hr1 hc1
      generalize rd_L1 L (j : Int) = row at *
      have HC := Lib.hid hcall
      clear hcall
      cases b with
      | false =>
        have hrt : r = true := by have h := H9.out; simp at h; exact h
        go_wp2_with (go_at_call 36; refine (HC.out).mono ?_; rintro e w' ⟨rfl, hb⟩; have HB2 := Aside0.mk (below_step HB.out hb); clear hb)
        go_ret
        exact ⟨⟨_, rfl, ⟨fun _ => hrt, fun _ => by omega⟩⟩, HB2.out⟩
      | true =>
        have HQ : Aside0 (anyNot k d (L.drop (j + 1)) = some r) := ⟨by have h := H9.out; simpa using h⟩
        clear H9
        go_wp2_with (go_at_call 36; refine (HC.out).mono ?_; rintro e w' ⟨rfl, hb⟩; have HB2 := Aside0.mk (below_step HB.out hb); clear hb)
        go_roundw
        case rel => exact ⟨j + 1, by omega, by go_num, HQ, HB2⟩
        case measure => simp [intOf]; omega
    · have hkd : decide ((j : Int) < (L.length : Int)) = false := decide_eq_false (by omega)
      have hkd2 : decide (j < L.length) = false := decide_eq_false hlt
      have hrt : r = false := by
        have h := HN.out
        rw [List.drop_of_length_le (by omega)] at h
        exact (Option.some.inj h).symm
      go_wp2
      go_ret
      exact ⟨⟨_, rfl, ⟨fun h => absurd h (by omega), fun h => by rw [hrt] at h; cases h⟩⟩, HB.out⟩
set_option maxHeartbeats 2000000 in
theorem any33_36 (k : Nat) (B : Nat) (d : Int) (A : Option Addr) (c : Nat) (L : List (List Int)) (r : Bool) (W : World) (hB : W.cell? ⟨B, 0, none⟩ = some (.int .i64 d)) (hr : Kd.C (Kd.slice 3 (Kd.int .i64)) W A L.length L) (hG : GL W) (h : anyNot k d L = some r) :
    Calls Tryd.prog 33 #[.slice A L.length c, .func (.func 36) #[] #[.pointer (some ⟨B, 0, none⟩)]] W fun e w' => e = .returned (.bool r) ∧ Below W.heap.size W w' := by
  have hi := idx48_36 k B d A c L r W hB hr hG h
  have HI := Lib.hid hi
  clear hi hr hB h hG
  go_enter Tryd.func33, Tryd.ntmps33
  go_wp2_with (go_at_call 48; refine (HI.out).mono ?_; rintro e w' ⟨⟨i, rfl, hir⟩, hb⟩; have HIR := Aside0.mk hir; clear hir)
  go_ret
  refine ⟨?_, hb⟩
  have h1 := HIR.out
  cases r with
  | true => have h2 := h1.mpr rfl; simp; omega
  | false => have h2 : ¬ 0 ≤ i := fun h => by have := h1.mp h; cases this
             simp; omega
end Go.Proofs.YtkieehjpnjplmaaDoor.X
