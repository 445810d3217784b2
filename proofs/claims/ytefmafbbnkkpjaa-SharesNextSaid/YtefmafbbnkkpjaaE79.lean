/- The walks of slices.ContainsFunc and IndexFunc at rows, with Below's closure. -/
import Derived.Test.YtefmafbbnkkpjaaE77
import Derived.Lib.Hide
import Derived.Shelf.Abstract
namespace Go.Proofs.Ytefmafbbnkkpjaa.X
open Go.RowKit Go.Shelf Go.Proofs.YtefmafbbnkkpjaaW.PrintWords Go.Proofs.YtefmafbbnkkpjaaW.PrintLast Go.Proofs.YtefmafbbnkkpjaaW.PrintMore
set_option linter.unusedVariables false
set_option linter.unusedSimpArgs false

def idxL (p : List Int → Bool) (l : List (List Int)) : Int := match l.findIdx? p with
  | some i => (i : Nat)
  | none => -1
theorem idxL_none {p : List Int → Bool} {l : List (List Int)} (h : ∀ i (hi : i < l.length), p l[i] = false) : idxL p l = -1 := by
  unfold idxL
  have : l.findIdx? p = none := by
    rw [List.findIdx?_eq_none_iff]
    intro x hx
    obtain ⟨i, hi, rfl⟩ := List.getElem_of_mem hx
    exact h i hi
  rw [this]
theorem idxL_some {p : List Int → Bool} {l : List (List Int)} {i : Nat} (hi : i < l.length) (h : p l[i] = true) (hj : ∀ j (hj : j < i), p (l[j]'(by omega)) = false) : idxL p l = (i : Int) := by
  unfold idxL
  have : l.findIdx? p = some i := by
    rw [List.findIdx?_eq_some_iff_getElem]
    exact ⟨hi, h, fun j hji => by simp [hj j hji]⟩
  rw [this]
theorem idxL_any (p : List Int → Bool) (l : List (List Int)) : decide (idxL p l ≥ 0) = l.any p := by
  unfold idxL
  cases h : l.findIdx? p with
  | none =>
    rw [List.findIdx?_eq_none_iff] at h
    have : l.any p = false := by rw [List.any_eq_false]; intro x hx; simp [h x hx]
    rw [this]; rfl
  | some i =>
    rw [List.findIdx?_eq_some_iff_getElem] at h
    obtain ⟨hi, hp, _⟩ := h
    have : l.any p = true := List.any_eq_true.mpr ⟨_, List.getElem_mem hi, hp⟩
    rw [this]
    exact decide_eq_true (by show (0 : Int) ≤ (i : Nat); omega)
theorem rdL_at (l : List (List Int)) (i : Nat) (h : i < l.length) : rd_L1 l (i : Int) = l[i] := by
  simp [rd_L1, List.getD_eq_getElem?_getD, List.getElem?_eq_getElem h]

set_option maxHeartbeats 4000000 in
set_option maxRecDepth 100000 in
theorem idx103_calls (Bb : Nat) (p : List Int → Bool) (A : Option Addr) (c : Nat) (L : List (List Int)) (W : World) (hr : Kd.C (Kd.slice 3 (Kd.int .i64)) W A L.length L) (hm : L.length ≤ 100000)
    (hp : ∀ row, row ∈ L → ∀ A' c' W', Below W.heap.size W W' → Kd.C (Kd.int .i64) W' A' row.length row → row.length ≤ c' → Calls Try.prog 77 #[.slice A' row.length c', .pointer (some ⟨Bb, 0, none⟩)] W' fun e w' => e = .returned (.bool (p row)) ∧ Below W'.heap.size W' w') :
    Calls Try.prog 103 #[.slice A L.length c, .func (.func 77) #[] #[.pointer (some ⟨Bb, 0, none⟩)]] W fun e w' => e = .returned (.int .i64 (idxL p L)) ∧ Below W.heap.size W w' := by
  have HR := Aside0.mk hr
  have HP := Aside0.mk hp
  clear hr hp
  go_enter Try.func103, Try.ntmps103
  go_wp2
  go_loopw [8] (fun v8 wr => ∃ j : Nat, j ≤ L.length ∧ v8 = .int .i64 j ∧ Aside0 (∀ i (hi : i < L.length), i < j → p L[i] = false) ∧ Aside0 (Below W.heap.size W wr)) (fun v8 _ => L.length - (intOf v8).toNat)
  case atStart => exact ⟨0, Nat.zero_le _, rfl, ⟨fun i _ h => absurd h (Nat.not_lt_zero _)⟩, ⟨Below.refl _ _⟩⟩
  case round =>
    obtain ⟨j, hj, rfl, HN, HB⟩ := hrel
    by_cases hlt : j < L.length
    · obtain ⟨ad, A0, c0, e, hx0, hle, hC⟩ := at_L1 (Kd.C_below HR.out HB.out) (j : Int) (by omega) (by omega)
      subst e
      rw [Int.toNat_natCast] at hx0
      rw [rdL_at L j hlt] at hx0 hle hC
      have hcall := HP.out L[j] (List.getElem_mem hlt) A0 c0 wr HB.out hC hle
      have HL := Aside0.mk (fun i hi (h : i < j) => HN.out i hi h)
      have hkd : decide ((j : Int) < (L.length : Int)) = true := decide_eq_true (by omega)
      have hkd2 : decide (j < L.length) = true := decide_eq_true hlt
      cases hpq : p L[j] with
      | true =>
        rw [hpq] at hcall
        have HPQ := Aside0.mk hpq
        clear hpq hC
        generalize hq : L[j] = q at *
        have HQ := Aside0.mk hq
        clear hq
        have HC := Lib.hid hcall
        clear hcall
        go_wp2_with (go_at_call 77; refine (HC.out).mono ?_; rintro e w' ⟨rfl, hb⟩)
        go_ret
        have h1 : p L[j] = true := by rw [HQ.out]; exact HPQ.out
        exact ⟨by rw [idxL_some hlt h1 (fun i hi => HN.out i (by omega) hi)]; rfl, below_step HB.out hb⟩
      | false =>
        rw [hpq] at hcall
        have HPQ := Aside0.mk hpq
        clear hpq hC
        generalize hq : L[j] = q at *
        have HQ := Aside0.mk hq
        clear hq
        have HC := Lib.hid hcall
        clear hcall
        go_wp2_with (go_at_call 77; refine (HC.out).mono ?_; rintro e w' ⟨rfl, hb⟩)
        go_roundw
        case rel =>
          refine ⟨j + 1, by omega, by go_num, ⟨fun i hi h => ?_⟩, ⟨below_step HB.out hb⟩⟩
          by_cases e : i = j
          · subst e
            rw [HQ.out]; exact HPQ.out
          · exact HN.out i hi (by omega)
        case measure => simp [intOf]; omega
    · have hkd : decide ((j : Int) < (L.length : Int)) = false := decide_eq_false (by omega)
      have hkd2 : decide (j < L.length) = false := decide_eq_false hlt
      go_wp2
      go_ret
      exact ⟨by rw [idxL_none (fun i hi => HN.out i hi (by omega))]; rfl, HB.out⟩
set_option maxHeartbeats 2000000 in
theorem cont79_calls (Bb : Nat) (p : List Int → Bool) (A : Option Addr) (c : Nat) (L : List (List Int)) (W : World) (hr : Kd.C (Kd.slice 3 (Kd.int .i64)) W A L.length L) (hm : L.length ≤ 100000)
    (hp : ∀ row, row ∈ L → ∀ A' c' W', Below W.heap.size W W' → Kd.C (Kd.int .i64) W' A' row.length row → row.length ≤ c' → Calls Try.prog 77 #[.slice A' row.length c', .pointer (some ⟨Bb, 0, none⟩)] W' fun e w' => e = .returned (.bool (p row)) ∧ Below W'.heap.size W' w') :
    Calls Try.prog 79 #[.slice A L.length c, .func (.func 77) #[] #[.pointer (some ⟨Bb, 0, none⟩)]] W fun e w' => e = .returned (.bool (L.any p)) ∧ Below W.heap.size W w' := by
  have hi := idx103_calls Bb p A c L W hr hm hp
  have ha := Aside0.mk (idxL_any p L)
  generalize hx : idxL p L = x at *
  have HI := Lib.hid hi
  clear hi hx hp hr
  go_enter Try.func79, Try.ntmps79
  go_wp2_with (go_at_call 103; refine (HI.out).mono ?_; rintro e w' ⟨rfl, hb⟩)
  go_ret
  exact ⟨by rw [← ha.out]; rfl, hb⟩
end Go.Proofs.Ytefmafbbnkkpjaa.X
