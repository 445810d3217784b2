/- The walks of slices.ContainsFunc and IndexFunc at numbers, with the closure of parts: whether one of the numbers is not d. -/
import Derived.Test.YtefmafbbnkkpjaaX0
import Derived.Test.YtefmafbbnkkpjaaXG1a
import Derived.Lib.Hide
namespace Go.Proofs.Ytefmafbbnkkpjaa.X
open Go.RowKit Go.Proofs.YtefmafbbnkkpjaaW.PrintWords Go.Proofs.YtefmafbbnkkpjaaW.PrintLast Go.Proofs.YtefmafbbnkkpjaaW.PrintMore
set_option linter.unusedVariables false
set_option linter.unusedSimpArgs false

def xAnyNe.f (l : List Int) (d : Int) : Option Bool := some (l.any fun c => c != d)
def idxI (p : Int → Bool) (l : List Int) : Int := match l.findIdx? p with
  | some i => (i : Nat)
  | none => -1
theorem idxI_none {p : Int → Bool} {l : List Int} (h : ∀ i (hi : i < l.length), p l[i] = false) : idxI p l = -1 := by
  unfold idxI
  have : l.findIdx? p = none := by
    rw [List.findIdx?_eq_none_iff]
    intro x hx
    obtain ⟨i, hi, rfl⟩ := List.getElem_of_mem hx
    exact h i hi
  rw [this]
theorem idxI_some {p : Int → Bool} {l : List Int} {i : Nat} (hi : i < l.length) (h : p l[i] = true) (hj : ∀ j (hj : j < i), p (l[j]'(by omega)) = false) : idxI p l = (i : Int) := by
  unfold idxI
  have : l.findIdx? p = some i := by
    rw [List.findIdx?_eq_some_iff_getElem]
    exact ⟨hi, h, fun j hji => by simp [hj j hji]⟩
  rw [this]
theorem idxI_any (p : Int → Bool) (l : List Int) : decide (idxI p l ≥ 0) = l.any p := by
  unfold idxI
  cases h : l.findIdx? p with
  | none =>
    rw [List.findIdx?_eq_none_iff] at h
    have : l.any p = false := by rw [List.any_eq_false]; intro x hx; simp [h x hx]
    rw [this]; rfl
  | some i =>
    rw [List.findIdx?_eq_some_iff_getElem] at h
    obtain ⟨hi, hp, _⟩ := h
    have : l.any p = true := List.any_eq_true.mpr ⟨_, List.getElem_mem hi, hp⟩
    rw [this]
    exact decide_eq_true (by show (0 : Int) ≤ (i : Nat); omega)
theorem rdI_at (l : List Int) (i : Nat) (h : i < l.length) : rd l (i : Int) = l[i] := by
  simp [rd, List.getD_eq_getElem?_getD, List.getElem?_eq_getElem h]
theorem ne122_calls (x d : Int) (B : Nat) (w : World) (h : w.cell? ⟨B, 0, none⟩ = some (.int .i64 d)) :
    Calls Try.prog 122 #[.int .i64 x, .pointer (some ⟨B, 0, none⟩)] w fun e w' => e = .returned (.bool (x != d)) ∧ w = w' := by
  go_enter Try.func122, Try.ntmps122
  go_wp2
  go_ret
  exact ⟨rfl, rfl⟩
set_option maxHeartbeats 4000000 in
set_option maxRecDepth 100000 in
theorem idx123_calls (B : Nat) (d : Int) (A : Option Addr) (c : Nat) (L : List Int) (W : World) (hB : W.cell? ⟨B, 0, none⟩ = some (.int .i64 d)) (hr : Kd.C (Kd.int .i64) W A L.length L) :
    Calls Try.prog 123 #[.slice A L.length c, .func (.func 122) #[] #[.pointer (some ⟨B, 0, none⟩)]] W fun e w' => e = .returned (.int .i64 (idxI (fun x => x != d) L)) ∧ Below W.heap.size W w' := by
  have HR := Aside0.mk hr
  have HP := Aside0.mk (fun (x : Int) (W' : World) (hb : Below W.heap.size W W') => ne122_calls x d B W' (pw_cell_below hb hB))
  have hm : L.length ≤ 9223372036854775807 := hr.2.1
  clear hr hB
  go_enter Try.func123, Try.ntmps123
  go_wp2
  go_loopw [8] (fun v8 wr => ∃ j : Nat, j ≤ L.length ∧ v8 = .int .i64 j ∧ Aside0 (∀ i (hi : i < L.length), i < j → (L[i] != d) = false) ∧ Aside0 (Below W.heap.size W wr)) (fun v8 _ => L.length - (intOf v8).toNat)
  case atStart => exact ⟨0, Nat.zero_le _, rfl, ⟨fun i _ h => absurd h (Nat.not_lt_zero _)⟩, ⟨Below.refl _ _⟩⟩
  case round =>
    obtain ⟨j, hj, rfl, HN, HB⟩ := hrel
    by_cases hlt : j < L.length
    · obtain ⟨ad, e, hx0⟩ := Kd.at_int (Kd.C_below HR.out HB.out) (j : Int) (by omega) (by omega)
      subst e
      rw [Int.toNat_natCast] at hx0
      rw [rdI_at L j hlt] at hx0
      have hcall := HP.out L[j] wr HB.out
      have hkd : decide ((j : Int) < (L.length : Int)) = true := decide_eq_true (by omega)
      have hkd2 : decide (j < L.length) = true := decide_eq_true hlt
      cases hpq : (L[j] != d) with
      | true =>
        rw [hpq] at hcall
        have HPQ := Aside0.mk hpq
        clear hpq
        generalize hq : L[j] = q at *
        have HQ := Aside0.mk hq
        clear hq
        have HC := Lib.hid hcall
        clear hcall
        go_wp2_with (go_at_call 122; refine (HC.out).mono ?_; rintro e w' ⟨rfl, rfl⟩)
        go_ret
        have h1 : (L[j] != d) = true := by rw [HQ.out]; exact HPQ.out
        exact ⟨by rw [idxI_some (p := fun x => x != d) hlt h1 (fun i hi => HN.out i (by omega) hi)]; rfl, HB.out⟩
      | false =>
        rw [hpq] at hcall
        have HPQ := Aside0.mk hpq
        clear hpq
        generalize hq : L[j] = q at *
        have HQ := Aside0.mk hq
        clear hq
        have HC := Lib.hid hcall
        clear hcall
        go_wp2_with (go_at_call 122; refine (HC.out).mono ?_; rintro e w' ⟨rfl, rfl⟩)
        go_roundw
        case rel =>
          refine ⟨j + 1, by omega, by go_num, ⟨fun i hi h => ?_⟩, HB⟩
          by_cases e : i = j
          · subst e
            rw [HQ.out]; exact HPQ.out
          · exact HN.out i hi (by omega)
        case measure => simp [intOf]; omega
    · have hkd : decide ((j : Int) < (L.length : Int)) = false := decide_eq_false (by omega)
      have hkd2 : decide (j < L.length) = false := decide_eq_false hlt
      go_wp2
      go_ret
      exact ⟨by rw [idxI_none (p := fun x => x != d) (fun i hi => HN.out i hi (by omega))]; rfl, HB.out⟩
set_option maxHeartbeats 2000000 in
theorem xAnyNe.calls (B : Nat) (A : Option Addr) (c : Nat) (L : List Int) (d : Int) (r : Bool) (W : World) (hB : W.cell? ⟨B, 0, none⟩ = some (.int .i64 d)) (hr : Kd.C (Kd.int .i64) W A L.length L) (hc : L.length ≤ c) (h : xAnyNe.f L d = some r) :
    Calls Try.prog 121 #[.slice A L.length c, .func (.func 122) #[] #[.pointer (some ⟨B, 0, none⟩)]] W fun e w' => e = .returned (.bool r) ∧ Below W.heap.size W w' := by
  obtain rfl := Option.some.inj h
  have hi := idx123_calls B d A c L W hB hr
  have ha := Aside0.mk (idxI_any (fun x => x != d) L)
  generalize hx : idxI (fun x => x != d) L = x at *
  have HI := Lib.hid hi
  clear hi hx hr hB h
  go_enter Try.func121, Try.ntmps121
  go_wp2_with (go_at_call 123; refine (HI.out).mono ?_; rintro e w' ⟨rfl, hb⟩)
  go_ret
  exact ⟨by rw [← ha.out]; rfl, hb⟩
end Go.Proofs.Ytefmafbbnkkpjaa.X
