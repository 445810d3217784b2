/- The walks of at and of the search behind it: the index of a key on a list. -/
import Derived.Test.YtdffhffhnjkcpaaS8
import Derived.Lib.Hide
import Derived.Shelf.Abstract
namespace Go.Proofs.Ytdffhffhnjkcpaa.X
open Go.RowKit Go.Shelf Go.Proofs.YtdffhffhnjkcpaaW.PrintWords Go.Proofs.YtdffhffhnjkcpaaW.PrintLast Go.Proofs.YtdffhffhnjkcpaaW.PrintMore
set_option linter.unusedVariables false
set_option linter.unusedSimpArgs false

def idxP (p : S70 → Bool) (l : List S70) : Int := match l.findIdx? p with
  | some i => (i : Nat)
  | none => -1
theorem idxP_none {p : S70 → Bool} {l : List S70} (h : ∀ i (hi : i < l.length), p l[i] = false) : idxP p l = -1 := by
  unfold idxP
  have : l.findIdx? p = none := by
    rw [List.findIdx?_eq_none_iff]
    intro x hx
    obtain ⟨i, hi, rfl⟩ := List.getElem_of_mem hx
    exact h i hi
  rw [this]
theorem idxP_some {p : S70 → Bool} {l : List S70} {i : Nat} (hi : i < l.length) (h : p l[i] = true) (hj : ∀ j (hj : j < i), p (l[j]'(by omega)) = false) : idxP p l = (i : Int) := by
  unfold idxP
  have : l.findIdx? p = some i := by
    rw [List.findIdx?_eq_some_iff_getElem]
    exact ⟨hi, h, fun j hji => by simp [hj j hji]⟩
  rw [this]
theorem rd_T70_nat (l : List S70) (i : Nat) (h : i < l.length) : rd_T70 l (i : Int) = l[i] := by
  simp [rd_T70, List.getD_eq_getElem?_getD, List.getElem?_eq_getElem h]
def aggT (c : S70) : Value := .agg #[.int .i64 c.f0, .int .i64 c.f1, .int .i64 c.f2]

set_option maxHeartbeats 1000000 in
theorem at1_calls (x : Int) (b : Nat) (c : S70) (W : World) (hx : W.cell? ⟨b, 0, none⟩ = some (.int .i64 x)) :
    Calls Try.prog 95 #[.agg #[.int .i64 c.f0, .int .i64 c.f1, .int .i64 c.f2], .pointer (some ⟨b, 0, none⟩)] W fun e w' => e = .returned (.bool (is x c)) ∧ Below W.heap.size W w' := by
  have hx2 := pw_cell_below (below_alloc (Below.refl _ W) (.cells #[.int .i64 c.f0, .int .i64 c.f1, .int .i64 c.f2] 70)) hx
  clear hx
  go_enter Try.func95, Try.ntmps95
  go_wp2
  go_ret
  exact ⟨by simp [is], below_alloc (Below.refl _ _) _⟩

set_option maxHeartbeats 4000000 in
set_option maxRecDepth 100000 in
theorem idx_calls (F : Nat) (cap : Array Value) (p : S70 → Bool) (A : Option Addr) (c : Nat) (l : List S70) (W : World) (eg : ∀ args w, (callFunc F args).run Try.prog w = .ok (.enter F args) w)
    (hr : Kd.C k70 W A l.length l) (hc : l.length ≤ c)
    (hp : ∀ (d : S70) (W' : World), Below W.heap.size W W' → Calls Try.prog F (#[.agg #[.int .i64 d.f0, .int .i64 d.f1, .int .i64 d.f2]] ++ cap) W' fun e w' => e = .returned (.bool (p d)) ∧ Below W'.heap.size W' w') :
    Calls Try.prog 94 #[.slice A l.length c, .func (.func F) #[] cap] W fun e w' => e = .returned (.int .i64 (idxP p l)) ∧ Below W.heap.size W w' := by
  have HR := Aside0.mk hr
  have HP := Aside0.mk hp
  have hmax := Kd.C_max hr
  clear hr hp hc
  go_enter Try.func94, Try.ntmps94
  go_wp2
  go_loopw [8] (fun v8 wr => ∃ j : Nat, j ≤ l.length ∧ v8 = .int .i64 j ∧ Aside0 (∀ i (hi : i < l.length), i < j → p l[i] = false) ∧ Aside0 (Below W.heap.size W wr)) (fun v8 _ => l.length - (intOf v8).toNat)
  case atStart => exact ⟨0, Nat.zero_le _, rfl, ⟨fun i _ h => absurd h (Nat.not_lt_zero _)⟩, ⟨Below.refl _ _⟩⟩
  case round =>
    obtain ⟨j, hj, rfl, HN, HB⟩ := hrel
    by_cases hlt : j < l.length
    · obtain ⟨ad, e, hx0, hx1, hx2⟩ := at_T70 (Kd.C_below HR.out HB.out) (j : Int) (by omega) (by omega)
      subst e
      rw [Int.toNat_natCast] at hx0 hx1 hx2
      have hd := Aside0.mk (rd_T70_nat l j hlt)
      have hcall := HP.out (rd_T70 l (j : Int)) wr HB.out
      have hkd : decide ((j : Int) < (l.length : Int)) = true := decide_eq_true (by omega)
      have hkd2 : decide (j < l.length) = true := decide_eq_true hlt
      generalize hq : rd_T70 l (j : Int) = q at *
      have HQ := Aside0.mk hq
      clear hq
      cases hpq : p q with
      | true =>
        rw [hpq] at hcall
        have HPQ := Aside0.mk hpq
        clear hpq
        have HC := Lib.hid hcall
        clear hcall
        go_wp2_with (go_at_fn F; refine (HC.out).mono ?_; rintro e w' ⟨rfl, hb⟩)
        go_ret
        have h1 : p l[j] = true := by rw [← hd.out]; exact HPQ.out
        exact ⟨by rw [idxP_some hlt h1 (fun i hi => HN.out i (by omega) hi)]; rfl, below_step HB.out hb⟩
      | false =>
        rw [hpq] at hcall
        have HPQ := Aside0.mk hpq
        clear hpq
        have HC := Lib.hid hcall
        clear hcall
        go_wp2_with (go_at_fn F; refine (HC.out).mono ?_; rintro e w' ⟨rfl, hb⟩)
        go_roundw
        case rel =>
          refine ⟨j + 1, by omega, by go_num, ⟨fun i hi h => ?_⟩, ⟨below_step HB.out hb⟩⟩
          by_cases e : i = j
          · subst e
            rw [← hd.out]; exact HPQ.out
          · exact HN.out i hi (by omega)
        case measure => simp [intOf]; omega
    · have hkd : decide ((j : Int) < (l.length : Int)) = false := decide_eq_false (by omega)
      have hkd2 : decide (j < l.length) = false := decide_eq_false hlt
      go_wp2
      go_ret
      exact ⟨by rw [idxP_none (fun i hi => HN.out i hi (by omega))]; rfl, HB.out⟩
end Go.Proofs.Ytdffhffhnjkcpaa.X
