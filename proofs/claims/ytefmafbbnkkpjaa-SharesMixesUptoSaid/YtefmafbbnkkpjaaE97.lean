/- The walk of common: slices.ContainsFunc and IndexFunc at rows of fractions, with its closure, and the common multiple. -/
import Derived.Test.YtefmafbbnkkpjaaXf86
import Derived.Test.YtefmafbbnkkpjaaXG1a
import Derived.Lib.Hide
namespace Go.Proofs.Ytefmafbbnkkpjaa.X
open Go.RowKit Go.Proofs.YtefmafbbnkkpjaaW.PrintWords Go.Proofs.YtefmafbbnkkpjaaW.PrintLast Go.Proofs.YtefmafbbnkkpjaaW.PrintMore
set_option linter.unusedVariables false
set_option linter.unusedSimpArgs false

def xCommon.f (k : Nat) (l : List (List S62)) (n most : Int) : Option (Int × Bool) :=
  if (l.length : Int) = n then (if l.any (fun r => (r.length : Int) != n) = true then some (0, false) else shares_mixture_multiple.f k l most) else some (0, false)
theorem xCommon.mono : ∀ a0 a1 a2 k, LeO (xCommon.f k a0 a1 a2) (xCommon.f (k + 1) a0 a1 a2) := by
  intro a0 a1 a2 k
  unfold xCommon.f
  split
  · split
    · exact LeO.refl _
    · exact shares_mixture_multiple.mono _ _ _
  · exact LeO.refl _
def idxF (p : List S62 → Bool) (l : List (List S62)) : Int := match l.findIdx? p with
  | some i => (i : Nat)
  | none => -1
theorem idxF_none {p : List S62 → Bool} {l : List (List S62)} (h : ∀ i (hi : i < l.length), p l[i] = false) : idxF p l = -1 := by
  unfold idxF
  have : l.findIdx? p = none := by
    rw [List.findIdx?_eq_none_iff]
    intro x hx
    obtain ⟨i, hi, rfl⟩ := List.getElem_of_mem hx
    exact h i hi
  rw [this]
theorem idxF_some {p : List S62 → Bool} {l : List (List S62)} {i : Nat} (hi : i < l.length) (h : p l[i] = true) (hj : ∀ j (hj : j < i), p (l[j]'(by omega)) = false) : idxF p l = (i : Int) := by
  unfold idxF
  have : l.findIdx? p = some i := by
    rw [List.findIdx?_eq_some_iff_getElem]
    exact ⟨hi, h, fun j hji => by simp [hj j hji]⟩
  rw [this]
theorem idxF_any (p : List S62 → Bool) (l : List (List S62)) : decide (idxF p l ≥ 0) = l.any p := by
  unfold idxF
  cases h : l.findIdx? p with
  | none =>
    rw [List.findIdx?_eq_none_iff] at h
    have : l.any p = false := by rw [List.any_eq_false]; intro x hx; simp [h x hx]
    rw [this]; rfl
  | some i =>
    rw [List.findIdx?_eq_some_iff_getElem] at h
    obtain ⟨hi, hp, _⟩ := h
    have : l.any p = true := List.any_eq_true.mpr ⟨_, List.getElem_mem hi, hp⟩
    rw [this]
    exact decide_eq_true (by show (0 : Int) ≤ (i : Nat); omega)
theorem rdF_at (l : List (List S62)) (i : Nat) (h : i < l.length) : rd_L5 l (i : Int) = l[i] := by
  simp [rd_L5, List.getD_eq_getElem?_getD, List.getElem?_eq_getElem h]
theorem ne120_calls (A : Option Addr) (m c : Nat) (d : Int) (B : Nat) (w : World) (h : w.cell? ⟨B, 0, none⟩ = some (.int .i64 d)) :
    Calls Try.prog 120 #[.slice A m c, .pointer (some ⟨B, 0, none⟩)] w fun e w' => e = .returned (.bool ((m : Int) != d)) ∧ w = w' := by
  go_enter Try.func120, Try.ntmps120
  go_wp2
  go_ret
  exact ⟨rfl, rfl⟩
set_option maxHeartbeats 4000000 in
set_option maxRecDepth 100000 in
theorem idx139_calls (B : Nat) (d : Int) (A : Option Addr) (c : Nat) (L : List (List S62)) (W : World) (hB : W.cell? ⟨B, 0, none⟩ = some (.int .i64 d)) (hr : Kd.C (Kd.slice 62 k62) W A L.length L) :
    Calls Try.prog 139 #[.slice A L.length c, .func (.func 120) #[] #[.pointer (some ⟨B, 0, none⟩)]] W fun e w' => e = .returned (.int .i64 (idxF (fun r => (r.length : Int) != d) L)) ∧ Below W.heap.size W w' := by
  have HR := Aside0.mk hr
  have HP := Aside0.mk (fun (A : Option Addr) (m c : Nat) (W' : World) (hb : Below W.heap.size W W') => ne120_calls A m c d B W' (pw_cell_below hb hB))
  have hm : L.length ≤ 9223372036854775807 := hr.2.1
  clear hr hB
  go_enter Try.func139, Try.ntmps139
  go_wp2
  go_loopw [8] (fun v8 wr => ∃ j : Nat, j ≤ L.length ∧ v8 = .int .i64 j ∧ Aside0 (∀ i (hi : i < L.length), i < j → ((L[i].length : Int) != d) = false) ∧ Aside0 (Below W.heap.size W wr)) (fun v8 _ => L.length - (intOf v8).toNat)
  case atStart => exact ⟨0, Nat.zero_le _, rfl, ⟨fun i _ h => absurd h (Nat.not_lt_zero _)⟩, ⟨Below.refl _ _⟩⟩
  case round =>
    obtain ⟨j, hj, rfl, HN, HB⟩ := hrel
    by_cases hlt : j < L.length
    · obtain ⟨ad, A0, c0, e, hx0, hle, hC⟩ := at_L5 (Kd.C_below HR.out HB.out) (j : Int) (by omega) (by omega)
      subst e
      rw [Int.toNat_natCast] at hx0
      rw [rdF_at L j hlt] at hx0 hle hC
      have hcall := HP.out A0 L[j].length c0 wr HB.out
      clear hle hC
      have hkd : decide ((j : Int) < (L.length : Int)) = true := decide_eq_true (by omega)
      have hkd2 : decide (j < L.length) = true := decide_eq_true hlt
      cases hpq : ((L[j].length : Int) != d) with
      | true =>
        rw [hpq] at hcall
        have HPQ := Aside0.mk hpq
        clear hpq
        generalize hq : L[j].length = q at *
        have HQ := Aside0.mk hq
        clear hq
        have HC := Lib.hid hcall
        clear hcall
        go_wp2_with (go_at_call 120; refine (HC.out).mono ?_; rintro e w' ⟨rfl, rfl⟩)
        go_ret
        have h1 : ((L[j].length : Int) != d) = true := by rw [HQ.out]; exact HPQ.out
        exact ⟨by rw [idxF_some (p := fun r => (r.length : Int) != d) hlt h1 (fun i hi => HN.out i (by omega) hi)]; rfl, HB.out⟩
      | false =>
        rw [hpq] at hcall
        have HPQ := Aside0.mk hpq
        clear hpq
        generalize hq : L[j].length = q at *
        have HQ := Aside0.mk hq
        clear hq
        have HC := Lib.hid hcall
        clear hcall
        go_wp2_with (go_at_call 120; refine (HC.out).mono ?_; rintro e w' ⟨rfl, rfl⟩)
        go_roundw
        case rel =>
          refine ⟨j + 1, by omega, by go_num, ⟨fun i hi h => ?_⟩, HB⟩
          by_cases e : i = j
          · subst e
            rw [HQ.out]; exact HPQ.out
          · exact HN.out i hi (by omega)
        case measure => simp [intOf]; omega
    · have hkd : decide ((j : Int) < (L.length : Int)) = false := decide_eq_false (by omega)
      have hkd2 : decide (j < L.length) = false := decide_eq_false hlt
      go_wp2
      go_ret
      exact ⟨by rw [idxF_none (p := fun r => (r.length : Int) != d) (fun i hi => HN.out i hi (by omega))]; rfl, HB.out⟩
set_option maxHeartbeats 2000000 in
theorem cont119_calls (B : Nat) (d : Int) (A : Option Addr) (c : Nat) (L : List (List S62)) (W : World) (hB : W.cell? ⟨B, 0, none⟩ = some (.int .i64 d)) (hr : Kd.C (Kd.slice 62 k62) W A L.length L) :
    Calls Try.prog 119 #[.slice A L.length c, .func (.func 120) #[] #[.pointer (some ⟨B, 0, none⟩)]] W fun e w' => e = .returned (.bool (L.any fun r => (r.length : Int) != d)) ∧ Below W.heap.size W w' := by
  have hi := idx139_calls B d A c L W hB hr
  have ha := Aside0.mk (idxF_any (fun r => (r.length : Int) != d) L)
  generalize hx : idxF (fun r => (r.length : Int) != d) L = x at *
  have HI := Lib.hid hi
  clear hi hx hr hB
  go_enter Try.func119, Try.ntmps119
  go_wp2_with (go_at_call 139; refine (HI.out).mono ?_; rintro e w' ⟨rfl, hb⟩)
  go_ret
  exact ⟨by rw [← ha.out]; rfl, hb⟩
theorem box_self (w : World) (v : Value) (t : TypeId) : (w.alloc (Obj.cells #[v] t)).cell? ⟨w.heap.size, 0, none⟩ = some v := by
  simp
set_option maxHeartbeats 4000000 in
set_option maxRecDepth 100000 in
theorem xCommon.calls (k : Nat) (A : Option Addr) (c : Nat) (l : List (List S62)) (n most r1 : Int) (r2 : Bool) (w : World) (hr : Kd.C (Kd.slice 62 k62) w A l.length l) (hc : l.length ≤ c) (h : xCommon.f k l n most = some (r1, r2)) :
    Calls Try.prog 97 #[.slice A l.length c, .int .i64 n, .int .i64 most] w fun e w' => e = .returned (.tuple #[.int .i64 r1, .bool r2]) ∧ Below w.heap.size w w' := by
  have hb1 : Below w.heap.size w (w.alloc (.cells #[.int .i64 n] 3)) := (Below.refl _ w).alloc (Nat.le_refl _) _
  have hcont := cont119_calls w.heap.size n A c l _ (box_self w (.int .i64 n) 3) (Kd.C_below hr hb1)
  have hmf : ∀ (fn : Fn) (first cap : Array Value) (w : World), (Instr.makeFunc fn first cap).run Try.prog w = .ok (.func fn first cap) w := fun _ _ _ _ => rfl
  have HR := Aside0.mk hr
  have HB1 := Aside0.mk hb1
  have HC := Aside0.mk hc
  unfold xCommon.f at h
  have hm : l.length ≤ 9223372036854775807 := hr.2.1
  have hlen : (w.alloc (.cells #[.int .i64 n] 3)).cell? ⟨w.heap.size, 0, none⟩ = some (.int .i64 n) := box_self w (.int .i64 n) 3
  clear hr hb1 hc
  by_cases hn : (l.length : Int) = n
  · rw [if_pos hn] at h
    have hd1 : ((l.length : Int) != n) = false := bne_eq_false_iff_eq.mpr hn
    clear hn
    cases ha : (l.any fun r => (r.length : Int) != n) with
    | true =>
      rw [ha, if_pos rfl] at h
      rw [ha] at hcont
      have HCT := Lib.hid hcont
      simp only [Option.some.injEq, Prod.mk.injEq] at h
      obtain ⟨rfl, rfl⟩ := h
      clear hcont ha
      go_enter Try.func97, Try.ntmps97
      go_wp2_with (go_at_call 119; refine (HCT.out).mono ?_; rintro e w' ⟨rfl, hb⟩; have HB2 := Aside0.mk hb; clear hb)
      go_ret2
      exact ⟨rfl, below_step HB1.out HB2.out⟩
    | false =>
      rw [ha, if_neg (by decide)] at h
      rw [ha] at hcont
      have HCT := Lib.hid hcont
      have HM := Aside0.mk (fun (W : World) (hb : Below w.heap.size w W) => shares_mixture_multiple.calls k A c l most r1 r2 W (Kd.C_below HR.out hb) HC.out h)
      clear hcont ha h
      go_enter Try.func97, Try.ntmps97
      go_wp2_with (first | (go_at_call 119; refine (HCT.out).mono ?_; rintro e w' ⟨rfl, hb⟩; have HB2 := Aside0.mk (below_step HB1.out hb); clear hb) | (go_at_call 86; refine (HM.out _ HB2.out).mono ?_; rintro e w3 ⟨rfl, hb⟩; have HB3 := Aside0.mk (below_step HB2.out hb); clear hb))
      go_ret2
      exact ⟨rfl, HB3.out⟩
  · rw [if_neg hn] at h
    have hd1 : ((l.length : Int) != n) = true := bne_iff_ne.mpr hn
    simp only [Option.some.injEq, Prod.mk.injEq] at h
    obtain ⟨rfl, rfl⟩ := h
    clear hn hcont
    go_enter Try.func97, Try.ntmps97
    go_wp2
    go_ret2
    exact ⟨rfl, HB1.out⟩
end Go.Proofs.Ytefmafbbnkkpjaa.X
