/- The walk of isPicture: slices.ContainsFunc and IndexFunc at numbers, with the closure that asks whether a number is no set. -/
import Derived.Test.YtkieehjpnjplmaaDoorX0
import Derived.Test.YtkieehjpnjplmaaDoorXG1a
import Derived.Test.YtkieehjpnjplmaaDoorXG2a
import Derived.Lib.Hide
namespace Go.Proofs.YtkieehjpnjplmaaDoor.X
open Go.RowKit Go.Proofs.YtkieehjpnjplmaaDoorW.PrintWords Go.Proofs.YtkieehjpnjplmaaDoorW.PrintLast Go.Proofs.YtkieehjpnjplmaaDoorW.PrintMore
set_option linter.unusedVariables false
set_option linter.unusedSimpArgs false

def idxI (p : Int → Bool) (l : List Int) : Int := match l.findIdx? p with
  | some i => (i : Nat)
  | none => -1
theorem idxI_none {p : Int → Bool} {l : List Int} (h : ∀ i (hi : i < l.length), p l[i] = false) : idxI p l = -1 := by
  unfold idxI
  have : l.findIdx? p = none := by
    rw [List.findIdx?_eq_none_iff]
    intro x hx
    obtain ⟨i, hi, rfl⟩ := List.getElem_of_mem hx
    exact h i hi
  rw [this]
theorem idxI_some {p : Int → Bool} {l : List Int} {i : Nat} (hi : i < l.length) (h : p l[i] = true) (hj : ∀ j (hj : j < i), p (l[j]'(by omega)) = false) : idxI p l = (i : Int) := by
  unfold idxI
  have : l.findIdx? p = some i := by
    rw [List.findIdx?_eq_some_iff_getElem]
    exact ⟨hi, h, fun j hji => by simp [hj j hji]⟩
  rw [this]
theorem idxI_any (p : Int → Bool) (l : List Int) : decide (idxI p l ≥ 0) = l.any p := by
  unfold idxI
  cases h : l.findIdx? p with
  | none =>
    rw [List.findIdx?_eq_none_iff] at h
    have : l.any p = false := by rw [List.any_eq_false]; intro x hx; simp [h x hx]
    rw [this]; rfl
  | some i =>
    rw [List.findIdx?_eq_some_iff_getElem] at h
    obtain ⟨hi, hp, _⟩ := h
    have : l.any p = true := List.any_eq_true.mpr ⟨_, List.getElem_mem hi, hp⟩
    rw [this]
    exact decide_eq_true (by show (0 : Int) ≤ (i : Nat); omega)
theorem rdI_at (l : List Int) (i : Nat) (h : i < l.length) : rd l (i : Int) = l[i] := by
  simp [rd, List.getD_eq_getElem?_getD, List.getElem?_eq_getElem h]

def sizeB (d : Int) : Bool := decide (1 ≤ d ∧ d ≤ 5)
def setB (d x : Int) : Bool := sizeB d && decide (0 ≤ x ∧ x < shl .i64 1 d)
theorem size_f (d : Int) : squares_isSize.f d = some (sizeB d) := by
  unfold squares_isSize.f sizeB
  by_cases h : d ≥ 1
  · rw [if_pos h]
    have : decide (1 ≤ d ∧ d ≤ 5) = decide (d ≤ 5) := by rw [decide_eq_decide]; omega
    rw [this]
  · rw [if_neg h]
    have : decide (1 ≤ d ∧ d ≤ 5) = false := decide_eq_false (by omega)
    rw [this]
theorem set_f (d x : Int) : squares_isSet.f d x = some (setB d x) := by
  unfold squares_isSet.f
  rw [size_f, Option.bind_some]
  by_cases h : sizeB d = true
  · have hd := of_decide_eq_true h
    rw [if_pos h]
    unfold setB
    rw [h, Bool.true_and]
    by_cases h0 : x ≥ 0
    · rw [if_pos h0, if_pos (by omega)]
      have : decide (0 ≤ x ∧ x < shl .i64 1 d) = decide (x < shl .i64 1 d) := by rw [decide_eq_decide]; exact ⟨fun h => h.2, fun h => ⟨h0, h⟩⟩
      rw [this]
    · rw [if_neg h0]
      have : decide (0 ≤ x ∧ x < shl .i64 1 d) = false := decide_eq_false (fun h => h0 h.1)
      rw [this]
  · rw [if_neg h]
    unfold setB
    have h2 : sizeB d = false := by simpa using h
    rw [h2, Bool.false_and]
def xIsPicture.f (d : Int) (l : List Int) : Option Bool := some (sizeB l.length && sizeB d && !(l.any fun x => !setB d x))
set_option maxHeartbeats 1000000 in
theorem set29_calls (x d : Int) (B : Nat) (w : World) (h : w.cell? ⟨B, 0, none⟩ = some (.int .i64 d)) :
    Calls Tryd.prog 29 #[.int .i64 x, .pointer (some ⟨B, 0, none⟩)] w fun e w' => e = .returned (.bool (!setB d x)) ∧ Below w.heap.size w w' := by
  have hs : ∀ W, Calls Tryd.prog 30 #[.int .i64 d, .int .i64 x] W fun e w' => e = .returned (.bool (setB d x)) ∧ Drawn0 W w' := fun W => squares_isSet.calls d x _ W (set_f d x)
  generalize setB d x = q at *
  have HS := Lib.hid hs
  clear hs
  go_enter Tryd.func29, Tryd.ntmps29
  go_wp2_with (go_at_call 30; refine (HS.out _).mono ?_; rintro e w' ⟨rfl, nn, rfl⟩)
  go_ret
  exact ⟨rfl, by repeat (first | exact Below.refl _ _ | apply pw_below_drewN | apply below_drew1)⟩
set_option maxHeartbeats 4000000 in
set_option maxRecDepth 100000 in
theorem idx46_calls (B : Nat) (d : Int) (A : Option Addr) (c : Nat) (L : List Int) (W : World) (hB : W.cell? ⟨B, 0, none⟩ = some (.int .i64 d)) (hr : Kd.C (Kd.int .i64) W A L.length L) :
    Calls Tryd.prog 46 #[.slice A L.length c, .func (.func 29) #[] #[.pointer (some ⟨B, 0, none⟩)]] W fun e w' => e = .returned (.int .i64 (idxI (fun x => !setB d x) L)) ∧ Below W.heap.size W w' := by
  have HR := Aside0.mk hr
  have HP := Aside0.mk (fun (x : Int) (W' : World) (hb : Below W.heap.size W W') => set29_calls x d B W' (pw_cell_below hb hB))
  have hm : L.length ≤ 9223372036854775807 := hr.2.1
  clear hr hB
  go_enter Tryd.func46, Tryd.ntmps46
  go_wp2
  go_loopw [8] (fun v8 wr => ∃ j : Nat, j ≤ L.length ∧ v8 = .int .i64 j ∧ Aside0 (∀ i (hi : i < L.length), i < j → (!setB d L[i]) = false) ∧ Aside0 (Below W.heap.size W wr)) (fun v8 _ => L.length - (intOf v8).toNat)
  case atStart => exact ⟨0, Nat.zero_le _, rfl, ⟨fun i _ h => absurd h (Nat.not_lt_zero _)⟩, ⟨Below.refl _ _⟩⟩
  case round =>
    obtain ⟨j, hj, rfl, HN, HB⟩ := hrel
    by_cases hlt : j < L.length
    · obtain ⟨ad, e, hx0⟩ := Kd.at_int (Kd.C_below HR.out HB.out) (j : Int) (by omega) (by omega)
      subst e
      rw [Int.toNat_natCast] at hx0
      rw [rdI_at L j hlt] at hx0
      have hcall := HP.out L[j] wr HB.out
      have hkd : decide ((j : Int) < (L.length : Int)) = true := decide_eq_true (by omega)
      have hkd2 : decide (j < L.length) = true := decide_eq_true hlt
      cases hpq : (!setB d L[j]) with
      | true =>
        rw [hpq] at hcall
        have HPQ := Aside0.mk hpq
        clear hpq
        generalize hq : L[j] = q at *
        have HQ := Aside0.mk hq
        clear hq
        have HC := Lib.hid hcall
        clear hcall
        go_wp2_with (go_at_call 29; refine (HC.out).mono ?_; rintro e w' ⟨rfl, hb⟩; have HB2 := Aside0.mk (below_step HB.out hb); clear hb)
        go_ret
        have h1 : (!setB d L[j]) = true := by rw [HQ.out]; exact HPQ.out
        exact ⟨by rw [idxI_some (p := fun x => !setB d x) hlt h1 (fun i hi => HN.out i (by omega) hi)]; rfl, HB2.out⟩
      | false =>
        rw [hpq] at hcall
        have HPQ := Aside0.mk hpq
        clear hpq
        generalize hq : L[j] = q at *
        have HQ := Aside0.mk hq
        clear hq
        have HC := Lib.hid hcall
        clear hcall
        go_wp2_with (go_at_call 29; refine (HC.out).mono ?_; rintro e w' ⟨rfl, hb⟩; have HB2 := Aside0.mk (below_step HB.out hb); clear hb)
        go_roundw
        case rel =>
          refine ⟨j + 1, by omega, by go_num, ⟨fun i hi h => ?_⟩, HB2⟩
          by_cases e : i = j
          · subst e
            rw [HQ.out]; exact HPQ.out
          · exact HN.out i hi (by omega)
        case measure => simp [intOf]; omega
    · have hkd : decide ((j : Int) < (L.length : Int)) = false := decide_eq_false (by omega)
      have hkd2 : decide (j < L.length) = false := decide_eq_false hlt
      go_wp2
      go_ret
      exact ⟨by rw [idxI_none (p := fun x => !setB d x) (fun i hi => HN.out i hi (by omega))]; rfl, HB.out⟩
set_option maxHeartbeats 2000000 in
theorem any28_calls (B : Nat) (A : Option Addr) (c : Nat) (L : List Int) (d : Int) (W : World) (hB : W.cell? ⟨B, 0, none⟩ = some (.int .i64 d)) (hr : Kd.C (Kd.int .i64) W A L.length L) :
    Calls Tryd.prog 28 #[.slice A L.length c, .func (.func 29) #[] #[.pointer (some ⟨B, 0, none⟩)]] W fun e w' => e = .returned (.bool (L.any fun x => !setB d x)) ∧ Below W.heap.size W w' := by
  have hi := idx46_calls B d A c L W hB hr
  have ha := Aside0.mk (idxI_any (fun x => !setB d x) L)
  generalize (L.any fun x => !setB d x) = r at *
  generalize hx : idxI (fun x => !setB d x) L = x at *
  have HI := Lib.hid hi
  clear hi hx hr hB
  go_enter Tryd.func28, Tryd.ntmps28
  go_wp2_with (go_at_call 46; refine (HI.out).mono ?_; rintro e w' ⟨rfl, hb⟩)
  go_ret
  exact ⟨by rw [← ha.out]; rfl, hb⟩
set_option maxHeartbeats 4000000 in
set_option maxRecDepth 100000 in
theorem xIsPicture.calls (a0 : Int) (A1 : Option Addr) (c1 : Nat) (l1 : List Int) (r : Bool) (w : World) (hr1 : Kd.C (Kd.int .i64) w A1 l1.length l1) (hc1 : l1.length ≤ c1) (h : xIsPicture.f a0 l1 = some r) :
    Calls Tryd.prog 12 #[.int .i64 a0, .slice A1 l1.length c1] w fun e w' => e = .returned (.bool r) ∧ Below w.heap.size w w' := by
  obtain rfl := Option.some.inj h
  clear h
  have HR := Aside0.mk hr1
  have hl : l1.length ≤ 9223372036854775807 := hr1.2.1
  have h1 : ∀ W, Calls Tryd.prog 27 #[.int .i64 (l1.length : Int)] W fun e w' => e = .returned (.bool (sizeB l1.length)) ∧ Drawn0 W w' := fun W => squares_isSize.calls _ _ W (size_f _)
  have h2 : ∀ W, Calls Tryd.prog 27 #[.int .i64 a0] W fun e w' => e = .returned (.bool (sizeB a0)) ∧ Drawn0 W w' := fun W => squares_isSize.calls _ _ W (size_f _)
  have HA := Aside0.mk (fun (B : Nat) (W : World) (hb : Below w.heap.size w W) (hB : W.cell? ⟨B, 0, none⟩ = some (.int .i64 a0)) => any28_calls B A1 c1 l1 a0 W hB (Kd.C_below HR.out hb))
  have HB0 := Aside0.mk (Below.refl w.heap.size w)
  generalize (l1.any fun x => !setB a0 x) = q at *
  generalize sizeB l1.length = p1 at *
  generalize sizeB a0 = p2 at *
  have H1 := Lib.hid h1
  have H2 := Lib.hid h2
  clear h1 h2 hr1
  cases p1
  · go_enter Tryd.func12, Tryd.ntmps12
    go_wp2_with (go_at_call 27; refine (H1.out _).mono ?_; rintro e w' ⟨rfl, nn, rfl⟩)
    go_ret
    exact ⟨rfl, by repeat (first | exact Below.refl _ _ | apply below_alloc | apply pw_below_drewN | apply below_drew1)⟩
  · cases p2
    · go_enter Tryd.func12, Tryd.ntmps12
      go_wp2_with (first | (go_at_call 27; refine (H1.out _).mono ?_; rintro e w' ⟨rfl, nn, rfl⟩) | (go_at_call 27; refine (H2.out _).mono ?_; rintro e w' ⟨rfl, nn, rfl⟩))
      go_ret
      exact ⟨rfl, by repeat (first | exact Below.refl _ _ | apply below_alloc | apply pw_below_drewN | apply below_drew1)⟩
    · have HB := ak (Below.refl w.heap.size w)
      go_enter Tryd.func12, Tryd.ntmps12
      go_wp2_with (first | ((with_reducible refine gate_dst (N := 2) rfl ?_); refine bE 2 #[.int .i64 a0] 3 ?_; intro gb hg w6 hbox hb; have BK := ak (hbox); replace HB := kH _ hb; clear hb hg; have hcz0 : w6.cell? ⟨gb, 0, none⟩ = some (.int .i64 a0) := bc BK 0) | (go_at_call 27; refine (H1.out _).mono ?_; rintro e w' ⟨rfl, nn, rfl⟩) | (go_at_call 27; refine (H2.out _).mono ?_; rintro e w' ⟨rfl, nn, rfl⟩) | (go_at_call 28; refine (HA.out gb _ (hbC _) ((blk_cell (bkC BK) 0).trans rfl)).mono ?_; rintro e w' ⟨rfl, hb⟩; replace HB := kH _ hb; clear hb))
      go_ret
      exact ⟨rfl, hbC _⟩
end Go.Proofs.YtkieehjpnjplmaaDoor.X
