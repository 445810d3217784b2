/- The walk of Heavy: what it returns, as a plain function. -/
import Derived.Test.YtdffhffhnjkcpaaE19
namespace Go.Proofs.Ytdffhffhnjkcpaa.X
open Go.RowKit Go.Proofs.YtdffhffhnjkcpaaW.PrintWords Go.Proofs.YtdffhffhnjkcpaaW.PrintLast Go.Proofs.YtdffhffhnjkcpaaW.PrintMore
set_option linter.unusedVariables false
set_option linter.unusedSimpArgs false

def heavyP (a0 : Int) (l : List Int) (key : Nat) : Bool := decide ((l.length : Int) < cnt l key * (a0 + 1))
def heavyU (a0 : Int) (l : List Int) (i : Nat) : List Int := ((List.range i).filter (heavyP a0 l)).map fun key : Nat => (key : Int)
theorem heavyU_len (a0 : Int) (l : List Int) (i : Nat) : (heavyU a0 l i).length ≤ i := by
  unfold heavyU
  rw [List.length_map]
  have := List.length_filter_le (heavyP a0 l) (List.range i)
  rwa [List.length_range] at this
theorem heavyU_succ (a0 : Int) (l : List Int) (i : Nat) : heavyU a0 l (i + 1) = heavyU a0 l i ++ if heavyP a0 l i = true then [(i : Int)] else [] := by
  unfold heavyU
  rw [List.range_succ, List.filter_append, List.map_append]
  by_cases h : heavyP a0 l i = true <;> simp [h]
def xHeavy.f (a0 : Int) (l : List Int) : Option (List Int × Int) := some (if kB a0 = true ∧ streamB l = true then (heavyU a0 l 16, 0) else ([], 2))
theorem mul_small (c a : Int) (h0 : 0 ≤ c) (h1 : c ≤ 40) (a0 : 1 ≤ a) (a1 : a ≤ 8) : wrap64 (c * wrap64 (a + 1)) = c * (a + 1) := by
  rw [w64 (i := a + 1) (by omega) (by omega)]
  have h2 : c * (a + 1) ≤ 40 * (a + 1) := Int.mul_le_mul_of_nonneg_right h1 (by omega)
  have h3 : 0 ≤ c * (a + 1) := Int.mul_nonneg h0 (by omega)
  exact w64 (by omega) (by omega)

set_option maxHeartbeats 4000000 in
set_option maxRecDepth 100000 in
theorem xHeavy.calls (a0 : Int) (A1 : Option Addr) (c1 : Nat) (l1 : List Int) (r1 : List Int) (r2 : Int) (w : World) (hr1 : Kd.C (Kd.int .i64) w A1 l1.length l1) (hc1 : l1.length ≤ c1) (h : xHeavy.f a0 l1 = some (r1, r2)) :
    Calls Try.prog 21 #[.int .i64 a0, .slice A1 l1.length c1] w fun e w' => ∃ v0_ : Value, e = .returned (.tuple #[v0_, .int .i64 r2]) ∧ Kd.R (Kd.int .i64) 3 w' w.heap.size (fun _ => True) v0_ r1 ∧ Below w.heap.size w w' := by
  have hC := fun W hb => isStream_calls A1 c1 l1 W (Kd.C_below hr1 hb) hc1
  have hK := isK_calls a0
  have H := Aside0.mk (Option.some.inj h)
  clear h
  by_cases hy : kB a0 = true
  · rw [hy] at hK
    have HY := Lib.hid hK
    clear hK
    by_cases hs : streamB l1 = true
    · obtain ⟨hl, hk⟩ := (streamB_iff l1).mp hs
      have hO := fun W hb => often_calls A1 c1 l1 W (Kd.C_below hr1 hb) hc1 hl hk
      have H2 : (heavyU a0 l1 16, (0 : Int)) = (r1, r2) := by
        have := H.out
        rwa [if_pos ⟨hy, hs⟩] at this
      obtain ⟨rfl, rfl⟩ := Prod.mk.inj H2
      have hb : 1 ≤ a0 ∧ a0 ≤ 8 := by simpa [kB] using hy
      have HA := Aside0.mk hb
      have HL := Aside0.mk hl
      rw [hs] at hC
      have HC := Lib.hid hC
      have HO := Lib.hid hO
      clear H H2 hb hC hO hs hy hk hr1 hl
      go_enter Try.func21, Try.ntmps21
      go_wp2_with (first | (go_at_call 54; refine (HY.out _).mono ?_; rintro e w' ⟨rfl, ⟨nd, rfl⟩⟩) | (go_at_call 55; refine (HC.out _ (by first | exact Below.refl _ _ | exact pw_below_drewN (Below.refl _ _) _)).mono ?_; rintro e w' ⟨rfl, ⟨nd, rfl⟩⟩) | (go_at_call 59; refine (HO.out _ (by repeat (first | exact Below.refl _ _ | apply pw_below_drewN))).mono ?_; rintro e w1 ⟨rfl, hb⟩))
      have HB := Aside0.mk (show Below w.heap.size w w1 from below_step (by repeat (first | exact Below.refl _ _ | apply pw_below_drewN)) hb)
      clear hb
      go_loopw [6, 19] (fun v6 v19 wr => ∃ i : Nat, i ≤ 16 ∧ v19 = .int .i64 i ∧ Aside0 (Kd.R (Kd.int .i64) 3 wr w.heap.size (fun _ => True) v6 (heavyU a0 l1 i)) ∧ Aside0 (Below w.heap.size w wr)) (fun _ v19 _ => 16 - (intOf v19).toNat)
      case atStart => exact ⟨0, by omega, rfl, ⟨show Kd.R (Kd.int .i64) 3 w1 w.heap.size (fun _ => True) (.slice none 0 0) [] from Kd.R_nil _ _ _ _ _⟩, HB⟩
      case round =>
        clear HB
        obtain ⟨i, hi, rfl, HO_6, HB⟩ := hrel
        by_cases hlt : i < 16
        · have hc := Aside0.mk (cnt_le l1 i)
          have hidx := run_index_cnts l1 (i : Int) (by omega) (by omega)
          rw [Int.toNat_natCast] at hidx
          have hm : wrap64 (cnt l1 i * wrap64 (a0 + 1)) = cnt l1 i * (a0 + 1) := mul_small _ _ hc.out.1 (by have := hc.out.2; have := HL.out; omega) HA.out.1 HA.out.2
          have hsu := Aside0.mk (heavyU_succ a0 l1 i)
          have hln := Aside0.mk (heavyU_len a0 l1 i)
          have hid : decide ((i : Int) < 16) = true := decide_eq_true (by omega)
          by_cases hp : heavyP a0 l1 i = true
          · have hg : (l1.length : Int) < wrap64 (cnt l1 i * wrap64 (a0 + 1)) := by
              rw [hm]
              simpa [heavyP] using hp
            have hsu2 := Aside0.mk (show heavyU a0 l1 (i + 1) = heavyU a0 l1 i ++ [(i : Int)] by rw [hsu.out, if_pos hp])
            have hgd : decide ((l1.length : Int) < wrap64 (cnt l1 i * wrap64 (a0 + 1))) = true := decide_eq_true hg
            clear hg hm hsu hc hp
            generalize cnt l1 i = cc at *
            generalize heavyU a0 l1 i = out at *
            go_wp2_with ((with_reducible refine gate_builtin (b := .append) (xs := #[.tmp 30, .tmp 32]) rfl ?_); at_builtin; refine Kd.R_append (Kd.int .i64) (w0 := w) w.heap.size rfl (.tmp 30) (.tmp 32) 23 3 (.int .i64 0) 8 rfl Try.underlying23 info3 rfl (by decide) (by omega) u6 out (i : Int) [.int .i64 (i : Int)] (fun _ => True) (fun _ => False) rfl rfl ?aP (fun _ hk => hk.elim) ?aF ?aO ?aB ?aS ?aL ?_; (case aP => exact rfl); (case aB => exact (by repeat (first | (with_reducible first | exact HB.out | apply below_alloc | apply pw_below_drewN | apply below_drew1) | exact HB.out))); (case aF => exact (fun _ _ => trivial)); (case aO => exact (by (with_reducible repeat (first | apply Kd.R_alloc | apply Kd.R_drewN | apply Kd.R_drew)); exact HO_6.out)); (case aS => exact (below_size (by repeat (first | (with_reducible first | exact HB.out | apply below_alloc | apply pw_below_drewN | apply below_drew1) | exact HB.out)))); (case aL => have := hln.out; omega); intro v158 w7 ho hb hg hat; rw [← hsu2.out] at ho; have n0_ := Aside0.mk (hb); have n1_ := Aside0.mk (ho); clear HB; clear HO_6; have HB := n0_; have HO159 := n1_; clear n0_ n1_; clear ho hb hg hat)
            go_roundw
            case rel => exact ⟨i + 1, by omega, by go_num, HO159, HB⟩
            case measure => simp [intOf]; omega
          · have hg : ¬ (l1.length : Int) < wrap64 (cnt l1 i * wrap64 (a0 + 1)) := by
              rw [hm]
              simpa [heavyP] using hp
            have hsu2 := Aside0.mk (show heavyU a0 l1 (i + 1) = heavyU a0 l1 i by rw [hsu.out, if_neg hp, List.append_nil])
            have hgd : decide ((l1.length : Int) < wrap64 (cnt l1 i * wrap64 (a0 + 1))) = false := decide_eq_false hg
            clear hg hm hsu hc hp
            generalize cnt l1 i = cc at *
            go_wp2
            go_roundw
            case rel => exact ⟨i + 1, by omega, by go_num, ⟨by rw [hsu2.out]; exact HO_6.out⟩, HB⟩
            case measure => simp [intOf]; omega
        · have hid : decide ((i : Int) < 16) = false := decide_eq_false (by omega)
          obtain rfl : i = 16 := by omega
          clear hlt hi
          go_wp2
          go_ret2
          exact ⟨_, rfl, HO_6.out, HB.out⟩
    · have hsf : streamB l1 = false := by simpa using hs
      have H2 : (([] : List Int), (2 : Int)) = (r1, r2) := by
        have := H.out
        rwa [if_neg (fun h => hs h.2)] at this
      obtain ⟨rfl, rfl⟩ := Prod.mk.inj H2
      rw [hsf] at hC
      have HC := Lib.hid hC
      clear H H2 hs hC hsf hr1 hy
      go_enter Try.func21, Try.ntmps21
      go_wp2_with (first | (go_at_call 54; refine (HY.out _).mono ?_; rintro e w' ⟨rfl, ⟨nd, rfl⟩⟩) | (go_at_call 55; refine (HC.out _ (by first | exact Below.refl _ _ | exact pw_below_drewN (Below.refl _ _) _)).mono ?_; rintro e w' ⟨rfl, ⟨nd, rfl⟩⟩))
      go_ret2
      exact ⟨_, rfl, Kd.R_nil _ _ _ _ _, by repeat (first | exact Below.refl _ _ | apply pw_below_drewN)⟩
  · have hyf : kB a0 = false := by simpa using hy
    rw [hyf] at hK
    have HY := Lib.hid hK
    have H2 : (([] : List Int), (2 : Int)) = (r1, r2) := by
      have := H.out
      rwa [if_neg (fun h => hy h.1)] at this
    obtain ⟨rfl, rfl⟩ := Prod.mk.inj H2
    clear H H2 hC hK hy hyf hr1
    go_enter Try.func21, Try.ntmps21
    go_wp2_with (first | (go_at_call 54; refine (HY.out _).mono ?_; rintro e w' ⟨rfl, ⟨nd, rfl⟩⟩))
    go_ret2
    exact ⟨_, rfl, Kd.R_nil _ _ _ _ _, by repeat (first | exact Below.refl _ _ | apply pw_below_drewN)⟩
end Go.Proofs.Ytdffhffhnjkcpaa.X
