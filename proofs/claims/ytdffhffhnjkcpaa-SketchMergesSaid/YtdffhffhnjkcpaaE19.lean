/- The walks of Often and Heavy: what they return, as plain functions. -/
import Derived.Test.YtdffhffhnjkcpaaS1
import Derived.Test.YtdffhffhnjkcpaaE59
import Derived.Lib.Hide
namespace Go.Proofs.Ytdffhffhnjkcpaa.X
open Go.RowKit Go.Proofs.YtdffhffhnjkcpaaW.PrintWords Go.Proofs.YtdffhffhnjkcpaaW.PrintLast Go.Proofs.YtdffhffhnjkcpaaW.PrintMore
set_option linter.unusedVariables false
set_option linter.unusedSimpArgs false

theorem run_index_cnts (l : List Int) (i : Int) (h0 : 0 ≤ i) (h1 : i < 16) (W : World) :
    (Instr.index 77 (.agg (cnts l).toArray) (.int .i64 i)).run Try.prog W = .ok (.int .i64 (cnt l i.toNat)) W := by
  have hn : 0 ≤ i ∧ i < ((16 : Nat) : Int) := ⟨h0, by omega⟩
  have hc := cnts_at l i.toNat (by omega)
  have hs : (cnts l)[i.toNat]? = some (.int .i64 (cnt l i.toNat)) := by simpa using hc
  simp [Instr.index, run_underlying Try.underlying77, asIntOf, hn, hs, go_sem, h0, h1]

def xOften.f (l : List Int) (key : Int) : Option (Int × Int) := some (if streamB l = true ∧ keyB key = true then (cnt l key.toNat, 0) else (0, 2))

theorem xOften.calls (A0 : Option Addr) (c0 : Nat) (l0 : List Int) (a1 : Int) (r1 : Int) (r2 : Int) (w : World) (hr0 : Kd.C (Kd.int .i64) w A0 l0.length l0) (hc0 : l0.length ≤ c0) (h : xOften.f l0 a1 = some (r1, r2)) :
    Calls Try.prog 19 #[.slice A0 l0.length c0, .int .i64 a1] w fun e w' => e = .returned (.tuple #[.int .i64 r1, .int .i64 r2]) ∧ Below w.heap.size w w' := by
  have hC := fun W hb => isStream_calls A0 c0 l0 W (Kd.C_below hr0 hb) hc0
  have H := Aside0.mk (Option.some.inj h)
  clear h
  by_cases hs : streamB l0 = true
  · obtain ⟨hl, hk⟩ := (streamB_iff l0).mp hs
    have hO := fun W hb => often_calls A0 c0 l0 W (Kd.C_below hr0 hb) hc0 hl hk
    have HR := Aside0.mk hr0
    clear hr0
    by_cases hy : keyB a1 = true
    · have H2 : (cnt l0 a1.toNat, (0 : Int)) = (r1, r2) := by
        have := H.out
        rwa [if_pos ⟨hs, hy⟩] at this
      obtain ⟨rfl, rfl⟩ := Prod.mk.inj H2
      clear H H2
      have hb : 0 ≤ a1 ∧ a1 < 16 := by simpa [keyB] using hy
      obtain ⟨hb0, hb1⟩ := hb
      rw [hs] at hC
      have hK := isKey_calls a1
      rw [hy] at hK
      have HC := Lib.hid hC
      have HO := Lib.hid hO
      have HY := Lib.hid hK
      have hidx := run_index_cnts l0 a1 hb0 hb1
      clear hC hO hK hs hy hk
      go_enter Try.func19, Try.ntmps19
      go_wp2_with (first | (go_at_call 55; refine (HC.out _ (by first | exact Below.refl _ _ | exact pw_below_drewN (Below.refl _ _) _)).mono ?_; rintro e w' ⟨rfl, ⟨nd, rfl⟩⟩) | (go_at_call 58; refine (HY.out _).mono ?_; rintro e w' ⟨rfl, ⟨nd, rfl⟩⟩) | (go_at_call 59; refine (HO.out _ (by repeat (first | exact Below.refl _ _ | apply pw_below_drewN))).mono ?_; rintro e w' ⟨rfl, hb⟩))
      go_ret2
      exact ⟨rfl, below_step (by repeat (first | exact Below.refl _ _ | apply pw_below_drewN)) hb⟩
    · have hyf : keyB a1 = false := by simpa using hy
      have H2 : ((0 : Int), (2 : Int)) = (r1, r2) := by
        have := H.out
        rwa [if_neg (fun h => hy h.2)] at this
      obtain ⟨rfl, rfl⟩ := Prod.mk.inj H2
      clear H H2 hy hO
      rw [hs] at hC
      have hK := isKey_calls a1
      rw [hyf] at hK
      have HC := Lib.hid hC
      have HY := Lib.hid hK
      clear hC hK hs hyf hk
      go_enter Try.func19, Try.ntmps19
      go_wp2_with (first | (go_at_call 55; refine (HC.out _ (by first | exact Below.refl _ _ | exact pw_below_drewN (Below.refl _ _) _)).mono ?_; rintro e w' ⟨rfl, ⟨nd, rfl⟩⟩) | (go_at_call 58; refine (HY.out _).mono ?_; rintro e w' ⟨rfl, ⟨nd, rfl⟩⟩))
      go_ret2
      exact ⟨rfl, by repeat (first | exact Below.refl _ _ | apply pw_below_drewN)⟩
  · have hsf : streamB l0 = false := by simpa using hs
    have H2 : ((0 : Int), (2 : Int)) = (r1, r2) := by
      have := H.out
      rwa [if_neg (fun h => hs h.1)] at this
    obtain ⟨rfl, rfl⟩ := Prod.mk.inj H2
    rw [hsf] at hC
    have HC := Lib.hid hC
    clear H H2 hs hC hsf hr0
    go_enter Try.func19, Try.ntmps19
    go_wp2_with (first | (go_at_call 55; refine (HC.out _ (by first | exact Below.refl _ _ | exact pw_below_drewN (Below.refl _ _) _)).mono ?_; rintro e w' ⟨rfl, ⟨nd, rfl⟩⟩))
    go_ret2
    exact ⟨rfl, by repeat (first | exact Below.refl _ _ | apply pw_below_drewN)⟩
end Go.Proofs.Ytdffhffhnjkcpaa.X
