/- The walk of Short: the short list of a stream, as a plain function. -/
import Derived.Test.YtdffhffhnjkcpaaE70
import Derived.Test.YtdffhffhnjkcpaaS1
namespace Go.Proofs.Ytdffhffhnjkcpaa.X
open Go.RowKit Go.Shelf Go.Proofs.YtdffhffhnjkcpaaW.PrintWords Go.Proofs.YtdffhffhnjkcpaaW.PrintLast Go.Proofs.YtdffhffhnjkcpaaW.PrintMore
set_option linter.unusedVariables false
set_option linter.unusedSimpArgs false

def xShort.f (a0 : Int) (l : List Int) : Option (List S70 × Int) := some (if kB a0 = true ∧ streamB l = true then (risen (foldS a0 l), 0) else ([], 2))
theorem foldS_G (k : Int) (s : List Int) : foldG k (fun l _ => lessen l) s = foldS k s := rfl
theorem short_rinv {k : Int} {s : List Int} (hk1 : 1 ≤ k) (hs : s.length ≤ 40) (hx : ∀ x ∈ s, 0 ≤ x ∧ x < 16) (j : Nat) : RInv k (foldG k (fun l _ => lessen l) (s.take j)) := by
  rw [foldS_G]
  obtain ⟨D, h⟩ := foldS_inv hk1 (s.take j)
  have hl : (s.take j).length ≤ 40 := by rw [List.length_take]; omega
  refine ⟨h.nd, fun c hc => ?_, h.len, fun c hc => ?_⟩
  · have := h.small hk1 c hc; omega
  · exact hx _ (List.mem_of_mem_take (h.pos c hc).2.2)

set_option maxHeartbeats 4000000 in
set_option maxRecDepth 100000 in
theorem xShort.calls (a0 : Int) (A1 : Option Addr) (c1 : Nat) (l1 : List Int) (r1 : List S70) (r2 : Int) (w : World) (hr1 : Kd.C (Kd.int .i64) w A1 l1.length l1) (hc1 : l1.length ≤ c1) (h : xShort.f a0 l1 = some (r1, r2)) :
    Calls Try.prog 49 #[.int .i64 a0, .slice A1 l1.length c1] w fun e w' => ∃ v0_ : Value, e = .returned (.tuple #[v0_, .int .i64 r2]) ∧ Kd.R k70 70 w' w.heap.size (fun _ => True) v0_ r1 ∧ Below w.heap.size w w' := by
  have hC := fun W hb => isStream_calls A1 c1 l1 W (Kd.C_below hr1 hb) hc1
  have hK := isK_calls a0
  have H := Aside0.mk (Option.some.inj h)
  clear h
  by_cases hy : kB a0 = true
  · rw [hy] at hK
    have HY := Lib.hid hK
    clear hK
    by_cases hs : streamB l1 = true
    · obtain ⟨hl, hk⟩ := (streamB_iff l1).mp hs
      have H2 : (risen (foldS a0 l1), (0 : Int)) = (r1, r2) := by
        have := H.out
        rwa [if_pos ⟨hy, hs⟩] at this
      obtain ⟨rfl, rfl⟩ := Prod.mk.inj H2
      have hb : 1 ≤ a0 ∧ a0 ≤ 8 := by simpa [kB] using hy
      have HRD := Aside0.mk (fun (W : World) (G : Nat) (hG : w.heap.size ≤ G) (hL : W.heap[G]? = some (.cells #[.int .i64 a0, .func (.func 71) #[] #[], .slice none 0 0] 91 (0, 0))) (hB : Below w.heap.size w W) => read_calls 71 (fun l _ => lessen l) w W G a0 A1 c1 l1 hb.1 hb.2 hl (fun a w => enters_of Try.func71 (by kernel_rfl) rfl a w) (fun j _ => short_rinv hb.1 hl hk j) hr1
        (fun wr v l x hlk hri hx hL hB hO => lessen_calls w wr G _ _ v x l (by omega) hri.sm hL hB hO hG) hL hB hG)
      rw [hs] at hC
      have HC := Lib.hid hC
      clear H H2 hb hC hs hy hk hr1 hl
      go_enter Try.func49, Try.ntmps49
      go_wp2_with (first | (go_at_call 54; refine (HY.out _).mono ?_; rintro e w' ⟨rfl, ⟨nd, rfl⟩⟩) | (go_at_call 55; refine (HC.out _ (by first | exact Below.refl _ _ | exact pw_below_drewN (Below.refl _ _) _)).mono ?_; rintro e w' ⟨rfl, ⟨nd, rfl⟩⟩) | ((with_reducible refine gate_dst (N := 16) rfl ?_); refine box_event ?hg (N := 16) ?hd (cs := #[.int .i64 a0, .func (.func 71) #[] #[], .slice none 0 0]) (t := 91) ?hr ?_; (case hd => rfl); (case hg => rfl); (case hr => first | (go_simp; done) | (go_simp; rfl)); intro gb hgb w1 hbox hb; have HBX := Aside0.mk hbox; have HB1 := Aside0.mk (show Below w.heap.size w w1 from below_step (by repeat (first | exact Below.refl _ _ | apply pw_below_drewN)) hb); have HGB := Aside0.mk (show w.heap.size ≤ gb from Nat.le_of_eq hgb.symm); clear hbox hb hgb) | (go_at_call 70; refine (HRD.out _ _ HGB.out HBX.out HB1.out).mono ?_; rintro e w4 ⟨v4, rfl, ho4, hb4⟩))
      go_ret2
      exact ⟨v4, rfl, ho4, hb4⟩
    · have hsf : streamB l1 = false := by simpa using hs
      have H2 : (([] : List S70), (2 : Int)) = (r1, r2) := by
        have := H.out
        rwa [if_neg (fun h => hs h.2)] at this
      obtain ⟨rfl, rfl⟩ := Prod.mk.inj H2
      rw [hsf] at hC
      have HC := Lib.hid hC
      clear H H2 hs hC hsf hr1 hy
      go_enter Try.func49, Try.ntmps49
      go_wp2_with (first | (go_at_call 54; refine (HY.out _).mono ?_; rintro e w' ⟨rfl, ⟨nd, rfl⟩⟩) | (go_at_call 55; refine (HC.out _ (by first | exact Below.refl _ _ | exact pw_below_drewN (Below.refl _ _) _)).mono ?_; rintro e w' ⟨rfl, ⟨nd, rfl⟩⟩))
      go_ret2
      exact ⟨_, rfl, Kd.R_nil _ _ _ _ _, by repeat (first | exact Below.refl _ _ | apply pw_below_drewN)⟩
  · have hyf : kB a0 = false := by simpa using hy
    rw [hyf] at hK
    have HY := Lib.hid hK
    have H2 : (([] : List S70), (2 : Int)) = (r1, r2) := by
      have := H.out
      rwa [if_neg (fun h => hy h.1)] at this
    obtain ⟨rfl, rfl⟩ := Prod.mk.inj H2
    clear H H2 hC hK hy hyf hr1
    go_enter Try.func49, Try.ntmps49
    go_wp2_with (first | (go_at_call 54; refine (HY.out _).mono ?_; rintro e w' ⟨rfl, ⟨nd, rfl⟩⟩))
    go_ret2
    exact ⟨_, rfl, Kd.R_nil _ _ _ _ _, by repeat (first | exact Below.refl _ _ | apply pw_below_drewN)⟩
end Go.Proofs.Ytdffhffhnjkcpaa.X
