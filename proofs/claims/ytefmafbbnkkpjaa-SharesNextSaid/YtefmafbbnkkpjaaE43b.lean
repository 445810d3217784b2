/- Below, whole: the parts next below, or the documented error. -/
import Derived.Test.YtefmafbbnkkpjaaSX
namespace Go.Proofs.Ytefmafbbnkkpjaa.X
open Go.Proofs.Ytefmafbbnkkpjaa.Pure Go.RowKit Go.Shelf Go.Proofs.YtefmafbbnkkpjaaW.PrintWords Go.Proofs.YtefmafbbnkkpjaaW.PrintLast Go.Proofs.YtefmafbbnkkpjaaW.PrintMore
set_option linter.unusedVariables false
set_option linter.unusedSimpArgs false

def xBelow.f (l : List Int) : Option (List (List Int) × Int) := if l.length ≤ 15 then some (if paB l = true then (belowU l, 0) else ([], 2)) else none
set_option maxHeartbeats 4000000 in
set_option maxRecDepth 100000 in
theorem xBelow.calls (A : Option Addr) (c : Nat) (l : List Int) (r1 : List (List Int)) (r2 : Int) (w : World) (hr : Kd.C (Kd.int .i64) w A l.length l) (hc : l.length ≤ c) (h : xBelow.f l = some (r1, r2)) :
    Calls Try.prog 43 #[.slice A l.length c] w fun e w' => ∃ v, e = .returned (.tuple #[v, .int .i64 r2]) ∧ Kd.R (Kd.slice 3 (Kd.int .i64)) 22 w' w.heap.size (fun _ => True) v r1 ∧ Below w.heap.size w w' := by
  unfold xBelow.f at h
  by_cases h15 : l.length ≤ 15
  · rw [if_pos h15] at h
    have hip := isP_one l h15 2000 (by omega)
    by_cases hp : paB l = true
    · rw [if_pos hp] at h
      obtain ⟨rfl, rfl⟩ := Prod.mk.inj (Option.some.inj h)
      have hPa := (paB_iff l).mp hp
      rw [dc_true hPa] at hip
      have hck := chk_of hPa
      simp only [chkB, Bool.and_eq_true, decide_eq_true_eq, List.all_eq_true] at hck
      obtain ⟨⟨⟨k1, k2⟩, k3⟩, k4⟩ := hck
      have kp : ∀ b, b ∈ lowU l → Pa b := fun b hb => (paB_iff b).mp (k2 b hb).1
      exact below_calls 2000 A c l pB (belowU l) w hPa.len (fun x hx => ⟨hPa.pos x hx, hPa.le x hx⟩) hr hc hip k1 (fun b hb d hd => between_f (kp b hb) (kp d hd) 2000 (by omega)) (fun b hb => by have := (kp b hb).len; omega) k3 (List.reverse_perm _).symm (strict_pw k4)
    · rw [if_neg hp] at h
      obtain ⟨rfl, rfl⟩ := Prod.mk.inj (Option.some.inj h)
      rw [dc_false (fun hPa => hp ((paB_iff l).mpr hPa))] at hip
      have HIP := Aside0.mk (fun (W : World) (b : Nat) (hb : Below w.heap.size w W) (hblk : W.heap[b]? = some (.cells #[.slice A l.length c] 22 (0, 0))) => show Calls Try.prog 67 #[.slice (some ⟨b, 0, none⟩) 1 1] W fun e w' => e = .returned (.bool false) ∧ Below W.heap.size W w' from shares_isParts.calls 2000 (some ⟨b, 0, none⟩) 1 [l] false W (C_one hblk (Kd.C_below hr hb) hc) (Nat.le_refl _) hip)
      clear hr hip hp h
      go_enter Try.func43, Try.ntmps43
      go_wp2_with (first | ((with_reducible refine gate_dst (N := 10) rfl ?_); refine slice_event ?hg28 (N := 10) ?hd28 (cs := #[.slice A l.length c]) (t := 22) (n := 1) ?hr28 ?_; (case hd28 => rfl); (case hg28 => rfl); (case hr28 => first | (go_simp; done) | (go_simp; rfl)); intro gc hgc w1 hblk hb; have HBK := Aside0.mk hblk; have HB1 := Aside0.mk hb; clear hblk hb hgc) | (go_at_call 67; (with_reducible refine (HIP.out _ _ HB1.out HBK.out).mono ?_); rintro e w2 ⟨rfl, hb⟩; have HB2 := Aside0.mk (below_step HB1.out hb); clear hb))
      go_ret2
      exact ⟨_, rfl, Kd.R_nil _ _ _ _ _, HB2.out⟩
  · rw [if_neg h15] at h
    cases h
end Go.Proofs.Ytefmafbbnkkpjaa.X
