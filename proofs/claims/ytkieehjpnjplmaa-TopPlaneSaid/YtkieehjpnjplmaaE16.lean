/- IsThrees at threes of nine players: true, and no error. -/
import Derived.Test.YtkieehjpnjplmaaE33
import Derived.Lib.Hide
namespace Go.Proofs.Ytkieehjpnjplmaa
open Go Go.Proofs Go.RowKit Go.Proofs.Ytkieehjpnjplmaa.X Go.Proofs.YtkieehjpnjplmaaW.PrintWords Go.Proofs.YtkieehjpnjplmaaW.PrintLast Go.Proofs.YtkieehjpnjplmaaW.PrintMore
set_option linter.unusedVariables false
set_option linter.unusedSimpArgs false
def goodAt (l : List S39) (i : Nat) : Bool :=
  decide (0 ≤ (rd_T39 l i).f0 ∧ (rd_T39 l i).f0 < (rd_T39 l i).f1 ∧ (rd_T39 l i).f1 < (rd_T39 l i).f2 ∧ (rd_T39 l i).f2 < 9) &&
  decide (((rd_T39 l i).f0, (rd_T39 l i).f1) ∉ setOf l i ∧ ((rd_T39 l i).f0, (rd_T39 l i).f2) ∉ setOf l i ∧ ((rd_T39 l i).f1, (rd_T39 l i).f2) ∉ setOf l i) &&
  decide (i + 1 < l.length → cmp3 (rd_T39 l i) (rd_T39 l (i + 1 : Nat)) < 0)
def goodB (l : List S39) : Bool :=
  decide (l.length ≤ 100) && (List.range l.length).all (goodAt l) && (List.range 9).all fun x => (List.range 9).all fun y => decide (x < y → ((x : Int), (y : Int)) ∈ setOf l l.length)
theorem good_of {l : List S39} (h : goodB l = true) : Good l := by
  unfold goodB at h
  rw [Bool.and_eq_true, Bool.and_eq_true] at h
  obtain ⟨⟨h1, h2⟩, h3⟩ := h
  have hat : ∀ i : Nat, i < l.length → goodAt l i = true := fun i hi => List.all_eq_true.mp h2 i (List.mem_range.mpr hi)
  refine ⟨of_decide_eq_true h1, fun i hi => ?_, fun i hi => ?_, fun i hi => ?_, fun x y hx hxy hy => ?_⟩
  · have := hat i hi
    unfold goodAt at this
    rw [Bool.and_eq_true, Bool.and_eq_true] at this
    exact of_decide_eq_true this.1.1
  · have := hat i hi
    unfold goodAt at this
    rw [Bool.and_eq_true, Bool.and_eq_true] at this
    exact of_decide_eq_true this.1.2
  · have := hat i (by omega)
    unfold goodAt at this
    rw [Bool.and_eq_true, Bool.and_eq_true] at this
    exact of_decide_eq_true this.2 hi
  · have h4 := List.all_eq_true.mp (List.all_eq_true.mp h3 x.toNat (List.mem_range.mpr (by omega))) y.toNat (List.mem_range.mpr (by omega))
    have h5 := of_decide_eq_true h4 (by omega)
    rw [show ((x.toNat : Nat) : Int) = x by omega, show ((y.toNat : Nat) : Int) = y by omega] at h5
    exact h5
theorem isThreePlayers_calls (w : World) : Calls Try.prog 32 #[.int .i64 9] w fun e w' => e = .returned (.bool true) ∧ ∃ n, w' = w.drewN n := by
  go_enter Try.func32, Try.ntmps32
  go_wp2
  go_ret
  exact ⟨rfl, 0, rfl⟩
namespace X
def xIsThrees.f (v : Int) (l : List S39) : Option (Bool × Int) := if v = 9 ∧ goodB l = true then some (true, 0) else none
set_option maxHeartbeats 2000000 in
theorem xIsThrees.calls (v : Int) (A1 : Option Addr) (c1 : Nat) (l1 : List S39) (r1 : Bool) (r2 : Int) (w : World) (hr1 : Kd.C k39 w A1 l1.length l1) (hc1 : l1.length ≤ c1) (h : xIsThrees.f v l1 = some (r1, r2)) :
    Calls Try.prog 16 #[.int .i64 v, .slice A1 l1.length c1] w fun e w' => e = .returned (.tuple #[.bool r1, .int .i64 r2]) ∧ Below w.heap.size w w' := by
  unfold xIsThrees.f at h
  split at h
  · rename_i hh
    obtain ⟨rfl, hg⟩ := hh
    injection h with h
    injection h with h1 h2
    subst h1 h2
    have HT := ak (fun W (hb : Below w.heap.size w W) => areThrees_calls A1 c1 l1 W (Kd.C_below hr1 hb) (good_of hg))
    have HI := ak (fun W => isThreePlayers_calls W)
    clear hr1 hg hc1
    go_enter Try.func16, Try.ntmps16
    go_wp2_with (first | (go_at_call 32; refine (HI.out _).mono ?_; rintro e w' ⟨rfl, nn, rfl⟩) | (go_at_call 33; refine (HT.out _ (by repeat (first | exact Below.refl _ _ | apply pw_below_drewN | apply below_drew1))).mono ?_; rintro e w9 ⟨rfl, hb9⟩))
    go_ret2
    exact ⟨rfl, below_step (by repeat (first | exact Below.refl _ _ | apply pw_below_drewN | apply below_drew1)) hb9⟩
  · cases h
end X
end Go.Proofs.Ytkieehjpnjplmaa
