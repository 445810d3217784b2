/- The law congoulaw04_CurvesTurns is proved: for every input that fits, the call returns true and its arguments read as before. -/
import Derived.Test.YtpnocmkpeogifaaRows
import Derived.Test.YtpnocmkpeogifaaXf10
import Derived.Test.YtpnocmkpeogifaaPureCurvesTurns
import Derived.Test.YtpnocmkpeogifaaO
import Derived.WalkKit
import Derived.ProofKit
import Derived.OpenShut
import Derived.ShutString
import Derived.ChangeOld
import Derived.Below
import Derived.SizedLaws
namespace Go.Proofs.Ytpnocmkpeogifaa.curvesTurns
open Go.ChangeShapes Go.WideShapes Go.ChangeAt Go.RowKit Go.Proofs.YtpnocmkpeogifaaW.PrintWords Go.Proofs.Ytpnocmkpeogifaa.X
open Go.ChangeMaps (open_string shut_string)
set_option linter.unusedVariables false
theorem own : ownKnob Try.prog.godebug = none := by kernel_rfl
theorem laidOut : laidOutB Try.prog = true := by kernel_rfl
set_option maxRecDepth 100000 in
theorem lifted (os : Os) (started : os.Started) (H : Type) (enc : TypeId × Value → H) :
    ReturnsInHanded {} Try.checked os 10 .any (Rows.curvesTurnsSpec.pre6 enc Try.prog Try.f10 Rows.curvesTurnsRow.domain false) (Rows.curvesTurnsSpec.post enc Try.prog Try.f10 false true false false) := by
  refine returnsInHanded_of_change_sized (C := Try.checked) own started (by kernel_rfl) Try.func10
    (ChangeSpec.witness6 (enc := enc) (C := Try.checked) false ⟨#[], #[.agg #[.int .i64 0, .slice none 0 0, .slice none 0 0], .slice none 0 0], []⟩ 8 (by kernel_rfl) (by kernel_rfl) (by kernel_rfl) (by kernel_rfl)) ?_
  intro W base args ds gs before hval0 hW hcnd hsz0 _
  have hval : ∀ (j : Nat) t v, Try.f10.params[j]? = some t → args[j]? = some v → Value.okWide Try.prog W .any base t v := hval0
  have hW' := hW
  obtain ⟨p, q, hA0, hV, rfl, hfz, hnd⟩ := hW
  have hA : DataW.TrodAll enc Try.prog W 0 (fun _ => true) true Try.f10.params.toList args.toList ds p := hA0
  rw [Try.params10] at hA hval
  obtain ⟨v0, vs0, d0, ds0, p0, q0, hargs, rfl, rfl, h0, r0⟩ := trodAll_cons hA
  obtain ⟨v1, vs1, d1, ds1, p1, q1, rfl, rfl, rfl, h1, r1⟩ := trodAll_cons r0
  obtain ⟨rfl, rfl, rfl⟩ := trodAll_nil r1
  obtain rfl : args = #[v0, v1] := by cases args; simp_all
  obtain ⟨rfl, rfl⟩ := trodVars_none hV
  obtain ⟨cs0, rfl, hs0⟩ := okWide_struct Try.underlying24 (hval 0 24 v0 rfl rfl)
  have k0 := h0
  have lt0 : ∀ x ∈ p0, x.block < W.heap.size := by obtain ⟨m, hm⟩ := k0; exact DataW.trod_lt m _ _ _ hm
  obtain ⟨fuel0, hf0⟩ := h0
  obtain ⟨x0, hK0, ho0⟩ := ((O.opn_triple Try.underlying24 (by kernel_rfl) rfl rfl rfl (O.opn_int (k := .i64) Try.underlying3 (by kernel_rfl)) (O.opn_slice Try.underlying22 (by kernel_rfl) (O.opn_int (k := .i64) Try.underlying3 (by kernel_rfl))) (O.opn_slice Try.underlying22 (by kernel_rfl) (O.opn_int (k := .i64) Try.underlying3 (by kernel_rfl))) rfl rfl rfl)).2 _ _ _ _ _ _ _ _ hf0
  obtain ⟨_, _, hcs0, rfl, ⟨_, _, rfl, ⟨A0_1, c0_1, rfl, hc0_1, hr0_1⟩, ⟨A0_2, c0_2, rfl, hc0_2, hr0_2⟩⟩⟩ := hK0
  obtain rfl : cs0 = #[.int .i64 x0.1, .slice A0_1 (x0.2.1).length c0_1, .slice A0_2 (x0.2.2).length c0_2] := by have hq_ := congrArg List.toArray hcs0; simpa [Value.cells] using hq_
  obtain ⟨A1, len1, c1, rfl⟩ := okWide_slice Try.underlying34 (hval 1 34 v1 rfl rfl)
  have k1 := h1
  have lt1 : ∀ x ∈ p1, x.block < W.heap.size := by obtain ⟨m, hm⟩ := k1; exact DataW.trod_lt m _ _ _ hm
  obtain ⟨l1, hl1, hc1, hr1, hm1, ho1⟩ := O.opened Try.underlying34 (by kernel_rfl) (O.opn_iso (O.opn_pair Try.underlying26 (by kernel_rfl) rfl rfl (O.opn_int (k := .i64) Try.underlying3 (by kernel_rfl)) (O.opn_int (k := .i64) Try.underlying3 (by kernel_rfl)) rfl rfl) (fun x : S26 => (x.f0, x.f1)) (fun p => ⟨p.1, p.2⟩) (fun _ => rfl)) h1
  subst hl1
  clear hA0 hval0 hsz0
  obtain ⟨k, h⟩ := Pure.CurvesTurns (x0.1) (x0.2.1) (x0.2.2) l1 ho0.1 ho0.2.1.1 ho0.2.1.2 ho0.2.2.1 ho0.2.2.2 hm1 ho1
  refine (congoulaw04_CurvesTurns.calls k (x0.1) _ _ (x0.2.1) _ _ (x0.2.2) _ _ l1 true W hr0_1 hc0_1 hr0_2 hc0_2 hr1 hc1 rfl h).mono fun e W' ⟨he, bel0⟩ => ?_
  have bel := bel0
  subst he
  exact ⟨_, rfl, _, _, _, [], _, [], hW', trodAll_mk1 (shut_bool Try.underlying4 _), (trodAll_cons_mk (Below.trod laidOut (by kernel_rfl) (of_decide_eq_true (by kernel_rfl)) k0 bel lt0) (trodAll_cons_mk (Below.trod laidOut (by kernel_rfl) (of_decide_eq_true (by kernel_rfl)) k1 bel lt1) trodAll_mk0)), rfl, bel.frame _, fun h => by cases h⟩
theorem over : Rows.curvesTurnsRow.holds Try.pinned (OpenSpec.ofChange Rows.curvesTurnsSpec) :=
  OpenClaim.holds_of_wide 10 Try.f10 rfl rfl rfl rfl rfl rfl rfl ⟨rfl, rfl, rfl, rfl, rfl⟩ rfl rfl rfl rfl rfl (by kernel_rfl) Try.func10 (by kernel_rfl)
    (of_decide_eq_true (by kernel_rfl)) (by unfold Func.isWrapper; first | (rw [if_pos (by decide +kernel)]; kernel_rfl) | (rw [if_neg (by decide +kernel)]; exact ⟨rfl, rfl⟩))
    (fun os started H enc _ => lifted os started H enc)
theorem proved : Rows.CurvesTurnsSaid := over
#print axioms proved
end Go.Proofs.Ytpnocmkpeogifaa.curvesTurns
namespace Go.Proofs.Ytpnocmkpeogifaa
/-- The row, under a short name, for the claim. -/
theorem curvesTurns_holds : Rows.CurvesTurnsSaid := curvesTurns.proved
end Go.Proofs.Ytpnocmkpeogifaa
