/- The law congoulaw04_CurvesKnot is proved: for every input that fits, the call returns true and its arguments read as before. -/
import Derived.Test.YtpnocmkpeogifaaRows
import Derived.Test.YtpnocmkpeogifaaXf12
import Derived.Test.YtpnocmkpeogifaaPureCurvesKnot
import Derived.Test.YtpnocmkpeogifaaO
import Derived.WalkKit
import Derived.ProofKit
import Derived.OpenShut
import Derived.ShutString
import Derived.ChangeOld
import Derived.Below
import Derived.SizedLaws
namespace Go.Proofs.Ytpnocmkpeogifaa.curvesKnot
open Go.ChangeShapes Go.WideShapes Go.ChangeAt Go.RowKit Go.Proofs.YtpnocmkpeogifaaW.PrintWords Go.Proofs.Ytpnocmkpeogifaa.X
open Go.ChangeMaps (open_string shut_string)
set_option linter.unusedVariables false
theorem own : ownKnob Try.prog.godebug = none := by kernel_rfl
theorem laidOut : laidOutB Try.prog = true := by kernel_rfl
set_option maxRecDepth 100000 in
theorem lifted (os : Os) (started : os.Started) (H : Type) (enc : TypeId × Value → H) :
    ReturnsInHanded {} Try.checked os 12 .any (Rows.curvesKnotSpec.pre6 enc Try.prog Try.f12 Rows.curvesKnotRow.domain false) (Rows.curvesKnotSpec.post enc Try.prog Try.f12 false true false false) := by
  refine returnsInHanded_of_change_sized (C := Try.checked) own started (by kernel_rfl) Try.func12
    (ChangeSpec.witness6 (enc := enc) (C := Try.checked) false ⟨#[], #[.agg #[.int .i64 0, .slice none 0 0, .slice none 0 0], .int .i64 0, .agg #[.int .i64 0, .int .i64 0]], []⟩ 8 (by kernel_rfl) (by kernel_rfl) (by kernel_rfl) (by kernel_rfl)) ?_
  intro W base args ds gs before hval0 hW hcnd hsz0 _
  have hval : ∀ (j : Nat) t v, Try.f12.params[j]? = some t → args[j]? = some v → Value.okWide Try.prog W .any base t v := hval0
  have hW' := hW
  obtain ⟨p, q, hA0, hV, rfl, hfz, hnd⟩ := hW
  have hA : DataW.TrodAll enc Try.prog W 0 (fun _ => true) true Try.f12.params.toList args.toList ds p := hA0
  rw [Try.params12] at hA hval
  obtain ⟨v0, vs0, d0, ds0, p0, q0, hargs, rfl, rfl, h0, r0⟩ := trodAll_cons hA
  obtain ⟨v1, vs1, d1, ds1, p1, q1, rfl, rfl, rfl, h1, r1⟩ := trodAll_cons r0
  obtain ⟨v2, vs2, d2, ds2, p2, q2, rfl, rfl, rfl, h2, r2⟩ := trodAll_cons r1
  obtain ⟨rfl, rfl, rfl⟩ := trodAll_nil r2
  obtain rfl : args = #[v0, v1, v2] := by cases args; simp_all
  obtain ⟨rfl, rfl⟩ := trodVars_none hV
  obtain ⟨cs0, rfl, hs0⟩ := okWide_struct Try.underlying24 (hval 0 24 v0 rfl rfl)
  have k0 := h0
  have lt0 : ∀ x ∈ p0, x.block < W.heap.size := by obtain ⟨m, hm⟩ := k0; exact DataW.trod_lt m _ _ _ hm
  obtain ⟨fuel0, hf0⟩ := h0
  obtain ⟨x0, hK0, ho0⟩ := ((O.opn_triple Try.underlying24 (by kernel_rfl) rfl rfl rfl (O.opn_int (k := .i64) Try.underlying3 (by kernel_rfl)) (O.opn_slice Try.underlying22 (by kernel_rfl) (O.opn_int (k := .i64) Try.underlying3 (by kernel_rfl))) (O.opn_slice Try.underlying22 (by kernel_rfl) (O.opn_int (k := .i64) Try.underlying3 (by kernel_rfl))) rfl rfl rfl)).2 _ _ _ _ _ _ _ _ hf0
  obtain ⟨_, _, hcs0, rfl, ⟨_, _, rfl, ⟨A0_1, c0_1, rfl, hc0_1, hr0_1⟩, ⟨A0_2, c0_2, rfl, hc0_2, hr0_2⟩⟩⟩ := hK0
  obtain rfl : cs0 = #[.int .i64 x0.1, .slice A0_1 (x0.2.1).length c0_1, .slice A0_2 (x0.2.2).length c0_2] := by have hq_ := congrArg List.toArray hcs0; simpa [Value.cells] using hq_
  obtain ⟨a1, rfl, rfl, rfl, w1⟩ := open_int Try.underlying3 (hval 1 3 v1 rfl rfl) h1
  obtain ⟨cs2, rfl, hs2⟩ := okWide_struct Try.underlying26 (hval 2 26 v2 rfl rfl)
  have k2 := h2
  have lt2 : ∀ x ∈ p2, x.block < W.heap.size := by obtain ⟨m, hm⟩ := k2; exact DataW.trod_lt m _ _ _ hm
  obtain ⟨fuel2, hf2⟩ := h2
  obtain ⟨x2, hK2, ho2⟩ := ((O.opn_pair Try.underlying26 (by kernel_rfl) rfl rfl (O.opn_int (k := .i64) Try.underlying3 (by kernel_rfl)) (O.opn_int (k := .i64) Try.underlying3 (by kernel_rfl)) rfl rfl)).2 _ _ _ _ _ _ _ _ hf2
  obtain ⟨_, _, hcs2, rfl, rfl⟩ := hK2
  obtain rfl : cs2 = #[.int .i64 x2.1, .int .i64 x2.2] := by have hq_ := congrArg List.toArray hcs2; simpa [Value.cells] using hq_
  clear hA0 hval0 hsz0
  obtain ⟨k, h⟩ := Pure.CurvesKnot (x0.1) (x0.2.1) (x0.2.2) a1 (x2.1) (x2.2) ho0.1 ho0.2.1.1 ho0.2.1.2 ho0.2.2.1 ho0.2.2.2 w1 ho2.1 ho2.2
  refine (congoulaw04_CurvesKnot.calls k (x0.1) _ _ (x0.2.1) _ _ (x0.2.2) a1 (x2.1) (x2.2) true W hr0_1 hc0_1 hr0_2 hc0_2 rfl h).mono fun e W' ⟨he, bel0⟩ => ?_
  have bel := bel0
  subst he
  exact ⟨_, rfl, _, _, _, [], _, [], hW', trodAll_mk1 (shut_bool Try.underlying4 _), (trodAll_cons_mk (Below.trod laidOut (by kernel_rfl) (of_decide_eq_true (by kernel_rfl)) k0 bel lt0) (trodAll_cons_mk (shut_int Try.underlying3 w1) (trodAll_cons_mk (Below.trod laidOut (by kernel_rfl) (of_decide_eq_true (by kernel_rfl)) k2 bel lt2) trodAll_mk0))), rfl, bel.frame _, fun h => by cases h⟩
theorem over : Rows.curvesKnotRow.holds Try.pinned (OpenSpec.ofChange Rows.curvesKnotSpec) :=
  OpenClaim.holds_of_wide 12 Try.f12 rfl rfl rfl rfl rfl rfl rfl ⟨rfl, rfl, rfl, rfl, rfl⟩ rfl rfl rfl rfl rfl (by kernel_rfl) Try.func12 (by kernel_rfl)
    (of_decide_eq_true (by kernel_rfl)) (by unfold Func.isWrapper; first | (rw [if_pos (by decide +kernel)]; kernel_rfl) | (rw [if_neg (by decide +kernel)]; exact ⟨rfl, rfl⟩))
    (fun os started H enc _ => lifted os started H enc)
theorem proved : Rows.CurvesKnotSaid := over
#print axioms proved
end Go.Proofs.Ytpnocmkpeogifaa.curvesKnot
namespace Go.Proofs.Ytpnocmkpeogifaa
/-- The row, under a short name, for the claim. -/
theorem curvesKnot_holds : Rows.CurvesKnotSaid := curvesKnot.proved
end Go.Proofs.Ytpnocmkpeogifaa
