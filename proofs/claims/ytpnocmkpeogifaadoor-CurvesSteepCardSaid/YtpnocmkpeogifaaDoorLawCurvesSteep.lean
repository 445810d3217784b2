/- The law congoulaw04_CurvesSteep is proved: for every input that fits, the call returns true and its arguments read as before. -/
import Derived.Test.YtpnocmkpeogifaaDoorTie
import Derived.Test.YtpnocmkpeogifaaDoorCards
import Derived.Test.YtpnocmkpeogifaaDoorEL
import Derived.Test.YtpnocmkpeogifaaDoorXf4
import Derived.Test.YtpnocmkpeogifaaDoorPureCurvesSteep
import Derived.Test.YtpnocmkpeogifaaDoorO
import Derived.WalkKit
import Derived.ProofKit
import Derived.OpenShut
import Derived.ShutString
import Derived.ChangeOld
import Derived.Below
import Derived.SizedLaws
import Derived.SevenTiedAt
import Derived.Handed
import Derived.LaidLaws
namespace Go.Proofs.YtpnocmkpeogifaaDoor.curvesSteep
open Go.ChangeShapes Go.WideShapes Go.ChangeAt Go.RowKit Go.Proofs.YtpnocmkpeogifaaDoorW.PrintWords Go.Proofs.YtpnocmkpeogifaaDoor.X
open Go.ChangeMaps (open_string shut_string)
set_option linter.unusedVariables false
theorem own : ownKnob Tryd.prog.godebug = none := by kernel_rfl
theorem laidOut : laidOutB Tryd.prog = true := by kernel_rfl
set_option maxRecDepth 100000 in
theorem lifted (os : Os) (started : os.Started) (H : Type) (enc : TypeId × Value → H) :
    ReturnsInHanded {} Tryd.checked os 4 .any (fun w args => (Rows.curvesSteepSpec.pre enc Tryd.prog Tryd.f4 [] false w args ∧ laidMetH Tryd.prog laid1 w) ∧ sizedMet enc Tryd.prog Tryd.f4 (OpenSpec.ofChange Rows.curvesSteepSpec) false w args)
      (Rows.curvesSteepSpec.post enc Tryd.prog Tryd.f4 false true false false) := by
  refine returnsInHanded_of_change_and (C := Tryd.checked) (X := fun w _ => laidMetH Tryd.prog laid1 w) (fun _ _ _ hh h => h.of_heap hh) own started (by kernel_rfl) Tryd.func4
    (ChangeSpec.witness_shaped (enc := enc) (C := Tryd.checked) (os := os) (X := fun w _ => laidMetH Tryd.prog laid1 w) false (World.doorLaid Tryd.prog 400 os) #[.agg #[.int .i64 0, .slice none 0 0, .slice none 0 0], .int .i64 0, .agg #[.int .i64 0, .int .i64 0], .agg #[.int .i64 0, .int .i64 0]] 8 rfl (World.shaped_of_RefB (by kernel_rfl) (by kernel_rfl)) (by kernel_rfl) (by kernel_rfl) (by kernel_rfl) (door_met os _)) ?_
  intro W base args ds gs before hval0 hW hcnd hsz0 hL _
  have hval : ∀ (j : Nat) t v, Tryd.f4.params[j]? = some t → args[j]? = some v → Value.okWide Tryd.prog W .any base t v := hval0
  have hW' := hW
  obtain ⟨p, q, hA0, hV, rfl, hfz, hnd⟩ := hW
  have hA : DataW.TrodAll enc Tryd.prog W 0 (fun _ => true) true Tryd.f4.params.toList args.toList ds p := hA0
  rw [Tryd.params4] at hA hval
  obtain ⟨v0, vs0, d0, ds0, p0, q0, hargs, rfl, rfl, h0, r0⟩ := trodAll_cons hA
  obtain ⟨v1, vs1, d1, ds1, p1, q1, rfl, rfl, rfl, h1, r1⟩ := trodAll_cons r0
  obtain ⟨v2, vs2, d2, ds2, p2, q2, rfl, rfl, rfl, h2, r2⟩ := trodAll_cons r1
  obtain ⟨v3, vs3, d3, ds3, p3, q3, rfl, rfl, rfl, h3, r3⟩ := trodAll_cons r2
  obtain ⟨rfl, rfl, rfl⟩ := trodAll_nil r3
  obtain rfl : args = #[v0, v1, v2, v3] := by cases args; simp_all
  obtain ⟨rfl, rfl⟩ := trodVars_none hV
  obtain ⟨cs0, rfl, hs0⟩ := okWide_struct Tryd.underlying24 (hval 0 24 v0 rfl rfl)
  have k0 := h0
  have lt0 : ∀ x ∈ p0, x.block < W.heap.size := by obtain ⟨m, hm⟩ := k0; exact DataW.trod_lt m _ _ _ hm
  obtain ⟨fuel0, hf0⟩ := h0
  obtain ⟨x0, hK0, ho0⟩ := ((O.opn_triple Tryd.underlying24 (by kernel_rfl) rfl rfl rfl (O.opn_int (k := .i64) Tryd.underlying3 (by kernel_rfl)) (O.opn_slice Tryd.underlying22 (by kernel_rfl) (O.opn_int (k := .i64) Tryd.underlying3 (by kernel_rfl))) (O.opn_slice Tryd.underlying22 (by kernel_rfl) (O.opn_int (k := .i64) Tryd.underlying3 (by kernel_rfl))) rfl rfl rfl)).2 _ _ _ _ _ _ _ _ hf0
  obtain ⟨_, _, hcs0, rfl, ⟨_, _, rfl, ⟨A0_1, c0_1, rfl, hc0_1, hr0_1⟩, ⟨A0_2, c0_2, rfl, hc0_2, hr0_2⟩⟩⟩ := hK0
  obtain rfl : cs0 = #[.int .i64 x0.1, .slice A0_1 (x0.2.1).length c0_1, .slice A0_2 (x0.2.2).length c0_2] := by have hq_ := congrArg List.toArray hcs0; simpa [Value.cells] using hq_
  obtain ⟨a1, rfl, rfl, rfl, w1⟩ := open_int Tryd.underlying3 (hval 1 3 v1 rfl rfl) h1
  obtain ⟨cs2, rfl, hs2⟩ := okWide_struct Tryd.underlying26 (hval 2 26 v2 rfl rfl)
  have k2 := h2
  have lt2 : ∀ x ∈ p2, x.block < W.heap.size := by obtain ⟨m, hm⟩ := k2; exact DataW.trod_lt m _ _ _ hm
  obtain ⟨fuel2, hf2⟩ := h2
  obtain ⟨x2, hK2, ho2⟩ := ((O.opn_pair Tryd.underlying26 (by kernel_rfl) rfl rfl (O.opn_int (k := .i64) Tryd.underlying3 (by kernel_rfl)) (O.opn_int (k := .i64) Tryd.underlying3 (by kernel_rfl)) rfl rfl)).2 _ _ _ _ _ _ _ _ hf2
  obtain ⟨_, _, hcs2, rfl, rfl⟩ := hK2
  obtain rfl : cs2 = #[.int .i64 x2.1, .int .i64 x2.2] := by have hq_ := congrArg List.toArray hcs2; simpa [Value.cells] using hq_
  obtain ⟨cs3, rfl, hs3⟩ := okWide_struct Tryd.underlying26 (hval 3 26 v3 rfl rfl)
  have k3 := h3
  have lt3 : ∀ x ∈ p3, x.block < W.heap.size := by obtain ⟨m, hm⟩ := k3; exact DataW.trod_lt m _ _ _ hm
  obtain ⟨fuel3, hf3⟩ := h3
  obtain ⟨x3, hK3, ho3⟩ := ((O.opn_pair Tryd.underlying26 (by kernel_rfl) rfl rfl (O.opn_int (k := .i64) Tryd.underlying3 (by kernel_rfl)) (O.opn_int (k := .i64) Tryd.underlying3 (by kernel_rfl)) rfl rfl)).2 _ _ _ _ _ _ _ _ hf3
  obtain ⟨_, _, hcs3, rfl, rfl⟩ := hK3
  obtain rfl : cs3 = #[.int .i64 x3.1, .int .i64 x3.2] := by have hq_ := congrArg List.toArray hcs3; simpa [Value.cells] using hq_
  clear hA0 hval0 hsz0
  obtain ⟨k, h⟩ := Pure.CurvesSteep (x0.1) (x0.2.1) (x0.2.2) a1 (x2.1) (x2.2) (x3.1) (x3.2) ho0.1 ho0.2.1.1 ho0.2.1.2 ho0.2.2.1 ho0.2.2.2 w1 ho2.1 ho2.2 ho3.1 ho3.2
  refine (congoulaw04_CurvesSteep.calls k (x0.1) _ _ (x0.2.1) _ _ (x0.2.2) a1 (x2.1) (x2.2) (x3.1) (x3.2) true W hr0_1 hc0_1 hr0_2 hc0_2 rfl h (of_laid hL)).mono fun e W' ⟨he, bel0⟩ => ?_
  have bel := bel0
  subst he
  exact ⟨_, rfl, _, _, _, [], _, [], hW', trodAll_mk1 (shut_bool Tryd.underlying4 _), (trodAll_cons_mk (Below.trod laidOut (by kernel_rfl) (of_decide_eq_true (by kernel_rfl)) k0 bel lt0) (trodAll_cons_mk (shut_int Tryd.underlying3 w1) (trodAll_cons_mk (Below.trod laidOut (by kernel_rfl) (of_decide_eq_true (by kernel_rfl)) k2 bel lt2) (trodAll_cons_mk (Below.trod laidOut (by kernel_rfl) (of_decide_eq_true (by kernel_rfl)) k3 bel lt3) trodAll_mk0)))), rfl, bel.frame _, fun h => by cases h⟩
theorem over : Rows.curvesSteepRow.holds Tryd.pinned (OpenSpec.ofChange Rows.curvesSteepSpec) :=
  OpenClaim.holds_of_wide 4 Tryd.f4 rfl rfl rfl rfl rfl rfl rfl ⟨rfl, rfl, rfl, rfl, rfl⟩ rfl rfl rfl rfl rfl (by kernel_rfl) Tryd.func4 (by kernel_rfl)
    (of_decide_eq_true (by kernel_rfl)) (by unfold Func.isWrapper; first | (rw [if_pos (by decide +kernel)]; kernel_rfl) | (rw [if_neg (by decide +kernel)]; exact ⟨rfl, rfl⟩))
    (fun os started H enc _ => lifted os started H enc)
theorem said : Rows.CurvesSteepSaid := over
end Go.Proofs.YtpnocmkpeogifaaDoor.curvesSteep
namespace Go.Proofs.YtpnocmkpeogifaaDoor
open Go
/-- THE TIED CARD. -/
theorem curvesSteep_holds : Rows.CurvesSteepCardSaid :=
  Claim7.holds_tied_plain_at .later [] [.data] true (true, "ed26d6e970ff1c243dbfb9f68127b0bd63720a52ea1db00a5859c90f9e9fdc6b") false
    curvesSteep.said (fun _ h => by cases h) (by kernel_rfl) (fun _ h => by cases h) curvesSteep_row_tie rfl ⟨rfl, rfl⟩ (by kernel_rfl) rfl
    (fun f fn hf hfn => by
      obtain rfl : f = 4 := Option.some.inj ((show Tryd.prog.funcNamed "congou/congoulaw04.CurvesSteep" = some 4 by kernel_rfl).symm.trans hf) |>.symm
      obtain rfl : fn = Tryd.f4 := (Option.some.inj (Tryd.func4.symm.trans hfn)).symm
      exact ⟨by kernel_rfl, fun j t ht => by
        rw [Tryd.params4] at ht
        have hm : t ∈ [24, 3, 26, 26] := by simpa using Array.mem_of_getElem? ht
        have hall : ([24, 3, 26, 26].all fun u => !Tryd.prog.wantsStandIn u) = true := by kernel_rfl
        exact (show Tryd.prog.wantsStandIn t = false by simpa using List.all_eq_true.1 hall t hm)⟩)
    (by kernel_rfl)
end Go.Proofs.YtpnocmkpeogifaaDoor
