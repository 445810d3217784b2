/- The law congoulaw01_SharesMixes is proved for arguments of bulk at most 1048576: for every such input that fits, the call returns true and its arguments read as before. -/
import Derived.Test.YtefmafbbnkkpjaaRows
import Derived.Test.YtefmafbbnkkpjaaXf15
import Derived.Test.YtefmafbbnkkpjaaPureSharesMixes
import Derived.Test.YtefmafbbnkkpjaaOB
import Derived.WalkKit
import Derived.ProofKit
import Derived.OpenShut
import Derived.ShutString
import Derived.ChangeOld
import Derived.Below
import Derived.JoinedCond
namespace Go.Proofs.Ytefmafbbnkkpjaa.sharesMixes
open Go.ChangeShapes Go.WideShapes Go.ChangeAt Go.RowKit Go.Proofs.YtefmafbbnkkpjaaW.PrintWords Go.Proofs.Ytefmafbbnkkpjaa.X
open Go.ChangeMaps (open_string shut_string)
set_option linter.unusedVariables false
theorem own : ownKnob Try.prog.godebug = none := by kernel_rfl
theorem laidOut : laidOutB Try.prog = true := by kernel_rfl
set_option maxRecDepth 100000 in
theorem lifted (os : Os) (started : os.Started) (H : Type) (enc : TypeId × Value → H) (F : Stop.Interp) :
    ReturnsInHanded {} Try.checked os 15 .any ((Rows.OpenSpec.upto Rows.sharesMixesSpec).pre6 enc Try.prog Try.f15 Rows.sharesMixesUptoRow.domain false) (((Rows.OpenSpec.upto Rows.sharesMixesSpec).at F).post enc Try.prog Try.f15 false true false false) := by
  refine returnsInHanded_of_cond (C := Try.checked) (s := Rows.OpenSpec.upto Rows.sharesMixesSpec) (k := Rows.uptoSmall) rfl own started (by kernel_rfl) Try.func15
    (OpenSpec.witness (enc := enc) (C := Try.checked) (s := Rows.OpenSpec.upto Rows.sharesMixesSpec) (k := Rows.uptoSmall) rfl false ⟨#[], #[.slice none 0 0, .slice none 0 0, .slice none 0 0], []⟩ 8 (by kernel_rfl) (by kernel_rfl) (by kernel_rfl)
      (x := ([.nil, .nil, .nil], [], [])) (by kernel_rfl) rfl (by kernel_rfl)) ?_
  intro W base args ds gs before hval0 hW hcnd hk0 _
  have hval : ∀ (j : Nat) t v, Try.f15.params[j]? = some t → args[j]? = some v → Value.okWide Try.prog W .any base t v := hval0
  have hW' := hW
  obtain ⟨p, q, hA0, hV, rfl, hfz, hnd⟩ := hW
  have hA : DataW.TrodAll enc Try.prog W 0 (fun _ => true) true Try.f15.params.toList args.toList ds p := hA0
  rw [Try.params15] at hA hval
  obtain ⟨v0, vs0, d0, ds0, p0, q0, hargs, rfl, rfl, h0, r0⟩ := trodAll_cons hA
  obtain ⟨v1, vs1, d1, ds1, p1, q1, rfl, rfl, rfl, h1, r1⟩ := trodAll_cons r0
  obtain ⟨v2, vs2, d2, ds2, p2, q2, rfl, rfl, rfl, h2, r2⟩ := trodAll_cons r1
  obtain ⟨rfl, rfl, rfl⟩ := trodAll_nil r2
  obtain rfl : args = #[v0, v1, v2] := by cases args; simp_all
  obtain ⟨rfl, rfl⟩ := trodVars_none hV
  obtain ⟨A0, len0, c0, rfl⟩ := okWide_slice Try.underlying22 (hval 0 22 v0 rfl rfl)
  have k0 := h0
  have lt0 : ∀ x ∈ p0, x.block < W.heap.size := by obtain ⟨m, hm⟩ := k0; exact DataW.trod_lt m _ _ _ hm
  obtain ⟨l0, hl0, hc0, hr0, hm0, ho0, hb0⟩ := OB.opened Try.underlying22 (by kernel_rfl) (OB.opn_int (k := .i64) Try.underlying3 (by kernel_rfl)) h0
  subst hl0
  obtain ⟨A1, len1, c1, rfl⟩ := okWide_slice Try.underlying22 (hval 1 22 v1 rfl rfl)
  have k1 := h1
  have lt1 : ∀ x ∈ p1, x.block < W.heap.size := by obtain ⟨m, hm⟩ := k1; exact DataW.trod_lt m _ _ _ hm
  obtain ⟨l1, hl1, hc1, hr1, hm1, ho1, hb1⟩ := OB.opened Try.underlying22 (by kernel_rfl) (OB.opn_int (k := .i64) Try.underlying3 (by kernel_rfl)) h1
  subst hl1
  obtain ⟨A2, len2, c2, rfl⟩ := okWide_slice Try.underlying51 (hval 2 51 v2 rfl rfl)
  have k2 := h2
  have lt2 : ∀ x ∈ p2, x.block < W.heap.size := by obtain ⟨m, hm⟩ := k2; exact DataW.trod_lt m _ _ _ hm
  obtain ⟨l2, hl2, hc2, hr2, hm2, ho2, hb2⟩ := OB.opened Try.underlying51 (by kernel_rfl) (OB.opn_slice Try.underlying52 (by kernel_rfl) (OB.opn_iso (OB.opn_pair Try.underlying62 (by kernel_rfl) rfl rfl (OB.opn_int (k := .i64) Try.underlying3 (by kernel_rfl)) (OB.opn_int (k := .i64) Try.underlying3 (by kernel_rfl)) rfl rfl) (fun x : S62 => (x.f0, x.f1)) (fun p => ⟨p.1, p.2⟩) (fun _ => rfl))) h2
  subst hl2
  clear hA0 hval0
  have hk : Rows.uptoBulkAll ([d0, d1, d2] ++ []) ≤ 1048576 := of_decide_eq_true hk0
  simp only [List.append_nil, Rows.uptoBulkAll] at hk
  have b2 : l2.flatten.length + l2.length + 1 ≤ Rows.uptoBulk d2 := Nat.le_trans (Nat.le_of_eq (congrArg (· + 1) (OB.sum_lens l2).symm)) hb2
  have m0 : l0.length ≤ 9223372036854775807 := by unfold maxLen at hm0; exact hm0
  have m1 : l1.length ≤ 9223372036854775807 := by unfold maxLen at hm1; exact hm1
  obtain ⟨k, h⟩ := Pure.SharesMixes l0 l1 l2 m0 m1 ho2 (by omega) (by omega)
  refine (congoulaw01_SharesMixes.calls k _ _ l0 _ _ l1 _ _ l2 true W hr0 hc0 hr1 hc1 hr2 hc2 rfl h).mono fun e W' ⟨he, bel0⟩ => ?_
  have bel := bel0
  subst he
  exact ⟨_, rfl, _, _, _, [], _, [], hW', trodAll_mk1 (shut_bool Try.underlying4 _), (trodAll_cons_mk (Below.trod laidOut (by kernel_rfl) (of_decide_eq_true (by kernel_rfl)) k0 bel lt0) (trodAll_cons_mk (Below.trod laidOut (by kernel_rfl) (of_decide_eq_true (by kernel_rfl)) k1 bel lt1) (trodAll_cons_mk (Below.trod laidOut (by kernel_rfl) (of_decide_eq_true (by kernel_rfl)) k2 bel lt2) trodAll_mk0))), rfl, bel.frame _, fun h => by cases h⟩
theorem proved : Rows.SharesMixesUptoSaid :=
  OpenClaim.holds_of_cond 15 Try.f15 rfl rfl rfl rfl rfl rfl rfl ⟨rfl, rfl, rfl, rfl, rfl⟩ rfl rfl rfl rfl rfl (by kernel_rfl) Try.func15 (by kernel_rfl)
    (of_decide_eq_true (by kernel_rfl)) (by unfold Func.isWrapper; first | (rw [if_pos (by decide +kernel)]; kernel_rfl) | (rw [if_neg (by decide +kernel)]; exact ⟨rfl, rfl⟩))
    (fun os started H enc _ F => lifted os started H enc F)
#print axioms proved
end Go.Proofs.Ytefmafbbnkkpjaa.sharesMixes
namespace Go.Proofs.Ytefmafbbnkkpjaa
/-- The row, under a short name, for the claim. -/
theorem sharesMixesUpto_holds : Rows.SharesMixesUptoSaid := sharesMixes.proved
end Go.Proofs.Ytefmafbbnkkpjaa
