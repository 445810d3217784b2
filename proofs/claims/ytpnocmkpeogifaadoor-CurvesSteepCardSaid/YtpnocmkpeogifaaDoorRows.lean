/-
  NARROWER THAN 'FOR EVERY INPUT', by the rows' own cells (each row's printed sentence says how): CurvesOne: laid · CurvesSteep: laid · CurvesSum: laid.
  DERIVED. THE GIVEN ROWS OF THIS SEAT. 3 by the template 'for every input the law returns true; each argument reads behind the call as it read before'; 0 by the template 'total and deterministic' (their statements: YtpnocmkpeogifaaDoorTotals.lean).
  GIVEN WITH THE SEED: the statements are not yours to turn. If you find one false, say at which input.
  Laid BY PROGRAM, IN A SANDBOX (cutbox-rows.mjs): the forced cells as the released guide's own fill.sh prints them over the translation 0ee1a171db1af9c6… (all of the seat's roots in one cut). By AI agents, Wed Nov 11 2026. No macro, syntax, notation, axiom, sorry.
-/
import Derived.Test.YtpnocmkpeogifaaDoorChecked
import GoSem.Claim
import GoSem.ClaimJoined
import GoSem.ClaimMapViews
import Derived.JoinedTies
import Derived.KernelRfl
namespace Go.Proofs.YtpnocmkpeogifaaDoor
/- THE CELL 'sum', in the pinned program and in every row, IS THE sha256 OF THE DUMP (.gsa) THAT YtpnocmkpeogifaaDoorProg.lean LOADS. Nothing in Lean hashes anything: it is a label: what it is worth is what the hold of that sum in a sandbox is worth. -/
noncomputable def Tryd.pinned : Pinned := { name := "ytpnocmkpeogifaadoor", sum := "0ee1a171db1af9c6b4e5e18f6edddf8d52c87bab7991dac8e684a0f52225519d", checked := Tryd.checked }
namespace Rows
def none {H : Type} : Left H := { results := [], args := [] }

/- WHAT THE LISTED PACKAGE-LEVEL VARIABLES READ AS WHEN THE CALL BEGINS. Each datum BY PROGRAM (the guide's laid-datum.mjs) off the statement by which the dump's own 'gosem.cut.vars' lays the variable. In a bare row this is a premise. The card (YtpnocmkpeogifaaDoorCards.lean) ties it to the program's text. -/
def laid_congou_congoulaw04_one {H : Type} : DataW H := .agg [.lit (.int .i64 1), .lit (.int .i64 1)]

/-- 'congoulaw04.CurvesOne': WHATEVER THE INPUT: true; the input reads as it did. -/
def curvesOneSpec : ChangeSpec := { name := "curvesOne", fn := fun _ => fun
  | [d1, d2] => { results := [.lit (.bool true)], args := [d1, d2] }
  | _ => none }
def curvesOneRow : OpenClaim := { program := "ytpnocmkpeogifaadoor", sum := "0ee1a171db1af9c6b4e5e18f6edddf8d52c87bab7991dac8e684a0f52225519d", func := "congou/congoulaw04.CurvesOne", spec := "curvesOne", recurses := true, named := ["congou/congoulaw04.one"], apart := false, laid := [("congou/congoulaw04.one", laid_congou_congoulaw04_one)] }
def CurvesOneSaid : Prop := curvesOneRow.holds Tryd.pinned (OpenSpec.ofChange curvesOneSpec)

/-- ITS FALSE NEIGHBOUR: 'it returns false'. Refute it at one input. -/
def curvesOneWrong : ChangeSpec := { name := "curvesOne", fn := fun _ => fun
  | [d1, d2] => { results := [.lit (.bool false)], args := [d1, d2] }
  | _ => none }
def CurvesOneWrongFalsely : Prop := curvesOneRow.holds Tryd.pinned (OpenSpec.ofChange curvesOneWrong)

/-- 'congoulaw04.CurvesSteep': WHATEVER THE INPUT: true; the input reads as it did. -/
def curvesSteepSpec : ChangeSpec := { name := "curvesSteep", fn := fun _ => fun
  | [d1, d2, d3, d4] => { results := [.lit (.bool true)], args := [d1, d2, d3, d4] }
  | _ => none }
def curvesSteepRow : OpenClaim := { program := "ytpnocmkpeogifaadoor", sum := "0ee1a171db1af9c6b4e5e18f6edddf8d52c87bab7991dac8e684a0f52225519d", func := "congou/congoulaw04.CurvesSteep", spec := "curvesSteep", recurses := true, named := ["congou/congoulaw04.one"], apart := false, laid := [("congou/congoulaw04.one", laid_congou_congoulaw04_one)] }
def CurvesSteepSaid : Prop := curvesSteepRow.holds Tryd.pinned (OpenSpec.ofChange curvesSteepSpec)

/-- ITS FALSE NEIGHBOUR: 'it returns false'. Refute it at one input. -/
def curvesSteepWrong : ChangeSpec := { name := "curvesSteep", fn := fun _ => fun
  | [d1, d2, d3, d4] => { results := [.lit (.bool false)], args := [d1, d2, d3, d4] }
  | _ => none }
def CurvesSteepWrongFalsely : Prop := curvesSteepRow.holds Tryd.pinned (OpenSpec.ofChange curvesSteepWrong)

/-- 'congoulaw04.CurvesSum': WHATEVER THE INPUT: true; the input reads as it did. -/
def curvesSumSpec : ChangeSpec := { name := "curvesSum", fn := fun _ => fun
  | [d1, d2, d3] => { results := [.lit (.bool true)], args := [d1, d2, d3] }
  | _ => none }
def curvesSumRow : OpenClaim := { program := "ytpnocmkpeogifaadoor", sum := "0ee1a171db1af9c6b4e5e18f6edddf8d52c87bab7991dac8e684a0f52225519d", func := "congou/congoulaw04.CurvesSum", spec := "curvesSum", recurses := true, named := ["congou/congoulaw04.one"], apart := false, laid := [("congou/congoulaw04.one", laid_congou_congoulaw04_one)] }
def CurvesSumSaid : Prop := curvesSumRow.holds Tryd.pinned (OpenSpec.ofChange curvesSumSpec)

/-- ITS FALSE NEIGHBOUR: 'it returns false'. Refute it at one input. -/
def curvesSumWrong : ChangeSpec := { name := "curvesSum", fn := fun _ => fun
  | [d1, d2, d3] => { results := [.lit (.bool false)], args := [d1, d2, d3] }
  | _ => none }
def CurvesSumWrongFalsely : Prop := curvesSumRow.holds Tryd.pinned (OpenSpec.ofChange curvesSumWrong)

/- THE SECOND FORM. 'bulk': how many values and letters a reading holds, each counted each time it is reached (what is shared counts as often as it is met; a slice's spare places count too). A statement '..UptoSaid' is the law's where the arguments, and the package variables that the reading takes, are together of bulk at most 1048576: NARROWER than '..Said'. Prove '..Said' where nothing that the law and all that it calls make is longer than what came in: it says more and counts as full. Else prove '..UptoSaid'. A law counts once. -/
mutual
def uptoBulk {H : Type} : DataW H → Nat
  | .lit (.string bytes) => bytes.length + 1
  | .lit _ => 1
  | .nil => 1
  | .ptr d => uptoBulk d + 1
  | .slice elems spare => uptoBulkAll elems + uptoBulkAll spare + 1
  | .agg parts => uptoBulkAll parts + 1
  | .iface _ d => uptoBulk d + 1
  | .map entries => uptoBulkEntries entries + 1
  | .held _ => 1
def uptoBulkAll {H : Type} : List (DataW H) → Nat
  | [] => 0
  | d :: r => uptoBulk d + uptoBulkAll r
def uptoBulkEntries {H : Type} : List (Lit × DataW H) → Nat
  | [] => 0
  | x :: r => uptoBulkEntry x + uptoBulkEntries r
def uptoBulkEntry {H : Type} : Lit × DataW H → Nat
  | (.string bytes, d) => bytes.length + uptoBulk d + 1
  | (_, d) => uptoBulk d + 1
 end
def uptoSmall : (H : Type) → List (DataW H) → Bool := fun _ ds => decide (uptoBulkAll ds ≤ 1048576)
def OpenSpec.upto (s : _root_.Go.ChangeSpec) : _root_.Go.OpenSpec := { _root_.Go.OpenSpec.ofChange s with cond := some uptoSmall }

/-- 'congoulaw04.CurvesOne', WHERE WHAT IT READS IS OF BULK AT MOST 1048576: true; the input reads as it did. -/
def curvesOneUptoRow : OpenClaim := { program := "ytpnocmkpeogifaadoor", sum := "0ee1a171db1af9c6b4e5e18f6edddf8d52c87bab7991dac8e684a0f52225519d", func := "congou/congoulaw04.CurvesOne", spec := "curvesOne", recurses := true, named := ["congou/congoulaw04.one"], apart := false, laid := [("congou/congoulaw04.one", laid_congou_congoulaw04_one)], narrowed := true }
def CurvesOneUptoSaid : Prop := curvesOneUptoRow.holds Tryd.pinned (OpenSpec.upto curvesOneSpec)

/-- 'congoulaw04.CurvesSteep', WHERE WHAT IT READS IS OF BULK AT MOST 1048576: true; the input reads as it did. -/
def curvesSteepUptoRow : OpenClaim := { program := "ytpnocmkpeogifaadoor", sum := "0ee1a171db1af9c6b4e5e18f6edddf8d52c87bab7991dac8e684a0f52225519d", func := "congou/congoulaw04.CurvesSteep", spec := "curvesSteep", recurses := true, named := ["congou/congoulaw04.one"], apart := false, laid := [("congou/congoulaw04.one", laid_congou_congoulaw04_one)], narrowed := true }
def CurvesSteepUptoSaid : Prop := curvesSteepUptoRow.holds Tryd.pinned (OpenSpec.upto curvesSteepSpec)

/-- 'congoulaw04.CurvesSum', WHERE WHAT IT READS IS OF BULK AT MOST 1048576: true; the input reads as it did. -/
def curvesSumUptoRow : OpenClaim := { program := "ytpnocmkpeogifaadoor", sum := "0ee1a171db1af9c6b4e5e18f6edddf8d52c87bab7991dac8e684a0f52225519d", func := "congou/congoulaw04.CurvesSum", spec := "curvesSum", recurses := true, named := ["congou/congoulaw04.one"], apart := false, laid := [("congou/congoulaw04.one", laid_congou_congoulaw04_one)], narrowed := true }
def CurvesSumUptoSaid : Prop := curvesSumUptoRow.holds Tryd.pinned (OpenSpec.upto curvesSumSpec)

end Rows
end Go.Proofs.YtpnocmkpeogifaaDoor
