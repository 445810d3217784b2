/-
  No cell of these rows narrows 'for every input' (looked for: loops, veiled, ifaces, maps, wideKeys, modest, calm, conditions, laid).
  DERIVED. THE GIVEN ROWS OF THIS SEAT. 11 by the template 'for every input the law returns true; each argument reads behind the call as it read before'; 0 by the template 'total and deterministic' (their statements: YtpnocmkpeogifaaTotals.lean).
  GIVEN WITH THE SEED: the statements are not yours to turn. If you find one false, say at which input.
  Laid BY PROGRAM, IN A SANDBOX (cutbox-rows.mjs): the forced cells as the released guide's own fill.sh prints them over the translation f54490022e2fce05… (all of the seat's roots in one cut). By AI agents, Wed Nov 11 2026. No macro, syntax, notation, axiom, sorry.
-/
import Derived.Test.YtpnocmkpeogifaaChecked
import GoSem.Claim
import GoSem.ClaimJoined
import GoSem.ClaimMapViews
import Derived.JoinedTies
import Derived.KernelRfl
namespace Go.Proofs.Ytpnocmkpeogifaa
/- THE CELL 'sum', in the pinned program and in every row, IS THE sha256 OF THE DUMP (.gsa) THAT YtpnocmkpeogifaaProg.lean LOADS. Nothing in Lean hashes anything: it is a label: what it is worth is what the hold of that sum in a sandbox is worth. -/
noncomputable def Try.pinned : Pinned := { name := "ytpnocmkpeogifaa", sum := "f54490022e2fce05d35c0ac86c2417f861f1879d405fbde5151c971738a4f4f0", checked := Try.checked }
namespace Rows
def none {H : Type} : Left H := { results := [], args := [] }

/-- 'congoulaw04.CurvesBetween': WHATEVER THE INPUT: true; the input reads as it did. -/
def curvesBetweenSpec : ChangeSpec := { name := "curvesBetween", fn := fun _ => fun
  | [d1, d2] => { results := [.lit (.bool true)], args := [d1, d2] }
  | _ => none }
def curvesBetweenRow : OpenClaim := { program := "ytpnocmkpeogifaa", sum := "f54490022e2fce05d35c0ac86c2417f861f1879d405fbde5151c971738a4f4f0", func := "congou/congoulaw04.CurvesBetween", spec := "curvesBetween", recurses := true, apart := false }
def CurvesBetweenSaid : Prop := curvesBetweenRow.holds Try.pinned (OpenSpec.ofChange curvesBetweenSpec)

/-- ITS FALSE NEIGHBOUR: 'it returns false'. Refute it at one input. -/
def curvesBetweenWrong : ChangeSpec := { name := "curvesBetween", fn := fun _ => fun
  | [d1, d2] => { results := [.lit (.bool false)], args := [d1, d2] }
  | _ => none }
def CurvesBetweenWrongFalsely : Prop := curvesBetweenRow.holds Try.pinned (OpenSpec.ofChange curvesBetweenWrong)

/-- 'congoulaw04.CurvesNear': WHATEVER THE INPUT: true; the input reads as it did. -/
def curvesNearSpec : ChangeSpec := { name := "curvesNear", fn := fun _ => fun
  | [d1, d2, d3, d4] => { results := [.lit (.bool true)], args := [d1, d2, d3, d4] }
  | _ => none }
def curvesNearRow : OpenClaim := { program := "ytpnocmkpeogifaa", sum := "f54490022e2fce05d35c0ac86c2417f861f1879d405fbde5151c971738a4f4f0", func := "congou/congoulaw04.CurvesNear", spec := "curvesNear", recurses := true, apart := false }
def CurvesNearSaid : Prop := curvesNearRow.holds Try.pinned (OpenSpec.ofChange curvesNearSpec)

/-- ITS FALSE NEIGHBOUR: 'it returns false'. Refute it at one input. -/
def curvesNearWrong : ChangeSpec := { name := "curvesNear", fn := fun _ => fun
  | [d1, d2, d3, d4] => { results := [.lit (.bool false)], args := [d1, d2, d3, d4] }
  | _ => none }
def CurvesNearWrongFalsely : Prop := curvesNearRow.holds Try.pinned (OpenSpec.ofChange curvesNearWrong)

/-- 'congoulaw04.CurvesValues': WHATEVER THE INPUT: true; the input reads as it did. -/
def curvesValuesSpec : ChangeSpec := { name := "curvesValues", fn := fun _ => fun
  | [d1, d2] => { results := [.lit (.bool true)], args := [d1, d2] }
  | _ => none }
def curvesValuesRow : OpenClaim := { program := "ytpnocmkpeogifaa", sum := "f54490022e2fce05d35c0ac86c2417f861f1879d405fbde5151c971738a4f4f0", func := "congou/congoulaw04.CurvesValues", spec := "curvesValues", recurses := true, apart := false }
def CurvesValuesSaid : Prop := curvesValuesRow.holds Try.pinned (OpenSpec.ofChange curvesValuesSpec)

/-- ITS FALSE NEIGHBOUR: 'it returns false'. Refute it at one input. -/
def curvesValuesWrong : ChangeSpec := { name := "curvesValues", fn := fun _ => fun
  | [d1, d2] => { results := [.lit (.bool false)], args := [d1, d2] }
  | _ => none }
def CurvesValuesWrongFalsely : Prop := curvesValuesRow.holds Try.pinned (OpenSpec.ofChange curvesValuesWrong)

/-- 'congoulaw04.CurvesChanges': WHATEVER THE INPUT: true; the input reads as it did. -/
def curvesChangesSpec : ChangeSpec := { name := "curvesChanges", fn := fun _ => fun
  | [d] => { results := [.lit (.bool true)], args := [d] }
  | _ => none }
def curvesChangesRow : OpenClaim := { program := "ytpnocmkpeogifaa", sum := "f54490022e2fce05d35c0ac86c2417f861f1879d405fbde5151c971738a4f4f0", func := "congou/congoulaw04.CurvesChanges", spec := "curvesChanges", unfollowed := true, recurses := true, apart := false }
def CurvesChangesSaid : Prop := curvesChangesRow.holds Try.pinned (OpenSpec.ofChange curvesChangesSpec)

/-- ITS FALSE NEIGHBOUR: 'it returns false'. Refute it at one input. -/
def curvesChangesWrong : ChangeSpec := { name := "curvesChanges", fn := fun _ => fun
  | [d] => { results := [.lit (.bool false)], args := [d] }
  | _ => none }
def CurvesChangesWrongFalsely : Prop := curvesChangesRow.holds Try.pinned (OpenSpec.ofChange curvesChangesWrong)

/-- 'congoulaw04.CurvesMirrored': WHATEVER THE INPUT: true; the input reads as it did. -/
def curvesMirroredSpec : ChangeSpec := { name := "curvesMirrored", fn := fun _ => fun
  | [d1, d2] => { results := [.lit (.bool true)], args := [d1, d2] }
  | _ => none }
def curvesMirroredRow : OpenClaim := { program := "ytpnocmkpeogifaa", sum := "f54490022e2fce05d35c0ac86c2417f861f1879d405fbde5151c971738a4f4f0", func := "congou/congoulaw04.CurvesMirrored", spec := "curvesMirrored", recurses := true, apart := false }
def CurvesMirroredSaid : Prop := curvesMirroredRow.holds Try.pinned (OpenSpec.ofChange curvesMirroredSpec)

/-- ITS FALSE NEIGHBOUR: 'it returns false'. Refute it at one input. -/
def curvesMirroredWrong : ChangeSpec := { name := "curvesMirrored", fn := fun _ => fun
  | [d1, d2] => { results := [.lit (.bool false)], args := [d1, d2] }
  | _ => none }
def CurvesMirroredWrongFalsely : Prop := curvesMirroredRow.holds Try.pinned (OpenSpec.ofChange curvesMirroredWrong)

/-- 'congoulaw04.CurvesStraight': WHATEVER THE INPUT: true; the input reads as it did. -/
def curvesStraightSpec : ChangeSpec := { name := "curvesStraight", fn := fun _ => fun
  | [d1, d2] => { results := [.lit (.bool true)], args := [d1, d2] }
  | _ => none }
def curvesStraightRow : OpenClaim := { program := "ytpnocmkpeogifaa", sum := "f54490022e2fce05d35c0ac86c2417f861f1879d405fbde5151c971738a4f4f0", func := "congou/congoulaw04.CurvesStraight", spec := "curvesStraight", recurses := true, apart := false }
def CurvesStraightSaid : Prop := curvesStraightRow.holds Try.pinned (OpenSpec.ofChange curvesStraightSpec)

/-- ITS FALSE NEIGHBOUR: 'it returns false'. Refute it at one input. -/
def curvesStraightWrong : ChangeSpec := { name := "curvesStraight", fn := fun _ => fun
  | [d1, d2] => { results := [.lit (.bool false)], args := [d1, d2] }
  | _ => none }
def CurvesStraightWrongFalsely : Prop := curvesStraightRow.holds Try.pinned (OpenSpec.ofChange curvesStraightWrong)

/-- 'congoulaw04.CurvesMirrors': WHATEVER THE INPUT: true; the input reads as it did. -/
def curvesMirrorsSpec : ChangeSpec := { name := "curvesMirrors", fn := fun _ => fun
  | [d1, d2] => { results := [.lit (.bool true)], args := [d1, d2] }
  | _ => none }
def curvesMirrorsRow : OpenClaim := { program := "ytpnocmkpeogifaa", sum := "f54490022e2fce05d35c0ac86c2417f861f1879d405fbde5151c971738a4f4f0", func := "congou/congoulaw04.CurvesMirrors", spec := "curvesMirrors", recurses := true, apart := false }
def CurvesMirrorsSaid : Prop := curvesMirrorsRow.holds Try.pinned (OpenSpec.ofChange curvesMirrorsSpec)

/-- ITS FALSE NEIGHBOUR: 'it returns false'. Refute it at one input. -/
def curvesMirrorsWrong : ChangeSpec := { name := "curvesMirrors", fn := fun _ => fun
  | [d1, d2] => { results := [.lit (.bool false)], args := [d1, d2] }
  | _ => none }
def CurvesMirrorsWrongFalsely : Prop := curvesMirrorsRow.holds Try.pinned (OpenSpec.ofChange curvesMirrorsWrong)

/-- 'congoulaw04.CurvesTurns': WHATEVER THE INPUT: true; the input reads as it did. -/
def curvesTurnsSpec : ChangeSpec := { name := "curvesTurns", fn := fun _ => fun
  | [d1, d2] => { results := [.lit (.bool true)], args := [d1, d2] }
  | _ => none }
def curvesTurnsRow : OpenClaim := { program := "ytpnocmkpeogifaa", sum := "f54490022e2fce05d35c0ac86c2417f861f1879d405fbde5151c971738a4f4f0", func := "congou/congoulaw04.CurvesTurns", spec := "curvesTurns", unfollowed := true, recurses := true, apart := false }
def CurvesTurnsSaid : Prop := curvesTurnsRow.holds Try.pinned (OpenSpec.ofChange curvesTurnsSpec)

/-- ITS FALSE NEIGHBOUR: 'it returns false'. Refute it at one input. -/
def curvesTurnsWrong : ChangeSpec := { name := "curvesTurns", fn := fun _ => fun
  | [d1, d2] => { results := [.lit (.bool false)], args := [d1, d2] }
  | _ => none }
def CurvesTurnsWrongFalsely : Prop := curvesTurnsRow.holds Try.pinned (OpenSpec.ofChange curvesTurnsWrong)

/-- 'congoulaw04.CurvesSlopes': WHATEVER THE INPUT: true; the input reads as it did. -/
def curvesSlopesSpec : ChangeSpec := { name := "curvesSlopes", fn := fun _ => fun
  | [d] => { results := [.lit (.bool true)], args := [d] }
  | _ => none }
def curvesSlopesRow : OpenClaim := { program := "ytpnocmkpeogifaa", sum := "f54490022e2fce05d35c0ac86c2417f861f1879d405fbde5151c971738a4f4f0", func := "congou/congoulaw04.CurvesSlopes", spec := "curvesSlopes", recurses := true, apart := false }
def CurvesSlopesSaid : Prop := curvesSlopesRow.holds Try.pinned (OpenSpec.ofChange curvesSlopesSpec)

/-- ITS FALSE NEIGHBOUR: 'it returns false'. Refute it at one input. -/
def curvesSlopesWrong : ChangeSpec := { name := "curvesSlopes", fn := fun _ => fun
  | [d] => { results := [.lit (.bool false)], args := [d] }
  | _ => none }
def CurvesSlopesWrongFalsely : Prop := curvesSlopesRow.holds Try.pinned (OpenSpec.ofChange curvesSlopesWrong)

/-- 'congoulaw04.CurvesKnot': WHATEVER THE INPUT: true; the input reads as it did. -/
def curvesKnotSpec : ChangeSpec := { name := "curvesKnot", fn := fun _ => fun
  | [d1, d2, d3] => { results := [.lit (.bool true)], args := [d1, d2, d3] }
  | _ => none }
def curvesKnotRow : OpenClaim := { program := "ytpnocmkpeogifaa", sum := "f54490022e2fce05d35c0ac86c2417f861f1879d405fbde5151c971738a4f4f0", func := "congou/congoulaw04.CurvesKnot", spec := "curvesKnot", unfollowed := true, recurses := true, apart := false }
def CurvesKnotSaid : Prop := curvesKnotRow.holds Try.pinned (OpenSpec.ofChange curvesKnotSpec)

/-- ITS FALSE NEIGHBOUR: 'it returns false'. Refute it at one input. -/
def curvesKnotWrong : ChangeSpec := { name := "curvesKnot", fn := fun _ => fun
  | [d1, d2, d3] => { results := [.lit (.bool false)], args := [d1, d2, d3] }
  | _ => none }
def CurvesKnotWrongFalsely : Prop := curvesKnotRow.holds Try.pinned (OpenSpec.ofChange curvesKnotWrong)

/-- 'congoulaw04.CurvesInserts': WHATEVER THE INPUT: true; the input reads as it did. -/
def curvesInsertsSpec : ChangeSpec := { name := "curvesInserts", fn := fun _ => fun
  | [d1, d2] => { results := [.lit (.bool true)], args := [d1, d2] }
  | _ => none }
def curvesInsertsRow : OpenClaim := { program := "ytpnocmkpeogifaa", sum := "f54490022e2fce05d35c0ac86c2417f861f1879d405fbde5151c971738a4f4f0", func := "congou/congoulaw04.CurvesInserts", spec := "curvesInserts", unfollowed := true, recurses := true, apart := false }
def CurvesInsertsSaid : Prop := curvesInsertsRow.holds Try.pinned (OpenSpec.ofChange curvesInsertsSpec)

/-- ITS FALSE NEIGHBOUR: 'it returns false'. Refute it at one input. -/
def curvesInsertsWrong : ChangeSpec := { name := "curvesInserts", fn := fun _ => fun
  | [d1, d2] => { results := [.lit (.bool false)], args := [d1, d2] }
  | _ => none }
def CurvesInsertsWrongFalsely : Prop := curvesInsertsRow.holds Try.pinned (OpenSpec.ofChange curvesInsertsWrong)

/- THE SECOND FORM. 'bulk': how many values and letters a reading holds, each counted each time it is reached (what is shared counts as often as it is met; a slice's spare places count too). A statement '..UptoSaid' is the law's where the arguments, and the package variables that the reading takes, are together of bulk at most 1048576: NARROWER than '..Said'. Prove '..Said' where nothing that the law and all that it calls make is longer than what came in: it says more and counts as full. Else prove '..UptoSaid'. A law counts once. -/
mutual
def uptoBulk {H : Type} : DataW H → Nat
  | .lit (.string bytes) => bytes.length + 1
  | .lit _ => 1
  | .nil => 1
  | .ptr d => uptoBulk d + 1
  | .slice elems spare => uptoBulkAll elems + uptoBulkAll spare + 1
  | .agg parts => uptoBulkAll parts + 1
  | .iface _ d => uptoBulk d + 1
  | .map entries => uptoBulkEntries entries + 1
  | .held _ => 1
def uptoBulkAll {H : Type} : List (DataW H) → Nat
  | [] => 0
  | d :: r => uptoBulk d + uptoBulkAll r
def uptoBulkEntries {H : Type} : List (Lit × DataW H) → Nat
  | [] => 0
  | x :: r => uptoBulkEntry x + uptoBulkEntries r
def uptoBulkEntry {H : Type} : Lit × DataW H → Nat
  | (.string bytes, d) => bytes.length + uptoBulk d + 1
  | (_, d) => uptoBulk d + 1
 end
def uptoSmall : (H : Type) → List (DataW H) → Bool := fun _ ds => decide (uptoBulkAll ds ≤ 1048576)
def OpenSpec.upto (s : _root_.Go.ChangeSpec) : _root_.Go.OpenSpec := { _root_.Go.OpenSpec.ofChange s with cond := some uptoSmall }

/-- 'congoulaw04.CurvesBetween', WHERE WHAT IT READS IS OF BULK AT MOST 1048576: true; the input reads as it did. -/
def curvesBetweenUptoRow : OpenClaim := { program := "ytpnocmkpeogifaa", sum := "f54490022e2fce05d35c0ac86c2417f861f1879d405fbde5151c971738a4f4f0", func := "congou/congoulaw04.CurvesBetween", spec := "curvesBetween", recurses := true, apart := false, narrowed := true }
def CurvesBetweenUptoSaid : Prop := curvesBetweenUptoRow.holds Try.pinned (OpenSpec.upto curvesBetweenSpec)

/-- 'congoulaw04.CurvesNear', WHERE WHAT IT READS IS OF BULK AT MOST 1048576: true; the input reads as it did. -/
def curvesNearUptoRow : OpenClaim := { program := "ytpnocmkpeogifaa", sum := "f54490022e2fce05d35c0ac86c2417f861f1879d405fbde5151c971738a4f4f0", func := "congou/congoulaw04.CurvesNear", spec := "curvesNear", recurses := true, apart := false, narrowed := true }
def CurvesNearUptoSaid : Prop := curvesNearUptoRow.holds Try.pinned (OpenSpec.upto curvesNearSpec)

/-- 'congoulaw04.CurvesValues', WHERE WHAT IT READS IS OF BULK AT MOST 1048576: true; the input reads as it did. -/
def curvesValuesUptoRow : OpenClaim := { program := "ytpnocmkpeogifaa", sum := "f54490022e2fce05d35c0ac86c2417f861f1879d405fbde5151c971738a4f4f0", func := "congou/congoulaw04.CurvesValues", spec := "curvesValues", recurses := true, apart := false, narrowed := true }
def CurvesValuesUptoSaid : Prop := curvesValuesUptoRow.holds Try.pinned (OpenSpec.upto curvesValuesSpec)

/-- 'congoulaw04.CurvesChanges', WHERE WHAT IT READS IS OF BULK AT MOST 1048576: true; the input reads as it did. -/
def curvesChangesUptoRow : OpenClaim := { program := "ytpnocmkpeogifaa", sum := "f54490022e2fce05d35c0ac86c2417f861f1879d405fbde5151c971738a4f4f0", func := "congou/congoulaw04.CurvesChanges", spec := "curvesChanges", unfollowed := true, recurses := true, apart := false, narrowed := true }
def CurvesChangesUptoSaid : Prop := curvesChangesUptoRow.holds Try.pinned (OpenSpec.upto curvesChangesSpec)

/-- 'congoulaw04.CurvesMirrored', WHERE WHAT IT READS IS OF BULK AT MOST 1048576: true; the input reads as it did. -/
def curvesMirroredUptoRow : OpenClaim := { program := "ytpnocmkpeogifaa", sum := "f54490022e2fce05d35c0ac86c2417f861f1879d405fbde5151c971738a4f4f0", func := "congou/congoulaw04.CurvesMirrored", spec := "curvesMirrored", recurses := true, apart := false, narrowed := true }
def CurvesMirroredUptoSaid : Prop := curvesMirroredUptoRow.holds Try.pinned (OpenSpec.upto curvesMirroredSpec)

/-- 'congoulaw04.CurvesStraight', WHERE WHAT IT READS IS OF BULK AT MOST 1048576: true; the input reads as it did. -/
def curvesStraightUptoRow : OpenClaim := { program := "ytpnocmkpeogifaa", sum := "f54490022e2fce05d35c0ac86c2417f861f1879d405fbde5151c971738a4f4f0", func := "congou/congoulaw04.CurvesStraight", spec := "curvesStraight", recurses := true, apart := false, narrowed := true }
def CurvesStraightUptoSaid : Prop := curvesStraightUptoRow.holds Try.pinned (OpenSpec.upto curvesStraightSpec)

/-- 'congoulaw04.CurvesMirrors', WHERE WHAT IT READS IS OF BULK AT MOST 1048576: true; the input reads as it did. -/
def curvesMirrorsUptoRow : OpenClaim := { program := "ytpnocmkpeogifaa", sum := "f54490022e2fce05d35c0ac86c2417f861f1879d405fbde5151c971738a4f4f0", func := "congou/congoulaw04.CurvesMirrors", spec := "curvesMirrors", recurses := true, apart := false, narrowed := true }
def CurvesMirrorsUptoSaid : Prop := curvesMirrorsUptoRow.holds Try.pinned (OpenSpec.upto curvesMirrorsSpec)

/-- 'congoulaw04.CurvesTurns', WHERE WHAT IT READS IS OF BULK AT MOST 1048576: true; the input reads as it did. -/
def curvesTurnsUptoRow : OpenClaim := { program := "ytpnocmkpeogifaa", sum := "f54490022e2fce05d35c0ac86c2417f861f1879d405fbde5151c971738a4f4f0", func := "congou/congoulaw04.CurvesTurns", spec := "curvesTurns", unfollowed := true, recurses := true, apart := false, narrowed := true }
def CurvesTurnsUptoSaid : Prop := curvesTurnsUptoRow.holds Try.pinned (OpenSpec.upto curvesTurnsSpec)

/-- 'congoulaw04.CurvesSlopes', WHERE WHAT IT READS IS OF BULK AT MOST 1048576: true; the input reads as it did. -/
def curvesSlopesUptoRow : OpenClaim := { program := "ytpnocmkpeogifaa", sum := "f54490022e2fce05d35c0ac86c2417f861f1879d405fbde5151c971738a4f4f0", func := "congou/congoulaw04.CurvesSlopes", spec := "curvesSlopes", recurses := true, apart := false, narrowed := true }
def CurvesSlopesUptoSaid : Prop := curvesSlopesUptoRow.holds Try.pinned (OpenSpec.upto curvesSlopesSpec)

/-- 'congoulaw04.CurvesKnot', WHERE WHAT IT READS IS OF BULK AT MOST 1048576: true; the input reads as it did. -/
def curvesKnotUptoRow : OpenClaim := { program := "ytpnocmkpeogifaa", sum := "f54490022e2fce05d35c0ac86c2417f861f1879d405fbde5151c971738a4f4f0", func := "congou/congoulaw04.CurvesKnot", spec := "curvesKnot", unfollowed := true, recurses := true, apart := false, narrowed := true }
def CurvesKnotUptoSaid : Prop := curvesKnotUptoRow.holds Try.pinned (OpenSpec.upto curvesKnotSpec)

/-- 'congoulaw04.CurvesInserts', WHERE WHAT IT READS IS OF BULK AT MOST 1048576: true; the input reads as it did. -/
def curvesInsertsUptoRow : OpenClaim := { program := "ytpnocmkpeogifaa", sum := "f54490022e2fce05d35c0ac86c2417f861f1879d405fbde5151c971738a4f4f0", func := "congou/congoulaw04.CurvesInserts", spec := "curvesInserts", unfollowed := true, recurses := true, apart := false, narrowed := true }
def CurvesInsertsUptoSaid : Prop := curvesInsertsUptoRow.holds Try.pinned (OpenSpec.upto curvesInsertsSpec)

end Rows
end Go.Proofs.Ytpnocmkpeogifaa
