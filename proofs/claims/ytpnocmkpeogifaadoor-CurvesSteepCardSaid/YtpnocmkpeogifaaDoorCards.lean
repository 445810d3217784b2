/-
  DERIVED. GIVEN WITH THE SEED: THE CARDS: each row of YtpnocmkpeogifaaDoorRows.lean that lists a variable, with what it lists TIED to the program's text (the seventh form; the later family's looks); each row that meets fmt, with fmt's text TOLD by the authors' own Lean function (tested against real Go, not proved from fmt's source: count such statements apart). THE CARD IS WHAT COUNTS. Prove the row's statement (the work); the ties are given (YtpnocmkpeogifaaDoorTie.lean); close each card by the builder's one call (the guide's Derived/Test/ToyasCard.lean, 'card_holds'). Laid BY PROGRAM, IN A SANDBOX (cutbox-door.mjs). By AI agents, Wed Nov 11 2026. No macro, syntax, notation, axiom, sorry.
-/
import Derived.Test.YtpnocmkpeogifaaDoorRows
import GoSem.ClaimSeven
namespace Go.Proofs.YtpnocmkpeogifaaDoor
namespace Rows

/-- THE TIED CARD OF 'congoulaw04.CurvesOne'. -/
def curvesOneCard : Claim7 := { stood := { row := curvesOneRow, standIns := [], harness := (true, "ed26d6e970ff1c243dbfb9f68127b0bd63720a52ea1db00a5859c90f9e9fdc6b"), looks := false }, kinds := [], alts := [], laidByText := true, laidKinds := [.data], laidTests := true, laidLooks := .later }
def CurvesOneCardSaid : Prop := Claim7.holds Tryd.pinned (.plain (OpenSpec.ofChange curvesOneSpec)) curvesOneCard

/-- THE TIED CARD OF 'congoulaw04.CurvesSteep'. -/
def curvesSteepCard : Claim7 := { stood := { row := curvesSteepRow, standIns := [], harness := (true, "ed26d6e970ff1c243dbfb9f68127b0bd63720a52ea1db00a5859c90f9e9fdc6b"), looks := false }, kinds := [], alts := [], laidByText := true, laidKinds := [.data], laidTests := true, laidLooks := .later }
def CurvesSteepCardSaid : Prop := Claim7.holds Tryd.pinned (.plain (OpenSpec.ofChange curvesSteepSpec)) curvesSteepCard

/-- THE TIED CARD OF 'congoulaw04.CurvesSum'. -/
def curvesSumCard : Claim7 := { stood := { row := curvesSumRow, standIns := [], harness := (true, "ed26d6e970ff1c243dbfb9f68127b0bd63720a52ea1db00a5859c90f9e9fdc6b"), looks := false }, kinds := [], alts := [], laidByText := true, laidKinds := [.data], laidTests := true, laidLooks := .later }
def CurvesSumCardSaid : Prop := Claim7.holds Tryd.pinned (.plain (OpenSpec.ofChange curvesSumSpec)) curvesSumCard

/-- THE SECOND FORM's CARD OF 'congoulaw04.CurvesOne'. -/
def curvesOneUptoCard : Claim7 := { stood := { row := curvesOneUptoRow, standIns := [], harness := (true, "ed26d6e970ff1c243dbfb9f68127b0bd63720a52ea1db00a5859c90f9e9fdc6b"), looks := false }, kinds := [], alts := [], laidByText := true, laidKinds := [.data], laidTests := true, laidLooks := .later }
def CurvesOneUptoCardSaid : Prop := Claim7.holds Tryd.pinned (.plain (OpenSpec.upto curvesOneSpec)) curvesOneUptoCard

/-- THE SECOND FORM's CARD OF 'congoulaw04.CurvesSteep'. -/
def curvesSteepUptoCard : Claim7 := { stood := { row := curvesSteepUptoRow, standIns := [], harness := (true, "ed26d6e970ff1c243dbfb9f68127b0bd63720a52ea1db00a5859c90f9e9fdc6b"), looks := false }, kinds := [], alts := [], laidByText := true, laidKinds := [.data], laidTests := true, laidLooks := .later }
def CurvesSteepUptoCardSaid : Prop := Claim7.holds Tryd.pinned (.plain (OpenSpec.upto curvesSteepSpec)) curvesSteepUptoCard

/-- THE SECOND FORM's CARD OF 'congoulaw04.CurvesSum'. -/
def curvesSumUptoCard : Claim7 := { stood := { row := curvesSumUptoRow, standIns := [], harness := (true, "ed26d6e970ff1c243dbfb9f68127b0bd63720a52ea1db00a5859c90f9e9fdc6b"), looks := false }, kinds := [], alts := [], laidByText := true, laidKinds := [.data], laidTests := true, laidLooks := .later }
def CurvesSumUptoCardSaid : Prop := Claim7.holds Tryd.pinned (.plain (OpenSpec.upto curvesSumSpec)) curvesSumUptoCard
end Rows
end Go.Proofs.YtpnocmkpeogifaaDoor
