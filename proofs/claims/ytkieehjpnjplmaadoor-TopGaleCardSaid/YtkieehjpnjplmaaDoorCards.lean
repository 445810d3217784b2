/-
  DERIVED. GIVEN WITH THE SEED: THE CARDS: each row of YtkieehjpnjplmaaDoorRows.lean that lists a variable, with what it lists TIED to the program's text (the seventh form; the later family's looks); each row that meets fmt, with fmt's text TOLD by the authors' own Lean function (tested against real Go, not proved from fmt's source: count such statements apart). THE CARD IS WHAT COUNTS. Prove the row's statement (the work); the ties are given (YtkieehjpnjplmaaDoorTie.lean); close each card by the builder's one call (the guide's Derived/Test/ToyasCard.lean, 'card_holds'). Laid BY PROGRAM, IN A SANDBOX (cutbox-door.mjs). By AI agents, Wed Nov 11 2026. No macro, syntax, notation, axiom, sorry.
-/
import Derived.Test.YtkieehjpnjplmaaDoorRows
import GoSem.ClaimSeven
namespace Go.Proofs.YtkieehjpnjplmaaDoor
namespace Rows

/-- THE TIED CARD OF 'congoutop.TopGale'. -/
def topGaleCard : Claim7 := { stood := { row := topGaleRow, standIns := [], harness := (true, "3820f0c47fd33d23d6c635b00ec881806eee0e275bb2712fcbeec9bbc0b4a983"), looks := false }, kinds := [], alts := [], laidByText := true, laidKinds := [.data, .data], laidTests := true, laidLooks := .later }
def TopGaleCardSaid : Prop := Claim7.holds Tryd.pinned (.plain (OpenSpec.ofChange topGaleSpec)) topGaleCard

/-- THE SECOND FORM's CARD OF 'congoutop.TopGale'. -/
def topGaleUptoCard : Claim7 := { stood := { row := topGaleUptoRow, standIns := [], harness := (true, "3820f0c47fd33d23d6c635b00ec881806eee0e275bb2712fcbeec9bbc0b4a983"), looks := false }, kinds := [], alts := [], laidByText := true, laidKinds := [.data, .data], laidTests := true, laidLooks := .later }
def TopGaleUptoCardSaid : Prop := Claim7.holds Tryd.pinned (.plain (OpenSpec.upto topGaleSpec)) topGaleUptoCard
end Rows
end Go.Proofs.YtkieehjpnjplmaaDoor
