/- Squares of a line: its blocks sum to the filled ones; the blocks of a line are a clue; shown number by number. -/
import Derived.Test.YtkieehjpnjplmaaDoorXf35
import Derived.Test.YtkieehjpnjplmaaDoorXf7
namespace Go.Proofs.YtkieehjpnjplmaaDoor.Pure
open Go.RowKit Go.Proofs.YtkieehjpnjplmaaDoor.X Go.Proofs.YtkieehjpnjplmaaDoorW.PrintWords Go.Proofs.YtkieehjpnjplmaaDoorW.PrintLast
set_option linter.unusedVariables false
set_option linter.unusedSimpArgs false

/-- the blocks of a line -/
def blk (x : Nat) : List Int := (squares_blocks.f 6 (x : Int)).getD []
/-- the bits of a number of five -/
def bit (x j : Nat) : Int := ((x / 2 ^ j % 2 : Nat) : Int)
def pc (x : Nat) : Int := bit x 0 + bit x 1 + bit x 2 + bit x 3 + bit x 4
def blkOk (x : Nat) : Bool := decide (squares_blocks.f 6 (x : Int) = some (blk x) ∧ (blk x).sum = pc x ∧ (blk x).length ≤ 3) && (blk x).all fun y => decide (1 ≤ y ∧ y ≤ 5)
theorem blk_all : ∀ x, x < 32 → blkOk x = true := by decide +kernel
theorem clue_all : ∀ w : Nat, w < 6 → 1 ≤ w → ∀ x : Nat, x < 2 ^ w → squares_isClue.f 60 (w : Int) (blk x) = some true := by decide +kernel
theorem top_blocks : congoutop_blocks.f 20 = some true := by decide +kernel
end Go.Proofs.YtkieehjpnjplmaaDoor.Pure
