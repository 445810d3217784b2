/-
  No cell of these rows narrows 'for every input' (looked for: loops, veiled, ifaces, maps, wideKeys, modest, calm, conditions, laid).
  DERIVED. THE GIVEN ROWS OF THIS SEAT. 14 by the template 'for every input the law returns true; each argument reads behind the call as it read before'; 0 by the template 'total and deterministic' (their statements: YtefmafbbnkkpjaaTotals.lean).
  GIVEN WITH THE SEED: the statements are not yours to turn. If you find one false, say at which input.
  Laid BY PROGRAM, IN A SANDBOX (cutbox-rows.mjs): the forced cells as the released guide's own fill.sh prints them over the translation f6428c4ceaf8bc8f… (all of the seat's roots in one cut). By AI agents, Wed Nov 11 2026. No macro, syntax, notation, axiom, sorry.
-/
import Derived.Test.YtefmafbbnkkpjaaChecked
import GoSem.Claim
import GoSem.ClaimJoined
import GoSem.ClaimMapViews
import Derived.JoinedTies
import Derived.KernelRfl
namespace Go.Proofs.Ytefmafbbnkkpjaa
/- THE CELL 'sum', in the pinned program and in every row, IS THE sha256 OF THE DUMP (.gsa) THAT YtefmafbbnkkpjaaProg.lean LOADS. Nothing in Lean hashes anything: it is a label: what it is worth is what the hold of that sum in a sandbox is worth. -/
noncomputable def Try.pinned : Pinned := { name := "ytefmafbbnkkpjaa", sum := "f6428c4ceaf8bc8f977c4c37e849a92d71d9dabce0178dd7f6cd02e3364bdf05", checked := Try.checked }
namespace Rows
def none {H : Type} : Left H := { results := [], args := [] }

/-- 'congoulaw01.SharesCompares': WHATEVER THE INPUT: true; the input reads as it did. -/
def sharesComparesSpec : ChangeSpec := { name := "sharesCompares", fn := fun _ => fun
  | [d1, d2] => { results := [.lit (.bool true)], args := [d1, d2] }
  | _ => none }
def sharesComparesRow : OpenClaim := { program := "ytefmafbbnkkpjaa", sum := "f6428c4ceaf8bc8f977c4c37e849a92d71d9dabce0178dd7f6cd02e3364bdf05", func := "congou/congoulaw01.SharesCompares", spec := "sharesCompares", unfollowed := true, recurses := true, apart := false }
def SharesComparesSaid : Prop := sharesComparesRow.holds Try.pinned (OpenSpec.ofChange sharesComparesSpec)

/-- ITS FALSE NEIGHBOUR: 'it returns false'. Refute it at one input. -/
def sharesComparesWrong : ChangeSpec := { name := "sharesCompares", fn := fun _ => fun
  | [d1, d2] => { results := [.lit (.bool false)], args := [d1, d2] }
  | _ => none }
def SharesComparesWrongFalsely : Prop := sharesComparesRow.holds Try.pinned (OpenSpec.ofChange sharesComparesWrong)

/-- 'congoulaw01.SharesPowers': WHATEVER THE INPUT: true; the input reads as it did. -/
def sharesPowersSpec : ChangeSpec := { name := "sharesPowers", fn := fun _ => fun
  | [d1, d2] => { results := [.lit (.bool true)], args := [d1, d2] }
  | _ => none }
def sharesPowersRow : OpenClaim := { program := "ytefmafbbnkkpjaa", sum := "f6428c4ceaf8bc8f977c4c37e849a92d71d9dabce0178dd7f6cd02e3364bdf05", func := "congou/congoulaw01.SharesPowers", spec := "sharesPowers", unfollowed := true, recurses := true, apart := false }
def SharesPowersSaid : Prop := sharesPowersRow.holds Try.pinned (OpenSpec.ofChange sharesPowersSpec)

/-- ITS FALSE NEIGHBOUR: 'it returns false'. Refute it at one input. -/
def sharesPowersWrong : ChangeSpec := { name := "sharesPowers", fn := fun _ => fun
  | [d1, d2] => { results := [.lit (.bool false)], args := [d1, d2] }
  | _ => none }
def SharesPowersWrongFalsely : Prop := sharesPowersRow.holds Try.pinned (OpenSpec.ofChange sharesPowersWrong)

/-- 'congoulaw01.SharesMuirhead': WHATEVER THE INPUT: true; the input reads as it did. -/
def sharesMuirheadSpec : ChangeSpec := { name := "sharesMuirhead", fn := fun _ => fun
  | [d1, d2, d3] => { results := [.lit (.bool true)], args := [d1, d2, d3] }
  | _ => none }
def sharesMuirheadRow : OpenClaim := { program := "ytefmafbbnkkpjaa", sum := "f6428c4ceaf8bc8f977c4c37e849a92d71d9dabce0178dd7f6cd02e3364bdf05", func := "congou/congoulaw01.SharesMuirhead", spec := "sharesMuirhead", unfollowed := true, recurses := true, apart := false }
def SharesMuirheadSaid : Prop := sharesMuirheadRow.holds Try.pinned (OpenSpec.ofChange sharesMuirheadSpec)

/-- ITS FALSE NEIGHBOUR: 'it returns false'. Refute it at one input. -/
def sharesMuirheadWrong : ChangeSpec := { name := "sharesMuirhead", fn := fun _ => fun
  | [d1, d2, d3] => { results := [.lit (.bool false)], args := [d1, d2, d3] }
  | _ => none }
def SharesMuirheadWrongFalsely : Prop := sharesMuirheadRow.holds Try.pinned (OpenSpec.ofChange sharesMuirheadWrong)

/-- 'congoulaw01.SharesMeets': WHATEVER THE INPUT: true; the input reads as it did. -/
def sharesMeetsSpec : ChangeSpec := { name := "sharesMeets", fn := fun _ => fun
  | [d1, d2] => { results := [.lit (.bool true)], args := [d1, d2] }
  | _ => none }
def sharesMeetsRow : OpenClaim := { program := "ytefmafbbnkkpjaa", sum := "f6428c4ceaf8bc8f977c4c37e849a92d71d9dabce0178dd7f6cd02e3364bdf05", func := "congou/congoulaw01.SharesMeets", spec := "sharesMeets", unfollowed := true, recurses := true, apart := false }
def SharesMeetsSaid : Prop := sharesMeetsRow.holds Try.pinned (OpenSpec.ofChange sharesMeetsSpec)

/-- ITS FALSE NEIGHBOUR: 'it returns false'. Refute it at one input. -/
def sharesMeetsWrong : ChangeSpec := { name := "sharesMeets", fn := fun _ => fun
  | [d1, d2] => { results := [.lit (.bool false)], args := [d1, d2] }
  | _ => none }
def SharesMeetsWrongFalsely : Prop := sharesMeetsRow.holds Try.pinned (OpenSpec.ofChange sharesMeetsWrong)

/-- 'congoulaw01.SharesLattice': WHATEVER THE INPUT: true; the input reads as it did. -/
def sharesLatticeSpec : ChangeSpec := { name := "sharesLattice", fn := fun _ => fun
  | [d1, d2, d3] => { results := [.lit (.bool true)], args := [d1, d2, d3] }
  | _ => none }
def sharesLatticeRow : OpenClaim := { program := "ytefmafbbnkkpjaa", sum := "f6428c4ceaf8bc8f977c4c37e849a92d71d9dabce0178dd7f6cd02e3364bdf05", func := "congou/congoulaw01.SharesLattice", spec := "sharesLattice", unfollowed := true, recurses := true, apart := false }
def SharesLatticeSaid : Prop := sharesLatticeRow.holds Try.pinned (OpenSpec.ofChange sharesLatticeSpec)

/-- ITS FALSE NEIGHBOUR: 'it returns false'. Refute it at one input. -/
def sharesLatticeWrong : ChangeSpec := { name := "sharesLattice", fn := fun _ => fun
  | [d1, d2, d3] => { results := [.lit (.bool false)], args := [d1, d2, d3] }
  | _ => none }
def SharesLatticeWrongFalsely : Prop := sharesLatticeRow.holds Try.pinned (OpenSpec.ofChange sharesLatticeWrong)

/-- 'congoulaw01.SharesGives': WHATEVER THE INPUT: true; the input reads as it did. -/
def sharesGivesSpec : ChangeSpec := { name := "sharesGives", fn := fun _ => fun
  | [d1, d2, d3] => { results := [.lit (.bool true)], args := [d1, d2, d3] }
  | _ => none }
def sharesGivesRow : OpenClaim := { program := "ytefmafbbnkkpjaa", sum := "f6428c4ceaf8bc8f977c4c37e849a92d71d9dabce0178dd7f6cd02e3364bdf05", func := "congou/congoulaw01.SharesGives", spec := "sharesGives", unfollowed := true, recurses := true, apart := false }
def SharesGivesSaid : Prop := sharesGivesRow.holds Try.pinned (OpenSpec.ofChange sharesGivesSpec)

/-- ITS FALSE NEIGHBOUR: 'it returns false'. Refute it at one input. -/
def sharesGivesWrong : ChangeSpec := { name := "sharesGives", fn := fun _ => fun
  | [d1, d2, d3] => { results := [.lit (.bool false)], args := [d1, d2, d3] }
  | _ => none }
def SharesGivesWrongFalsely : Prop := sharesGivesRow.holds Try.pinned (OpenSpec.ofChange sharesGivesWrong)

/-- 'congoulaw01.SharesOver': WHATEVER THE INPUT: true; the input reads as it did. -/
def sharesOverSpec : ChangeSpec := { name := "sharesOver", fn := fun _ => fun
  | [d1, d2] => { results := [.lit (.bool true)], args := [d1, d2] }
  | _ => none }
def sharesOverRow : OpenClaim := { program := "ytefmafbbnkkpjaa", sum := "f6428c4ceaf8bc8f977c4c37e849a92d71d9dabce0178dd7f6cd02e3364bdf05", func := "congou/congoulaw01.SharesOver", spec := "sharesOver", unfollowed := true, recurses := true, apart := false }
def SharesOverSaid : Prop := sharesOverRow.holds Try.pinned (OpenSpec.ofChange sharesOverSpec)

/-- ITS FALSE NEIGHBOUR: 'it returns false'. Refute it at one input. -/
def sharesOverWrong : ChangeSpec := { name := "sharesOver", fn := fun _ => fun
  | [d1, d2] => { results := [.lit (.bool false)], args := [d1, d2] }
  | _ => none }
def SharesOverWrongFalsely : Prop := sharesOverRow.holds Try.pinned (OpenSpec.ofChange sharesOverWrong)

/-- 'congoulaw01.SharesLess': WHATEVER THE INPUT: true; the input reads as it did. -/
def sharesLessSpec : ChangeSpec := { name := "sharesLess", fn := fun _ => fun
  | [d1, d2, d3] => { results := [.lit (.bool true)], args := [d1, d2, d3] }
  | _ => none }
def sharesLessRow : OpenClaim := { program := "ytefmafbbnkkpjaa", sum := "f6428c4ceaf8bc8f977c4c37e849a92d71d9dabce0178dd7f6cd02e3364bdf05", func := "congou/congoulaw01.SharesLess", spec := "sharesLess", unfollowed := true, recurses := true, apart := false }
def SharesLessSaid : Prop := sharesLessRow.holds Try.pinned (OpenSpec.ofChange sharesLessSpec)

/-- ITS FALSE NEIGHBOUR: 'it returns false'. Refute it at one input. -/
def sharesLessWrong : ChangeSpec := { name := "sharesLess", fn := fun _ => fun
  | [d1, d2, d3] => { results := [.lit (.bool false)], args := [d1, d2, d3] }
  | _ => none }
def SharesLessWrongFalsely : Prop := sharesLessRow.holds Try.pinned (OpenSpec.ofChange sharesLessWrong)

/-- 'congoulaw01.SharesNext': WHATEVER THE INPUT: true; the input reads as it did. -/
def sharesNextSpec : ChangeSpec := { name := "sharesNext", fn := fun _ => fun
  | [d] => { results := [.lit (.bool true)], args := [d] }
  | _ => none }
def sharesNextRow : OpenClaim := { program := "ytefmafbbnkkpjaa", sum := "f6428c4ceaf8bc8f977c4c37e849a92d71d9dabce0178dd7f6cd02e3364bdf05", func := "congou/congoulaw01.SharesNext", spec := "sharesNext", unfollowed := true, recurses := true, apart := false }
def SharesNextSaid : Prop := sharesNextRow.holds Try.pinned (OpenSpec.ofChange sharesNextSpec)

/-- ITS FALSE NEIGHBOUR: 'it returns false'. Refute it at one input. -/
def sharesNextWrong : ChangeSpec := { name := "sharesNext", fn := fun _ => fun
  | [d] => { results := [.lit (.bool false)], args := [d] }
  | _ => none }
def SharesNextWrongFalsely : Prop := sharesNextRow.holds Try.pinned (OpenSpec.ofChange sharesNextWrong)

/-- 'congoulaw01.SharesSplits': WHATEVER THE INPUT: true; the input reads as it did. -/
def sharesSplitsSpec : ChangeSpec := { name := "sharesSplits", fn := fun _ => fun
  | [d1, d2, d3] => { results := [.lit (.bool true)], args := [d1, d2, d3] }
  | _ => none }
def sharesSplitsRow : OpenClaim := { program := "ytefmafbbnkkpjaa", sum := "f6428c4ceaf8bc8f977c4c37e849a92d71d9dabce0178dd7f6cd02e3364bdf05", func := "congou/congoulaw01.SharesSplits", spec := "sharesSplits", unfollowed := true, recurses := true, apart := false }
def SharesSplitsSaid : Prop := sharesSplitsRow.holds Try.pinned (OpenSpec.ofChange sharesSplitsSpec)

/-- ITS FALSE NEIGHBOUR: 'it returns false'. Refute it at one input. -/
def sharesSplitsWrong : ChangeSpec := { name := "sharesSplits", fn := fun _ => fun
  | [d1, d2, d3] => { results := [.lit (.bool false)], args := [d1, d2, d3] }
  | _ => none }
def SharesSplitsWrongFalsely : Prop := sharesSplitsRow.holds Try.pinned (OpenSpec.ofChange sharesSplitsWrong)

/-- 'congoulaw01.SharesParted': WHATEVER THE INPUT: true; the input reads as it did. -/
def sharesPartedSpec : ChangeSpec := { name := "sharesParted", fn := fun _ => fun
  | [d] => { results := [.lit (.bool true)], args := [d] }
  | _ => none }
def sharesPartedRow : OpenClaim := { program := "ytefmafbbnkkpjaa", sum := "f6428c4ceaf8bc8f977c4c37e849a92d71d9dabce0178dd7f6cd02e3364bdf05", func := "congou/congoulaw01.SharesParted", spec := "sharesParted", unfollowed := true, recurses := true, apart := false }
def SharesPartedSaid : Prop := sharesPartedRow.holds Try.pinned (OpenSpec.ofChange sharesPartedSpec)

/-- ITS FALSE NEIGHBOUR: 'it returns false'. Refute it at one input. -/
def sharesPartedWrong : ChangeSpec := { name := "sharesParted", fn := fun _ => fun
  | [d] => { results := [.lit (.bool false)], args := [d] }
  | _ => none }
def SharesPartedWrongFalsely : Prop := sharesPartedRow.holds Try.pinned (OpenSpec.ofChange sharesPartedWrong)

/-- 'congoulaw01.SharesTurns': WHATEVER THE INPUT: true; the input reads as it did. -/
def sharesTurnsSpec : ChangeSpec := { name := "sharesTurns", fn := fun _ => fun
  | [d] => { results := [.lit (.bool true)], args := [d] }
  | _ => none }
def sharesTurnsRow : OpenClaim := { program := "ytefmafbbnkkpjaa", sum := "f6428c4ceaf8bc8f977c4c37e849a92d71d9dabce0178dd7f6cd02e3364bdf05", func := "congou/congoulaw01.SharesTurns", spec := "sharesTurns", unfollowed := true, recurses := true, apart := false }
def SharesTurnsSaid : Prop := sharesTurnsRow.holds Try.pinned (OpenSpec.ofChange sharesTurnsSpec)

/-- ITS FALSE NEIGHBOUR: 'it returns false'. Refute it at one input. -/
def sharesTurnsWrong : ChangeSpec := { name := "sharesTurns", fn := fun _ => fun
  | [d] => { results := [.lit (.bool false)], args := [d] }
  | _ => none }
def SharesTurnsWrongFalsely : Prop := sharesTurnsRow.holds Try.pinned (OpenSpec.ofChange sharesTurnsWrong)

/-- 'congoulaw01.SharesMixes': WHATEVER THE INPUT: true; the input reads as it did. -/
def sharesMixesSpec : ChangeSpec := { name := "sharesMixes", fn := fun _ => fun
  | [d1, d2, d3] => { results := [.lit (.bool true)], args := [d1, d2, d3] }
  | _ => none }
def sharesMixesRow : OpenClaim := { program := "ytefmafbbnkkpjaa", sum := "f6428c4ceaf8bc8f977c4c37e849a92d71d9dabce0178dd7f6cd02e3364bdf05", func := "congou/congoulaw01.SharesMixes", spec := "sharesMixes", unfollowed := true, recurses := true, apart := false }
def SharesMixesSaid : Prop := sharesMixesRow.holds Try.pinned (OpenSpec.ofChange sharesMixesSpec)

/-- ITS FALSE NEIGHBOUR: 'it returns false'. Refute it at one input. -/
def sharesMixesWrong : ChangeSpec := { name := "sharesMixes", fn := fun _ => fun
  | [d1, d2, d3] => { results := [.lit (.bool false)], args := [d1, d2, d3] }
  | _ => none }
def SharesMixesWrongFalsely : Prop := sharesMixesRow.holds Try.pinned (OpenSpec.ofChange sharesMixesWrong)

/-- 'congoulaw01.SharesMixed': WHATEVER THE INPUT: true; the input reads as it did. -/
def sharesMixedSpec : ChangeSpec := { name := "sharesMixed", fn := fun _ => fun
  | [d1, d2, d3] => { results := [.lit (.bool true)], args := [d1, d2, d3] }
  | _ => none }
def sharesMixedRow : OpenClaim := { program := "ytefmafbbnkkpjaa", sum := "f6428c4ceaf8bc8f977c4c37e849a92d71d9dabce0178dd7f6cd02e3364bdf05", func := "congou/congoulaw01.SharesMixed", spec := "sharesMixed", unfollowed := true, recurses := true, apart := false }
def SharesMixedSaid : Prop := sharesMixedRow.holds Try.pinned (OpenSpec.ofChange sharesMixedSpec)

/-- ITS FALSE NEIGHBOUR: 'it returns false'. Refute it at one input. -/
def sharesMixedWrong : ChangeSpec := { name := "sharesMixed", fn := fun _ => fun
  | [d1, d2, d3] => { results := [.lit (.bool false)], args := [d1, d2, d3] }
  | _ => none }
def SharesMixedWrongFalsely : Prop := sharesMixedRow.holds Try.pinned (OpenSpec.ofChange sharesMixedWrong)

/- THE SECOND FORM. 'bulk': how many values and letters a reading holds, each counted each time it is reached (what is shared counts as often as it is met; a slice's spare places count too). A statement '..UptoSaid' is the law's where the arguments, and the package variables that the reading takes, are together of bulk at most 1048576: NARROWER than '..Said'. Prove '..Said' where nothing that the law and all that it calls make is longer than what came in: it says more and counts as full. Else prove '..UptoSaid'. A law counts once. -/
mutual
def uptoBulk {H : Type} : DataW H → Nat
  | .lit (.string bytes) => bytes.length + 1
  | .lit _ => 1
  | .nil => 1
  | .ptr d => uptoBulk d + 1
  | .slice elems spare => uptoBulkAll elems + uptoBulkAll spare + 1
  | .agg parts => uptoBulkAll parts + 1
  | .iface _ d => uptoBulk d + 1
  | .map entries => uptoBulkEntries entries + 1
  | .held _ => 1
def uptoBulkAll {H : Type} : List (DataW H) → Nat
  | [] => 0
  | d :: r => uptoBulk d + uptoBulkAll r
def uptoBulkEntries {H : Type} : List (Lit × DataW H) → Nat
  | [] => 0
  | x :: r => uptoBulkEntry x + uptoBulkEntries r
def uptoBulkEntry {H : Type} : Lit × DataW H → Nat
  | (.string bytes, d) => bytes.length + uptoBulk d + 1
  | (_, d) => uptoBulk d + 1
 end
def uptoSmall : (H : Type) → List (DataW H) → Bool := fun _ ds => decide (uptoBulkAll ds ≤ 1048576)
def OpenSpec.upto (s : _root_.Go.ChangeSpec) : _root_.Go.OpenSpec := { _root_.Go.OpenSpec.ofChange s with cond := some uptoSmall }

/-- 'congoulaw01.SharesCompares', WHERE WHAT IT READS IS OF BULK AT MOST 1048576: true; the input reads as it did. -/
def sharesComparesUptoRow : OpenClaim := { program := "ytefmafbbnkkpjaa", sum := "f6428c4ceaf8bc8f977c4c37e849a92d71d9dabce0178dd7f6cd02e3364bdf05", func := "congou/congoulaw01.SharesCompares", spec := "sharesCompares", unfollowed := true, recurses := true, apart := false, narrowed := true }
def SharesComparesUptoSaid : Prop := sharesComparesUptoRow.holds Try.pinned (OpenSpec.upto sharesComparesSpec)

/-- 'congoulaw01.SharesPowers', WHERE WHAT IT READS IS OF BULK AT MOST 1048576: true; the input reads as it did. -/
def sharesPowersUptoRow : OpenClaim := { program := "ytefmafbbnkkpjaa", sum := "f6428c4ceaf8bc8f977c4c37e849a92d71d9dabce0178dd7f6cd02e3364bdf05", func := "congou/congoulaw01.SharesPowers", spec := "sharesPowers", unfollowed := true, recurses := true, apart := false, narrowed := true }
def SharesPowersUptoSaid : Prop := sharesPowersUptoRow.holds Try.pinned (OpenSpec.upto sharesPowersSpec)

/-- 'congoulaw01.SharesMuirhead', WHERE WHAT IT READS IS OF BULK AT MOST 1048576: true; the input reads as it did. -/
def sharesMuirheadUptoRow : OpenClaim := { program := "ytefmafbbnkkpjaa", sum := "f6428c4ceaf8bc8f977c4c37e849a92d71d9dabce0178dd7f6cd02e3364bdf05", func := "congou/congoulaw01.SharesMuirhead", spec := "sharesMuirhead", unfollowed := true, recurses := true, apart := false, narrowed := true }
def SharesMuirheadUptoSaid : Prop := sharesMuirheadUptoRow.holds Try.pinned (OpenSpec.upto sharesMuirheadSpec)

/-- 'congoulaw01.SharesMeets', WHERE WHAT IT READS IS OF BULK AT MOST 1048576: true; the input reads as it did. -/
def sharesMeetsUptoRow : OpenClaim := { program := "ytefmafbbnkkpjaa", sum := "f6428c4ceaf8bc8f977c4c37e849a92d71d9dabce0178dd7f6cd02e3364bdf05", func := "congou/congoulaw01.SharesMeets", spec := "sharesMeets", unfollowed := true, recurses := true, apart := false, narrowed := true }
def SharesMeetsUptoSaid : Prop := sharesMeetsUptoRow.holds Try.pinned (OpenSpec.upto sharesMeetsSpec)

/-- 'congoulaw01.SharesLattice', WHERE WHAT IT READS IS OF BULK AT MOST 1048576: true; the input reads as it did. -/
def sharesLatticeUptoRow : OpenClaim := { program := "ytefmafbbnkkpjaa", sum := "f6428c4ceaf8bc8f977c4c37e849a92d71d9dabce0178dd7f6cd02e3364bdf05", func := "congou/congoulaw01.SharesLattice", spec := "sharesLattice", unfollowed := true, recurses := true, apart := false, narrowed := true }
def SharesLatticeUptoSaid : Prop := sharesLatticeUptoRow.holds Try.pinned (OpenSpec.upto sharesLatticeSpec)

/-- 'congoulaw01.SharesGives', WHERE WHAT IT READS IS OF BULK AT MOST 1048576: true; the input reads as it did. -/
def sharesGivesUptoRow : OpenClaim := { program := "ytefmafbbnkkpjaa", sum := "f6428c4ceaf8bc8f977c4c37e849a92d71d9dabce0178dd7f6cd02e3364bdf05", func := "congou/congoulaw01.SharesGives", spec := "sharesGives", unfollowed := true, recurses := true, apart := false, narrowed := true }
def SharesGivesUptoSaid : Prop := sharesGivesUptoRow.holds Try.pinned (OpenSpec.upto sharesGivesSpec)

/-- 'congoulaw01.SharesOver', WHERE WHAT IT READS IS OF BULK AT MOST 1048576: true; the input reads as it did. -/
def sharesOverUptoRow : OpenClaim := { program := "ytefmafbbnkkpjaa", sum := "f6428c4ceaf8bc8f977c4c37e849a92d71d9dabce0178dd7f6cd02e3364bdf05", func := "congou/congoulaw01.SharesOver", spec := "sharesOver", unfollowed := true, recurses := true, apart := false, narrowed := true }
def SharesOverUptoSaid : Prop := sharesOverUptoRow.holds Try.pinned (OpenSpec.upto sharesOverSpec)

/-- 'congoulaw01.SharesLess', WHERE WHAT IT READS IS OF BULK AT MOST 1048576: true; the input reads as it did. -/
def sharesLessUptoRow : OpenClaim := { program := "ytefmafbbnkkpjaa", sum := "f6428c4ceaf8bc8f977c4c37e849a92d71d9dabce0178dd7f6cd02e3364bdf05", func := "congou/congoulaw01.SharesLess", spec := "sharesLess", unfollowed := true, recurses := true, apart := false, narrowed := true }
def SharesLessUptoSaid : Prop := sharesLessUptoRow.holds Try.pinned (OpenSpec.upto sharesLessSpec)

/-- 'congoulaw01.SharesNext', WHERE WHAT IT READS IS OF BULK AT MOST 1048576: true; the input reads as it did. -/
def sharesNextUptoRow : OpenClaim := { program := "ytefmafbbnkkpjaa", sum := "f6428c4ceaf8bc8f977c4c37e849a92d71d9dabce0178dd7f6cd02e3364bdf05", func := "congou/congoulaw01.SharesNext", spec := "sharesNext", unfollowed := true, recurses := true, apart := false, narrowed := true }
def SharesNextUptoSaid : Prop := sharesNextUptoRow.holds Try.pinned (OpenSpec.upto sharesNextSpec)

/-- 'congoulaw01.SharesSplits', WHERE WHAT IT READS IS OF BULK AT MOST 1048576: true; the input reads as it did. -/
def sharesSplitsUptoRow : OpenClaim := { program := "ytefmafbbnkkpjaa", sum := "f6428c4ceaf8bc8f977c4c37e849a92d71d9dabce0178dd7f6cd02e3364bdf05", func := "congou/congoulaw01.SharesSplits", spec := "sharesSplits", unfollowed := true, recurses := true, apart := false, narrowed := true }
def SharesSplitsUptoSaid : Prop := sharesSplitsUptoRow.holds Try.pinned (OpenSpec.upto sharesSplitsSpec)

/-- 'congoulaw01.SharesParted', WHERE WHAT IT READS IS OF BULK AT MOST 1048576: true; the input reads as it did. -/
def sharesPartedUptoRow : OpenClaim := { program := "ytefmafbbnkkpjaa", sum := "f6428c4ceaf8bc8f977c4c37e849a92d71d9dabce0178dd7f6cd02e3364bdf05", func := "congou/congoulaw01.SharesParted", spec := "sharesParted", unfollowed := true, recurses := true, apart := false, narrowed := true }
def SharesPartedUptoSaid : Prop := sharesPartedUptoRow.holds Try.pinned (OpenSpec.upto sharesPartedSpec)

/-- 'congoulaw01.SharesTurns', WHERE WHAT IT READS IS OF BULK AT MOST 1048576: true; the input reads as it did. -/
def sharesTurnsUptoRow : OpenClaim := { program := "ytefmafbbnkkpjaa", sum := "f6428c4ceaf8bc8f977c4c37e849a92d71d9dabce0178dd7f6cd02e3364bdf05", func := "congou/congoulaw01.SharesTurns", spec := "sharesTurns", unfollowed := true, recurses := true, apart := false, narrowed := true }
def SharesTurnsUptoSaid : Prop := sharesTurnsUptoRow.holds Try.pinned (OpenSpec.upto sharesTurnsSpec)

/-- 'congoulaw01.SharesMixes', WHERE WHAT IT READS IS OF BULK AT MOST 1048576: true; the input reads as it did. -/
def sharesMixesUptoRow : OpenClaim := { program := "ytefmafbbnkkpjaa", sum := "f6428c4ceaf8bc8f977c4c37e849a92d71d9dabce0178dd7f6cd02e3364bdf05", func := "congou/congoulaw01.SharesMixes", spec := "sharesMixes", unfollowed := true, recurses := true, apart := false, narrowed := true }
def SharesMixesUptoSaid : Prop := sharesMixesUptoRow.holds Try.pinned (OpenSpec.upto sharesMixesSpec)

/-- 'congoulaw01.SharesMixed', WHERE WHAT IT READS IS OF BULK AT MOST 1048576: true; the input reads as it did. -/
def sharesMixedUptoRow : OpenClaim := { program := "ytefmafbbnkkpjaa", sum := "f6428c4ceaf8bc8f977c4c37e849a92d71d9dabce0178dd7f6cd02e3364bdf05", func := "congou/congoulaw01.SharesMixed", spec := "sharesMixed", unfollowed := true, recurses := true, apart := false, narrowed := true }
def SharesMixedUptoSaid : Prop := sharesMixedUptoRow.holds Try.pinned (OpenSpec.upto sharesMixedSpec)

end Rows
end Go.Proofs.Ytefmafbbnkkpjaa
