/-
  No cell of these rows narrows 'for every input' (looked for: loops, veiled, ifaces, maps, wideKeys, modest, calm, conditions, laid).
  DERIVED. THE GIVEN ROWS OF THIS SEAT. 13 by the template 'for every input the law returns true; each argument reads behind the call as it read before'; 0 by the template 'total and deterministic' (their statements: YtdffhffhnjkcpaaTotals.lean).
  GIVEN WITH THE SEED: the statements are not yours to turn. If you find one false, say at which input.
  Laid BY PROGRAM, IN A SANDBOX (cutbox-rows.mjs): the forced cells as the released guide's own fill.sh prints them over the translation 90069e49806bb5f7… (all of the seat's roots in one cut). By AI agents, Wed Nov 11 2026. No macro, syntax, notation, axiom, sorry.
-/
import Derived.Test.YtdffhffhnjkcpaaChecked
import GoSem.Claim
import GoSem.ClaimJoined
import GoSem.ClaimMapViews
import Derived.JoinedTies
import Derived.KernelRfl
namespace Go.Proofs.Ytdffhffhnjkcpaa
/- THE CELL 'sum', in the pinned program and in every row, IS THE sha256 OF THE DUMP (.gsa) THAT YtdffhffhnjkcpaaProg.lean LOADS. Nothing in Lean hashes anything: it is a label: what it is worth is what the hold of that sum in a sandbox is worth. -/
noncomputable def Try.pinned : Pinned := { name := "ytdffhffhnjkcpaa", sum := "90069e49806bb5f7827147662c200df69167dfe5aba3b5cedc4f4c63ba8909dd", checked := Try.checked }
namespace Rows
def none {H : Type} : Left H := { results := [], args := [] }

/-- 'congoulaw03.SketchEqual': WHATEVER THE INPUT: true; the input reads as it did. -/
def sketchEqualSpec : ChangeSpec := { name := "sketchEqual", fn := fun _ => fun
  | [d1, d2] => { results := [.lit (.bool true)], args := [d1, d2] }
  | _ => none }
def sketchEqualRow : OpenClaim := { program := "ytdffhffhnjkcpaa", sum := "90069e49806bb5f7827147662c200df69167dfe5aba3b5cedc4f4c63ba8909dd", func := "congou/congoulaw03.SketchEqual", spec := "sketchEqual", unfollowed := true, recurses := true, apart := false }
def SketchEqualSaid : Prop := sketchEqualRow.holds Try.pinned (OpenSpec.ofChange sketchEqualSpec)

/-- ITS FALSE NEIGHBOUR: 'it returns false'. Refute it at one input. -/
def sketchEqualWrong : ChangeSpec := { name := "sketchEqual", fn := fun _ => fun
  | [d1, d2] => { results := [.lit (.bool false)], args := [d1, d2] }
  | _ => none }
def SketchEqualWrongFalsely : Prop := sketchEqualRow.holds Try.pinned (OpenSpec.ofChange sketchEqualWrong)

/-- 'congoulaw03.SketchHeavy': WHATEVER THE INPUT: true; the input reads as it did. -/
def sketchHeavySpec : ChangeSpec := { name := "sketchHeavy", fn := fun _ => fun
  | [d1, d2, d3] => { results := [.lit (.bool true)], args := [d1, d2, d3] }
  | _ => none }
def sketchHeavyRow : OpenClaim := { program := "ytdffhffhnjkcpaa", sum := "90069e49806bb5f7827147662c200df69167dfe5aba3b5cedc4f4c63ba8909dd", func := "congou/congoulaw03.SketchHeavy", spec := "sketchHeavy", unfollowed := true, recurses := true, apart := false }
def SketchHeavySaid : Prop := sketchHeavyRow.holds Try.pinned (OpenSpec.ofChange sketchHeavySpec)

/-- ITS FALSE NEIGHBOUR: 'it returns false'. Refute it at one input. -/
def sketchHeavyWrong : ChangeSpec := { name := "sketchHeavy", fn := fun _ => fun
  | [d1, d2, d3] => { results := [.lit (.bool false)], args := [d1, d2, d3] }
  | _ => none }
def SketchHeavyWrongFalsely : Prop := sketchHeavyRow.holds Try.pinned (OpenSpec.ofChange sketchHeavyWrong)

/-- 'congoulaw03.SketchKeeps': WHATEVER THE INPUT: true; the input reads as it did. -/
def sketchKeepsSpec : ChangeSpec := { name := "sketchKeeps", fn := fun _ => fun
  | [d1, d2, d3] => { results := [.lit (.bool true)], args := [d1, d2, d3] }
  | _ => none }
def sketchKeepsRow : OpenClaim := { program := "ytdffhffhnjkcpaa", sum := "90069e49806bb5f7827147662c200df69167dfe5aba3b5cedc4f4c63ba8909dd", func := "congou/congoulaw03.SketchKeeps", spec := "sketchKeeps", unfollowed := true, recurses := true, apart := false }
def SketchKeepsSaid : Prop := sketchKeepsRow.holds Try.pinned (OpenSpec.ofChange sketchKeepsSpec)

/-- ITS FALSE NEIGHBOUR: 'it returns false'. Refute it at one input. -/
def sketchKeepsWrong : ChangeSpec := { name := "sketchKeeps", fn := fun _ => fun
  | [d1, d2, d3] => { results := [.lit (.bool false)], args := [d1, d2, d3] }
  | _ => none }
def SketchKeepsWrongFalsely : Prop := sketchKeepsRow.holds Try.pinned (OpenSpec.ofChange sketchKeepsWrong)

/-- 'congoulaw03.SketchKept': WHATEVER THE INPUT: true; the input reads as it did. -/
def sketchKeptSpec : ChangeSpec := { name := "sketchKept", fn := fun _ => fun
  | [d1, d2, d3] => { results := [.lit (.bool true)], args := [d1, d2, d3] }
  | _ => none }
def sketchKeptRow : OpenClaim := { program := "ytdffhffhnjkcpaa", sum := "90069e49806bb5f7827147662c200df69167dfe5aba3b5cedc4f4c63ba8909dd", func := "congou/congoulaw03.SketchKept", spec := "sketchKept", unfollowed := true, recurses := true, apart := false }
def SketchKeptSaid : Prop := sketchKeptRow.holds Try.pinned (OpenSpec.ofChange sketchKeptSpec)

/-- ITS FALSE NEIGHBOUR: 'it returns false'. Refute it at one input. -/
def sketchKeptWrong : ChangeSpec := { name := "sketchKept", fn := fun _ => fun
  | [d1, d2, d3] => { results := [.lit (.bool false)], args := [d1, d2, d3] }
  | _ => none }
def SketchKeptWrongFalsely : Prop := sketchKeptRow.holds Try.pinned (OpenSpec.ofChange sketchKeptWrong)

/-- 'congoulaw03.SketchTables': WHATEVER THE INPUT: true; the input reads as it did. -/
def sketchTablesSpec : ChangeSpec := { name := "sketchTables", fn := fun _ => fun
  | [d1, d2, d3] => { results := [.lit (.bool true)], args := [d1, d2, d3] }
  | _ => none }
def sketchTablesRow : OpenClaim := { program := "ytdffhffhnjkcpaa", sum := "90069e49806bb5f7827147662c200df69167dfe5aba3b5cedc4f4c63ba8909dd", func := "congou/congoulaw03.SketchTables", spec := "sketchTables", unfollowed := true, recurses := true, apart := false }
def SketchTablesSaid : Prop := sketchTablesRow.holds Try.pinned (OpenSpec.ofChange sketchTablesSpec)

/-- ITS FALSE NEIGHBOUR: 'it returns false'. Refute it at one input. -/
def sketchTablesWrong : ChangeSpec := { name := "sketchTables", fn := fun _ => fun
  | [d1, d2, d3] => { results := [.lit (.bool false)], args := [d1, d2, d3] }
  | _ => none }
def SketchTablesWrongFalsely : Prop := sketchTablesRow.holds Try.pinned (OpenSpec.ofChange sketchTablesWrong)

/-- 'congoulaw03.SketchOrder': WHATEVER THE INPUT: true; the input reads as it did. -/
def sketchOrderSpec : ChangeSpec := { name := "sketchOrder", fn := fun _ => fun
  | [d1, d2, d3, d4, d5] => { results := [.lit (.bool true)], args := [d1, d2, d3, d4, d5] }
  | _ => none }
def sketchOrderRow : OpenClaim := { program := "ytdffhffhnjkcpaa", sum := "90069e49806bb5f7827147662c200df69167dfe5aba3b5cedc4f4c63ba8909dd", func := "congou/congoulaw03.SketchOrder", spec := "sketchOrder", unfollowed := true, recurses := true, apart := false }
def SketchOrderSaid : Prop := sketchOrderRow.holds Try.pinned (OpenSpec.ofChange sketchOrderSpec)

/-- ITS FALSE NEIGHBOUR: 'it returns false'. Refute it at one input. -/
def sketchOrderWrong : ChangeSpec := { name := "sketchOrder", fn := fun _ => fun
  | [d1, d2, d3, d4, d5] => { results := [.lit (.bool false)], args := [d1, d2, d3, d4, d5] }
  | _ => none }
def SketchOrderWrongFalsely : Prop := sketchOrderRow.holds Try.pinned (OpenSpec.ofChange sketchOrderWrong)

/-- 'congoulaw03.SketchAsks': WHATEVER THE INPUT: true; the input reads as it did. -/
def sketchAsksSpec : ChangeSpec := { name := "sketchAsks", fn := fun _ => fun
  | [d1, d2, d3] => { results := [.lit (.bool true)], args := [d1, d2, d3] }
  | _ => none }
def sketchAsksRow : OpenClaim := { program := "ytdffhffhnjkcpaa", sum := "90069e49806bb5f7827147662c200df69167dfe5aba3b5cedc4f4c63ba8909dd", func := "congou/congoulaw03.SketchAsks", spec := "sketchAsks", unfollowed := true, recurses := true, apart := false }
def SketchAsksSaid : Prop := sketchAsksRow.holds Try.pinned (OpenSpec.ofChange sketchAsksSpec)

/-- ITS FALSE NEIGHBOUR: 'it returns false'. Refute it at one input. -/
def sketchAsksWrong : ChangeSpec := { name := "sketchAsks", fn := fun _ => fun
  | [d1, d2, d3] => { results := [.lit (.bool false)], args := [d1, d2, d3] }
  | _ => none }
def SketchAsksWrongFalsely : Prop := sketchAsksRow.holds Try.pinned (OpenSpec.ofChange sketchAsksWrong)

/-- 'congoulaw03.SketchSides': WHATEVER THE INPUT: true; the input reads as it did. -/
def sketchSidesSpec : ChangeSpec := { name := "sketchSides", fn := fun _ => fun
  | [d1, d2, d3, d4] => { results := [.lit (.bool true)], args := [d1, d2, d3, d4] }
  | _ => none }
def sketchSidesRow : OpenClaim := { program := "ytdffhffhnjkcpaa", sum := "90069e49806bb5f7827147662c200df69167dfe5aba3b5cedc4f4c63ba8909dd", func := "congou/congoulaw03.SketchSides", spec := "sketchSides", unfollowed := true, recurses := true, apart := false }
def SketchSidesSaid : Prop := sketchSidesRow.holds Try.pinned (OpenSpec.ofChange sketchSidesSpec)

/-- ITS FALSE NEIGHBOUR: 'it returns false'. Refute it at one input. -/
def sketchSidesWrong : ChangeSpec := { name := "sketchSides", fn := fun _ => fun
  | [d1, d2, d3, d4] => { results := [.lit (.bool false)], args := [d1, d2, d3, d4] }
  | _ => none }
def SketchSidesWrongFalsely : Prop := sketchSidesRow.holds Try.pinned (OpenSpec.ofChange sketchSidesWrong)

/-- 'congoulaw03.SketchMerges': WHATEVER THE INPUT: true; the input reads as it did. -/
def sketchMergesSpec : ChangeSpec := { name := "sketchMerges", fn := fun _ => fun
  | [d1, d2, d3] => { results := [.lit (.bool true)], args := [d1, d2, d3] }
  | _ => none }
def sketchMergesRow : OpenClaim := { program := "ytdffhffhnjkcpaa", sum := "90069e49806bb5f7827147662c200df69167dfe5aba3b5cedc4f4c63ba8909dd", func := "congou/congoulaw03.SketchMerges", spec := "sketchMerges", unfollowed := true, recurses := true, apart := false }
def SketchMergesSaid : Prop := sketchMergesRow.holds Try.pinned (OpenSpec.ofChange sketchMergesSpec)

/-- ITS FALSE NEIGHBOUR: 'it returns false'. Refute it at one input. -/
def sketchMergesWrong : ChangeSpec := { name := "sketchMerges", fn := fun _ => fun
  | [d1, d2, d3] => { results := [.lit (.bool false)], args := [d1, d2, d3] }
  | _ => none }
def SketchMergesWrongFalsely : Prop := sketchMergesRow.holds Try.pinned (OpenSpec.ofChange sketchMergesWrong)

/-- 'congoulaw03.SketchFull': WHATEVER THE INPUT: true; the input reads as it did. -/
def sketchFullSpec : ChangeSpec := { name := "sketchFull", fn := fun _ => fun
  | [d1, d2] => { results := [.lit (.bool true)], args := [d1, d2] }
  | _ => none }
def sketchFullRow : OpenClaim := { program := "ytdffhffhnjkcpaa", sum := "90069e49806bb5f7827147662c200df69167dfe5aba3b5cedc4f4c63ba8909dd", func := "congou/congoulaw03.SketchFull", spec := "sketchFull", unfollowed := true, recurses := true, apart := false }
def SketchFullSaid : Prop := sketchFullRow.holds Try.pinned (OpenSpec.ofChange sketchFullSpec)

/-- ITS FALSE NEIGHBOUR: 'it returns false'. Refute it at one input. -/
def sketchFullWrong : ChangeSpec := { name := "sketchFull", fn := fun _ => fun
  | [d1, d2] => { results := [.lit (.bool false)], args := [d1, d2] }
  | _ => none }
def SketchFullWrongFalsely : Prop := sketchFullRow.holds Try.pinned (OpenSpec.ofChange sketchFullWrong)

/-- 'congoulaw03.SketchShort': WHATEVER THE INPUT: true; the input reads as it did. -/
def sketchShortSpec : ChangeSpec := { name := "sketchShort", fn := fun _ => fun
  | [d1, d2] => { results := [.lit (.bool true)], args := [d1, d2] }
  | _ => none }
def sketchShortRow : OpenClaim := { program := "ytdffhffhnjkcpaa", sum := "90069e49806bb5f7827147662c200df69167dfe5aba3b5cedc4f4c63ba8909dd", func := "congou/congoulaw03.SketchShort", spec := "sketchShort", unfollowed := true, recurses := true, apart := false }
def SketchShortSaid : Prop := sketchShortRow.holds Try.pinned (OpenSpec.ofChange sketchShortSpec)

/-- ITS FALSE NEIGHBOUR: 'it returns false'. Refute it at one input. -/
def sketchShortWrong : ChangeSpec := { name := "sketchShort", fn := fun _ => fun
  | [d1, d2] => { results := [.lit (.bool false)], args := [d1, d2] }
  | _ => none }
def SketchShortWrongFalsely : Prop := sketchShortRow.holds Try.pinned (OpenSpec.ofChange sketchShortWrong)

/-- 'congoulaw03.SketchLists': WHATEVER THE INPUT: true; the input reads as it did. -/
def sketchListsSpec : ChangeSpec := { name := "sketchLists", fn := fun _ => fun
  | [d1, d2] => { results := [.lit (.bool true)], args := [d1, d2] }
  | _ => none }
def sketchListsRow : OpenClaim := { program := "ytdffhffhnjkcpaa", sum := "90069e49806bb5f7827147662c200df69167dfe5aba3b5cedc4f4c63ba8909dd", func := "congou/congoulaw03.SketchLists", spec := "sketchLists", unfollowed := true, recurses := true, apart := false }
def SketchListsSaid : Prop := sketchListsRow.holds Try.pinned (OpenSpec.ofChange sketchListsSpec)

/-- ITS FALSE NEIGHBOUR: 'it returns false'. Refute it at one input. -/
def sketchListsWrong : ChangeSpec := { name := "sketchLists", fn := fun _ => fun
  | [d1, d2] => { results := [.lit (.bool false)], args := [d1, d2] }
  | _ => none }
def SketchListsWrongFalsely : Prop := sketchListsRow.holds Try.pinned (OpenSpec.ofChange sketchListsWrong)

/-- 'congoulaw03.SketchTogether': WHATEVER THE INPUT: true; the input reads as it did. -/
def sketchTogetherSpec : ChangeSpec := { name := "sketchTogether", fn := fun _ => fun
  | [d1, d2, d3] => { results := [.lit (.bool true)], args := [d1, d2, d3] }
  | _ => none }
def sketchTogetherRow : OpenClaim := { program := "ytdffhffhnjkcpaa", sum := "90069e49806bb5f7827147662c200df69167dfe5aba3b5cedc4f4c63ba8909dd", func := "congou/congoulaw03.SketchTogether", spec := "sketchTogether", unfollowed := true, recurses := true, apart := false }
def SketchTogetherSaid : Prop := sketchTogetherRow.holds Try.pinned (OpenSpec.ofChange sketchTogetherSpec)

/-- ITS FALSE NEIGHBOUR: 'it returns false'. Refute it at one input. -/
def sketchTogetherWrong : ChangeSpec := { name := "sketchTogether", fn := fun _ => fun
  | [d1, d2, d3] => { results := [.lit (.bool false)], args := [d1, d2, d3] }
  | _ => none }
def SketchTogetherWrongFalsely : Prop := sketchTogetherRow.holds Try.pinned (OpenSpec.ofChange sketchTogetherWrong)

/- THE SECOND FORM. 'bulk': how many values and letters a reading holds, each counted each time it is reached (what is shared counts as often as it is met; a slice's spare places count too). A statement '..UptoSaid' is the law's where the arguments, and the package variables that the reading takes, are together of bulk at most 1048576: NARROWER than '..Said'. Prove '..Said' where nothing that the law and all that it calls make is longer than what came in: it says more and counts as full. Else prove '..UptoSaid'. A law counts once. -/
mutual
def uptoBulk {H : Type} : DataW H → Nat
  | .lit (.string bytes) => bytes.length + 1
  | .lit _ => 1
  | .nil => 1
  | .ptr d => uptoBulk d + 1
  | .slice elems spare => uptoBulkAll elems + uptoBulkAll spare + 1
  | .agg parts => uptoBulkAll parts + 1
  | .iface _ d => uptoBulk d + 1
  | .map entries => uptoBulkEntries entries + 1
  | .held _ => 1
def uptoBulkAll {H : Type} : List (DataW H) → Nat
  | [] => 0
  | d :: r => uptoBulk d + uptoBulkAll r
def uptoBulkEntries {H : Type} : List (Lit × DataW H) → Nat
  | [] => 0
  | x :: r => uptoBulkEntry x + uptoBulkEntries r
def uptoBulkEntry {H : Type} : Lit × DataW H → Nat
  | (.string bytes, d) => bytes.length + uptoBulk d + 1
  | (_, d) => uptoBulk d + 1
 end
def uptoSmall : (H : Type) → List (DataW H) → Bool := fun _ ds => decide (uptoBulkAll ds ≤ 1048576)
def OpenSpec.upto (s : _root_.Go.ChangeSpec) : _root_.Go.OpenSpec := { _root_.Go.OpenSpec.ofChange s with cond := some uptoSmall }

/-- 'congoulaw03.SketchEqual', WHERE WHAT IT READS IS OF BULK AT MOST 1048576: true; the input reads as it did. -/
def sketchEqualUptoRow : OpenClaim := { program := "ytdffhffhnjkcpaa", sum := "90069e49806bb5f7827147662c200df69167dfe5aba3b5cedc4f4c63ba8909dd", func := "congou/congoulaw03.SketchEqual", spec := "sketchEqual", unfollowed := true, recurses := true, apart := false, narrowed := true }
def SketchEqualUptoSaid : Prop := sketchEqualUptoRow.holds Try.pinned (OpenSpec.upto sketchEqualSpec)

/-- 'congoulaw03.SketchHeavy', WHERE WHAT IT READS IS OF BULK AT MOST 1048576: true; the input reads as it did. -/
def sketchHeavyUptoRow : OpenClaim := { program := "ytdffhffhnjkcpaa", sum := "90069e49806bb5f7827147662c200df69167dfe5aba3b5cedc4f4c63ba8909dd", func := "congou/congoulaw03.SketchHeavy", spec := "sketchHeavy", unfollowed := true, recurses := true, apart := false, narrowed := true }
def SketchHeavyUptoSaid : Prop := sketchHeavyUptoRow.holds Try.pinned (OpenSpec.upto sketchHeavySpec)

/-- 'congoulaw03.SketchKeeps', WHERE WHAT IT READS IS OF BULK AT MOST 1048576: true; the input reads as it did. -/
def sketchKeepsUptoRow : OpenClaim := { program := "ytdffhffhnjkcpaa", sum := "90069e49806bb5f7827147662c200df69167dfe5aba3b5cedc4f4c63ba8909dd", func := "congou/congoulaw03.SketchKeeps", spec := "sketchKeeps", unfollowed := true, recurses := true, apart := false, narrowed := true }
def SketchKeepsUptoSaid : Prop := sketchKeepsUptoRow.holds Try.pinned (OpenSpec.upto sketchKeepsSpec)

/-- 'congoulaw03.SketchKept', WHERE WHAT IT READS IS OF BULK AT MOST 1048576: true; the input reads as it did. -/
def sketchKeptUptoRow : OpenClaim := { program := "ytdffhffhnjkcpaa", sum := "90069e49806bb5f7827147662c200df69167dfe5aba3b5cedc4f4c63ba8909dd", func := "congou/congoulaw03.SketchKept", spec := "sketchKept", unfollowed := true, recurses := true, apart := false, narrowed := true }
def SketchKeptUptoSaid : Prop := sketchKeptUptoRow.holds Try.pinned (OpenSpec.upto sketchKeptSpec)

/-- 'congoulaw03.SketchTables', WHERE WHAT IT READS IS OF BULK AT MOST 1048576: true; the input reads as it did. -/
def sketchTablesUptoRow : OpenClaim := { program := "ytdffhffhnjkcpaa", sum := "90069e49806bb5f7827147662c200df69167dfe5aba3b5cedc4f4c63ba8909dd", func := "congou/congoulaw03.SketchTables", spec := "sketchTables", unfollowed := true, recurses := true, apart := false, narrowed := true }
def SketchTablesUptoSaid : Prop := sketchTablesUptoRow.holds Try.pinned (OpenSpec.upto sketchTablesSpec)

/-- 'congoulaw03.SketchOrder', WHERE WHAT IT READS IS OF BULK AT MOST 1048576: true; the input reads as it did. -/
def sketchOrderUptoRow : OpenClaim := { program := "ytdffhffhnjkcpaa", sum := "90069e49806bb5f7827147662c200df69167dfe5aba3b5cedc4f4c63ba8909dd", func := "congou/congoulaw03.SketchOrder", spec := "sketchOrder", unfollowed := true, recurses := true, apart := false, narrowed := true }
def SketchOrderUptoSaid : Prop := sketchOrderUptoRow.holds Try.pinned (OpenSpec.upto sketchOrderSpec)

/-- 'congoulaw03.SketchAsks', WHERE WHAT IT READS IS OF BULK AT MOST 1048576: true; the input reads as it did. -/
def sketchAsksUptoRow : OpenClaim := { program := "ytdffhffhnjkcpaa", sum := "90069e49806bb5f7827147662c200df69167dfe5aba3b5cedc4f4c63ba8909dd", func := "congou/congoulaw03.SketchAsks", spec := "sketchAsks", unfollowed := true, recurses := true, apart := false, narrowed := true }
def SketchAsksUptoSaid : Prop := sketchAsksUptoRow.holds Try.pinned (OpenSpec.upto sketchAsksSpec)

/-- 'congoulaw03.SketchSides', WHERE WHAT IT READS IS OF BULK AT MOST 1048576: true; the input reads as it did. -/
def sketchSidesUptoRow : OpenClaim := { program := "ytdffhffhnjkcpaa", sum := "90069e49806bb5f7827147662c200df69167dfe5aba3b5cedc4f4c63ba8909dd", func := "congou/congoulaw03.SketchSides", spec := "sketchSides", unfollowed := true, recurses := true, apart := false, narrowed := true }
def SketchSidesUptoSaid : Prop := sketchSidesUptoRow.holds Try.pinned (OpenSpec.upto sketchSidesSpec)

/-- 'congoulaw03.SketchMerges', WHERE WHAT IT READS IS OF BULK AT MOST 1048576: true; the input reads as it did. -/
def sketchMergesUptoRow : OpenClaim := { program := "ytdffhffhnjkcpaa", sum := "90069e49806bb5f7827147662c200df69167dfe5aba3b5cedc4f4c63ba8909dd", func := "congou/congoulaw03.SketchMerges", spec := "sketchMerges", unfollowed := true, recurses := true, apart := false, narrowed := true }
def SketchMergesUptoSaid : Prop := sketchMergesUptoRow.holds Try.pinned (OpenSpec.upto sketchMergesSpec)

/-- 'congoulaw03.SketchFull', WHERE WHAT IT READS IS OF BULK AT MOST 1048576: true; the input reads as it did. -/
def sketchFullUptoRow : OpenClaim := { program := "ytdffhffhnjkcpaa", sum := "90069e49806bb5f7827147662c200df69167dfe5aba3b5cedc4f4c63ba8909dd", func := "congou/congoulaw03.SketchFull", spec := "sketchFull", unfollowed := true, recurses := true, apart := false, narrowed := true }
def SketchFullUptoSaid : Prop := sketchFullUptoRow.holds Try.pinned (OpenSpec.upto sketchFullSpec)

/-- 'congoulaw03.SketchShort', WHERE WHAT IT READS IS OF BULK AT MOST 1048576: true; the input reads as it did. -/
def sketchShortUptoRow : OpenClaim := { program := "ytdffhffhnjkcpaa", sum := "90069e49806bb5f7827147662c200df69167dfe5aba3b5cedc4f4c63ba8909dd", func := "congou/congoulaw03.SketchShort", spec := "sketchShort", unfollowed := true, recurses := true, apart := false, narrowed := true }
def SketchShortUptoSaid : Prop := sketchShortUptoRow.holds Try.pinned (OpenSpec.upto sketchShortSpec)

/-- 'congoulaw03.SketchLists', WHERE WHAT IT READS IS OF BULK AT MOST 1048576: true; the input reads as it did. -/
def sketchListsUptoRow : OpenClaim := { program := "ytdffhffhnjkcpaa", sum := "90069e49806bb5f7827147662c200df69167dfe5aba3b5cedc4f4c63ba8909dd", func := "congou/congoulaw03.SketchLists", spec := "sketchLists", unfollowed := true, recurses := true, apart := false, narrowed := true }
def SketchListsUptoSaid : Prop := sketchListsUptoRow.holds Try.pinned (OpenSpec.upto sketchListsSpec)

/-- 'congoulaw03.SketchTogether', WHERE WHAT IT READS IS OF BULK AT MOST 1048576: true; the input reads as it did. -/
def sketchTogetherUptoRow : OpenClaim := { program := "ytdffhffhnjkcpaa", sum := "90069e49806bb5f7827147662c200df69167dfe5aba3b5cedc4f4c63ba8909dd", func := "congou/congoulaw03.SketchTogether", spec := "sketchTogether", unfollowed := true, recurses := true, apart := false, narrowed := true }
def SketchTogetherUptoSaid : Prop := sketchTogetherUptoRow.holds Try.pinned (OpenSpec.upto sketchTogetherSpec)

end Rows
end Go.Proofs.Ytdffhffhnjkcpaa
