/- Words of the kit's printer: those that this work's texts name (wip/prune.py left out the others). -/
import Derived.Test.YtpnocmkpeogifaaWInv
import Derived.Test.YtpnocmkpeogifaaWFootNe
namespace Go.Proofs.YtpnocmkpeogifaaW.PrintWords
open Go.RowKit
end Go.Proofs.YtpnocmkpeogifaaW.PrintWords
namespace Go.Proofs.YtpnocmkpeogifaaW.PrintLast
section
variable {ops : Array Oper} {a : Act} {o og : Oper} {g : Nat} {t : Tmp} {u : Bool}
end
end Go.Proofs.YtpnocmkpeogifaaW.PrintLast
