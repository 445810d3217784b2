/- Words of the kit's printer: those that this work's texts name (wip/prune.py left out the others). -/
import Derived.Test.YtpnocmkpeogifaaWTab
namespace Go.Proofs.YtpnocmkpeogifaaW.PrintLast
section
variable {P : Program} {ops : Array Oper} {Q : Exit → Act → World → Prop} {md : Region.Mode} {S : World → Prop} {ds : List Nat} {T : Bool × List (List Nat × List Nat)}
end
end Go.Proofs.YtpnocmkpeogifaaW.PrintLast
