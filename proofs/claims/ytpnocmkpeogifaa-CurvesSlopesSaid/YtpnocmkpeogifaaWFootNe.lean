/- Words of the kit's printer: those that this work's texts name (wip/prune.py left out the others). -/
import Derived.Test.YtpnocmkpeogifaaWN
namespace Go.Proofs.YtpnocmkpeogifaaW.PrintWords
open Go.RowKit
namespace Kd
section
variable {α : Type} {d : Kd α} {W : World} {g n : Nat} {S ok : Nat → Prop} {A : Option Addr} {ad : Addr} {xs : List α}
end
end Kd
end Go.Proofs.YtpnocmkpeogifaaW.PrintWords
