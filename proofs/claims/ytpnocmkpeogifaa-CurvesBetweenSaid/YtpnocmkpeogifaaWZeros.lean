/- Words of the kit's printer: those that this work's texts name (wip/prune.py left out the others). -/
import Derived.Test.YtpnocmkpeogifaaWApart
import Derived.Test.YtpnocmkpeogifaaWArr
namespace Go.Proofs.YtpnocmkpeogifaaW.PrintWords
open Go.RowKit
section
variable {P : Program}
end
namespace Kd
section
variable {P : Program} {ops : Array Oper} {rest : List Oper} {o : Oper} {a : Act} {Q : Exit → Act → World → Prop} {Kc : Act → World → Prop} {α : Type}
end
section
variable {α : Type} {d : Kd α} {e : Nat} {w : World} {base : Nat} {ok : Nat → Prop} {v : Value} {xs : List α}
end
section
variable {P : Program} {ops : Array Oper} {rest : List Oper} {o : Oper} {a : Act} {Q : Exit → Act → World → Prop} {Kc : Act → World → Prop} {α : Type}
end
end Kd
end Go.Proofs.YtpnocmkpeogifaaW.PrintWords
