/- SketchEqual, the cases of six keys: reckoned out. -/
import Derived.Test.YtdffhffhnjkcpaaXf3
namespace Go.Proofs.Ytdffhffhnjkcpaa.Pure
set_option linter.unusedVariables false
set_option maxRecDepth 100000
open Go.RowKit Go.Proofs.Ytdffhffhnjkcpaa.X Go.Proofs.YtdffhffhnjkcpaaW.PrintWords Go.Proofs.YtdffhffhnjkcpaaW.PrintLast

theorem eq6_1 : congoulaw03_SketchEqual.l0 30000 1 6 [] 1 6 0 = some true := by decide +kernel
theorem eq6_2 : congoulaw03_SketchEqual.l0 30000 2 6 [] 1 6 0 = some true := by decide +kernel
theorem eq6_3 : congoulaw03_SketchEqual.l0 30000 3 6 [] 1 6 0 = some true := by decide +kernel
theorem eq6_4 : congoulaw03_SketchEqual.l0 30000 4 6 [] 1 6 0 = some true := by decide +kernel
theorem eq6_5 : congoulaw03_SketchEqual.l0 30000 5 6 [] 1 6 0 = some true := by decide +kernel
theorem eq6_6 : congoulaw03_SketchEqual.l0 30000 6 6 [] 1 6 0 = some true := by decide +kernel
theorem eq6_7 : congoulaw03_SketchEqual.l0 30000 7 6 [] 1 6 0 = some true := by decide +kernel
theorem eq6_8 : congoulaw03_SketchEqual.l0 30000 8 6 [] 1 6 0 = some true := by decide +kernel
end Go.Proofs.Ytdffhffhnjkcpaa.Pure
