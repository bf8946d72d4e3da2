/- How heavy an arc is. -/
import Derived.Test.YtlllpmafhnfihaaFlyT
import Derived.Test.YtlllpmafhnfihaaFlyR
namespace Go.Proofs.Ytlllpmafhnfihaa
open Go Go.RowKit Fly
set_option linter.unusedVariables false
set_option linter.unusedSimpArgs false


theorem bytesArc3 : Try.prog.bytesOf 44 = 24 := by kernel_rfl

end Go.Proofs.Ytlllpmafhnfihaa
