/- How heavy an arc is. -/
import Derived.Test.YthbkeoejbendnaaFlyT
import Derived.Test.YthbkeoejbendnaaFlyR
namespace Go.Proofs.Ythbkeoejbendnaa
open Go Go.RowKit Fly
set_option linter.unusedVariables false
set_option linter.unusedSimpArgs false


theorem bytesArc3 : Try.prog.bytesOf 34 = 24 := by kernel_rfl

end Go.Proofs.Ythbkeoejbendnaa
