/- slices.Sort over numbers at this program. -/
import Derived.Test.YtkmkakpadgljeaaLaySort
import Derived.Test.YtkmkakpadgljeaaFlySort
import Derived.Test.YtkmkakpadgljeaaFlyT
namespace Go.Proofs.Ytkmkakpadgljeaa
open Go Go.RowKit Fly
set_option linter.unusedVariables false
set_option linter.unusedSimpArgs false


theorem SortInts_spec (A : Option Addr) (cap : Nat) (l : List Int) (m : Seg) (w : World) (ho : Own 3 1 (.slice A l.length cap) l.length (ints l) m) (hl : l.length < 4611686018427387904) (hw : Owns w [m]) :
    Meets Try.prog 33 [.slice A l.length cap] w [m] (fun u own' => u = .tuple #[] ∧ ∃ m', own' = [m'] ∧ Own 3 1 (.slice A l.length cap) l.length (ints (sortI l)) m') :=
  meets_sort Try.laysSort A cap l m w ho hl hw

end Go.Proofs.Ytkmkakpadgljeaa
