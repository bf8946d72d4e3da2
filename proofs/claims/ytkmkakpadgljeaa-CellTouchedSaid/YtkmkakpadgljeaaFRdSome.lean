/- How a level and arcs read. -/
import Derived.Test.YtkmkakpadgljeaaFlyT
import Derived.Test.YtkmkakpadgljeaaFlyR
namespace Go.Proofs.Ytkmkakpadgljeaa
open Go Go.RowKit Fly
set_option linter.unusedVariables false
set_option linter.unusedSimpArgs false


theorem rdSome {H : Type} {enc : TypeId × Value → H} (W : World) : Reads enc Try.prog W 45 (fun x : Int × Option Addr × List Int × Nat => [.int .i64 x.1, .slice x.2.1 x.2.2.1.length x.2.2.2]) (fun x => I64 x.1 ∧ SlIn W (fun n : Int => [.int .i64 n]) I64 x.2.1 x.2.2.1 x.2.2.2) :=
  reads2 (ca := fun n => .int .i64 n) (cb := fun x : Option Addr × List Int × Nat => .slice x.1 x.2.1.length x.2.2) Try.underlying45 (by kernel_rfl) ⟨rfl, by kernel_rfl⟩ ⟨rfl, by kernel_rfl⟩
    (reads_i64 Try.underlying3) (reads_slice (cells := fun n : Int => [.int .i64 n]) (sz := 1) Try.underlying25 (by kernel_rfl) (fun _ => rfl) (by omega) (reads_i64 Try.underlying3))

end Go.Proofs.Ytkmkakpadgljeaa
