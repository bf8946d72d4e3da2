/- How two vertices and arcs of this program read. -/
import Derived.Test.YtegkdbicomedjaaFlyT
import Derived.Test.YtegkdbicomedjaaFlyR
namespace Go.Proofs.Ytegkdbicomedjaa
open Go Go.RowKit Fly
set_option linter.unusedVariables false
set_option linter.unusedSimpArgs false


theorem rdGiven {H : Type} {enc : TypeId × Value → H} (W : World) : Reads enc Try.prog W 53 (fun x : Int × Int × Option Addr × List Int × Nat => [.int .i64 x.1, .int .i64 x.2.1, .slice x.2.2.1 x.2.2.2.1.length x.2.2.2.2]) (fun x => I64 x.1 ∧ I64 x.2.1 ∧ SlIn W (fun n : Int => [.int .i64 n]) I64 x.2.2.1 x.2.2.2.1 x.2.2.2.2) :=
  reads3 (ca := fun n => .int .i64 n) (cb := fun n => .int .i64 n) (cc := fun x : Option Addr × List Int × Nat => .slice x.1 x.2.1.length x.2.2) Try.underlying53 (by kernel_rfl) ⟨rfl, by kernel_rfl⟩ ⟨rfl, by kernel_rfl⟩ ⟨rfl, by kernel_rfl⟩
    (reads_i64 Try.underlying3) (reads_i64 Try.underlying3) (reads_slice (cells := fun n : Int => [.int .i64 n]) (sz := 1) Try.underlying28 (by kernel_rfl) (fun _ => rfl) (by omega) (reads_i64 Try.underlying3))
theorem bytesArc : Try.prog.bytesOf 44 = 24 := by kernel_rfl
theorem bytesInt : Try.prog.bytesOf 3 = 8 := by kernel_rfl

end Go.Proofs.Ytegkdbicomedjaa
