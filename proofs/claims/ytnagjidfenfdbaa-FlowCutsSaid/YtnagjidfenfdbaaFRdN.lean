/- How networks of this program read. -/
import Derived.Test.YtnagjidfenfdbaaFlyT
import Derived.Test.YtnagjidfenfdbaaFlyR
namespace Go.Proofs.Ytnagjidfenfdbaa
open Go Go.RowKit Fly
set_option linter.unusedVariables false
set_option linter.unusedSimpArgs false


theorem rdEdge {H : Type} {enc : TypeId × Value → H} (W : World) : Reads enc Try.prog W 52 arcCs ArcOk :=
  reads_arc Try.underlying52 (by kernel_rfl) ⟨rfl, by kernel_rfl⟩ ⟨rfl, by kernel_rfl⟩ ⟨rfl, by kernel_rfl⟩ Try.underlying3 Try.underlying3 Try.underlying50
theorem rdNet {H : Type} {enc : TypeId × Value → H} (W : World) : Reads enc Try.prog W 24 (fun x : Int × Option Addr × List Arc × Nat => [.int .i64 x.1, .slice x.2.1 x.2.2.1.length x.2.2.2]) (fun x => GrIn W x.1 x.2.1 x.2.2.1 x.2.2.2) :=
  reads_graph Try.underlying24 (by kernel_rfl) ⟨rfl, by kernel_rfl⟩ ⟨rfl, by kernel_rfl⟩ Try.underlying3 Try.underlying22 (by kernel_rfl) (rdEdge W)
theorem bytesEdge : Try.prog.bytesOf 52 = 24 := by kernel_rfl

end Go.Proofs.Ytnagjidfenfdbaa
