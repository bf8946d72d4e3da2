/- How changes read. -/
import Derived.Test.YthbkeoejbendnaaFlyT
import Derived.Test.YthbkeoejbendnaaFlyR
import Derived.Test.YthbkeoejbendnaaFChange
namespace Go.Proofs.Ythbkeoejbendnaa
open Go Go.RowKit Fly
set_option linter.unusedVariables false
set_option linter.unusedSimpArgs false


theorem rdChg {H : Type} {enc : TypeId × Value → H} (W : World) : Reads enc Try.prog W 61 chgCs ChgOk :=
  (reads2 Try.underlying61 (by kernel_rfl) ⟨rfl, by kernel_rfl⟩ ⟨rfl, by kernel_rfl⟩ (ca := fun n => .int .i64 n) (cb := fun n => .int .u32 n) (reads_int Try.underlying3) (reads_int Try.underlying32)).map (fun x => (⟨x.1, x.2⟩ : Chg)) (fun x => rfl)
    fun x hx => ⟨i64_wf hx.1, u32_wf hx.2⟩
theorem bytesChg : Try.prog.bytesOf 61 = 16 := by kernel_rfl

end Go.Proofs.Ythbkeoejbendnaa
