/- How nests and plans read. -/
import Derived.Test.YtkmkakpadgljeaaFlyT
import Derived.Test.YtkmkakpadgljeaaFlyR
import Derived.Test.YtkmkakpadgljeaaFNest
namespace Go.Proofs.Ytkmkakpadgljeaa
open Go Go.RowKit Fly
set_option linter.unusedVariables false
set_option linter.unusedSimpArgs false


abbrev RowIn (W : World) (r : Row) : Prop := SlIn W (fun n : Int => [.int .i64 n]) I64 r.1 r.2.1 r.2.2
abbrev NestIn (W : World) (x : Option Addr × List Int × Nat × Option Addr × List Row × Nat) : Prop := SlIn W (fun n : Int => [.int .i64 n]) I64 x.1 x.2.1 x.2.2.1 ∧ SlIn W (fun r : Row => [rowV r]) (RowIn W) x.2.2.2.1 x.2.2.2.2.1 x.2.2.2.2.2
theorem rdRow {H : Type} {enc : TypeId × Value → H} (W : World) : Reads enc Try.prog W 25 (fun r : Row => [rowV r]) (RowIn W) :=
  reads_slice (cells := fun n : Int => [.int .i64 n]) (sz := 1) Try.underlying25 (by kernel_rfl) (fun _ => rfl) (by omega) (reads_i64 Try.underlying3)
theorem rdNest {H : Type} {enc : TypeId × Value → H} (W : World) : Reads enc Try.prog W 28 (fun x : Option Addr × List Int × Nat × Option Addr × List Row × Nat => [.slice x.1 x.2.1.length x.2.2.1, .slice x.2.2.2.1 x.2.2.2.2.1.length x.2.2.2.2.2]) (NestIn W) :=
  (reads2 (ca := fun x : Row => rowV x) (cb := fun x : Option Addr × List Row × Nat => .slice x.1 x.2.1.length x.2.2) Try.underlying28 (by kernel_rfl) ⟨rfl, by kernel_rfl⟩ ⟨rfl, by kernel_rfl⟩
    (rdRow W) (reads_slice (cells := fun r : Row => [rowV r]) (sz := 1) Try.underlying26 (by kernel_rfl) (fun _ => rfl) (by omega) (rdRow W))).map
    (fun x => ((x.1.1, x.1.2.1, x.1.2.2, x.2.1, x.2.2.1, x.2.2.2) : Option Addr × List Int × Nat × Option Addr × List Row × Nat)) (fun x => rfl) fun x hx => hx
theorem nest_in {W : World} {x : Option Addr × List Int × Nat × Option Addr × List Row × Nat} (h : NestIn W x) : NestRo (Fr W []) W x.1 x.2.1 x.2.2.2.1 x.2.2.2.2.1 where
  b := by have := h.1.ro; rwa [flat_one] at this
  bl := Nat.le_trans h.1.le h.1.max
  c := by have := h.2.ro; rwa [flat_one] at this
  cl := Nat.le_trans h.2.le h.2.max
  rows := fun r hr => ⟨by have := (h.2.ok r hr).ro; rwa [flat_one] at this, Nat.le_trans (h.2.ok r hr).le (h.2.ok r hr).max⟩

end Go.Proofs.Ytkmkakpadgljeaa
