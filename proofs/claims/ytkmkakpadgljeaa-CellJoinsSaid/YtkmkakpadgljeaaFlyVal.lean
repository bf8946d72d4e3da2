/- A field of a struct that is a value. -/
import Derived.Test.YtkmkakpadgljeaaFlyT
import Derived.KernelRfl

namespace Go.Proofs.Ytkmkakpadgljeaa.Fly
open Go Go.RowKit
set_option linter.unusedVariables false
set_option linter.unusedSectionVars false
section
variable {P : Program} {n : Nat} {S : Nat → Prop} {w0 : World} {env : Env} {segs : List Seg} {d : Option Tmp} {ty : TypeId} {pos : String} {af : Array Edge} {g : Option (Nat × Bool)}
theorem o_fval {s : TypeId} {x : Operand} {f : Nat} {cs : Array Value} {v : Value} (hx : ev env x = some (.agg cs)) (hf : ∀ w, (Instr.field s (.agg cs) f).run P w = .ok v w) : Pure P n S w0 env segs ⟨d, .field s x f, ty, pos, af, g⟩ v :=
  fun a w ha _ => by simp [execOp, ha.eval hx, hf w]
end
end Go.Proofs.Ytkmkakpadgljeaa.Fly
