/- The small logic: more operations (division, bits). -/
import Derived.Test.YthbkeoejbendnaaFlyMap
import Derived.Test.YthbkeoejbendnaaFlySlice

namespace Go.Proofs.Ythbkeoejbendnaa.Fly
open Go Go.RowKit
set_option linter.unusedVariables false
set_option linter.unusedSimpArgs false

variable {P : Program} {n : Nat} {S : Nat → Prop} {w0 : World} {env : Env} {segs : List Seg} {d : Option Tmp} {ty : TypeId} {pos : String} {af : Array Edge} {g : Option (Nat × Bool)}

theorem tmod_nat (a b : Nat) : (a : Int).tmod (b : Int) = ((a % b : Nat) : Int) := rfl
theorem tdiv_nat (a b : Nat) : (a : Int).tdiv (b : Int) = ((a / b : Nat) : Int) := rfl
theorem o_rem {T T' : TypeId} {x y : Operand} {kk : IntKind} {p q : Int} (hx : ev env x = some (.int kk p)) (hy : ev env y = some (.int kk q)) (hq : q ≠ 0) (c : Int) (hc : p.tmod q = c) :
    Pure P n S w0 env segs ⟨d, .binOp .rem T x y T', ty, pos, af, g⟩ (.int kk c) :=
  fun a w ha _ => by simp [execOp, eqGuard, binOp, Op.intDiv, ha.eval hx, ha.eval hy, hc, hq]
theorem o_quo {T T' : TypeId} {x y : Operand} {kk : IntKind} {p q : Int} (hx : ev env x = some (.int kk p)) (hy : ev env y = some (.int kk q)) (hq : q ≠ 0) (c : Int) (hc : kk.wrap (p.tdiv q) = c) :
    Pure P n S w0 env segs ⟨d, .binOp .quo T x y T', ty, pos, af, g⟩ (.int kk c) :=
  fun a w ha _ => by simp [execOp, eqGuard, binOp, Op.intDiv, ha.eval hx, ha.eval hy, hc, hq]
theorem o_shr {T T' : TypeId} {x y : Operand} {kk ky : IntKind} {p q : Int} (hx : ev env x = some (.int kk p)) (hy : ev env y = some (.int ky q)) (hq : 0 ≤ q) (c : Int) (hc : p.fdiv (2 ^ (min q.toNat kk.bits)) = c) :
    Pure P n S w0 env segs ⟨d, .binOp .shr T x y T', ty, pos, af, g⟩ (.int kk c) :=
  fun a w ha _ => by
    have : ¬ q < 0 := by omega
    simp [execOp, eqGuard, binOp, Op.shift, ha.eval hx, ha.eval hy, hc, this]
theorem o_shl {T T' : TypeId} {x y : Operand} {kk ky : IntKind} {p q : Int} (hx : ev env x = some (.int kk p)) (hy : ev env y = some (.int ky q)) (hq : 0 ≤ q) (c : Int) (hc : kk.wrap (p * 2 ^ (min q.toNat kk.bits)) = c) :
    Pure P n S w0 env segs ⟨d, .binOp .shl T x y T', ty, pos, af, g⟩ (.int kk c) :=
  fun a w ha _ => by
    have : ¬ q < 0 := by omega
    simp [execOp, eqGuard, binOp, Op.shift, ha.eval hx, ha.eval hy, hc, this]
end Go.Proofs.Ythbkeoejbendnaa.Fly
