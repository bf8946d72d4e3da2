/-
  No cell of these rows narrows 'for every input' (looked for: loops, veiled, ifaces, maps, wideKeys, modest, calm, conditions, laid).
  DERIVED. THE GIVEN ROWS OF THIS SEAT. 4 by the template 'for every input the law returns true; each argument reads behind the call as it read before'; 0 by the template 'total and deterministic' (their statements: YtkmkakpadgljeaaTotals.lean).
  GIVEN WITH THE SEED: the statements are not yours to turn. If you find one false, say at which input.
  Laid BY PROGRAM, IN A SANDBOX (cutbox-rows.mjs): the forced cells as the released guide's own fill.sh prints them over the translation 8087e85f0eebf9a0… (all of the seat's roots in one cut). By AI agents, Wed Nov 11 2026. No macro, syntax, notation, axiom, sorry.
-/
import Derived.Test.YtkmkakpadgljeaaChecked
import GoSem.Claim
import GoSem.ClaimJoined
import GoSem.ClaimMapViews
import Derived.JoinedTies
import Derived.KernelRfl
namespace Go.Proofs.Ytkmkakpadgljeaa
/- THE CELL 'sum', in the pinned program and in every row, IS THE sha256 OF THE DUMP (.gsa) THAT YtkmkakpadgljeaaProg.lean LOADS. Nothing in Lean hashes anything: it is a label: what it is worth is what the hold of that sum in a sandbox is worth. -/
noncomputable def Try.pinned : Pinned := { name := "ytkmkakpadgljeaa", sum := "8087e85f0eebf9a0bb1e9a9ceea10bb34d04d7a5542e9ffe3534e65a1f014b29", checked := Try.checked }
namespace Rows
def none {H : Type} : Left H := { results := [], args := [] }

/-- 'flyoverlaw12.CellJoins': WHATEVER THE INPUT: true; the input reads as it did. -/
def cellJoinsSpec : ChangeSpec := { name := "cellJoins", fn := fun _ => fun
  | [d1, d2] => { results := [.lit (.bool true)], args := [d1, d2] }
  | _ => none }
def cellJoinsRow : OpenClaim := { program := "ytkmkakpadgljeaa", sum := "8087e85f0eebf9a0bb1e9a9ceea10bb34d04d7a5542e9ffe3534e65a1f014b29", func := "flyover/flyoverlaw12.CellJoins", spec := "cellJoins", unfollowed := true, recurses := true, apart := false }
def CellJoinsSaid : Prop := cellJoinsRow.holds Try.pinned (OpenSpec.ofChange cellJoinsSpec)

/-- ITS FALSE NEIGHBOUR: 'it returns false'. Refute it at one input. -/
def cellJoinsWrong : ChangeSpec := { name := "cellJoins", fn := fun _ => fun
  | [d1, d2] => { results := [.lit (.bool false)], args := [d1, d2] }
  | _ => none }
def CellJoinsWrongFalsely : Prop := cellJoinsRow.holds Try.pinned (OpenSpec.ofChange cellJoinsWrong)

/-- 'flyoverlaw12.CellStale': WHATEVER THE INPUT: true; the input reads as it did. -/
def cellStaleSpec : ChangeSpec := { name := "cellStale", fn := fun _ => fun
  | [d1, d2, d3] => { results := [.lit (.bool true)], args := [d1, d2, d3] }
  | _ => none }
def cellStaleRow : OpenClaim := { program := "ytkmkakpadgljeaa", sum := "8087e85f0eebf9a0bb1e9a9ceea10bb34d04d7a5542e9ffe3534e65a1f014b29", func := "flyover/flyoverlaw12.CellStale", spec := "cellStale", unfollowed := true, recurses := true, apart := false }
def CellStaleSaid : Prop := cellStaleRow.holds Try.pinned (OpenSpec.ofChange cellStaleSpec)

/-- ITS FALSE NEIGHBOUR: 'it returns false'. Refute it at one input. -/
def cellStaleWrong : ChangeSpec := { name := "cellStale", fn := fun _ => fun
  | [d1, d2, d3] => { results := [.lit (.bool false)], args := [d1, d2, d3] }
  | _ => none }
def CellStaleWrongFalsely : Prop := cellStaleRow.holds Try.pinned (OpenSpec.ofChange cellStaleWrong)

/-- 'flyoverlaw12.CellInside': WHATEVER THE INPUT: true; the input reads as it did. -/
def cellInsideSpec : ChangeSpec := { name := "cellInside", fn := fun _ => fun
  | [d1, d2] => { results := [.lit (.bool true)], args := [d1, d2] }
  | _ => none }
def cellInsideRow : OpenClaim := { program := "ytkmkakpadgljeaa", sum := "8087e85f0eebf9a0bb1e9a9ceea10bb34d04d7a5542e9ffe3534e65a1f014b29", func := "flyover/flyoverlaw12.CellInside", spec := "cellInside", unfollowed := true, recurses := true, apart := false }
def CellInsideSaid : Prop := cellInsideRow.holds Try.pinned (OpenSpec.ofChange cellInsideSpec)

/-- ITS FALSE NEIGHBOUR: 'it returns false'. Refute it at one input. -/
def cellInsideWrong : ChangeSpec := { name := "cellInside", fn := fun _ => fun
  | [d1, d2] => { results := [.lit (.bool false)], args := [d1, d2] }
  | _ => none }
def CellInsideWrongFalsely : Prop := cellInsideRow.holds Try.pinned (OpenSpec.ofChange cellInsideWrong)

/-- 'flyoverlaw12.CellTouched': WHATEVER THE INPUT: true; the input reads as it did. -/
def cellTouchedSpec : ChangeSpec := { name := "cellTouched", fn := fun _ => fun
  | [d1, d2, d3] => { results := [.lit (.bool true)], args := [d1, d2, d3] }
  | _ => none }
def cellTouchedRow : OpenClaim := { program := "ytkmkakpadgljeaa", sum := "8087e85f0eebf9a0bb1e9a9ceea10bb34d04d7a5542e9ffe3534e65a1f014b29", func := "flyover/flyoverlaw12.CellTouched", spec := "cellTouched", unfollowed := true, recurses := true, apart := false }
def CellTouchedSaid : Prop := cellTouchedRow.holds Try.pinned (OpenSpec.ofChange cellTouchedSpec)

/-- ITS FALSE NEIGHBOUR: 'it returns false'. Refute it at one input. -/
def cellTouchedWrong : ChangeSpec := { name := "cellTouched", fn := fun _ => fun
  | [d1, d2, d3] => { results := [.lit (.bool false)], args := [d1, d2, d3] }
  | _ => none }
def CellTouchedWrongFalsely : Prop := cellTouchedRow.holds Try.pinned (OpenSpec.ofChange cellTouchedWrong)

/- THE SECOND FORM. 'bulk': how many values and letters a reading holds, each counted each time it is reached (what is shared counts as often as it is met; a slice's spare places count too). A statement '..UptoSaid' is the law's where the arguments, and the package variables that the reading takes, are together of bulk at most 1048576: NARROWER than '..Said'. Prove '..Said' where nothing that the law and all that it calls make is longer than what came in: it says more and counts as full. Else prove '..UptoSaid'. A law counts once. -/
mutual
def uptoBulk {H : Type} : DataW H → Nat
  | .lit (.string bytes) => bytes.length + 1
  | .lit _ => 1
  | .nil => 1
  | .ptr d => uptoBulk d + 1
  | .slice elems spare => uptoBulkAll elems + uptoBulkAll spare + 1
  | .agg parts => uptoBulkAll parts + 1
  | .iface _ d => uptoBulk d + 1
  | .map entries => uptoBulkEntries entries + 1
  | .held _ => 1
def uptoBulkAll {H : Type} : List (DataW H) → Nat
  | [] => 0
  | d :: r => uptoBulk d + uptoBulkAll r
def uptoBulkEntries {H : Type} : List (Lit × DataW H) → Nat
  | [] => 0
  | x :: r => uptoBulkEntry x + uptoBulkEntries r
def uptoBulkEntry {H : Type} : Lit × DataW H → Nat
  | (.string bytes, d) => bytes.length + uptoBulk d + 1
  | (_, d) => uptoBulk d + 1
 end
def uptoSmall : (H : Type) → List (DataW H) → Bool := fun _ ds => decide (uptoBulkAll ds ≤ 1048576)
def OpenSpec.upto (s : _root_.Go.ChangeSpec) : _root_.Go.OpenSpec := { _root_.Go.OpenSpec.ofChange s with cond := some uptoSmall }

/-- 'flyoverlaw12.CellJoins', WHERE WHAT IT READS IS OF BULK AT MOST 1048576: true; the input reads as it did. -/
def cellJoinsUptoRow : OpenClaim := { program := "ytkmkakpadgljeaa", sum := "8087e85f0eebf9a0bb1e9a9ceea10bb34d04d7a5542e9ffe3534e65a1f014b29", func := "flyover/flyoverlaw12.CellJoins", spec := "cellJoins", unfollowed := true, recurses := true, apart := false, narrowed := true }
def CellJoinsUptoSaid : Prop := cellJoinsUptoRow.holds Try.pinned (OpenSpec.upto cellJoinsSpec)

/-- 'flyoverlaw12.CellStale', WHERE WHAT IT READS IS OF BULK AT MOST 1048576: true; the input reads as it did. -/
def cellStaleUptoRow : OpenClaim := { program := "ytkmkakpadgljeaa", sum := "8087e85f0eebf9a0bb1e9a9ceea10bb34d04d7a5542e9ffe3534e65a1f014b29", func := "flyover/flyoverlaw12.CellStale", spec := "cellStale", unfollowed := true, recurses := true, apart := false, narrowed := true }
def CellStaleUptoSaid : Prop := cellStaleUptoRow.holds Try.pinned (OpenSpec.upto cellStaleSpec)

/-- 'flyoverlaw12.CellInside', WHERE WHAT IT READS IS OF BULK AT MOST 1048576: true; the input reads as it did. -/
def cellInsideUptoRow : OpenClaim := { program := "ytkmkakpadgljeaa", sum := "8087e85f0eebf9a0bb1e9a9ceea10bb34d04d7a5542e9ffe3534e65a1f014b29", func := "flyover/flyoverlaw12.CellInside", spec := "cellInside", unfollowed := true, recurses := true, apart := false, narrowed := true }
def CellInsideUptoSaid : Prop := cellInsideUptoRow.holds Try.pinned (OpenSpec.upto cellInsideSpec)

/-- 'flyoverlaw12.CellTouched', WHERE WHAT IT READS IS OF BULK AT MOST 1048576: true; the input reads as it did. -/
def cellTouchedUptoRow : OpenClaim := { program := "ytkmkakpadgljeaa", sum := "8087e85f0eebf9a0bb1e9a9ceea10bb34d04d7a5542e9ffe3534e65a1f014b29", func := "flyover/flyoverlaw12.CellTouched", spec := "cellTouched", unfollowed := true, recurses := true, apart := false, narrowed := true }
def CellTouchedUptoSaid : Prop := cellTouchedUptoRow.holds Try.pinned (OpenSpec.upto cellTouchedSpec)

end Rows
end Go.Proofs.Ytkmkakpadgljeaa
