/-
  No cell of these rows narrows 'for every input' (looked for: loops, veiled, ifaces, maps, wideKeys, modest, calm, conditions, laid).
  DERIVED. THE GIVEN ROWS OF THIS SEAT. 2 by the template 'for every input the law returns true; each argument reads behind the call as it read before'; 0 by the template 'total and deterministic' (their statements: YthpkelafioikaaaGreatTotals.lean).
  GIVEN WITH THE SEED: the statements are not yours to turn. If you find one false, say at which input.
  Laid BY PROGRAM, IN A SANDBOX (cutbox-rows.mjs): the forced cells as the released guide's own fill.sh prints them over the translation fdb7617639d4cc7b… (all of the seat's roots in one cut). By AI agents, Wed Nov 11 2026. No macro, syntax, notation, axiom, sorry.
-/
import Derived.Test.YthpkelafioikaaaGreatChecked
import GoSem.Claim
import GoSem.ClaimJoined
import GoSem.ClaimMapViews
import Derived.JoinedTies
import Derived.KernelRfl
namespace Go.Proofs.YthpkelafioikaaaGreat
/- THE CELL 'sum', in the pinned program and in every row, IS THE sha256 OF THE DUMP (.gsa) THAT YthpkelafioikaaaGreatProg.lean LOADS. Nothing in Lean hashes anything: it is a label: what it is worth is what the hold of that sum in a sandbox is worth. -/
noncomputable def Tryz.pinned : Pinned := { name := "ythpkelafioikaaagreat", sum := "fdb7617639d4cc7b2ea5c426882962dbd4b5c1b3a9ccd8b57f57ddac6a42a12f", checked := Tryz.checked }
namespace Rows
def none {H : Type} : Left H := { results := [], args := [] }

/-- 'flyovertop.TopBoundary': WHATEVER THE INPUT: true; the input reads as it did. -/
def topBoundarySpec : ChangeSpec := { name := "topBoundary", fn := fun _ => fun
  | [d1, d2, d3] => { results := [.lit (.bool true)], args := [d1, d2, d3] }
  | _ => none }
def topBoundaryRow : OpenClaim := { program := "ythpkelafioikaaagreat", sum := "fdb7617639d4cc7b2ea5c426882962dbd4b5c1b3a9ccd8b57f57ddac6a42a12f", func := "flyover/flyovertop.TopBoundary", spec := "topBoundary", inPlace := ["math/bits.Add64"], unfollowed := true, recurses := true, plainKeys := false, apart := false }
def TopBoundarySaid : Prop := topBoundaryRow.holds Tryz.pinned (OpenSpec.ofChange topBoundarySpec)

/-- ITS FALSE NEIGHBOUR: 'it returns false'. Refute it at one input. -/
def topBoundaryWrong : ChangeSpec := { name := "topBoundary", fn := fun _ => fun
  | [d1, d2, d3] => { results := [.lit (.bool false)], args := [d1, d2, d3] }
  | _ => none }
def TopBoundaryWrongFalsely : Prop := topBoundaryRow.holds Tryz.pinned (OpenSpec.ofChange topBoundaryWrong)

/-- 'flyovertop.TopChanges': WHATEVER THE INPUT: true; the input reads as it did. -/
def topChangesSpec : ChangeSpec := { name := "topChanges", fn := fun _ => fun
  | [d1, d2, d3] => { results := [.lit (.bool true)], args := [d1, d2, d3] }
  | _ => none }
def topChangesRow : OpenClaim := { program := "ythpkelafioikaaagreat", sum := "fdb7617639d4cc7b2ea5c426882962dbd4b5c1b3a9ccd8b57f57ddac6a42a12f", func := "flyover/flyovertop.TopChanges", spec := "topChanges", inPlace := ["math/bits.Add64"], unfollowed := true, recurses := true, plainKeys := false, apart := false }
def TopChangesSaid : Prop := topChangesRow.holds Tryz.pinned (OpenSpec.ofChange topChangesSpec)

/-- ITS FALSE NEIGHBOUR: 'it returns false'. Refute it at one input. -/
def topChangesWrong : ChangeSpec := { name := "topChanges", fn := fun _ => fun
  | [d1, d2, d3] => { results := [.lit (.bool false)], args := [d1, d2, d3] }
  | _ => none }
def TopChangesWrongFalsely : Prop := topChangesRow.holds Tryz.pinned (OpenSpec.ofChange topChangesWrong)

/- THE SECOND FORM. 'bulk': how many values and letters a reading holds, each counted each time it is reached (what is shared counts as often as it is met; a slice's spare places count too). A statement '..UptoSaid' is the law's where the arguments, and the package variables that the reading takes, are together of bulk at most 1048576: NARROWER than '..Said'. Prove '..Said' where nothing that the law and all that it calls make is longer than what came in: it says more and counts as full. Else prove '..UptoSaid'. A law counts once. -/
mutual
def uptoBulk {H : Type} : DataW H → Nat
  | .lit (.string bytes) => bytes.length + 1
  | .lit _ => 1
  | .nil => 1
  | .ptr d => uptoBulk d + 1
  | .slice elems spare => uptoBulkAll elems + uptoBulkAll spare + 1
  | .agg parts => uptoBulkAll parts + 1
  | .iface _ d => uptoBulk d + 1
  | .map entries => uptoBulkEntries entries + 1
  | .held _ => 1
def uptoBulkAll {H : Type} : List (DataW H) → Nat
  | [] => 0
  | d :: r => uptoBulk d + uptoBulkAll r
def uptoBulkEntries {H : Type} : List (Lit × DataW H) → Nat
  | [] => 0
  | x :: r => uptoBulkEntry x + uptoBulkEntries r
def uptoBulkEntry {H : Type} : Lit × DataW H → Nat
  | (.string bytes, d) => bytes.length + uptoBulk d + 1
  | (_, d) => uptoBulk d + 1
 end
def uptoSmall : (H : Type) → List (DataW H) → Bool := fun _ ds => decide (uptoBulkAll ds ≤ 1048576)
def OpenSpec.upto (s : _root_.Go.ChangeSpec) : _root_.Go.OpenSpec := { _root_.Go.OpenSpec.ofChange s with cond := some uptoSmall }

/-- 'flyovertop.TopBoundary', WHERE WHAT IT READS IS OF BULK AT MOST 1048576: true; the input reads as it did. -/
def topBoundaryUptoRow : OpenClaim := { program := "ythpkelafioikaaagreat", sum := "fdb7617639d4cc7b2ea5c426882962dbd4b5c1b3a9ccd8b57f57ddac6a42a12f", func := "flyover/flyovertop.TopBoundary", spec := "topBoundary", inPlace := ["math/bits.Add64"], unfollowed := true, recurses := true, plainKeys := false, apart := false, narrowed := true }
def TopBoundaryUptoSaid : Prop := topBoundaryUptoRow.holds Tryz.pinned (OpenSpec.upto topBoundarySpec)

/-- 'flyovertop.TopChanges', WHERE WHAT IT READS IS OF BULK AT MOST 1048576: true; the input reads as it did. -/
def topChangesUptoRow : OpenClaim := { program := "ythpkelafioikaaagreat", sum := "fdb7617639d4cc7b2ea5c426882962dbd4b5c1b3a9ccd8b57f57ddac6a42a12f", func := "flyover/flyovertop.TopChanges", spec := "topChanges", inPlace := ["math/bits.Add64"], unfollowed := true, recurses := true, plainKeys := false, apart := false, narrowed := true }
def TopChangesUptoSaid : Prop := topChangesUptoRow.holds Tryz.pinned (OpenSpec.upto topChangesSpec)

end Rows
end Go.Proofs.YthpkelafioikaaaGreat
