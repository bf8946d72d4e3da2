/-
  No cell of these rows narrows 'for every input' (looked for: loops, veiled, ifaces, maps, wideKeys, modest, calm, conditions, laid).
  DERIVED. THE GIVEN ROWS OF THIS SEAT. 5 by the template 'for every input the law returns true; each argument reads behind the call as it read before'; 0 by the template 'total and deterministic' (their statements: YtbjiejhdgkpjcaaTotals.lean).
  GIVEN WITH THE SEED: the statements are not yours to turn. If you find one false, say at which input.
  Laid BY PROGRAM, IN A SANDBOX (cutbox-rows.mjs): the forced cells as the released guide's own fill.sh prints them over the translation 8f2750c32cb22253… (all of the seat's roots in one cut). By AI agents, Wed Nov 11 2026. No macro, syntax, notation, axiom, sorry.
-/
import Derived.Test.YtbjiejhdgkpjcaaChecked
import GoSem.Claim
import GoSem.ClaimJoined
import GoSem.ClaimMapViews
import Derived.JoinedTies
import Derived.KernelRfl
namespace Go.Proofs.Ytbjiejhdgkpjcaa
/- THE CELL 'sum', in the pinned program and in every row, IS THE sha256 OF THE DUMP (.gsa) THAT YtbjiejhdgkpjcaaProg.lean LOADS. Nothing in Lean hashes anything: it is a label: what it is worth is what the hold of that sum in a sandbox is worth. -/
noncomputable def Try.pinned : Pinned := { name := "ytbjiejhdgkpjcaa", sum := "8f2750c32cb22253ec86bd6ed13ece7e36b75e05a4057d52afb16f1886283958", checked := Try.checked }
namespace Rows
def none {H : Type} : Left H := { results := [], args := [] }

/-- 'flyoverlaw08.NatcutCuts': WHATEVER THE INPUT: true; the input reads as it did. -/
def natcutCutsSpec : ChangeSpec := { name := "natcutCuts", fn := fun _ => fun
  | [d1, d2, d3] => { results := [.lit (.bool true)], args := [d1, d2, d3] }
  | _ => none }
def natcutCutsRow : OpenClaim := { program := "ytbjiejhdgkpjcaa", sum := "8f2750c32cb22253ec86bd6ed13ece7e36b75e05a4057d52afb16f1886283958", func := "flyover/flyoverlaw08.NatcutCuts", spec := "natcutCuts", unfollowed := true, recurses := true, plainKeys := false, apart := false }
def NatcutCutsSaid : Prop := natcutCutsRow.holds Try.pinned (OpenSpec.ofChange natcutCutsSpec)

/-- ITS FALSE NEIGHBOUR: 'it returns false'. Refute it at one input. -/
def natcutCutsWrong : ChangeSpec := { name := "natcutCuts", fn := fun _ => fun
  | [d1, d2, d3] => { results := [.lit (.bool false)], args := [d1, d2, d3] }
  | _ => none }
def NatcutCutsWrongFalsely : Prop := natcutCutsRow.holds Try.pinned (OpenSpec.ofChange natcutCutsWrong)

/-- 'flyoverlaw08.NatcutFragments': WHATEVER THE INPUT: true; the input reads as it did. -/
def natcutFragmentsSpec : ChangeSpec := { name := "natcutFragments", fn := fun _ => fun
  | [d1, d2] => { results := [.lit (.bool true)], args := [d1, d2] }
  | _ => none }
def natcutFragmentsRow : OpenClaim := { program := "ytbjiejhdgkpjcaa", sum := "8f2750c32cb22253ec86bd6ed13ece7e36b75e05a4057d52afb16f1886283958", func := "flyover/flyoverlaw08.NatcutFragments", spec := "natcutFragments", unfollowed := true, recurses := true, plainKeys := false, apart := false }
def NatcutFragmentsSaid : Prop := natcutFragmentsRow.holds Try.pinned (OpenSpec.ofChange natcutFragmentsSpec)

/-- ITS FALSE NEIGHBOUR: 'it returns false'. Refute it at one input. -/
def natcutFragmentsWrong : ChangeSpec := { name := "natcutFragments", fn := fun _ => fun
  | [d1, d2] => { results := [.lit (.bool false)], args := [d1, d2] }
  | _ => none }
def NatcutFragmentsWrongFalsely : Prop := natcutFragmentsRow.holds Try.pinned (OpenSpec.ofChange natcutFragmentsWrong)

/-- 'flyoverlaw08.NatcutParts': WHATEVER THE INPUT: true; the input reads as it did. -/
def natcutPartsSpec : ChangeSpec := { name := "natcutParts", fn := fun _ => fun
  | [d1, d2, d3] => { results := [.lit (.bool true)], args := [d1, d2, d3] }
  | _ => none }
def natcutPartsRow : OpenClaim := { program := "ytbjiejhdgkpjcaa", sum := "8f2750c32cb22253ec86bd6ed13ece7e36b75e05a4057d52afb16f1886283958", func := "flyover/flyoverlaw08.NatcutParts", spec := "natcutParts", unfollowed := true, recurses := true, plainKeys := false, apart := false }
def NatcutPartsSaid : Prop := natcutPartsRow.holds Try.pinned (OpenSpec.ofChange natcutPartsSpec)

/-- ITS FALSE NEIGHBOUR: 'it returns false'. Refute it at one input. -/
def natcutPartsWrong : ChangeSpec := { name := "natcutParts", fn := fun _ => fun
  | [d1, d2, d3] => { results := [.lit (.bool false)], args := [d1, d2, d3] }
  | _ => none }
def NatcutPartsWrongFalsely : Prop := natcutPartsRow.holds Try.pinned (OpenSpec.ofChange natcutPartsWrong)

/-- 'flyoverlaw08.NatcutOrder': WHATEVER THE INPUT: true; the input reads as it did. -/
def natcutOrderSpec : ChangeSpec := { name := "natcutOrder", fn := fun _ => fun
  | [d1, d2, d3] => { results := [.lit (.bool true)], args := [d1, d2, d3] }
  | _ => none }
def natcutOrderRow : OpenClaim := { program := "ytbjiejhdgkpjcaa", sum := "8f2750c32cb22253ec86bd6ed13ece7e36b75e05a4057d52afb16f1886283958", func := "flyover/flyoverlaw08.NatcutOrder", spec := "natcutOrder", unfollowed := true, recurses := true, plainKeys := false, apart := false }
def NatcutOrderSaid : Prop := natcutOrderRow.holds Try.pinned (OpenSpec.ofChange natcutOrderSpec)

/-- ITS FALSE NEIGHBOUR: 'it returns false'. Refute it at one input. -/
def natcutOrderWrong : ChangeSpec := { name := "natcutOrder", fn := fun _ => fun
  | [d1, d2, d3] => { results := [.lit (.bool false)], args := [d1, d2, d3] }
  | _ => none }
def NatcutOrderWrongFalsely : Prop := natcutOrderRow.holds Try.pinned (OpenSpec.ofChange natcutOrderWrong)

/-- 'flyoverlaw08.NatcutBetween': WHATEVER THE INPUT: true; the input reads as it did. -/
def natcutBetweenSpec : ChangeSpec := { name := "natcutBetween", fn := fun _ => fun
  | [d1, d2, d3] => { results := [.lit (.bool true)], args := [d1, d2, d3] }
  | _ => none }
def natcutBetweenRow : OpenClaim := { program := "ytbjiejhdgkpjcaa", sum := "8f2750c32cb22253ec86bd6ed13ece7e36b75e05a4057d52afb16f1886283958", func := "flyover/flyoverlaw08.NatcutBetween", spec := "natcutBetween", unfollowed := true, recurses := true, plainKeys := false, apart := false }
def NatcutBetweenSaid : Prop := natcutBetweenRow.holds Try.pinned (OpenSpec.ofChange natcutBetweenSpec)

/-- ITS FALSE NEIGHBOUR: 'it returns false'. Refute it at one input. -/
def natcutBetweenWrong : ChangeSpec := { name := "natcutBetween", fn := fun _ => fun
  | [d1, d2, d3] => { results := [.lit (.bool false)], args := [d1, d2, d3] }
  | _ => none }
def NatcutBetweenWrongFalsely : Prop := natcutBetweenRow.holds Try.pinned (OpenSpec.ofChange natcutBetweenWrong)

/- THE SECOND FORM. 'bulk': how many values and letters a reading holds, each counted each time it is reached (what is shared counts as often as it is met; a slice's spare places count too). A statement '..UptoSaid' is the law's where the arguments, and the package variables that the reading takes, are together of bulk at most 1048576: NARROWER than '..Said'. Prove '..Said' where nothing that the law and all that it calls make is longer than what came in: it says more and counts as full. Else prove '..UptoSaid'. A law counts once. -/
mutual
def uptoBulk {H : Type} : DataW H → Nat
  | .lit (.string bytes) => bytes.length + 1
  | .lit _ => 1
  | .nil => 1
  | .ptr d => uptoBulk d + 1
  | .slice elems spare => uptoBulkAll elems + uptoBulkAll spare + 1
  | .agg parts => uptoBulkAll parts + 1
  | .iface _ d => uptoBulk d + 1
  | .map entries => uptoBulkEntries entries + 1
  | .held _ => 1
def uptoBulkAll {H : Type} : List (DataW H) → Nat
  | [] => 0
  | d :: r => uptoBulk d + uptoBulkAll r
def uptoBulkEntries {H : Type} : List (Lit × DataW H) → Nat
  | [] => 0
  | x :: r => uptoBulkEntry x + uptoBulkEntries r
def uptoBulkEntry {H : Type} : Lit × DataW H → Nat
  | (.string bytes, d) => bytes.length + uptoBulk d + 1
  | (_, d) => uptoBulk d + 1
 end
def uptoSmall : (H : Type) → List (DataW H) → Bool := fun _ ds => decide (uptoBulkAll ds ≤ 1048576)
def OpenSpec.upto (s : _root_.Go.ChangeSpec) : _root_.Go.OpenSpec := { _root_.Go.OpenSpec.ofChange s with cond := some uptoSmall }

/-- 'flyoverlaw08.NatcutCuts', WHERE WHAT IT READS IS OF BULK AT MOST 1048576: true; the input reads as it did. -/
def natcutCutsUptoRow : OpenClaim := { program := "ytbjiejhdgkpjcaa", sum := "8f2750c32cb22253ec86bd6ed13ece7e36b75e05a4057d52afb16f1886283958", func := "flyover/flyoverlaw08.NatcutCuts", spec := "natcutCuts", unfollowed := true, recurses := true, plainKeys := false, apart := false, narrowed := true }
def NatcutCutsUptoSaid : Prop := natcutCutsUptoRow.holds Try.pinned (OpenSpec.upto natcutCutsSpec)

/-- 'flyoverlaw08.NatcutFragments', WHERE WHAT IT READS IS OF BULK AT MOST 1048576: true; the input reads as it did. -/
def natcutFragmentsUptoRow : OpenClaim := { program := "ytbjiejhdgkpjcaa", sum := "8f2750c32cb22253ec86bd6ed13ece7e36b75e05a4057d52afb16f1886283958", func := "flyover/flyoverlaw08.NatcutFragments", spec := "natcutFragments", unfollowed := true, recurses := true, plainKeys := false, apart := false, narrowed := true }
def NatcutFragmentsUptoSaid : Prop := natcutFragmentsUptoRow.holds Try.pinned (OpenSpec.upto natcutFragmentsSpec)

/-- 'flyoverlaw08.NatcutParts', WHERE WHAT IT READS IS OF BULK AT MOST 1048576: true; the input reads as it did. -/
def natcutPartsUptoRow : OpenClaim := { program := "ytbjiejhdgkpjcaa", sum := "8f2750c32cb22253ec86bd6ed13ece7e36b75e05a4057d52afb16f1886283958", func := "flyover/flyoverlaw08.NatcutParts", spec := "natcutParts", unfollowed := true, recurses := true, plainKeys := false, apart := false, narrowed := true }
def NatcutPartsUptoSaid : Prop := natcutPartsUptoRow.holds Try.pinned (OpenSpec.upto natcutPartsSpec)

/-- 'flyoverlaw08.NatcutOrder', WHERE WHAT IT READS IS OF BULK AT MOST 1048576: true; the input reads as it did. -/
def natcutOrderUptoRow : OpenClaim := { program := "ytbjiejhdgkpjcaa", sum := "8f2750c32cb22253ec86bd6ed13ece7e36b75e05a4057d52afb16f1886283958", func := "flyover/flyoverlaw08.NatcutOrder", spec := "natcutOrder", unfollowed := true, recurses := true, plainKeys := false, apart := false, narrowed := true }
def NatcutOrderUptoSaid : Prop := natcutOrderUptoRow.holds Try.pinned (OpenSpec.upto natcutOrderSpec)

/-- 'flyoverlaw08.NatcutBetween', WHERE WHAT IT READS IS OF BULK AT MOST 1048576: true; the input reads as it did. -/
def natcutBetweenUptoRow : OpenClaim := { program := "ytbjiejhdgkpjcaa", sum := "8f2750c32cb22253ec86bd6ed13ece7e36b75e05a4057d52afb16f1886283958", func := "flyover/flyoverlaw08.NatcutBetween", spec := "natcutBetween", unfollowed := true, recurses := true, plainKeys := false, apart := false, narrowed := true }
def NatcutBetweenUptoSaid : Prop := natcutBetweenUptoRow.holds Try.pinned (OpenSpec.upto natcutBetweenSpec)

end Rows
end Go.Proofs.Ytbjiejhdgkpjcaa
