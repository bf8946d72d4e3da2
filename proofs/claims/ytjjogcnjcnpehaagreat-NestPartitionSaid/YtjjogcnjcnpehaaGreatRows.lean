/-
  No cell of these rows narrows 'for every input' (looked for: loops, veiled, ifaces, maps, wideKeys, modest, calm, conditions, laid).
  DERIVED. THE GIVEN ROWS OF THIS SEAT. 3 by the template 'for every input the law returns true; each argument reads behind the call as it read before'; 0 by the template 'total and deterministic' (their statements: YtjjogcnjcnpehaaGreatTotals.lean).
  GIVEN WITH THE SEED: the statements are not yours to turn. If you find one false, say at which input.
  Laid BY PROGRAM, IN A SANDBOX (cutbox-rows.mjs): the forced cells as the released guide's own fill.sh prints them over the translation 0108f67dd4d0cfba… (all of the seat's roots in one cut). By AI agents, Wed Nov 11 2026. No macro, syntax, notation, axiom, sorry.
-/
import Derived.Test.YtjjogcnjcnpehaaGreatChecked
import GoSem.Claim
import GoSem.ClaimJoined
import GoSem.ClaimMapViews
import Derived.JoinedTies
import Derived.KernelRfl
namespace Go.Proofs.YtjjogcnjcnpehaaGreat
/- THE CELL 'sum', in the pinned program and in every row, IS THE sha256 OF THE DUMP (.gsa) THAT YtjjogcnjcnpehaaGreatProg.lean LOADS. Nothing in Lean hashes anything: it is a label: what it is worth is what the hold of that sum in a sandbox is worth. -/
noncomputable def Tryz.pinned : Pinned := { name := "ytjjogcnjcnpehaagreat", sum := "0108f67dd4d0cfba4ec0a51813ef5d1cd13cd61142c5f2ca2eba5c5d869251ba", checked := Tryz.checked }
namespace Rows
def none {H : Type} : Left H := { results := [], args := [] }

/-- 'flyoverlaw11.NestRight': WHATEVER THE INPUT: true; the input reads as it did. -/
def nestRightSpec : ChangeSpec := { name := "nestRight", fn := fun _ => fun
  | [d1, d2] => { results := [.lit (.bool true)], args := [d1, d2] }
  | _ => none }
def nestRightRow : OpenClaim := { program := "ytjjogcnjcnpehaagreat", sum := "0108f67dd4d0cfba4ec0a51813ef5d1cd13cd61142c5f2ca2eba5c5d869251ba", func := "flyover/flyoverlaw11.NestRight", spec := "nestRight", unfollowed := true, recurses := true, plainKeys := false, apart := false }
def NestRightSaid : Prop := nestRightRow.holds Tryz.pinned (OpenSpec.ofChange nestRightSpec)

/-- ITS FALSE NEIGHBOUR: 'it returns false'. Refute it at one input. -/
def nestRightWrong : ChangeSpec := { name := "nestRight", fn := fun _ => fun
  | [d1, d2] => { results := [.lit (.bool false)], args := [d1, d2] }
  | _ => none }
def NestRightWrongFalsely : Prop := nestRightRow.holds Tryz.pinned (OpenSpec.ofChange nestRightWrong)

/-- 'flyoverlaw11.NestUltra': WHATEVER THE INPUT: true; the input reads as it did. -/
def nestUltraSpec : ChangeSpec := { name := "nestUltra", fn := fun _ => fun
  | [d1, d2] => { results := [.lit (.bool true)], args := [d1, d2] }
  | _ => none }
def nestUltraRow : OpenClaim := { program := "ytjjogcnjcnpehaagreat", sum := "0108f67dd4d0cfba4ec0a51813ef5d1cd13cd61142c5f2ca2eba5c5d869251ba", func := "flyover/flyoverlaw11.NestUltra", spec := "nestUltra", unfollowed := true, recurses := true, plainKeys := false, apart := false }
def NestUltraSaid : Prop := nestUltraRow.holds Tryz.pinned (OpenSpec.ofChange nestUltraSpec)

/-- ITS FALSE NEIGHBOUR: 'it returns false'. Refute it at one input. -/
def nestUltraWrong : ChangeSpec := { name := "nestUltra", fn := fun _ => fun
  | [d1, d2] => { results := [.lit (.bool false)], args := [d1, d2] }
  | _ => none }
def NestUltraWrongFalsely : Prop := nestUltraRow.holds Tryz.pinned (OpenSpec.ofChange nestUltraWrong)

/-- 'flyoverlaw11.NestPartition': WHATEVER THE INPUT: true; the input reads as it did. -/
def nestPartitionSpec : ChangeSpec := { name := "nestPartition", fn := fun _ => fun
  | [d1, d2] => { results := [.lit (.bool true)], args := [d1, d2] }
  | _ => none }
def nestPartitionRow : OpenClaim := { program := "ytjjogcnjcnpehaagreat", sum := "0108f67dd4d0cfba4ec0a51813ef5d1cd13cd61142c5f2ca2eba5c5d869251ba", func := "flyover/flyoverlaw11.NestPartition", spec := "nestPartition", unfollowed := true, recurses := true, plainKeys := false, apart := false }
def NestPartitionSaid : Prop := nestPartitionRow.holds Tryz.pinned (OpenSpec.ofChange nestPartitionSpec)

/-- ITS FALSE NEIGHBOUR: 'it returns false'. Refute it at one input. -/
def nestPartitionWrong : ChangeSpec := { name := "nestPartition", fn := fun _ => fun
  | [d1, d2] => { results := [.lit (.bool false)], args := [d1, d2] }
  | _ => none }
def NestPartitionWrongFalsely : Prop := nestPartitionRow.holds Tryz.pinned (OpenSpec.ofChange nestPartitionWrong)

/- THE SECOND FORM. 'bulk': how many values and letters a reading holds, each counted each time it is reached (what is shared counts as often as it is met; a slice's spare places count too). A statement '..UptoSaid' is the law's where the arguments, and the package variables that the reading takes, are together of bulk at most 1048576: NARROWER than '..Said'. Prove '..Said' where nothing that the law and all that it calls make is longer than what came in: it says more and counts as full. Else prove '..UptoSaid'. A law counts once. -/
mutual
def uptoBulk {H : Type} : DataW H → Nat
  | .lit (.string bytes) => bytes.length + 1
  | .lit _ => 1
  | .nil => 1
  | .ptr d => uptoBulk d + 1
  | .slice elems spare => uptoBulkAll elems + uptoBulkAll spare + 1
  | .agg parts => uptoBulkAll parts + 1
  | .iface _ d => uptoBulk d + 1
  | .map entries => uptoBulkEntries entries + 1
  | .held _ => 1
def uptoBulkAll {H : Type} : List (DataW H) → Nat
  | [] => 0
  | d :: r => uptoBulk d + uptoBulkAll r
def uptoBulkEntries {H : Type} : List (Lit × DataW H) → Nat
  | [] => 0
  | x :: r => uptoBulkEntry x + uptoBulkEntries r
def uptoBulkEntry {H : Type} : Lit × DataW H → Nat
  | (.string bytes, d) => bytes.length + uptoBulk d + 1
  | (_, d) => uptoBulk d + 1
 end
def uptoSmall : (H : Type) → List (DataW H) → Bool := fun _ ds => decide (uptoBulkAll ds ≤ 1048576)
def OpenSpec.upto (s : _root_.Go.ChangeSpec) : _root_.Go.OpenSpec := { _root_.Go.OpenSpec.ofChange s with cond := some uptoSmall }

/-- 'flyoverlaw11.NestRight', WHERE WHAT IT READS IS OF BULK AT MOST 1048576: true; the input reads as it did. -/
def nestRightUptoRow : OpenClaim := { program := "ytjjogcnjcnpehaagreat", sum := "0108f67dd4d0cfba4ec0a51813ef5d1cd13cd61142c5f2ca2eba5c5d869251ba", func := "flyover/flyoverlaw11.NestRight", spec := "nestRight", unfollowed := true, recurses := true, plainKeys := false, apart := false, narrowed := true }
def NestRightUptoSaid : Prop := nestRightUptoRow.holds Tryz.pinned (OpenSpec.upto nestRightSpec)

/-- 'flyoverlaw11.NestUltra', WHERE WHAT IT READS IS OF BULK AT MOST 1048576: true; the input reads as it did. -/
def nestUltraUptoRow : OpenClaim := { program := "ytjjogcnjcnpehaagreat", sum := "0108f67dd4d0cfba4ec0a51813ef5d1cd13cd61142c5f2ca2eba5c5d869251ba", func := "flyover/flyoverlaw11.NestUltra", spec := "nestUltra", unfollowed := true, recurses := true, plainKeys := false, apart := false, narrowed := true }
def NestUltraUptoSaid : Prop := nestUltraUptoRow.holds Tryz.pinned (OpenSpec.upto nestUltraSpec)

/-- 'flyoverlaw11.NestPartition', WHERE WHAT IT READS IS OF BULK AT MOST 1048576: true; the input reads as it did. -/
def nestPartitionUptoRow : OpenClaim := { program := "ytjjogcnjcnpehaagreat", sum := "0108f67dd4d0cfba4ec0a51813ef5d1cd13cd61142c5f2ca2eba5c5d869251ba", func := "flyover/flyoverlaw11.NestPartition", spec := "nestPartition", unfollowed := true, recurses := true, plainKeys := false, apart := false, narrowed := true }
def NestPartitionUptoSaid : Prop := nestPartitionUptoRow.holds Tryz.pinned (OpenSpec.upto nestPartitionSpec)

end Rows
end Go.Proofs.YtjjogcnjcnpehaaGreat
