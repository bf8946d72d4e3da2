/-
  No cell of these rows narrows 'for every input' (looked for: loops, veiled, ifaces, maps, wideKeys, modest, calm, conditions, laid).
  DERIVED. THE GIVEN ROWS OF THIS SEAT. 4 by the template 'for every input the law returns true; each argument reads behind the call as it read before'; 0 by the template 'total and deterministic' (their statements: YtlllpmafhnfihaaTotals.lean).
  GIVEN WITH THE SEED: the statements are not yours to turn. If you find one false, say at which input.
  Laid BY PROGRAM, IN A SANDBOX (cutbox-rows.mjs): the forced cells as the released guide's own fill.sh prints them over the translation a8ca454e8fd911a5… (all of the seat's roots in one cut). By AI agents, Wed Nov 11 2026. No macro, syntax, notation, axiom, sorry.
-/
import Derived.Test.YtlllpmafhnfihaaChecked
import GoSem.Claim
import GoSem.ClaimJoined
import GoSem.ClaimMapViews
import Derived.JoinedTies
import Derived.KernelRfl
namespace Go.Proofs.Ytlllpmafhnfihaa
/- THE CELL 'sum', in the pinned program and in every row, IS THE sha256 OF THE DUMP (.gsa) THAT YtlllpmafhnfihaaProg.lean LOADS. Nothing in Lean hashes anything: it is a label: what it is worth is what the hold of that sum in a sandbox is worth. -/
noncomputable def Try.pinned : Pinned := { name := "ytlllpmafhnfihaa", sum := "a8ca454e8fd911a5a7e3a5e45838a52751057183b62ab7a543cd8dc7d7be03f4", checked := Try.checked }
namespace Rows
def none {H : Type} : Left H := { results := [], args := [] }

/-- 'flyoverlaw07.GrowRegions': WHATEVER THE INPUT: true; the input reads as it did. -/
def growRegionsSpec : ChangeSpec := { name := "growRegions", fn := fun _ => fun
  | [d1, d2, d3] => { results := [.lit (.bool true)], args := [d1, d2, d3] }
  | _ => none }
def growRegionsRow : OpenClaim := { program := "ytlllpmafhnfihaa", sum := "a8ca454e8fd911a5a7e3a5e45838a52751057183b62ab7a543cd8dc7d7be03f4", func := "flyover/flyoverlaw07.GrowRegions", spec := "growRegions", unfollowed := true, recurses := true, apart := false }
def GrowRegionsSaid : Prop := growRegionsRow.holds Try.pinned (OpenSpec.ofChange growRegionsSpec)

/-- ITS FALSE NEIGHBOUR: 'it returns false'. Refute it at one input. -/
def growRegionsWrong : ChangeSpec := { name := "growRegions", fn := fun _ => fun
  | [d1, d2, d3] => { results := [.lit (.bool false)], args := [d1, d2, d3] }
  | _ => none }
def GrowRegionsWrongFalsely : Prop := growRegionsRow.holds Try.pinned (OpenSpec.ofChange growRegionsWrong)

/-- 'flyoverlaw07.GrowRing': WHATEVER THE INPUT: true; the input reads as it did. -/
def growRingSpec : ChangeSpec := { name := "growRing", fn := fun _ => fun
  | [d1, d2, d3] => { results := [.lit (.bool true)], args := [d1, d2, d3] }
  | _ => none }
def growRingRow : OpenClaim := { program := "ytlllpmafhnfihaa", sum := "a8ca454e8fd911a5a7e3a5e45838a52751057183b62ab7a543cd8dc7d7be03f4", func := "flyover/flyoverlaw07.GrowRing", spec := "growRing", unfollowed := true, recurses := true, apart := false }
def GrowRingSaid : Prop := growRingRow.holds Try.pinned (OpenSpec.ofChange growRingSpec)

/-- ITS FALSE NEIGHBOUR: 'it returns false'. Refute it at one input. -/
def growRingWrong : ChangeSpec := { name := "growRing", fn := fun _ => fun
  | [d1, d2, d3] => { results := [.lit (.bool false)], args := [d1, d2, d3] }
  | _ => none }
def GrowRingWrongFalsely : Prop := growRingRow.holds Try.pinned (OpenSpec.ofChange growRingWrong)

/-- 'flyoverlaw07.GrowConnects': WHATEVER THE INPUT: true; the input reads as it did. -/
def growConnectsSpec : ChangeSpec := { name := "growConnects", fn := fun _ => fun
  | [d1, d2, d3] => { results := [.lit (.bool true)], args := [d1, d2, d3] }
  | _ => none }
def growConnectsRow : OpenClaim := { program := "ytlllpmafhnfihaa", sum := "a8ca454e8fd911a5a7e3a5e45838a52751057183b62ab7a543cd8dc7d7be03f4", func := "flyover/flyoverlaw07.GrowConnects", spec := "growConnects", unfollowed := true, recurses := true, apart := false }
def GrowConnectsSaid : Prop := growConnectsRow.holds Try.pinned (OpenSpec.ofChange growConnectsSpec)

/-- ITS FALSE NEIGHBOUR: 'it returns false'. Refute it at one input. -/
def growConnectsWrong : ChangeSpec := { name := "growConnects", fn := fun _ => fun
  | [d1, d2, d3] => { results := [.lit (.bool false)], args := [d1, d2, d3] }
  | _ => none }
def GrowConnectsWrongFalsely : Prop := growConnectsRow.holds Try.pinned (OpenSpec.ofChange growConnectsWrong)

/-- 'flyoverlaw07.GrowNearest': WHATEVER THE INPUT: true; the input reads as it did. -/
def growNearestSpec : ChangeSpec := { name := "growNearest", fn := fun _ => fun
  | [d1, d2, d3] => { results := [.lit (.bool true)], args := [d1, d2, d3] }
  | _ => none }
def growNearestRow : OpenClaim := { program := "ytlllpmafhnfihaa", sum := "a8ca454e8fd911a5a7e3a5e45838a52751057183b62ab7a543cd8dc7d7be03f4", func := "flyover/flyoverlaw07.GrowNearest", spec := "growNearest", inPlace := ["math/bits.Add64"], unfollowed := true, recurses := true, apart := false }
def GrowNearestSaid : Prop := growNearestRow.holds Try.pinned (OpenSpec.ofChange growNearestSpec)

/-- ITS FALSE NEIGHBOUR: 'it returns false'. Refute it at one input. -/
def growNearestWrong : ChangeSpec := { name := "growNearest", fn := fun _ => fun
  | [d1, d2, d3] => { results := [.lit (.bool false)], args := [d1, d2, d3] }
  | _ => none }
def GrowNearestWrongFalsely : Prop := growNearestRow.holds Try.pinned (OpenSpec.ofChange growNearestWrong)

/- THE SECOND FORM. 'bulk': how many values and letters a reading holds, each counted each time it is reached (what is shared counts as often as it is met; a slice's spare places count too). A statement '..UptoSaid' is the law's where the arguments, and the package variables that the reading takes, are together of bulk at most 1048576: NARROWER than '..Said'. Prove '..Said' where nothing that the law and all that it calls make is longer than what came in: it says more and counts as full. Else prove '..UptoSaid'. A law counts once. -/
mutual
def uptoBulk {H : Type} : DataW H → Nat
  | .lit (.string bytes) => bytes.length + 1
  | .lit _ => 1
  | .nil => 1
  | .ptr d => uptoBulk d + 1
  | .slice elems spare => uptoBulkAll elems + uptoBulkAll spare + 1
  | .agg parts => uptoBulkAll parts + 1
  | .iface _ d => uptoBulk d + 1
  | .map entries => uptoBulkEntries entries + 1
  | .held _ => 1
def uptoBulkAll {H : Type} : List (DataW H) → Nat
  | [] => 0
  | d :: r => uptoBulk d + uptoBulkAll r
def uptoBulkEntries {H : Type} : List (Lit × DataW H) → Nat
  | [] => 0
  | x :: r => uptoBulkEntry x + uptoBulkEntries r
def uptoBulkEntry {H : Type} : Lit × DataW H → Nat
  | (.string bytes, d) => bytes.length + uptoBulk d + 1
  | (_, d) => uptoBulk d + 1
 end
def uptoSmall : (H : Type) → List (DataW H) → Bool := fun _ ds => decide (uptoBulkAll ds ≤ 1048576)
def OpenSpec.upto (s : _root_.Go.ChangeSpec) : _root_.Go.OpenSpec := { _root_.Go.OpenSpec.ofChange s with cond := some uptoSmall }

/-- 'flyoverlaw07.GrowRegions', WHERE WHAT IT READS IS OF BULK AT MOST 1048576: true; the input reads as it did. -/
def growRegionsUptoRow : OpenClaim := { program := "ytlllpmafhnfihaa", sum := "a8ca454e8fd911a5a7e3a5e45838a52751057183b62ab7a543cd8dc7d7be03f4", func := "flyover/flyoverlaw07.GrowRegions", spec := "growRegions", unfollowed := true, recurses := true, apart := false, narrowed := true }
def GrowRegionsUptoSaid : Prop := growRegionsUptoRow.holds Try.pinned (OpenSpec.upto growRegionsSpec)

/-- 'flyoverlaw07.GrowRing', WHERE WHAT IT READS IS OF BULK AT MOST 1048576: true; the input reads as it did. -/
def growRingUptoRow : OpenClaim := { program := "ytlllpmafhnfihaa", sum := "a8ca454e8fd911a5a7e3a5e45838a52751057183b62ab7a543cd8dc7d7be03f4", func := "flyover/flyoverlaw07.GrowRing", spec := "growRing", unfollowed := true, recurses := true, apart := false, narrowed := true }
def GrowRingUptoSaid : Prop := growRingUptoRow.holds Try.pinned (OpenSpec.upto growRingSpec)

/-- 'flyoverlaw07.GrowConnects', WHERE WHAT IT READS IS OF BULK AT MOST 1048576: true; the input reads as it did. -/
def growConnectsUptoRow : OpenClaim := { program := "ytlllpmafhnfihaa", sum := "a8ca454e8fd911a5a7e3a5e45838a52751057183b62ab7a543cd8dc7d7be03f4", func := "flyover/flyoverlaw07.GrowConnects", spec := "growConnects", unfollowed := true, recurses := true, apart := false, narrowed := true }
def GrowConnectsUptoSaid : Prop := growConnectsUptoRow.holds Try.pinned (OpenSpec.upto growConnectsSpec)

/-- 'flyoverlaw07.GrowNearest', WHERE WHAT IT READS IS OF BULK AT MOST 1048576: true; the input reads as it did. -/
def growNearestUptoRow : OpenClaim := { program := "ytlllpmafhnfihaa", sum := "a8ca454e8fd911a5a7e3a5e45838a52751057183b62ab7a543cd8dc7d7be03f4", func := "flyover/flyoverlaw07.GrowNearest", spec := "growNearest", inPlace := ["math/bits.Add64"], unfollowed := true, recurses := true, apart := false, narrowed := true }
def GrowNearestUptoSaid : Prop := growNearestUptoRow.holds Try.pinned (OpenSpec.upto growNearestSpec)

end Rows
end Go.Proofs.Ytlllpmafhnfihaa
