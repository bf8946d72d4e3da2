/-
  No cell of these rows narrows 'for every input' (looked for: loops, veiled, ifaces, maps, wideKeys, modest, calm, conditions, laid).
  DERIVED. THE GIVEN ROWS OF THIS SEAT. 3 by the template 'for every input the law returns true; each argument reads behind the call as it read before'; 0 by the template 'total and deterministic' (their statements: YtagidegklmgilaaTotals.lean).
  GIVEN WITH THE SEED: the statements are not yours to turn. If you find one false, say at which input.
  Laid BY PROGRAM, IN A SANDBOX (cutbox-rows.mjs): the forced cells as the released guide's own fill.sh prints them over the translation 86da2058ed57558a… (all of the seat's roots in one cut). By AI agents, Wed Nov 11 2026. No macro, syntax, notation, axiom, sorry.
-/
import Derived.Test.YtagidegklmgilaaChecked
import GoSem.Claim
import GoSem.ClaimJoined
import GoSem.ClaimMapViews
import Derived.JoinedTies
import Derived.KernelRfl
namespace Go.Proofs.Ytagidegklmgilaa
/- THE CELL 'sum', in the pinned program and in every row, IS THE sha256 OF THE DUMP (.gsa) THAT YtagidegklmgilaaProg.lean LOADS. Nothing in Lean hashes anything: it is a label: what it is worth is what the hold of that sum in a sandbox is worth. -/
noncomputable def Try.pinned : Pinned := { name := "ytagidegklmgilaa", sum := "86da2058ed57558a5de797557f14c5975e1b6ca38ecd8e68e6791e04b8da95b9", checked := Try.checked }
namespace Rows
def none {H : Type} : Left H := { results := [], args := [] }

/-- 'flyoverlaw10.LocalEnds': WHATEVER THE INPUT: true; the input reads as it did. -/
def localEndsSpec : ChangeSpec := { name := "localEnds", fn := fun _ => fun
  | [d1, d2, d3] => { results := [.lit (.bool true)], args := [d1, d2, d3] }
  | _ => none }
def localEndsRow : OpenClaim := { program := "ytagidegklmgilaa", sum := "86da2058ed57558a5de797557f14c5975e1b6ca38ecd8e68e6791e04b8da95b9", func := "flyover/flyoverlaw10.LocalEnds", spec := "localEnds", unfollowed := true, recurses := true, apart := false }
def LocalEndsSaid : Prop := localEndsRow.holds Try.pinned (OpenSpec.ofChange localEndsSpec)

/-- ITS FALSE NEIGHBOUR: 'it returns false'. Refute it at one input. -/
def localEndsWrong : ChangeSpec := { name := "localEnds", fn := fun _ => fun
  | [d1, d2, d3] => { results := [.lit (.bool false)], args := [d1, d2, d3] }
  | _ => none }
def LocalEndsWrongFalsely : Prop := localEndsRow.holds Try.pinned (OpenSpec.ofChange localEndsWrong)

/-- 'flyoverlaw10.LocalStays': WHATEVER THE INPUT: true; the input reads as it did. -/
def localStaysSpec : ChangeSpec := { name := "localStays", fn := fun _ => fun
  | [d1, d2] => { results := [.lit (.bool true)], args := [d1, d2] }
  | _ => none }
def localStaysRow : OpenClaim := { program := "ytagidegklmgilaa", sum := "86da2058ed57558a5de797557f14c5975e1b6ca38ecd8e68e6791e04b8da95b9", func := "flyover/flyoverlaw10.LocalStays", spec := "localStays", unfollowed := true, recurses := true, apart := false }
def LocalStaysSaid : Prop := localStaysRow.holds Try.pinned (OpenSpec.ofChange localStaysSpec)

/-- ITS FALSE NEIGHBOUR: 'it returns false'. Refute it at one input. -/
def localStaysWrong : ChangeSpec := { name := "localStays", fn := fun _ => fun
  | [d1, d2] => { results := [.lit (.bool false)], args := [d1, d2] }
  | _ => none }
def LocalStaysWrongFalsely : Prop := localStaysRow.holds Try.pinned (OpenSpec.ofChange localStaysWrong)

/-- 'flyoverlaw10.LocalGains': WHATEVER THE INPUT: true; the input reads as it did. -/
def localGainsSpec : ChangeSpec := { name := "localGains", fn := fun _ => fun
  | [d1, d2, d3] => { results := [.lit (.bool true)], args := [d1, d2, d3] }
  | _ => none }
def localGainsRow : OpenClaim := { program := "ytagidegklmgilaa", sum := "86da2058ed57558a5de797557f14c5975e1b6ca38ecd8e68e6791e04b8da95b9", func := "flyover/flyoverlaw10.LocalGains", spec := "localGains", unfollowed := true, recurses := true, apart := false }
def LocalGainsSaid : Prop := localGainsRow.holds Try.pinned (OpenSpec.ofChange localGainsSpec)

/-- ITS FALSE NEIGHBOUR: 'it returns false'. Refute it at one input. -/
def localGainsWrong : ChangeSpec := { name := "localGains", fn := fun _ => fun
  | [d1, d2, d3] => { results := [.lit (.bool false)], args := [d1, d2, d3] }
  | _ => none }
def LocalGainsWrongFalsely : Prop := localGainsRow.holds Try.pinned (OpenSpec.ofChange localGainsWrong)

/- THE SECOND FORM. 'bulk': how many values and letters a reading holds, each counted each time it is reached (what is shared counts as often as it is met; a slice's spare places count too). A statement '..UptoSaid' is the law's where the arguments, and the package variables that the reading takes, are together of bulk at most 1048576: NARROWER than '..Said'. Prove '..Said' where nothing that the law and all that it calls make is longer than what came in: it says more and counts as full. Else prove '..UptoSaid'. A law counts once. -/
mutual
def uptoBulk {H : Type} : DataW H → Nat
  | .lit (.string bytes) => bytes.length + 1
  | .lit _ => 1
  | .nil => 1
  | .ptr d => uptoBulk d + 1
  | .slice elems spare => uptoBulkAll elems + uptoBulkAll spare + 1
  | .agg parts => uptoBulkAll parts + 1
  | .iface _ d => uptoBulk d + 1
  | .map entries => uptoBulkEntries entries + 1
  | .held _ => 1
def uptoBulkAll {H : Type} : List (DataW H) → Nat
  | [] => 0
  | d :: r => uptoBulk d + uptoBulkAll r
def uptoBulkEntries {H : Type} : List (Lit × DataW H) → Nat
  | [] => 0
  | x :: r => uptoBulkEntry x + uptoBulkEntries r
def uptoBulkEntry {H : Type} : Lit × DataW H → Nat
  | (.string bytes, d) => bytes.length + uptoBulk d + 1
  | (_, d) => uptoBulk d + 1
 end
def uptoSmall : (H : Type) → List (DataW H) → Bool := fun _ ds => decide (uptoBulkAll ds ≤ 1048576)
def OpenSpec.upto (s : _root_.Go.ChangeSpec) : _root_.Go.OpenSpec := { _root_.Go.OpenSpec.ofChange s with cond := some uptoSmall }

/-- 'flyoverlaw10.LocalEnds', WHERE WHAT IT READS IS OF BULK AT MOST 1048576: true; the input reads as it did. -/
def localEndsUptoRow : OpenClaim := { program := "ytagidegklmgilaa", sum := "86da2058ed57558a5de797557f14c5975e1b6ca38ecd8e68e6791e04b8da95b9", func := "flyover/flyoverlaw10.LocalEnds", spec := "localEnds", unfollowed := true, recurses := true, apart := false, narrowed := true }
def LocalEndsUptoSaid : Prop := localEndsUptoRow.holds Try.pinned (OpenSpec.upto localEndsSpec)

/-- 'flyoverlaw10.LocalStays', WHERE WHAT IT READS IS OF BULK AT MOST 1048576: true; the input reads as it did. -/
def localStaysUptoRow : OpenClaim := { program := "ytagidegklmgilaa", sum := "86da2058ed57558a5de797557f14c5975e1b6ca38ecd8e68e6791e04b8da95b9", func := "flyover/flyoverlaw10.LocalStays", spec := "localStays", unfollowed := true, recurses := true, apart := false, narrowed := true }
def LocalStaysUptoSaid : Prop := localStaysUptoRow.holds Try.pinned (OpenSpec.upto localStaysSpec)

/-- 'flyoverlaw10.LocalGains', WHERE WHAT IT READS IS OF BULK AT MOST 1048576: true; the input reads as it did. -/
def localGainsUptoRow : OpenClaim := { program := "ytagidegklmgilaa", sum := "86da2058ed57558a5de797557f14c5975e1b6ca38ecd8e68e6791e04b8da95b9", func := "flyover/flyoverlaw10.LocalGains", spec := "localGains", unfollowed := true, recurses := true, apart := false, narrowed := true }
def LocalGainsUptoSaid : Prop := localGainsUptoRow.holds Try.pinned (OpenSpec.upto localGainsSpec)

end Rows
end Go.Proofs.Ytagidegklmgilaa
