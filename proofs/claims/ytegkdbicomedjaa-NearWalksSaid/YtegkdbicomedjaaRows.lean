/-
  No cell of these rows narrows 'for every input' (looked for: loops, veiled, ifaces, maps, wideKeys, modest, calm, conditions, laid).
  DERIVED. THE GIVEN ROWS OF THIS SEAT. 7 by the template 'for every input the law returns true; each argument reads behind the call as it read before'; 0 by the template 'total and deterministic' (their statements: YtegkdbicomedjaaTotals.lean).
  GIVEN WITH THE SEED: the statements are not yours to turn. If you find one false, say at which input.
  Laid BY PROGRAM, IN A SANDBOX (cutbox-rows.mjs): the forced cells as the released guide's own fill.sh prints them over the translation da2227e1e3716f04… (all of the seat's roots in one cut). By AI agents, Wed Nov 11 2026. No macro, syntax, notation, axiom, sorry.
-/
import Derived.Test.YtegkdbicomedjaaChecked
import GoSem.Claim
import GoSem.ClaimJoined
import GoSem.ClaimMapViews
import Derived.JoinedTies
import Derived.KernelRfl
namespace Go.Proofs.Ytegkdbicomedjaa
/- THE CELL 'sum', in the pinned program and in every row, IS THE sha256 OF THE DUMP (.gsa) THAT YtegkdbicomedjaaProg.lean LOADS. Nothing in Lean hashes anything: it is a label: what it is worth is what the hold of that sum in a sandbox is worth. -/
noncomputable def Try.pinned : Pinned := { name := "ytegkdbicomedjaa", sum := "da2227e1e3716f04dcebabd93359d7a8cf95b31447cad7383457fc11d83644b0", checked := Try.checked }
namespace Rows
def none {H : Type} : Left H := { results := [], args := [] }

/-- 'flyoverlaw05.NearWalks': WHATEVER THE INPUT: true; the input reads as it did. -/
def nearWalksSpec : ChangeSpec := { name := "nearWalks", fn := fun _ => fun
  | [d1, d2, d3] => { results := [.lit (.bool true)], args := [d1, d2, d3] }
  | _ => none }
def nearWalksRow : OpenClaim := { program := "ytegkdbicomedjaa", sum := "da2227e1e3716f04dcebabd93359d7a8cf95b31447cad7383457fc11d83644b0", func := "flyover/flyoverlaw05.NearWalks", spec := "nearWalks", inPlace := ["math/bits.Add64"], unfollowed := true, recurses := true, apart := false }
def NearWalksSaid : Prop := nearWalksRow.holds Try.pinned (OpenSpec.ofChange nearWalksSpec)

/-- ITS FALSE NEIGHBOUR: 'it returns false'. Refute it at one input. -/
def nearWalksWrong : ChangeSpec := { name := "nearWalks", fn := fun _ => fun
  | [d1, d2, d3] => { results := [.lit (.bool false)], args := [d1, d2, d3] }
  | _ => none }
def NearWalksWrongFalsely : Prop := nearWalksRow.holds Try.pinned (OpenSpec.ofChange nearWalksWrong)

/-- 'flyoverlaw05.NearTight': WHATEVER THE INPUT: true; the input reads as it did. -/
def nearTightSpec : ChangeSpec := { name := "nearTight", fn := fun _ => fun
  | [d1, d2] => { results := [.lit (.bool true)], args := [d1, d2] }
  | _ => none }
def nearTightRow : OpenClaim := { program := "ytegkdbicomedjaa", sum := "da2227e1e3716f04dcebabd93359d7a8cf95b31447cad7383457fc11d83644b0", func := "flyover/flyoverlaw05.NearTight", spec := "nearTight", inPlace := ["math/bits.Add64"], unfollowed := true, recurses := true, apart := false }
def NearTightSaid : Prop := nearTightRow.holds Try.pinned (OpenSpec.ofChange nearTightSpec)

/-- ITS FALSE NEIGHBOUR: 'it returns false'. Refute it at one input. -/
def nearTightWrong : ChangeSpec := { name := "nearTight", fn := fun _ => fun
  | [d1, d2] => { results := [.lit (.bool false)], args := [d1, d2] }
  | _ => none }
def NearTightWrongFalsely : Prop := nearTightRow.holds Try.pinned (OpenSpec.ofChange nearTightWrong)

/-- 'flyoverlaw05.NearSame': WHATEVER THE INPUT: true; the input reads as it did. -/
def nearSameSpec : ChangeSpec := { name := "nearSame", fn := fun _ => fun
  | [d1, d2, d3] => { results := [.lit (.bool true)], args := [d1, d2, d3] }
  | _ => none }
def nearSameRow : OpenClaim := { program := "ytegkdbicomedjaa", sum := "da2227e1e3716f04dcebabd93359d7a8cf95b31447cad7383457fc11d83644b0", func := "flyover/flyoverlaw05.NearSame", spec := "nearSame", inPlace := ["math/bits.Add64"], unfollowed := true, recurses := true, apart := false }
def NearSameSaid : Prop := nearSameRow.holds Try.pinned (OpenSpec.ofChange nearSameSpec)

/-- ITS FALSE NEIGHBOUR: 'it returns false'. Refute it at one input. -/
def nearSameWrong : ChangeSpec := { name := "nearSame", fn := fun _ => fun
  | [d1, d2, d3] => { results := [.lit (.bool false)], args := [d1, d2, d3] }
  | _ => none }
def NearSameWrongFalsely : Prop := nearSameRow.holds Try.pinned (OpenSpec.ofChange nearSameWrong)

/-- 'flyoverlaw05.NearMore': WHATEVER THE INPUT: true; the input reads as it did. -/
def nearMoreSpec : ChangeSpec := { name := "nearMore", fn := fun _ => fun
  | [d1, d2, d3] => { results := [.lit (.bool true)], args := [d1, d2, d3] }
  | _ => none }
def nearMoreRow : OpenClaim := { program := "ytegkdbicomedjaa", sum := "da2227e1e3716f04dcebabd93359d7a8cf95b31447cad7383457fc11d83644b0", func := "flyover/flyoverlaw05.NearMore", spec := "nearMore", inPlace := ["math/bits.Add64"], unfollowed := true, recurses := true, apart := false }
def NearMoreSaid : Prop := nearMoreRow.holds Try.pinned (OpenSpec.ofChange nearMoreSpec)

/-- ITS FALSE NEIGHBOUR: 'it returns false'. Refute it at one input. -/
def nearMoreWrong : ChangeSpec := { name := "nearMore", fn := fun _ => fun
  | [d1, d2, d3] => { results := [.lit (.bool false)], args := [d1, d2, d3] }
  | _ => none }
def NearMoreWrongFalsely : Prop := nearMoreRow.holds Try.pinned (OpenSpec.ofChange nearMoreWrong)

/-- 'flyoverlaw05.NearDists': WHATEVER THE INPUT: true; the input reads as it did. -/
def nearDistsSpec : ChangeSpec := { name := "nearDists", fn := fun _ => fun
  | [d1, d2, d3] => { results := [.lit (.bool true)], args := [d1, d2, d3] }
  | _ => none }
def nearDistsRow : OpenClaim := { program := "ytegkdbicomedjaa", sum := "da2227e1e3716f04dcebabd93359d7a8cf95b31447cad7383457fc11d83644b0", func := "flyover/flyoverlaw05.NearDists", spec := "nearDists", inPlace := ["math/bits.Add64"], unfollowed := true, recurses := true, apart := false }
def NearDistsSaid : Prop := nearDistsRow.holds Try.pinned (OpenSpec.ofChange nearDistsSpec)

/-- ITS FALSE NEIGHBOUR: 'it returns false'. Refute it at one input. -/
def nearDistsWrong : ChangeSpec := { name := "nearDists", fn := fun _ => fun
  | [d1, d2, d3] => { results := [.lit (.bool false)], args := [d1, d2, d3] }
  | _ => none }
def NearDistsWrongFalsely : Prop := nearDistsRow.holds Try.pinned (OpenSpec.ofChange nearDistsWrong)

/-- 'flyoverlaw05.NearTurns': WHATEVER THE INPUT: true; the input reads as it did. -/
def nearTurnsSpec : ChangeSpec := { name := "nearTurns", fn := fun _ => fun
  | [d1, d2, d3] => { results := [.lit (.bool true)], args := [d1, d2, d3] }
  | _ => none }
def nearTurnsRow : OpenClaim := { program := "ytegkdbicomedjaa", sum := "da2227e1e3716f04dcebabd93359d7a8cf95b31447cad7383457fc11d83644b0", func := "flyover/flyoverlaw05.NearTurns", spec := "nearTurns", inPlace := ["math/bits.Add64"], unfollowed := true, recurses := true, apart := false }
def NearTurnsSaid : Prop := nearTurnsRow.holds Try.pinned (OpenSpec.ofChange nearTurnsSpec)

/-- ITS FALSE NEIGHBOUR: 'it returns false'. Refute it at one input. -/
def nearTurnsWrong : ChangeSpec := { name := "nearTurns", fn := fun _ => fun
  | [d1, d2, d3] => { results := [.lit (.bool false)], args := [d1, d2, d3] }
  | _ => none }
def NearTurnsWrongFalsely : Prop := nearTurnsRow.holds Try.pinned (OpenSpec.ofChange nearTurnsWrong)

/-- 'flyoverlaw05.NearLengths': WHATEVER THE INPUT: true; the input reads as it did. -/
def nearLengthsSpec : ChangeSpec := { name := "nearLengths", fn := fun _ => fun
  | [d1, d2] => { results := [.lit (.bool true)], args := [d1, d2] }
  | _ => none }
def nearLengthsRow : OpenClaim := { program := "ytegkdbicomedjaa", sum := "da2227e1e3716f04dcebabd93359d7a8cf95b31447cad7383457fc11d83644b0", func := "flyover/flyoverlaw05.NearLengths", spec := "nearLengths", inPlace := ["math/bits.Add64"], unfollowed := true, recurses := true, apart := false }
def NearLengthsSaid : Prop := nearLengthsRow.holds Try.pinned (OpenSpec.ofChange nearLengthsSpec)

/-- ITS FALSE NEIGHBOUR: 'it returns false'. Refute it at one input. -/
def nearLengthsWrong : ChangeSpec := { name := "nearLengths", fn := fun _ => fun
  | [d1, d2] => { results := [.lit (.bool false)], args := [d1, d2] }
  | _ => none }
def NearLengthsWrongFalsely : Prop := nearLengthsRow.holds Try.pinned (OpenSpec.ofChange nearLengthsWrong)

/- THE SECOND FORM. 'bulk': how many values and letters a reading holds, each counted each time it is reached (what is shared counts as often as it is met; a slice's spare places count too). A statement '..UptoSaid' is the law's where the arguments, and the package variables that the reading takes, are together of bulk at most 1048576: NARROWER than '..Said'. Prove '..Said' where nothing that the law and all that it calls make is longer than what came in: it says more and counts as full. Else prove '..UptoSaid'. A law counts once. -/
mutual
def uptoBulk {H : Type} : DataW H → Nat
  | .lit (.string bytes) => bytes.length + 1
  | .lit _ => 1
  | .nil => 1
  | .ptr d => uptoBulk d + 1
  | .slice elems spare => uptoBulkAll elems + uptoBulkAll spare + 1
  | .agg parts => uptoBulkAll parts + 1
  | .iface _ d => uptoBulk d + 1
  | .map entries => uptoBulkEntries entries + 1
  | .held _ => 1
def uptoBulkAll {H : Type} : List (DataW H) → Nat
  | [] => 0
  | d :: r => uptoBulk d + uptoBulkAll r
def uptoBulkEntries {H : Type} : List (Lit × DataW H) → Nat
  | [] => 0
  | x :: r => uptoBulkEntry x + uptoBulkEntries r
def uptoBulkEntry {H : Type} : Lit × DataW H → Nat
  | (.string bytes, d) => bytes.length + uptoBulk d + 1
  | (_, d) => uptoBulk d + 1
 end
def uptoSmall : (H : Type) → List (DataW H) → Bool := fun _ ds => decide (uptoBulkAll ds ≤ 1048576)
def OpenSpec.upto (s : _root_.Go.ChangeSpec) : _root_.Go.OpenSpec := { _root_.Go.OpenSpec.ofChange s with cond := some uptoSmall }

/-- 'flyoverlaw05.NearWalks', WHERE WHAT IT READS IS OF BULK AT MOST 1048576: true; the input reads as it did. -/
def nearWalksUptoRow : OpenClaim := { program := "ytegkdbicomedjaa", sum := "da2227e1e3716f04dcebabd93359d7a8cf95b31447cad7383457fc11d83644b0", func := "flyover/flyoverlaw05.NearWalks", spec := "nearWalks", inPlace := ["math/bits.Add64"], unfollowed := true, recurses := true, apart := false, narrowed := true }
def NearWalksUptoSaid : Prop := nearWalksUptoRow.holds Try.pinned (OpenSpec.upto nearWalksSpec)

/-- 'flyoverlaw05.NearTight', WHERE WHAT IT READS IS OF BULK AT MOST 1048576: true; the input reads as it did. -/
def nearTightUptoRow : OpenClaim := { program := "ytegkdbicomedjaa", sum := "da2227e1e3716f04dcebabd93359d7a8cf95b31447cad7383457fc11d83644b0", func := "flyover/flyoverlaw05.NearTight", spec := "nearTight", inPlace := ["math/bits.Add64"], unfollowed := true, recurses := true, apart := false, narrowed := true }
def NearTightUptoSaid : Prop := nearTightUptoRow.holds Try.pinned (OpenSpec.upto nearTightSpec)

/-- 'flyoverlaw05.NearSame', WHERE WHAT IT READS IS OF BULK AT MOST 1048576: true; the input reads as it did. -/
def nearSameUptoRow : OpenClaim := { program := "ytegkdbicomedjaa", sum := "da2227e1e3716f04dcebabd93359d7a8cf95b31447cad7383457fc11d83644b0", func := "flyover/flyoverlaw05.NearSame", spec := "nearSame", inPlace := ["math/bits.Add64"], unfollowed := true, recurses := true, apart := false, narrowed := true }
def NearSameUptoSaid : Prop := nearSameUptoRow.holds Try.pinned (OpenSpec.upto nearSameSpec)

/-- 'flyoverlaw05.NearMore', WHERE WHAT IT READS IS OF BULK AT MOST 1048576: true; the input reads as it did. -/
def nearMoreUptoRow : OpenClaim := { program := "ytegkdbicomedjaa", sum := "da2227e1e3716f04dcebabd93359d7a8cf95b31447cad7383457fc11d83644b0", func := "flyover/flyoverlaw05.NearMore", spec := "nearMore", inPlace := ["math/bits.Add64"], unfollowed := true, recurses := true, apart := false, narrowed := true }
def NearMoreUptoSaid : Prop := nearMoreUptoRow.holds Try.pinned (OpenSpec.upto nearMoreSpec)

/-- 'flyoverlaw05.NearDists', WHERE WHAT IT READS IS OF BULK AT MOST 1048576: true; the input reads as it did. -/
def nearDistsUptoRow : OpenClaim := { program := "ytegkdbicomedjaa", sum := "da2227e1e3716f04dcebabd93359d7a8cf95b31447cad7383457fc11d83644b0", func := "flyover/flyoverlaw05.NearDists", spec := "nearDists", inPlace := ["math/bits.Add64"], unfollowed := true, recurses := true, apart := false, narrowed := true }
def NearDistsUptoSaid : Prop := nearDistsUptoRow.holds Try.pinned (OpenSpec.upto nearDistsSpec)

/-- 'flyoverlaw05.NearTurns', WHERE WHAT IT READS IS OF BULK AT MOST 1048576: true; the input reads as it did. -/
def nearTurnsUptoRow : OpenClaim := { program := "ytegkdbicomedjaa", sum := "da2227e1e3716f04dcebabd93359d7a8cf95b31447cad7383457fc11d83644b0", func := "flyover/flyoverlaw05.NearTurns", spec := "nearTurns", inPlace := ["math/bits.Add64"], unfollowed := true, recurses := true, apart := false, narrowed := true }
def NearTurnsUptoSaid : Prop := nearTurnsUptoRow.holds Try.pinned (OpenSpec.upto nearTurnsSpec)

/-- 'flyoverlaw05.NearLengths', WHERE WHAT IT READS IS OF BULK AT MOST 1048576: true; the input reads as it did. -/
def nearLengthsUptoRow : OpenClaim := { program := "ytegkdbicomedjaa", sum := "da2227e1e3716f04dcebabd93359d7a8cf95b31447cad7383457fc11d83644b0", func := "flyover/flyoverlaw05.NearLengths", spec := "nearLengths", inPlace := ["math/bits.Add64"], unfollowed := true, recurses := true, apart := false, narrowed := true }
def NearLengthsUptoSaid : Prop := nearLengthsUptoRow.holds Try.pinned (OpenSpec.upto nearLengthsSpec)

end Rows
end Go.Proofs.Ytegkdbicomedjaa
