/-
  No cell of these rows narrows 'for every input' (looked for: loops, veiled, ifaces, maps, wideKeys, modest, calm, conditions, laid).
  DERIVED. THE GIVEN ROWS OF THIS SEAT. 6 by the template 'for every input the law returns true; each argument reads behind the call as it read before'; 0 by the template 'total and deterministic' (their statements: YtnagjidfenfdbaaTotals.lean).
  GIVEN WITH THE SEED: the statements are not yours to turn. If you find one false, say at which input.
  Laid BY PROGRAM, IN A SANDBOX (cutbox-rows.mjs): the forced cells as the released guide's own fill.sh prints them over the translation a1c46ffb3aa78ded… (all of the seat's roots in one cut). By AI agents, Wed Nov 11 2026. No macro, syntax, notation, axiom, sorry.
-/
import Derived.Test.YtnagjidfenfdbaaChecked
import GoSem.Claim
import GoSem.ClaimJoined
import GoSem.ClaimMapViews
import Derived.JoinedTies
import Derived.KernelRfl
namespace Go.Proofs.Ytnagjidfenfdbaa
/- THE CELL 'sum', in the pinned program and in every row, IS THE sha256 OF THE DUMP (.gsa) THAT YtnagjidfenfdbaaProg.lean LOADS. Nothing in Lean hashes anything: it is a label: what it is worth is what the hold of that sum in a sandbox is worth. -/
noncomputable def Try.pinned : Pinned := { name := "ytnagjidfenfdbaa", sum := "a1c46ffb3aa78ded651808ca68539519c2cea216a5e649047f5d0f2b074a0865", checked := Try.checked }
namespace Rows
def none {H : Type} : Left H := { results := [], args := [] }

/-- 'flyoverlaw06.FlowCuts': WHATEVER THE INPUT: true; the input reads as it did. -/
def flowCutsSpec : ChangeSpec := { name := "flowCuts", fn := fun _ => fun
  | [d1, d2, d3] => { results := [.lit (.bool true)], args := [d1, d2, d3] }
  | _ => none }
def flowCutsRow : OpenClaim := { program := "ytnagjidfenfdbaa", sum := "a1c46ffb3aa78ded651808ca68539519c2cea216a5e649047f5d0f2b074a0865", func := "flyover/flyoverlaw06.FlowCuts", spec := "flowCuts", apart := false }
def FlowCutsSaid : Prop := flowCutsRow.holds Try.pinned (OpenSpec.ofChange flowCutsSpec)

/-- ITS FALSE NEIGHBOUR: 'it returns false'. Refute it at one input. -/
def flowCutsWrong : ChangeSpec := { name := "flowCuts", fn := fun _ => fun
  | [d1, d2, d3] => { results := [.lit (.bool false)], args := [d1, d2, d3] }
  | _ => none }
def FlowCutsWrongFalsely : Prop := flowCutsRow.holds Try.pinned (OpenSpec.ofChange flowCutsWrong)

/-- 'flyoverlaw06.FlowMost': WHATEVER THE INPUT: true; the input reads as it did. -/
def flowMostSpec : ChangeSpec := { name := "flowMost", fn := fun _ => fun
  | [d1, d2, d3] => { results := [.lit (.bool true)], args := [d1, d2, d3] }
  | _ => none }
def flowMostRow : OpenClaim := { program := "ytnagjidfenfdbaa", sum := "a1c46ffb3aa78ded651808ca68539519c2cea216a5e649047f5d0f2b074a0865", func := "flyover/flyoverlaw06.FlowMost", spec := "flowMost", apart := false }
def FlowMostSaid : Prop := flowMostRow.holds Try.pinned (OpenSpec.ofChange flowMostSpec)

/-- ITS FALSE NEIGHBOUR: 'it returns false'. Refute it at one input. -/
def flowMostWrong : ChangeSpec := { name := "flowMost", fn := fun _ => fun
  | [d1, d2, d3] => { results := [.lit (.bool false)], args := [d1, d2, d3] }
  | _ => none }
def FlowMostWrongFalsely : Prop := flowMostRow.holds Try.pinned (OpenSpec.ofChange flowMostWrong)

/-- 'flyoverlaw06.FlowIsCut': WHATEVER THE INPUT: true; the input reads as it did. -/
def flowIsCutSpec : ChangeSpec := { name := "flowIsCut", fn := fun _ => fun
  | [d1, d2, d3] => { results := [.lit (.bool true)], args := [d1, d2, d3] }
  | _ => none }
def flowIsCutRow : OpenClaim := { program := "ytnagjidfenfdbaa", sum := "a1c46ffb3aa78ded651808ca68539519c2cea216a5e649047f5d0f2b074a0865", func := "flyover/flyoverlaw06.FlowIsCut", spec := "flowIsCut", apart := false }
def FlowIsCutSaid : Prop := flowIsCutRow.holds Try.pinned (OpenSpec.ofChange flowIsCutSpec)

/-- ITS FALSE NEIGHBOUR: 'it returns false'. Refute it at one input. -/
def flowIsCutWrong : ChangeSpec := { name := "flowIsCut", fn := fun _ => fun
  | [d1, d2, d3] => { results := [.lit (.bool false)], args := [d1, d2, d3] }
  | _ => none }
def FlowIsCutWrongFalsely : Prop := flowIsCutRow.holds Try.pinned (OpenSpec.ofChange flowIsCutWrong)

/-- 'flyoverlaw06.FlowFewer': WHATEVER THE INPUT: true; the input reads as it did. -/
def flowFewerSpec : ChangeSpec := { name := "flowFewer", fn := fun _ => fun
  | [d1, d2, d3] => { results := [.lit (.bool true)], args := [d1, d2, d3] }
  | _ => none }
def flowFewerRow : OpenClaim := { program := "ytnagjidfenfdbaa", sum := "a1c46ffb3aa78ded651808ca68539519c2cea216a5e649047f5d0f2b074a0865", func := "flyover/flyoverlaw06.FlowFewer", spec := "flowFewer", apart := false }
def FlowFewerSaid : Prop := flowFewerRow.holds Try.pinned (OpenSpec.ofChange flowFewerSpec)

/-- ITS FALSE NEIGHBOUR: 'it returns false'. Refute it at one input. -/
def flowFewerWrong : ChangeSpec := { name := "flowFewer", fn := fun _ => fun
  | [d1, d2, d3] => { results := [.lit (.bool false)], args := [d1, d2, d3] }
  | _ => none }
def FlowFewerWrongFalsely : Prop := flowFewerRow.holds Try.pinned (OpenSpec.ofChange flowFewerWrong)

/-- 'flyoverlaw06.FlowMore': WHATEVER THE INPUT: true; the input reads as it did. -/
def flowMoreSpec : ChangeSpec := { name := "flowMore", fn := fun _ => fun
  | [d1, d2] => { results := [.lit (.bool true)], args := [d1, d2] }
  | _ => none }
def flowMoreRow : OpenClaim := { program := "ytnagjidfenfdbaa", sum := "a1c46ffb3aa78ded651808ca68539519c2cea216a5e649047f5d0f2b074a0865", func := "flyover/flyoverlaw06.FlowMore", spec := "flowMore", apart := false }
def FlowMoreSaid : Prop := flowMoreRow.holds Try.pinned (OpenSpec.ofChange flowMoreSpec)

/-- ITS FALSE NEIGHBOUR: 'it returns false'. Refute it at one input. -/
def flowMoreWrong : ChangeSpec := { name := "flowMore", fn := fun _ => fun
  | [d1, d2] => { results := [.lit (.bool false)], args := [d1, d2] }
  | _ => none }
def FlowMoreWrongFalsely : Prop := flowMoreRow.holds Try.pinned (OpenSpec.ofChange flowMoreWrong)

/-- 'flyoverlaw06.FlowTurns': WHATEVER THE INPUT: true; the input reads as it did. -/
def flowTurnsSpec : ChangeSpec := { name := "flowTurns", fn := fun _ => fun
  | [d1, d2, d3] => { results := [.lit (.bool true)], args := [d1, d2, d3] }
  | _ => none }
def flowTurnsRow : OpenClaim := { program := "ytnagjidfenfdbaa", sum := "a1c46ffb3aa78ded651808ca68539519c2cea216a5e649047f5d0f2b074a0865", func := "flyover/flyoverlaw06.FlowTurns", spec := "flowTurns", apart := false }
def FlowTurnsSaid : Prop := flowTurnsRow.holds Try.pinned (OpenSpec.ofChange flowTurnsSpec)

/-- ITS FALSE NEIGHBOUR: 'it returns false'. Refute it at one input. -/
def flowTurnsWrong : ChangeSpec := { name := "flowTurns", fn := fun _ => fun
  | [d1, d2, d3] => { results := [.lit (.bool false)], args := [d1, d2, d3] }
  | _ => none }
def FlowTurnsWrongFalsely : Prop := flowTurnsRow.holds Try.pinned (OpenSpec.ofChange flowTurnsWrong)

/- THE SECOND FORM. 'bulk': how many values and letters a reading holds, each counted each time it is reached (what is shared counts as often as it is met; a slice's spare places count too). A statement '..UptoSaid' is the law's where the arguments, and the package variables that the reading takes, are together of bulk at most 1048576: NARROWER than '..Said'. Prove '..Said' where nothing that the law and all that it calls make is longer than what came in: it says more and counts as full. Else prove '..UptoSaid'. A law counts once. -/
mutual
def uptoBulk {H : Type} : DataW H → Nat
  | .lit (.string bytes) => bytes.length + 1
  | .lit _ => 1
  | .nil => 1
  | .ptr d => uptoBulk d + 1
  | .slice elems spare => uptoBulkAll elems + uptoBulkAll spare + 1
  | .agg parts => uptoBulkAll parts + 1
  | .iface _ d => uptoBulk d + 1
  | .map entries => uptoBulkEntries entries + 1
  | .held _ => 1
def uptoBulkAll {H : Type} : List (DataW H) → Nat
  | [] => 0
  | d :: r => uptoBulk d + uptoBulkAll r
def uptoBulkEntries {H : Type} : List (Lit × DataW H) → Nat
  | [] => 0
  | x :: r => uptoBulkEntry x + uptoBulkEntries r
def uptoBulkEntry {H : Type} : Lit × DataW H → Nat
  | (.string bytes, d) => bytes.length + uptoBulk d + 1
  | (_, d) => uptoBulk d + 1
 end
def uptoSmall : (H : Type) → List (DataW H) → Bool := fun _ ds => decide (uptoBulkAll ds ≤ 1048576)
def OpenSpec.upto (s : _root_.Go.ChangeSpec) : _root_.Go.OpenSpec := { _root_.Go.OpenSpec.ofChange s with cond := some uptoSmall }

/-- 'flyoverlaw06.FlowCuts', WHERE WHAT IT READS IS OF BULK AT MOST 1048576: true; the input reads as it did. -/
def flowCutsUptoRow : OpenClaim := { program := "ytnagjidfenfdbaa", sum := "a1c46ffb3aa78ded651808ca68539519c2cea216a5e649047f5d0f2b074a0865", func := "flyover/flyoverlaw06.FlowCuts", spec := "flowCuts", apart := false, narrowed := true }
def FlowCutsUptoSaid : Prop := flowCutsUptoRow.holds Try.pinned (OpenSpec.upto flowCutsSpec)

/-- 'flyoverlaw06.FlowMost', WHERE WHAT IT READS IS OF BULK AT MOST 1048576: true; the input reads as it did. -/
def flowMostUptoRow : OpenClaim := { program := "ytnagjidfenfdbaa", sum := "a1c46ffb3aa78ded651808ca68539519c2cea216a5e649047f5d0f2b074a0865", func := "flyover/flyoverlaw06.FlowMost", spec := "flowMost", apart := false, narrowed := true }
def FlowMostUptoSaid : Prop := flowMostUptoRow.holds Try.pinned (OpenSpec.upto flowMostSpec)

/-- 'flyoverlaw06.FlowIsCut', WHERE WHAT IT READS IS OF BULK AT MOST 1048576: true; the input reads as it did. -/
def flowIsCutUptoRow : OpenClaim := { program := "ytnagjidfenfdbaa", sum := "a1c46ffb3aa78ded651808ca68539519c2cea216a5e649047f5d0f2b074a0865", func := "flyover/flyoverlaw06.FlowIsCut", spec := "flowIsCut", apart := false, narrowed := true }
def FlowIsCutUptoSaid : Prop := flowIsCutUptoRow.holds Try.pinned (OpenSpec.upto flowIsCutSpec)

/-- 'flyoverlaw06.FlowFewer', WHERE WHAT IT READS IS OF BULK AT MOST 1048576: true; the input reads as it did. -/
def flowFewerUptoRow : OpenClaim := { program := "ytnagjidfenfdbaa", sum := "a1c46ffb3aa78ded651808ca68539519c2cea216a5e649047f5d0f2b074a0865", func := "flyover/flyoverlaw06.FlowFewer", spec := "flowFewer", apart := false, narrowed := true }
def FlowFewerUptoSaid : Prop := flowFewerUptoRow.holds Try.pinned (OpenSpec.upto flowFewerSpec)

/-- 'flyoverlaw06.FlowMore', WHERE WHAT IT READS IS OF BULK AT MOST 1048576: true; the input reads as it did. -/
def flowMoreUptoRow : OpenClaim := { program := "ytnagjidfenfdbaa", sum := "a1c46ffb3aa78ded651808ca68539519c2cea216a5e649047f5d0f2b074a0865", func := "flyover/flyoverlaw06.FlowMore", spec := "flowMore", apart := false, narrowed := true }
def FlowMoreUptoSaid : Prop := flowMoreUptoRow.holds Try.pinned (OpenSpec.upto flowMoreSpec)

/-- 'flyoverlaw06.FlowTurns', WHERE WHAT IT READS IS OF BULK AT MOST 1048576: true; the input reads as it did. -/
def flowTurnsUptoRow : OpenClaim := { program := "ytnagjidfenfdbaa", sum := "a1c46ffb3aa78ded651808ca68539519c2cea216a5e649047f5d0f2b074a0865", func := "flyover/flyoverlaw06.FlowTurns", spec := "flowTurns", apart := false, narrowed := true }
def FlowTurnsUptoSaid : Prop := flowTurnsUptoRow.holds Try.pinned (OpenSpec.upto flowTurnsSpec)

end Rows
end Go.Proofs.Ytnagjidfenfdbaa
