/- graph.Out, graph.In: the arcs out of a vertex, and into it. -/
import Derived.Test.YtlllpmafhnfihaaFGraph
import Derived.Test.YtlllpmafhnfihaaPParts
namespace Go.Proofs.Ytlllpmafhnfihaa
open Go Go.RowKit Fly
set_option linter.unusedVariables false
set_option linter.unusedSimpArgs false


/-- The answer of Out and In. -/
def gends (N : Int) (l : List Arc) (v : Int) (p : Arc → Bool) : List Int := if glooked N l v = 0 then idxs p l else []
def OutΦ (N : Int) (l : List Arc) (v : Int) (p : Arc → Bool) (u : Value) (own : List Seg) : Prop :=
  ∃ s ms, u = .tuple #[s, .int .i64 (glooked N l v)] ∧ own = [ms] ∧ Own 3 1 s (gends N l v p).length (ints (gends N l v p)) ms
theorem glooked_zero {N : Int} {l : List Arc} {v : Int} (h : glooked N l v = 0) : (gcheck N l).2 = 0 ∧ 0 ≤ v ∧ v < N := by
  unfold glooked at h
  split at h
  · rename_i h1; exact absurd h h1
  · split at h
    · simp at h
    · rename_i h1 h2; exact ⟨by simpa using h1, by omega, by omega⟩

end Go.Proofs.Ytlllpmafhnfihaa
