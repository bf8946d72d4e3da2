/- slices.Sort over numbers, by the shelf's contract, in the words of the small logic. -/
import Derived.Test.YtkmkakpadgljeaaFlyD
import Derived.Test.YtkmkakpadgljeaaFlyMem
import Derived.Shelf.Sort.Plain
import Derived.Shelf.Slices.In.SortNone

namespace Go.Proofs.Ytkmkakpadgljeaa.Fly
open Go Go.RowKit Go.Sort
set_option linter.unusedVariables false
set_option linter.unusedSimpArgs false
set_option linter.unusedSectionVars false

/-- Numbers, rising. -/
def sortI (l : List Int) : List Int := l.mergeSort fun x y => decide (x ≤ y)
theorem sortI_len (l : List Int) : (sortI l).length = l.length := List.length_mergeSort l
theorem sortI_perm (l : List Int) : (sortI l).Perm l := List.mergeSort_perm l _
theorem sortI_sorted (l : List Int) : (sortI l).Pairwise (· ≤ ·) := by
  have h := List.pairwise_mergeSort (le := fun x y : Int => decide (x ≤ y)) (fun a b c h1 h2 => by simp at *; omega) (fun a b => by simp; omega) l
  exact h.imp fun {a b} h => by simpa using h

theorem putCells_list (ts : List Int) (cs sp : List Value) (h : cs.length = ts.length) : (putCells (Value.int .i64) 0 ts.toArray (cs ++ sp).toArray).toList = ints ts ++ sp := by
  apply List.ext_getElem?
  intro j
  rw [Array.getElem?_toList]
  simp only [putCells, Array.getElem?_mapIdx, List.getElem?_toArray]
  by_cases hj : j < ts.length
  · rw [List.getElem?_append_left (by omega), List.getElem?_append_left (by rw [ints_length]; exact hj), ints_get hj]
    simp [hj, h]
  · rw [List.getElem?_append_right (by omega), List.getElem?_append_right (by rw [ints_length]; omega), ints_length, h]
    cases sp[j - ts.length]? <;> simp [hj]

theorem meets_sort {P : Program} {ρ : Go.Shelf.Ren} (L : Lays.n189 P ρ) {E : TypeId} (A : Option Addr) (cap : Nat) (l : List Int) (m : Seg) (w : World) (ho : Own E 1 (.slice A l.length cap) l.length (ints l) m) (hl : l.length < 4611686018427387904) (hw : Owns w [m]) :
    Meets P (ρ.f 189) [.slice A l.length cap] w [m] (fun u own' => u = .tuple #[] ∧ ∃ m', own' = [m'] ∧ Own E 1 (.slice A l.length cap) l.length (ints (sortI l)) m') := by
  have ho' := ho
  obtain ⟨h0, h | ⟨b, c, sp, e, rfl, h1, h2, h3⟩⟩ := ho'
  · obtain ⟨e, hl0, rfl⟩ := h
    obtain rfl : l = [] := List.eq_nil_of_length_eq_zero hl0
    refine Calls.mono (Any.slices_Sort_int_none L A cap w) ?_
    rintro _ _ ⟨rfl, rfl⟩
    exact ⟨_, [[]], rfl, Hp.start hw, rfl, [], rfl, by rw [show sortI [] = [] from by simp [sortI]]; exact ho⟩
  · cases e
    have hb : w.heap[b]? = some (blk (ints l ++ sp) E) := hw.there b _ (by simp)
    have hlt : b < w.heap.size := by
      rcases Nat.lt_or_ge b w.heap.size with h' | h'
      · exact h'
      · rw [Array.getElem?_eq_none h'] at hb; cases hb
    have hH : Holds (Value.int .i64) w b 0 l.toArray := by
      intro j hj
      have hj' : j < l.length := by simpa using hj
      refine ⟨?_, by simp [World.frozen?, hb]⟩
      have : (ints l ++ sp)[j]? = some (.int .i64 l[j]) := by rw [List.getElem?_append_left (by rw [ints_length]; exact hj'), ints_get hj']
      simp [World.cell?, hb, this, hj']
    have hc := Any.slices_Sort_int L b 0 cap l w hH hlt hl
    refine Calls.mono hc ?_
    rintro _ _ ⟨rfl, n, os, rfl⟩
    have hnew : (grow (putRow (Value.int .i64) (Sort.ahead w n) b 0 (sortI l).toArray) os).heap[b]? = some (blk (ints (sortI l) ++ sp) E) := by
      rw [heap_grow_old _ _ (by simpa using hlt)]
      have : (putCells (Value.int .i64) 0 (sortI l).toArray (ints l ++ sp).toArray) = (ints (sortI l) ++ sp).toArray := by
        rw [← Array.toList_inj, putCells_list _ _ _ (by rw [ints_length, sortI_len])]
      simp [putRow, mapBlock, Sort.ahead, Array.getElem?_modify, hb, onCells, this]
    have hoth : ∀ k, k < w.heap.size → k ≠ b → (grow (putRow (Value.int .i64) (Sort.ahead w n) b 0 (sortI l).toArray) os).heap[k]? = w.heap[k]? := fun k hk hne => by
      rw [heap_grow_old _ _ (by simpa using hk)]
      have : b ≠ k := fun e => hne e.symm
      simp [putRow, mapBlock, Sort.ahead, Array.getElem?_modify, this]
    refine ⟨.tuple #[], [[(b, blk (ints (sortI l) ++ sp) E)]], rfl, ?_, rfl, _, rfl, by rw [ints_length] at h0; exact ⟨by rw [ints_length, sortI_len]; omega, .inr ⟨b, cap, sp, rfl, rfl, h1, h2, h3⟩⟩⟩
    refine ⟨rfl, rfl, rfl, by simp [grow], by simp [grow, putRow, mapBlock, Sort.ahead], fun k hk => hk.1, fun k hk => hoth k hk.1 fun e => hk.2 (by subst e; simp), fun k o hm => ?_, fun k o hm hk => hk.2 (by simp at hm; obtain ⟨rfl, _⟩ := hm; simp), by simp⟩
    simp only [List.flatten_cons, List.flatten_nil, List.append_nil, List.mem_singleton, Prod.mk.injEq] at hm
    obtain ⟨rfl, rfl⟩ := hm
    exact hnew
end Go.Proofs.Ytkmkakpadgljeaa.Fly
