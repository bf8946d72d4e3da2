/- slices.SortFunc over elements of k cells, by the shelf's contract, in the words of the small logic. -/
import Derived.Test.YtkmkakpadgljeaaFlyD
import Derived.Test.YtkmkakpadgljeaaFlyMem
import Derived.Shelf.SlSortCmp.WholeK
import Derived.Shelf.SlSortCmp.NoneTotal
import Derived.Shelf.Sort.Plain

namespace Go.Proofs.Ytkmkakpadgljeaa.Fly
open Go Go.RowKit Go.Sort
set_option linter.unusedVariables false
set_option linter.unusedSimpArgs false
set_option linter.unusedSectionVars false

theorem Hp.grown {w w' : World} {m : Seg} (h : Hp (Fr w []) w m w') : ∃ q os', w' = grow (w.drewN q) os' := by
  refine ⟨w'.drawn - w.drawn, w'.heap.extract w.heap.size w'.heap.size, ?_⟩
  have h1 := h.drawn
  have h2 := h.size
  have hh : w'.heap = w.heap ++ w'.heap.extract w.heap.size w'.heap.size := by
    apply Array.ext_getElem?
    intro i
    by_cases hi : i < w.heap.size
    · rw [Array.getElem?_append_left hi]
      exact h.same i ⟨hi, by simp⟩
    · rw [Array.getElem?_append_right (by omega), Array.getElem?_extract]
      by_cases hj : i < w'.heap.size
      · rw [if_pos (by omega)]; congr 1; omega
      · rw [if_neg (by omega), Array.getElem?_eq_none (by omega)]
  cases w' with
  | mk heap tape drawn os output =>
    have e1 := h.os; have e2 := h.tape; have e3 := h.output
    simp only at e1 e2 e3 h1 hh
    subst e1 e2 e3
    simp only [grow, World.drewN]
    rw [← hh]
    congr 1
    omega

section
variable {α : Type} [Inhabited α] (enc : α → List Value) (k : Nat) (hk : ∀ x, (enc x).length = k)
include hk

theorem flat_len (l : List α) : (l.flatMap enc).length = l.length * k := by
  induction l with
  | nil => simp
  | cons a l ih => simp [List.flatMap_cons, ih, hk, Nat.add_mul]; omega

theorem flatK_list (l : List α) : (flatK enc k l.toArray).toList = l.flatMap enc := by
  rcases Nat.eq_zero_or_pos k with k0 | k0
  · subst k0
    have h1 : (flatK enc 0 l.toArray).toList.length = 0 := by simp
    have h2 := flat_len enc 0 hk l
    have h3 : (l.flatMap enc).length = 0 := by omega
    rw [List.eq_nil_of_length_eq_zero h1, List.eq_nil_of_length_eq_zero h3]
  apply List.ext_getElem?
  intro j
  induction l generalizing j with
  | nil => simp [flatK]
  | cons a l ih =>
    by_cases hj : j < (l.length + 1) * k
    · have e : (flatK enc k (a :: l).toArray).toList[j]? = some ((enc (a :: l).toArray[j / k]!)[j % k]!) := by
        simp [flatK, hj]
      rw [e, List.flatMap_cons]
      by_cases h0 : j < k
      · rw [List.getElem?_append_left (by rw [hk]; exact h0), Nat.div_eq_of_lt h0, Nat.mod_eq_of_lt h0]
        simp [List.getElem?_eq_getElem (show j < (enc a).length by rw [hk]; exact h0), getElem!_pos, hk, h0]
      · have hk0 : k ≤ j := by omega
        rw [List.getElem?_append_right (by rw [hk]; exact hk0), hk, ← ih (j - k)]
        have hj' : j - k < l.length * k := by rw [Nat.add_mul] at hj; omega
        have e' : (flatK enc k l.toArray).toList[j - k]? = some ((enc l.toArray[(j - k) / k]!)[(j - k) % k]!) := by
          simp [flatK, hj']
        rw [e']
        have hd : j / k = (j - k) / k + 1 := by
          rw [← Nat.div_eq_sub_div k0 hk0]
        have hm : j % k = (j - k) % k := Nat.mod_eq_sub_mod hk0
        rw [hd, hm]
        simp
    · rw [List.getElem?_eq_none (by simp; omega), List.getElem?_eq_none (by rw [flat_len enc k hk]; simp; omega)]
end

theorem putCells_id (F : Array Value) (cs sp : List Value) (h : cs.length = F.size) : (putCells id 0 F (cs ++ sp).toArray).toList = F.toList ++ sp := by
  apply List.ext_getElem?
  intro j
  rw [Array.getElem?_toList]
  simp only [putCells, Array.getElem?_mapIdx, List.getElem?_toArray]
  by_cases hj : j < F.size
  · rw [List.getElem?_append_left (by omega), List.getElem?_append_left (by simpa using hj)]
    simp [hj, h]
  · rw [List.getElem?_append_right (by omega), List.getElem?_append_right (by simp; omega)]
    simp only [Array.length_toList, h]
    cases sp[j - F.size]? <;> simp [hj]

theorem meets_sortF {P : Program} {ρ : Go.Shelf.Ren} (L : SlLaysF0.n6 P ρ) {E : TypeId} (k : Nat) (aE : ∀ w, (isAgg (ρ.t 24)).run P w = .ok true w) (zE : ∀ w, (Go.sizeOf (ρ.t 24)).run P w = .ok k w)
    {α : Type} [Inhabited α] (enc : α → List Value) (hk : ∀ x, (enc x).length = k) (h1 : ∀ x, ∀ v ∈ enc x, v.oneCell' = true) (cf : α → α → Int) (hO : SWO (ltOf cf)) (hT : ∀ x y, (ltOf cf) x y = false → (ltOf cf) y x = false → x = y)
    (g : Nat) (eg : ∀ args w, (callFunc g args).run P w = .ok (.enter g args) w) (hcmp : ∀ x y W, Meets P g [.agg (enc x).toArray, .agg (enc y).toArray] W [] (fun v _ => v = .int .i64 (cf x y)))
    (A : Option Addr) (cap : Nat) (l : List α) (m : Seg) (w : World) (ho : Own E k (.slice A l.length cap) l.length (l.flatMap enc) m) (hl : l.length < 4611686018427387904) (hw : Owns w [m]) :
    Meets P (ρ.f 6) [.slice A l.length cap, .func (.func g) #[] #[]] w [m] (fun u own' => u = .tuple #[] ∧ ∃ m', own' = [m'] ∧ Own E k (.slice A l.length cap) l.length ((l.mergeSort fun x y => !(ltOf cf) y x).flatMap enc) m') := by
  have ho' := ho
  obtain ⟨h0, h | ⟨b, c, sp, e, rfl, h1', h2, h3⟩⟩ := ho'
  · obtain ⟨e, hl0, rfl⟩ := h
    obtain rfl : l = [] := List.eq_nil_of_length_eq_zero hl0
    refine Calls.mono (AnyF.slices_SortFunc_none L A cap _ w) ?_
    rintro _ _ ⟨rfl, rfl⟩
    exact ⟨_, [[]], rfl, Hp.start hw, rfl, [], rfl, by simpa using ho⟩
  · cases e
    have hb : w.heap[b]? = some (blk (l.flatMap enc ++ sp) E) := hw.there b _ (by simp)
    have hlt : b < w.heap.size := by
      rcases Nat.lt_or_ge b w.heap.size with h' | h'
      · exact h'
      · rw [Array.getElem?_eq_none h'] at hb; cases hb
    have hfl := flatK_list enc k hk l
    have hlen := flat_len enc k hk l
    have hH : HoldsK enc k w b 0 l.toArray := by
      intro j hj
      have hj' : j < (l.flatMap enc).length := by rw [hlen]; simpa using hj
      refine ⟨?_, by simp [World.frozen?, hb]⟩
      have hg : (flatK enc k l.toArray)[j]? = (l.flatMap enc)[j]? := by rw [← hfl]; simp
      have : (l.flatMap enc ++ sp)[j]? = some (flatK enc k l.toArray)[j]! := by
        rw [List.getElem?_append_left hj', ← hg]
        simp at hj
        simp [hj]
      simp [World.cell?, hb, this]
    have hc : CmpLays P g #[] enc k cf b 0 l.toArray.size w := by
      intro m os dk _ x y
      refine Calls.mono (hcmp x y _) ?_
      rintro _ w' ⟨v, own', rfl, hp, rfl⟩
      exact ⟨rfl, hp.grown⟩
    have hcall := AnyQ.slices_SortFunc_total L k aE zE enc hk h1 cf hO g #[] b 0 cap l.toArray w eg hc hH hlt (by simpa using hl) hT
    simp only [List.size_toArray] at hcall
    refine Calls.mono hcall ?_
    rintro _ _ ⟨rfl, n, os, rfl⟩
    have hl2 : (l.mergeSort fun x y => !(ltOf cf) y x).length = l.length := List.length_mergeSort l
    generalize (l.mergeSort fun x y => !(ltOf cf) y x) = L2 at hl2 ⊢
    have hlen2 := flat_len enc k hk L2
    have hnew : (sortWorldK enc k w b 0 n L2.toArray os).heap[b]? = some (blk (L2.flatMap enc ++ sp) E) := by
      unfold sortWorldK putRowK
      rw [heap_grow_old _ _ (by simpa using hlt)]
      have : (putCells id 0 (flatK enc k L2.toArray) (l.flatMap enc ++ sp).toArray) = (L2.flatMap enc ++ sp).toArray := by
        rw [← Array.toList_inj, putCells_id _ _ _ (by rw [hlen]; simp [hl2]), flatK_list enc k hk]
      simp [putRow, mapBlock, Sort.ahead, Array.getElem?_modify, hb, onCells, this]
    have hoth : ∀ j, j < w.heap.size → j ≠ b → (sortWorldK enc k w b 0 n L2.toArray os).heap[j]? = w.heap[j]? := fun j hj hne => by
      unfold sortWorldK putRowK
      rw [heap_grow_old _ _ (by simpa using hj)]
      have : b ≠ j := fun e => hne e.symm
      simp [putRow, mapBlock, Sort.ahead, Array.getElem?_modify, this]
    refine ⟨.tuple #[], [[(b, blk (L2.flatMap enc ++ sp) E)]], rfl, ?_, rfl, _, rfl, ⟨by rw [hlen2, hl2], .inr ⟨b, cap, sp, rfl, rfl, h1', h2, h3⟩⟩⟩
    refine ⟨rfl, rfl, rfl, by simp [sortWorldK, putRowK, grow], by simp [sortWorldK, putRowK, grow, putRow, mapBlock, Sort.ahead], fun j hj => hj.1, fun j hj => hoth j hj.1 fun e => hj.2 (by subst e; simp), fun j o hm => ?_, fun j o hm hj => hj.2 (by simp at hm; obtain ⟨rfl, _⟩ := hm; simp), by simp⟩
    simp only [List.flatten_cons, List.flatten_nil, List.append_nil, List.mem_singleton, Prod.mk.injEq] at hm
    obtain ⟨rfl, rfl⟩ := hm
    exact hnew
end Go.Proofs.Ytkmkakpadgljeaa.Fly
