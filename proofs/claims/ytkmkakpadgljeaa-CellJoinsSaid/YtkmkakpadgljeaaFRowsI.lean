/- Rows that are owned: how they are read. -/
import Derived.Test.YtkmkakpadgljeaaFNest
import Derived.Test.YtkmkakpadgljeaaFlyR
namespace Go.Proofs.Ytkmkakpadgljeaa
open Go Go.RowKit Fly
set_option linter.unusedVariables false
set_option linter.unusedSimpArgs false


theorem RowsI.snoc {E : TypeId} {ls : List (List Int)} {vs : List Value} {ms : List Seg} (h : RowsI E ls vs ms) {l : List Int} {v : Value} {m : Seg} (ho : Own E 1 v l.length (ints l) m) : RowsI E (ls ++ [l]) (vs ++ [v]) (ms ++ [m]) :=
  ⟨by simp [h.lv], by simp [h.lm], fun i hi => by
    rw [List.length_append, List.length_singleton] at hi
    have hlv := h.lv
    have hlm := h.lm
    by_cases e : i < ls.length
    · have e1 : (ls ++ [l])[i]'(by simp; omega) = ls[i] := List.getElem_append_left e
      have e2 : (vs ++ [v])[i]'(by simp; omega) = vs[i]'(by omega) := List.getElem_append_left (by omega)
      have e3 : (ms ++ [m])[i]'(by simp; omega) = ms[i]'(by omega) := List.getElem_append_left (by omega)
      rw [e1, e2, e3]; exact h.own i e
    · have hie : i = ls.length := by omega
      have e1 : (ls ++ [l])[i]'(by simp; omega) = l := by subst hie; simp
      have e2 : (vs ++ [v])[i]'(by simp; omega) = v := by
        rw [List.getElem_append_right (by omega)]; simp
      have e3 : (ms ++ [m])[i]'(by simp; omega) = m := by
        rw [List.getElem_append_right (by omega)]; simp
      rw [e1, e2, e3]; exact ho⟩
theorem RowsI.one {E : TypeId} {l : List Int} {v : Value} {m : Seg} (ho : Own E 1 v l.length (ints l) m) : RowsI E [l] [v] [m] :=
  ⟨rfl, rfl, fun i hi => by
    have : i = 0 := by simpa using hi
    subst this; exact ho⟩
/-- The rows as they are read. -/
theorem RowsI.rows {E : TypeId} {ls : List (List Int)} {vs : List Value} {ms : List Seg} (h : RowsI E ls vs ms) : ∃ R : List Row, vs = R.map rowV ∧ rowsL R = ls := by
  have hlv := h.lv
  have key : ∀ i, i < ls.length → ∃ r : Row, (∀ hv : i < vs.length, vs[i] = rowV r) ∧ ∀ hi : i < ls.length, ls[i] = r.2.1 := fun i hi => by
    obtain ⟨A, c, e, _⟩ := (h.own i hi).val
    exact ⟨(A, ls[i], c), fun _ => e, fun _ => rfl⟩
  obtain ⟨R, hRl, hR⟩ := list_of (R := fun i r => (∀ hv : i < vs.length, vs[i] = rowV r) ∧ ∀ hi : i < ls.length, ls[i] = r.2.1) key
  refine ⟨R, List.ext_getElem (by simp; omega) fun i h1 h2 => ?_, List.ext_getElem (by simp [rowsL]; omega) fun i h1 h2 => ?_⟩
  · rw [List.getElem_map]; exact (hR i (by simpa using h2)).1 h1
  · simp only [rowsL, List.getElem_map]
    exact ((hR i (by omega)).2 h2).symm
/-- Rows behind which nothing can be put: each in memory of its own. -/
structure RowsC (E : TypeId) (R : List Row) (ms : List Seg) : Prop where
  lm : ms.length = R.length
  own : ∀ (i : Nat) (h : i < R.length), ∃ c, Own E 1 (.slice R[i].1 R[i].2.1.length c) R[i].2.1.length (ints R[i].2.1) (ms[i]'(lm ▸ h))
def cutVR : Value → Value
  | .slice A n _ => .slice A n n
  | v => v
/-- A row of rows of which the first k have been cut. -/
def ctoR (vs : List Value) (k : Nat) : List Value := vs.mapIdx fun i v => if i < k then cutVR v else v
theorem ctoR_len (vs : List Value) (k : Nat) : (ctoR vs k).length = vs.length := by simp [ctoR]
theorem ctoR_zero (vs : List Value) : ctoR vs 0 = vs := by
  refine List.ext_getElem (by simp [ctoR]) fun i h1 h2 => ?_
  simp [ctoR]
theorem ctoR_get {vs : List Value} {k i : Nat} (h : k ≤ i) : (ctoR vs k)[i]? = vs[i]? := by
  unfold ctoR
  rw [List.getElem?_mapIdx]
  cases vs[i]? with
  | none => rfl
  | some v => simp [show ¬ i < k by omega]
theorem ctoR_set {vs : List Value} {k i : Nat} (h : k ≤ i) (v : Value) : (ctoR vs k).set i v = ctoR (vs.set i v) k := by
  refine List.ext_getElem (by simp [ctoR]) fun j h1 h2 => ?_
  simp only [ctoR, List.getElem_mapIdx, List.getElem_set]
  by_cases e : i = j
  · subst e; simp [show ¬ i < k by omega]
  · simp [e]
theorem ctoR_next {vs : List Value} {k : Nat} (v : Value) : (ctoR vs k).set k (cutVR v) = ctoR (vs.set k v) (k + 1) := by
  refine List.ext_getElem (by simp [ctoR]) fun j h1 h2 => ?_
  simp only [ctoR, List.getElem_mapIdx, List.getElem_set]
  by_cases e : k = j
  · subst e; simp
  · by_cases e2 : j < k
    · simp [e, e2, show j < k + 1 by omega]
    · simp [e, e2, show ¬ j < k + 1 by omega]
theorem ctoR_all {vs : List Value} {k : Nat} (h : vs.length ≤ k) : ctoR vs k = vs.map cutVR := by
  refine List.ext_getElem (by simp [ctoR]) fun j h1 h2 => ?_
  simp only [ctoR, List.getElem_mapIdx, List.getElem_map]
  rw [if_pos (by have := h2; simp at this; omega)]
theorem RowsI.cut {E : TypeId} {ls : List (List Int)} {vs : List Value} {ms : List Seg} (h : RowsI E ls vs ms) : ∃ R : List Row, vs.map cutVR = R.map rowV ∧ rowsL R = ls ∧ RowsC E R ms := by
  have hlv := h.lv
  have hlm := h.lm
  have key : ∀ i, i < ls.length → ∃ r : Row, (∀ hv : i < vs.length, cutVR vs[i] = rowV r) ∧ (∀ hi : i < ls.length, ls[i] = r.2.1) ∧ ∀ hm : i < ms.length, ∃ c, Own E 1 (.slice r.1 r.2.1.length c) r.2.1.length (ints r.2.1) ms[i] := fun i hi => by
    have ho := h.own i hi
    obtain ⟨A, c, e, _⟩ := ho.val
    refine ⟨(A, ls[i], ls[i].length), fun _ => by rw [e]; rfl, fun _ => rfl, fun _ => ⟨c, ?_⟩⟩
    rw [e] at ho; exact ho
  obtain ⟨R, hRl, hR⟩ := list_of (R := fun i r => (∀ hv : i < vs.length, cutVR vs[i] = rowV r) ∧ (∀ hi : i < ls.length, ls[i] = r.2.1) ∧ ∀ hm : i < ms.length, ∃ c, Own E 1 (.slice r.1 r.2.1.length c) r.2.1.length (ints r.2.1) ms[i]) key
  refine ⟨R, List.ext_getElem (by simp; omega) fun i h1 h2 => ?_, List.ext_getElem (by simp [rowsL]; omega) fun i h1 h2 => ?_, by omega, fun i hi => (hR i (by omega)).2.2 (by omega)⟩
  · rw [List.getElem_map, List.getElem_map]; exact (hR i (by simpa using h2)).1 (by simpa using h1)
  · simp only [rowsL, List.getElem_map]
    exact ((hR i (by omega)).2.1 h2).symm
theorem RowsC.nil (E : TypeId) : RowsC E [] [] := ⟨rfl, fun i h => by simp at h⟩
theorem RowsC.ro {S : Nat → Prop} {w0 w : World} {segs o3 : List Seg} {E : TypeId} {R : List Row} {ms : List Seg} (hR : RowsC E R ms) (hp : Hp S w0 segs.flatten w) [p3 : Pick segs ms.flatten o3] : ∀ r ∈ R, Ro (Fr w []) w r.1 (ints r.2.1) ∧ r.2.1.length ≤ 9223372036854775807 := fun r hr => by
  obtain ⟨i, hi, rfl⟩ := List.mem_iff_getElem.1 hr
  obtain ⟨c, ho⟩ := hR.own i hi
  refine ⟨?_, by have := ho.val; obtain ⟨_, _, e, h⟩ := this; cases e; omega⟩
  have hmi : i < ms.length := by rw [hR.lm]; exact hi
  have hsub : Fly.Sub segs (ms[i] :: [(ms.eraseIdx i).flatten]) := ⟨o3.flatten, by
    have := p3.perm.trans ((flat_erase ms i hmi).append_right o3.flatten)
    simpa using this⟩
  have hp2 := hp.sub hsub
  exact seen_ro (ho.seen (segs := ms[i] :: [(ms.eraseIdx i).flatten]) hp2)

end Go.Proofs.Ytkmkakpadgljeaa
