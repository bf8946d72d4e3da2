/- What a stable sort by keys makes, told by its keys. -/
import Derived.Test.YtbkneamjpiiepaaPStable

namespace Go.Proofs.Ytbkneamjpiiepaa
open Go Fly
set_option linter.unusedVariables false
set_option linter.unusedSectionVars false
set_option linter.unusedSimpArgs false

abbrev T3 := Int × Int × Int
def tagT (l : List T3) : List TT := l.zip (List.range l.length)
def byNode (l : List T3) : List T3 := (List.range 65).flatMap fun (n : Nat) => l.filter fun t => decide (t.1 = (n : Int))
theorem tagT_len (l : List T3) : (tagT l).length = l.length := by simp [tagT]
theorem tagT_fst (l : List T3) : (tagT l).map (·.1) = l := by
  unfold tagT; exact List.map_fst_zip (by simp)
theorem tagT_el {l : List T3} {i : Nat} (h : i < l.length) : el (tagT l) i = (l[i], i) := by
  rw [el_eq (by rw [tagT_len]; exact h)]; simp [tagT]
theorem tagT_tags (l : List T3) : ∀ i j, i < j → j < (tagT l).length → (el (tagT l) i).2 < (el (tagT l) j).2 := fun i j hij hj => by
  rw [tagT_len] at hj
  rw [tagT_el (by omega), tagT_el hj]; exact hij
theorem tagT_pair (l : List T3) : (tagT l).Pairwise (fun x y => x.2 < y.2) :=
  List.pairwise_iff_getElem.2 fun i j hi hj hij => by have := tagT_tags l i j hij hj; rwa [el_eq hi, el_eq hj] at this
def byKey (K : Nat) (l : List TT) : List TT := (List.range K).flatMap fun (n : Nat) => l.filter fun x => decide (tk x = (n : Int))
theorem byKey_succ (K : Nat) (l : List TT) : byKey (K + 1) l = byKey K l ++ l.filter fun x => decide (tk x = (K : Int)) := by
  unfold byKey; rw [List.range_succ, List.flatMap_append]; simp
theorem byKey_mem {K : Nat} {l : List TT} {x : TT} (h : x ∈ byKey K l) : 0 ≤ tk x ∧ tk x < (K : Int) := by
  unfold byKey at h
  obtain ⟨n, hn, hx⟩ := List.mem_flatMap.1 h
  have h1 := List.mem_range.1 hn
  have h2 := (List.mem_filter.1 hx).2
  simp at h2; omega
theorem byKey_perm (l : List TT) (h0 : ∀ x ∈ l, 0 ≤ tk x) : ∀ K : Nat, (byKey K l).Perm (l.filter fun x => decide (tk x < (K : Int)))
  | 0 => by
    have : (l.filter fun x => decide (tk x < ((0 : Nat) : Int))) = [] := List.filter_eq_nil_iff.2 fun x hx => by have := h0 x hx; simp; omega
    rw [this]; exact List.Perm.refl _
  | K + 1 => by
    rw [byKey_succ]
    have ih := byKey_perm l h0 K
    have hp := List.filter_append_perm (fun x : TT => decide (tk x < (K : Int))) (l.filter fun x => decide (tk x < ((K + 1 : Nat) : Int)))
    rw [List.filter_filter, List.filter_filter] at hp
    have e1 : (l.filter fun a => decide (tk a < (K : Int)) && decide (tk a < ((K + 1 : Nat) : Int))) = l.filter fun x => decide (tk x < (K : Int)) := List.filter_congr fun x _ => by
      by_cases h : tk x < (K : Int)
      · simp [h]; omega
      · simp [h]
    have e2 : (l.filter fun a => (!decide (tk a < (K : Int))) && decide (tk a < ((K + 1 : Nat) : Int))) = l.filter fun x => decide (tk x = (K : Int)) := List.filter_congr fun x _ => by
      by_cases h : tk x = (K : Int)
      · simp [h]; omega
      · by_cases h' : tk x < (K : Int)
        · simp [h, h']
        · have : ¬ tk x < ((K + 1 : Nat) : Int) := by omega
          simp [h, h']; omega
    rw [e1, e2] at hp
    exact (ih.append_right _).trans hp
theorem byKey_sorted {l : List TT} (ht : l.Pairwise (fun x y => x.2 < y.2)) : ∀ K : Nat, (byKey K l).Pairwise lx
  | 0 => by simp [byKey]
  | K + 1 => by
    rw [byKey_succ, List.pairwise_append]
    refine ⟨byKey_sorted ht K, ?_, fun x hx y hy => ?_⟩
    · rw [List.pairwise_filter]
      exact ht.imp fun {x y} h hx hy => by simp at hx hy; exact .inr ⟨by omega, h⟩
    · have := byKey_mem hx
      have h2 := (List.mem_filter.1 hy).2
      simp at h2
      exact .inl (by omega)
/-- The one sorted list is told by its keys, one behind the other. -/
theorem stable_is {due : List T3} (hn : ∀ t ∈ due, 0 ≤ t.1 ∧ t.1 < 65) {l' : List TT} (hp : l'.Perm (tagT due)) (hs : l'.Pairwise lx) : l'.map (·.1) = byNode due := by
  have hk : ∀ x ∈ tagT due, 0 ≤ tk x ∧ tk x < 65 := fun x hx => hn x.1 (by rw [← tagT_fst due]; exact List.mem_map.2 ⟨x, hx, rfl⟩)
  have hf : (tagT due).filter (fun x => decide (tk x < ((65 : Nat) : Int))) = tagT due := List.filter_eq_self.2 fun x hx => by have := hk x hx; simp; omega
  have h1 := byKey_perm (tagT due) (fun x hx => (hk x hx).1) 65
  rw [hf] at h1
  have e : l' = byKey 65 (tagT due) := lx_unique (hp.trans h1.symm) hs (byKey_sorted (tagT_pair due) 65)
  rw [e]
  unfold byKey byNode
  rw [List.map_flatMap]
  congr 1
  funext n
  conv => rhs; rw [← tagT_fst due, List.filter_map]
  rfl
theorem byNode_len {due : List T3} (hn : ∀ t ∈ due, 0 ≤ t.1 ∧ t.1 < 65) : (byNode due).Perm due := by
  have hk : ∀ x ∈ tagT due, 0 ≤ tk x ∧ tk x < 65 := fun x hx => hn x.1 (by rw [← tagT_fst due]; exact List.mem_map.2 ⟨x, hx, rfl⟩)
  have hf : (tagT due).filter (fun x => decide (tk x < ((65 : Nat) : Int))) = tagT due := List.filter_eq_self.2 fun x hx => by have := hk x hx; simp; omega
  have h1 := byKey_perm (tagT due) (fun x hx => (hk x hx).1) 65
  rw [hf] at h1
  have e := stable_is hn h1 (byKey_sorted (tagT_pair due) 65)
  rw [← e]
  have := h1.map (·.1)
  rwa [tagT_fst] at this
end Go.Proofs.Ytbkneamjpiiepaa
