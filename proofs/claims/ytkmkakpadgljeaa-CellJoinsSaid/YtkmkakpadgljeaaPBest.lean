/- The move that is told gains most; sizes stay under the bound. -/
import Derived.Test.YtkmkakpadgljeaaPTdy

namespace Go.Proofs.Ytkmkakpadgljeaa
open Go Fly
set_option linter.unusedVariables false
set_option linter.unusedSimpArgs false
set_option linter.unusedSectionVars false

/-- May a vertex go to a label? -/
abbrev mayGo (L S : List Int) (bd : Int) (v j : Nat) : Prop := (j : Int) ≠ lab L (v : Int) ∧ S.getD j 0 < bd
theorem up_best {L S R : List Int} {bd : Int} {v : Nat} {b : Mv} {j : Nat} (hb : 0 ≤ b.2.2) : (mvUp L S R bd v b j).2.2 = (if mayGo L S bd v j then max b.2.2 (gn L R (lab L (v : Int)) j) else b.2.2) ∧ 0 ≤ (mvUp L S R bd v b j).2.2 := by
  unfold mvUp
  by_cases h1 : mayGo L S bd v j
  · rw [if_pos h1]
    by_cases h2 : 0 < ncnt L R j
    · by_cases h3 : b.2.2 < gn L R (lab L (v : Int)) j
      · rw [if_pos ⟨h1.1, h2, h1.2, h3⟩]; simp only; omega
      · rw [if_neg (by rintro ⟨_, _, _, h⟩; exact h3 h)]; omega
    · rw [if_neg (by rintro ⟨_, h, _⟩; exact h2 h)]
      have : gn L R (lab L (v : Int)) j ≤ 0 := by unfold gn; omega
      omega
  · rw [if_neg h1, if_neg (by rintro ⟨h, _, h', _⟩; exact h1 ⟨h, h'⟩)]
    exact ⟨rfl, hb⟩
theorem row_pos {L S R : List Int} {bd : Int} {v : Nat} {b : Mv} (hb : 0 ≤ b.2.2) : ∀ j, 0 ≤ (mvRow L S R bd v j b).2.2
  | 0 => hb
  | j + 1 => by rw [mvRow_next]; exact (up_best (row_pos hb j)).2
theorem to_pos {L S : List Int} {rows : Nat → List Int} {bd : Int} : ∀ k, 0 ≤ (mvTo L S rows bd k).2.2
  | 0 => Int.le_refl _
  | k + 1 => by rw [mvTo_next]; exact row_pos (to_pos k) _
def IsMv (n : Nat) (L S : List Int) (rows : Nat → List Int) (bd : Int) (b : Mv) : Prop :=
  b = (0, 0, 0) ∨ ∃ y j : Nat, b = ((y : Int), (j : Int), gn L (rows y) (lab L (y : Int)) j) ∧ y < n ∧ j < S.length ∧ mayGo L S bd y j
theorem row_is {n : Nat} {L S : List Int} {rows : Nat → List Int} {bd : Int} {v : Nat} {b : Mv} (hv : v < n) (hb : IsMv n L S rows bd b) : ∀ j, j ≤ S.length → IsMv n L S rows bd (mvRow L S (rows v) bd v j b)
  | 0, _ => hb
  | j + 1, h => by
    rw [mvRow_next]
    unfold mvUp
    split
    · rename_i hc; exact .inr ⟨v, j, rfl, hv, by omega, hc.1, hc.2.2.1⟩
    · exact row_is hv hb j (by omega)
theorem to_is {n : Nat} {L S : List Int} {rows : Nat → List Int} {bd : Int} : ∀ k, k ≤ n → IsMv n L S rows bd (mvTo L S rows bd k)
  | 0, _ => .inl rfl
  | k + 1, h => by rw [mvTo_next]; exact row_is (by omega) (to_is k (by omega)) _ (Nat.le_refl _)
theorem filt_set {α : Type} (p : α → Bool) : ∀ (l : List α) (i : Nat) (x : α) (h : i < l.length), ((l.set i x).filter p).length + (if p l[i] then 1 else 0) = (l.filter p).length + (if p x then 1 else 0)
  | [], i, x, h => by simp at h
  | y :: l, 0, x, h => by by_cases h1 : p x <;> by_cases h2 : p y <;> simp [h1, h2]
  | y :: l, i + 1, x, h => by
    have ih := filt_set p l i x (by simpa using h)
    by_cases h2 : p y <;> simp [h2] at ih ⊢ <;> omega
theorem cnt_tdy {L : List Int} {i : Nat} (hi : i < (sns L).length) : cnt (tdy L) i = (L.filter fun x => decide (x = (sns L)[i])).length := by
  unfold cnt tdy
  rw [List.filter_map, List.length_map]
  congr 1
  refine List.filter_congr fun x hx => ?_
  have hm : x ∈ sns L := by have := sns_mem (L := L) (k := L.length) (Nat.le_refl _) x (by simpa using hx); simpa using this
  have hnd : (sns L).Nodup := by have := sns_nodup (L := L) (k := L.length) (Nat.le_refl _); rwa [List.take_length] at this
  show decide ((((sns L).idxOf x : Nat) : Int) = Int.ofNat i) = decide (x = (sns L)[i])
  apply decide_eq_decide.2
  have hlt := List.idxOf_lt_length_of_mem hm
  have g := List.getElem_idxOf hlt
  constructor
  · intro h
    have h' : (sns L).idxOf x = i := by have : (((sns L).idxOf x : Nat) : Int) = (i : Int) := h; omega
    rw [← g]; simp only [h']
  · intro h
    show (((sns L).idxOf x : Nat) : Int) = (i : Int)
    have : (sns L).idxOf x = i := by
      refine Classical.byContradiction fun hne => ?_
      rcases Nat.lt_or_gt_of_ne hne with hl | hl
      · exact (List.pairwise_iff_getElem.1 hnd) _ _ hlt hi hl (g.trans h)
      · exact (List.pairwise_iff_getElem.1 hnd) _ _ hi hlt hl (h.symm.trans g.symm)
    omega
/-- Sizes stay under the bound. -/
theorem size_move {L : List Int} {M : Nat} {bd : Int} {v j : Nat} (hv : v < L.length) (hj : j < M) (hL : ∀ x ∈ L, 0 ≤ x ∧ x < (M : Int)) (hb : ∀ i, i < M → (cnt L i : Int) ≤ bd) (hjb : (cnt L j : Int) < bd) : ∀ x ∈ szs (sns (L.set v (j : Int))).length (tdy (L.set v (j : Int))), x ≤ bd := fun x hx => by
  obtain ⟨i, hi, rfl⟩ := List.mem_map.1 hx
  have hi' : i < (sns (L.set v (j : Int))).length := by simpa using hi
  rw [cnt_tdy hi']
  have hs : (sns (L.set v (j : Int)))[i] ∈ L.set v (j : Int) := by
    have := sns_sub (L := L.set v (j : Int)) (k := (L.set v (j : Int)).length) (Nat.le_refl _) (sns (L.set v (j : Int)))[i] (by rw [List.take_length]; exact List.getElem_mem _)
    exact this
  generalize (sns (L.set v (j : Int)))[i] = s at hs
  have hf := filt_set (fun x => decide (x = s)) L v (j : Int) hv
  obtain ⟨y, hy⟩ : ∃ y : Nat, s = (y : Int) ∧ y < M := by
    rcases List.mem_or_eq_of_mem_set hs with h | h
    · have := hL s h; exact ⟨s.toNat, by omega, by omega⟩
    · exact ⟨j, h, hj⟩
  obtain ⟨rfl, hyM⟩ := hy
  have hc : (L.filter fun x => decide (x = (y : Int))).length = cnt L y := rfl
  rw [hc] at hf
  have := hb y hyM
  by_cases e : j = y
  · subst e
    simp only [decide_true, if_true] at hf
    split at hf <;> omega
  · have e' : ¬ ((j : Int) = (y : Int)) := by omega
    simp only [e', decide_false, Bool.false_eq_true, if_false] at hf
    split at hf <;> omega
end Go.Proofs.Ytkmkakpadgljeaa
