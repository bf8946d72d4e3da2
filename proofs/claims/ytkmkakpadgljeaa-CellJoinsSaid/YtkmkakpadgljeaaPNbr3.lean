/- Neighbours, told in two ways. -/
import Derived.Test.YtkmkakpadgljeaaPCpt
import Derived.Test.YtkmkakpadgljeaaPGraph
import Derived.Test.YtkmkakpadgljeaaFlySort

namespace Go.Proofs.Ytkmkakpadgljeaa
open Go Fly
set_option linter.unusedVariables false
set_option linter.unusedSectionVars false
set_option linter.unusedSimpArgs false

/-- What an arc says of the neighbours of v. -/
def nbr (v : Int) (x : Arc) : List Int := if x.src = x.dst then [] else if x.src = v then [x.dst] else if x.dst = v then [x.src] else []
def nbrs (v : Int) (l : List Arc) : List Int := cpt (sortI (l.flatMap (nbr v)))
/-- Whether an arc says that u is a neighbour of v. -/
def nbB (v u : Nat) (x : Arc) : Bool := (decide (x.src.toNat = v) && decide (x.dst.toNat = u)) || (decide (x.dst.toNat = v) && decide (x.src.toNat = u))
def trues (sd : List Bool) : List Int := idxs id sd
theorem nbr_next {v : Int} {l : List Arc} {i : Nat} (hi : i < l.length) : (l.take (i + 1)).flatMap (nbr v) = (l.take i).flatMap (nbr v) ++ nbr v l[i] := by
  rw [List.take_succ_eq_append_getElem hi, List.flatMap_append]; simp
theorem nbr_len (v : Int) (l : List Arc) : (l.flatMap (nbr v)).length ≤ l.length := by
  induction l with
  | nil => simp
  | cons x r ih =>
    rw [List.flatMap_cons, List.length_append, List.length_cons]
    have : (nbr v x).length ≤ 1 := by
      unfold nbr
      split
      · simp
      · split
        · simp
        · split <;> simp
    omega
theorem nbrs_rising (v : Int) (l : List Arc) : (nbrs v l).Pairwise (· < ·) := cpt_int (sortI_sorted _)
theorem nbrs_mem {v : Int} {l : List Arc} {u : Int} : u ∈ nbrs v l ↔ ∃ x ∈ l, u ∈ nbr v x := by
  unfold nbrs
  rw [cpt_mem, (sortI_perm _).mem_iff, List.mem_flatMap]
theorem idxs_rising {α : Type} (p : α → Bool) (l : List α) : ∀ k, k ≤ l.length → (idxs p (l.take k)).Pairwise (· < ·) ∧ ∀ x ∈ idxs p (l.take k), x < (k : Int)
  | 0, _ => by simp [idxs]
  | k + 1, h => by
    obtain ⟨h1, h2⟩ := idxs_rising p l k (by omega)
    rw [idxs_succ (by omega)]
    split
    · refine ⟨List.pairwise_append.2 ⟨h1, by simp, fun a ha b hb => by simp at hb; subst hb; exact h2 a ha⟩, fun x hx => ?_⟩
      rcases List.mem_append.1 hx with hx | hx
      · have := h2 x hx; omega
      · simp at hx; omega
    · simp only [List.append_nil]
      exact ⟨h1, fun x hx => by have := h2 x hx; omega⟩
theorem idxs_in {α : Type} {p : α → Bool} {l : List α} : ∀ k, k ≤ l.length → ∀ x : Int, x ∈ idxs p (l.take k) ↔ ∃ i, ∃ h : i < l.length, i < k ∧ x = (i : Int) ∧ p l[i] = true
  | 0, _, x => by simp [idxs]
  | k + 1, hk, x => by
    rw [idxs_succ (by omega), List.mem_append, idxs_in k (by omega) x]
    constructor
    · rintro (⟨i, h, h1, h2, h3⟩ | hx)
      · exact ⟨i, h, by omega, h2, h3⟩
      · split at hx
        · rename_i hp; simp at hx; exact ⟨k, by omega, by omega, hx, hp⟩
        · simp at hx
    · rintro ⟨i, h, h1, h2, h3⟩
      by_cases e : i = k
      · subst e; right; rw [if_pos h3]; simp [h2]
      · exact .inl ⟨i, h, by omega, h2, h3⟩
theorem trues_rising (sd : List Bool) : (trues sd).Pairwise (· < ·) := by
  have := (idxs_rising id sd sd.length (Nat.le_refl _)).1
  rwa [List.take_length] at this
theorem trues_mem {sd : List Bool} {x : Int} : x ∈ trues sd ↔ ∃ i, i < sd.length ∧ x = (i : Int) ∧ sd.getD i false = true := by
  have := idxs_in (p := id) (l := sd) sd.length (Nat.le_refl _) x
  rw [List.take_length] at this
  rw [trues, this]
  constructor
  · rintro ⟨i, h, _, h2, h3⟩; exact ⟨i, h, h2, by simpa [List.getD_eq_getElem?_getD, h] using h3⟩
  · rintro ⟨i, h, h2, h3⟩; exact ⟨i, h, h, h2, by simpa [List.getD_eq_getElem?_getD, h] using h3⟩
/-- Both ways tell the same. -/
theorem nbrs_trues {n v : Nat} {l : List Arc} {sd : List Bool} (hv : v < n) (hgood : ∀ k (hk : k < l.length), 0 ≤ l[k].src ∧ l[k].src < (n : Int) ∧ 0 ≤ l[k].dst ∧ l[k].dst < (n : Int)) (hl : sd.length = n) (hs : ∀ u, u < n → sd.getD u false = (decide (u ≠ v) && l.any (nbB v u))) : nbrs (v : Int) l = trues sd := by
  refine rising_int (nbrs_rising _ _) (trues_rising _) fun u => ?_
  rw [nbrs_mem, trues_mem]
  constructor
  · rintro ⟨x, hx, hu⟩
    obtain ⟨k, hk, rfl⟩ := List.mem_iff_getElem.1 hx
    have hg := hgood k hk
    unfold nbr at hu
    split at hu
    · simp at hu
    · rename_i h1
      split at hu
      · rename_i h2
        simp at hu
        refine ⟨u.toNat, by omega, by omega, ?_⟩
        rw [hs _ (by omega), Bool.and_eq_true, decide_eq_true_eq, List.any_eq_true]
        exact ⟨by omega, l[k], hx, by unfold nbB; simp; left; omega⟩
      · split at hu
        · rename_i h2 h3
          simp at hu
          refine ⟨u.toNat, by omega, by omega, ?_⟩
          rw [hs _ (by omega), Bool.and_eq_true, decide_eq_true_eq, List.any_eq_true]
          exact ⟨by omega, l[k], hx, by unfold nbB; simp; right; omega⟩
        · simp at hu
  · rintro ⟨i, hi, rfl, h⟩
    rw [hs i (by omega), Bool.and_eq_true, decide_eq_true_eq, List.any_eq_true] at h
    obtain ⟨hne, x, hx, hb⟩ := h
    refine ⟨x, hx, ?_⟩
    obtain ⟨k, hk, rfl⟩ := List.mem_iff_getElem.1 hx
    have hg := hgood k hk
    unfold nbB at hb
    simp at hb
    unfold nbr
    rcases hb with ⟨h1, h2⟩ | ⟨h1, h2⟩
    · rw [if_neg (by omega), if_pos (by omega)]; simp; omega
    · rw [if_neg (by omega), if_neg (by omega), if_pos (by omega)]; simp; omega
end Go.Proofs.Ytkmkakpadgljeaa
