/- The net's links: pairs of nodes in order, and how they are sorted. -/
import Derived.Test.YtbkneamjpiiepaaPNet
import Derived.Shelf.SlSortCmp.Insertion

namespace Go.Proofs.Ytbkneamjpiiepaa
open Go Go.RowKit Go.Sort Fly
set_option linter.unusedVariables false
set_option linter.unusedSimpArgs false

def cmpI (x y : Int) : Int := if x < y then -1 else if y < x then 1 else 0
def cmpP (x y : Int × Int) : Int := if cmpI x.1 y.1 ≠ 0 then cmpI x.1 y.1 else cmpI x.2 y.2
theorem ltP (x y : Int × Int) : ltOf cmpP x y = decide (x.1 < y.1 ∨ x.1 = y.1 ∧ x.2 < y.2) := by
  unfold ltOf
  apply decide_eq_decide.2
  unfold cmpP cmpI
  by_cases h1 : x.1 < y.1
  · simp [h1]
  · by_cases h2 : y.1 < x.1
    · simp [h1, h2]; omega
    · have e : x.1 = y.1 := by omega
      by_cases h3 : x.2 < y.2
      · simp [e, h3]
      · by_cases h4 : y.2 < x.2
        · simp [e, h3, h4]
        · simp [e, h3, h4]
theorem swoP : SWO (ltOf cmpP) where
  irrefl x := by rw [ltP, decide_eq_false]; omega
  trans x y z h1 h2 := by rw [ltP] at *; simp only [decide_eq_true_eq] at *; omega
  ntrans x y z h1 h2 := by rw [ltP] at *; simp only [decide_eq_false_iff_not] at *; omega
theorem totP (x y : Int × Int) (h1 : ltOf cmpP x y = false) (h2 : ltOf cmpP y x = false) : x = y := by
  rw [ltP] at *; simp only [decide_eq_false_iff_not] at *
  exact Prod.ext (by omega) (by omega)

def allP (n : Nat) : List (Int × Int) := (List.range n).flatMap fun a : Nat => (List.range n).map fun b : Nat => ((Int.ofNat a, Int.ofNat b) : Int × Int)
theorem mem_allP {n : Nat} {k : Int × Int} : k ∈ allP n ↔ (0 ≤ k.1 ∧ k.1 < n) ∧ 0 ≤ k.2 ∧ k.2 < n := by
  unfold allP
  simp only [List.mem_flatMap, List.mem_range, List.mem_map]
  constructor
  · rintro ⟨a, ha, b, hb, rfl⟩; simp; omega
  · rintro ⟨⟨h1, h2⟩, h3, h4⟩
    exact ⟨k.1.toNat, by omega, k.2.toNat, by omega, Prod.ext (by simp; omega) (by simp; omega)⟩
theorem allP_len (n : Nat) : (allP n).length = n * n := by
  unfold allP
  rw [List.length_flatMap]
  simp [List.map_const']
theorem allP_sorted (n : Nat) : (allP n).Pairwise (fun x y => x.1 < y.1 ∨ x.1 = y.1 ∧ x.2 < y.2) := by
  unfold allP
  rw [List.pairwise_flatMap]
  refine ⟨fun a _ => ?_, ?_⟩
  · rw [List.pairwise_map]
    exact List.pairwise_lt_range.imp fun {x y} h => .inr ⟨rfl, by simpa using h⟩
  · refine List.pairwise_lt_range.imp fun {x y} h => ?_
    intro p hp q hq
    simp only [List.mem_map] at hp hq
    obtain ⟨_, _, rfl⟩ := hp
    obtain ⟨_, _, rfl⟩ := hq
    exact .inl (by simpa using h)
theorem nodup_of_lt {l : List (Int × Int)} (h : l.Pairwise (fun x y => x.1 < y.1 ∨ x.1 = y.1 ∧ x.2 < y.2)) : l.Nodup :=
  h.imp fun {x y} h e => by subst e; omega

def NetM.links (A : NetM) : List (Int × Int) := (allP A.down.length).filter fun k => !(A.bag k).isEmpty
theorem links_is {A : NetM} {L : List (Int × Int)} (hn : L.Nodup) (hm : ∀ k, k ∈ L ↔ A.bag k ≠ []) (hk : ∀ k, A.bag k ≠ [] → ¬ A.Bad k) : (L.mergeSort fun x y => !(ltOf cmpP) y x) = A.links := by
  have hs := (allP_sorted A.down.length).filter fun k => !(A.bag k).isEmpty
  have hp : L.Perm A.links := by
    refine (List.perm_ext_iff_of_nodup hn (nodup_of_lt hs)).2 fun k => ?_
    rw [List.mem_filter, mem_allP, hm]
    constructor
    · intro h
      have := hk k h
      unfold NetM.Bad NetM.Non at this
      exact ⟨by omega, by simpa using h⟩
    · intro h; simpa using h.2
  refine List.Perm.eq_of_pairwise (le := fun x y => (!(ltOf cmpP) y x) = true) (fun a b _ _ h1 h2 => totP a b (by simpa using h2) (by simpa using h1)) ?_ ?_ ((List.mergeSort_perm L _).trans hp)
  · refine List.pairwise_mergeSort (fun a b c h1 h2 => ?_) (fun a b => ?_) L
    · simp only [ltP] at *; simp only [Bool.not_eq_true', decide_eq_false_iff_not] at *; omega
    · simp only [ltP]; simp only [Bool.or_eq_true, Bool.not_eq_true', decide_eq_false_iff_not]; omega
  · refine hs.imp fun {x y} h => ?_
    simp only [ltP]; simp only [Bool.not_eq_true', decide_eq_false_iff_not]; omega
theorem links_len (A : NetM) (h : A.down.length ≤ 65) : A.links.length ≤ 4225 := by
  unfold NetM.links
  refine Nat.le_trans (List.length_filter_le _ _) ?_
  rw [allP_len]
  exact Nat.le_trans (Nat.mul_le_mul h h) (by decide)
def prCs (p : Int × Int) : List Value := [.int .i64 p.1, .int .i64 p.2]
theorem prCs_len (p : Int × Int) : (prCs p).length = 2 := rfl
end Go.Proofs.Ytbkneamjpiiepaa
