/- Pairs of vertices, in order. -/
import Derived.Test.YtkmkakpadgljeaaPCpt
import Derived.Test.YtkmkakpadgljeaaPGraph
import Derived.Shelf.SlSortCmp.Insertion

namespace Go.Proofs.Ytkmkakpadgljeaa
open Go Go.RowKit Go.Sort Fly
set_option linter.unusedVariables false
set_option linter.unusedSimpArgs false
set_option linter.unusedSectionVars false

abbrev Pr := Int × Int
def prCs (p : Pr) : List Value := [.int .i64 p.1, .int .i64 p.2]
theorem prCs_len (p : Pr) : (prCs p).length = 2 := rfl
/-- What order says of two pairs. -/
def ordP (x y : Pr) : Int := if x.1 ≠ y.1 then x.1 - y.1 else x.2 - y.2
abbrev F20 := Fin 1048576 × Fin 1048576
def toP (x : F20) : Pr := (((x.1.val : Nat) : Int), ((x.2.val : Nat) : Int))
def ofP (p : Pr) : F20 := (⟨p.1.toNat % 1048576, Nat.mod_lt _ (by decide)⟩, ⟨p.2.toNat % 1048576, Nat.mod_lt _ (by decide)⟩)
def POk (p : Pr) : Prop := (0 ≤ p.1 ∧ p.1 < 1048576) ∧ 0 ≤ p.2 ∧ p.2 < 1048576
theorem to_of {p : Pr} (h : POk p) : toP (ofP p) = p := by
  unfold POk at h
  refine Prod.ext ?_ ?_ <;> simp only [toP, ofP] <;> omega
theorem toP_ok (x : F20) : POk (toP x) := by
  have h1 := x.1.isLt
  have h2 := x.2.isLt
  unfold POk toP; simp only; omega
theorem to_inj {x y : F20} (h : toP x = toP y) : x = y := by
  have h1 := congrArg Prod.fst h
  have h2 := congrArg Prod.snd h
  simp only [toP] at h1 h2
  exact Prod.ext (Fin.ext (by omega)) (Fin.ext (by omega))
def cfP (x y : F20) : Int := ordP (toP x) (toP y)
def ltX (x y : Pr) : Prop := x.1 < y.1 ∨ x.1 = y.1 ∧ x.2 < y.2
theorem ltF (x y : F20) : ltOf cfP x y = decide ((toP x).1 < (toP y).1 ∨ (toP x).1 = (toP y).1 ∧ (toP x).2 < (toP y).2) := by
  unfold ltOf
  apply decide_eq_decide.2
  unfold cfP ordP
  by_cases h1 : (toP x).1 = (toP y).1
  · rw [if_neg (by omega)]; omega
  · rw [if_pos h1]; omega
theorem swoF : SWO (ltOf cfP) where
  irrefl x := by rw [ltF, decide_eq_false]; omega
  trans x y z h1 h2 := by rw [ltF] at *; simp only [decide_eq_true_eq] at *; omega
  ntrans x y z h1 h2 := by rw [ltF] at *; simp only [decide_eq_false_iff_not] at *; omega
theorem totF (x y : F20) (h1 : ltOf cfP x y = false) (h2 : ltOf cfP y x = false) : x = y := by
  rw [ltF] at *; simp only [decide_eq_false_iff_not] at *
  exact to_inj (Prod.ext (by omega) (by omega))
theorem sorted_fin (l : List Pr) (hl : ∀ p ∈ l, POk p) : ∃ l2 : List Pr, l2 = (((l.map ofP).mergeSort fun x y => !(ltOf cfP) y x).map toP) ∧ l2.Perm l ∧ l2.Pairwise (fun x y => x = y ∨ ltX x y) := by
  refine ⟨_, rfl, ?_, ?_⟩
  · have h1 := (List.mergeSort_perm (l.map ofP) fun x y => !(ltOf cfP) y x).map toP
    have h2 : (l.map ofP).map toP = l := by
      rw [List.map_map]
      conv => rhs; rw [← List.map_id l]
      exact List.map_congr_left fun p hp => to_of (hl p hp)
    rw [h2] at h1; exact h1
  · rw [List.pairwise_map]
    refine (List.pairwise_mergeSort (fun a b c h1 h2 => ?_) (fun a b => ?_) (l.map ofP)).imp fun {a b} h => ?_
    · simp only [ltF] at *; simp only [Bool.not_eq_true', decide_eq_false_iff_not] at *; omega
    · simp only [ltF]; simp only [Bool.or_eq_true, Bool.not_eq_true', decide_eq_false_iff_not]; omega
    · simp only [ltF, Bool.not_eq_true', decide_eq_false_iff_not] at h
      unfold ltX
      by_cases e : toP a = toP b
      · exact .inl e
      · refine .inr ?_
        by_cases h1 : (toP a).1 = (toP b).1
        · by_cases h2 : (toP a).2 = (toP b).2
          · exact absurd (Prod.ext h1 h2) e
          · omega
        · omega
def allP (n : Nat) : List (Int × Int) := (List.range n).flatMap fun a : Nat => (List.range n).map fun b : Nat => ((Int.ofNat a, Int.ofNat b) : Int × Int)
theorem mem_allP {n : Nat} {k : Int × Int} : k ∈ allP n ↔ (0 ≤ k.1 ∧ k.1 < n) ∧ 0 ≤ k.2 ∧ k.2 < n := by
  unfold allP
  simp only [List.mem_flatMap, List.mem_range, List.mem_map]
  constructor
  · rintro ⟨a, ha, b, hb, rfl⟩; simp; omega
  · rintro ⟨⟨h1, h2⟩, h3, h4⟩
    exact ⟨k.1.toNat, by omega, k.2.toNat, by omega, Prod.ext (by simp; omega) (by simp; omega)⟩
theorem allP_len (n : Nat) : (allP n).length = n * n := by
  unfold allP
  rw [List.length_flatMap]
  simp [List.map_const']
theorem allP_sorted (n : Nat) : (allP n).Pairwise (fun x y => x.1 < y.1 ∨ x.1 = y.1 ∧ x.2 < y.2) := by
  unfold allP
  rw [List.pairwise_flatMap]
  refine ⟨fun a _ => ?_, ?_⟩
  · rw [List.pairwise_map]
    exact List.pairwise_lt_range.imp fun {x y} h => .inr ⟨rfl, by simpa using h⟩
  · refine List.pairwise_lt_range.imp fun {x y} h => ?_
    intro p hp q hq
    simp only [List.mem_map] at hp hq
    obtain ⟨_, _, rfl⟩ := hp
    obtain ⟨_, _, rfl⟩ := hq
    exact .inl (by simpa using h)
theorem nodup_of_lt {l : List (Int × Int)} (h : l.Pairwise (fun x y => x.1 < y.1 ∨ x.1 = y.1 ∧ x.2 < y.2)) : l.Nodup :=
  h.imp fun {x y} h e => by subst e; omega


/-- The pair of an arc. -/
def prOf (a : Arc) : Pr := (min a.src a.dst, max a.src a.dst)
/-- All pairs of a graph, in order. -/
def prs (n : Nat) (l : List Arc) : List Pr := (allP n).filter fun p => l.any fun a => decide (a.src ≠ a.dst) && decide (prOf a = p)
def prRaw (l : List Arc) : List Pr := (l.filter fun a => decide (a.src ≠ a.dst)).map prOf
theorem prs_sorted (n : Nat) (l : List Arc) : (prs n l).Pairwise ltX := (allP_sorted n).filter _
theorem mem_prRaw {l : List Arc} {p : Pr} : p ∈ prRaw l ↔ ∃ a ∈ l, a.src ≠ a.dst ∧ prOf a = p := by
  unfold prRaw
  simp only [List.mem_map, List.mem_filter, decide_eq_true_eq]
  constructor
  · rintro ⟨a, ⟨h1, h2⟩, h3⟩; exact ⟨a, h1, h2, h3⟩
  · rintro ⟨a, h1, h2, h3⟩; exact ⟨a, ⟨h1, h2⟩, h3⟩
theorem mem_prs {n : Nat} {l : List Arc} (hg : ∀ a ∈ l, (0 ≤ a.src ∧ a.src < n) ∧ 0 ≤ a.dst ∧ a.dst < n) {p : Pr} : p ∈ prs n l ↔ p ∈ prRaw l := by
  unfold prs
  rw [List.mem_filter, mem_allP, mem_prRaw]
  simp only [List.any_eq_true, Bool.and_eq_true, decide_eq_true_eq]
  constructor
  · rintro ⟨_, h⟩; exact h
  · rintro ⟨a, h1, h2, rfl⟩
    have := hg a h1
    unfold prOf
    exact ⟨by simp only; omega, a, h1, h2, rfl⟩
theorem nodup_X {l : List Pr} (h : l.Pairwise ltX) : l.Nodup := h.imp fun {x y} h e => by subst e; unfold ltX at h; omega
theorem prs_is {n : Nat} {l : List Arc} (hg : ∀ a ∈ l, (0 ≤ a.src ∧ a.src < n) ∧ 0 ≤ a.dst ∧ a.dst < n) {l2 : List Pr} (hp : l2.Perm (prRaw l)) (hs : l2.Pairwise (fun x y => x = y ∨ ltX x y)) : cpt l2 = prs n l := by
  have h1 : (cpt l2).Pairwise ltX := cpt_rising (R := ltX) (fun a b c h1 h2 => by unfold ltX at *; omega) (fun a b h e => by subst e; unfold ltX at h; omega) hs
  refine List.Perm.eq_of_pairwise (le := ltX) (fun a b _ _ h1 h2 => by unfold ltX at *; exact absurd h1 (by omega)) h1 (prs_sorted n l) ?_
  refine (List.perm_ext_iff_of_nodup (nodup_X h1) (nodup_X (prs_sorted n l))).2 fun p => ?_
  rw [cpt_mem, mem_prs hg]
  exact hp.mem_iff
end Go.Proofs.Ytkmkakpadgljeaa
