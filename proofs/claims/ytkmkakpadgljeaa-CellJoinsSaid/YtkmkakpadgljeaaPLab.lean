/- Labels: which are right, how many there are of each, pairs between them. -/
import Derived.Test.YtkmkakpadgljeaaPPair

namespace Go.Proofs.Ytkmkakpadgljeaa
open Go Fly
set_option linter.unusedVariables false
set_option linter.unusedSimpArgs false
set_option linter.unusedSectionVars false

/-- The labels behind n that have come. -/
def rgo : Int → List Int → Bool
  | _, [] => true
  | n, l :: r => if l < 0 ∨ n < l then false else rgo (if l = n then n + 1 else n) r
def rightB (N : Int) (L : List Int) : Bool := rgo 0 L && decide ((L.length : Int) = N)
theorem rgo_drop {L : List Int} {k : Nat} (hk : k < L.length) (n : Int) : rgo n (L.drop k) = if L[k] < 0 ∨ n < L[k] then false else rgo (if L[k] = n then n + 1 else n) (L.drop (k + 1)) := by
  rw [← List.getElem_cons_drop hk]; rfl
theorem rgo_end {L : List Int} {k : Nat} (hk : L.length ≤ k) (n : Int) : rgo n (L.drop k) = true := by
  rw [List.drop_eq_nil_of_le hk]; rfl
theorem rgo_pos : ∀ {L : List Int} {n : Int}, rgo n L = true → ∀ x ∈ L, 0 ≤ x
  | [], _, _, x, hx => by cases hx
  | l :: r, n, h, x, hx => by
    unfold rgo at h
    split at h
    · cases h
    · rcases List.mem_cons.1 hx with rfl | hx
      · omega
      · exact rgo_pos h x hx
theorem rgo_lt : ∀ {L : List Int} {n : Int}, rgo n L = true → ∀ x ∈ L, x < n + L.length
  | [], _, _, x, hx => by cases hx
  | l :: r, n, h, x, hx => by
    unfold rgo at h
    split at h
    · cases h
    · rcases List.mem_cons.1 hx with rfl | hx
      · simp only [List.length_cons]; omega
      · have := rgo_lt h x hx
        simp only [List.length_cons]
        split at this <;> omega

/-- Whether a pair is between two labels. -/
def apart (L : List Int) (p : Pr) : Bool := decide (L.getD p.1.toNat 0 ≠ L.getD p.2.toNat 0)
/-- How many pairs are between labels. -/
def cutN (n : Nat) (l : List Arc) (L : List Int) : Nat := ((prs n l).filter (apart L)).length
def lcount (N : Int) (l : List Arc) (L : List Int) : Int × Int :=
  if (gcheck N l).2 ≠ 0 then (0, (gcheck N l).2) else if rightB N L = false then (0, 80) else ((cutN N.toNat l L : Int), 0)
theorem prs_rng {n : Nat} {l : List Arc} {p : Pr} (h : p ∈ prs n l) : (0 ≤ p.1 ∧ p.1 < n) ∧ 0 ≤ p.2 ∧ p.2 < n := mem_allP.1 (List.mem_filter.1 h).1
theorem prs_len {n : Nat} (hn : n ≤ 1024) (l : List Arc) : (prs n l).length ≤ 1048576 := by
  unfold prs
  refine Nat.le_trans (List.length_filter_le _ _) ?_
  rw [allP_len]
  exact Nat.le_trans (Nat.mul_le_mul hn hn) (by decide)
theorem filt_len_next {α : Type} {q : α → Bool} {l : List α} {i : Nat} (hi : i < l.length) : ((l.take (i + 1)).filter q).length = ((l.take i).filter q).length + (if q l[i] then 1 else 0) := by
  rw [List.take_succ_eq_append_getElem hi, List.filter_append, List.length_append]
  congr 1
  by_cases h : q l[i] <;> simp [h]

/-- The greatest of some numbers. -/
def maxL (L : List Int) : Int := L.foldl max (L.headD 0)
theorem max_next {L : List Int} {k : Nat} (hk : k < L.length) : (L.take (k + 1)).foldl max (L.headD 0) = max ((L.take k).foldl max (L.headD 0)) L[k] := by
  rw [List.take_succ_eq_append_getElem hk, List.foldl_append]; rfl
theorem max_one {L : List Int} (h : 0 < L.length) : (L.take 1).foldl max (L.headD 0) = L[0] := by
  cases L with
  | nil => simp at h
  | cons x r => simp
theorem foldl_max_ge : ∀ (L : List Int) (a : Int), a ≤ L.foldl max a ∧ ∀ x ∈ L, x ≤ L.foldl max a
  | [], a => ⟨Int.le_refl _, fun x hx => by cases hx⟩
  | y :: L, a => by
    obtain ⟨h1, h2⟩ := foldl_max_ge L (max a y)
    simp only [List.foldl_cons]
    refine ⟨by omega, fun x hx => ?_⟩
    rcases List.mem_cons.1 hx with rfl | hx
    · omega
    · exact h2 x hx
theorem foldl_max_le : ∀ (L : List Int) (a b : Int), a ≤ b → (∀ x ∈ L, x ≤ b) → L.foldl max a ≤ b
  | [], a, b, h, _ => h
  | y :: L, a, b, h, hx => foldl_max_le L (max a y) b (by have := hx y (by simp); omega) fun x hm => hx x (by simp [hm])
theorem le_maxL {L : List Int} {x : Int} (h : x ∈ L) : x ≤ maxL L := (foldl_max_ge L _).2 x h
theorem maxL_le {L : List Int} {b : Int} (h0 : 0 < L.length) (h : ∀ x ∈ L, x ≤ b) : maxL L ≤ b := by
  refine foldl_max_le L _ b ?_ h
  cases L with
  | nil => simp at h0
  | cons x r => exact h x (by simp)

/-- How many there are of a label. -/
def cnt (L : List Int) (j : Nat) : Nat := (L.filter fun x => decide (x = Int.ofNat j)).length
def szs (M : Nat) (L : List Int) : List Int := (List.range M).map fun j => (cnt L j : Int)
theorem szs_len (M : Nat) (L : List Int) : (szs M L).length = M := by simp [szs]
theorem szs_get {M : Nat} {L : List Int} {j : Nat} (h : j < M) : (szs M L)[j]'(by rw [szs_len]; exact h) = (cnt L j : Int) := by simp [szs]
theorem szs_nil (M : Nat) : szs M [] = List.replicate M 0 := by
  apply List.ext_getElem (by simp [szs])
  intro i h1 h2
  rw [szs_get (by simpa [szs] using h1)]; simp [cnt]
theorem cnt_next {L : List Int} {k : Nat} (hk : k < L.length) (j : Nat) : cnt (L.take (k + 1)) j = cnt (L.take k) j + (if L[k] = Int.ofNat j then 1 else 0) := by
  unfold cnt; rw [filt_len_next hk]; simp
theorem szs_next {M : Nat} {L : List Int} {k v : Nat} (hk : k < L.length) (hv : L[k] = (v : Int)) (hM : v < M) : szs M (L.take (k + 1)) = (szs M (L.take k)).set v ((cnt (L.take k) v : Int) + 1) := by
  apply List.ext_getElem (by simp [szs])
  intro i h1 h2
  have hi : i < M := by simpa [szs] using h1
  rw [szs_get hi, List.getElem_set]
  rw [cnt_next hk, hv]
  by_cases e : v = i
  · subst e; simp
  · have e' : ¬ ((v : Int) = Int.ofNat i) := by show ¬ ((v : Int) = (i : Int)); omega
    simp only [if_neg e, if_neg e', szs_get hi, Nat.add_zero]
theorem cnt_le (L : List Int) (j : Nat) : cnt L j ≤ L.length := List.length_filter_le _ _
/-- The sizes of labels. -/
def sizesL (L : List Int) : List Int := szs (maxL L + 1).toNat L
end Go.Proofs.Ytkmkakpadgljeaa
