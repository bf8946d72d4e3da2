/- The order around a centre: nearest first. -/
import Derived.Test.YtkmkakpadgljeaaPNbr3

namespace Go.Proofs.Ytkmkakpadgljeaa
open Go Fly
set_option linter.unusedVariables false
set_option linter.unusedSimpArgs false
set_option linter.unusedSectionVars false

abbrev BSt := List Int × List Bool
def bpush1 (s : BSt) (u : Int) : BSt := if s.2.getD u.toNat false = true then s else (s.1 ++ [u], s.2.set u.toNat true)
def bpush (row : List Int) (s : BSt) : BSt := row.foldl bpush1 s
def bstep (rows : Nat → List Int) (k : Nat) (s : BSt) : BSt :=
  match s.1[k]? with
  | some v => bpush (rows v.toNat) s
  | none => s
/-- k vertices have been gone through. -/
def bgo (rows : Nat → List Int) (s : BSt) : Nat → BSt
  | 0 => s
  | k + 1 => bstep rows k (bgo rows s k)
def bstart (c : Nat) (b : List Bool) : BSt := ([(c : Int)], b.set c true)
def bfs (n : Nat) (rows : Nat → List Int) (c : Nat) (b : List Bool) : BSt := bgo rows (bstart c b) n

theorem bpush_next {row : List Int} {j : Nat} (hj : j < row.length) (s : BSt) : bpush (row.take (j + 1)) s = bpush1 (bpush (row.take j) s) row[j] := by
  unfold bpush; rw [List.take_succ_eq_append_getElem hj, List.foldl_append]; rfl
theorem bpush1_ext (s : BSt) (u : Int) : ∃ r, (bpush1 s u).1 = s.1 ++ r := by
  unfold bpush1
  split
  · exact ⟨[], by simp⟩
  · exact ⟨[u], rfl⟩
theorem bpush_ext (row : List Int) : ∀ s : BSt, ∃ r, (bpush row s).1 = s.1 ++ r := by
  induction row with
  | nil => intro s; exact ⟨[], by simp [bpush]⟩
  | cons u row ih =>
    intro s
    obtain ⟨r1, h1⟩ := bpush1_ext s u
    obtain ⟨r2, h2⟩ := ih (bpush1 s u)
    refine ⟨r1 ++ r2, ?_⟩
    show (bpush row (bpush1 s u)).1 = _
    rw [h2, h1, List.append_assoc]
theorem bstep_at {rows : Nat → List Int} {k : Nat} {s : BSt} (h : k < s.1.length) : bstep rows k s = bpush (rows s.1[k].toNat) s := by
  unfold bstep; rw [List.getElem?_eq_getElem h]
theorem bstep_no {rows : Nat → List Int} {k : Nat} {s : BSt} (h : s.1.length ≤ k) : bstep rows k s = s := by
  unfold bstep; rw [List.getElem?_eq_none h]
theorem bstep_ext (rows : Nat → List Int) (k : Nat) (s : BSt) : ∃ r, (bstep rows k s).1 = s.1 ++ r := by
  rcases Nat.lt_or_ge k s.1.length with h | h
  · rw [bstep_at h]; exact bpush_ext _ _
  · rw [bstep_no h]; exact ⟨[], by simp⟩
theorem bgo_ext (rows : Nat → List Int) (s : BSt) (k : Nat) : ∀ d, ∃ r, (bgo rows s (k + d)).1 = (bgo rows s k).1 ++ r
  | 0 => ⟨[], by simp⟩
  | d + 1 => by
    obtain ⟨r1, h1⟩ := bgo_ext rows s k d
    obtain ⟨r2, h2⟩ := bstep_ext rows (k + d) (bgo rows s (k + d))
    refine ⟨r1 ++ r2, ?_⟩
    show (bstep rows (k + d) (bgo rows s (k + d))).1 = _
    rw [h2, h1, List.append_assoc]
theorem bgo_stop {rows : Nat → List Int} {s : BSt} {k : Nat} (h : (bgo rows s k).1.length ≤ k) : ∀ d, bgo rows s (k + d) = bgo rows s k
  | 0 => rfl
  | d + 1 => by
    have ih := bgo_stop h d
    show bstep rows (k + d) (bgo rows s (k + d)) = _
    rw [ih, bstep_no (by omega)]

structure BInv (n : Nat) (s : BSt) : Prop where
  len : s.2.length = n
  rng : ∀ x ∈ s.1, 0 ≤ x ∧ x < (n : Int)
  nd : s.1.Nodup
  tr : ∀ x ∈ s.1, s.2.getD x.toNat false = true
theorem ints_card {n : Nat} {l : List Int} (hr : ∀ x ∈ l, 0 ≤ x ∧ x < (n : Int)) (hn : l.Nodup) : l.length ≤ n := by
  have h := List.Nodup.length_le_of_subset hn (l₂ := (List.range n).map Int.ofNat) fun x hx => by
    have := hr x hx
    exact List.mem_map.2 ⟨x.toNat, List.mem_range.2 (by omega), by show ((x.toNat : Nat) : Int) = x; omega⟩
  simpa using h
theorem BInv.out {n : Nat} {s : BSt} (h : BInv n s) : s.1.length ≤ n := ints_card h.rng h.nd
theorem getD_set (l : List Bool) (i j : Nat) (b : Bool) : (l.set i b).getD j false = if i = j ∧ i < l.length then b else l.getD j false := by
  simp only [List.getD_eq_getElem?_getD, List.getElem?_set]
  by_cases h : i = j
  · subst h
    by_cases h' : i < l.length
    · simp [h']
    · simp [h']
  · simp [h]
theorem BInv.start {n c : Nat} {b : List Bool} (hb : b.length = n) (hc : c < n) : BInv n (bstart c b) := by
  refine ⟨by simp [bstart, hb], fun x hx => ?_, by simp [bstart], fun x hx => ?_⟩
  · simp only [bstart, List.mem_singleton] at hx; omega
  · simp only [bstart, List.mem_singleton] at hx
    subst hx
    show (b.set c true).getD _ false = true
    rw [getD_set, if_pos ⟨by omega, by omega⟩]
theorem BInv.push1 {n : Nat} {s : BSt} (h : BInv n s) {u : Int} (hu : 0 ≤ u ∧ u < (n : Int)) : BInv n (bpush1 s u) := by
  unfold bpush1
  split
  · exact h
  · rename_i hn
    refine ⟨by simp [h.len], fun x hx => ?_, ?_, fun x hx => ?_⟩
    · rcases List.mem_append.1 hx with hx | hx
      · exact h.rng x hx
      · simp only [List.mem_singleton] at hx; omega
    · rw [List.nodup_append]
      refine ⟨h.nd, by simp, fun a ha b hb e => ?_⟩
      simp only [List.mem_singleton] at hb
      subst hb; subst e
      exact hn (h.tr _ ha)
    · show (s.2.set u.toNat true).getD _ false = true
      rw [getD_set]
      split
      · rfl
      · rename_i hne
        rcases List.mem_append.1 hx with hx | hx
        · exact h.tr x hx
        · simp only [List.mem_singleton] at hx; subst hx
          exact absurd ⟨rfl, by rw [h.len]; omega⟩ hne
theorem BInv.push {n : Nat} {row : List Int} (hr : ∀ u ∈ row, 0 ≤ u ∧ u < (n : Int)) : ∀ {s : BSt}, BInv n s → BInv n (bpush row s) := by
  induction row with
  | nil => exact fun h => h
  | cons u row ih => exact fun h => ih (fun x hx => hr x (List.mem_cons_of_mem _ hx)) (h.push1 (hr u (List.mem_cons_self ..)))
theorem BInv.step {n : Nat} {rows : Nat → List Int} (hr : ∀ v, v < n → ∀ u ∈ rows v, 0 ≤ u ∧ u < (n : Int)) {k : Nat} {s : BSt} (h : BInv n s) : BInv n (bstep rows k s) := by
  rcases Nat.lt_or_ge k s.1.length with hk | hk
  · rw [bstep_at hk]
    exact h.push (hr _ (by have := h.rng _ (List.getElem_mem hk); omega))
  · rw [bstep_no hk]; exact h
theorem BInv.go {n : Nat} {rows : Nat → List Int} (hr : ∀ v, v < n → ∀ u ∈ rows v, 0 ≤ u ∧ u < (n : Int)) {s : BSt} (h : BInv n s) : ∀ k, BInv n (bgo rows s k)
  | 0 => h
  | k + 1 => (BInv.go hr h k).step hr
/-- What has been gone through is the beginning of the whole. -/
theorem bgo_pre {n : Nat} {rows : Nat → List Int} {s : BSt} {k : Nat} (hk : k ≤ n) : ∃ r, (bgo rows s n).1 = (bgo rows s k).1 ++ r := by
  have := bgo_ext rows s k (n - k)
  rwa [show k + (n - k) = n by omega] at this
theorem bgo_fin {n : Nat} {rows : Nat → List Int} {s : BSt} {k : Nat} (hk : k ≤ n) (h : (bgo rows s k).1.length ≤ k) : bgo rows s n = bgo rows s k := by
  have := bgo_stop h (n - k)
  rwa [show k + (n - k) = n by omega] at this
theorem bgo_get {n : Nat} {rows : Nat → List Int} {s : BSt} {k : Nat} (hk : k ≤ n) (h : k < (bgo rows s k).1.length) : ∃ h' : k < (bgo rows s n).1.length, (bgo rows s n).1[k] = (bgo rows s k).1[k] := by
  obtain ⟨r, hr⟩ := bgo_pre (rows := rows) (s := s) hk
  refine ⟨by rw [hr, List.length_append]; omega, ?_⟩
  simp only [hr]
  exact List.getElem_append_left h
end Go.Proofs.Ytkmkakpadgljeaa
