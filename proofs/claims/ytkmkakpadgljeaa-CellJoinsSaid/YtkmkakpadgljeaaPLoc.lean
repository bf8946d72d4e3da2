/- Moves of a vertex to another label. -/
import Derived.Test.YtkmkakpadgljeaaPLab
import Derived.Test.YtkmkakpadgljeaaPNbr3
import Derived.Test.YtkmkakpadgljeaaFlyMap

namespace Go.Proofs.Ytkmkakpadgljeaa
open Go Fly
set_option linter.unusedVariables false
set_option linter.unusedSimpArgs false
set_option linter.unusedSectionVars false

theorem Sub.of_perm {m : Seg} {out : List Seg} (h : m.Perm out.flatten) : Fly.Sub [m] out := ⟨[], by simpa using h⟩
theorem Sub.flat {segs out : List Seg} (h : Fly.Sub segs out) : Fly.Sub segs [out.flatten] := by
  obtain ⟨rest, h⟩ := h; exact ⟨rest, by simpa using h⟩
theorem Sub.shut {m : Seg} {tl out : List Seg} (h : m.Perm out.flatten) : Fly.Sub (out ++ tl) (m :: tl) := ⟨[], by simp only [List.flatten_cons, List.flatten_append, List.append_nil]; exact h.symm.append_right _⟩
theorem Sub.opened {m : Seg} {tl out : List Seg} (h : m.Perm out.flatten) : Fly.Sub (m :: tl) (out ++ tl) := ⟨[], by simp only [List.flatten_cons, List.flatten_append, List.append_nil]; exact h.append_right _⟩
/-- A vertex's label. -/
def lab (L : List Int) (u : Int) : Int := L.getD u.toNat 0
theorem lab_at {L : List Int} {u : Int} (h : u.toNat < L.length) : lab L u = L[u.toNat] := by simp [lab, h]
/-- How many of some vertices bear a label. -/
def ncnt (L R : List Int) (j : Int) : Nat := (R.filter fun u => decide (lab L u = j)).length
theorem ncnt_next {L R : List Int} {k : Nat} (hk : k < R.length) (j : Int) : ncnt L (R.take (k + 1)) j = ncnt L (R.take k) j + (if lab L R[k] = j then 1 else 0) := by
  unfold ncnt; rw [filt_len_next hk]; simp
theorem ncnt_le (L R : List Int) (j : Int) : ncnt L R j ≤ R.length := List.length_filter_le _ _
/-- What a map of counts holds. -/
def Cnts (L R : List Int) (ents : List (Int × Value × Nat)) : Prop := ∀ j : Int, (mget ents j).getD (.int .i64 0) = .int .i64 (ncnt L R j : Int)
theorem Cnts.nil (L : List Int) : Cnts L [] [] := fun j => rfl
theorem Cnts.next {L R : List Int} {ents : List (Int × Value × Nat)} {k c : Nat} (h : Cnts L (R.take k) ents) (hk : k < R.length) : Cnts L (R.take (k + 1)) (mput ents (lab L R[k]) (.int .i64 ((ncnt L (R.take k) (lab L R[k]) : Int) + 1)) c) := fun j => by
  rw [mget_put, ncnt_next hk]
  by_cases e : j = lab L R[k]
  · subst e; rw [if_pos rfl, if_pos rfl]; rfl
  · rw [if_neg e, if_neg (fun h => e h.symm)]; exact h j
/-- What a move gains. -/
def gn (L R : List Int) (own j : Int) : Int := (ncnt L R j : Int) - ncnt L R own
abbrev Mv := Int × Int × Int
def mvUp (L S R : List Int) (bd : Int) (v : Nat) (b : Mv) (j : Nat) : Mv :=
  if (j : Int) ≠ lab L v ∧ 0 < ncnt L R j ∧ S.getD j 0 < bd ∧ b.2.2 < gn L R (lab L v) j then ((v : Int), (j : Int), gn L R (lab L v) j) else b
def mvRow (L S R : List Int) (bd : Int) (v j : Nat) (b : Mv) : Mv := (List.range j).foldl (mvUp L S R bd v) b
theorem mvRow_zero (L S R : List Int) (bd : Int) (v : Nat) (b : Mv) : mvRow L S R bd v 0 b = b := rfl
theorem mvRow_next (L S R : List Int) (bd : Int) (v j : Nat) (b : Mv) : mvRow L S R bd v (j + 1) b = mvUp L S R bd v (mvRow L S R bd v j b) j := by
  unfold mvRow; rw [List.range_succ, List.foldl_append]; rfl
/-- The first move of all that gain most, over the first k vertices. -/
def mvTo (L S : List Int) (rows : Nat → List Int) (bd : Int) (k : Nat) : Mv := (List.range k).foldl (fun b v => mvRow L S (rows v) bd v S.length b) (0, 0, 0)
theorem mvTo_next (L S : List Int) (rows : Nat → List Int) (bd : Int) (k : Nat) : mvTo L S rows bd (k + 1) = mvRow L S (rows k) bd k S.length (mvTo L S rows bd k) := by
  unfold mvTo; rw [List.range_succ, List.foldl_append]; rfl
def mvCs (m : Mv) : List Value := [.int .i64 m.1, .int .i64 m.2.1, .int .i64 m.2.2]

/-- Labels in the order in which they come. -/
def sns (L : List Int) : List Int := L.foldl (fun s l => if l ∈ s then s else s ++ [l]) []
theorem sns_next {L : List Int} {k : Nat} (hk : k < L.length) : sns (L.take (k + 1)) = if L[k] ∈ sns (L.take k) then sns (L.take k) else sns (L.take k) ++ [L[k]] := by
  unfold sns; rw [List.take_succ_eq_append_getElem hk, List.foldl_append]; rfl
theorem sns_pre (b : List Int) : ∀ (s : List Int), ∃ r, b.foldl (fun s l => if l ∈ s then s else s ++ [l]) s = s ++ r := by
  induction b with
  | nil => intro s; exact ⟨[], by simp⟩
  | cons x b ih =>
    intro s
    simp only [List.foldl_cons]
    by_cases h : x ∈ s
    · rw [if_pos h]; exact ih s
    · rw [if_neg h]
      obtain ⟨r, hr⟩ := ih (s ++ [x])
      exact ⟨x :: r, by rw [hr]; simp⟩
theorem sns_take (L : List Int) (k : Nat) : ∃ r, sns L = sns (L.take k) ++ r := by
  obtain ⟨r, hr⟩ := sns_pre (L.drop k) (sns (L.take k))
  refine ⟨r, ?_⟩
  rw [← hr]
  unfold sns
  rw [← List.foldl_append, List.take_append_drop]
theorem sns_mem {L : List Int} : ∀ {k : Nat}, k ≤ L.length → ∀ x ∈ L.take k, x ∈ sns (L.take k)
  | 0, _, x, hx => by simp at hx
  | k + 1, h, x, hx => by
    have hk : k < L.length := by omega
    rw [List.take_succ_eq_append_getElem hk] at hx
    rw [sns_next hk]
    rcases List.mem_append.1 hx with hx | hx
    · have := sns_mem (k := k) (by omega) x hx
      split
      · exact this
      · exact List.mem_append_left _ this
    · simp only [List.mem_singleton] at hx
      subst hx
      split
      · assumption
      · simp
theorem sns_len {L : List Int} : ∀ {k : Nat}, k ≤ L.length → (sns (L.take k)).length ≤ k
  | 0, _ => by simp [sns]
  | k + 1, h => by
    have := sns_len (L := L) (k := k) (by omega)
    rw [sns_next (by omega)]
    split
    · omega
    · simp; omega
/-- Labels made tidy. -/
def tdy (L : List Int) : List Int := L.map fun l => (((sns L).idxOf l : Nat) : Int)
theorem tdy_len (L : List Int) : (tdy L).length = L.length := by simp [tdy]
/-- Labels of which the first k are tidy. -/
def tdyTo (L : List Int) (k : Nat) : List Int := (tdy L).take k ++ L.drop k
theorem tdyTo_len {L : List Int} {k : Nat} : (tdyTo L k).length = L.length := by unfold tdyTo; rw [List.length_append, List.length_take, List.length_drop, tdy_len]; omega
theorem tdyTo_zero (L : List Int) : tdyTo L 0 = L := by simp [tdyTo]
theorem tdyTo_all (L : List Int) : tdyTo L L.length = tdy L := by
  unfold tdyTo; rw [List.drop_length, List.append_nil, ← tdy_len L, List.take_length]
theorem tdyTo_get {L : List Int} {k : Nat} (hk : k < L.length) : (tdyTo L k)[k]'(by rw [tdyTo_len]; exact hk) = L[k] := by
  unfold tdyTo
  rw [List.getElem_append_right (by rw [List.length_take, tdy_len]; omega)]
  simp [List.length_take, tdy_len, Nat.min_eq_left (Nat.le_of_lt hk)]
theorem tdyTo_next {L : List Int} {k : Nat} (hk : k < L.length) {j : Nat} (hj : j = (sns (L.take (k + 1))).idxOf L[k]) : tdyTo L (k + 1) = (tdyTo L k).set k (j : Int) := by
  have hm : L[k] ∈ sns (L.take (k + 1)) := sns_mem (by omega) _ (by rw [List.take_succ_eq_append_getElem hk]; exact List.mem_append_right _ (List.mem_singleton.2 rfl))
  obtain ⟨r, hr⟩ := sns_take L (k + 1)
  have hi : (sns L).idxOf L[k] = j := by rw [hr, List.idxOf_append, if_pos hm, hj]
  unfold tdyTo
  have hkt : k < (tdy L).length := by rw [tdy_len]; exact hk
  rw [List.take_succ_eq_append_getElem hkt]
  have e : (tdy L)[k] = (j : Int) := by simp [tdy, hi]
  rw [e]
  rw [List.set_append_right _ _ (by rw [List.length_take]; omega)]
  simp only [List.length_take, Nat.min_eq_left (Nat.le_of_lt hkt), Nat.sub_self, List.append_assoc, List.singleton_append]
  rw [show L.drop k = L[k] :: L.drop (k + 1) from (List.getElem_cons_drop hk).symm]; rfl
theorem tdy_rng {L : List Int} : ∀ x ∈ tdy L, 0 ≤ x ∧ x < ((sns L).length : Int) := fun x hx => by
  obtain ⟨l, hl, rfl⟩ := List.mem_map.1 hx
  have : l ∈ sns L := by have := sns_mem (L := L) (k := L.length) (Nat.le_refl _) l (by simpa using hl); simpa using this
  have := List.idxOf_lt_length_of_mem this
  omega
/-- What the map of labels holds. -/
def Nums (s : List Int) (ents : List (Int × Value × Nat)) : Prop := ents.length = s.length ∧ ∀ j : Int, mget ents j = if j ∈ s then some (.int .i64 ((s.idxOf j : Nat) : Int)) else none
theorem Nums.nil : Nums [] [] := ⟨rfl, fun j => rfl⟩
theorem mput_len_new {ents : List (Int × Value × Nat)} {x : Int} (h : mget ents x = none) (v : Value) (c : Nat) : (mput ents x v c).length = ents.length + 1 := by
  induction ents with
  | nil => rfl
  | cons e r ih =>
    simp only [mget] at h
    by_cases hx : x = e.1
    · rw [if_pos hx] at h; cases h
    · rw [if_neg hx] at h
      simp only [mput, if_neg hx, List.length_cons, ih h]
theorem Nums.add {s : List Int} {ents : List (Int × Value × Nat)} (h : Nums s ents) {x : Int} (hx : x ∉ s) (c : Nat) : Nums (s ++ [x]) (mput ents x (.int .i64 (s.length : Int)) c) := by
  refine ⟨?_, fun j => ?_⟩
  · rw [mput_len_new (by rw [h.2, if_neg hx])]; simp [h.1]
  · rw [mget_put]
    by_cases e : j = x
    · subst e
      rw [if_pos rfl, if_pos (by simp), List.idxOf_append, if_neg hx]
      simp
    · rw [if_neg e, h.2]
      by_cases hj : j ∈ s
      · rw [if_pos hj, if_pos (by simp [hj]), List.idxOf_append, if_pos hj]
      · rw [if_neg hj, if_neg (by simp [hj, e])]
end Go.Proofs.Ytkmkakpadgljeaa
