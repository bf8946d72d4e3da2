/- Nests: which are right. Plain laws. -/
import Derived.Test.YtkmkakpadgljeaaFTidy9
import Derived.Test.YtkmkakpadgljeaaPBest

namespace Go.Proofs.Ytkmkakpadgljeaa
open Go Fly
set_option linter.unusedVariables false
set_option linter.unusedSimpArgs false
set_option linter.unusedSectionVars false

theorem lc_zeroN {N : Int} {l : List Arc} {L : List Int} (hg : (gcheck N l).2 = 0) (hR : rightB N L = true) : (lcount N l L).2 = 0 := by
  unfold lcount
  rw [if_neg (by rw [hg]; simp), if_neg (by rw [hR]; simp)]
theorem spE_oneN {N : Int} {l : List Arc} {L : List Int} {bd : Int} (hg : (gcheck N l).2 = 0) (hR : rightB N L = true) (hb : 1 ≤ bd ∧ bd ≤ 1024) : spE N l L bd = 0 := by
  unfold spE
  rw [if_neg (by rw [lc_zeroN hg hR]; simp), if_neg (by omega)]
/-- Of right labels each one is borne. -/
theorem right_cntN {n : Nat} {L : List Int} (hR : rightB (n : Int) L = true) (hn : 1 ≤ n) {j : Nat} (hj : j < (maxL L + 1).toNat) : 1 ≤ cnt L j := by
  have hl := (right_parts hR).2
  have e : L = tdy L := right_unique hR (right_tdy hl) fun u v hu hv => (tdy_labN (by omega) (by omega)).symm
  have hm := max_tdy (L := L) (by omega)
  rw [← e] at hm
  have hjs : j < (sns L).length := by omega
  rw [e, cnt_tdy hjs]
  have hmem : (sns L)[j] ∈ L := by
    have := sns_sub (L := L) (k := L.length) (Nat.le_refl _) (sns L)[j] (by rw [List.take_length]; exact List.getElem_mem _)
    exact this
  have := cntI_pos hmem
  unfold cntI at this
  omega
theorem max_cntN {L : List Int} (h0 : 0 < (sizesL L).length) {bd : Int} (h : ∀ y, (cntI L y : Int) ≤ bd) : maxL (sizesL L) ≤ bd := maxL_le h0 fun x hx => by
  unfold sizesL szs at hx
  obtain ⟨j, _, rfl⟩ := List.mem_map.1 hx
  exact h j
theorem lc_right {N : Int} {l : List Arc} {L : List Int} (hg : (gcheck N l).2 = 0) (h : (lcount N l L).2 = 0) : rightB N L = true := by
  unfold lcount at h
  rw [if_neg (by rw [hg]; simp)] at h
  by_cases hR : rightB N L = false
  · rw [if_pos hR] at h; cases h
  · simpa using hR

/-- What is wrong with a level of cells, by itself. -/
def firstE (N : Int) (l : List Arc) (c : List Int) (b : Int) : Int := if (lcount N l c).2 ≠ 0 then (lcount N l c).2 else if b < maxL (sizesL c) then 90 else 0
/-- Who is together below is together above. -/
def withinP (b a : List Int) : Prop := ∀ u, u < b.length → ∀ v, v < b.length → b.getD u 0 = b.getD v 0 → a.getD u 0 = a.getD v 0
instance (b a : List Int) : Decidable (withinP b a) := by unfold withinP; infer_instance
def blwB (bs : List Int) : Nat → Int
  | 0 => 0
  | k + 1 => bs.getD k 0
/-- What is wrong with a level. -/
def lvE (N : Int) (l : List Arc) (bs : List Int) (L : List (List Int)) (k : Nat) : Int :=
  if bs.getD k 0 ≤ blwB bs k ∨ 1024 < bs.getD k 0 then 1 else if firstE N l (L.getD k []) (bs.getD k 0) ≠ 0 then firstE N l (L.getD k []) (bs.getD k 0) else if 0 < k ∧ ¬ withinP (L.getD (k - 1) []) (L.getD k []) then 110 else 0
def nsE (N : Int) (l : List Arc) (bs : List Int) (L : List (List Int)) : Int × Int :=
  if (gcheck N l).2 ≠ 0 then (0, (gcheck N l).2) else if bs.length < 1 ∨ 5 < bs.length ∨ L.length ≠ bs.length then (0, 111) else
  match (List.range bs.length).find? (fun k => decide (lvE N l bs L k ≠ 0)) with
  | some k => ((k : Int) + 1, lvE N l bs L k)
  | none => (0, 0)
theorem find_first {m k : Nat} {p : Nat → Bool} (hk : k < m) (h : ∀ j, j < k → p j = false) (hp : p k = true) : (List.range m).find? p = some k := by
  rw [List.find?_eq_some_iff_getElem]
  exact ⟨hp, k, by simpa using hk, by simp, fun j hj => by simp [h j hj]⟩
theorem find_none {m : Nat} {p : Nat → Bool} (h : ∀ j, j < m → p j = false) : (List.range m).find? p = none := by
  rw [List.find?_eq_none]
  intro x hx
  simp [h x (by simpa using hx)]
theorem nsE_at {N : Int} {l : List Arc} {bs : List Int} {L : List (List Int)} (hg : (gcheck N l).2 = 0) (hm : ¬ (bs.length < 1 ∨ 5 < bs.length ∨ L.length ≠ bs.length)) {k : Nat} (hk : k < bs.length) (h : ∀ j, j < k → lvE N l bs L j = 0) (hp : lvE N l bs L k ≠ 0) :
    nsE N l bs L = ((k : Int) + 1, lvE N l bs L k) := by
  unfold nsE
  rw [if_neg (by rw [hg]; simp), if_neg hm, find_first hk (fun j hj => by simp [h j hj]) (by simpa using hp)]
theorem nsE_none {N : Int} {l : List Arc} {bs : List Int} {L : List (List Int)} (hg : (gcheck N l).2 = 0) (hm : ¬ (bs.length < 1 ∨ 5 < bs.length ∨ L.length ≠ bs.length)) (h : ∀ j, j < bs.length → lvE N l bs L j = 0) : nsE N l bs L = (0, 0) := by
  unfold nsE
  rw [if_neg (by rw [hg]; simp), if_neg hm, find_none fun j hj => by simp [h j hj]]
/-- A right nest. -/
structure NestOk (n : Nat) (l : List Arc) (bs : List Int) (L : List (List Int)) : Prop where
  g : (gcheck (n : Int) l).2 = 0
  many : 1 ≤ bs.length ∧ bs.length ≤ 5
  len : L.length = bs.length
  lv : ∀ k, k < bs.length → lvE (n : Int) l bs L k = 0
theorem nsE_zero {N : Int} {l : List Arc} {bs : List Int} {L : List (List Int)} (h : (nsE N l bs L).2 = 0) : ∃ n : Nat, N = (n : Int) ∧ NestOk n l bs L := by
  unfold nsE at h
  by_cases hg : (gcheck N l).2 = 0
  · rw [if_neg (by rw [hg]; simp)] at h
    by_cases hm : bs.length < 1 ∨ 5 < bs.length ∨ L.length ≠ bs.length
    · rw [if_pos hm] at h; cases h
    · rw [if_neg hm] at h
      have hz := gcheck_zero hg
      obtain ⟨n, rfl⟩ : ∃ n : Nat, N = (n : Int) := ⟨N.toNat, by omega⟩
      refine ⟨n, rfl, hg, by omega, by omega, fun k hk => ?_⟩
      split at h
      · rename_i j hj
        have := List.find?_some hj
        simp only [decide_eq_true_eq] at this
        exact absurd h this
      · rename_i hn
        rw [List.find?_eq_none] at hn
        have := hn k (by simpa using hk)
        simpa using this
  · rw [if_pos hg] at h; exact absurd h hg
theorem NestOk.zero {n : Nat} {l : List Arc} {bs : List Int} {L : List (List Int)} (h : NestOk n l bs L) : nsE (n : Int) l bs L = (0, 0) := nsE_none h.g (by have := h.many; have := h.len; omega) h.lv
/-- A right level. -/
theorem lvE_zero {n : Nat} {l : List Arc} {bs : List Int} {L : List (List Int)} (hg : (gcheck (n : Int) l).2 = 0) {k : Nat} : lvE (n : Int) l bs L k = 0 ↔
    (blwB bs k < bs.getD k 0 ∧ bs.getD k 0 ≤ 1024) ∧ rightB (n : Int) (L.getD k []) = true ∧ (∀ y, (cntI (L.getD k []) y : Int) ≤ bs.getD k 0) ∧ (0 < k → withinP (L.getD (k - 1) []) (L.getD k [])) := by
  have hn := gcheck_zero hg
  have hF : firstE (n : Int) l (L.getD k []) (bs.getD k 0) = 0 ↔ rightB (n : Int) (L.getD k []) = true ∧ ∀ y, (cntI (L.getD k []) y : Int) ≤ bs.getD k 0 := by
    unfold firstE
    constructor
    · intro h
      by_cases h1 : (lcount (n : Int) l (L.getD k [])).2 = 0
      · have hR := lc_right hg h1
        rw [if_neg (by rw [h1]; simp)] at h
        refine ⟨hR, fun y => ?_⟩
        have hmx : maxL (sizesL (L.getD k [])) ≤ bs.getD k 0 := by
          by_cases h2 : bs.getD k 0 < maxL (sizesL (L.getD k []))
          · rw [if_pos h2] at h; cases h
          · omega
        have hrg := right_range hR (by omega)
        by_cases hy : y ∈ L.getD k []
        · have h3 := hrg y hy
          obtain ⟨j, rfl⟩ : ∃ j : Nat, y = (j : Int) := ⟨y.toNat, by omega⟩
          have h4 : (cnt (L.getD k []) j : Int) ∈ sizesL (L.getD k []) := by
            unfold sizesL szs
            exact List.mem_map.2 ⟨j, by rw [List.mem_range]; omega, rfl⟩
          have := le_maxL h4
          rw [cnt_is] at this; omega
        · rw [cntI_none hy]
          have h0 : 0 < (L.getD k []).length := by have := (right_parts hR).2; omega
          have h5 := hrg _ (List.getElem_mem h0)
          have h6 : (cnt (L.getD k []) 0 : Int) ∈ sizesL (L.getD k []) := by
            unfold sizesL szs
            exact List.mem_map.2 ⟨0, by rw [List.mem_range]; omega, rfl⟩
          have := le_maxL h6
          omega
      · rw [if_pos h1] at h; exact absurd h h1
    · rintro ⟨hR, hs⟩
      have h1 := lc_zeroN hg hR
      have hrg := right_range hR (by omega)
      have h0 : 0 < (L.getD k []).length := by have := (right_parts hR).2; omega
      have h5 := hrg _ (List.getElem_mem h0)
      rw [if_neg (by rw [h1]; simp), if_neg]
      have := max_cntN (L := L.getD k []) (by unfold sizesL; rw [szs_len]; omega) hs
      omega
  unfold lvE
  by_cases h1 : bs.getD k 0 ≤ blwB bs k ∨ 1024 < bs.getD k 0
  · rw [if_pos h1]
    constructor
    · intro h; cases h
    · rintro ⟨h2, _⟩; omega
  · rw [if_neg h1]
    by_cases h2 : firstE (n : Int) l (L.getD k []) (bs.getD k 0) = 0
    · rw [if_neg (by rw [h2]; simp)]
      obtain ⟨h3, h4⟩ := hF.1 h2
      by_cases h5 : 0 < k ∧ ¬ withinP (L.getD (k - 1) []) (L.getD k [])
      · rw [if_pos h5]
        constructor
        · intro h; cases h
        · rintro ⟨_, _, _, h6⟩; exact absurd (h6 h5.1) h5.2
      · rw [if_neg h5]
        exact ⟨fun _ => ⟨by omega, h3, h4, fun h => Classical.byContradiction fun h6 => h5 ⟨h, h6⟩⟩, fun _ => rfl⟩
    · rw [if_pos h2]
      constructor
      · intro h; exact absurd h h2
      · rintro ⟨_, h3, h4, _⟩; exact hF.2 ⟨h3, h4⟩
section
variable {n : Nat} {l : List Arc} {bs : List Int} {L : List (List Int)}
theorem NestOk.bnd (h : NestOk n l bs L) {k : Nat} (hk : k < bs.length) : blwB bs k < bs.getD k 0 ∧ bs.getD k 0 ≤ 1024 := ((lvE_zero h.g).1 (h.lv k hk)).1
theorem NestOk.right (h : NestOk n l bs L) {k : Nat} (hk : k < bs.length) : rightB (n : Int) (L.getD k []) = true := ((lvE_zero h.g).1 (h.lv k hk)).2.1
theorem NestOk.size (h : NestOk n l bs L) {k : Nat} (hk : k < bs.length) : ∀ y, (cntI (L.getD k []) y : Int) ≤ bs.getD k 0 := ((lvE_zero h.g).1 (h.lv k hk)).2.2.1
theorem NestOk.within (h : NestOk n l bs L) {k : Nat} (hk : k < bs.length) (h0 : 0 < k) : withinP (L.getD (k - 1) []) (L.getD k []) := ((lvE_zero h.g).1 (h.lv k hk)).2.2.2 h0
theorem NestOk.rowlen (h : NestOk n l bs L) {k : Nat} (hk : k < bs.length) : (L.getD k []).length = n := (right_parts (h.right hk)).2
theorem NestOk.n1 (h : NestOk n l bs L) : 1 ≤ n ∧ n ≤ 1024 := by have := gcheck_zero h.g; omega
end
/-- What is wrong with a level's number. -/
def lkE (N : Int) (l : List Arc) (bs : List Int) (L : List (List Int)) (q : Int) : Int := if (nsE N l bs L).2 ≠ 0 then (nsE N l bs L).2 else if q < 1 ∨ (bs.length : Int) < q then 111 else 0
def clE (N : Int) (l : List Arc) (bs : List Int) (L : List (List Int)) (q c : Int) : Int := if lkE N l bs L q ≠ 0 then lkE N l bs L q else if c < 0 ∨ maxL (L.getD (q.toNat - 1) []) + 1 ≤ c then 120 else 0
theorem lkE_zero {N : Int} {l : List Arc} {bs : List Int} {L : List (List Int)} {q : Int} (h : lkE N l bs L q = 0) : ∃ n k : Nat, N = (n : Int) ∧ NestOk n l bs L ∧ q = (k : Int) + 1 ∧ k < bs.length := by
  unfold lkE at h
  by_cases h1 : (nsE N l bs L).2 = 0
  · rw [if_neg (by rw [h1]; simp)] at h
    obtain ⟨n, rfl, hok⟩ := nsE_zero h1
    by_cases h2 : q < 1 ∨ (bs.length : Int) < q
    · rw [if_pos h2] at h; cases h
    · exact ⟨n, q.toNat - 1, rfl, hok, by omega, by omega⟩
  · rw [if_pos h1] at h; exact absurd h h1
theorem lkE_ok {n : Nat} {l : List Arc} {bs : List Int} {L : List (List Int)} (h : NestOk n l bs L) {k : Nat} (hk : k < bs.length) : lkE (n : Int) l bs L ((k : Int) + 1) = 0 := by
  unfold lkE
  rw [h.zero, if_neg (by simp), if_neg (by omega)]
theorem clE_zero {N : Int} {l : List Arc} {bs : List Int} {L : List (List Int)} {q c : Int} (h : clE N l bs L q c = 0) : ∃ n k j : Nat, N = (n : Int) ∧ NestOk n l bs L ∧ q = (k : Int) + 1 ∧ k < bs.length ∧ c = (j : Int) ∧ (j : Int) < maxL (L.getD k []) + 1 := by
  unfold clE at h
  by_cases h1 : lkE N l bs L q = 0
  · rw [if_neg (by rw [h1]; simp)] at h
    obtain ⟨n, k, rfl, hok, rfl, hk⟩ := lkE_zero h1
    have e : ((k : Int) + 1).toNat - 1 = k := by omega
    rw [e] at h
    by_cases h2 : c < 0 ∨ maxL (L.getD k []) + 1 ≤ c
    · rw [if_pos h2] at h; cases h
    · exact ⟨n, k, c.toNat, rfl, hok, rfl, hk, by omega, by omega⟩
  · rw [if_pos h1] at h; exact absurd h h1
theorem clE_ok {n : Nat} {l : List Arc} {bs : List Int} {L : List (List Int)} (h : NestOk n l bs L) {k : Nat} (hk : k < bs.length) {c : Int} (hc : 0 ≤ c ∧ c < maxL (L.getD k []) + 1) : clE (n : Int) l bs L ((k : Int) + 1) c = 0 := by
  unfold clE
  have e : ((k : Int) + 1).toNat - 1 = k := by omega
  rw [lkE_ok h hk, if_neg (by simp), e, if_neg (by omega)]
/-- A cell's vertices. -/
def mem (n : Nat) (L : List Int) (c : Int) : List Int := ((List.range n).filter fun v => decide (L.getD v 0 = c)).map fun v : Nat => (v : Int)
end Go.Proofs.Ytkmkakpadgljeaa
