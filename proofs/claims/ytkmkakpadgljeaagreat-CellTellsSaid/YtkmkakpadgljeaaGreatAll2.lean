import Derived.Test.YtkmkakpadgljeaaGreatAll1
import Derived.Test.YtkmkakpadgljeaaGreatAll0
import Derived.Test.YtkmkakpadgljeaaGreatFlyT
import Derived.Test.YtkmkakpadgljeaaGreatFlyMap
import Derived.Laws.IdiomRangeMap

/- What a move does to the pairs between labels. -/

namespace Go.Proofs.YtkmkakpadgljeaaGreat
open Go Fly
set_option linter.unusedVariables false
set_option linter.unusedSimpArgs false
set_option linter.unusedSectionVars false

def oth (v : Int) (p : Pr) : Int := if p.1 = v then p.2 else p.1
def atv (v : Int) (p : Pr) : Bool := decide (p.1 = v) || decide (p.2 = v)
theorem filt_split {α : Type} (c a : α → Bool) (l : List α) : (l.filter a).length = ((l.filter c).filter a).length + ((l.filter fun x => !c x).filter a).length := by
  induction l with
  | nil => rfl
  | cons x l ih => by_cases h1 : a x <;> by_cases h2 : c x <;> simp [h1, h2, ih] <;> omega
abbrev GoodC (n : Nat) (l : List Arc) : Prop := ∀ a ∈ l, (0 ≤ a.src ∧ a.src < n) ∧ 0 ≤ a.dst ∧ a.dst < n
theorem prs_lt {n : Nat} {l : List Arc} (hg : GoodC n l) {p : Pr} (h : p ∈ prs n l) : p.1 < p.2 := by
  obtain ⟨a, _, hne, rfl⟩ := mem_prRaw.1 ((mem_prs hg).1 h)
  unfold prOf
  simp only
  omega
theorem nbr_iff {v u : Int} {x : Arc} : u ∈ nbr v x ↔ x.src ≠ x.dst ∧ ((x.src = v ∧ u = x.dst) ∨ (x.dst = v ∧ u = x.src)) := by
  unfold nbr
  by_cases h1 : x.src = x.dst
  · rw [if_pos h1]; simp [h1]
  · rw [if_neg h1]
    by_cases h2 : x.src = v
    · rw [if_pos h2]; simp; omega
    · rw [if_neg h2]
      by_cases h3 : x.dst = v
      · rw [if_pos h3]; simp; omega
      · rw [if_neg h3]; simp; omega
theorem oth_mem {n : Nat} {l : List Arc} (hg : GoodC n l) {v u : Int} : u ∈ ((prs n l).filter (atv v)).map (oth v) ↔ u ∈ nbrs v l := by
  rw [nbrs_mem, List.mem_map]
  constructor
  · rintro ⟨p, hp, rfl⟩
    obtain ⟨hp, hv⟩ := List.mem_filter.1 hp
    obtain ⟨a, ha, hne, rfl⟩ := mem_prRaw.1 ((mem_prs hg).1 hp)
    refine ⟨a, ha, nbr_iff.2 ⟨hne, ?_⟩⟩
    unfold atv prOf at hv
    simp only [Bool.or_eq_true, decide_eq_true_eq] at hv
    unfold oth prOf
    simp only
    split <;> omega
  · rintro ⟨a, ha, hu⟩
    obtain ⟨hne, hu⟩ := nbr_iff.1 hu
    refine ⟨prOf a, List.mem_filter.2 ⟨(mem_prs hg).2 (mem_prRaw.2 ⟨a, ha, hne, rfl⟩), ?_⟩, ?_⟩
    · unfold atv prOf
      simp only [Bool.or_eq_true, decide_eq_true_eq]
      omega
    · unfold oth prOf
      simp only
      split <;> omega
theorem oth_perm {n : Nat} {l : List Arc} (hg : GoodC n l) (v : Int) : (((prs n l).filter (atv v)).map (oth v)).Perm (nbrs v l) := by
  have h1 : (((prs n l).filter (atv v)).map (oth v)).Nodup := by
    unfold List.Nodup
    rw [List.pairwise_map]
    refine ((prs_sorted n l).filter (atv v)).imp_of_mem ?_
    intro p q hp hq hlt e
    obtain ⟨hp1, hp2⟩ := List.mem_filter.1 hp
    obtain ⟨hq1, hq2⟩ := List.mem_filter.1 hq
    have a1 := prs_lt hg hp1
    have a2 := prs_lt hg hq1
    unfold atv at hp2 hq2
    simp only [Bool.or_eq_true, decide_eq_true_eq] at hp2 hq2
    unfold oth at e
    unfold ltX at hlt
    split at e <;> split at e <;> omega
  have h2 : (nbrs v l).Nodup := (nbrs_rising v l).imp fun {a b} h e => by omega
  exact (List.perm_ext_iff_of_nodup h1 h2).2 fun u => oth_mem hg
theorem ncnt_compl (L R : List Int) (j : Int) : (R.filter fun u => decide (lab L u ≠ j)).length + ncnt L R j = R.length := by
  unfold ncnt
  induction R with
  | nil => rfl
  | cons x R ih => by_cases h : lab L x = j <;> simp [h] at ih ⊢ <;> omega
theorem apart_lab (L : List Int) (p : Pr) : apart L p = decide (lab L p.1 ≠ lab L p.2) := rfl
theorem at_count {n : Nat} {l : List Arc} (hg : GoodC n l) (L : List Int) (v : Int) : (((prs n l).filter (atv v)).filter (apart L)).length + ncnt L (nbrs v l) (lab L v) = (nbrs v l).length := by
  have h1 := ncnt_compl L (nbrs v l) (lab L v)
  have hp := (oth_perm hg v).filter fun u => decide (lab L u ≠ lab L v)
  have h2 := hp.length_eq
  rw [List.filter_map, List.length_map] at h2
  have h3 : ((prs n l).filter (atv v)).filter (apart L) = ((prs n l).filter (atv v)).filter ((fun u => decide (lab L u ≠ lab L v)) ∘ oth v) := by
    refine List.filter_congr fun p hp => ?_
    have hv := (List.mem_filter.1 hp).2
    unfold atv at hv
    simp only [Bool.or_eq_true, decide_eq_true_eq] at hv
    rw [apart_lab]
    show decide _ = decide _
    apply decide_eq_decide.2
    unfold oth
    by_cases e : p.1 = v
    · rw [if_pos e, e]; exact ⟨fun h h' => h h'.symm, fun h h' => h h'.symm⟩
    · rw [if_neg e, hv.resolve_left e]
  rw [h3]
  omega
theorem lab_set_ne {L : List Int} {v : Nat} {j u : Int} (h0 : 0 ≤ u) (h : u ≠ (v : Int)) : lab (L.set v j) u = lab L u := by
  unfold lab
  rw [List.getD_eq_getElem?_getD, List.getD_eq_getElem?_getD, List.getElem?_set_ne (by omega)]
theorem lab_set {L : List Int} {v : Nat} {j : Int} (h : v < L.length) : lab (L.set v j) (v : Int) = j := by
  unfold lab
  rw [List.getD_eq_getElem?_getD]; simp [h]
theorem ncnt_congr {L L' R : List Int} (h : ∀ u ∈ R, lab L u = lab L' u) (j : Int) : ncnt L R j = ncnt L' R j := by
  unfold ncnt
  congr 1
  exact List.filter_congr fun u hu => by rw [h u hu]
/-- A move leaves as many pairs fewer as it gains. -/
theorem cut_set {n : Nat} {l : List Arc} (hg : GoodC n l) {L : List Int} {v : Nat} (hv : v < L.length) (j : Int) : (cutN n l (L.set v j) : Int) = cutN n l L - gn L (nbrs (v : Int) l) (lab L (v : Int)) j := by
  have hR : ∀ u ∈ nbrs (v : Int) l, 0 ≤ u ∧ u ≠ (v : Int) := fun u hu => by
    obtain ⟨x, hx, hux⟩ := nbrs_mem.1 hu
    have := nbr_iff.1 hux
    have := hg x hx
    omega
  have a1 := at_count hg L (v : Int)
  have a2 := at_count hg (L.set v j) (v : Int)
  rw [lab_set hv, ncnt_congr (L := L.set v j) (L' := L) (fun u hu => lab_set_ne (hR u hu).1 (hR u hu).2)] at a2
  have e : ((prs n l).filter fun p => !atv (v : Int) p).filter (apart (L.set v j)) = ((prs n l).filter fun p => !atv (v : Int) p).filter (apart L) := by
    refine List.filter_congr fun p hp => ?_
    obtain ⟨hp, hnv⟩ := List.mem_filter.1 hp
    have hr := prs_rng hp
    unfold atv at hnv
    simp only [Bool.not_eq_true', Bool.or_eq_false_iff, decide_eq_false_iff_not] at hnv
    rw [apart_lab, apart_lab, lab_set_ne hr.1.1 hnv.1, lab_set_ne hr.2.1 hnv.2]
  have s1 := filt_split (atv (v : Int)) (apart L) (prs n l)
  have s2 := filt_split (atv (v : Int)) (apart (L.set v j)) (prs n l)
  rw [e] at s2
  unfold cutN gn
  omega
/-- Tidy labels are unlike just where the labels were. -/
theorem tdy_lab {L : List Int} {u w : Int} (hu : u.toNat < L.length) (hw : w.toNat < L.length) : (lab (tdy L) u = lab (tdy L) w) ↔ lab L u = lab L w := by
  rw [lab_at (by rw [tdy_len]; exact hu), lab_at (by rw [tdy_len]; exact hw), lab_at hu, lab_at hw]
  simp only [tdy, List.getElem_map]
  constructor
  · intro h
    have m1 : L[u.toNat] ∈ sns L := by have := sns_mem (L := L) (k := L.length) (Nat.le_refl _) L[u.toNat] (by simp); simpa using this
    have m2 : L[w.toNat] ∈ sns L := by have := sns_mem (L := L) (k := L.length) (Nat.le_refl _) L[w.toNat] (by simp); simpa using this
    have h' : (sns L).idxOf L[u.toNat] = (sns L).idxOf L[w.toNat] := by omega
    have g1 := List.getElem_idxOf (List.idxOf_lt_length_of_mem m1)
    have g2 := List.getElem_idxOf (List.idxOf_lt_length_of_mem m2)
    rw [← g1, ← g2]
    simp only [h']
  · intro h; rw [h]
theorem cut_tdy {n : Nat} {l : List Arc} {L : List Int} (hL : L.length = n) : cutN n l (tdy L) = cutN n l L := by
  unfold cutN
  congr 1
  refine List.filter_congr fun p hp => ?_
  have hr := prs_rng hp
  rw [apart_lab, apart_lab]
  apply decide_eq_decide.2
  exact not_congr (tdy_lab (by omega) (by omega))
end Go.Proofs.YtkmkakpadgljeaaGreat

/- Labels made tidy are right, and their sizes. -/

namespace Go.Proofs.YtkmkakpadgljeaaGreat
open Go Fly
set_option linter.unusedVariables false
set_option linter.unusedSimpArgs false
set_option linter.unusedSectionVars false

theorem tdy_at {L : List Int} {k : Nat} (hk : k < L.length) : (tdy L)[k]'(by rw [tdy_len]; exact hk) = (((sns (L.take (k + 1))).idxOf L[k] : Nat) : Int) := by
  have hm : L[k] ∈ sns (L.take (k + 1)) := sns_mem (by omega) _ (by rw [List.take_succ_eq_append_getElem hk]; exact List.mem_append_right _ (List.mem_singleton.2 rfl))
  obtain ⟨r, hr⟩ := sns_take L (k + 1)
  have e : (tdy L)[k]'(by rw [tdy_len]; exact hk) = (((sns L).idxOf L[k] : Nat) : Int) := by simp [tdy]
  rw [e, hr, List.idxOf_append, if_pos hm]
theorem rgo_tdy {L : List Int} : ∀ (m k : Nat), L.length - k = m → k ≤ L.length → rgo ((sns (L.take k)).length : Int) ((tdy L).drop k) = true
  | 0, k, h, hk => rgo_end (by rw [tdy_len]; omega) _
  | m + 1, k, h, hk => by
    have hk' : k < L.length := by omega
    have ih := rgo_tdy (L := L) m (k + 1) (by omega) (by omega)
    rw [rgo_drop (by rw [tdy_len]; exact hk'), tdy_at hk']
    have hs := sns_next hk'
    by_cases hx : L[k] ∈ sns (L.take k)
    · rw [if_pos hx] at hs
      rw [hs] at ih ⊢
      have := List.idxOf_lt_length_of_mem hx
      rw [if_neg (by omega), if_neg (by omega)]
      exact ih
    · rw [if_neg hx] at hs
      have hi : (sns (L.take (k + 1))).idxOf L[k] = (sns (L.take k)).length := by rw [hs, List.idxOf_append, if_neg hx]; simp
      rw [hi, if_neg (by omega), if_pos rfl]
      rw [hs, List.length_append, List.length_singleton] at ih
      exact ih
theorem right_tdy {L : List Int} {n : Nat} (hL : L.length = n) : rightB (n : Int) (tdy L) = true := by
  have := rgo_tdy (L := L) L.length 0 (by omega) (by omega)
  unfold rightB
  rw [List.take_zero, List.drop_zero] at this
  have h0 : ((sns ([] : List Int)).length : Int) = 0 := rfl
  rw [h0] at this
  rw [this, tdy_len, hL]
  simp
theorem sns_nodup {L : List Int} : ∀ {k : Nat}, k ≤ L.length → (sns (L.take k)).Nodup
  | 0, _ => by simp [sns]
  | k + 1, h => by
    have := sns_nodup (L := L) (k := k) (by omega)
    rw [sns_next (by omega)]
    split
    · exact this
    · rename_i hx
      rw [List.nodup_append]
      exact ⟨this, by simp, fun a ha b hb e => by simp at hb; subst hb; subst e; exact hx ha⟩
theorem sns_sub {L : List Int} : ∀ {k : Nat}, k ≤ L.length → ∀ x ∈ sns (L.take k), x ∈ L
  | 0, _, x, hx => by simp [sns] at hx
  | k + 1, h, x, hx => by
    rw [sns_next (by omega)] at hx
    split at hx
    · exact sns_sub (k := k) (by omega) x hx
    · rcases List.mem_append.1 hx with hx | hx
      · exact sns_sub (k := k) (by omega) x hx
      · simp only [List.mem_singleton] at hx; rw [hx]; exact List.getElem_mem _
theorem max_tdy {L : List Int} (h0 : 0 < L.length) : maxL (tdy L) = ((sns L).length : Int) - 1 := by
  have hx : ∀ x ∈ tdy L, x ≤ ((sns L).length : Int) - 1 := fun x hx => by have := tdy_rng x hx; omega
  have h1 := maxL_le (by rw [tdy_len]; exact h0) hx
  have hpos : 0 < (sns L).length := by
    have : L[0] ∈ sns L := by have := sns_mem (L := L) (k := L.length) (Nat.le_refl _) L[0] (by simp); simpa using this
    exact List.length_pos_of_mem this
  have hlt : (sns L).length - 1 < (sns L).length := by omega
  have hin : (sns L)[(sns L).length - 1] ∈ L := by
    have := sns_sub (L := L) (k := L.length) (Nat.le_refl _) (sns L)[(sns L).length - 1] (by rw [List.take_length]; exact List.getElem_mem _)
    exact this
  have hnd : (sns L).Nodup := by have := sns_nodup (L := L) (k := L.length) (Nat.le_refl _); rwa [List.take_length] at this
  have hix : (sns L).idxOf (sns L)[(sns L).length - 1] = (sns L).length - 1 := by
    have g := List.getElem_idxOf (List.idxOf_lt_length_of_mem (List.getElem_mem hlt))
    have hlt2 := List.idxOf_lt_length_of_mem (List.getElem_mem hlt)
    refine Classical.byContradiction fun hne => ?_
    exact (List.pairwise_iff_getElem.1 hnd) _ _ hlt2 hlt (by omega) g
  have h2 : (((sns L).length - 1 : Nat) : Int) ≤ maxL (tdy L) := le_maxL (List.mem_map.2 ⟨_, hin, by rw [hix]⟩)
  omega
theorem sizes_tdy {L : List Int} (h0 : 0 < L.length) : szs (sns L).length (tdy L) = sizesL (tdy L) := by
  unfold sizesL
  rw [max_tdy h0, show (((sns L).length : Int) - 1 + 1).toNat = (sns L).length by omega]
end Go.Proofs.YtkmkakpadgljeaaGreat

/- The move that is told gains most; sizes stay under the bound. -/

namespace Go.Proofs.YtkmkakpadgljeaaGreat
open Go Fly
set_option linter.unusedVariables false
set_option linter.unusedSimpArgs false
set_option linter.unusedSectionVars false

/-- May a vertex go to a label? -/
abbrev mayGo (L S : List Int) (bd : Int) (v j : Nat) : Prop := (j : Int) ≠ lab L (v : Int) ∧ S.getD j 0 < bd
theorem up_best {L S R : List Int} {bd : Int} {v : Nat} {b : Mv} {j : Nat} (hb : 0 ≤ b.2.2) : (mvUp L S R bd v b j).2.2 = (if mayGo L S bd v j then max b.2.2 (gn L R (lab L (v : Int)) j) else b.2.2) ∧ 0 ≤ (mvUp L S R bd v b j).2.2 := by
  unfold mvUp
  by_cases h1 : mayGo L S bd v j
  · rw [if_pos h1]
    by_cases h2 : 0 < ncnt L R j
    · by_cases h3 : b.2.2 < gn L R (lab L (v : Int)) j
      · rw [if_pos ⟨h1.1, h2, h1.2, h3⟩]; simp only; omega
      · rw [if_neg (by rintro ⟨_, _, _, h⟩; exact h3 h)]; omega
    · rw [if_neg (by rintro ⟨_, h, _⟩; exact h2 h)]
      have : gn L R (lab L (v : Int)) j ≤ 0 := by unfold gn; omega
      omega
  · rw [if_neg h1, if_neg (by rintro ⟨h, _, h', _⟩; exact h1 ⟨h, h'⟩)]
    exact ⟨rfl, hb⟩
theorem row_pos {L S R : List Int} {bd : Int} {v : Nat} {b : Mv} (hb : 0 ≤ b.2.2) : ∀ j, 0 ≤ (mvRow L S R bd v j b).2.2
  | 0 => hb
  | j + 1 => by rw [mvRow_next]; exact (up_best (row_pos hb j)).2
theorem to_pos {L S : List Int} {rows : Nat → List Int} {bd : Int} : ∀ k, 0 ≤ (mvTo L S rows bd k).2.2
  | 0 => Int.le_refl _
  | k + 1 => by rw [mvTo_next]; exact row_pos (to_pos k) _
def IsMv (n : Nat) (L S : List Int) (rows : Nat → List Int) (bd : Int) (b : Mv) : Prop :=
  b = (0, 0, 0) ∨ ∃ y j : Nat, b = ((y : Int), (j : Int), gn L (rows y) (lab L (y : Int)) j) ∧ y < n ∧ j < S.length ∧ mayGo L S bd y j
theorem row_is {n : Nat} {L S : List Int} {rows : Nat → List Int} {bd : Int} {v : Nat} {b : Mv} (hv : v < n) (hb : IsMv n L S rows bd b) : ∀ j, j ≤ S.length → IsMv n L S rows bd (mvRow L S (rows v) bd v j b)
  | 0, _ => hb
  | j + 1, h => by
    rw [mvRow_next]
    unfold mvUp
    split
    · rename_i hc; exact .inr ⟨v, j, rfl, hv, by omega, hc.1, hc.2.2.1⟩
    · exact row_is hv hb j (by omega)
theorem to_is {n : Nat} {L S : List Int} {rows : Nat → List Int} {bd : Int} : ∀ k, k ≤ n → IsMv n L S rows bd (mvTo L S rows bd k)
  | 0, _ => .inl rfl
  | k + 1, h => by rw [mvTo_next]; exact row_is (by omega) (to_is k (by omega)) _ (Nat.le_refl _)
theorem filt_set {α : Type} (p : α → Bool) : ∀ (l : List α) (i : Nat) (x : α) (h : i < l.length), ((l.set i x).filter p).length + (if p l[i] then 1 else 0) = (l.filter p).length + (if p x then 1 else 0)
  | [], i, x, h => by simp at h
  | y :: l, 0, x, h => by by_cases h1 : p x <;> by_cases h2 : p y <;> simp [h1, h2]
  | y :: l, i + 1, x, h => by
    have ih := filt_set p l i x (by simpa using h)
    by_cases h2 : p y <;> simp [h2] at ih ⊢ <;> omega
theorem cnt_tdy {L : List Int} {i : Nat} (hi : i < (sns L).length) : cnt (tdy L) i = (L.filter fun x => decide (x = (sns L)[i])).length := by
  unfold cnt tdy
  rw [List.filter_map, List.length_map]
  congr 1
  refine List.filter_congr fun x hx => ?_
  have hm : x ∈ sns L := by have := sns_mem (L := L) (k := L.length) (Nat.le_refl _) x (by simpa using hx); simpa using this
  have hnd : (sns L).Nodup := by have := sns_nodup (L := L) (k := L.length) (Nat.le_refl _); rwa [List.take_length] at this
  show decide ((((sns L).idxOf x : Nat) : Int) = Int.ofNat i) = decide (x = (sns L)[i])
  apply decide_eq_decide.2
  have hlt := List.idxOf_lt_length_of_mem hm
  have g := List.getElem_idxOf hlt
  constructor
  · intro h
    have h' : (sns L).idxOf x = i := by have : (((sns L).idxOf x : Nat) : Int) = (i : Int) := h; omega
    rw [← g]; simp only [h']
  · intro h
    show (((sns L).idxOf x : Nat) : Int) = (i : Int)
    have : (sns L).idxOf x = i := by
      refine Classical.byContradiction fun hne => ?_
      rcases Nat.lt_or_gt_of_ne hne with hl | hl
      · exact (List.pairwise_iff_getElem.1 hnd) _ _ hlt hi hl (g.trans h)
      · exact (List.pairwise_iff_getElem.1 hnd) _ _ hi hlt hl (h.symm.trans g.symm)
    omega
/-- Sizes stay under the bound. -/
theorem size_move {L : List Int} {M : Nat} {bd : Int} {v j : Nat} (hv : v < L.length) (hj : j < M) (hL : ∀ x ∈ L, 0 ≤ x ∧ x < (M : Int)) (hb : ∀ i, i < M → (cnt L i : Int) ≤ bd) (hjb : (cnt L j : Int) < bd) : ∀ x ∈ szs (sns (L.set v (j : Int))).length (tdy (L.set v (j : Int))), x ≤ bd := fun x hx => by
  obtain ⟨i, hi, rfl⟩ := List.mem_map.1 hx
  have hi' : i < (sns (L.set v (j : Int))).length := by simpa using hi
  rw [cnt_tdy hi']
  have hs : (sns (L.set v (j : Int)))[i] ∈ L.set v (j : Int) := by
    have := sns_sub (L := L.set v (j : Int)) (k := (L.set v (j : Int)).length) (Nat.le_refl _) (sns (L.set v (j : Int)))[i] (by rw [List.take_length]; exact List.getElem_mem _)
    exact this
  generalize (sns (L.set v (j : Int)))[i] = s at hs
  have hf := filt_set (fun x => decide (x = s)) L v (j : Int) hv
  obtain ⟨y, hy⟩ : ∃ y : Nat, s = (y : Int) ∧ y < M := by
    rcases List.mem_or_eq_of_mem_set hs with h | h
    · have := hL s h; exact ⟨s.toNat, by omega, by omega⟩
    · exact ⟨j, h, hj⟩
  obtain ⟨rfl, hyM⟩ := hy
  have hc : (L.filter fun x => decide (x = (y : Int))).length = cnt L y := rfl
  rw [hc] at hf
  have := hb y hyM
  by_cases e : j = y
  · subst e
    simp only [decide_true, if_true] at hf
    split at hf <;> omega
  · have e' : ¬ ((j : Int) = (y : Int)) := by omega
    simp only [e', decide_false, Bool.false_eq_true, if_false] at hf
    split at hf <;> omega
end Go.Proofs.YtkmkakpadgljeaaGreat

/- The order around a centre: nearest first. -/

namespace Go.Proofs.YtkmkakpadgljeaaGreat
open Go Fly
set_option linter.unusedVariables false
set_option linter.unusedSimpArgs false
set_option linter.unusedSectionVars false

abbrev BSt := List Int × List Bool
def bpush1 (s : BSt) (u : Int) : BSt := if s.2.getD u.toNat false = true then s else (s.1 ++ [u], s.2.set u.toNat true)
def bpush (row : List Int) (s : BSt) : BSt := row.foldl bpush1 s
def bstep (rows : Nat → List Int) (k : Nat) (s : BSt) : BSt :=
  match s.1[k]? with
  | some v => bpush (rows v.toNat) s
  | none => s
/-- k vertices have been gone through. -/
def bgo (rows : Nat → List Int) (s : BSt) : Nat → BSt
  | 0 => s
  | k + 1 => bstep rows k (bgo rows s k)
def bstart (c : Nat) (b : List Bool) : BSt := ([(c : Int)], b.set c true)
def bfs (n : Nat) (rows : Nat → List Int) (c : Nat) (b : List Bool) : BSt := bgo rows (bstart c b) n

theorem bpush_next {row : List Int} {j : Nat} (hj : j < row.length) (s : BSt) : bpush (row.take (j + 1)) s = bpush1 (bpush (row.take j) s) row[j] := by
  unfold bpush; rw [List.take_succ_eq_append_getElem hj, List.foldl_append]; rfl
theorem bpush1_ext (s : BSt) (u : Int) : ∃ r, (bpush1 s u).1 = s.1 ++ r := by
  unfold bpush1
  split
  · exact ⟨[], by simp⟩
  · exact ⟨[u], rfl⟩
theorem bpush_ext (row : List Int) : ∀ s : BSt, ∃ r, (bpush row s).1 = s.1 ++ r := by
  induction row with
  | nil => intro s; exact ⟨[], by simp [bpush]⟩
  | cons u row ih =>
    intro s
    obtain ⟨r1, h1⟩ := bpush1_ext s u
    obtain ⟨r2, h2⟩ := ih (bpush1 s u)
    refine ⟨r1 ++ r2, ?_⟩
    show (bpush row (bpush1 s u)).1 = _
    rw [h2, h1, List.append_assoc]
theorem bstep_at {rows : Nat → List Int} {k : Nat} {s : BSt} (h : k < s.1.length) : bstep rows k s = bpush (rows s.1[k].toNat) s := by
  unfold bstep; rw [List.getElem?_eq_getElem h]
theorem bstep_no {rows : Nat → List Int} {k : Nat} {s : BSt} (h : s.1.length ≤ k) : bstep rows k s = s := by
  unfold bstep; rw [List.getElem?_eq_none h]
theorem bstep_ext (rows : Nat → List Int) (k : Nat) (s : BSt) : ∃ r, (bstep rows k s).1 = s.1 ++ r := by
  rcases Nat.lt_or_ge k s.1.length with h | h
  · rw [bstep_at h]; exact bpush_ext _ _
  · rw [bstep_no h]; exact ⟨[], by simp⟩
theorem bgo_ext (rows : Nat → List Int) (s : BSt) (k : Nat) : ∀ d, ∃ r, (bgo rows s (k + d)).1 = (bgo rows s k).1 ++ r
  | 0 => ⟨[], by simp⟩
  | d + 1 => by
    obtain ⟨r1, h1⟩ := bgo_ext rows s k d
    obtain ⟨r2, h2⟩ := bstep_ext rows (k + d) (bgo rows s (k + d))
    refine ⟨r1 ++ r2, ?_⟩
    show (bstep rows (k + d) (bgo rows s (k + d))).1 = _
    rw [h2, h1, List.append_assoc]
theorem bgo_stop {rows : Nat → List Int} {s : BSt} {k : Nat} (h : (bgo rows s k).1.length ≤ k) : ∀ d, bgo rows s (k + d) = bgo rows s k
  | 0 => rfl
  | d + 1 => by
    have ih := bgo_stop h d
    show bstep rows (k + d) (bgo rows s (k + d)) = _
    rw [ih, bstep_no (by omega)]

structure BInv (n : Nat) (s : BSt) : Prop where
  len : s.2.length = n
  rng : ∀ x ∈ s.1, 0 ≤ x ∧ x < (n : Int)
  nd : s.1.Nodup
  tr : ∀ x ∈ s.1, s.2.getD x.toNat false = true
theorem ints_card {n : Nat} {l : List Int} (hr : ∀ x ∈ l, 0 ≤ x ∧ x < (n : Int)) (hn : l.Nodup) : l.length ≤ n := by
  have h := List.Nodup.length_le_of_subset hn (l₂ := (List.range n).map Int.ofNat) fun x hx => by
    have := hr x hx
    exact List.mem_map.2 ⟨x.toNat, List.mem_range.2 (by omega), by show ((x.toNat : Nat) : Int) = x; omega⟩
  simpa using h
theorem BInv.out {n : Nat} {s : BSt} (h : BInv n s) : s.1.length ≤ n := ints_card h.rng h.nd
theorem getD_set (l : List Bool) (i j : Nat) (b : Bool) : (l.set i b).getD j false = if i = j ∧ i < l.length then b else l.getD j false := by
  simp only [List.getD_eq_getElem?_getD, List.getElem?_set]
  by_cases h : i = j
  · subst h
    by_cases h' : i < l.length
    · simp [h']
    · simp [h']
  · simp [h]
theorem BInv.start {n c : Nat} {b : List Bool} (hb : b.length = n) (hc : c < n) : BInv n (bstart c b) := by
  refine ⟨by simp [bstart, hb], fun x hx => ?_, by simp [bstart], fun x hx => ?_⟩
  · simp only [bstart, List.mem_singleton] at hx; omega
  · simp only [bstart, List.mem_singleton] at hx
    subst hx
    show (b.set c true).getD _ false = true
    rw [getD_set, if_pos ⟨by omega, by omega⟩]
theorem BInv.push1 {n : Nat} {s : BSt} (h : BInv n s) {u : Int} (hu : 0 ≤ u ∧ u < (n : Int)) : BInv n (bpush1 s u) := by
  unfold bpush1
  split
  · exact h
  · rename_i hn
    refine ⟨by simp [h.len], fun x hx => ?_, ?_, fun x hx => ?_⟩
    · rcases List.mem_append.1 hx with hx | hx
      · exact h.rng x hx
      · simp only [List.mem_singleton] at hx; omega
    · rw [List.nodup_append]
      refine ⟨h.nd, by simp, fun a ha b hb e => ?_⟩
      simp only [List.mem_singleton] at hb
      subst hb; subst e
      exact hn (h.tr _ ha)
    · show (s.2.set u.toNat true).getD _ false = true
      rw [getD_set]
      split
      · rfl
      · rename_i hne
        rcases List.mem_append.1 hx with hx | hx
        · exact h.tr x hx
        · simp only [List.mem_singleton] at hx; subst hx
          exact absurd ⟨rfl, by rw [h.len]; omega⟩ hne
theorem BInv.push {n : Nat} {row : List Int} (hr : ∀ u ∈ row, 0 ≤ u ∧ u < (n : Int)) : ∀ {s : BSt}, BInv n s → BInv n (bpush row s) := by
  induction row with
  | nil => exact fun h => h
  | cons u row ih => exact fun h => ih (fun x hx => hr x (List.mem_cons_of_mem _ hx)) (h.push1 (hr u (List.mem_cons_self ..)))
theorem BInv.step {n : Nat} {rows : Nat → List Int} (hr : ∀ v, v < n → ∀ u ∈ rows v, 0 ≤ u ∧ u < (n : Int)) {k : Nat} {s : BSt} (h : BInv n s) : BInv n (bstep rows k s) := by
  rcases Nat.lt_or_ge k s.1.length with hk | hk
  · rw [bstep_at hk]
    exact h.push (hr _ (by have := h.rng _ (List.getElem_mem hk); omega))
  · rw [bstep_no hk]; exact h
theorem BInv.go {n : Nat} {rows : Nat → List Int} (hr : ∀ v, v < n → ∀ u ∈ rows v, 0 ≤ u ∧ u < (n : Int)) {s : BSt} (h : BInv n s) : ∀ k, BInv n (bgo rows s k)
  | 0 => h
  | k + 1 => (BInv.go hr h k).step hr
/-- What has been gone through is the beginning of the whole. -/
theorem bgo_pre {n : Nat} {rows : Nat → List Int} {s : BSt} {k : Nat} (hk : k ≤ n) : ∃ r, (bgo rows s n).1 = (bgo rows s k).1 ++ r := by
  have := bgo_ext rows s k (n - k)
  rwa [show k + (n - k) = n by omega] at this
theorem bgo_fin {n : Nat} {rows : Nat → List Int} {s : BSt} {k : Nat} (hk : k ≤ n) (h : (bgo rows s k).1.length ≤ k) : bgo rows s n = bgo rows s k := by
  have := bgo_stop h (n - k)
  rwa [show k + (n - k) = n by omega] at this
theorem bgo_get {n : Nat} {rows : Nat → List Int} {s : BSt} {k : Nat} (hk : k ≤ n) (h : k < (bgo rows s k).1.length) : ∃ h' : k < (bgo rows s n).1.length, (bgo rows s n).1[k] = (bgo rows s k).1[k] := by
  obtain ⟨r, hr⟩ := bgo_pre (rows := rows) (s := s) hk
  refine ⟨by rw [hr, List.length_append]; omega, ?_⟩
  simp only [hr]
  exact List.getElem_append_left h
end Go.Proofs.YtkmkakpadgljeaaGreat

/- Labels cut up, and put together, under a bound: plain laws. -/

namespace Go.Proofs.YtkmkakpadgljeaaGreat
open Go Fly
set_option linter.unusedVariables false
set_option linter.unusedSimpArgs false
set_option linter.unusedSectionVars false

def cntI (L : List Int) (y : Int) : Nat := (L.filter fun x => decide (x = y)).length
theorem cnt_is (L : List Int) (j : Nat) : cnt L j = cntI L (j : Int) := rfl
theorem cntI_le (L : List Int) (y : Int) : cntI L y ≤ L.length := List.length_filter_le _ _
theorem cntI_none {L : List Int} {y : Int} (h : y ∉ L) : cntI L y = 0 := by
  unfold cntI
  rw [List.length_eq_zero_iff, List.filter_eq_nil_iff]
  intro x hx e
  simp at e; subst e; exact h hx
theorem cntI_pos {L : List Int} {y : Int} (h : y ∈ L) : 0 < cntI L y := by
  unfold cntI
  exact List.length_pos_of_mem (List.mem_filter.2 ⟨h, by simp⟩)
theorem cntI_two {x y : Int} (hne : x ≠ y) : ∀ L : List Int, cntI L x + cntI L y ≤ L.length
  | [] => Nat.le_refl _
  | z :: L => by
    have ih := cntI_two hne L
    unfold cntI at ih ⊢
    simp only [List.filter_cons, List.length_cons]
    by_cases h1 : z = x
    · have h2 : ¬ z = y := fun h => hne (h1.symm.trans h)
      rw [if_pos (by simpa using h1), if_neg (by simpa using h2)]; simp only [List.length_cons]; omega
    · by_cases h2 : z = y
      · rw [if_neg (by simpa using h1), if_pos (by simpa using h2)]; simp only [List.length_cons]; omega
      · rw [if_neg (by simpa using h1), if_neg (by simpa using h2)]; omega
theorem cntI_set {L : List Int} : ∀ {i : Nat} (h : i < L.length) (x y : Int), cntI (L.set i x) y + (if L[i] = y then 1 else 0) = cntI L y + (if x = y then 1 else 0) := by
  intro i h x y
  have := filt_set (fun z => decide (z = y)) L i x h
  unfold cntI
  simpa using this
theorem right_parts {n : Nat} {L : List Int} (h : rightB (n : Int) L = true) : rgo 0 L = true ∧ L.length = n := by
  unfold rightB at h
  simp only [Bool.and_eq_true, decide_eq_true_eq] at h
  exact ⟨h.1, by omega⟩
/-- Right labels are tidy ones. -/
theorem rgo_tidy : ∀ (L : List Int) (P : List Nat) (q : Nat), rgo (q : Int) L = true → (nxt P P.length = q) → ∃ Q : List Nat, L = Q.map (fun x : Nat => (x : Int)) ∧ ∀ k (h : k < Q.length), Q[k] ≤ nxt (P ++ Q) (P.length + k)
  | [], P, q, _, _ => ⟨[], rfl, fun k h => by simp at h⟩
  | x :: L, P, q, h, hq => by
    unfold rgo at h
    by_cases hx : x < 0 ∨ (q : Int) < x
    · rw [if_pos hx] at h; cases h
    · rw [if_neg hx] at h
      obtain ⟨y, rfl⟩ : ∃ y : Nat, x = (y : Int) := ⟨x.toNat, by omega⟩
      have hn : nxt (P ++ [y]) (P ++ [y]).length = if (y : Int) = (q : Int) then q + 1 else q := by
        rw [List.length_append, List.length_singleton]
        have e0 : nxt (P ++ [y]) P.length = q := by
          rw [← hq]; exact nxt_take _ _ _ fun j hj => List.getElem?_append_left hj
        show (if (P ++ [y])[P.length]? = some (nxt (P ++ [y]) P.length) then nxt (P ++ [y]) P.length + 1 else nxt (P ++ [y]) P.length) = _
        rw [e0, List.getElem?_append_right (Nat.le_refl _), Nat.sub_self]
        by_cases hy : y = q
        · subst hy; simp
        · rw [if_neg (by simpa using hy), if_neg (by omega)]
      have h' : rgo ((if (y : Int) = (q : Int) then q + 1 else q : Nat) : Int) L = true := by
        by_cases hy : (y : Int) = (q : Int)
        · rw [if_pos hy] at h ⊢; exact h
        · rw [if_neg hy] at h ⊢; exact h
      obtain ⟨Q, rfl, hQ⟩ := rgo_tidy L (P ++ [y]) _ h' hn
      refine ⟨y :: Q, rfl, fun k hk => ?_⟩
      cases k with
      | zero =>
        have e0 : nxt (P ++ y :: Q) P.length = q := by
          rw [← hq]; exact nxt_take _ _ _ fun j hj => List.getElem?_append_left hj
        simp only [List.getElem_cons_zero, Nat.add_zero]
        rw [e0]; omega
      | succ k =>
        have := hQ k (by simpa using hk)
        simp only [List.getElem_cons_succ]
        rw [List.length_append, List.length_singleton, List.append_assoc] at this
        rw [show P.length + (k + 1) = P.length + 1 + k by omega]
        exact this
theorem right_tidy {n : Nat} {L : List Int} (h : rightB (n : Int) L = true) : ∃ Q : List Nat, L = Q.map (fun x : Nat => (x : Int)) ∧ Tidy Q ∧ Q.length = n := by
  obtain ⟨h1, h2⟩ := right_parts h
  obtain ⟨Q, rfl, hQ⟩ := rgo_tidy L [] 0 h1 rfl
  exact ⟨Q, rfl, fun k hk => by have := hQ k hk; simpa using this, by simpa using h2⟩
theorem lab_get {L : List Int} {u : Nat} (h : u < L.length) : lab L (u : Int) = L[u] := by rw [lab_at (by simpa using h)]; simp
theorem right_unique {n : Nat} {L M : List Int} (h : rightB (n : Int) L = true) (h' : rightB (n : Int) M = true) (he : ∀ u v : Nat, u < n → v < n → (lab L (u : Int) = lab L (v : Int) ↔ lab M (u : Int) = lab M (v : Int))) : L = M := by
  obtain ⟨Q, rfl, hQ, hq⟩ := right_tidy h
  obtain ⟨R, rfl, hR, hr⟩ := right_tidy h'
  rw [tidy_unique hQ hR (by omega) fun i j hi hj => ?_]
  have := he i j (by omega) (by omega)
  rw [lab_get (by simpa using hi), lab_get (by simpa using hj), lab_get (by simp; omega), lab_get (by simp; omega)] at this
  simp only [List.getElem_map] at this
  exact ⟨fun h => by have := this.1 (by rw [h]); omega, fun h => by have := this.2 (by rw [h]); omega⟩
/-- Labels of single vertices. -/
def idL (n : Nat) : List Int := (List.range n).map Int.ofNat
theorem idL_len (n : Nat) : (idL n).length = n := by simp [idL]
theorem idL_lab {n u : Nat} (h : u < n) : lab (idL n) (u : Int) = (u : Int) := by rw [lab_get (by rw [idL_len]; exact h)]; simp [idL]
theorem rgo_id : ∀ (m q : Nat), rgo (q : Int) ((List.range' q m).map Int.ofNat) = true
  | 0, q => rfl
  | m + 1, q => by
    rw [List.range'_succ, List.map_cons]
    unfold rgo
    rw [if_neg (by show ¬ ((q : Int) < 0 ∨ (q : Int) < (q : Int)); omega), if_pos (show Int.ofNat q = (q : Int) from rfl)]
    exact rgo_id m (q + 1)
theorem idL_right (n : Nat) : rightB (n : Int) (idL n) = true := by
  unfold rightB
  have := rgo_id n 0
  rw [← List.range_eq_range'] at this
  rw [idL_len]; simp
  exact this
theorem cnt_one {L : List Int} {y : Int} (h : cntI L y ≤ 1) {u v : Nat} (hu : u < L.length) (hv : v < L.length) (h1 : L[u] = y) (h2 : L[v] = y) : u = v := by
  refine Classical.byContradiction fun hne => ?_
  have hs := cntI_set (L := L) hu (y + 1) y
  rw [if_pos h1, if_neg (by omega)] at hs
  have hp : 0 < cntI (L.set u (y + 1)) y := cntI_pos (List.mem_iff_getElem.2 ⟨v, by simpa using hv, by rw [List.getElem_set_ne hne]; exact h2⟩)
  omega
theorem right_single {n : Nat} {L : List Int} (h : rightB (n : Int) L = true) (hc : ∀ y, cntI L y ≤ 1) : L = idL n := by
  have hl := (right_parts h).2
  refine right_unique h (idL_right n) fun u v hu hv => ?_
  rw [idL_lab hu, idL_lab hv, lab_get (by omega), lab_get (by omega)]
  constructor
  · intro e; have := cnt_one (hc L[v]) (by omega) (by omega) e rfl; omega
  · intro e; have : u = v := by omega
    subst this; rfl

/-! ### two labels become one -/
def mrg (a b : Int) (L : List Int) : List Int := L.map fun x => if x = b then a else x
theorem mrg_len (a b : Int) (L : List Int) : (mrg a b L).length = L.length := by simp [mrg]
theorem mrg_get {a b : Int} {L : List Int} {u : Nat} (h : u < L.length) : (mrg a b L)[u]'(by rw [mrg_len]; exact h) = if L[u] = b then a else L[u] := by simp [mrg]
theorem mrg_lab {a b : Int} {L : List Int} {u : Nat} (h : u < L.length) : lab (mrg a b L) (u : Int) = if lab L (u : Int) = b then a else lab L (u : Int) := by
  rw [lab_get (by rw [mrg_len]; exact h), lab_get h, mrg_get h]
theorem cntI_mrg {a b : Int} (hne : a ≠ b) (y : Int) : ∀ L : List Int, cntI (mrg a b L) y = if y = a then cntI L a + cntI L b else if y = b then 0 else cntI L y
  | [] => by simp [mrg, cntI]
  | x :: L => by
    have ih := cntI_mrg hne y L
    unfold cntI mrg at ih ⊢
    simp only [List.map_cons, List.filter_cons]
    by_cases h1 : y = a
    · subst h1
      rw [if_pos rfl] at ih ⊢
      by_cases h2 : x = b
      · subst h2
        have : ¬ x = y := fun h => hne h.symm
        simp [this] at ih ⊢; omega
      · by_cases h3 : x = y
        · subst h3
          simp [h2] at ih ⊢; omega
        · simp [h2, h3] at ih ⊢; omega
    · rw [if_neg h1] at ih ⊢
      by_cases h4 : y = b
      · subst h4
        rw [if_pos rfl] at ih ⊢
        by_cases h2 : x = y
        · subst h2
          simp at ih ⊢
          rw [if_neg hne]; simpa using ih
        · simp [h2] at ih ⊢; exact ih
      · rw [if_neg h4] at ih ⊢
        by_cases h2 : x = b
        · subst h2
          have e1 : ¬ a = y := fun h => h1 h.symm
          have e2 : ¬ x = y := fun h => h4 h.symm
          simp [e1, e2] at ih ⊢; exact ih
        · by_cases h3 : x = y
          · subst h3
            simp [h2] at ih ⊢; exact ih
          · simp [h2, h3] at ih ⊢; exact ih
theorem cntI_tdy {L : List Int} {bd : Int} (h0 : 0 ≤ bd) (h : ∀ y, (cntI L y : Int) ≤ bd) (y : Int) : (cntI (tdy L) y : Int) ≤ bd := by
  by_cases hy : 0 ≤ y ∧ y < ((sns L).length : Int)
  · obtain ⟨j, rfl⟩ : ∃ j : Nat, y = (j : Int) := ⟨y.toNat, by omega⟩
    rw [← cnt_is, cnt_tdy (by omega)]
    exact h _
  · rw [cntI_none (fun hm => hy (tdy_rng y hm))]; exact h0
theorem sns_card {L : List Int} {M : Nat} {b : Int} (hr : ∀ x ∈ L, 0 ≤ x ∧ x < (M : Int)) (hb : 0 ≤ b ∧ b < (M : Int)) (hn : b ∉ L) : (sns L).length + 1 ≤ M := by
  have hnd : (sns L).Nodup := by have := sns_nodup (L := L) (k := L.length) (Nat.le_refl _); rwa [List.take_length] at this
  have hsub : ∀ x ∈ sns L, x ∈ L := fun x hx => by
    have := sns_sub (L := L) (k := L.length) (Nat.le_refl _) x (by rw [List.take_length]; exact hx)
    exact this
  have := ints_card (n := M) (l := b :: sns L) (fun x hx => by
    rcases List.mem_cons.1 hx with rfl | hx
    · exact hb
    · exact hr x (hsub x hx)) (List.nodup_cons.2 ⟨fun h => hn (hsub b h), hnd⟩)
  simpa using this
theorem tdy_labN {L : List Int} {u w : Nat} (hu : u < L.length) (hw : w < L.length) : (lab (tdy L) (u : Int) = lab (tdy L) (w : Int)) ↔ lab L (u : Int) = lab L (w : Int) := tdy_lab (by simpa using hu) (by simpa using hw)

/-- What puts together leaves. -/
structure JInv (n : Nat) (l : List Arc) (bd : Int) (L0 L : List Int) : Prop where
  right : rightB (n : Int) L = true
  size : ∀ y, (cntI L y : Int) ≤ bd
  coarse : ∀ u v : Nat, u < n → v < n → lab L0 (u : Int) = lab L0 (v : Int) → lab L (u : Int) = lab L (v : Int)
  cut : cutN n l L ≤ cutN n l L0
  gen : ∀ f : Nat → Nat, (∀ u v : Nat, u < n → v < n → lab L0 (u : Int) = lab L0 (v : Int) → f u = f v) → (∀ p ∈ prs n l, f p.1.toNat = f p.2.toNat) → ∀ u v : Nat, u < n → v < n → lab L (u : Int) = lab L (v : Int) → f u = f v
def NoSeam (n : Nat) (l : List Arc) (bd : Int) (L : List Int) : Prop := ∀ p ∈ prs n l, lab L p.1 ≠ lab L p.2 → bd < (cntI L (lab L p.1) : Int) + cntI L (lab L p.2)
def Seam (n : Nat) (l : List Arc) (bd : Int) (L : List Int) (a b : Int) : Prop := ∃ p ∈ prs n l, a ≠ b ∧ ((lab L p.1 = a ∧ lab L p.2 = b) ∨ (lab L p.1 = b ∧ lab L p.2 = a)) ∧ (cntI L a : Int) + cntI L b ≤ bd
theorem JInv.refl {n : Nat} {l : List Arc} {bd : Int} {L : List Int} (h : rightB (n : Int) L = true) (hs : ∀ y, (cntI L y : Int) ≤ bd) : JInv n l bd L L :=
  ⟨h, hs, fun _ _ _ _ e => e, Nat.le_refl _, fun f h1 _ u v hu hv e => h1 u v hu hv e⟩
theorem JInv.step {n : Nat} {l : List Arc} {bd : Int} {L0 L : List Int} (h0 : 0 ≤ bd) (h : JInv n l bd L0 L) {a b : Int} (hs : Seam n l bd L a b) : JInv n l bd L0 (tdy (mrg a b L)) := by
  obtain ⟨p, hp, hne, hlab, hsz⟩ := hs
  have hl := (right_parts h.right).2
  have hml := mrg_len a b L
  have hX : ∀ y, (cntI (mrg a b L) y : Int) ≤ bd := fun y => by
    rw [cntI_mrg hne]
    split
    · omega
    · split
      · exact h0
      · exact h.size y
  have hlabX : ∀ u v : Nat, u < n → v < n → (lab (tdy (mrg a b L)) (u : Int) = lab (tdy (mrg a b L)) (v : Int) ↔ (if lab L (u : Int) = b then a else lab L (u : Int)) = (if lab L (v : Int) = b then a else lab L (v : Int))) := fun u v hu hv => by
    rw [tdy_labN (by omega) (by omega), mrg_lab (by omega), mrg_lab (by omega)]
  refine ⟨right_tdy (by omega), cntI_tdy h0 hX, fun u v hu hv e => ?_, ?_, fun f h1 h2 u v hu hv e => ?_⟩
  · rw [hlabX u v hu hv, h.coarse u v hu hv e]
  · rw [cut_tdy (by omega)]
    refine Nat.le_trans ?_ h.cut
    unfold cutN
    have hsub : ∀ q ∈ prs n l, apart (mrg a b L) q = true → apart L q = true := fun q hq hap => by
      have hr := prs_rng hq
      rw [apart_lab] at hap ⊢
      simp only [decide_eq_true_eq] at hap ⊢
      intro e
      apply hap
      rw [show q.1 = ((q.1.toNat : Nat) : Int) by omega, show q.2 = ((q.2.toNat : Nat) : Int) by omega, mrg_lab (by omega), mrg_lab (by omega)]
      rw [show ((q.1.toNat : Nat) : Int) = q.1 by omega, show ((q.2.toNat : Nat) : Int) = q.2 by omega, e]
    have key : ∀ xs : List Pr, (∀ q ∈ xs, apart (mrg a b L) q = true → apart L q = true) → (xs.filter (apart (mrg a b L))).length ≤ (xs.filter (apart L)).length := by
      intro xs
      induction xs with
      | nil => intro _; simp
      | cons x xs ih =>
        intro hx
        have := ih fun q hq => hx q (List.mem_cons_of_mem _ hq)
        have h1 := hx x (List.mem_cons_self ..)
        rw [List.filter_cons, List.filter_cons]
        split
        · rw [if_pos (h1 (by assumption))]; simp; omega
        · split
          · simp; omega
          · exact this
    exact key _ hsub
  · rw [hlabX u v hu hv] at e
    have hr := prs_rng hp
    have hg := h.gen f h1 h2
    have hab : ∀ x y : Nat, x < n → y < n → lab L (x : Int) = a → lab L (y : Int) = b → f x = f y := fun x y hx hy e1 e2 => by
      have h3 := h2 p hp
      have hp1 : lab L ((p.1.toNat : Nat) : Int) = lab L p.1 := by rw [Int.toNat_of_nonneg hr.1.1]
      have hp2 : lab L ((p.2.toNat : Nat) : Int) = lab L p.2 := by rw [Int.toNat_of_nonneg hr.2.1]
      rcases hlab with ⟨q1, q2⟩ | ⟨q1, q2⟩
      · rw [hg x p.1.toNat hx (by omega) (by rw [hp1, q1]; exact e1), h3]
        exact hg _ _ (by omega) hy (by rw [hp2, q2]; exact e2.symm)
      · rw [hg x p.2.toNat hx (by omega) (by rw [hp2, q2]; exact e1), ← h3]
        exact hg _ _ (by omega) hy (by rw [hp1, q1]; exact e2.symm)
    by_cases e1 : lab L (u : Int) = b <;> by_cases e2 : lab L (v : Int) = b
    · exact hg u v hu hv (e1.trans e2.symm)
    · rw [if_pos e1, if_neg e2] at e
      exact (hab v u hv hu e.symm e1).symm
    · rw [if_neg e1, if_pos e2] at e
      exact hab u v hu hv e e2
    · rw [if_neg e1, if_neg e2] at e
      exact hg u v hu hv e
theorem right_range {n : Nat} {L : List Int} (h : rightB (n : Int) L = true) (hn : 1 ≤ n) : ∀ x ∈ L, 0 ≤ x ∧ x < ((maxL L + 1).toNat : Int) ∧ (maxL L + 1).toNat ≤ n := fun x hx => by
  obtain ⟨h1, h2⟩ := right_parts h
  have hp := rgo_pos h1 x hx
  have hm := le_maxL hx
  have h0 : 0 < L.length := by omega
  have := maxL_le h0 fun y hy => by have := rgo_lt h1 y hy; exact (show y ≤ (n : Int) - 1 by omega)
  omega
/-- Each join leaves a label less. -/
theorem join_less {n : Nat} {L : List Int} {a b : Int} (h : rightB (n : Int) L = true) (hn : 1 ≤ n) (ha : a ∈ L) (hb : b ∈ L) (hne : a ≠ b) : (maxL (tdy (mrg a b L)) + 1).toNat < (maxL L + 1).toNat := by
  obtain ⟨h1, h2⟩ := right_parts h
  have hr := right_range h hn
  have hX : ∀ x ∈ mrg a b L, 0 ≤ x ∧ x < ((maxL L + 1).toNat : Int) := fun x hx => by
    obtain ⟨y, hy, rfl⟩ := List.mem_map.1 hx
    split
    · exact ⟨(hr a ha).1, (hr a ha).2.1⟩
    · exact ⟨(hr y hy).1, (hr y hy).2.1⟩
  have hb' : b ∉ mrg a b L := fun hm => by
    obtain ⟨y, hy, e⟩ := List.mem_map.1 hm
    split at e
    · exact hne e
    · rename_i h3; exact h3 e
  have hc := sns_card hX ⟨(hr b hb).1, (hr b hb).2.1⟩ hb'
  rw [max_tdy (by rw [mrg_len]; omega)]
  omega
end Go.Proofs.YtkmkakpadgljeaaGreat

/- slices.IndexFunc, slices.ContainsFunc, slices.Clone over numbers. -/
namespace Go.Proofs.YtkmkakpadgljeaaGreat
open Go Go.RowKit Fly
set_option linter.unusedVariables false
set_option linter.unusedSimpArgs false


theorem anyG_no {α : Type} {p : α → Bool} {l : List α} {k : Nat} (hk : l.length ≤ k) (h : ∀ j (a : j < l.length), j < k → p l[j] = false) : l.any p = false := List.any_eq_false.2 fun x hx => by
  obtain ⟨i, hi, rfl⟩ := List.mem_iff_getElem.1 hx
  simp [h i hi (by omega)]
theorem anyG_yes {α : Type} {p : α → Bool} {l : List α} {k : Nat} (hk : k < l.length) (h : p l[k] = true) : l.any p = true := List.any_eq_true.2 ⟨_, List.getElem_mem hk, h⟩
theorem ints_oneG (l : List Int) : (ints l).all (·.oneCell') = true := by
  induction l with
  | nil => rfl
  | cons x l ih => rw [show ints (x :: l) = .int .i64 x :: ints l from rfl, List.all_cons, ih]; rfl

end Go.Proofs.YtkmkakpadgljeaaGreat

/- Ranging over a map that the loop does not write, in the words of the small logic. -/

namespace Go.Proofs.YtkmkakpadgljeaaGreat.Fly
open Go Go.RowKit
set_option linter.unusedVariables false
set_option linter.unusedSimpArgs false
set_option linter.unusedSectionVars false

theorem nodup_inj {β γ : Type} {f : β → γ} : ∀ {l : List β} {a b : β}, (l.map f).Nodup → a ∈ l → b ∈ l → f a = f b → a = b
  | [], _, _, _, ha, _, _ => by cases ha
  | x :: l, a, b, h, ha, hb, e => by
    simp only [List.map_cons, List.nodup_cons, List.mem_map, not_exists, not_and] at h
    simp only [List.mem_cons] at ha hb
    rcases ha with rfl | ha <;> rcases hb with rfl | hb
    · rfl
    · exact absurd e.symm (h.1 b hb)
    · exact absurd e (h.1 a ha)
    · exact nodup_inj h.2 ha hb e

section
variable {α : Type} [DecidableEq α]
/-- The keys that have come. -/
structure Came (l : List (α × Value × Nat)) (seen : List Nat) (out : List α) : Prop where
  nodup : out.Nodup
  mem : ∀ e ∈ l, e.1 ∈ out ↔ e.2.2 ∈ seen
  sub : ∀ k ∈ out, k ∈ l.map (·.1)
theorem Came.start {l : List (α × Value × Nat)} : Came l [] [] := ⟨by simp, by simp, by simp⟩
theorem Came.len {l : List (α × Value × Nat)} {seen : List Nat} {out : List α} (h : Came l seen out) : out.length ≤ l.length := by
  have := List.Nodup.length_le_of_subset h.nodup h.sub
  simpa using this
theorem Came.next {l : List (α × Value × Nat)} {c : Nat} {seen : List Nat} {out : List α} (h : Came l seen out) (hok : MOk l c) {e : α × Value × Nat} (he : e ∈ l) (hne : e.2.2 ∉ seen) : Came l (seen ++ [e.2.2]) (out ++ [e.1]) where
  nodup := by
    rw [List.nodup_append]
    refine ⟨h.nodup, by simp, fun a ha b hb e' => ?_⟩
    simp only [List.mem_singleton] at hb
    subst hb; subst e'
    exact hne ((h.mem e he).1 ha)
  mem := fun x hx => by
    simp only [List.mem_append, List.mem_singleton]
    rw [h.mem x hx]
    constructor
    · rintro (h1 | h1)
      · exact .inl h1
      · exact .inr (by rw [nodup_inj hok.keys hx he h1])
    · rintro (h1 | h1)
      · exact .inl h1
      · exact .inr (by rw [nodup_inj (f := fun x => x.2.2) hok.born hx he h1])
  sub := fun k hk => by
    simp only [List.mem_append, List.mem_singleton] at hk
    rcases hk with hk | rfl
    · exact h.sub k hk
    · exact List.mem_map.2 ⟨e, he, rfl⟩
theorem Came.all {l : List (α × Value × Nat)} {seen : List Nat} {out : List α} (h : Came l seen out) (ha : ∀ e ∈ l, e.2.2 ∈ seen) (k : α) : k ∈ out ↔ k ∈ l.map (·.1) :=
  ⟨h.sub k, fun hk => by obtain ⟨e, he, rfl⟩ := List.mem_map.1 hk; exact (h.mem e he).2 (ha e he)⟩
/-- An iterator over a map's block: the stamps of what it has handed out. -/
abbrev itObj (bm c : Nat) (seen : List Nat) : Obj := .mapIter (some bm) c seen.toArray c

variable {P : Program} {n : Nat} {S : Nat → Prop} {w0 : World} {env : Env} {segs : List Seg} {K : Value → List Seg → Prop} {d : Option Tmp} {ty : TypeId} {pos : String} {af : Array Edge} {g : Option (Nat × Bool)} {M k E : TypeId} {enc : α → Value}

theorem o_range {x : Operand} {bm : Nat} {l : List (α × Value × Nat)} {c : Nat} {f : Seg → List Seg} (KT : KeyT P M k E enc) (hx : ev env x = some (.map (some bm))) [hA : At segs bm (mobj enc l c) f]
    (kk : ∀ b, K (.pointer (some ⟨b, 0, none⟩)) ([(b, itObj bm c [])] :: segs)) : Does P n S w0 env segs ⟨d, .range M x, ty, pos, af, g⟩ K :=
  does_of fun a w ha hp => by
    have hb := hp.own bm _ hA.mem
    refine ⟨_, _, w.alloc (itObj bm c []), .inl ?_, by simpa using hp.alloc (itObj bm c []), kk w.heap.size⟩
    simp only [execOp, ha.eval hx, Sem.run_bind, run_range_map w M k E bm _ c KT.und hb, Result.andThen_ok, Sem.run_pure]

theorem left_list (l : List (α × Value × Nat)) (seen : List Nat) : (leftOf (l.map fun x => (⟨enc x.1, x.2.1, x.2.2⟩ : MapEntry)).toArray seen.toArray).toList = (l.filter fun x => !seen.contains x.2.2).map fun x => (⟨enc x.1, x.2.1, x.2.2⟩ : MapEntry) := by
  unfold leftOf
  simp [List.filter_map, Function.comp_def]

theorem run_next_at {w : World} {r bm c : Nat} {seen : List Nat} {l : List (α × Value × Nat)} (ty : TypeId) (hr : w.heap[r]? = some (itObj bm c seen)) (hb : w.heap[bm]? = some (mobj enc l c)) (hok : MOk l c) :
    ((∀ e ∈ l, e.2.2 ∈ seen) ∧ (Instr.next (.pointer (some ⟨r, 0, none⟩)) false ty).run P w = .ok (.tuple #[.bool false]) w) ∨
    ∃ e ∈ l, e.2.2 ∉ seen ∧ ∃ w1 : World, w1.heap = w.heap ∧ w1.os = w.os ∧ w1.tape = w.tape ∧ w1.output = w.output ∧ w.drawn ≤ w1.drawn ∧ (Instr.next (.pointer (some ⟨r, 0, none⟩)) false ty).run P w = .ok (.tuple #[.bool true, enc e.1, e.2.1]) { w1 with heap := w1.heap.setIfInBounds r (itObj bm c (seen ++ [e.2.2])) } := by
  have hold : ∀ x ∈ ((l.map fun x => (⟨enc x.1, x.2.1, x.2.2⟩ : MapEntry)).toArray).toList, x.born < c := fun x hx => by
    simp at hx
    obtain ⟨a, b, s, h, rfl⟩ := hx
    exact hok.old _ h
  simp only [Instr.next, getObj, Sem.run_bind, Sem.run, hr, hb, Result.andThen, next_test_false seen.toArray _ c c hold (Nat.le_refl _), Bool.false_eq_true, if_false]
  have hL := left_list (enc := enc) l seen
  unfold leftOf at hL
  have hmem : ∀ x ∈ (Array.filter (fun e => !seen.toArray.contains e.born) (l.map fun x => (⟨enc x.1, x.2.1, x.2.2⟩ : MapEntry)).toArray).toList, x.born < c := fun x hx => hold x (by simp at hx ⊢; exact hx.1)
  generalize Array.filter (fun e => !seen.toArray.contains e.born) (l.map fun x => (⟨enc x.1, x.2.1, x.2.2⟩ : MapEntry)).toArray = L at hL hmem ⊢
  have e1 : L.filter (fun x => decide (x.born < c)) = L := Array.filter_eq_self.2 (fun x hx => by simpa using hmem x (by simpa using hx))
  have e2 : L.filter (fun x => decide (x.born ≥ c)) = #[] := by
    rw [Array.filter_eq_empty_iff]
    intro x hx
    have := hmem x (by simpa using hx)
    simp; omega
  simp only [e1, e2, Array.append_empty]
  by_cases h0 : L.size = 0
  · left
    have : L = #[] := Array.eq_empty_of_size_eq_zero h0
    subst this
    refine ⟨fun e he => ?_, by simp [choose, Sem.run, Question.forced]⟩
    have hL' := hL.symm
    simp only [List.map_eq_nil_iff] at hL'
    rw [List.filter_eq_nil_iff] at hL'
    have := hL' e he
    simpa using this
  · right
    have hne : L.isEmpty = false := by simp [Array.isEmpty, h0]
    simp only [hne, Bool.false_eq_true, if_false, Array.empty_append, Array.size_map]
    have hch : ∃ (j : Nat) (w1 : World), j < L.size ∧ w1.heap = w.heap ∧ w1.os = w.os ∧ w1.tape = w.tape ∧ w1.output = w.output ∧ w.drawn ≤ w1.drawn ∧ (choose (Question.mapNext L.size)).run P w = .ok j w1 := by
      by_cases hf : L.size ≤ 1
      · exact ⟨0, w, by omega, rfl, rfl, rfl, rfl, Nat.le_refl _, by simp [choose, Sem.run, Question.forced, hf]⟩
      · exact ⟨_, w.drew, Nat.mod_lt _ (by omega), rfl, rfl, rfl, rfl, Nat.le_succ _, by
          simp only [choose, Sem.run, Question.forced, decide_eq_true_eq, hf, if_false, Question.cut]
          rfl⟩
    obtain ⟨j, w1, hj, q1, q2, q3, q4, q5, hrun⟩ := hch
    have hLj : L[j] ∈ L.toList := by simp
    rw [hL] at hLj
    obtain ⟨e, he, hee⟩ := List.mem_map.1 hLj
    obtain ⟨he1, he2⟩ := List.mem_filter.1 he
    refine ⟨e, he1, by simpa using he2, w1, q1, q2, q3, q4, q5, ?_⟩
    have hset : (setObj r (itObj bm c (seen ++ [e.2.2]))).run P w1 = .ok () { w1 with heap := w1.heap.setIfInBounds r (itObj bm c (seen ++ [e.2.2])) } := by
      simp only [setObj, Sem.run]
      rw [q1, hr]
    have hps : seen.toArray.push L[j].born = (seen ++ [e.2.2]).toArray := by rw [← hee]; simp
    simp only [hrun, Array.getElem?_map, Array.getElem?_eq_getElem hj, Option.map_some, Sem.run_bind, hps, hset, Result.andThen]
    rw [← hee]
    rfl

theorem o_next {x : Operand} {r bm c : Nat} {seen : List Nat} {l : List (α × Value × Nat)} {f f' : Seg → List Seg} (hok : MOk l c) (hx : ev env x = some (.pointer (some ⟨r, 0, none⟩))) [hA : At segs r (itObj bm c seen) f] [hB : At segs bm (mobj enc l c) f']
    (kend : (∀ e ∈ l, e.2.2 ∈ seen) → K (.tuple #[.bool false]) segs) (kmore : ∀ e ∈ l, e.2.2 ∉ seen → K (.tuple #[.bool true, enc e.1, e.2.1]) (f [(r, itObj bm c (seen ++ [e.2.2]))])) :
    Does P n S w0 env segs ⟨d, .next x false, ty, pos, af, g⟩ K :=
  does_of fun a w ha hp => by
    have hr := hp.own r _ hA.mem
    have hb := hp.own bm _ hB.mem
    obtain ⟨L, R, e1, e2⟩ := hA.flat
    rcases run_next_at (P := P) (enc := enc) ty hr hb hok with ⟨h1, h2⟩ | ⟨e, he, hne, w1, q1, q2, q3, q4, q5, h2⟩
    · exact ⟨_, _, w, .inl (by simp [execOp, ha.eval hx, h2]), hp, kend h1⟩
    · refine ⟨_, _, { w1 with heap := w1.heap.setIfInBounds r (itObj bm c (seen ++ [e.2.2])) }, .inl (by simp [execOp, ha.eval hx, h2]), ?_, kmore e he hne⟩
      rw [e2]
      rw [e1] at hp
      have hlt : r < w.heap.size := by
        rcases Nat.lt_or_ge r w.heap.size with h' | h'
        · exact h'
        · rw [Array.getElem?_eq_none h'] at hr; cases hr
      refine hp.put (by exact q2) (by exact q3) (by exact q4) (by simp [q1]) (by exact q5) (by simp [q1, hlt]) (fun k hk => ?_)
      have : r ≠ k := fun e => hk e.symm
      simp [q1, Array.getElem?_setIfInBounds, this]

/-- What a step of the iterator says. -/
def Nx (l : List (α × Value × Nat)) (seen : List Nat) (b : Bool) (seen' : List Nat) : Prop := (b = true ∧ ∃ e ∈ l, e.2.2 ∉ seen ∧ seen' = seen ++ [e.2.2]) ∨ (b = false ∧ seen' = seen ∧ ∀ e ∈ l, e.2.2 ∈ seen)

theorem o_next1 {x : Operand} {r bm c : Nat} {seen : List Nat} {l : List (α × Value × Nat)} {f f' : Seg → List Seg} (hok : MOk l c) (hx : ev env x = some (.pointer (some ⟨r, 0, none⟩))) [hA : At segs r (itObj bm c seen) f] [hB : At segs bm (mobj enc l c) f']
    (kk : ∀ (b : Bool) (rest : List Value) (seen' : List Nat), Nx l seen b seen' → K (.tuple (.bool b :: rest).toArray) (f [(r, itObj bm c seen')])) :
    Does P n S w0 env segs ⟨d, .next x false, ty, pos, af, g⟩ K :=
  o_next hok hx (fun h => by
    have e : f [(r, itObj bm c seen)] = segs := by
      obtain ⟨L, R, e1, e2⟩ := hA.eq
      rw [e1, e2]
    have := kk false [] seen (.inr ⟨rfl, rfl, h⟩)
    rwa [e] at this) fun e he hne => kk true [enc e.1, e.2.1] _ (.inl ⟨rfl, e, he, hne, rfl⟩)

theorem o_entry {x : Operand} {r bm c : Nat} {seen : List Nat} {l : List (α × Value × Nat)} {e : α × Value × Nat} {f f' : Seg → List Seg} (hok : MOk l c) (he : e ∈ l) (hx : ev env x = some (.pointer (some ⟨r, 0, none⟩))) [hA : At segs r (itObj bm c (seen ++ [e.2.2])) f] [hB : At segs bm (mobj enc l c) f'] :
    Pure P n S w0 env segs ⟨d, .entry x, ty, pos, af, g⟩ (.tuple #[enc e.1, e.2.1]) :=
  fun a w ha hp => by
    have hr := hp.own r _ hA.mem
    have hb := hp.own bm _ hB.mem
    have hf : ((l.map fun x => (⟨enc x.1, x.2.1, x.2.2⟩ : MapEntry)).toArray).find? (·.born == e.2.2) = some ⟨enc e.1, e.2.1, e.2.2⟩ := by
      rw [← Array.find?_toList]
      exact find_born ⟨enc e.1, e.2.1, e.2.2⟩ _ (by simp only [List.map_map]; exact hok.born) (List.mem_map.2 ⟨e, he, rfl⟩)
    have hbk : (seen ++ [e.2.2]).toArray.back? = some e.2.2 := by simp
    have : (Instr.entry (.pointer (some ⟨r, 0, none⟩))).run P w = .ok (.tuple #[enc e.1, e.2.1]) w := by
      simp only [Instr.entry, getObj, Sem.run_bind, Sem.run, hr, hb, Result.andThen, hbk, bne_self_eq_false, Bool.false_eq_true, if_false, hf]
      rfl
    simp [execOp, ha.eval hx, this]

theorem o_makeC {T E sz bytes : Nat} {z : List Value} {x y : Operand} {kx ky : IntKind} {N : Int} (hT : ElT P T E sz bytes z) (hx : ev env x = some (.int kx 0)) (hy : ev env y = some (.int ky N)) (m : Nat) (hm : N = (m : Int)) (hb : bytes * m ≤ 281474976710656)
    (hN : m ≤ 9223372036854775807) (kk : ∀ b, K (.slice (some ⟨b, 0, none⟩) 0 m) ([(b, blk (List.replicate m z).flatten E)] :: segs)) : Does P n S w0 env segs ⟨d, .makeSlice T x y, ty, pos, af, g⟩ K :=
  does_of fun a w ha hp => by
    obtain ⟨i, v, hi, hz, hc, rfl, rfl⟩ := hT.i
    subst hm
    have hr := run_make (P := P) w T E i v hT.und hi hz kx ky 0 m (by omega) (by omega) (by rw [← Int.natCast_mul]; omega) (by omega)
    rw [Int.toNat_natCast, hc, ← hT.len, madeCells_flat z m (by rw [hT.len]; exact hT.pos)] at hr
    refine ⟨.slice (some ⟨w.heap.size, 0, none⟩) 0 m, [(w.heap.size, blk (List.replicate m z).flatten E)] :: segs, w.alloc (blk (List.replicate m z).flatten E), .inl ?_, hp.alloc _, kk w.heap.size⟩
    simp only [execOp, ha.eval hx, ha.eval hy, hr, Sem.run_bind, Result.andThen_ok, Sem.run_pure]
    rfl

/-- An array's slice. -/
theorem o_sliceA {T E n' sz b : Nat} {x : Operand} (hT : P.underlying T = some (.array n' E)) (hs : ∀ w, (Go.sizeOf E).run P w = .ok sz w) (hx : ev env x = some (.pointer (some ⟨b, 0, none⟩))) : Pure P n S w0 env segs ⟨d, .slice T x none none none, ty, pos, af, g⟩ (.slice (some ⟨b, 0, none⟩) n' n') :=
  fun a w ha _ => by
    simp [execOp, Instr.sliceAt, run_underlying hT, ha.eval hx, Instr.sureAddr, Instr.sliceBounds, hs, Sem.run_bind, Addr.add]
end
end Go.Proofs.YtkmkakpadgljeaaGreat.Fly

/- split.tidy, split.looked, natcut.Pairs, the order of seams, the least of them. -/
namespace Go.Proofs.YtkmkakpadgljeaaGreat
open Go Go.RowKit Fly
set_option linter.unusedVariables false
set_option linter.unusedSimpArgs false


theorem own_intsG {E b c : Nat} {L L2 : List Int} {sp : List Value} (h : Own E 1 (.slice (some ⟨b, 0, none⟩) L.length c) L.length (ints L) [(b, blk (ints L ++ sp) E)]) (hl : L2.length = L.length) : Own E 1 (.slice (some ⟨b, 0, none⟩) L2.length c) L2.length (ints L2) [(b, blk (ints L2 ++ sp) E)] := by
  obtain ⟨_, h | ⟨b', c', sp', e, hm, h1, h2, h3⟩⟩ := h
  · obtain ⟨e, _⟩ := h; cases e
  · cases e
    have hsp : ints L ++ sp = ints L ++ sp' := by simpa using hm
    have hsp := List.append_cancel_left hsp
    subst hsp
    exact ⟨by simp [ints], .inr ⟨b, c, sp, rfl, rfl, by omega, h2, by rw [hl]; exact h3⟩⟩
def spE (N : Int) (l : List Arc) (L : List Int) (bd : Int) : Int := if (lcount N l L).2 ≠ 0 then (lcount N l L).2 else if bd < 1 ∨ 1024 < bd then 1 else 0
/-- A seam: two labels, how many pairs. -/
abbrev Sm := Int × Int × Int
def smCs (s : Sm) : List Value := [.int .i64 s.1, .int .i64 s.2.1, .int .i64 s.2.2]
theorem smCs_len (s : Sm) : (smCs s).length = 3 := rfl
def befI (s t : Sm) : Int := if s.2.2 ≠ t.2.2 then t.2.2 - s.2.2 else if s.1 ≠ t.1 then s.1 - t.1 else s.2.1 - t.2.1
theorem befI_flip {s t : Sm} (h : ¬ befI s t < 0) : befI t s ≤ 0 := by
  unfold befI at h ⊢
  by_cases h1 : s.2.2 = t.2.2
  · rw [if_neg (by omega)] at h; rw [if_neg (by omega)]
    by_cases h2 : s.1 = t.1
    · rw [if_neg (by omega)] at h; rw [if_neg (by omega)]; omega
    · rw [if_pos (by omega)] at h; rw [if_pos (by omega)]; omega
  · rw [if_pos (by omega)] at h; rw [if_pos (by omega)]; omega
theorem befI_refl (s : Sm) : befI s s ≤ 0 := by unfold befI; simp
theorem befI_trans {s t u : Sm} (h : befI s t < 0) (h' : befI t u ≤ 0) : befI s u ≤ 0 := by
  unfold befI at h h' ⊢
  by_cases h1 : s.2.2 = t.2.2
  · rw [if_neg (by omega)] at h
    by_cases h2 : t.2.2 = u.2.2
    · rw [if_neg (by omega)] at h' ⊢
      by_cases h3 : s.1 = t.1
      · rw [if_neg (by omega)] at h
        by_cases h4 : t.1 = u.1
        · rw [if_neg (by omega)] at h'; rw [if_neg (by omega)]; omega
        · rw [if_pos (by omega)] at h'; rw [if_pos (by omega)]; omega
      · rw [if_pos (by omega)] at h
        by_cases h4 : t.1 = u.1
        · rw [if_pos (by omega)]; omega
        · rw [if_pos (by omega)] at h'; rw [if_pos (by omega)]; omega
    · rw [if_pos (by omega)] at h' ⊢; omega
  · rw [if_pos (by omega)] at h
    by_cases h2 : t.2.2 = u.2.2
    · rw [if_pos (by omega)]; omega
    · rw [if_pos (by omega)] at h'; rw [if_pos (by omega)]; omega
theorem take_all {l : List Sm} {s : Sm} {i : Nat} (hi : i < l.length) (h : ∀ t ∈ l.take i, befI s t ≤ 0) : (befI l[i] s < 0 → ∀ t ∈ l.take (i + 1), befI l[i] t ≤ 0) ∧ (¬ befI l[i] s < 0 → ∀ t ∈ l.take (i + 1), befI s t ≤ 0) := by
  rw [List.take_succ_eq_append_getElem hi]
  constructor
  · intro h1 t ht
    rcases List.mem_append.1 ht with ht | ht
    · exact befI_trans h1 (h t ht)
    · obtain rfl := List.mem_singleton.1 ht; exact befI_refl _
  · intro h1 t ht
    rcases List.mem_append.1 ht with ht | ht
    · exact h t ht
    · obtain rfl := List.mem_singleton.1 ht; exact befI_flip h1
def SmOk (s : Sm) : Prop := (0 ≤ s.1 ∧ s.1 ≤ 1048576) ∧ (0 ≤ s.2.1 ∧ s.2.1 ≤ 1048576) ∧ 0 ≤ s.2.2 ∧ s.2.2 ≤ 1048576

set_option maxRecDepth 100000 in
set_option maxHeartbeats 4000000 in
theorem splook_spec (N : Int) (A B : Option Addr) (l : List Arc) (cap : Nat) (L : List Int) (cb : Nat) (bd : Int) (w : World) (hr : Ro (Fr w []) w A (l.flatMap arcCs)) (hl : l.length ≤ 9223372036854775807) (hN : I64 N) (hok : ∀ x ∈ l, ArcOk x) (hL : Ro (Fr w []) w B (ints L)) (hm : L.length ≤ 9223372036854775807) :
    Meets Tryz.prog 86 [.agg #[.int .i64 N, .slice A l.length cap], .slice B L.length cb, .int .i64 bd] w [] (fun u own' => u = .int .i64 (spE N l L bd) ∧ own' = []) := by
 refine f_enter Tryz.func86 rfl Tryz.ntmps86 rfl Owns.nil ?_
 refine f_seq fun K1 kh1 => ?_
 refine f_region ?_
 refine f_step rfl rfl rfl (o_box rfl rfl fun b3 => ?_)
 refine f_stepP rfl rfl rfl (o_assign rfl) ?_
 refine f_done ?_
 refine f_tn (kh1 _ _ ?_)
 clear kh1
 refine f_seq fun K2 kh2 => ?_
 refine f_seq fun K3 kh3 => ?_
 refine f_region ?_
 refine f_stepP rfl rfl rfl (o_loadA (vs := [_, _]) Tryz.isAgg24 Tryz.sizeOf24 rfl rfl ⟨(rdA rfl), (rdA rfl), trivial⟩) ?_
 refine f_stepP rfl rfl rfl (o_move rfl) ?_
 refine f_step rfl rfl rfl (o_call Tryz.call81 rfl (fun w_ hp_ => Count_spec N A B l cap L cb w_ (hr.up0 hp_) hl hN hok (hL.up0 hp_) hm) ?_)
 rintro _ _ ⟨rfl, rfl⟩
 dsimp only [List.cons_append, List.nil_append]
 refine f_stepP rfl rfl rfl (o_move rfl) ?_
 refine f_stepP rfl rfl rfl (o_extract rfl rfl) ?_
 refine f_stepP rfl rfl rfl (o_extract rfl rfl) ?_
 refine f_stepP rfl rfl rfl (o_assign rfl) ?_
 refine f_stepP rfl rfl rfl (o_assign rfl) ?_
 refine f_done ?_
 refine f_tn (kh3 _ _ ?_)
 clear kh3
 refine f_seq fun K4 kh4 => ?_
 refine f_region ?_
 refine f_stepP rfl rfl rfl (o_move rfl) ?_
 refine f_stepP rfl rfl rfl (o_neq rfl rfl) ?_
 refine f_done ?_
 refine f_tn (kh4 _ _ ?_)
 clear kh4
 refine f_cond rfl (fun c16 => ?_) (fun c16 => ?_)
 ·
  refine f_seq fun K5 kh5 => ?_
  refine f_region ?_
  refine f_stepP rfl rfl rfl (o_move rfl) ?_
  refine f_stepP rfl rfl rfl (o_assign rfl) ?_
  refine f_done ?_
  refine f_tn (kh5 _ _ ?_)
  clear kh5
  refine f_ret ?_
  refine f_tr ?_
  exact f_fin1 [] Tryz.results86 rfl Sub.nil ⟨by unfold spE; rw [if_pos c16], rfl⟩
 ·
  refine f_skip ?_
  refine f_tn (kh2 _ _ ?_)
  clear kh2
  refine f_seq fun K6 kh6 => ?_
  refine f_seq fun K7 kh7 => ?_
  refine f_region ?_
  refine f_stepP rfl rfl rfl (o_move rfl) ?_
  refine f_stepP rfl rfl rfl (o_lss rfl rfl) ?_
  refine f_stepP rfl rfl rfl (o_move rfl) ?_
  refine f_splitL 20 rfl (fun g20 => ?_) (fun g20 => ?_)
  ·
   refine f_stepN rfl rfl rfl rfl rfl rfl ?_
   refine f_stepN rfl rfl rfl rfl rfl rfl ?_
   refine f_stepP rfl rfl rfl (o_pickT rfl rfl) ?_
   refine f_done ?_
   refine f_tn (kh7 _ _ ?_)
   clear kh7
   refine f_condT rfl ?_
   refine f_seq fun K8 kh8 => ?_
   refine f_region ?_
   refine f_stepP rfl rfl rfl (o_assign rfl) ?_
   refine f_done ?_
   refine f_tn (kh8 _ _ ?_)
   clear kh8
   refine f_ret ?_
   refine f_tr ?_
   exact f_fin1 [] Tryz.results86 rfl Sub.nil ⟨by unfold spE; rw [if_neg c16, if_pos (by omega)], rfl⟩
  ·
   refine f_stepPY rfl rfl rfl rfl rfl (o_move rfl) ?_
   refine f_stepPY rfl rfl rfl rfl rfl (o_gtr rfl rfl) ?_
   refine f_stepP rfl rfl rfl (o_pickF rfl rfl) ?_
   refine f_done ?_
   refine f_tn (kh7 _ _ ?_)
   clear kh7
   refine f_cond rfl (fun c23 => ?_) (fun c23 => ?_)
   ·
    refine f_seq fun K9 kh9 => ?_
    refine f_region ?_
    refine f_stepP rfl rfl rfl (o_assign rfl) ?_
    refine f_done ?_
    refine f_tn (kh9 _ _ ?_)
    clear kh9
    refine f_ret ?_
    refine f_tr ?_
    exact f_fin1 [] Tryz.results86 rfl Sub.nil ⟨by unfold spE; rw [if_neg c16, if_pos (by omega)], rfl⟩
   ·
    refine f_skip ?_
    refine f_tn (kh6 _ _ ?_)
    clear kh6
    refine f_seq fun K10 kh10 => ?_
    refine f_region ?_
    refine f_stepP rfl rfl rfl (o_assign rfl) ?_
    refine f_done ?_
    refine f_tn (kh10 _ _ ?_)
    clear kh10
    refine f_ret ?_
    exact f_fin1 [] Tryz.results86 rfl Sub.nil ⟨by unfold spE; rw [if_neg c16, if_neg (by omega)], rfl⟩

end Go.Proofs.YtkmkakpadgljeaaGreat

/- Nests: which are right. Plain laws. -/

namespace Go.Proofs.YtkmkakpadgljeaaGreat
open Go Fly
set_option linter.unusedVariables false
set_option linter.unusedSimpArgs false
set_option linter.unusedSectionVars false

theorem lc_zeroN {N : Int} {l : List Arc} {L : List Int} (hg : (gcheck N l).2 = 0) (hR : rightB N L = true) : (lcount N l L).2 = 0 := by
  unfold lcount
  rw [if_neg (by rw [hg]; simp), if_neg (by rw [hR]; simp)]
theorem spE_oneN {N : Int} {l : List Arc} {L : List Int} {bd : Int} (hg : (gcheck N l).2 = 0) (hR : rightB N L = true) (hb : 1 ≤ bd ∧ bd ≤ 1024) : spE N l L bd = 0 := by
  unfold spE
  rw [if_neg (by rw [lc_zeroN hg hR]; simp), if_neg (by omega)]
/-- Of right labels each one is borne. -/
theorem right_cntN {n : Nat} {L : List Int} (hR : rightB (n : Int) L = true) (hn : 1 ≤ n) {j : Nat} (hj : j < (maxL L + 1).toNat) : 1 ≤ cnt L j := by
  have hl := (right_parts hR).2
  have e : L = tdy L := right_unique hR (right_tdy hl) fun u v hu hv => (tdy_labN (by omega) (by omega)).symm
  have hm := max_tdy (L := L) (by omega)
  rw [← e] at hm
  have hjs : j < (sns L).length := by omega
  rw [e, cnt_tdy hjs]
  have hmem : (sns L)[j] ∈ L := by
    have := sns_sub (L := L) (k := L.length) (Nat.le_refl _) (sns L)[j] (by rw [List.take_length]; exact List.getElem_mem _)
    exact this
  have := cntI_pos hmem
  unfold cntI at this
  omega
theorem max_cntN {L : List Int} (h0 : 0 < (sizesL L).length) {bd : Int} (h : ∀ y, (cntI L y : Int) ≤ bd) : maxL (sizesL L) ≤ bd := maxL_le h0 fun x hx => by
  unfold sizesL szs at hx
  obtain ⟨j, _, rfl⟩ := List.mem_map.1 hx
  exact h j
theorem lc_right {N : Int} {l : List Arc} {L : List Int} (hg : (gcheck N l).2 = 0) (h : (lcount N l L).2 = 0) : rightB N L = true := by
  unfold lcount at h
  rw [if_neg (by rw [hg]; simp)] at h
  by_cases hR : rightB N L = false
  · rw [if_pos hR] at h; cases h
  · simpa using hR

/-- What is wrong with a level of cells, by itself. -/
def firstE (N : Int) (l : List Arc) (c : List Int) (b : Int) : Int := if (lcount N l c).2 ≠ 0 then (lcount N l c).2 else if b < maxL (sizesL c) then 90 else 0
/-- Who is together below is together above. -/
def withinP (b a : List Int) : Prop := ∀ u, u < b.length → ∀ v, v < b.length → b.getD u 0 = b.getD v 0 → a.getD u 0 = a.getD v 0
instance (b a : List Int) : Decidable (withinP b a) := by unfold withinP; infer_instance
def blwB (bs : List Int) : Nat → Int
  | 0 => 0
  | k + 1 => bs.getD k 0
/-- What is wrong with a level. -/
def lvE (N : Int) (l : List Arc) (bs : List Int) (L : List (List Int)) (k : Nat) : Int :=
  if bs.getD k 0 ≤ blwB bs k ∨ 1024 < bs.getD k 0 then 1 else if firstE N l (L.getD k []) (bs.getD k 0) ≠ 0 then firstE N l (L.getD k []) (bs.getD k 0) else if 0 < k ∧ ¬ withinP (L.getD (k - 1) []) (L.getD k []) then 110 else 0
def nsE (N : Int) (l : List Arc) (bs : List Int) (L : List (List Int)) : Int × Int :=
  if (gcheck N l).2 ≠ 0 then (0, (gcheck N l).2) else if bs.length < 1 ∨ 5 < bs.length ∨ L.length ≠ bs.length then (0, 111) else
  match (List.range bs.length).find? (fun k => decide (lvE N l bs L k ≠ 0)) with
  | some k => ((k : Int) + 1, lvE N l bs L k)
  | none => (0, 0)
theorem find_first {m k : Nat} {p : Nat → Bool} (hk : k < m) (h : ∀ j, j < k → p j = false) (hp : p k = true) : (List.range m).find? p = some k := by
  rw [List.find?_eq_some_iff_getElem]
  exact ⟨hp, k, by simpa using hk, by simp, fun j hj => by simp [h j hj]⟩
theorem find_none {m : Nat} {p : Nat → Bool} (h : ∀ j, j < m → p j = false) : (List.range m).find? p = none := by
  rw [List.find?_eq_none]
  intro x hx
  simp [h x (by simpa using hx)]
theorem nsE_at {N : Int} {l : List Arc} {bs : List Int} {L : List (List Int)} (hg : (gcheck N l).2 = 0) (hm : ¬ (bs.length < 1 ∨ 5 < bs.length ∨ L.length ≠ bs.length)) {k : Nat} (hk : k < bs.length) (h : ∀ j, j < k → lvE N l bs L j = 0) (hp : lvE N l bs L k ≠ 0) :
    nsE N l bs L = ((k : Int) + 1, lvE N l bs L k) := by
  unfold nsE
  rw [if_neg (by rw [hg]; simp), if_neg hm, find_first hk (fun j hj => by simp [h j hj]) (by simpa using hp)]
theorem nsE_none {N : Int} {l : List Arc} {bs : List Int} {L : List (List Int)} (hg : (gcheck N l).2 = 0) (hm : ¬ (bs.length < 1 ∨ 5 < bs.length ∨ L.length ≠ bs.length)) (h : ∀ j, j < bs.length → lvE N l bs L j = 0) : nsE N l bs L = (0, 0) := by
  unfold nsE
  rw [if_neg (by rw [hg]; simp), if_neg hm, find_none fun j hj => by simp [h j hj]]
/-- A right nest. -/
structure NestOk (n : Nat) (l : List Arc) (bs : List Int) (L : List (List Int)) : Prop where
  g : (gcheck (n : Int) l).2 = 0
  many : 1 ≤ bs.length ∧ bs.length ≤ 5
  len : L.length = bs.length
  lv : ∀ k, k < bs.length → lvE (n : Int) l bs L k = 0
theorem nsE_zero {N : Int} {l : List Arc} {bs : List Int} {L : List (List Int)} (h : (nsE N l bs L).2 = 0) : ∃ n : Nat, N = (n : Int) ∧ NestOk n l bs L := by
  unfold nsE at h
  by_cases hg : (gcheck N l).2 = 0
  · rw [if_neg (by rw [hg]; simp)] at h
    by_cases hm : bs.length < 1 ∨ 5 < bs.length ∨ L.length ≠ bs.length
    · rw [if_pos hm] at h; cases h
    · rw [if_neg hm] at h
      have hz := gcheck_zero hg
      obtain ⟨n, rfl⟩ : ∃ n : Nat, N = (n : Int) := ⟨N.toNat, by omega⟩
      refine ⟨n, rfl, hg, by omega, by omega, fun k hk => ?_⟩
      split at h
      · rename_i j hj
        have := List.find?_some hj
        simp only [decide_eq_true_eq] at this
        exact absurd h this
      · rename_i hn
        rw [List.find?_eq_none] at hn
        have := hn k (by simpa using hk)
        simpa using this
  · rw [if_pos hg] at h; exact absurd h hg
theorem NestOk.zero {n : Nat} {l : List Arc} {bs : List Int} {L : List (List Int)} (h : NestOk n l bs L) : nsE (n : Int) l bs L = (0, 0) := nsE_none h.g (by have := h.many; have := h.len; omega) h.lv
/-- A right level. -/
theorem lvE_zero {n : Nat} {l : List Arc} {bs : List Int} {L : List (List Int)} (hg : (gcheck (n : Int) l).2 = 0) {k : Nat} : lvE (n : Int) l bs L k = 0 ↔
    (blwB bs k < bs.getD k 0 ∧ bs.getD k 0 ≤ 1024) ∧ rightB (n : Int) (L.getD k []) = true ∧ (∀ y, (cntI (L.getD k []) y : Int) ≤ bs.getD k 0) ∧ (0 < k → withinP (L.getD (k - 1) []) (L.getD k [])) := by
  have hn := gcheck_zero hg
  have hF : firstE (n : Int) l (L.getD k []) (bs.getD k 0) = 0 ↔ rightB (n : Int) (L.getD k []) = true ∧ ∀ y, (cntI (L.getD k []) y : Int) ≤ bs.getD k 0 := by
    unfold firstE
    constructor
    · intro h
      by_cases h1 : (lcount (n : Int) l (L.getD k [])).2 = 0
      · have hR := lc_right hg h1
        rw [if_neg (by rw [h1]; simp)] at h
        refine ⟨hR, fun y => ?_⟩
        have hmx : maxL (sizesL (L.getD k [])) ≤ bs.getD k 0 := by
          by_cases h2 : bs.getD k 0 < maxL (sizesL (L.getD k []))
          · rw [if_pos h2] at h; cases h
          · omega
        have hrg := right_range hR (by omega)
        by_cases hy : y ∈ L.getD k []
        · have h3 := hrg y hy
          obtain ⟨j, rfl⟩ : ∃ j : Nat, y = (j : Int) := ⟨y.toNat, by omega⟩
          have h4 : (cnt (L.getD k []) j : Int) ∈ sizesL (L.getD k []) := by
            unfold sizesL szs
            exact List.mem_map.2 ⟨j, by rw [List.mem_range]; omega, rfl⟩
          have := le_maxL h4
          rw [cnt_is] at this; omega
        · rw [cntI_none hy]
          have h0 : 0 < (L.getD k []).length := by have := (right_parts hR).2; omega
          have h5 := hrg _ (List.getElem_mem h0)
          have h6 : (cnt (L.getD k []) 0 : Int) ∈ sizesL (L.getD k []) := by
            unfold sizesL szs
            exact List.mem_map.2 ⟨0, by rw [List.mem_range]; omega, rfl⟩
          have := le_maxL h6
          omega
      · rw [if_pos h1] at h; exact absurd h h1
    · rintro ⟨hR, hs⟩
      have h1 := lc_zeroN hg hR
      have hrg := right_range hR (by omega)
      have h0 : 0 < (L.getD k []).length := by have := (right_parts hR).2; omega
      have h5 := hrg _ (List.getElem_mem h0)
      rw [if_neg (by rw [h1]; simp), if_neg]
      have := max_cntN (L := L.getD k []) (by unfold sizesL; rw [szs_len]; omega) hs
      omega
  unfold lvE
  by_cases h1 : bs.getD k 0 ≤ blwB bs k ∨ 1024 < bs.getD k 0
  · rw [if_pos h1]
    constructor
    · intro h; cases h
    · rintro ⟨h2, _⟩; omega
  · rw [if_neg h1]
    by_cases h2 : firstE (n : Int) l (L.getD k []) (bs.getD k 0) = 0
    · rw [if_neg (by rw [h2]; simp)]
      obtain ⟨h3, h4⟩ := hF.1 h2
      by_cases h5 : 0 < k ∧ ¬ withinP (L.getD (k - 1) []) (L.getD k [])
      · rw [if_pos h5]
        constructor
        · intro h; cases h
        · rintro ⟨_, _, _, h6⟩; exact absurd (h6 h5.1) h5.2
      · rw [if_neg h5]
        exact ⟨fun _ => ⟨by omega, h3, h4, fun h => Classical.byContradiction fun h6 => h5 ⟨h, h6⟩⟩, fun _ => rfl⟩
    · rw [if_pos h2]
      constructor
      · intro h; exact absurd h h2
      · rintro ⟨_, h3, h4, _⟩; exact hF.2 ⟨h3, h4⟩
section
variable {n : Nat} {l : List Arc} {bs : List Int} {L : List (List Int)}
theorem NestOk.bnd (h : NestOk n l bs L) {k : Nat} (hk : k < bs.length) : blwB bs k < bs.getD k 0 ∧ bs.getD k 0 ≤ 1024 := ((lvE_zero h.g).1 (h.lv k hk)).1
theorem NestOk.right (h : NestOk n l bs L) {k : Nat} (hk : k < bs.length) : rightB (n : Int) (L.getD k []) = true := ((lvE_zero h.g).1 (h.lv k hk)).2.1
theorem NestOk.size (h : NestOk n l bs L) {k : Nat} (hk : k < bs.length) : ∀ y, (cntI (L.getD k []) y : Int) ≤ bs.getD k 0 := ((lvE_zero h.g).1 (h.lv k hk)).2.2.1
theorem NestOk.within (h : NestOk n l bs L) {k : Nat} (hk : k < bs.length) (h0 : 0 < k) : withinP (L.getD (k - 1) []) (L.getD k []) := ((lvE_zero h.g).1 (h.lv k hk)).2.2.2 h0
theorem NestOk.rowlen (h : NestOk n l bs L) {k : Nat} (hk : k < bs.length) : (L.getD k []).length = n := (right_parts (h.right hk)).2
theorem NestOk.n1 (h : NestOk n l bs L) : 1 ≤ n ∧ n ≤ 1024 := by have := gcheck_zero h.g; omega
end
/-- What is wrong with a level's number. -/
def lkE (N : Int) (l : List Arc) (bs : List Int) (L : List (List Int)) (q : Int) : Int := if (nsE N l bs L).2 ≠ 0 then (nsE N l bs L).2 else if q < 1 ∨ (bs.length : Int) < q then 111 else 0
def clE (N : Int) (l : List Arc) (bs : List Int) (L : List (List Int)) (q c : Int) : Int := if lkE N l bs L q ≠ 0 then lkE N l bs L q else if c < 0 ∨ maxL (L.getD (q.toNat - 1) []) + 1 ≤ c then 120 else 0
theorem lkE_zero {N : Int} {l : List Arc} {bs : List Int} {L : List (List Int)} {q : Int} (h : lkE N l bs L q = 0) : ∃ n k : Nat, N = (n : Int) ∧ NestOk n l bs L ∧ q = (k : Int) + 1 ∧ k < bs.length := by
  unfold lkE at h
  by_cases h1 : (nsE N l bs L).2 = 0
  · rw [if_neg (by rw [h1]; simp)] at h
    obtain ⟨n, rfl, hok⟩ := nsE_zero h1
    by_cases h2 : q < 1 ∨ (bs.length : Int) < q
    · rw [if_pos h2] at h; cases h
    · exact ⟨n, q.toNat - 1, rfl, hok, by omega, by omega⟩
  · rw [if_pos h1] at h; exact absurd h h1
theorem lkE_ok {n : Nat} {l : List Arc} {bs : List Int} {L : List (List Int)} (h : NestOk n l bs L) {k : Nat} (hk : k < bs.length) : lkE (n : Int) l bs L ((k : Int) + 1) = 0 := by
  unfold lkE
  rw [h.zero, if_neg (by simp), if_neg (by omega)]
theorem clE_zero {N : Int} {l : List Arc} {bs : List Int} {L : List (List Int)} {q c : Int} (h : clE N l bs L q c = 0) : ∃ n k j : Nat, N = (n : Int) ∧ NestOk n l bs L ∧ q = (k : Int) + 1 ∧ k < bs.length ∧ c = (j : Int) ∧ (j : Int) < maxL (L.getD k []) + 1 := by
  unfold clE at h
  by_cases h1 : lkE N l bs L q = 0
  · rw [if_neg (by rw [h1]; simp)] at h
    obtain ⟨n, k, rfl, hok, rfl, hk⟩ := lkE_zero h1
    have e : ((k : Int) + 1).toNat - 1 = k := by omega
    rw [e] at h
    by_cases h2 : c < 0 ∨ maxL (L.getD k []) + 1 ≤ c
    · rw [if_pos h2] at h; cases h
    · exact ⟨n, k, c.toNat, rfl, hok, rfl, hk, by omega, by omega⟩
  · rw [if_pos h1] at h; exact absurd h h1
theorem clE_ok {n : Nat} {l : List Arc} {bs : List Int} {L : List (List Int)} (h : NestOk n l bs L) {k : Nat} (hk : k < bs.length) {c : Int} (hc : 0 ≤ c ∧ c < maxL (L.getD k []) + 1) : clE (n : Int) l bs L ((k : Int) + 1) c = 0 := by
  unfold clE
  have e : ((k : Int) + 1).toNat - 1 = k := by omega
  rw [lkE_ok h hk, if_neg (by simp), e, if_neg (by omega)]
/-- A cell's vertices. -/
def mem (n : Nat) (L : List Int) (c : Int) : List Int := ((List.range n).filter fun v => decide (L.getD v 0 = c)).map fun v : Nat => (v : Int)
end Go.Proofs.YtkmkakpadgljeaaGreat
