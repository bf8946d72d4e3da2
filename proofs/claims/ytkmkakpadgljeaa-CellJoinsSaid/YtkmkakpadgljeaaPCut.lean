/- What a move does to the pairs between labels. -/
import Derived.Test.YtkmkakpadgljeaaPLoc

namespace Go.Proofs.Ytkmkakpadgljeaa
open Go Fly
set_option linter.unusedVariables false
set_option linter.unusedSimpArgs false
set_option linter.unusedSectionVars false

def oth (v : Int) (p : Pr) : Int := if p.1 = v then p.2 else p.1
def atv (v : Int) (p : Pr) : Bool := decide (p.1 = v) || decide (p.2 = v)
theorem filt_split {α : Type} (c a : α → Bool) (l : List α) : (l.filter a).length = ((l.filter c).filter a).length + ((l.filter fun x => !c x).filter a).length := by
  induction l with
  | nil => rfl
  | cons x l ih => by_cases h1 : a x <;> by_cases h2 : c x <;> simp [h1, h2, ih] <;> omega
abbrev GoodC (n : Nat) (l : List Arc) : Prop := ∀ a ∈ l, (0 ≤ a.src ∧ a.src < n) ∧ 0 ≤ a.dst ∧ a.dst < n
theorem prs_lt {n : Nat} {l : List Arc} (hg : GoodC n l) {p : Pr} (h : p ∈ prs n l) : p.1 < p.2 := by
  obtain ⟨a, _, hne, rfl⟩ := mem_prRaw.1 ((mem_prs hg).1 h)
  unfold prOf
  simp only
  omega
theorem nbr_iff {v u : Int} {x : Arc} : u ∈ nbr v x ↔ x.src ≠ x.dst ∧ ((x.src = v ∧ u = x.dst) ∨ (x.dst = v ∧ u = x.src)) := by
  unfold nbr
  by_cases h1 : x.src = x.dst
  · rw [if_pos h1]; simp [h1]
  · rw [if_neg h1]
    by_cases h2 : x.src = v
    · rw [if_pos h2]; simp; omega
    · rw [if_neg h2]
      by_cases h3 : x.dst = v
      · rw [if_pos h3]; simp; omega
      · rw [if_neg h3]; simp; omega
theorem oth_mem {n : Nat} {l : List Arc} (hg : GoodC n l) {v u : Int} : u ∈ ((prs n l).filter (atv v)).map (oth v) ↔ u ∈ nbrs v l := by
  rw [nbrs_mem, List.mem_map]
  constructor
  · rintro ⟨p, hp, rfl⟩
    obtain ⟨hp, hv⟩ := List.mem_filter.1 hp
    obtain ⟨a, ha, hne, rfl⟩ := mem_prRaw.1 ((mem_prs hg).1 hp)
    refine ⟨a, ha, nbr_iff.2 ⟨hne, ?_⟩⟩
    unfold atv prOf at hv
    simp only [Bool.or_eq_true, decide_eq_true_eq] at hv
    unfold oth prOf
    simp only
    split <;> omega
  · rintro ⟨a, ha, hu⟩
    obtain ⟨hne, hu⟩ := nbr_iff.1 hu
    refine ⟨prOf a, List.mem_filter.2 ⟨(mem_prs hg).2 (mem_prRaw.2 ⟨a, ha, hne, rfl⟩), ?_⟩, ?_⟩
    · unfold atv prOf
      simp only [Bool.or_eq_true, decide_eq_true_eq]
      omega
    · unfold oth prOf
      simp only
      split <;> omega
theorem oth_perm {n : Nat} {l : List Arc} (hg : GoodC n l) (v : Int) : (((prs n l).filter (atv v)).map (oth v)).Perm (nbrs v l) := by
  have h1 : (((prs n l).filter (atv v)).map (oth v)).Nodup := by
    unfold List.Nodup
    rw [List.pairwise_map]
    refine ((prs_sorted n l).filter (atv v)).imp_of_mem ?_
    intro p q hp hq hlt e
    obtain ⟨hp1, hp2⟩ := List.mem_filter.1 hp
    obtain ⟨hq1, hq2⟩ := List.mem_filter.1 hq
    have a1 := prs_lt hg hp1
    have a2 := prs_lt hg hq1
    unfold atv at hp2 hq2
    simp only [Bool.or_eq_true, decide_eq_true_eq] at hp2 hq2
    unfold oth at e
    unfold ltX at hlt
    split at e <;> split at e <;> omega
  have h2 : (nbrs v l).Nodup := (nbrs_rising v l).imp fun {a b} h e => by omega
  exact (List.perm_ext_iff_of_nodup h1 h2).2 fun u => oth_mem hg
theorem ncnt_compl (L R : List Int) (j : Int) : (R.filter fun u => decide (lab L u ≠ j)).length + ncnt L R j = R.length := by
  unfold ncnt
  induction R with
  | nil => rfl
  | cons x R ih => by_cases h : lab L x = j <;> simp [h] at ih ⊢ <;> omega
theorem apart_lab (L : List Int) (p : Pr) : apart L p = decide (lab L p.1 ≠ lab L p.2) := rfl
theorem at_count {n : Nat} {l : List Arc} (hg : GoodC n l) (L : List Int) (v : Int) : (((prs n l).filter (atv v)).filter (apart L)).length + ncnt L (nbrs v l) (lab L v) = (nbrs v l).length := by
  have h1 := ncnt_compl L (nbrs v l) (lab L v)
  have hp := (oth_perm hg v).filter fun u => decide (lab L u ≠ lab L v)
  have h2 := hp.length_eq
  rw [List.filter_map, List.length_map] at h2
  have h3 : ((prs n l).filter (atv v)).filter (apart L) = ((prs n l).filter (atv v)).filter ((fun u => decide (lab L u ≠ lab L v)) ∘ oth v) := by
    refine List.filter_congr fun p hp => ?_
    have hv := (List.mem_filter.1 hp).2
    unfold atv at hv
    simp only [Bool.or_eq_true, decide_eq_true_eq] at hv
    rw [apart_lab]
    show decide _ = decide _
    apply decide_eq_decide.2
    unfold oth
    by_cases e : p.1 = v
    · rw [if_pos e, e]; exact ⟨fun h h' => h h'.symm, fun h h' => h h'.symm⟩
    · rw [if_neg e, hv.resolve_left e]
  rw [h3]
  omega
theorem lab_set_ne {L : List Int} {v : Nat} {j u : Int} (h0 : 0 ≤ u) (h : u ≠ (v : Int)) : lab (L.set v j) u = lab L u := by
  unfold lab
  rw [List.getD_eq_getElem?_getD, List.getD_eq_getElem?_getD, List.getElem?_set_ne (by omega)]
theorem lab_set {L : List Int} {v : Nat} {j : Int} (h : v < L.length) : lab (L.set v j) (v : Int) = j := by
  unfold lab
  rw [List.getD_eq_getElem?_getD]; simp [h]
theorem ncnt_congr {L L' R : List Int} (h : ∀ u ∈ R, lab L u = lab L' u) (j : Int) : ncnt L R j = ncnt L' R j := by
  unfold ncnt
  congr 1
  exact List.filter_congr fun u hu => by rw [h u hu]
/-- A move leaves as many pairs fewer as it gains. -/
theorem cut_set {n : Nat} {l : List Arc} (hg : GoodC n l) {L : List Int} {v : Nat} (hv : v < L.length) (j : Int) : (cutN n l (L.set v j) : Int) = cutN n l L - gn L (nbrs (v : Int) l) (lab L (v : Int)) j := by
  have hR : ∀ u ∈ nbrs (v : Int) l, 0 ≤ u ∧ u ≠ (v : Int) := fun u hu => by
    obtain ⟨x, hx, hux⟩ := nbrs_mem.1 hu
    have := nbr_iff.1 hux
    have := hg x hx
    omega
  have a1 := at_count hg L (v : Int)
  have a2 := at_count hg (L.set v j) (v : Int)
  rw [lab_set hv, ncnt_congr (L := L.set v j) (L' := L) (fun u hu => lab_set_ne (hR u hu).1 (hR u hu).2)] at a2
  have e : ((prs n l).filter fun p => !atv (v : Int) p).filter (apart (L.set v j)) = ((prs n l).filter fun p => !atv (v : Int) p).filter (apart L) := by
    refine List.filter_congr fun p hp => ?_
    obtain ⟨hp, hnv⟩ := List.mem_filter.1 hp
    have hr := prs_rng hp
    unfold atv at hnv
    simp only [Bool.not_eq_true', Bool.or_eq_false_iff, decide_eq_false_iff_not] at hnv
    rw [apart_lab, apart_lab, lab_set_ne hr.1.1 hnv.1, lab_set_ne hr.2.1 hnv.2]
  have s1 := filt_split (atv (v : Int)) (apart L) (prs n l)
  have s2 := filt_split (atv (v : Int)) (apart (L.set v j)) (prs n l)
  rw [e] at s2
  unfold cutN gn
  omega
/-- Tidy labels are unlike just where the labels were. -/
theorem tdy_lab {L : List Int} {u w : Int} (hu : u.toNat < L.length) (hw : w.toNat < L.length) : (lab (tdy L) u = lab (tdy L) w) ↔ lab L u = lab L w := by
  rw [lab_at (by rw [tdy_len]; exact hu), lab_at (by rw [tdy_len]; exact hw), lab_at hu, lab_at hw]
  simp only [tdy, List.getElem_map]
  constructor
  · intro h
    have m1 : L[u.toNat] ∈ sns L := by have := sns_mem (L := L) (k := L.length) (Nat.le_refl _) L[u.toNat] (by simp); simpa using this
    have m2 : L[w.toNat] ∈ sns L := by have := sns_mem (L := L) (k := L.length) (Nat.le_refl _) L[w.toNat] (by simp); simpa using this
    have h' : (sns L).idxOf L[u.toNat] = (sns L).idxOf L[w.toNat] := by omega
    have g1 := List.getElem_idxOf (List.idxOf_lt_length_of_mem m1)
    have g2 := List.getElem_idxOf (List.idxOf_lt_length_of_mem m2)
    rw [← g1, ← g2]
    simp only [h']
  · intro h; rw [h]
theorem cut_tdy {n : Nat} {l : List Arc} {L : List Int} (hL : L.length = n) : cutN n l (tdy L) = cutN n l L := by
  unfold cutN
  congr 1
  refine List.filter_congr fun p hp => ?_
  have hr := prs_rng hp
  rw [apart_lab, apart_lab]
  apply decide_eq_decide.2
  exact not_congr (tdy_lab (by omega) (by omega))
end Go.Proofs.Ytkmkakpadgljeaa
