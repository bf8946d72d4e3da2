/- Labels cut up, and put together, under a bound: plain laws. -/
import Derived.Test.YtkmkakpadgljeaaPTdy
import Derived.Test.YtkmkakpadgljeaaPBest
import Derived.Test.YtkmkakpadgljeaaPGrow
import Derived.Test.YtkmkakpadgljeaaPParts

namespace Go.Proofs.Ytkmkakpadgljeaa
open Go Fly
set_option linter.unusedVariables false
set_option linter.unusedSimpArgs false
set_option linter.unusedSectionVars false

def cntI (L : List Int) (y : Int) : Nat := (L.filter fun x => decide (x = y)).length
theorem cnt_is (L : List Int) (j : Nat) : cnt L j = cntI L (j : Int) := rfl
theorem cntI_le (L : List Int) (y : Int) : cntI L y ≤ L.length := List.length_filter_le _ _
theorem cntI_none {L : List Int} {y : Int} (h : y ∉ L) : cntI L y = 0 := by
  unfold cntI
  rw [List.length_eq_zero_iff, List.filter_eq_nil_iff]
  intro x hx e
  simp at e; subst e; exact h hx
theorem cntI_pos {L : List Int} {y : Int} (h : y ∈ L) : 0 < cntI L y := by
  unfold cntI
  exact List.length_pos_of_mem (List.mem_filter.2 ⟨h, by simp⟩)
theorem cntI_two {x y : Int} (hne : x ≠ y) : ∀ L : List Int, cntI L x + cntI L y ≤ L.length
  | [] => Nat.le_refl _
  | z :: L => by
    have ih := cntI_two hne L
    unfold cntI at ih ⊢
    simp only [List.filter_cons, List.length_cons]
    by_cases h1 : z = x
    · have h2 : ¬ z = y := fun h => hne (h1.symm.trans h)
      rw [if_pos (by simpa using h1), if_neg (by simpa using h2)]; simp only [List.length_cons]; omega
    · by_cases h2 : z = y
      · rw [if_neg (by simpa using h1), if_pos (by simpa using h2)]; simp only [List.length_cons]; omega
      · rw [if_neg (by simpa using h1), if_neg (by simpa using h2)]; omega
theorem cntI_set {L : List Int} : ∀ {i : Nat} (h : i < L.length) (x y : Int), cntI (L.set i x) y + (if L[i] = y then 1 else 0) = cntI L y + (if x = y then 1 else 0) := by
  intro i h x y
  have := filt_set (fun z => decide (z = y)) L i x h
  unfold cntI
  simpa using this
theorem right_parts {n : Nat} {L : List Int} (h : rightB (n : Int) L = true) : rgo 0 L = true ∧ L.length = n := by
  unfold rightB at h
  simp only [Bool.and_eq_true, decide_eq_true_eq] at h
  exact ⟨h.1, by omega⟩
/-- Right labels are tidy ones. -/
theorem rgo_tidy : ∀ (L : List Int) (P : List Nat) (q : Nat), rgo (q : Int) L = true → (nxt P P.length = q) → ∃ Q : List Nat, L = Q.map (fun x : Nat => (x : Int)) ∧ ∀ k (h : k < Q.length), Q[k] ≤ nxt (P ++ Q) (P.length + k)
  | [], P, q, _, _ => ⟨[], rfl, fun k h => by simp at h⟩
  | x :: L, P, q, h, hq => by
    unfold rgo at h
    by_cases hx : x < 0 ∨ (q : Int) < x
    · rw [if_pos hx] at h; cases h
    · rw [if_neg hx] at h
      obtain ⟨y, rfl⟩ : ∃ y : Nat, x = (y : Int) := ⟨x.toNat, by omega⟩
      have hn : nxt (P ++ [y]) (P ++ [y]).length = if (y : Int) = (q : Int) then q + 1 else q := by
        rw [List.length_append, List.length_singleton]
        have e0 : nxt (P ++ [y]) P.length = q := by
          rw [← hq]; exact nxt_take _ _ _ fun j hj => List.getElem?_append_left hj
        show (if (P ++ [y])[P.length]? = some (nxt (P ++ [y]) P.length) then nxt (P ++ [y]) P.length + 1 else nxt (P ++ [y]) P.length) = _
        rw [e0, List.getElem?_append_right (Nat.le_refl _), Nat.sub_self]
        by_cases hy : y = q
        · subst hy; simp
        · rw [if_neg (by simpa using hy), if_neg (by omega)]
      have h' : rgo ((if (y : Int) = (q : Int) then q + 1 else q : Nat) : Int) L = true := by
        by_cases hy : (y : Int) = (q : Int)
        · rw [if_pos hy] at h ⊢; exact h
        · rw [if_neg hy] at h ⊢; exact h
      obtain ⟨Q, rfl, hQ⟩ := rgo_tidy L (P ++ [y]) _ h' hn
      refine ⟨y :: Q, rfl, fun k hk => ?_⟩
      cases k with
      | zero =>
        have e0 : nxt (P ++ y :: Q) P.length = q := by
          rw [← hq]; exact nxt_take _ _ _ fun j hj => List.getElem?_append_left hj
        simp only [List.getElem_cons_zero, Nat.add_zero]
        rw [e0]; omega
      | succ k =>
        have := hQ k (by simpa using hk)
        simp only [List.getElem_cons_succ]
        rw [List.length_append, List.length_singleton, List.append_assoc] at this
        rw [show P.length + (k + 1) = P.length + 1 + k by omega]
        exact this
theorem right_tidy {n : Nat} {L : List Int} (h : rightB (n : Int) L = true) : ∃ Q : List Nat, L = Q.map (fun x : Nat => (x : Int)) ∧ Tidy Q ∧ Q.length = n := by
  obtain ⟨h1, h2⟩ := right_parts h
  obtain ⟨Q, rfl, hQ⟩ := rgo_tidy L [] 0 h1 rfl
  exact ⟨Q, rfl, fun k hk => by have := hQ k hk; simpa using this, by simpa using h2⟩
theorem lab_get {L : List Int} {u : Nat} (h : u < L.length) : lab L (u : Int) = L[u] := by rw [lab_at (by simpa using h)]; simp
theorem right_unique {n : Nat} {L M : List Int} (h : rightB (n : Int) L = true) (h' : rightB (n : Int) M = true) (he : ∀ u v : Nat, u < n → v < n → (lab L (u : Int) = lab L (v : Int) ↔ lab M (u : Int) = lab M (v : Int))) : L = M := by
  obtain ⟨Q, rfl, hQ, hq⟩ := right_tidy h
  obtain ⟨R, rfl, hR, hr⟩ := right_tidy h'
  rw [tidy_unique hQ hR (by omega) fun i j hi hj => ?_]
  have := he i j (by omega) (by omega)
  rw [lab_get (by simpa using hi), lab_get (by simpa using hj), lab_get (by simp; omega), lab_get (by simp; omega)] at this
  simp only [List.getElem_map] at this
  exact ⟨fun h => by have := this.1 (by rw [h]); omega, fun h => by have := this.2 (by rw [h]); omega⟩
/-- Labels of single vertices. -/
def idL (n : Nat) : List Int := (List.range n).map Int.ofNat
theorem idL_len (n : Nat) : (idL n).length = n := by simp [idL]
theorem idL_lab {n u : Nat} (h : u < n) : lab (idL n) (u : Int) = (u : Int) := by rw [lab_get (by rw [idL_len]; exact h)]; simp [idL]
theorem rgo_id : ∀ (m q : Nat), rgo (q : Int) ((List.range' q m).map Int.ofNat) = true
  | 0, q => rfl
  | m + 1, q => by
    rw [List.range'_succ, List.map_cons]
    unfold rgo
    rw [if_neg (by show ¬ ((q : Int) < 0 ∨ (q : Int) < (q : Int)); omega), if_pos (show Int.ofNat q = (q : Int) from rfl)]
    exact rgo_id m (q + 1)
theorem idL_right (n : Nat) : rightB (n : Int) (idL n) = true := by
  unfold rightB
  have := rgo_id n 0
  rw [← List.range_eq_range'] at this
  rw [idL_len]; simp
  exact this
theorem cnt_one {L : List Int} {y : Int} (h : cntI L y ≤ 1) {u v : Nat} (hu : u < L.length) (hv : v < L.length) (h1 : L[u] = y) (h2 : L[v] = y) : u = v := by
  refine Classical.byContradiction fun hne => ?_
  have hs := cntI_set (L := L) hu (y + 1) y
  rw [if_pos h1, if_neg (by omega)] at hs
  have hp : 0 < cntI (L.set u (y + 1)) y := cntI_pos (List.mem_iff_getElem.2 ⟨v, by simpa using hv, by rw [List.getElem_set_ne hne]; exact h2⟩)
  omega
theorem right_single {n : Nat} {L : List Int} (h : rightB (n : Int) L = true) (hc : ∀ y, cntI L y ≤ 1) : L = idL n := by
  have hl := (right_parts h).2
  refine right_unique h (idL_right n) fun u v hu hv => ?_
  rw [idL_lab hu, idL_lab hv, lab_get (by omega), lab_get (by omega)]
  constructor
  · intro e; have := cnt_one (hc L[v]) (by omega) (by omega) e rfl; omega
  · intro e; have : u = v := by omega
    subst this; rfl

/-! ### two labels become one -/
def mrg (a b : Int) (L : List Int) : List Int := L.map fun x => if x = b then a else x
theorem mrg_len (a b : Int) (L : List Int) : (mrg a b L).length = L.length := by simp [mrg]
theorem mrg_get {a b : Int} {L : List Int} {u : Nat} (h : u < L.length) : (mrg a b L)[u]'(by rw [mrg_len]; exact h) = if L[u] = b then a else L[u] := by simp [mrg]
theorem mrg_lab {a b : Int} {L : List Int} {u : Nat} (h : u < L.length) : lab (mrg a b L) (u : Int) = if lab L (u : Int) = b then a else lab L (u : Int) := by
  rw [lab_get (by rw [mrg_len]; exact h), lab_get h, mrg_get h]
theorem cntI_mrg {a b : Int} (hne : a ≠ b) (y : Int) : ∀ L : List Int, cntI (mrg a b L) y = if y = a then cntI L a + cntI L b else if y = b then 0 else cntI L y
  | [] => by simp [mrg, cntI]
  | x :: L => by
    have ih := cntI_mrg hne y L
    unfold cntI mrg at ih ⊢
    simp only [List.map_cons, List.filter_cons]
    by_cases h1 : y = a
    · subst h1
      rw [if_pos rfl] at ih ⊢
      by_cases h2 : x = b
      · subst h2
        have : ¬ x = y := fun h => hne h.symm
        simp [this] at ih ⊢; omega
      · by_cases h3 : x = y
        · subst h3
          simp [h2] at ih ⊢; omega
        · simp [h2, h3] at ih ⊢; omega
    · rw [if_neg h1] at ih ⊢
      by_cases h4 : y = b
      · subst h4
        rw [if_pos rfl] at ih ⊢
        by_cases h2 : x = y
        · subst h2
          simp at ih ⊢
          rw [if_neg hne]; simpa using ih
        · simp [h2] at ih ⊢; exact ih
      · rw [if_neg h4] at ih ⊢
        by_cases h2 : x = b
        · subst h2
          have e1 : ¬ a = y := fun h => h1 h.symm
          have e2 : ¬ x = y := fun h => h4 h.symm
          simp [e1, e2] at ih ⊢; exact ih
        · by_cases h3 : x = y
          · subst h3
            simp [h2] at ih ⊢; exact ih
          · simp [h2, h3] at ih ⊢; exact ih
theorem cntI_tdy {L : List Int} {bd : Int} (h0 : 0 ≤ bd) (h : ∀ y, (cntI L y : Int) ≤ bd) (y : Int) : (cntI (tdy L) y : Int) ≤ bd := by
  by_cases hy : 0 ≤ y ∧ y < ((sns L).length : Int)
  · obtain ⟨j, rfl⟩ : ∃ j : Nat, y = (j : Int) := ⟨y.toNat, by omega⟩
    rw [← cnt_is, cnt_tdy (by omega)]
    exact h _
  · rw [cntI_none (fun hm => hy (tdy_rng y hm))]; exact h0
theorem sns_card {L : List Int} {M : Nat} {b : Int} (hr : ∀ x ∈ L, 0 ≤ x ∧ x < (M : Int)) (hb : 0 ≤ b ∧ b < (M : Int)) (hn : b ∉ L) : (sns L).length + 1 ≤ M := by
  have hnd : (sns L).Nodup := by have := sns_nodup (L := L) (k := L.length) (Nat.le_refl _); rwa [List.take_length] at this
  have hsub : ∀ x ∈ sns L, x ∈ L := fun x hx => by
    have := sns_sub (L := L) (k := L.length) (Nat.le_refl _) x (by rw [List.take_length]; exact hx)
    exact this
  have := ints_card (n := M) (l := b :: sns L) (fun x hx => by
    rcases List.mem_cons.1 hx with rfl | hx
    · exact hb
    · exact hr x (hsub x hx)) (List.nodup_cons.2 ⟨fun h => hn (hsub b h), hnd⟩)
  simpa using this
theorem tdy_labN {L : List Int} {u w : Nat} (hu : u < L.length) (hw : w < L.length) : (lab (tdy L) (u : Int) = lab (tdy L) (w : Int)) ↔ lab L (u : Int) = lab L (w : Int) := tdy_lab (by simpa using hu) (by simpa using hw)

/-- What puts together leaves. -/
structure JInv (n : Nat) (l : List Arc) (bd : Int) (L0 L : List Int) : Prop where
  right : rightB (n : Int) L = true
  size : ∀ y, (cntI L y : Int) ≤ bd
  coarse : ∀ u v : Nat, u < n → v < n → lab L0 (u : Int) = lab L0 (v : Int) → lab L (u : Int) = lab L (v : Int)
  cut : cutN n l L ≤ cutN n l L0
  gen : ∀ f : Nat → Nat, (∀ u v : Nat, u < n → v < n → lab L0 (u : Int) = lab L0 (v : Int) → f u = f v) → (∀ p ∈ prs n l, f p.1.toNat = f p.2.toNat) → ∀ u v : Nat, u < n → v < n → lab L (u : Int) = lab L (v : Int) → f u = f v
def NoSeam (n : Nat) (l : List Arc) (bd : Int) (L : List Int) : Prop := ∀ p ∈ prs n l, lab L p.1 ≠ lab L p.2 → bd < (cntI L (lab L p.1) : Int) + cntI L (lab L p.2)
def Seam (n : Nat) (l : List Arc) (bd : Int) (L : List Int) (a b : Int) : Prop := ∃ p ∈ prs n l, a ≠ b ∧ ((lab L p.1 = a ∧ lab L p.2 = b) ∨ (lab L p.1 = b ∧ lab L p.2 = a)) ∧ (cntI L a : Int) + cntI L b ≤ bd
theorem JInv.refl {n : Nat} {l : List Arc} {bd : Int} {L : List Int} (h : rightB (n : Int) L = true) (hs : ∀ y, (cntI L y : Int) ≤ bd) : JInv n l bd L L :=
  ⟨h, hs, fun _ _ _ _ e => e, Nat.le_refl _, fun f h1 _ u v hu hv e => h1 u v hu hv e⟩
theorem JInv.step {n : Nat} {l : List Arc} {bd : Int} {L0 L : List Int} (h0 : 0 ≤ bd) (h : JInv n l bd L0 L) {a b : Int} (hs : Seam n l bd L a b) : JInv n l bd L0 (tdy (mrg a b L)) := by
  obtain ⟨p, hp, hne, hlab, hsz⟩ := hs
  have hl := (right_parts h.right).2
  have hml := mrg_len a b L
  have hX : ∀ y, (cntI (mrg a b L) y : Int) ≤ bd := fun y => by
    rw [cntI_mrg hne]
    split
    · omega
    · split
      · exact h0
      · exact h.size y
  have hlabX : ∀ u v : Nat, u < n → v < n → (lab (tdy (mrg a b L)) (u : Int) = lab (tdy (mrg a b L)) (v : Int) ↔ (if lab L (u : Int) = b then a else lab L (u : Int)) = (if lab L (v : Int) = b then a else lab L (v : Int))) := fun u v hu hv => by
    rw [tdy_labN (by omega) (by omega), mrg_lab (by omega), mrg_lab (by omega)]
  refine ⟨right_tdy (by omega), cntI_tdy h0 hX, fun u v hu hv e => ?_, ?_, fun f h1 h2 u v hu hv e => ?_⟩
  · rw [hlabX u v hu hv, h.coarse u v hu hv e]
  · rw [cut_tdy (by omega)]
    refine Nat.le_trans ?_ h.cut
    unfold cutN
    have hsub : ∀ q ∈ prs n l, apart (mrg a b L) q = true → apart L q = true := fun q hq hap => by
      have hr := prs_rng hq
      rw [apart_lab] at hap ⊢
      simp only [decide_eq_true_eq] at hap ⊢
      intro e
      apply hap
      rw [show q.1 = ((q.1.toNat : Nat) : Int) by omega, show q.2 = ((q.2.toNat : Nat) : Int) by omega, mrg_lab (by omega), mrg_lab (by omega)]
      rw [show ((q.1.toNat : Nat) : Int) = q.1 by omega, show ((q.2.toNat : Nat) : Int) = q.2 by omega, e]
    have key : ∀ xs : List Pr, (∀ q ∈ xs, apart (mrg a b L) q = true → apart L q = true) → (xs.filter (apart (mrg a b L))).length ≤ (xs.filter (apart L)).length := by
      intro xs
      induction xs with
      | nil => intro _; simp
      | cons x xs ih =>
        intro hx
        have := ih fun q hq => hx q (List.mem_cons_of_mem _ hq)
        have h1 := hx x (List.mem_cons_self ..)
        rw [List.filter_cons, List.filter_cons]
        split
        · rw [if_pos (h1 (by assumption))]; simp; omega
        · split
          · simp; omega
          · exact this
    exact key _ hsub
  · rw [hlabX u v hu hv] at e
    have hr := prs_rng hp
    have hg := h.gen f h1 h2
    have hab : ∀ x y : Nat, x < n → y < n → lab L (x : Int) = a → lab L (y : Int) = b → f x = f y := fun x y hx hy e1 e2 => by
      have h3 := h2 p hp
      have hp1 : lab L ((p.1.toNat : Nat) : Int) = lab L p.1 := by rw [Int.toNat_of_nonneg hr.1.1]
      have hp2 : lab L ((p.2.toNat : Nat) : Int) = lab L p.2 := by rw [Int.toNat_of_nonneg hr.2.1]
      rcases hlab with ⟨q1, q2⟩ | ⟨q1, q2⟩
      · rw [hg x p.1.toNat hx (by omega) (by rw [hp1, q1]; exact e1), h3]
        exact hg _ _ (by omega) hy (by rw [hp2, q2]; exact e2.symm)
      · rw [hg x p.2.toNat hx (by omega) (by rw [hp2, q2]; exact e1), ← h3]
        exact hg _ _ (by omega) hy (by rw [hp1, q1]; exact e2.symm)
    by_cases e1 : lab L (u : Int) = b <;> by_cases e2 : lab L (v : Int) = b
    · exact hg u v hu hv (e1.trans e2.symm)
    · rw [if_pos e1, if_neg e2] at e
      exact (hab v u hv hu e.symm e1).symm
    · rw [if_neg e1, if_pos e2] at e
      exact hab u v hu hv e e2
    · rw [if_neg e1, if_neg e2] at e
      exact hg u v hu hv e
theorem right_range {n : Nat} {L : List Int} (h : rightB (n : Int) L = true) (hn : 1 ≤ n) : ∀ x ∈ L, 0 ≤ x ∧ x < ((maxL L + 1).toNat : Int) ∧ (maxL L + 1).toNat ≤ n := fun x hx => by
  obtain ⟨h1, h2⟩ := right_parts h
  have hp := rgo_pos h1 x hx
  have hm := le_maxL hx
  have h0 : 0 < L.length := by omega
  have := maxL_le h0 fun y hy => by have := rgo_lt h1 y hy; exact (show y ≤ (n : Int) - 1 by omega)
  omega
/-- Each join leaves a label less. -/
theorem join_less {n : Nat} {L : List Int} {a b : Int} (h : rightB (n : Int) L = true) (hn : 1 ≤ n) (ha : a ∈ L) (hb : b ∈ L) (hne : a ≠ b) : (maxL (tdy (mrg a b L)) + 1).toNat < (maxL L + 1).toNat := by
  obtain ⟨h1, h2⟩ := right_parts h
  have hr := right_range h hn
  have hX : ∀ x ∈ mrg a b L, 0 ≤ x ∧ x < ((maxL L + 1).toNat : Int) := fun x hx => by
    obtain ⟨y, hy, rfl⟩ := List.mem_map.1 hx
    split
    · exact ⟨(hr a ha).1, (hr a ha).2.1⟩
    · exact ⟨(hr y hy).1, (hr y hy).2.1⟩
  have hb' : b ∉ mrg a b L := fun hm => by
    obtain ⟨y, hy, e⟩ := List.mem_map.1 hm
    split at e
    · exact hne e
    · rename_i h3; exact h3 e
  have hc := sns_card hX ⟨(hr b hb).1, (hr b hb).2.1⟩ hb'
  rw [max_tdy (by rw [mrg_len]; omega)]
  omega
end Go.Proofs.Ytkmkakpadgljeaa
