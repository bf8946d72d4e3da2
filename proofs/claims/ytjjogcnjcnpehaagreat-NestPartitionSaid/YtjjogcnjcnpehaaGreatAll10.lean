import Derived.Test.YtjjogcnjcnpehaaGreatAll9
import Derived.Test.YtjjogcnjcnpehaaGreatAll4
import Derived.Test.YtjjogcnjcnpehaaGreatAll5
import Derived.Test.YtjjogcnjcnpehaaGreatAll8

/- Labels cut up, and put together, under a bound: plain laws. -/
namespace Go.Proofs.YtjjogcnjcnpehaaGreat
open Go Fly
set_option linter.unusedVariables false
set_option linter.unusedSimpArgs false
set_option linter.unusedSectionVars false
def eP (L : List Int) (y : Int) : Nat := (L.filter fun x => decide (x = y)).length
theorem cnt_is (L : List Int) (j : Nat) : cnt L j = eP L (j : Int) := rfl
theorem iJ {L : List Int} {y : Int} (h : y ∉ L) : eP L y = 0 := by
  unfold eP
  rw [List.length_eq_zero_iff, List.filter_eq_nil_iff];intro x hx e;simp at e; subst e; exact h hx
theorem cntI_pos {L : List Int} {y : Int} (h : y ∈ L) : 0 < eP L y := by
  unfold eP
  exact List.length_pos_of_mem (List.mem_filter.2 ⟨h, by simp⟩)
theorem cntI_set {L : List Int} : ∀ {i : Nat} (h : i < L.length) (x y : Int), eP (L.set i x) y + (if L[i] = y then 1 else 0) = eP L y + (if x = y then 1 else 0) := by
  intro i h x y;have := filt_set (fun z => decide (z = y)) L i x h
  unfold eP
  simpa using this
theorem cN {n : Nat} {L : List Int} (h : c7 (n : Int) L = true) : rgo 0 L = true ∧ L.length = n := by
  unfold c7 at h
  simp only [Bool.and_eq_true, decide_eq_true_eq] at h;exact ⟨h.1, by omega⟩
/-- Right labels are tidy ones. -/
theorem rgo_tidy : ∀ (L : List Int) (P : List Nat) (q : Nat), rgo (q : Int) L = true → (nxt P P.length = q) → ∃ Q : List Nat, L = Q.map (fun x : Nat => (x : Int)) ∧ ∀ k (h : k < Q.length), Q[k] ≤ nxt (P ++ Q) (P.length + k)
  | [], P, q, _, _ => ⟨[], rfl, fun k h => by simp at h⟩
  | x :: L, P, q, h, hq => by
    unfold rgo at h
    by_cases hx : x < 0 ∨ (q : Int) < x
    · rw [if_pos hx] at h; cases h
    · rw [if_neg hx] at h
      obtain ⟨y, rfl⟩ : ∃ y : Nat, x = (y : Int) := ⟨x.toNat, by omega⟩
      have hn : nxt (P ++ [y]) (P ++ [y]).length = if (y : Int) = (q : Int) then q + 1 else q := by
        rw [List.length_append, List.length_singleton]
        have e0 : nxt (P ++ [y]) P.length = q := by
          rw [← hq]; exact j1 _ _ _ fun j hj => List.getElem?_append_left hj
        show (if (P ++ [y])[P.length]? = some (nxt (P ++ [y]) P.length) then nxt (P ++ [y]) P.length + 1 else nxt (P ++ [y]) P.length) = _
        rw [e0, List.getElem?_append_right (Nat.le_refl _), Nat.sub_self]
        by_cases hy : y = q
        · subst hy; simp
        · rw [if_neg (by simpa using hy), if_neg (by omega)]
      have h' : rgo ((if (y : Int) = (q : Int) then q + 1 else q : Nat) : Int) L = true := by
        by_cases hy : (y : Int) = (q : Int)
        · rw [if_pos hy] at h ⊢; exact h
        · rw [if_neg hy] at h ⊢; exact h
      obtain ⟨Q, rfl, hQ⟩ := rgo_tidy L (P ++ [y]) _ h' hn
      refine ⟨y :: Q, rfl, fun k hk => ?_⟩
      cases k with
      | zero =>
        have e0 : nxt (P ++ y :: Q) P.length = q := by
          rw [← hq]; exact j1 _ _ _ fun j hj => List.getElem?_append_left hj
        simp only [List.getElem_cons_zero, Nat.add_zero];rw [e0]; omega
      | succ k =>
        have := hQ k (by simpa using hk)
        simp only [List.getElem_cons_succ];rw [List.length_append, List.length_singleton, List.append_assoc] at this;rw [show P.length + (k + 1) = P.length + 1 + k by omega];exact this
theorem right_tidy {n : Nat} {L : List Int} (h : c7 (n : Int) L = true) : ∃ Q : List Nat, L = Q.map (fun x : Nat => (x : Int)) ∧ Tidy Q ∧ Q.length = n := by
  obtain ⟨h1, h2⟩ := cN h
  obtain ⟨Q, rfl, hQ⟩ := rgo_tidy L [] 0 h1 rfl
  exact ⟨Q, rfl, fun k hk => by have := hQ k hk; simpa using this, by simpa using h2⟩
theorem i6 {L : List Int} {u : Nat} (h : u < L.length) : lab L (u : Int) = L[u] := by rw [kK (by simpa using h)]; simp
theorem right_unique {n : Nat} {L M : List Int} (h : c7 (n : Int) L = true) (h' : c7 (n : Int) M = true) (he : ∀ u v : Nat, u < n → v < n → (lab L (u : Int) = lab L (v : Int) ↔ lab M (u : Int) = lab M (v : Int))) : L = M := by
  obtain ⟨Q, rfl, hQ, hq⟩ := right_tidy h
  obtain ⟨R, rfl, hR, hr⟩ := right_tidy h'
  rw [tidy_unique hQ hR (by omega) fun i j hi hj => ?_];have := he i j (by omega) (by omega)
  rw [i6 (by simpa using hi), i6 (by simpa using hj), i6 (by simp; omega), i6 (by simp; omega)] at this;simp only [List.getElem_map] at this;exact ⟨fun h => by have := this.1 (by rw [h]); omega, fun h => by have := this.2 (by rw [h]); omega⟩
/-! ### two labels become one -/
def mrg (a b : Int) (L : List Int) : List Int := L.map fun x => if x = b then a else x
theorem i5 (a b : Int) (L : List Int) : (mrg a b L).length = L.length := by simp [mrg]
theorem mrg_get {a b : Int} {L : List Int} {u : Nat} (h : u < L.length) : (mrg a b L)[u]'(by rw [i5]; exact h) = if L[u] = b then a else L[u] := by simp [mrg]
theorem mrg_lab {a b : Int} {L : List Int} {u : Nat} (h : u < L.length) : lab (mrg a b L) (u : Int) = if lab L (u : Int) = b then a else lab L (u : Int) := by
  rw [i6 (by rw [i5]; exact h), i6 h, mrg_get h]
theorem cntI_mrg {a b : Int} (hne : a ≠ b) (y : Int) : ∀ L : List Int, eP (mrg a b L) y = if y = a then eP L a + eP L b else if y = b then 0 else eP L y
  | [] => by simp [mrg, eP]
  | x :: L => by
    have ih := cntI_mrg hne y L
    unfold eP mrg at ih ⊢
    simp only [List.map_cons, List.filter_cons]
    by_cases h1 : y = a
    · subst h1
      rw [if_pos rfl] at ih ⊢
      by_cases h2 : x = b
      · subst h2
        have : ¬ x = y := fun h => hne h.symm
        simp [this] at ih ⊢; omega
      · by_cases h3 : x = y
        · subst h3
          simp [h2] at ih ⊢; omega
        · simp [h2, h3] at ih ⊢; omega
    · rw [if_neg h1] at ih ⊢
      by_cases h4 : y = b
      · subst h4
        rw [if_pos rfl] at ih ⊢
        by_cases h2 : x = y
        · subst h2
          simp at ih ⊢;rw [if_neg hne]; simpa using ih
        · simp [h2] at ih ⊢; exact ih
      · rw [if_neg h4] at ih ⊢
        by_cases h2 : x = b
        · subst h2
          have e1 : ¬ a = y := fun h => h1 h.symm
          have e2 : ¬ x = y := fun h => h4 h.symm
          simp [e1, e2] at ih ⊢; exact ih
        · by_cases h3 : x = y
          · subst h3
            simp [h2] at ih ⊢; exact ih
          · simp [h2, h3] at ih ⊢; exact ih
theorem cntI_tdy {L : List Int} {bd : Int} (h0 : 0 ≤ bd) (h : ∀ y, (eP L y : Int) ≤ bd) (y : Int) : (eP (tdy L) y : Int) ≤ bd := by
  by_cases hy : 0 ≤ y ∧ y < ((sns L).length : Int)
  · obtain ⟨j, rfl⟩ : ∃ j : Nat, y = (j : Int) := ⟨y.toNat, by omega⟩
    rw [← cnt_is, cnt_tdy (by omega)];exact h _
  · rw [iJ (fun hm => hy (tdy_rng y hm))]; exact h0
theorem sns_card {L : List Int} {M : Nat} {b : Int} (hr : ∀ x ∈ L, 0 ≤ x ∧ x < (M : Int)) (hb : 0 ≤ b ∧ b < (M : Int)) (hn : b ∉ L) : (sns L).length + 1 ≤ M := by
  have hnd : (sns L).Nodup := by have := sns_nodup (L := L) (k := L.length) (Nat.le_refl _); rwa [List.take_length] at this
  have hsub : ∀ x ∈ sns L, x ∈ L := fun x hx => by
    have := sns_sub (L := L) (k := L.length) (Nat.le_refl _) x (by rw [List.take_length]; exact hx)
    exact this
  have := ints_card (n := M) (l := b :: sns L) (fun x hx => by
    rcases List.mem_cons.1 hx with rfl | hx
    · exact hb
    · exact hr x (hsub x hx)) (List.nodup_cons.2 ⟨fun h => hn (hsub b h), hnd⟩)
  simpa using this
theorem tdy_labN {L : List Int} {u w : Nat} (hu : u < L.length) (hw : w < L.length) : (lab (tdy L) (u : Int) = lab (tdy L) (w : Int)) ↔ lab L (u : Int) = lab L (w : Int) := tdy_lab (by simpa using hu) (by simpa using hw)
/-- What puts together leaves. -/
structure JInv (n : Nat) (l : List Arc) (bd : Int) (L0 L : List Int) : Prop where
  right : c7 (n : Int) L = true
  size : ∀ y, (eP L y : Int) ≤ bd
  coarse : ∀ u v : Nat, u < n → v < n → lab L0 (u : Int) = lab L0 (v : Int) → lab L (u : Int) = lab L (v : Int)
  cut : l3 n l L ≤ l3 n l L0
  gen : ∀ f : Nat → Nat, (∀ u v : Nat, u < n → v < n → lab L0 (u : Int) = lab L0 (v : Int) → f u = f v) → (∀ p ∈ prs n l, f p.1.toNat = f p.2.toNat) → ∀ u v : Nat, u < n → v < n → lab L (u : Int) = lab L (v : Int) → f u = f v
def Seam (n : Nat) (l : List Arc) (bd : Int) (L : List Int) (a b : Int) : Prop := ∃ p ∈ prs n l, a ≠ b ∧ ((lab L p.1 = a ∧ lab L p.2 = b) ∨ (lab L p.1 = b ∧ lab L p.2 = a)) ∧ (eP L a : Int) + eP L b ≤ bd
theorem JInv.refl {n : Nat} {l : List Arc} {bd : Int} {L : List Int} (h : c7 (n : Int) L = true) (hs : ∀ y, (eP L y : Int) ≤ bd) : JInv n l bd L L :=
  ⟨h, hs, fun _ _ _ _ e => e, Nat.le_refl _, fun f h1 _ u v hu hv e => h1 u v hu hv e⟩
theorem JInv.step {n : Nat} {l : List Arc} {bd : Int} {L0 L : List Int} (h0 : 0 ≤ bd) (h : JInv n l bd L0 L) {a b : Int} (hs : Seam n l bd L a b) : JInv n l bd L0 (tdy (mrg a b L)) := by
  obtain ⟨p, hp, hne, hlab, hsz⟩ := hs
  have hl := (cN h.right).2
  have hml := i5 a b L
  have hX : ∀ y, (eP (mrg a b L) y : Int) ≤ bd := fun y => by
    rw [cntI_mrg hne]
    split
    · omega
    · split
      · exact h0
      · exact h.size y
  have hlabX : ∀ u v : Nat, u < n → v < n → (lab (tdy (mrg a b L)) (u : Int) = lab (tdy (mrg a b L)) (v : Int) ↔ (if lab L (u : Int) = b then a else lab L (u : Int)) = (if lab L (v : Int) = b then a else lab L (v : Int))) := fun u v hu hv => by
    rw [tdy_labN (by omega) (by omega), mrg_lab (by omega), mrg_lab (by omega)]
  refine ⟨right_tdy (by omega), cntI_tdy h0 hX, fun u v hu hv e => ?_, ?_, fun f h1 h2 u v hu hv e => ?_⟩
  · rw [hlabX u v hu hv, h.coarse u v hu hv e]
  · rw [cut_tdy (by omega)]
    refine Nat.le_trans ?_ h.cut
    unfold l3
    have hsub : ∀ q ∈ prs n l, gE (mrg a b L) q = true → gE L q = true := fun q hq hap => by
      have hr := f7 hq
      rw [jS] at hap ⊢;simp only [decide_eq_true_eq] at hap ⊢;intro e;apply hap;rw [show q.1 = ((q.1.toNat : Nat) : Int) by omega, show q.2 = ((q.2.toNat : Nat) : Int) by omega, mrg_lab (by omega), mrg_lab (by omega)];rw [show ((q.1.toNat : Nat) : Int) = q.1 by omega, show ((q.2.toNat : Nat) : Int) = q.2 by omega, e]
    have key : ∀ xs : List Pr, (∀ q ∈ xs, gE (mrg a b L) q = true → gE L q = true) → (xs.filter (gE (mrg a b L))).length ≤ (xs.filter (gE L)).length := by
      intro xs
      induction xs with
      | nil => intro _; simp
      | cons x xs ih =>
        intro hx;have := ih fun q hq => hx q (List.mem_cons_of_mem _ hq)
        have h1 := hx x (List.mem_cons_self ..)
        rw [List.filter_cons, List.filter_cons]
        split
        · rw [if_pos (h1 (by assumption))]; simp; omega
        · split
          · simp; omega
          · exact this
    exact key _ hsub
  · rw [hlabX u v hu hv] at e
    have hr := f7 hp
    have hg := h.gen f h1 h2
    have hab : ∀ x y : Nat, x < n → y < n → lab L (x : Int) = a → lab L (y : Int) = b → f x = f y := fun x y hx hy e1 e2 => by
      have h3 := h2 p hp
      have hp1 : lab L ((p.1.toNat : Nat) : Int) = lab L p.1 := by rw [Int.toNat_of_nonneg hr.1.1]
      have hp2 : lab L ((p.2.toNat : Nat) : Int) = lab L p.2 := by rw [Int.toNat_of_nonneg hr.2.1]
      rcases hlab with ⟨q1, q2⟩ | ⟨q1, q2⟩
      · rw [hg x p.1.toNat hx (by omega) (by rw [hp1, q1]; exact e1), h3]
        exact hg _ _ (by omega) hy (by rw [hp2, q2]; exact e2.symm)
      · rw [hg x p.2.toNat hx (by omega) (by rw [hp2, q2]; exact e1), ← h3]
        exact hg _ _ (by omega) hy (by rw [hp1, q1]; exact e2.symm)
    by_cases e1 : lab L (u : Int) = b <;> by_cases e2 : lab L (v : Int) = b
    · exact hg u v hu hv (e1.trans e2.symm)
    · rw [if_pos e1, if_neg e2] at e
      exact (hab v u hv hu e.symm e1).symm
    · rw [if_neg e1, if_pos e2] at e
      exact hab u v hu hv e e2
    · rw [if_neg e1, if_neg e2] at e
      exact hg u v hu hv e
theorem dY {n : Nat} {L : List Int} (h : c7 (n : Int) L = true) (hn : 1 ≤ n) : ∀ x ∈ L, 0 ≤ x ∧ x < ((d4 L + 1).toNat : Int) ∧ (d4 L + 1).toNat ≤ n := fun x hx => by
  obtain ⟨h1, h2⟩ := cN h
  have hp := rgo_pos h1 x hx
  have hm := f8 hx
  have h0 : 0 < L.length := by omega
  have := jL h0 fun y hy => by have := rgo_lt h1 y hy; exact (show y ≤ (n : Int) - 1 by omega)
  omega
/-- Each join leaves a label less. -/
theorem join_less {n : Nat} {L : List Int} {a b : Int} (h : c7 (n : Int) L = true) (hn : 1 ≤ n) (ha : a ∈ L) (hb : b ∈ L) (hne : a ≠ b) : (d4 (tdy (mrg a b L)) + 1).toNat < (d4 L + 1).toNat := by
  obtain ⟨h1, h2⟩ := cN h
  have hr := dY h hn
  have hX : ∀ x ∈ mrg a b L, 0 ≤ x ∧ x < ((d4 L + 1).toNat : Int) := fun x hx => by
    obtain ⟨y, hy, rfl⟩ := List.mem_map.1 hx
    split
    · exact ⟨(hr a ha).1, (hr a ha).2.1⟩
    · exact ⟨(hr y hy).1, (hr y hy).2.1⟩
  have hb' : b ∉ mrg a b L := fun hm => by
    obtain ⟨y, hy, e⟩ := List.mem_map.1 hm
    split at e
    · exact hne e
    · rename_i h3; exact h3 e
  have hc := sns_card hX ⟨(hr b hb).1, (hr b hb).2.1⟩ hb'
  rw [max_tdy (by rw [i5]; omega)];omega
end Go.Proofs.YtjjogcnjcnpehaaGreat

/- split.tidy, split.looked, natcut.Pairs, the order of seams, the least of them. -/
namespace Go.Proofs.YtjjogcnjcnpehaaGreat
open Go Go.RowKit Fly
set_option linter.unusedVariables false
set_option linter.unusedSimpArgs false
theorem k4 {E b c : Nat} {L L2 : List Int} {sp : List Value} (h : Own E 1 (.slice (some ⟨b, 0, none⟩) L.length c) L.length (a6 L) [(b, blk (a6 L ++ sp) E)]) (hl : L2.length = L.length) : Own E 1 (.slice (some ⟨b, 0, none⟩) L2.length c) L2.length (a6 L2) [(b, blk (a6 L2 ++ sp) E)] := by
  obtain ⟨_, h | ⟨b', c', sp', e, hm, h1, h2, h3⟩⟩ := h
  · obtain ⟨e, _⟩ := h; cases e
  · cases e
    have hsp : a6 L ++ sp = a6 L ++ sp' := by simpa using hm
    have hsp := List.append_cancel_left hsp
    subst hsp;exact ⟨by simp [a6], .inr ⟨b, c, sp, rfl, rfl, by omega, h2, by rw [hl]; exact h3⟩⟩
def spE (N : Int) (l : List Arc) (L : List Int) (bd : Int) : Int := if (eD N l L).2 ≠ 0 then (eD N l L).2 else if bd < 1 ∨ 1024 < bd then 1 else 0
/-- A seam: two labels, how many pairs. -/
abbrev Sm := Int × Int × Int
def kU (s : Sm) : List Value := [.int .i64 s.1, .int .i64 s.2.1, .int .i64 s.2.2]
theorem smCs_len (s : Sm) : (kU s).length = 3 := rfl
def j8 (s t : Sm) : Int := if s.2.2 ≠ t.2.2 then t.2.2 - s.2.2 else if s.1 ≠ t.1 then s.1 - t.1 else s.2.1 - t.2.1
theorem befI_flip {s t : Sm} (h : ¬ j8 s t < 0) : j8 t s ≤ 0 := by
  unfold j8 at h ⊢
  by_cases h1 : s.2.2 = t.2.2
  · rw [if_neg (by omega)] at h; rw [if_neg (by omega)]
    by_cases h2 : s.1 = t.1
    · rw [if_neg (by omega)] at h; rw [if_neg (by omega)]; omega
    · rw [if_pos (by omega)] at h; rw [if_pos (by omega)]; omega
  · rw [if_pos (by omega)] at h; rw [if_pos (by omega)]; omega
theorem befI_refl (s : Sm) : j8 s s ≤ 0 := by unfold j8; simp
theorem befI_trans {s t u : Sm} (h : j8 s t < 0) (h' : j8 t u ≤ 0) : j8 s u ≤ 0 := by
  unfold j8 at h h' ⊢
  by_cases h1 : s.2.2 = t.2.2
  · rw [if_neg (by omega)] at h
    by_cases h2 : t.2.2 = u.2.2
    · rw [if_neg (by omega)] at h' ⊢
      by_cases h3 : s.1 = t.1
      · rw [if_neg (by omega)] at h
        by_cases h4 : t.1 = u.1
        · rw [if_neg (by omega)] at h'; rw [if_neg (by omega)]; omega
        · rw [if_pos (by omega)] at h'; rw [if_pos (by omega)]; omega
      · rw [if_pos (by omega)] at h
        by_cases h4 : t.1 = u.1
        · rw [if_pos (by omega)]; omega
        · rw [if_pos (by omega)] at h'; rw [if_pos (by omega)]; omega
    · rw [if_pos (by omega)] at h' ⊢; omega
  · rw [if_pos (by omega)] at h
    by_cases h2 : t.2.2 = u.2.2
    · rw [if_pos (by omega)]; omega
    · rw [if_pos (by omega)] at h'; rw [if_pos (by omega)]; omega
theorem take_all {l : List Sm} {s : Sm} {i : Nat} (hi : i < l.length) (h : ∀ t ∈ l.take i, j8 s t ≤ 0) : (j8 l[i] s < 0 → ∀ t ∈ l.take (i + 1), j8 l[i] t ≤ 0) ∧ (¬ j8 l[i] s < 0 → ∀ t ∈ l.take (i + 1), j8 s t ≤ 0) := by
  rw [List.take_succ_eq_append_getElem hi];constructor
  · intro h1 t ht
    rcases List.mem_append.1 ht with ht | ht
    · exact befI_trans h1 (h t ht)
    · obtain rfl := List.mem_singleton.1 ht; exact befI_refl _
  · intro h1 t ht
    rcases List.mem_append.1 ht with ht | ht
    · exact h t ht
    · obtain rfl := List.mem_singleton.1 ht; exact befI_flip h1
def SmOk (s : Sm) : Prop := (0 ≤ s.1 ∧ s.1 ≤ 1048576) ∧ (0 ≤ s.2.1 ∧ s.2.1 ≤ 1048576) ∧ 0 ≤ s.2.2 ∧ s.2.2 ≤ 1048576
set_option maxRecDepth 100000 in
set_option maxHeartbeats 4000000 in
theorem tidy_spec (bl c : Nat) (L : List Int) (spl : List Value) (w : World) (hn : L.length ≤ 1024) (h0 : 0 < L.length) (hlo : Own 3 1 (.slice (some ⟨bl, 0, none⟩) L.length c) L.length (a6 L) [(bl, blk (a6 L ++ spl) 3)]) (ho : Owns w [[(bl, blk (a6 L ++ spl) 3)]]) :
    Meets Tryz.prog 46 [.slice (some ⟨bl, 0, none⟩) L.length c] w [[(bl, blk (a6 L ++ spl) 3)]] (fun u own' => u = .tuple #[] ∧ own' = [[(bl, blk (a6 (tdy L) ++ spl) 3)]] ∧ Own 3 1 (.slice (some ⟨bl, 0, none⟩) (tdy L).length c) (tdy L).length (a6 (tdy L)) [(bl, blk (a6 (tdy L) ++ spl) 3)]) := by
 refine bJ Tryz.func46 rfl Tryz.ntmps46 rfl ho ?_;refine aK fun K1 kh1 => ?_;refine aB ?_;refine aR rfl rfl rfl (iH fun b7 => ?_);refine aA rfl rfl rfl (aF rfl) ?_;refine aJ ?_;refine aL (kh1 _ _ ?_);clear kh1;refine aK fun K2 kh2 => ?_;refine aB ?_;refine aA rfl rfl rfl (aG rfl) ?_;refine aA rfl rfl rfl (bS bK rfl) ?_;refine aA rfl rfl rfl (aG rfl) ?_;refine aJ ?_;refine aL (kh2 _ _ ?_);clear kh2;refine aY ?_;refine cS (α := Nat × List (Int × Value × Nat) × Nat) [0, 2, 8, 9] (fun ⟨k, ents, c1⟩ => [(10, .int .i64 (k : Int))]) (fun ⟨k, ents, c1⟩ => [[(bl, blk (a6 (i9 L k) ++ spl) 3)], [(b7, f3 (fun x : Int => .int .i64 x) ents c1)]]) (fun ⟨k, ents, c1⟩ => k ≤ L.length ∧ MOk ents c1 ∧ Nums (sns (L.take k)) ents) (fun ⟨k, ents, c1⟩ => L.length - k) (0, [], 0) ?_ ?_ ?_ ?_
 · exact (by repeat constructor)
 · dsimp only
   rw [tdyTo_zero]
   repeat first|exact aI|refine aD ?_|refine aC rfl ?_|refine aH ?_
 · exact ⟨by omega, MOk.nil, Nums.nil⟩
 ·
  rintro ⟨k, ents, c1⟩ ⟨hkn, hmap, hNm⟩;refine aK fun K3 kh3 => ?_;refine aB ?_;refine aA rfl rfl rfl (cD rfl rfl) ?_;refine aJ ?_;refine aL (kh3 _ _ ?_);clear kh3;refine aK fun K4 kh4 => ?_;refine aZ rfl (fun c11 => ?_) (fun c11 => ?_)
  ·
   have hk : k < L.length := by omega
   have hsn := jV hk
   have hsl := sns_len (L := L) (k := k) (by omega)
   refine aW ?_;refine aL (kh4 _ _ ?_);clear kh4;refine aK fun K5 kh5 => ?_;refine aY ?_;refine aK fun K6 kh6 => ?_;refine aB ?_;refine aA rfl rfl rfl (aG rfl) ?_;refine aA rfl rfl rfl (bA bK rfl rfl (k) ⟨by omega, by omega, by first | omega | (simp; done) | (simp; omega)⟩) ?_;refine aA rfl rfl rfl (aM Tryz.isAgg3 rfl (rdA (v := .int .i64 L[k]) (dN (by rw [dL (by rw [fS]; exact hk), tdyTo_get hk])))) ?_;refine aA rfl rfl rfl (aF rfl) ?_;refine aA rfl rfl rfl (aF rfl) ?_;refine aJ ?_;refine aL (kh6 _ _ ?_);clear kh6;refine aK fun K7 kh7 => ?_;refine aB ?_;refine aA rfl rfl rfl (aG rfl) ?_;refine aA rfl rfl rfl (aG rfl) ?_;refine aA rfl rfl rfl (o_lookup2 kt86 Tryz.zeroValue3 rfl rfl rfl (.int .i64 (if L[k] ∈ sns (L.take k) then (((sns (L.take k)).idxOf L[k] : Nat) : Int) else 0)) (by rw [hNm.2]; split <;> rfl) (decide (L[k] ∈ sns (L.take k))) (by rw [hNm.2]; split <;> simp_all)) ?_;refine aA rfl rfl rfl (aG rfl) ?_;refine aA rfl rfl rfl (aV rfl rfl) ?_;refine aA rfl rfl rfl (aV rfl rfl) ?_;refine aA rfl rfl rfl (aF rfl) ?_;refine aA rfl rfl rfl (aF rfl) ?_;refine aJ ?_;refine aL (kh7 _ _ ?_);clear kh7;refine aK fun K8 kh8 => ?_;refine aK fun K9 kh9 => ?_;refine aB ?_;refine aA rfl rfl rfl (aG rfl) ?_;refine aA rfl rfl rfl (kG rfl) ?_;refine aJ ?_;refine aL (kh9 _ _ ?_);clear kh9;refine fC rfl (fun c22 => ?_) (fun c22 => ?_)
   ·
    have hx : L[k] ∉ sns (L.take k) := by simpa using c22
    rw [if_neg hx] at hsn;have hjt : ents.length = (sns (L.take (k + 1))).idxOf L[k] := by rw [hsn, List.idxOf_append, if_neg hx, hNm.1]; simp
    refine aK fun K10 kh10 => ?_;refine aB ?_;refine aA rfl rfl rfl (aG rfl) ?_;refine aA rfl rfl rfl (o_lenM kt86.und rfl) ?_;refine aA rfl rfl rfl (aF rfl) ?_;refine aJ ?_;refine aL (kh10 _ _ ?_);clear kh10;refine aB ?_;refine aA rfl rfl rfl (aG rfl) ?_;refine aA rfl rfl rfl (aG rfl) ?_;refine aA rfl rfl rfl (aG rfl) ?_;refine bF rfl rfl (gO kt86 rfl rfl rfl rfl ?_);refine aJ ?_;refine aL (kh8 _ _ ?_);clear kh8;refine aB ?_;refine aA rfl rfl rfl (aG rfl) ?_;refine aA rfl rfl rfl (aG rfl) ?_;refine aA rfl rfl rfl (aG rfl) ?_;refine aA rfl rfl rfl (bA bK rfl rfl (k) ⟨by omega, by omega, by first | omega | (simp; done) | (simp; omega)⟩) ?_;refine bF rfl rfl (cB Tryz.sizeOf3 rfl rfl rfl rfl (by rw [List.length_append, aX, fS]; omega) (a6 (i9 L (k + 1)) ++ spl) (by rw [lI hk hjt, List.set_append_left _ _ (by rw [aX, fS]; omega)]; simp [a6, List.map_set]) ?_);refine aJ ?_;refine cV ?_;refine aL (kh5 _ _ ?_);clear kh5;refine aB ?_;refine aA rfl rfl rfl (bG rfl rfl _ (aT (by omega))) ?_;refine aA rfl rfl rfl (aG rfl) ?_;refine aJ ?_;refine aL (bB (k + 1, eW ents L[k] (.int .i64 (ents.length : Int)) c1, fF ents L[k] c1) (by first | omega | (dsimp only; omega) | (simp; omega)) ⟨by omega, hmap.put _ _, by rw [hsn]; have := hNm.add hx c1; rw [← hNm.1] at this; exact this⟩ ?_ ?_ ?_)
    · exact (by repeat constructor)
    · exact (by repeat constructor)
    · repeat first|exact aI|refine aD ?_|refine aC rfl ?_|refine aH ?_
   ·
    have hx : L[k] ∈ sns (L.take k) := by simpa using c22
    rw [if_pos hx] at hsn;have hjf : (sns (L.take k)).idxOf L[k] = (sns (L.take (k + 1))).idxOf L[k] := by rw [hsn]
    refine f_reC 5 rfl (v := .int .i64 (((sns (L.take k)).idxOf L[k] : Nat) : Int)) (by rw [if_pos hx]) ?_;refine aW ?_;refine aL (kh8 _ _ ?_);clear kh8;refine aB ?_;refine aA rfl rfl rfl (aG rfl) ?_;refine aA rfl rfl rfl (aG rfl) ?_;refine aA rfl rfl rfl (aG rfl) ?_;refine aA rfl rfl rfl (bA bK rfl rfl (k) ⟨by omega, by omega, by first | omega | (simp; done) | (simp; omega)⟩) ?_;refine bF rfl rfl (cB Tryz.sizeOf3 rfl rfl rfl rfl (by rw [List.length_append, aX, fS]; omega) (a6 (i9 L (k + 1)) ++ spl) (by rw [lI hk hjf, List.set_append_left _ _ (by rw [aX, fS]; omega)]; simp [a6, List.map_set]) ?_);refine aJ ?_;refine cV ?_;refine aL (kh5 _ _ ?_);clear kh5;refine aB ?_;refine aA rfl rfl rfl (bG rfl rfl _ (aT (by omega))) ?_;refine aA rfl rfl rfl (aG rfl) ?_;refine aJ ?_;refine aL (bB (k + 1, ents, c1) (by first | omega | (dsimp only; omega) | (simp; omega)) ⟨by omega, hmap, by rw [hsn]; exact hNm⟩ ?_ ?_ ?_)
    · exact (by repeat constructor)
    · exact (by repeat constructor)
    · repeat first|exact aI|refine aD ?_|refine aC rfl ?_|refine aH ?_
  ·
   refine cG ?_;refine cK ?_;clear kh4;refine cK ?_;refine d5 ?_;obtain rfl : k = L.length := by omega
   exact f_fin0n [[(bl, blk (a6 (tdy L) ++ spl) 3)]] Tryz.results46 (by dsimp only; rw [tdyTo_all]; exact (by repeat (first | exact aI | refine aD ?_ | refine aC rfl ?_))) ⟨rfl, rfl, k4 hlo (eR L)⟩
set_option maxRecDepth 100000 in
set_option maxHeartbeats 4000000 in
theorem splook_spec (N : Int) (A B : Option Addr) (l : List Arc) (cap : Nat) (L : List Int) (cb : Nat) (bd : Int) (w : World) (hr : Ro (Fr w []) w A (l.flatMap cE)) (hl : l.length ≤ 9223372036854775807) (hN : I64 N) (hok : ∀ x ∈ l, dQ x) (hL : Ro (Fr w []) w B (a6 L)) (hm : L.length ≤ 9223372036854775807) :
    Meets Tryz.prog 39 [.agg #[.int .i64 N, .slice A l.length cap], .slice B L.length cb, .int .i64 bd] w [] (fun u own' => u = .int .i64 (spE N l L bd) ∧ own' = []) := by
 refine bJ Tryz.func39 rfl Tryz.ntmps39 rfl Owns.nil ?_;refine aK fun K1 kh1 => ?_;refine aB ?_;refine aR rfl rfl rfl (cZ rfl rfl fun b3 => ?_);refine aA rfl rfl rfl (aF rfl) ?_;refine aJ ?_;refine aL (kh1 _ _ ?_);clear kh1;refine aK fun K2 kh2 => ?_;refine aK fun K3 kh3 => ?_;refine aB ?_;refine aA rfl rfl rfl (a8 (vs := [_, _]) Tryz.isAgg24 Tryz.sizeOf24 rfl rfl ⟨(rdA rfl), (rdA rfl), trivial⟩) ?_;refine aA rfl rfl rfl (aG rfl) ?_;refine aR rfl rfl rfl (bD Tryz.call47 rfl (fun w_ hp_ => Count_spec N A B l cap L cb w_ (hr.up0 hp_) hl hN hok (hL.up0 hp_) hm) ?_);rintro _ _ ⟨rfl, rfl⟩;dsimp only [List.cons_append, List.nil_append];refine aA rfl rfl rfl (aG rfl) ?_;refine aA rfl rfl rfl (aV rfl rfl) ?_;refine aA rfl rfl rfl (aV rfl rfl) ?_;refine aA rfl rfl rfl (aF rfl) ?_;refine aA rfl rfl rfl (aF rfl) ?_;refine aJ ?_;refine aL (kh3 _ _ ?_);clear kh3;refine aK fun K4 kh4 => ?_;refine aB ?_;refine aA rfl rfl rfl (aG rfl) ?_;refine aA rfl rfl rfl (c6 rfl rfl) ?_;refine aJ ?_;refine aL (kh4 _ _ ?_);clear kh4;refine aZ rfl (fun c16 => ?_) (fun c16 => ?_)
 ·
  refine aK fun K5 kh5 => ?_;refine aB ?_;refine aA rfl rfl rfl (aG rfl) ?_;refine aA rfl rfl rfl (aF rfl) ?_;refine aJ ?_;refine aL (kh5 _ _ ?_);clear kh5;refine a7 ?_;refine bT ?_;exact bP [] Tryz.results39 rfl aI ⟨by unfold spE; rw [if_pos c16], rfl⟩
 ·
  refine aW ?_;refine aL (kh2 _ _ ?_);clear kh2;refine aK fun K6 kh6 => ?_;refine aK fun K7 kh7 => ?_;refine aB ?_;refine aA rfl rfl rfl (aG rfl) ?_;refine aA rfl rfl rfl (cD rfl rfl) ?_;refine aA rfl rfl rfl (aG rfl) ?_;refine cX 20 rfl (fun g20 => ?_) (fun g20 => ?_)
  ·
   refine aS rfl rfl rfl rfl rfl rfl ?_;refine aS rfl rfl rfl rfl rfl rfl ?_;refine aA rfl rfl rfl (cF rfl rfl) ?_;refine aJ ?_;refine aL (kh7 _ _ ?_);clear kh7;refine eF rfl ?_;refine aK fun K8 kh8 => ?_;refine aB ?_;refine aA rfl rfl rfl (aF rfl) ?_;refine aJ ?_;refine aL (kh8 _ _ ?_);clear kh8;refine a7 ?_;refine bT ?_;exact bP [] Tryz.results39 rfl aI ⟨by unfold spE; rw [if_neg c16, if_pos (by omega)], rfl⟩
  ·
   refine aO rfl rfl rfl rfl rfl (aG rfl) ?_;refine aO rfl rfl rfl rfl rfl (eQ rfl rfl) ?_;refine aA rfl rfl rfl (cO rfl rfl) ?_;refine aJ ?_;refine aL (kh7 _ _ ?_);clear kh7;refine aZ rfl (fun c23 => ?_) (fun c23 => ?_)
   ·
    refine aK fun K9 kh9 => ?_;refine aB ?_;refine aA rfl rfl rfl (aF rfl) ?_;refine aJ ?_;refine aL (kh9 _ _ ?_);clear kh9;refine a7 ?_;refine bT ?_;exact bP [] Tryz.results39 rfl aI ⟨by unfold spE; rw [if_neg c16, if_pos (by omega)], rfl⟩
   ·
    refine aW ?_;refine aL (kh6 _ _ ?_);clear kh6;refine aK fun K10 kh10 => ?_;refine aB ?_;refine aA rfl rfl rfl (aF rfl) ?_;refine aJ ?_;refine aL (kh10 _ _ ?_);clear kh10;refine a7 ?_;exact bP [] Tryz.results39 rfl aI ⟨by unfold spE; rw [if_neg c16, if_neg (by omega)], rfl⟩
set_option maxRecDepth 100000 in
set_option maxHeartbeats 4000000 in
theorem Pairs_spec (N : Int) (A : Option Addr) (l : List Arc) (cap : Nat) (w : World) (hr : Ro (Fr w []) w A (l.flatMap cE)) (hl : l.length ≤ 9223372036854775807) (hN : I64 N) (hok : ∀ x ∈ l, dQ x) :
    Meets Tryz.prog 42 [.agg #[.int .i64 N, .slice A l.length cap]] w [] (fun u own' => if (bH N l).2 = 0 then ∃ A' m' c, u = .tuple #[.slice A' (prs N.toNat l).length (prs N.toNat l).length, .int .i64 0] ∧ own' = [m'] ∧ Own 95 2 (.slice A' (prs N.toNat l).length c) (prs N.toNat l).length ((prs N.toNat l).flatMap dU) m' else u = .tuple #[.slice none 0 0, .int .i64 (bH N l).2] ∧ own' = []) := by
 refine bJ Tryz.func42 rfl Tryz.ntmps42 rfl Owns.nil ?_;refine aK fun K1 kh1 => ?_;refine aB ?_;refine aR rfl rfl rfl (cZ rfl rfl fun b1 => ?_);refine aA rfl rfl rfl (aF rfl) ?_;refine aA rfl rfl rfl (aF rfl) ?_;refine aJ ?_;refine aL (kh1 _ _ ?_);clear kh1;refine aK fun K2 kh2 => ?_;refine aK fun K3 kh3 => ?_;refine aB ?_;refine aA rfl rfl rfl (a8 (vs := [_, _]) Tryz.isAgg24 Tryz.sizeOf24 rfl rfl ⟨(rdA rfl), (rdA rfl), trivial⟩) ?_;refine aR rfl rfl rfl (bD Tryz.call21 rfl (fun w_ hp_ => fG N A l cap w_ (hr.up0 hp_) hl hN hok) ?_);rintro _ _ ⟨rfl, rfl⟩;dsimp only [List.cons_append, List.nil_append];refine aA rfl rfl rfl (aG rfl) ?_;refine aA rfl rfl rfl (aV rfl rfl) ?_;refine aA rfl rfl rfl (aV rfl rfl) ?_;refine aA rfl rfl rfl (aF rfl) ?_;refine aA rfl rfl rfl (aF rfl) ?_;refine aJ ?_;refine aL (kh3 _ _ ?_);clear kh3;refine aK fun K4 kh4 => ?_;refine aB ?_;refine aA rfl rfl rfl (aG rfl) ?_;refine aA rfl rfl rfl (c6 rfl rfl) ?_;refine aJ ?_;refine aL (kh4 _ _ ?_);clear kh4;refine aZ rfl (fun c12 => ?_) (fun c12 => ?_)
 ·
  refine aK fun K5 kh5 => ?_;refine aB ?_;refine aA rfl rfl rfl (aG rfl) ?_;refine aA rfl rfl rfl (aF rfl) ?_;refine aA rfl rfl rfl (aF rfl) ?_;refine aJ ?_;refine aL (kh5 _ _ ?_);clear kh5;refine a7 ?_;refine bT ?_;exact bW [] Tryz.results42 rfl rfl aI (by rw [if_neg c12]; exact ⟨rfl, rfl⟩)
 ·
  have hg : (bH N l).2 = 0 := by simpa using c12
  obtain ⟨n, rfl⟩ : ∃ n : Nat, N = (n : Int) := ⟨N.toNat, by have := bX hg; omega⟩
  refine aW ?_;refine aL (kh2 _ _ ?_);clear kh2;refine aK fun K6 kh6 => ?_;refine aB ?_;refine aA rfl rfl rfl (a8 (vs := [_, _]) Tryz.isAgg24 Tryz.sizeOf24 rfl rfl ⟨(rdA rfl), (rdA rfl), trivial⟩) ?_;refine aR rfl rfl rfl (bD Tryz.call66 rfl (fun w_ hp_ => pairs_spec n A l cap w_ (hr.up0 hp_) hg) ?_);rintro _ _ ⟨A', m', rfl, rfl, c', hO⟩;dsimp only [List.cons_append, List.nil_append];refine aA rfl rfl rfl (aF rfl) ?_;refine aA rfl rfl rfl (aF rfl) ?_;refine aJ ?_;refine aL (kh6 _ _ ?_);clear kh6;refine a7 ?_;exact bW [m'] Tryz.results42 rfl rfl (by repeat (first | exact aI | refine aD ?_ | refine aC rfl ?_)) (by rw [if_pos hg, Int.toNat_natCast]; exact ⟨A', m', c', rfl, rfl, hO⟩)
set_option maxRecDepth 100000 in
set_option maxHeartbeats 4000000 in
theorem before_spec (s t : Sm) (w : World) (hs : SmOk s) (ht : SmOk t) :
    Meets Tryz.prog 45 [.agg (kU s).toArray, .agg (kU t).toArray] w [] (fun u own' => u = .int .i64 (j8 s t) ∧ own' = []) := by
 unfold SmOk at hs ht
 refine bJ Tryz.func45 rfl Tryz.ntmps45 rfl Owns.nil ?_;refine aK fun K1 kh1 => ?_;refine aB ?_;refine aR rfl rfl rfl (cZ rfl rfl fun b2 => ?_);refine aR rfl rfl rfl (cZ rfl rfl fun b3 => ?_);refine aA rfl rfl rfl (aF rfl) ?_;refine aJ ?_;refine aL (kh1 _ _ ?_);clear kh1;refine aK fun K2 kh2 => ?_;refine aY ?_;refine aK fun K3 kh3 => ?_;refine aB ?_;refine aA rfl rfl rfl (aQ fa79_2 rfl) ?_;refine aA rfl rfl rfl (aM Tryz.isAgg3 rfl (rdA rfl)) ?_;refine aA rfl rfl rfl (aQ fa79_2 rfl) ?_;refine aA rfl rfl rfl (aM Tryz.isAgg3 rfl (rdA rfl)) ?_;refine aA rfl rfl rfl (c6 rfl rfl) ?_;refine aA rfl rfl rfl (aF rfl) ?_;refine aJ ?_;refine aL (kh3 _ _ ?_);clear kh3;refine aZ rfl (fun c5 => ?_) (fun c5 => ?_)
 ·
  refine aK fun K4 kh4 => ?_;refine aB ?_;refine aA rfl rfl rfl (aQ fa79_2 rfl) ?_;refine aA rfl rfl rfl (aM Tryz.isAgg3 rfl (rdA rfl)) ?_;refine aA rfl rfl rfl (aQ fa79_2 rfl) ?_;refine aA rfl rfl rfl (aM Tryz.isAgg3 rfl (rdA rfl)) ?_;refine aA rfl rfl rfl (fV rfl rfl _ (aT (by omega))) ?_;refine aA rfl rfl rfl (aF rfl) ?_;refine aJ ?_;refine aL (kh4 _ _ ?_);clear kh4;refine a7 ?_;refine eC ?_;refine bT ?_;exact bP [] Tryz.results45 rfl aI ⟨by unfold j8; rw [if_pos (by omega)], rfl⟩
 ·
  refine aK fun K5 kh5 => ?_;refine aB ?_;refine aA rfl rfl rfl (aQ fa79_0 rfl) ?_;refine aA rfl rfl rfl (aM Tryz.isAgg3 rfl (rdA rfl)) ?_;refine aA rfl rfl rfl (aQ fa79_0 rfl) ?_;refine aA rfl rfl rfl (aM Tryz.isAgg3 rfl (rdA rfl)) ?_;refine aA rfl rfl rfl (c6 rfl rfl) ?_;refine aA rfl rfl rfl (aF rfl) ?_;refine aJ ?_;refine aL (kh5 _ _ ?_);clear kh5;refine aZ rfl (fun c16 => ?_) (fun c16 => ?_)
  ·
   refine aK fun K6 kh6 => ?_;refine aB ?_;refine aA rfl rfl rfl (aQ fa79_0 rfl) ?_;refine aA rfl rfl rfl (aM Tryz.isAgg3 rfl (rdA rfl)) ?_;refine aA rfl rfl rfl (aQ fa79_0 rfl) ?_;refine aA rfl rfl rfl (aM Tryz.isAgg3 rfl (rdA rfl)) ?_;refine aA rfl rfl rfl (fV rfl rfl _ (aT (by omega))) ?_;refine aA rfl rfl rfl (aF rfl) ?_;refine aJ ?_;refine aL (kh6 _ _ ?_);clear kh6;refine a7 ?_;refine eC ?_;refine bT ?_;exact bP [] Tryz.results45 rfl aI ⟨by unfold j8; rw [if_neg (by omega), if_pos (by omega)], rfl⟩
  ·
   refine aW ?_;refine cV ?_;refine aL (kh2 _ _ ?_);clear kh2;refine aK fun K7 kh7 => ?_;refine aB ?_;refine aA rfl rfl rfl (aQ fa79_1 rfl) ?_;refine aA rfl rfl rfl (aM Tryz.isAgg3 rfl (rdA rfl)) ?_;refine aA rfl rfl rfl (aQ fa79_1 rfl) ?_;refine aA rfl rfl rfl (aM Tryz.isAgg3 rfl (rdA rfl)) ?_;refine aA rfl rfl rfl (fV rfl rfl _ (aT (by omega))) ?_;refine aA rfl rfl rfl (aF rfl) ?_;refine aJ ?_;refine aL (kh7 _ _ ?_);clear kh7;refine a7 ?_;exact bP [] Tryz.results45 rfl aI ⟨by unfold j8; rw [if_neg (by omega), if_neg (by omega)], rfl⟩
set_option maxRecDepth 100000 in
set_option maxHeartbeats 4000000 in
theorem MinF_spec (A : Option Addr) (cap : Nat) (l : List Sm) (w : World) (hr : Ro (Fr w []) w A (l.flatMap kU)) (h0 : 0 < l.length) (hl : l.length ≤ 9223372036854775807) (hok : ∀ s ∈ l, SmOk s) :
    Meets Tryz.prog 44 [.slice A l.length cap, .func (.func 45) #[] #[]] w [] (fun u own' => ∃ s, u = .agg (kU s).toArray ∧ s ∈ l ∧ (∀ t ∈ l, j8 s t ≤ 0) ∧ own' = []) := by
 obtain ⟨bq, off, rfl, hS, hc⟩ := hr (f9 kU smCs_len (by omega) h0)
 refine bJ Tryz.func44 rfl Tryz.ntmps44 rfl Owns.nil ?_;refine aK fun K1 kh1 => ?_;refine aB ?_;refine aR rfl rfl rfl (cU Tryz.zeroValue79 rfl fun b4 => ?_);refine aJ ?_;refine aL (kh1 _ _ ?_);clear kh1;refine aK fun K2 kh2 => ?_;refine aK fun K3 kh3 => ?_;refine aB ?_;refine aA rfl rfl rfl (aG rfl) ?_;refine aA rfl rfl rfl (bS sl76 rfl) ?_;refine aA rfl rfl rfl (cD rfl rfl) ?_;refine aJ ?_;refine aL (kh3 _ _ ?_);clear kh3;refine e7 rfl (by omega) ?_;refine aW ?_;refine aL (kh2 _ _ ?_);clear kh2;refine aK fun K4 kh4 => ?_;refine aB ?_;refine aA rfl rfl rfl (aG rfl) ?_;refine aA rfl rfl rfl (bA sl76 rfl rfl (off + 0 * 3) ⟨by omega, by omega, by first | omega | (simp; done) | (simp; omega)⟩) ?_;refine aA rfl rfl rfl (a8 (vs := kU l[0]) Tryz.isAgg79 Tryz.sizeOf79 rfl rfl (gN smCs_len hS hc h0)) ?_;refine aR rfl rfl rfl (cU Tryz.zeroValue79 rfl fun b5 => ?_);refine bF rfl rfl (cA Tryz.sizeOf79 rfl rfl rfl rfl (by first | exact Nat.le_of_ble_eq_true rfl | (simp; done) | (simp; omega)) (kU l[0]) rfl ?_);refine aJ ?_;refine aL (kh4 _ _ ?_);clear kh4;refine aK fun K5 kh5 => ?_;refine aK fun K6 kh6 => ?_;refine aB ?_;refine aA rfl rfl rfl (aF rfl) ?_;refine aJ ?_;refine aL (kh6 _ _ ?_);clear kh6;refine aY ?_;refine cS (α := Nat × Sm) [0, 1, 4, 5] (fun ⟨i, s⟩ => [(6, .int .i64 (i : Int))]) (fun ⟨i, s⟩ => [[(b5, blk (kU s) 79)], [(b4, blk [.int .i64 0, .int .i64 0, .int .i64 0] 79)]]) (fun ⟨i, s⟩ => i ≤ l.length ∧ s ∈ l ∧ ∀ t ∈ l.take i, j8 s t ≤ 0) (fun ⟨i, s⟩ => l.length - i) (1, l[0]) ?_ ?_ ?_ ?_
 · exact (by repeat constructor)
 · repeat first|exact aI|refine aD ?_|refine aC rfl ?_|refine aH ?_
 · exact ⟨by omega, List.getElem_mem h0, fun t ht => by rw [List.take_succ_eq_append_getElem h0] at ht; simp at ht; subst ht; exact befI_refl _⟩
 ·
  rintro ⟨i, s⟩ ⟨hil, hs, hbs⟩;refine aK fun K7 kh7 => ?_;refine aK fun K8 kh8 => ?_;refine aB ?_;refine aA rfl rfl rfl (aG rfl) ?_;refine aA rfl rfl rfl (aG rfl) ?_;refine aA rfl rfl rfl (bS sl76 rfl) ?_;refine aA rfl rfl rfl (cD rfl rfl) ?_;refine aJ ?_;refine aL (kh8 _ _ ?_);clear kh8;refine aZ rfl (fun c17 => ?_) (fun c17 => ?_)
  ·
   have hi : i < l.length := by omega
   have htk := take_all hi hbs
   refine aW ?_;refine aL (kh7 _ _ ?_);clear kh7;refine aK fun K9 kh9 => ?_;refine aY ?_;refine aK fun K10 kh10 => ?_;refine dH [[(b5, blk (kU s) 79)]] rfl ?_;refine aU 0 rfl (by decide +kernel) rfl rfl rfl (by repeat first|exact aI|refine aD ?_|refine aC rfl ?_|refine aH ?_) (aG rfl) ?_;refine aU 1 rfl (by decide +kernel) rfl rfl rfl (by repeat first|exact aI|refine aD ?_|refine aC rfl ?_|refine aH ?_) (aG rfl) ?_;refine aU 2 rfl (by decide +kernel) rfl rfl rfl (by repeat first|exact aI|refine aD ?_|refine aC rfl ?_|refine aH ?_) (aG rfl) ?_;refine aU 3 rfl (by decide +kernel) rfl rfl rfl (by repeat first|exact aI|refine aD ?_|refine aC rfl ?_|refine aH ?_) (bA sl76 rfl rfl (off + i * 3) ⟨by omega, by omega, by first | omega | (simp; done) | (simp; omega)⟩) ?_;refine aU 4 rfl (by decide +kernel) rfl rfl rfl (by repeat first|exact aI|refine aD ?_|refine aC rfl ?_|refine aH ?_) (a8 (vs := kU l[i]) Tryz.isAgg79 Tryz.sizeOf79 rfl rfl (gN smCs_len hS hc hi)) ?_;refine aU 5 rfl (by decide +kernel) rfl rfl rfl (by repeat first|exact aI|refine aD ?_|refine aC rfl ?_|refine aH ?_) (a8 (vs := [_, _, _]) Tryz.isAgg79 Tryz.sizeOf79 rfl rfl ⟨(rdA rfl), (rdA rfl), (rdA rfl), trivial⟩) ?_;refine bQ 6 rfl (by decide +kernel) rfl rfl rfl (lQ [] _ Tryz.call45 rfl rfl Sub.refl (fun w_ hp_ => (by have h := before_spec l[i] s w_ (hok _ (List.getElem_mem hi)) (hok _ hs); exact h)) ?_);rintro _ _ ⟨rfl, rfl⟩;dsimp only [List.cons_append, List.nil_append];refine ⟨(by repeat first|exact aI|refine aD ?_|refine aC rfl ?_|refine aH ?_), ?_⟩;refine aU 7 rfl (by decide +kernel) rfl rfl rfl (by repeat first|exact aI|refine aD ?_|refine aC rfl ?_|refine aH ?_) (cD rfl rfl) ?_;refine dF (by decide +kernel) ?_;refine aL (kh10 _ _ ?_);clear kh10;refine aZ rfl (fun c27 => ?_) (fun c27 => ?_)
   ·
    refine aB ?_;refine aA rfl rfl rfl (aG rfl) ?_;refine aA rfl rfl rfl (aG rfl) ?_;refine aA rfl rfl rfl (bA sl76 rfl rfl (off + i * 3) ⟨by omega, by omega, by first | omega | (simp; done) | (simp; omega)⟩) ?_;refine aA rfl rfl rfl (a8 (vs := kU l[i]) Tryz.isAgg79 Tryz.sizeOf79 rfl rfl (gN smCs_len hS hc hi)) ?_;refine bF rfl rfl (cA Tryz.sizeOf79 rfl rfl rfl rfl (by first | exact Nat.le_of_ble_eq_true rfl | (simp; done) | (simp; omega)) (kU l[i]) rfl ?_);refine aJ ?_;refine cV ?_;refine aL (kh9 _ _ ?_);clear kh9;refine aB ?_;refine aA rfl rfl rfl (aG rfl) ?_;refine aA rfl rfl rfl (bG rfl rfl _ (aT (by omega))) ?_;refine aA rfl rfl rfl (aF rfl) ?_;refine aJ ?_;refine aL (bB (i + 1, l[i]) (by first | omega | (dsimp only; omega) | (simp; omega)) ⟨by omega, List.getElem_mem hi, htk.1 (by omega)⟩ ?_ ?_ ?_)
    · exact (by repeat constructor)
    · exact (by repeat constructor)
    · repeat first|exact aI|refine aD ?_|refine aC rfl ?_|refine aH ?_
   ·
    refine aW ?_;refine cV ?_;refine aL (kh9 _ _ ?_);clear kh9;refine aB ?_;refine aA rfl rfl rfl (aG rfl) ?_;refine aA rfl rfl rfl (bG rfl rfl _ (aT (by omega))) ?_;refine aA rfl rfl rfl (aF rfl) ?_;refine aJ ?_;refine aL (bB (i + 1, s) (by first | omega | (dsimp only; omega) | (simp; omega)) ⟨by omega, hs, htk.2 (by omega)⟩ ?_ ?_ ?_)
    · exact (by repeat constructor)
    · exact (by repeat constructor)
    · repeat first|exact aI|refine aD ?_|refine aC rfl ?_|refine aH ?_
  ·
   refine cG ?_;refine cK ?_;clear kh7;refine cK ?_;refine d5 ?_;refine aL (kh5 _ _ ?_);clear kh5;refine aK fun K11 kh11 => ?_;refine aB ?_;refine aA rfl rfl rfl (a8 (vs := [_, _, _]) Tryz.isAgg79 Tryz.sizeOf79 rfl rfl ⟨(rdA rfl), (rdA rfl), (rdA rfl), trivial⟩) ?_;refine bF rfl rfl (cA Tryz.sizeOf79 rfl rfl rfl rfl (by first | exact Nat.le_of_ble_eq_true rfl | (simp; done) | (simp; omega)) (kU s) rfl ?_);refine aJ ?_;refine aL (kh11 _ _ ?_);clear kh11;refine a7 ?_;exact f_finR1 [] Tryz.results44 (rvA (vs := kU s) Tryz.isAgg79 Tryz.sizeOf79 rfl rfl ⟨(rdA rfl), (rdA rfl), (rdA rfl), trivial⟩) aI ⟨s, rfl, hs, (by rw [List.take_of_length_le (by omega)] at hbs; exact hbs), rfl⟩
end Go.Proofs.YtjjogcnjcnpehaaGreat

/- split.seams: labels that can be joined. -/
namespace Go.Proofs.YtjjogcnjcnpehaaGreat
open Go Go.RowKit Fly
set_option linter.unusedVariables false
set_option linter.unusedSimpArgs false
theorem mput_len {α : Type} [DecidableEq α] (x : α) (v : Value) (c : Nat) : ∀ l : List (α × Value × Nat), (eW l x v c).length ≤ l.length + 1
  | [] => by simp [eW]
  | e :: r => by
    have := mput_len x v c r
    unfold eW; split
    · simp
    · simp; omega
theorem mget_mem {α : Type} [DecidableEq α] {e : α × Value × Nat} : ∀ {l : List (α × Value × Nat)}, (l.map (·.1)).Nodup → e ∈ l → dI l e.1 = some e.2.1
  | f :: l, hn, h => by
    rw [List.map_cons, List.nodup_cons] at hn
    rcases List.mem_cons.1 h with rfl | h
    · simp [dI]
    · unfold dI
      rw [if_neg (fun e' => hn.1 (by rw [← e']; exact List.mem_map.2 ⟨e, h, rfl⟩))];exact mget_mem hn.2 h
theorem mget_app {α : Type} [DecidableEq α] (x : α) (z : Value) (c : Nat) : ∀ l : List (α × Value × Nat), dI l x = none → dI (l ++ [(x, z, c)]) x = some z
  | [], _ => by simp [dI]
  | e :: r, h => by
    unfold dI at h
    split at h
    · cases h
    · rename_i hne
      rw [List.cons_append]; unfold dI; rw [if_neg hne]; exact mget_app x z c r h
theorem ment_val {α : Type} [DecidableEq α] (l : List (α × Value × Nat)) (x : α) (z : Value) (c : Nat) : (dI (kB l x z c) x).getD z = (dI l x).getD z := by
  unfold kB
  split
  · rfl
  · rename_i h
    have h' : dI l x = none := by cases hg : dI l x with
      | none => rfl
      | some v => rw [hg] at h; simp at h
    rw [mget_app x z c l h', h']; rfl
def jH (L : List Int) (p : Pr) : Int × Int := (min (lab L p.1) (lab L p.2), max (lab L p.1) (lab L p.2))
def okP (L : List Int) (bd : Int) (p : Pr) : Bool := decide (lab L p.1 ≠ lab L p.2 ∧ (eP L (lab L p.1) : Int) + eP L (lab L p.2) ≤ bd)
def cntK (ps : List Pr) (L : List Int) (k : Int × Int) : Nat := (ps.filter fun p => decide (jH L p = k)).length
/-- All seams, with their pairs. -/
def smL (ps : List Pr) (L : List Int) (bd : Int) : List Sm := (ps.filter (okP L bd)).map fun p => ((jH L p).1, (jH L p).2, (cntK ps L (jH L p) : Int))
theorem okP_same {L : List Int} {bd : Int} {p q : Pr} (h : okP L bd p = true) (e : jH L p = jH L q) : okP L bd q = true := by
  unfold okP at h ⊢
  unfold jH at e
  simp only [decide_eq_true_eq, Prod.mk.injEq] at h e ⊢;have : (lab L q.1 = lab L p.1 ∧ lab L q.2 = lab L p.2) ∨ (lab L q.1 = lab L p.2 ∧ lab L q.2 = lab L p.1) := by omega
  rcases this with ⟨e1, e2⟩ | ⟨e1, e2⟩
  · rw [e1, e2]; exact h
  · rw [e1, e2]; exact ⟨fun e => h.1 e.symm, by omega⟩
theorem cntK_le (ps : List Pr) (L : List Int) (k : Int × Int) : cntK ps L k ≤ ps.length := List.length_filter_le _ _
theorem cntK_add (ps : List Pr) (L : List Int) (p : Pr) (k : Int × Int) : cntK (ps ++ [p]) L k = cntK ps L k + if jH L p = k then 1 else 0 := by
  unfold cntK; rw [List.filter_append, List.length_append]
  congr 1
  by_cases h : jH L p = k
  · simp [h]
  · simp [h]
structure SM (ps : List Pr) (L : List Int) (bd : Int) (ents : List ((Int × Int) × Value × Nat)) : Prop where
  one : ∀ k v, dI ents k = some v → v = .int .i64 (cntK ps L k : Int) ∧ ∃ p ∈ ps, okP L bd p = true ∧ jH L p = k
  all : ∀ p ∈ ps, okP L bd p = true → dI ents (jH L p) ≠ none
  few : ents.length ≤ ps.length
theorem SM.nil (L : List Int) (bd : Int) : SM [] L bd [] where
  one := fun k v h => by simp [dI] at h
  all := fun p hp => by cases hp
  few := Nat.le_refl _
theorem SM.val {ps : List Pr} {L : List Int} {bd : Int} {ents : List ((Int × Int) × Value × Nat)} (h : SM ps L bd ents) {p : Pr} (hp : okP L bd p = true) : (dI ents (jH L p)).getD (.int .i64 0) = .int .i64 (cntK ps L (jH L p) : Int) := by
  cases hg : dI ents (jH L p) with
  | some v => exact (h.one _ _ hg).1
  | none =>
    have : cntK ps L (jH L p) = 0 := by
      unfold cntK
      rw [List.length_eq_zero_iff, List.filter_eq_nil_iff];intro q hq e;simp only [decide_eq_true_eq] at e;exact h.all q hq (okP_same hp e.symm) (by rw [e]; exact hg)
    rw [this]; rfl
theorem SM.add {ps : List Pr} {L : List Int} {bd : Int} {ents : List ((Int × Int) × Value × Nat)} (h : SM ps L bd ents) {p : Pr} (hp : okP L bd p = true) (k : Nat) :
    SM (ps ++ [p]) L bd (eW ents (jH L p) (.int .i64 ((cntK ps L (jH L p) : Int) + 1)) k) where
  one := fun q v hg => by
    rw [gS] at hg;rw [cntK_add]
    by_cases e : q = jH L p
    · subst e
      rw [if_pos rfl] at hg;cases hg
      exact ⟨by rw [if_pos rfl]; rfl, p, by simp, hp, rfl⟩
    · rw [if_neg e] at hg
      obtain ⟨h1, r, hr, h2⟩ := h.one q v hg
      exact ⟨by rw [if_neg (fun e' => e e'.symm), Nat.add_zero]; exact h1, r, by simp [hr], h2⟩
  all := fun q hq ho => by
    rw [gS]
    split
    · simp
    · rename_i hne
      rcases List.mem_append.1 hq with hq | hq
      · exact h.all q hq ho
      · obtain rfl := List.mem_singleton.1 hq; exact absurd rfl hne
  few := by have := mput_len (jH L p) (.int .i64 ((cntK ps L (jH L p) : Int) + 1)) k ents; have := h.few; simp; omega
theorem SM.skip {ps : List Pr} {L : List Int} {bd : Int} {ents : List ((Int × Int) × Value × Nat)} (h : SM ps L bd ents) {p : Pr} (hp : ¬ okP L bd p = true) : SM (ps ++ [p]) L bd ents where
  one := fun q v hg => by
    obtain ⟨h1, r, hr, h2, h3⟩ := h.one q v hg
    rw [cntK_add, if_neg (fun e => hp (okP_same h2 (h3.trans e.symm))), Nat.add_zero];exact ⟨h1, r, by simp [hr], h2, h3⟩
  all := fun q hq ho => by
    rcases List.mem_append.1 hq with hq | hq
    · exact h.all q hq ho
    · obtain rfl := List.mem_singleton.1 hq; exact absurd ho hp
  few := by have := h.few; simp; omega
theorem mem_smL {ps : List Pr} {L : List Int} {bd : Int} {s : Sm} : s ∈ smL ps L bd ↔ ∃ p ∈ ps, okP L bd p = true ∧ jH L p = (s.1, s.2.1) ∧ s.2.2 = (cntK ps L (s.1, s.2.1) : Int) := by
  unfold smL
  rw [List.mem_map];constructor
  · rintro ⟨p, hp, rfl⟩
    obtain ⟨h1, h2⟩ := List.mem_filter.1 hp
    exact ⟨p, h1, h2, rfl, rfl⟩
  · rintro ⟨p, hp, ho, e, e2⟩
    refine ⟨p, List.mem_filter.2 ⟨hp, ho⟩, ?_⟩;rw [e, ← e2]
theorem SM.ent {ps : List Pr} {L : List Int} {bd : Int} {ents : List ((Int × Int) × Value × Nat)} {ck : Nat} (h : SM ps L bd ents) (hm : MOk ents ck) {e : (Int × Int) × Value × Nat} (he : e ∈ ents) : ∃ a b c s, e = ((a, b), .int .i64 c, s) ∧ (a, b, c) ∈ smL ps L bd := by
  obtain ⟨⟨a, b⟩, v, s⟩ := e
  obtain ⟨e, p, hp, h1, h2⟩ := h.one (a, b) v (mget_mem hm.keys he)
  subst e;exact ⟨a, b, _, s, rfl, mem_smL.2 ⟨p, hp, h1, h2, rfl⟩⟩
theorem SM.end_ {ps : List Pr} {L : List Int} {bd : Int} {ents : List ((Int × Int) × Value × Nat)} {sl : List Sm} (h : SM ps L bd ents) (hs : ∀ s ∈ sl, s ∈ smL ps L bd) (hk : ∀ k, k ∈ (sl.map fun s => (s.1, s.2.1)) ↔ k ∈ ents.map (·.1)) (s : Sm) : s ∈ sl ↔ s ∈ smL ps L bd := by
  refine ⟨hs s, fun hm => ?_⟩;obtain ⟨p, hp, ho, e, e2⟩ := mem_smL.1 hm
  have h1 : jH L p ∈ ents.map (·.1) := by
    refine Classical.byContradiction fun hn => h.all p hp ho (mget_none.2 hn)
  obtain ⟨t, ht, et⟩ := List.mem_map.1 ((hk _).2 h1)
  obtain ⟨_, _, _, _, e3⟩ := mem_smL.1 (hs t ht)
  rw [e] at et
  have h2 : t = s := by
    obtain ⟨t1, t2, t3⟩ := t
    obtain ⟨s1, s2, s3⟩ := s
    simp only [Prod.mk.injEq] at et;obtain ⟨rfl, rfl⟩ := et
    simp only at e2 e3;rw [e2, e3]
  rw [← h2]; exact ht
theorem smL_seam {n : Nat} {l : List Arc} {L : List Int} {bd : Int} {s : Sm} (h : s ∈ smL (prs n l) L bd) : Seam n l bd L s.1 s.2.1 := by
  obtain ⟨p, hp, ho, e, _⟩ := mem_smL.1 h
  unfold okP at ho; unfold jH at e
  simp only [decide_eq_true_eq, Prod.mk.injEq] at ho e;have : (lab L p.1 = s.1 ∧ lab L p.2 = s.2.1) ∨ (lab L p.1 = s.2.1 ∧ lab L p.2 = s.1) := by omega
  refine ⟨p, hp, by omega, this, ?_⟩
  rcases this with ⟨e1, e2⟩ | ⟨e1, e2⟩
  · rw [e1, e2] at ho; exact ho.2
  · rw [e1, e2] at ho; have := ho.2; omega
theorem lab_nat {L : List Int} {u : Int} {a : Nat} (h : u.toNat < L.length) (e : L[u.toNat] = (a : Int)) : lab L u = (a : Int) := by rw [kK h, e]
set_option maxRecDepth 100000 in
set_option maxHeartbeats 4000000 in
theorem seams_spec {n : Nat} (A B : Option Addr) (l : List Arc) (cap : Nat) (L : List Int) (cb : Nat) (bd : Int) (w : World) (hr : Ro (Fr w []) w A ((prs n l).flatMap dU)) (hL : Ro (Fr w []) w B (a6 L)) (hR : c7 (n : Int) L = true) (hn1 : 1 ≤ n) (hn2 : n ≤ 1024) (hb : 1 ≤ bd ∧ bd ≤ 1024) :
    Meets Tryz.prog 43 [.slice A (prs n l).length cap, .slice B L.length cb, .int .i64 bd] w [] (fun u own' => ∃ (sl : List Sm) (c' : Nat) (A' : Option Addr) (m' : Seg), u = .slice A' sl.length c' ∧ own' = [m'] ∧ Own 79 3 (.slice A' sl.length c') sl.length (sl.flatMap kU) m' ∧ (∀ s, s ∈ sl ↔ s ∈ smL (prs n l) L bd) ∧ (∀ s ∈ sl, SmOk s) ∧ sl.length ≤ 1048576) := by
 have hpl := prs_len (n := n) hn2 l
 have hLn : L.length = n := (cN hR).2
 have hrg := dY hR hn1
 refine bJ Tryz.func43 rfl Tryz.ntmps43 rfl Owns.nil ?_;refine aK fun K1 kh1 => ?_;refine aB ?_;refine aA rfl rfl rfl (aF rfl) ?_;refine aJ ?_;refine aL (kh1 _ _ ?_);clear kh1;refine aK fun K2 kh2 => ?_;refine aB ?_;refine aA rfl rfl rfl (aG rfl) ?_;refine aR rfl rfl rfl (bD Tryz.call41 rfl (fun w_ hp_ => lK B L cb w_ (hL.up0 hp_) (by omega) (by omega) (fun x hx => by have := hrg x hx; omega)) ?_);rintro _ _ ⟨bs, rfl, rfl⟩;obtain ⟨M, hM⟩ : ∃ M : Nat, (d4 L + 1).toNat = M := ⟨_, rfl⟩
 rw [cQ, hM];rw [hM] at hrg;have hMn : M ≤ n := (hrg L[0] (List.getElem_mem (by omega))).2.2
 dsimp only [List.cons_append, List.nil_append];refine aA rfl rfl rfl (aF rfl) ?_;refine aJ ?_;refine aL (kh2 _ _ ?_);clear kh2;refine aK fun K3 kh3 => ?_;refine aB ?_;refine aR rfl rfl rfl (iH fun b18 => ?_);refine aA rfl rfl rfl (aF rfl) ?_;refine aJ ?_;refine aL (kh3 _ _ ?_);clear kh3;refine aK fun K4 kh4 => ?_;refine aK fun K5 kh5 => ?_;refine aB ?_;refine aA rfl rfl rfl (aG rfl) ?_;refine aA rfl rfl rfl (bS iB rfl) ?_;refine aA rfl rfl rfl (aG rfl) ?_;refine aJ ?_;refine aL (kh5 _ _ ?_);clear kh5;refine aY ?_;refine cS (α := Nat × List ((Int × Int) × Value × Nat) × Nat) [1, 2, 7, 8, 19, 20] (fun ⟨i, ents, c1⟩ => [(21, .int .i64 (i : Int))]) (fun ⟨i, ents, c1⟩ => [[(b18, f3 kO ents c1)], [(bs, blk (a6 (szs M L)) 3)]]) (fun ⟨i, ents, c1⟩ => i ≤ (prs n l).length ∧ MOk ents c1 ∧ SM ((prs n l).take i) L bd ents) (fun ⟨i, ents, c1⟩ => (prs n l).length - i) (0, [], 0) ?_ ?_ ?_ ?_
 · exact (by repeat constructor)
 · repeat first|exact aI|refine aD ?_|refine aC rfl ?_|refine aH ?_
 · exact ⟨by omega, MOk.nil, SM.nil L bd⟩
 ·
  rintro ⟨i, ents, c1⟩ ⟨hil, hmap, hsm⟩;refine aK fun K6 kh6 => ?_;refine aB ?_;refine aA rfl rfl rfl (cD rfl rfl) ?_;refine aJ ?_;refine aL (kh6 _ _ ?_);clear kh6;refine aK fun K7 kh7 => ?_;refine aZ rfl (fun c22 => ?_) (fun c22 => ?_)
  ·
   have hi : i < (prs n l).length := by omega
   obtain ⟨bp, op, rfl, hSp, hcp⟩ := hr (f9 dU dK (by omega) hi)
   obtain ⟨bb, ob, rfl, hSb, hcb⟩ := hL (fun e => by have := aX L; rw [e] at this; simp at this; omega)
   have hpr := f7 (List.getElem_mem hi)
   have hx1 : (prs n l)[i].1.toNat < L.length := by omega
   have hx2 : (prs n l)[i].2.toNat < L.length := by omega
   have hr1 := hrg _ (List.getElem_mem hx1)
   have hr2 := hrg _ (List.getElem_mem hx2)
   obtain ⟨a, ha⟩ : ∃ a : Nat, L[(prs n l)[i].1.toNat] = (a : Int) := ⟨_, (Int.toNat_of_nonneg hr1.1).symm⟩
   obtain ⟨b, hb'⟩ : ∃ b : Nat, L[(prs n l)[i].2.toNat] = (b : Int) := ⟨_, (Int.toNat_of_nonneg hr2.1).symm⟩
   rw [ha] at hr1;rw [hb'] at hr2;have la := lab_nat hx1 ha
   have lb := lab_nat hx2 hb'
   have haM : a < M := by omega
   have hbM : b < M := by omega
   have hca := cnt_le L a
   have hcb' := cnt_le L b
   have ca : eP L (a : Int) = cnt L a := rfl
   have cb' : eP L (b : Int) = cnt L b := rfl
   have htk : (prs n l).take (i + 1) = (prs n l).take i ++ [(prs n l)[i]] := List.take_succ_eq_append_getElem hi
   have hti : ((prs n l).take i).length = i := by rw [List.length_take]; omega
   have hkey : jH L (prs n l)[i] = (min (a : Int) b, max (a : Int) b) := by unfold jH; rw [la, lb]
   refine aW ?_;refine aL (kh7 _ _ ?_);clear kh7;refine aK fun K8 kh8 => ?_;refine aY ?_;refine aK fun K9 kh9 => ?_;refine aB ?_;refine aA rfl rfl rfl (bA iB rfl rfl (op + i * 2) ⟨by omega, by omega, by first | omega | (simp; done) | (simp; omega)⟩) ?_;refine aA rfl rfl rfl (a8 (vs := dU (prs n l)[i]) Tryz.isAgg95 Tryz.sizeOf95 rfl rfl (gN dK hSp hcp hi)) ?_;refine aR rfl rfl rfl (cU Tryz.zeroValue95 rfl fun b10 => ?_);refine bF rfl rfl (cA Tryz.sizeOf95 rfl rfl rfl rfl (by first | exact Nat.le_of_ble_eq_true rfl | (simp; done) | (simp; omega)) (dU (prs n l)[i]) rfl ?_);refine aJ ?_;refine aL (kh9 _ _ ?_);clear kh9;refine aK fun K10 kh10 => ?_;refine dH [[(b10, blk [.int .i64 (prs n l)[i].1, .int .i64 (prs n l)[i].2] 95)]] rfl ?_;refine aU 0 rfl (by decide +kernel) rfl rfl rfl (by repeat first|exact aI|refine aD ?_|refine aC rfl ?_|refine aH ?_) (aG rfl) ?_;refine aU 1 rfl (by decide +kernel) rfl rfl rfl (by repeat first|exact aI|refine aD ?_|refine aC rfl ?_|refine aH ?_) (aQ kM rfl) ?_;refine aU 2 rfl (by decide +kernel) rfl rfl rfl (by repeat first|exact aI|refine aD ?_|refine aC rfl ?_|refine aH ?_) (aM Tryz.isAgg3 rfl (rdA rfl)) ?_;refine aU 3 rfl (by decide +kernel) rfl rfl rfl (by repeat first|exact aI|refine aD ?_|refine aC rfl ?_|refine aH ?_) (bA bK rfl rfl (ob + (prs n l)[i].1.toNat) ⟨by omega, by omega, by first | omega | (simp; done) | (simp; omega)⟩) ?_;refine aU 4 rfl (by decide +kernel) rfl rfl rfl (by repeat first|exact aI|refine aD ?_|refine aC rfl ?_|refine aH ?_) (aM Tryz.isAgg3 rfl (show Rd _ _ _ _ _ (.int .i64 (a : Int)) by rw [← ha]; exact dX (enc := (.int .i64 ·)) hSb hcb hx1)) ?_;refine aU 5 rfl (by decide +kernel) rfl rfl rfl (by repeat first|exact aI|refine aD ?_|refine aC rfl ?_|refine aH ?_) (aG rfl) ?_;refine aU 6 rfl (by decide +kernel) rfl rfl rfl (by repeat first|exact aI|refine aD ?_|refine aC rfl ?_|refine aH ?_) (aQ fa95_1 rfl) ?_;refine aU 7 rfl (by decide +kernel) rfl rfl rfl (by repeat first|exact aI|refine aD ?_|refine aC rfl ?_|refine aH ?_) (aM Tryz.isAgg3 rfl (rdA rfl)) ?_;refine aU 8 rfl (by decide +kernel) rfl rfl rfl (by repeat first|exact aI|refine aD ?_|refine aC rfl ?_|refine aH ?_) (bA bK rfl rfl (ob + (prs n l)[i].2.toNat) ⟨by omega, by omega, by first | omega | (simp; done) | (simp; omega)⟩) ?_;refine aU 9 rfl (by decide +kernel) rfl rfl rfl (by repeat first|exact aI|refine aD ?_|refine aC rfl ?_|refine aH ?_) (aM Tryz.isAgg3 rfl (show Rd _ _ _ _ _ (.int .i64 (b : Int)) by rw [← hb']; exact dX (enc := (.int .i64 ·)) hSb hcb hx2)) ?_
   refine aU 10 rfl (by decide +kernel) rfl rfl rfl (by repeat first|exact aI|refine aD ?_|refine aC rfl ?_|refine aH ?_) (aF rfl) ?_;refine aU 11 rfl (by decide +kernel) rfl rfl rfl (by repeat first|exact aI|refine aD ?_|refine aC rfl ?_|refine aH ?_) (aF rfl) ?_;refine dF (by decide +kernel) ?_;refine aL (kh10 _ _ ?_);clear kh10;refine aK fun K11 kh11 => ?_;refine fY rfl (by decide +kernel) ?_;refine aN rfl rfl rfl (aG rfl) ?_;refine aN rfl rfl rfl (aG rfl) ?_;refine aN rfl rfl rfl (c6 rfl rfl) ?_;refine aN rfl rfl rfl (aG rfl) ?_;refine f_splitS 38 rfl (fun g38 => ?_) (fun g38 => ?_)
   ·
    refine dS rfl rfl rfl rfl rfl (aG rfl) ?_;refine dS rfl rfl rfl rfl rfl (aG rfl) ?_;refine dS rfl rfl rfl rfl rfl (bA bK rfl rfl (a) ⟨by omega, by omega, by first | omega | (simp; done) | (simp; omega)⟩) ?_;refine dS rfl rfl rfl rfl rfl (aM Tryz.isAgg3 rfl (rdA (v := .int .i64 (cnt L a : Int)) (by rw [dL (by rw [eT]; exact haM), iK haM]))) ?_;refine dS rfl rfl rfl rfl rfl (aG rfl) ?_;refine dS rfl rfl rfl rfl rfl (aG rfl) ?_;refine dS rfl rfl rfl rfl rfl (bA bK rfl rfl (b) ⟨by omega, by omega, by first | omega | (simp; done) | (simp; omega)⟩) ?_;refine dS rfl rfl rfl rfl rfl (aM Tryz.isAgg3 rfl (rdA (v := .int .i64 (cnt L b : Int)) (by rw [dL (by rw [eT]; exact hbM), iK hbM]))) ?_;refine dS rfl rfl rfl rfl rfl (bG rfl rfl _ (aT (by omega))) ?_;refine dS rfl rfl rfl rfl rfl (aG rfl) ?_;refine dS rfl rfl rfl rfl rfl (o_leq rfl rfl) ?_;refine aN rfl rfl rfl (cF rfl rfl) ?_;refine eH ?_;refine aL (kh11 _ _ ?_);clear kh11;refine aZ rfl (fun c50 => ?_) (fun c50 => ?_)
    ·
     have hop : okP L bd (prs n l)[i] = true := by unfold okP; rw [la, lb, ca, cb']; simp only [decide_eq_true_eq]; omega
     have hc := hsm.val hop
     have hsm2 := hsm.add hop c1
     have hcl := cntK_le ((prs n l).take i) L (min (a : Int) b, max (a : Int) b)
     rw [hti] at hcl;rw [← htk, hkey] at hsm2;rw [hkey] at hc;refine dH [] rfl ?_;refine aU 0 rfl (by decide +kernel) rfl rfl rfl (by repeat first|exact aI|refine aD ?_|refine aC rfl ?_|refine aH ?_) (aG rfl) ?_;refine aU 1 rfl (by decide +kernel) rfl rfl rfl (by repeat first|exact aI|refine aD ?_|refine aC rfl ?_|refine aH ?_) (aG rfl) ?_;refine aU 2 rfl (by decide +kernel) rfl rfl rfl (by repeat first|exact aI|refine aD ?_|refine aC rfl ?_|refine aH ?_) (aG rfl) ?_;refine aU 3 rfl (by decide +kernel) rfl rfl rfl (by repeat first|exact aI|refine aD ?_|refine aC rfl ?_|refine aH ?_) (o_min rfl rfl) ?_;refine aU 4 rfl (by decide +kernel) rfl rfl rfl (by repeat first|exact aI|refine aD ?_|refine aC rfl ?_|refine aH ?_) (aG rfl) ?_;refine aU 5 rfl (by decide +kernel) rfl rfl rfl (by repeat first|exact aI|refine aD ?_|refine aC rfl ?_|refine aH ?_) (aG rfl) ?_;refine aU 6 rfl (by decide +kernel) rfl rfl rfl (by repeat first|exact aI|refine aD ?_|refine aC rfl ?_|refine aH ?_) (o_max rfl rfl) ?_;refine aU 7 rfl (by decide +kernel) rfl rfl rfl (by repeat first|exact aI|refine aD ?_|refine aC rfl ?_|refine aH ?_) (o_buildA (cs := [.int .i64 (min (a : Int) b), .int .i64 (max (a : Int) b)]) ar117 rfl rfl) ?_;refine jE 8 10 rfl rfl (by decide +kernel) rfl rfl rfl rfl rfl rfl ?_ ?_
     ·
      refine (fW kt116 Tryz.zeroValue3 rfl rfl rfl (key := (min (a : Int) b, max (a : Int) b)) (.int .i64 (cntK ((prs n l).take i) L (min (a : Int) b, max (a : Int) b) : Int)) (by first | exact hc | exact (ment_val _ _ _ _).trans hc)).does ⟨(by repeat first|exact aI|refine aD ?_|refine aC rfl ?_|refine aH ?_), ?_⟩;refine aU 9 rfl (by decide +kernel) rfl rfl rfl (by repeat first|exact aI|refine aD ?_|refine aC rfl ?_|refine aH ?_) (bG rfl rfl _ (aT (by omega))) ?_;refine bQ 10 rfl (by decide +kernel) rfl rfl rfl (lP kt116 Tryz.zeroValue3 rfl rfl rfl (key := (min (a : Int) b, max (a : Int) b)) _ rfl ⟨(by repeat first|exact aI|refine aD ?_|refine aC rfl ?_|refine aH ?_), ?_⟩);refine aU 11 rfl (by decide +kernel) rfl rfl rfl (by repeat first|exact aI|refine aD ?_|refine aC rfl ?_|refine aH ?_) (aV rfl rfl) ?_;refine eM 12 rfl (by decide +kernel) rfl rfl (jK (key := (min (a : Int) b, max (a : Int) b)) hmap rfl rfl rfl ⟨(by repeat first|exact aI|refine aD ?_|refine aC rfl ?_|refine aH ?_), ?_⟩);refine dF (by decide +kernel) ?_;refine cV ?_;refine aL (kh8 _ _ ?_);clear kh8;refine aB ?_;refine aA rfl rfl rfl (bG rfl rfl _ (aT (by omega))) ?_;refine aA rfl rfl rfl (aG rfl) ?_;refine aJ ?_;refine aL (bB (i + 1, eW ents (min (a : Int) b, max (a : Int) b) (.int .i64 ((cntK ((prs n l).take i) L (min (a : Int) b, max (a : Int) b) : Int) + 1)) c1, fF ents (min (a : Int) b, max (a : Int) b) c1) (by first | omega | (dsimp only; omega) | (simp; omega)) ⟨by omega, hmap.put _ _, hsm2⟩ ?_ ?_ ?_)
      · exact (by repeat constructor)
      · exact (by repeat constructor)
      · repeat first|exact aI|refine aD ?_|refine aC rfl ?_|refine aH ?_
     ·
      refine (lP kt116 Tryz.zeroValue3 rfl rfl rfl (key := (min (a : Int) b, max (a : Int) b)) _ rfl ⟨(by repeat first|exact aI|refine aD ?_|refine aC rfl ?_|refine aH ?_), ?_⟩);refine aU 11 rfl (by decide +kernel) rfl rfl rfl (by repeat first|exact aI|refine aD ?_|refine aC rfl ?_|refine aH ?_) (aV rfl rfl) ?_;refine bQ 8 rfl (by decide +kernel) rfl rfl rfl ((fW kt116 Tryz.zeroValue3 rfl rfl rfl (key := (min (a : Int) b, max (a : Int) b)) (.int .i64 (cntK ((prs n l).take i) L (min (a : Int) b, max (a : Int) b) : Int)) (by first | exact hc | exact (ment_val _ _ _ _).trans hc)).does ⟨(by repeat first|exact aI|refine aD ?_|refine aC rfl ?_|refine aH ?_), ?_⟩);refine aU 9 rfl (by decide +kernel) rfl rfl rfl (by repeat first|exact aI|refine aD ?_|refine aC rfl ?_|refine aH ?_) (bG rfl rfl _ (aT (by omega))) ?_;refine eM 12 rfl (by decide +kernel) rfl rfl (jK (key := (min (a : Int) b, max (a : Int) b)) hmap rfl rfl rfl ⟨(by repeat first|exact aI|refine aD ?_|refine aC rfl ?_|refine aH ?_), ?_⟩);refine dF (by decide +kernel) ?_;refine cV ?_;refine aL (kh8 _ _ ?_);clear kh8;refine aB ?_;refine aA rfl rfl rfl (bG rfl rfl _ (aT (by omega))) ?_;refine aA rfl rfl rfl (aG rfl) ?_;refine aJ ?_;refine aL (bB (i + 1, eW ents (min (a : Int) b, max (a : Int) b) (.int .i64 ((cntK ((prs n l).take i) L (min (a : Int) b, max (a : Int) b) : Int) + 1)) c1, fF ents (min (a : Int) b, max (a : Int) b) c1) (by first | omega | (dsimp only; omega) | (simp; omega)) ⟨by omega, hmap.put _ _, hsm2⟩ ?_ ?_ ?_)
      · exact (by repeat constructor)
      · exact (by repeat constructor)
      · repeat first|exact aI|refine aD ?_|refine aC rfl ?_|refine aH ?_
    ·
     have hsm2 := hsm.skip (p := (prs n l)[i]) (fun ho => by unfold okP at ho; rw [la, lb, ca, cb'] at ho; simp only [decide_eq_true_eq] at ho; omega)
     rw [← htk] at hsm2;refine aW ?_;refine cV ?_;refine aL (kh8 _ _ ?_);clear kh8;refine aB ?_;refine aA rfl rfl rfl (bG rfl rfl _ (aT (by omega))) ?_;refine aA rfl rfl rfl (aG rfl) ?_;refine aJ ?_;refine aL (bB (i + 1, ents, c1) (by first | omega | (dsimp only; omega) | (simp; omega)) ⟨by omega, hmap, hsm2⟩ ?_ ?_ ?_)
     · exact (by repeat constructor)
     · exact (by repeat constructor)
     · repeat first|exact aI|refine aD ?_|refine aC rfl ?_|refine aH ?_
   ·
    have hsm2 := hsm.skip (p := (prs n l)[i]) (fun ho => by unfold okP at ho; rw [la, lb] at ho; simp only [decide_eq_true_eq] at ho; omega)
    rw [← htk] at hsm2;refine eG rfl rfl rfl rfl rfl rfl ?_;refine eG rfl rfl rfl rfl rfl rfl ?_;refine eG rfl rfl rfl rfl rfl rfl ?_;refine eG rfl rfl rfl rfl rfl rfl ?_;refine eG rfl rfl rfl rfl rfl rfl ?_;refine eG rfl rfl rfl rfl rfl rfl ?_;refine eG rfl rfl rfl rfl rfl rfl ?_;refine eG rfl rfl rfl rfl rfl rfl ?_;refine eG rfl rfl rfl rfl rfl rfl ?_;refine eG rfl rfl rfl rfl rfl rfl ?_;refine eG rfl rfl rfl rfl rfl rfl ?_;refine aN rfl rfl rfl (cO rfl rfl) ?_;refine eH ?_;refine aL (kh11 _ _ ?_);clear kh11;refine gZ rfl ?_;refine aW ?_;refine cV ?_;refine aL (kh8 _ _ ?_);clear kh8;refine aB ?_;refine aA rfl rfl rfl (bG rfl rfl _ (aT (by omega))) ?_;refine aA rfl rfl rfl (aG rfl) ?_;refine aJ ?_;refine aL (bB (i + 1, ents, c1) (by first | omega | (dsimp only; omega) | (simp; omega)) ⟨by omega, hmap, hsm2⟩ ?_ ?_ ?_)
    · exact (by repeat constructor)
    · exact (by repeat constructor)
    · repeat first|exact aI|refine aD ?_|refine aC rfl ?_|refine aH ?_
  ·
   refine cG ?_;refine cK ?_;clear kh7;refine cK ?_;refine d5 ?_;refine aL (kh4 _ _ ?_);clear kh4;refine aK fun K12 kh12 => ?_;obtain rfl : i = (prs n l).length := by omega
   rw [List.take_length] at hsm;have hel := hsm.few
   refine aB ?_;refine aA rfl rfl rfl (aF rfl) ?_;refine aJ ?_;refine aL (kh12 _ _ ?_);clear kh12;refine aK fun K13 kh13 => ?_;refine aK fun K14 kh14 => ?_;refine aB ?_;refine aA rfl rfl rfl (aG rfl) ?_;refine aR rfl rfl rfl (o_range kt116 rfl fun b65 => ?_);refine aJ ?_;refine aL (kh14 _ _ ?_);clear kh14;refine aY ?_;refine cS (α := List Nat × List Sm × Value × Seg) [65] (fun ⟨seen, sl, v13, m13⟩ => [(13, v13)]) (fun ⟨seen, sl, v13, m13⟩ => [[(b65, j5 b18 c1 seen)], m13, [(b18, f3 kO ents c1)], [(bs, blk (a6 (szs M L)) 3)]]) (fun ⟨seen, sl, v13, m13⟩ => Came ents seen (sl.map fun s => (s.1, s.2.1)) ∧ Own 79 3 v13 sl.length (sl.flatMap kU) m13 ∧ ∀ s ∈ sl, s ∈ smL (prs n l) L bd) (fun ⟨seen, sl, v13, m13⟩ => ents.length - sl.length) ([], [], .slice none 0 0, []) ?_ ?_ ?_ ?_
   · exact (by repeat constructor)
   · repeat first|exact aI|refine aD ?_|refine aC rfl ?_|refine aH ?_
   · exact ⟨Came.start, Own.nil _ _, fun s hs => by cases hs⟩
   ·
    rintro ⟨seen, sl, v13, m13⟩ ⟨hca, ho13, hsl⟩;have hcl := hca.len
    rw [List.length_map] at hcl;obtain ⟨A13, cap13, rfl, hc13⟩ := ho13.val
    refine eX (e := [(13, _), (65, _)]) (by repeat constructor) ?_;refine aK fun K15 kh15 => ?_;refine aB ?_;refine aR rfl rfl rfl (o_next1 hmap rfl fun q66 r66 seen1 hnx => ?_);refine aA rfl rfl rfl (aV rfl rfl) ?_;refine aJ ?_;refine aL (kh15 _ _ ?_);clear kh15;refine aK fun K16 kh16 => ?_;refine fC rfl (fun c67 => ?_) (fun c67 => ?_)
    ·
     obtain ⟨e, he, hne, rfl⟩ : ∃ e ∈ ents, e.2.2 ∉ seen ∧ seen1 = seen ++ [e.2.2] := by
       rcases hnx with ⟨_, h⟩ | ⟨h, _⟩
       · exact h
       · rw [h] at c67; cases c67
     have hca2 := hca.next hmap he hne
     obtain ⟨ea, eb, ec, es, rfl, hek⟩ := hsm.ent hmap he
     dsimp only at hca2 hne ⊢;refine aW ?_;refine aL (kh16 _ _ ?_);clear kh16;refine aY ?_;refine aK fun K17 kh17 => ?_;refine aB ?_;refine aA rfl rfl rfl (o_entry hmap he rfl) ?_;refine aA rfl rfl rfl (aV rfl rfl) ?_;refine aA rfl rfl rfl (aV rfl rfl) ?_;refine aR rfl rfl rfl (cU Tryz.zeroValue117 rfl fun b14 => ?_);refine bF rfl rfl (cA Tryz.sizeOf117 rfl rfl rfl rfl (by first | exact Nat.le_of_ble_eq_true rfl | (simp; done) | (simp; omega)) [.int .i64 ea, .int .i64 eb] rfl ?_);refine aA rfl rfl rfl (aF rfl) ?_;refine aJ ?_;refine aL (kh17 _ _ ?_);clear kh17;refine aB ?_;refine aA rfl rfl rfl (aG rfl) ?_;refine aA rfl rfl rfl (o_idxA ar117 rfl rfl _ ⟨by omega, by omega, rfl⟩) ?_;refine aA rfl rfl rfl (aM Tryz.isAgg3 rfl (rdA rfl)) ?_;refine aA rfl rfl rfl (o_idxA ar117 rfl rfl _ ⟨by omega, by omega, rfl⟩) ?_;refine aA rfl rfl rfl (aM Tryz.isAgg3 rfl (rdA rfl)) ?_;refine aA rfl rfl rfl (aG rfl) ?_;refine aA rfl rfl rfl (dB st79 rfl rfl) ?_;refine aR rfl rfl rfl (dA el76 (by omega) rfl rfl rfl fun b78 => ?_);refine aR rfl rfl rfl (dG el76 rfl rfl ho13 (ys := kU (ea, eb, ec)) ⟨(rdA rfl), (rdA rfl), (rdA rfl), trivial⟩ rfl rfl (by omega) (by omega) fun v79 m79 o79 => ?_);refine aA rfl rfl rfl (aF rfl) ?_;refine aJ ?_;refine cV ?_
     refine aL (bB (seen ++ [es], sl ++ [(ea, eb, ec)], v79, m79) (by have := hca2.len; simp at this ⊢; omega) ⟨by rw [List.map_append]; exact hca2, by rw [List.length_append, List.flatMap_append]; simpa [kU] using o79, fun s hs => by
       rcases List.mem_append.1 hs with hs | hs
       · exact hsl s hs
       · obtain rfl := List.mem_singleton.1 hs; exact hek⟩ ?_ ?_ ?_)
     · exact (by repeat constructor)
     · exact (by repeat constructor)
     · repeat first|exact aI|refine aD ?_|refine aC rfl ?_|refine aH ?_
    ·
     obtain ⟨rfl, hall⟩ : seen1 = seen ∧ ∀ e ∈ ents, e.2.2 ∈ seen := by
       rcases hnx with ⟨h, _⟩ | ⟨_, h⟩
       · rw [h] at c67; cases c67
       · exact h
     refine cG ?_;refine cK ?_;clear kh16;refine cK ?_;refine d5 ?_;refine aL (kh13 _ _ ?_);clear kh13;refine aK fun K18 kh18 => ?_;refine aB ?_;refine aA rfl rfl rfl (aG rfl) ?_;refine aA rfl rfl rfl (aF rfl) ?_;refine aJ ?_;refine aL (kh18 _ _ ?_);clear kh18;refine a7 ?_
     have hA : ∀ s ∈ sl, SmOk s := fun s hs => by
       obtain ⟨q, hq, _, _, hq2⟩ := mem_smL.1 (hsl s hs)
       have hck := cntK_le (prs n l) L (s.1, s.2.1)
       obtain ⟨p, hp, hne, hlb, hsz⟩ := smL_seam (hsl s hs)
       have hp' := f7 hp
       have key : ∀ u : Int, 0 ≤ u → u < (n : Int) → 0 ≤ lab L u ∧ lab L u ≤ 1048576 := fun u h0 h1 => by
         rw [kK (by omega)];have := hrg _ (List.getElem_mem (show u.toNat < L.length by omega))
         omega
       have k1 := key p.1 hp'.1.1 hp'.1.2
       have k2 := key p.2 hp'.2.1 hp'.2.2
       unfold SmOk
       rcases hlb with ⟨e1, e2⟩ | ⟨e1, e2⟩
       · rw [e1] at k1; rw [e2] at k2; omega
       · rw [e1] at k1; rw [e2] at k2; omega
     have hB := hsm.end_ hsl (hca.all hall)
     exact bP [m13] Tryz.results43 rfl (by repeat (first | exact aI | refine aD ?_ | refine aC rfl ?_)) ⟨sl, cap13, A13, m13, rfl, rfl, ho13, hB, hA, by omega⟩
end Go.Proofs.YtjjogcnjcnpehaaGreat

/- split.Join: labels put together. -/
namespace Go.Proofs.YtjjogcnjcnpehaaGreat
open Go Go.RowKit Fly
set_option linter.unusedVariables false
set_option linter.unusedSimpArgs false
theorem lcount_okJ {N : Int} {l : List Arc} {L : List Int} (h : (eD N l L).2 = 0) : (bH N l).2 = 0 ∧ c7 N L = true := by
  unfold eD at h
  split at h
  · rename_i h1; exact absurd h h1
  · rename_i h1
    split at h
    · cases h
    · rename_i h2; exact ⟨by simpa using h1, by simpa using h2⟩
theorem spE_zero {N : Int} {l : List Arc} {L : List Int} {bd : Int} (h : spE N l L bd = 0) : ∃ n : Nat, N = (n : Int) ∧ 1 ≤ n ∧ n ≤ 1024 ∧ (bH (n : Int) l).2 = 0 ∧ c7 (n : Int) L = true ∧ 1 ≤ bd ∧ bd ≤ 1024 := by
  unfold spE at h
  by_cases h1 : (eD N l L).2 ≠ 0
  · rw [if_pos h1] at h; exact absurd h h1
  · rw [if_neg h1] at h
    obtain ⟨hg, hr⟩ := lcount_okJ (by omega : (eD N l L).2 = 0)
    have := bX hg
    refine ⟨N.toNat, by omega, by omega, by omega, by rw [Int.toNat_of_nonneg (by omega)]; exact hg, by rw [Int.toNat_of_nonneg (by omega)]; exact hr, ?_⟩
    split at h
    · cases h
    · omega
def joinE (N : Int) (l : List Arc) (L : List Int) (bd : Int) : Int := if spE N l L bd ≠ 0 then spE N l L bd else if bd < d4 (cQ L) then 90 else 0
/-- Joins, one behind the other, each the first one. -/
inductive JTo (n : Nat) (l : List Arc) (bd : Int) : List Int → List Int → Prop
  | refl (L : List Int) : JTo n l bd L L
  | step {L M : List Int} {s : Sm} (h : JTo n l bd L M) (hs : s ∈ smL (prs n l) M bd) (hb : ∀ t ∈ smL (prs n l) M bd, j8 s t ≤ 0) : JTo n l bd L (tdy (mrg s.1 s.2.1 M))
theorem JTo.head {n : Nat} {l : List Arc} {bd : Int} {L R : List Int} (h : JTo n l bd L R) : R = L ∨ ∃ s, s ∈ smL (prs n l) L bd ∧ (∀ t ∈ smL (prs n l) L bd, j8 s t ≤ 0) ∧ JTo n l bd (tdy (mrg s.1 s.2.1 L)) R := by
  induction h with
  | refl => exact .inl rfl
  | step h hs hb ih =>
    rcases ih with rfl | ⟨t, ht, htb, hj⟩
    · exact .inr ⟨_, hs, hb, .refl _⟩
    · exact .inr ⟨t, ht, htb, hj.step hs hb⟩
/-- Some labels, of which the first are joined. -/
def mgk (a b : Int) (L : List Int) (k : Nat) : List Int := L.mapIdx fun i x => if i < k ∧ x = b then a else x
theorem mgk_len (a b : Int) (L : List Int) (k : Nat) : (mgk a b L k).length = L.length := by simp [mgk]
theorem mgk_zero (a b : Int) (L : List Int) : mgk a b L 0 = L := by
  refine List.ext_getElem (mgk_len ..) fun i h1 h2 => ?_;simp [mgk]
theorem mgk_all (a b : Int) (L : List Int) : mgk a b L L.length = mrg a b L := by
  refine List.ext_getElem (by rw [mgk_len, i5]) fun i h1 h2 => ?_;rw [i5] at h2;simp [mgk, mrg, h2]
theorem mgk_get {a b : Int} {L : List Int} {k : Nat} (h : k < L.length) : (mgk a b L k)[k]'(by rw [mgk_len]; exact h) = L[k] := by simp [mgk]
theorem mgk_yes {a b : Int} {L : List Int} {k : Nat} (h : k < L.length) (e : L[k] = b) : (mgk a b L k).set k a = mgk a b L (k + 1) := by
  refine List.ext_getElem (by simp [mgk]) fun i h1 h2 => ?_
  by_cases hi : k = i
  · subst hi; simp [mgk, e]
  · rw [List.getElem_set_ne hi]
    simp only [mgk, List.getElem_mapIdx]
    split <;> split <;> first | rfl | omega
theorem mgk_no {a b : Int} {L : List Int} {k : Nat} (h : k < L.length) (e : L[k] ≠ b) : mgk a b L k = mgk a b L (k + 1) := by
  refine List.ext_getElem (by simp [mgk]) fun i h1 h2 => ?_;simp only [mgk, List.getElem_mapIdx]
  by_cases hi : k = i
  · subst hi; simp [e]
  · split <;> split <;> first | rfl | omega
theorem cnt_max {L : List Int} (h0 : 0 < L.length) (hp : ∀ x ∈ L, 0 ≤ x) {bd : Int} (hb : 0 ≤ bd) (h : d4 (cQ L) ≤ bd) (y : Int) : (eP L y : Int) ≤ bd := by
  by_cases hy : y ∈ L
  · have h1 := hp y hy
    have h2 := f8 hy
    obtain ⟨v, rfl⟩ : ∃ v : Nat, y = (v : Int) := ⟨y.toNat, by omega⟩
    have hv : v < (d4 L + 1).toNat := by omega
    have h3 : (cnt L v : Int) ∈ cQ L := by
      unfold cQ
      rw [← iK (L := L) hv]; exact List.getElem_mem _
    have := f8 h3
    rw [← cnt_is]; omega
  · rw [iJ hy]; exact hb
theorem max_cnt {L : List Int} (h0 : 0 < (cQ L).length) {bd : Int} (h : ∀ y, (eP L y : Int) ≤ bd) : d4 (cQ L) ≤ bd := jL h0 fun x hx => by
  unfold cQ szs at hx
  obtain ⟨j, _, rfl⟩ := List.mem_map.1 hx
  exact h j
theorem lab_mem {n : Nat} {L : List Int} {u : Int} (hL : L.length = n) (h : 0 ≤ u ∧ u < (n : Int)) : lab L u ∈ L := by
  rw [kK (by omega)]; exact List.getElem_mem _
theorem seam_mem {n : Nat} {l : List Arc} {bd a b : Int} {L : List Int} (hL : L.length = n) (h : Seam n l bd L a b) : a ∈ L ∧ b ∈ L ∧ a ≠ b := by
  obtain ⟨p, hp, hne, hlb, _⟩ := h
  have hr := f7 hp
  have h1 := lab_mem hL hr.1
  have h2 := lab_mem hL hr.2
  rcases hlb with ⟨e1, e2⟩ | ⟨e1, e2⟩
  · exact ⟨e1 ▸ h1, e2 ▸ h2, hne⟩
  · exact ⟨e2 ▸ h2, e1 ▸ h1, hne⟩
set_option maxRecDepth 100000 in
set_option maxHeartbeats 4000000 in
theorem Join_spec (N : Int) (A B : Option Addr) (l : List Arc) (cap : Nat) (L : List Int) (cb : Nat) (bd : Int) (w : World) (hr : Ro (Fr w []) w A (l.flatMap cE)) (hl : l.length ≤ 9223372036854775807) (hN : I64 N) (hok : ∀ x ∈ l, dQ x) (hL : Ro (Fr w []) w B (a6 L)) (hm : L.length ≤ 9223372036854775807) :
    Meets Tryz.prog 20 [.agg #[.int .i64 N, .slice A l.length cap], .slice B L.length cb, .int .i64 bd] w [] (fun u own' => ∃ (L' : List Int) (A' : Option Addr) (c : Nat) (m' : Seg), u = .tuple #[.slice A' L'.length c, .int .i64 (joinE N l L bd)] ∧ own' = [m'] ∧ Own 3 1 (.slice A' L'.length c) L'.length (a6 L') m' ∧ (joinE N l L bd ≠ 0 → L' = []) ∧ (joinE N l L bd = 0 → JInv N.toNat l bd L L' ∧ smL (prs N.toNat l) L' bd = [] ∧ JTo N.toNat l bd L L')) := by
 refine bJ Tryz.func20 rfl Tryz.ntmps20 rfl Owns.nil ?_;refine aK fun K1 kh1 => ?_;refine aB ?_;refine aR rfl rfl rfl (cZ rfl rfl fun b3 => ?_);refine aA rfl rfl rfl (aF rfl) ?_;refine aA rfl rfl rfl (aF rfl) ?_;refine aJ ?_;refine aL (kh1 _ _ ?_);clear kh1;refine aK fun K2 kh2 => ?_;refine aK fun K3 kh3 => ?_;refine aB ?_;refine aA rfl rfl rfl (a8 (vs := [_, _]) Tryz.isAgg24 Tryz.sizeOf24 rfl rfl ⟨(rdA rfl), (rdA rfl), trivial⟩) ?_;refine aA rfl rfl rfl (aG rfl) ?_;refine aA rfl rfl rfl (aG rfl) ?_;refine aR rfl rfl rfl (bD Tryz.call39 rfl (fun w_ hp_ => splook_spec N A B l cap L cb bd w_ (hr.up0 hp_) hl hN hok (hL.up0 hp_) hm) ?_);rintro _ _ ⟨rfl, rfl⟩;dsimp only [List.cons_append, List.nil_append];refine aA rfl rfl rfl (aF rfl) ?_;refine aJ ?_;refine aL (kh3 _ _ ?_);clear kh3;refine aK fun K4 kh4 => ?_;refine aB ?_;refine aA rfl rfl rfl (aG rfl) ?_;refine aA rfl rfl rfl (c6 rfl rfl) ?_;refine aJ ?_;refine aL (kh4 _ _ ?_);clear kh4;refine aZ rfl (fun c20 => ?_) (fun c20 => ?_)
 ·
  refine aK fun K5 kh5 => ?_;refine aB ?_;refine aA rfl rfl rfl (aG rfl) ?_;refine aA rfl rfl rfl (aF rfl) ?_;refine aA rfl rfl rfl (aF rfl) ?_;refine aJ ?_;refine aL (kh5 _ _ ?_);clear kh5;refine a7 ?_;refine bT ?_;have c20' : spE N l L bd ≠ 0 := by simpa using c20
  have hje : joinE N l L bd = spE N l L bd := by unfold joinE; rw [if_pos c20']
  exact bW [[]] Tryz.results20 rfl rfl (show Fly.Sub _ [[]] from (by repeat first|exact aI|refine aD ?_|refine aC rfl ?_|refine aH ?_)) ⟨[], none, 0, [], by rw [hje]; rfl, rfl, Own.nil _ _, fun _ => rfl, fun h => absurd (hje.symm.trans h) c20'⟩
 ·
  have hz : spE N l L bd = 0 := by simpa using c20
  obtain ⟨n, rfl, hn1, hn2, hg, hR, hbd⟩ := spE_zero hz
  have hLn : L.length = n := (cN hR).2
  have hrg := dY hR hn1
  refine aW ?_;refine aL (kh2 _ _ ?_);clear kh2;refine aK fun K6 kh6 => ?_;refine aK fun K7 kh7 => ?_;refine aB ?_;refine aA rfl rfl rfl (aG rfl) ?_;refine aR rfl rfl rfl (bD Tryz.call41 rfl (fun w_ hp_ => lK B L cb w_ (hL.up0 hp_) (by omega) (by omega) (fun x hx => by have := hrg x hx; omega)) ?_);rintro _ _ ⟨bs, rfl, rfl⟩;obtain ⟨M, hM⟩ : ∃ M : Nat, (d4 L + 1).toNat = M := ⟨_, rfl⟩
  have hsl : (cQ L).length = M := by unfold cQ; rw [eT, hM]
  rw [hM];rw [hM] at hrg;have hMn := hrg L[0] (List.getElem_mem (by omega))
  dsimp only [List.cons_append, List.nil_append];refine aR rfl rfl rfl (bD Tryz.call40 rfl (fun w_ hp_ => (by have h := kA (some ⟨bs, 0, none⟩) (cQ L) M w_ (iV (b := bs) hp_ (fun j v hj => hj)) (by omega) (by omega); rw [hsl] at h; exact h)) ?_);rintro _ _ ⟨rfl, rfl⟩;dsimp only [List.cons_append, List.nil_append];refine aA rfl rfl rfl (aG rfl) ?_;refine aA rfl rfl rfl (eQ rfl rfl) ?_;refine aJ ?_;refine aL (kh7 _ _ ?_);clear kh7;refine aZ rfl (fun c26 => ?_) (fun c26 => ?_)
  ·
   refine aK fun K8 kh8 => ?_;refine aB ?_;refine aA rfl rfl rfl (aF rfl) ?_;refine aA rfl rfl rfl (aF rfl) ?_;refine aJ ?_;refine aL (kh8 _ _ ?_);clear kh8;refine a7 ?_;refine bT ?_;have hje : joinE (n : Int) l L bd = 90 := by unfold joinE; rw [if_neg (by rw [hz]; simp), if_pos (by omega)]
   exact bW [[]] Tryz.results20 rfl rfl (show Fly.Sub _ [[]] from (by repeat first|exact aI|refine aD ?_|refine aC rfl ?_|refine aH ?_)) ⟨[], none, 0, [], by rw [hje]; rfl, rfl, Own.nil _ _, fun _ => rfl, fun h => by rw [hje] at h; cases h⟩
  ·
   have hsz := cnt_max (L := L) (by omega) (fun x hx => (hrg x hx).1) (by omega) (by omega : d4 (cQ L) ≤ bd)
   refine aW ?_;refine aL (kh6 _ _ ?_);clear kh6;refine aK fun K9 kh9 => ?_;refine aB ?_;refine aA rfl rfl rfl (a8 (vs := [_, _]) Tryz.isAgg24 Tryz.sizeOf24 rfl rfl ⟨(rdA rfl), (rdA rfl), trivial⟩) ?_;refine aR rfl rfl rfl (bD Tryz.call42 rfl (fun w_ hp_ => Pairs_spec (n : Int) A l cap w_ (hr.up0 hp_) hl hN hok) ?_);rintro _ own29 hq29;rw [if_pos hg, Int.toNat_natCast] at hq29;obtain ⟨Ap, mp, cp, rfl, rfl, hop⟩ := hq29
   dsimp only [List.cons_append, List.nil_append];refine aA rfl rfl rfl (aG rfl) ?_;refine aA rfl rfl rfl (aV rfl rfl) ?_;refine aA rfl rfl rfl (aV rfl rfl) ?_;refine aA rfl rfl rfl (aF rfl) ?_;refine aA rfl rfl rfl (aF rfl) ?_;refine aJ ?_;refine aL (kh9 _ _ ?_);clear kh9;refine aK fun K10 kh10 => ?_;refine aK fun K11 kh11 => ?_;refine aB ?_;refine aA rfl rfl rfl (aG rfl) ?_;refine aA rfl rfl rfl (c6 rfl rfl) ?_;refine aJ ?_;refine aL (kh11 _ _ ?_);clear kh11;refine e7 rfl (by simp) ?_;refine aW ?_;refine aL (kh10 _ _ ?_);clear kh10;refine aK fun K12 kh12 => ?_;refine aB ?_;refine aA rfl rfl rfl (aG rfl) ?_;refine aR rfl rfl rfl (bD Tryz.call19 rfl (fun w_ hp_ => kJ B L.length (a6 L) cb w_ (hL.up0 hp_) (fun e => by rw [e] at hL; obtain ⟨_, _, e', _⟩ := hL (fun e => by have := aX L; rw [e] at this; simp at this; omega); cases e') (by rw [aX]; omega) (ints_oneG _) (by omega)) ?_);rintro v36 _ ⟨m36, rfl, o36⟩;obtain ⟨bo, co, sp, rfl, rfl⟩ := o36.block (by omega)
   dsimp only [List.cons_append, List.nil_append];refine aA rfl rfl rfl (aF rfl) ?_;refine aJ ?_;refine aL (kh12 _ _ ?_);clear kh12;refine aY ?_;refine cS (α := List Int) [2, 9, 11] (fun L' => []) (fun L' => [[(bo, blk (a6 L' ++ sp) 3)], mp]) (fun L' => JInv n l bd L L' ∧ JTo n l bd L L') (fun L' => (d4 L' + 1).toNat) (L) ?_ ?_ ?_ ?_
   · exact (by repeat constructor)
   · repeat first|exact aI|refine aD ?_|refine aC rfl ?_|refine aH ?_
   · exact ⟨JInv.refl hR hsz, JTo.refl L⟩
   ·
    rintro L' ⟨hJ, hT⟩;have hLn' : L'.length = n := (cN hJ.right).2
    have hLL : L'.length = L.length := by omega
    refine aY ?_;refine aK fun K13 kh13 => ?_;refine aB ?_;refine aA rfl rfl rfl (aG rfl) ?_;refine aA rfl rfl rfl (aG rfl) ?_;refine aA rfl rfl rfl (aG rfl) ?_;refine aR rfl rfl rfl (bD Tryz.call43 rfl (fun w_ hp_ => (by have h := seams_spec Ap (some ⟨bo, 0, none⟩) l (prs n l).length L' co bd w_ (eU (hop.seen hp_)) (iV (b := bo) hp_ (fun j v hj => dN hj)) hJ.right hn1 hn2 hbd; rw [hLL] at h; exact h)) ?_);rintro _ _ ⟨sl, c12, A12, m12, rfl, rfl, o12, hsm, hsk, hsl12⟩;dsimp only [List.cons_append, List.nil_append];refine aA rfl rfl rfl (aF rfl) ?_;refine aJ ?_;refine aL (kh13 _ _ ?_);clear kh13;refine aK fun K14 kh14 => ?_;refine aK fun K15 kh15 => ?_;refine aB ?_;refine aA rfl rfl rfl (aG rfl) ?_;refine aA rfl rfl rfl (bS sl76 rfl) ?_;refine aA rfl rfl rfl (fM rfl rfl) ?_;refine aJ ?_;refine aL (kh15 _ _ ?_);clear kh15;refine aZ rfl (fun c43 => ?_) (fun c43 => ?_)
    ·
     refine aK fun K16 kh16 => ?_;refine aB ?_;refine aA rfl rfl rfl (aG rfl) ?_;refine aA rfl rfl rfl (aF rfl) ?_;refine aA rfl rfl rfl (aF rfl) ?_;refine aJ ?_;refine aL (kh16 _ _ ?_);clear kh16;refine a7 ?_;refine bT ?_;refine eC ?_;refine bT ?_;refine eC ?_;have hje : joinE (n : Int) l L bd = 0 := by unfold joinE; rw [if_neg (by rw [hz]; simp), if_neg (by omega)]
     have hnl : smL (prs n l) L' bd = [] := by
       rw [List.eq_nil_iff_forall_not_mem];intro s hs;have := List.length_pos_of_mem ((hsm s).2 hs)
       omega
     exact bW [[(bo, blk (a6 L' ++ sp) 3)]] Tryz.results20 rfl rfl (by repeat first|exact aI|refine aD ?_|refine aC rfl ?_|refine aH ?_) ⟨L', some ⟨bo, 0, none⟩, co, _, by rw [hLL, hje], rfl, (by have := k4 o36 hLL; exact this), fun h => absurd hje h, fun _ => ⟨by rw [Int.toNat_natCast]; exact hJ, by rw [Int.toNat_natCast]; exact hnl, by rw [Int.toNat_natCast]; exact hT⟩⟩
    ·
     have hsl0 : 0 < sl.length := by omega
     refine aW ?_;refine aL (kh14 _ _ ?_);clear kh14;refine aK fun K17 kh17 => ?_;refine aB ?_;refine aA rfl rfl rfl (aG rfl) ?_;refine aR rfl rfl rfl (bD Tryz.call44 rfl (fun w_ hp_ => MinF_spec A12 c12 sl w_ (eU (o12.seen hp_)) (by omega) (by omega) hsk) ?_);rintro _ _ ⟨s, rfl, hss, hsb, rfl⟩;have hs0 := (hsm s).1 hss
     have hsm0 := seam_mem hLn' (smL_seam hs0)
     have hsb' : ∀ t ∈ smL (prs n l) L' bd, j8 s t ≤ 0 := fun t ht => hsb t ((hsm t).2 ht)
     dsimp only [List.cons_append, List.nil_append];refine aR rfl rfl rfl (cU Tryz.zeroValue79 rfl fun b13 => ?_);refine bF rfl rfl (cA Tryz.sizeOf79 rfl rfl rfl rfl (by first | exact Nat.le_of_ble_eq_true rfl | (simp; done) | (simp; omega)) (kU s) rfl ?_);refine aJ ?_;refine aL (kh17 _ _ ?_);clear kh17;refine aK fun K18 kh18 => ?_;refine aK fun K19 kh19 => ?_;refine aB ?_;refine aA rfl rfl rfl (aG rfl) ?_;refine aA rfl rfl rfl (bS bK rfl) ?_;refine aA rfl rfl rfl (aG rfl) ?_;refine aJ ?_;refine aL (kh19 _ _ ?_);clear kh19;refine aY ?_;refine cS (α := Nat) [2, 9, 11, 13, 48] (fun k => [(49, .int .i64 (k : Int))]) (fun k => [[(bo, blk (a6 (mgk s.1 s.2.1 L' k) ++ sp) 3)], [(b13, blk [.int .i64 s.1, .int .i64 s.2.1, .int .i64 s.2.2] 79)], mp]) (fun k => k ≤ L'.length) (fun k => L'.length - k) (0) ?_ ?_ ?_ ?_
     · exact (by repeat constructor)
     · rw [mgk_zero]
       repeat first|exact aI|refine aD ?_|refine aC rfl ?_|refine aH ?_
     · exact Nat.zero_le _
     ·
      rintro k hkl;refine eX (e := [(49, _), (2, _), (9, _), (11, _), (13, _), (48, _)]) (by repeat constructor) ?_;refine aK fun K20 kh20 => ?_;refine aB ?_;refine aA rfl rfl rfl (cD rfl rfl) ?_;refine aJ ?_;refine aL (kh20 _ _ ?_);clear kh20;refine aK fun K21 kh21 => ?_;refine aZ rfl (fun c50 => ?_) (fun c50 => ?_)
      ·
       have hk : k < L'.length := by omega
       refine aW ?_;refine aL (kh21 _ _ ?_);clear kh21;refine aK fun K22 kh22 => ?_;refine aY ?_;refine aK fun K23 kh23 => ?_;refine aB ?_;refine aA rfl rfl rfl (aG rfl) ?_;refine aA rfl rfl rfl (aF rfl) ?_;refine aJ ?_;refine aL (kh23 _ _ ?_);clear kh23;refine aK fun K24 kh24 => ?_;refine fY rfl (by decide +kernel) ?_;refine aN rfl rfl rfl (aG rfl) ?_;refine aN rfl rfl rfl (aG rfl) ?_;refine aN rfl rfl rfl (bA bK rfl rfl (k) ⟨by omega, by omega, by first | omega | (simp; done) | (simp; omega)⟩) ?_;refine aN rfl rfl rfl (aM Tryz.isAgg3 rfl (rdA (v := .int .i64 L'[k]) (dN (by rw [dL (by rw [mgk_len]; exact hk), mgk_get hk])))) ?_;refine aN rfl rfl rfl (aQ fa79_1 rfl) ?_;refine aN rfl rfl rfl (aM Tryz.isAgg3 rfl (rdA rfl)) ?_;refine aN rfl rfl rfl (fM rfl rfl) ?_;refine eH ?_;refine aL (kh24 _ _ ?_);clear kh24;refine aZ rfl (fun c58 => ?_) (fun c58 => ?_)
       ·
        have hmy := mgk_yes (a := s.1) hk c58
        refine aB ?_;refine aA rfl rfl rfl (aG rfl) ?_;refine aA rfl rfl rfl (aG rfl) ?_;refine aA rfl rfl rfl (aQ fa79_0 rfl) ?_;refine aA rfl rfl rfl (aM Tryz.isAgg3 rfl (rdA rfl)) ?_;refine aA rfl rfl rfl (bA bK rfl rfl (k) ⟨by omega, by omega, by first | omega | (simp; done) | (simp; omega)⟩) ?_;refine bF rfl rfl (cB Tryz.sizeOf3 rfl rfl rfl rfl (by rw [List.length_append, aX, mgk_len]; omega) (a6 (mgk s.1 s.2.1 L' (k + 1)) ++ sp) (by rw [← hmy, List.set_append_left _ _ (by rw [aX, mgk_len]; omega)]; simp [a6, List.map_set]) ?_);refine aJ ?_;refine cV ?_;refine aL (kh22 _ _ ?_);clear kh22;refine aB ?_;refine aA rfl rfl rfl (bG rfl rfl _ (aT (by omega))) ?_;refine aA rfl rfl rfl (aG rfl) ?_;refine aJ ?_;refine aL (bB (k + 1) (by first | omega | (dsimp only; omega) | (simp; omega)) (by omega) ?_ ?_ ?_)
        · exact (by repeat constructor)
        · exact (by repeat constructor)
        · repeat first|exact aI|refine aD ?_|refine aC rfl ?_|refine aH ?_
       ·
        have hmn := mgk_no (a := s.1) hk c58
        refine iS bo (a6 (mgk s.1 s.2.1 L' (k + 1)) ++ sp) (by rw [hmn]) ?_;refine aW ?_;refine cV ?_;refine aL (kh22 _ _ ?_);clear kh22;refine aB ?_;refine aA rfl rfl rfl (bG rfl rfl _ (aT (by omega))) ?_;refine aA rfl rfl rfl (aG rfl) ?_;refine aJ ?_;refine aL (bB (k + 1) (by first | omega | (dsimp only; omega) | (simp; omega)) (by omega) ?_ ?_ ?_)
        · exact (by repeat constructor)
        · exact (by repeat constructor)
        · repeat first|exact aI|refine aD ?_|refine aC rfl ?_|refine aH ?_
      ·
       refine cG ?_;refine cK ?_;clear kh21;refine cK ?_;refine d5 ?_;refine aL (kh18 _ _ ?_);clear kh18;obtain rfl : k = L'.length := by omega
       rw [mgk_all];refine aB ?_;refine aA rfl rfl rfl (aG rfl) ?_;refine aR rfl rfl rfl (fH [[(bo, blk (a6 (mrg s.1 s.2.1 L') ++ sp) 3)]] _ Tryz.call46 rfl (by repeat (first | exact Sub.refl | refine aD ?_)) (fun w_ hp_ => (by have h := tidy_spec bo co (mrg s.1 s.2.1 L') sp w_ (by rw [i5]; omega) (by rw [i5]; omega) (k4 o36 (by rw [i5]; omega)) hp_.owns; rw [i5, hLL] at h; exact h)) ?_);rintro _ _ ⟨rfl, rfl, o66⟩;dsimp only [List.cons_append, List.nil_append];refine aJ ?_;refine cV ?_;refine aL (bB (tdy (mrg s.1 s.2.1 L')) (join_less hJ.right hn1 hsm0.1 hsm0.2.1 hsm0.2.2) ⟨hJ.step (by omega) (smL_seam hs0), hT.step hs0 hsb'⟩ ?_ ?_ ?_)
       · exact (by repeat constructor)
       · exact (by repeat constructor)
       · repeat first|exact aI|refine aD ?_|refine aC rfl ?_|refine aH ?_
end Go.Proofs.YtjjogcnjcnpehaaGreat
