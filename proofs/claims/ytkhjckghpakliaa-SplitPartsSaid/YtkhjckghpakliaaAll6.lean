import Derived.Test.YtkhjckghpakliaaAll5
import Derived.Test.YtkhjckghpakliaaAll2
import Derived.Test.YtkhjckghpakliaaAll3
import Derived.Test.YtkhjckghpakliaaFlyT
import Derived.Test.YtkhjckghpakliaaAll0
import Derived.Test.YtkhjckghpakliaaAll4

/- The graph of some vertices: what it keeps. Plain laws. -/

namespace Go.Proofs.Ytkhjckghpakliaa
open Go Fly
set_option linter.unusedVariables false
set_option linter.unusedSimpArgs false

theorem getD_in {α : Type} (l : List α) (d : α) {i : Nat} (h : i < l.length) : l.getD i d = l[i] := by simp [List.getD_eq_getElem?_getD, h]
theorem getD_out {α : Type} (l : List α) (d : α) {i : Nat} (h : l.length ≤ i) : l.getD i d = d := by simp [List.getD_eq_getElem?_getD, h]
theorem vrank_zero (keep : List Bool) : vrank keep 0 = 0 := by unfold vrank; rw [List.take_zero]; rfl
theorem vrank_yes {keep : List Bool} {v : Nat} (h : v < keep.length) (hk : keep[v] = true) : vrank keep (v + 1) = vrank keep v + 1 := by
  unfold vrank; rw [verts_yes h hk, List.length_append]; rfl
theorem vrank_no {keep : List Bool} {v : Nat} (h : v < keep.length) (hk : keep[v] = false) : vrank keep (v + 1) = vrank keep v := by
  unfold vrank; rw [verts_no h hk]
theorem vrank_all {keep : List Bool} {k : Nat} (h : keep.length ≤ k) : vrank keep k = (verts keep).length := by unfold vrank; rw [verts_all h]
theorem vrank_mono (keep : List Bool) {j k : Nat} (h : j ≤ k) : vrank keep j ≤ vrank keep k := by
  induction k with
  | zero => rw [Nat.le_zero.1 h]; exact Nat.le_refl _
  | succ k ih =>
    rcases Nat.lt_or_ge j (k + 1) with h' | h'
    · have := ih (by omega)
      by_cases hl : k < keep.length
      · cases hk : keep[k]
        · rw [vrank_no hl hk]; omega
        · rw [vrank_yes hl hk]; omega
      · rw [vrank_all (k := k + 1) (by omega)]; rw [vrank_all (k := k) (by omega)] at this; exact this
    · rw [show j = k + 1 from by omega]; exact Nat.le_refl _
theorem vrank_lt {keep : List Bool} {v : Nat} (h : v < keep.length) (hk : keep[v] = true) : vrank keep v < (verts keep).length := by
  have a := vrank_yes h hk
  have b := vrank_mono keep (j := v + 1) (k := keep.length) (by omega)
  rw [vrank_all (Nat.le_refl _)] at b
  omega
/-- Which vertex has a number. -/
theorem verts_at {keep : List Bool} : ∀ k, k ≤ keep.length → ∀ i, i < (verts (keep.take k)).length → ∃ u, ∃ h : u < keep.length, u < k ∧ (verts (keep.take k))[i]? = some (u : Int) ∧ keep[u] = true ∧ vrank keep u = i
  | 0, _, i, hi => by rw [List.take_zero] at hi; exact absurd hi (Nat.not_lt_zero _)
  | k + 1, hk, i, hi => by
    have hl : k < keep.length := by omega
    cases hkk : keep[k]
    · rw [verts_no hl hkk] at hi ⊢
      obtain ⟨u, h, hu, e, r⟩ := verts_at k (by omega) i hi
      exact ⟨u, h, by omega, e, r⟩
    · rw [verts_yes hl hkk] at hi ⊢
      by_cases hik : i < (verts (keep.take k)).length
      · obtain ⟨u, h, hu, e, r⟩ := verts_at k (by omega) i hik
        exact ⟨u, h, by omega, by rw [List.getElem?_append_left hik]; exact e, r⟩
      · rw [List.length_append, List.length_singleton] at hi
        have ei : i = (verts (keep.take k)).length := by omega
        exact ⟨k, hl, by omega, by rw [ei, List.getElem?_append_right (Nat.le_refl _), Nat.sub_self]; rfl, hkk, by rw [ei]; rfl⟩
theorem verts_get {keep : List Bool} {i : Nat} (hi : i < (verts keep).length) : ∃ u, ∃ h : u < keep.length, (verts keep)[i]? = some (u : Int) ∧ keep[u] = true ∧ vrank keep u = i := by
  have e : keep.take keep.length = keep := List.take_length
  obtain ⟨u, h, _, a, b, c⟩ := verts_at keep.length (Nat.le_refl _) i (by rw [e]; exact hi)
  rw [e] at a
  exact ⟨u, h, a, b, c⟩
theorem verts_ne {keep : List Bool} {v : Nat} (h : v < keep.length) (hk : keep[v] = true) : (verts keep).length ≠ 0 := by
  have := vrank_lt h hk; omega

theorem kin_true {keep : List Bool} {x : Arc} (h : kin keep x = true) : ∃ (h1 : x.src.toNat < keep.length) (h2 : x.dst.toNat < keep.length), keep[x.src.toNat] = true ∧ keep[x.dst.toNat] = true := by
  have key : ∀ v, keep.getD v false = true → ∃ h : v < keep.length, keep[v] = true := fun v hv => by
    by_cases hl : v < keep.length
    · rw [getD_in _ _ hl] at hv; exact ⟨hl, hv⟩
    · rw [getD_out _ _ (by omega)] at hv; cases hv
  unfold kin at h
  rw [Bool.and_eq_true] at h
  obtain ⟨h1, e1⟩ := key _ h.1
  obtain ⟨h2, e2⟩ := key _ h.2
  exact ⟨h1, h2, e1, e2⟩

/-- The graph of some vertices is right. -/
theorem sub_good {keep : List Bool} {l : List Arc} (hk : keep.length ≤ 1024) (hl : l.length ≤ 8192) (hv : (verts keep).length ≠ 0) : gcheck ((verts keep).length : Int) (subArcs keep l) = (0, 0) := by
  have h1 := verts_le keep
  have h2 := sub_len keep l
  refine gcheck_ok ⟨by omega, by omega⟩ (by omega) fun j hj => ?_
  have hm := List.getElem_mem hj
  unfold subArcs at hm
  rw [List.mem_map] at hm
  obtain ⟨x, hx, e⟩ := hm
  rw [List.mem_filter] at hx
  obtain ⟨ha, hb, e1, e2⟩ := kin_true hx.2
  have r1 := vrank_lt ha e1
  have r2 := vrank_lt hb e2
  unfold subArcs
  rw [← e]
  unfold arcBad subArc
  simp
  omega
theorem sub_ok {keep : List Bool} {l : List Arc} (hk : keep.length ≤ 1024) (hok : ∀ x ∈ l, ArcOk x) : ∀ x ∈ subArcs keep l, ArcOk x := by
  intro y hy
  unfold subArcs at hy
  obtain ⟨x, hx, rfl⟩ := List.mem_map.1 hy
  have hx' := hok x (List.mem_filter.1 hx).1
  obtain ⟨ha, hb, e1, e2⟩ := kin_true (List.mem_filter.1 hx).2
  have r1 := vrank_lt ha e1
  have r2 := vrank_lt hb e2
  have := verts_le keep
  exact ⟨⟨by show _ ≤ ((vrank keep x.src.toNat : Nat) : Int); omega, by show ((vrank keep x.src.toNat : Nat) : Int) ≤ _; omega⟩, ⟨by show _ ≤ ((vrank keep x.dst.toNat : Nat) : Int); omega, by show ((vrank keep x.dst.toNat : Nat) : Int) ≤ _; omega⟩, hx'.wt⟩

/-- What is connected stays so in a part. -/
theorem conn_sub {keep : List Bool} {l : List Arc} (hc : ∀ x ∈ l, keep.getD x.src.toNat false = keep.getD x.dst.toNat false) {u v : Nat} (hu : keep.getD u false = true) (h : Conn (ends2 l) u v) :
    keep.getD v false = true ∧ Conn (ends2 (subArcs keep l)) (vrank keep u) (vrank keep v) := by
  have edge : ∀ x ∈ l, keep.getD x.src.toNat false = true → (vrank keep x.src.toNat, vrank keep x.dst.toNat) ∈ ends2 (subArcs keep l) := fun x hx hs => by
    refine List.mem_map.2 ⟨subArc keep x, List.mem_map.2 ⟨x, List.mem_filter.2 ⟨hx, ?_⟩, rfl⟩, by simp [subArc]⟩
    unfold kin; rw [← hc x hx, hs]; rfl
  induction h with
  | refl => exact ⟨hu, .refl _⟩
  | step _ he ih =>
    obtain ⟨i1, i2⟩ := ih
    rcases he with he | he
    · obtain ⟨x, hx, e⟩ := List.mem_map.1 he
      simp only [Prod.mk.injEq] at e
      obtain ⟨rfl, rfl⟩ := e
      exact ⟨by rw [← hc x hx]; exact i1, .step i2 (.inl (edge x hx i1))⟩
    · obtain ⟨x, hx, e⟩ := List.mem_map.1 he
      simp only [Prod.mk.injEq] at e
      obtain ⟨rfl, rfl⟩ := e
      exact ⟨by rw [hc x hx]; exact i1, .step i2 (.inr (edge x hx (by rw [hc x hx]; exact i1)))⟩

/-- The vertices of one label. -/
def ofPart (p : List Nat) (x : Nat) : List Bool := p.map (fun y => decide (y = x))
theorem ofPart_len (p : List Nat) (x : Nat) : (ofPart p x).length = p.length := List.length_map _
theorem ofPart_get {p : List Nat} {x v : Nat} (h : v < p.length) : (ofPart p x).getD v false = decide (p[v] = x) := by
  simp [ofPart, List.getD_eq_getElem?_getD, h]
theorem ofPart_ne {p : List Nat} {x : Nat} (hx : x < nxt p p.length) : (verts (ofPart p x)).length ≠ 0 := by
  obtain ⟨j, h, _, e⟩ := seen p.length (Nat.le_refl _) x hx
  exact verts_ne (v := j) (by rw [ofPart_len]; exact h) (by simp [ofPart, e])

/-- Each part is one. -/
theorem part_one {n : Nat} {l : List Arc} {p q : List Nat} {x : Nat} (hg : ∀ k (hk : k < l.length), 0 ≤ l[k].src ∧ l[k].src < (n : Int) ∧ 0 ≤ l[k].dst ∧ l[k].dst < (n : Int)) (hp : IsParts n (ends2 l) p)
    (hq : IsParts (verts (ofPart p x)).length (ends2 (subArcs (ofPart p x) l)) q) : ∀ i (h : i < q.length), q[i] = 0 := by
  have hl := hp.len
  have hc : ∀ y ∈ l, (ofPart p x).getD y.src.toNat false = (ofPart p x).getD y.dst.toNat false := fun y hy => by
    obtain ⟨k, hk, rfl⟩ := List.mem_iff_getElem.1 hy
    have := hg k hk
    rw [ofPart_get (by omega), ofPart_get (by omega), (hp.conn l[k].src.toNat l[k].dst.toNat (by omega) (by omega)).2 (.edge (.inl (List.mem_map.2 ⟨_, hy, rfl⟩)))]
  have kept : ∀ i, i < q.length → ∃ u, ∃ h : u < p.length, p[u] = x ∧ vrank (ofPart p x) u = i := fun i hi => by
    rw [hq.len] at hi
    obtain ⟨u, hu, _, hk, e⟩ := verts_get hi
    have hu' : u < p.length := by rw [ofPart_len] at hu; exact hu
    exact ⟨u, hu', by simpa [ofPart] using hk, e⟩
  intro i hi
  have h0 : 0 < q.length := by omega
  obtain ⟨u, hu, eu, ru⟩ := kept i hi
  obtain ⟨v, hv, ev, rv⟩ := kept 0 h0
  have c := (hp.conn v u hv hu).1 (by rw [eu, ev])
  have c2 := (conn_sub hc (by rw [ofPart_get hv]; simp [ev]) c).2
  rw [ru, rv] at c2
  have e := (hq.conn 0 i h0 hi).2 c2
  have t := hq.tidy 0 h0
  rw [nxt] at t
  omega
/-- An arc's ends have one label. -/
theorem parts_arc {n : Nat} {l : List Arc} {p : List Nat} (hp : IsParts n (ends2 l) p) {k : Nat} (hk : k < l.length) (h1 : l[k].src.toNat < p.length) (h2 : l[k].dst.toNat < p.length) : p[l[k].src.toNat] = p[l[k].dst.toNat] :=
  (hp.conn _ _ h1 h2).2 (.edge (.inl (List.mem_map.2 ⟨_, List.getElem_mem hk, rfl⟩)))

/-! ### all of a graph; some of some -/
theorem vrank_true (n : Nat) : ∀ v, v ≤ n → vrank (List.replicate n true) v = v
  | 0, _ => vrank_zero _
  | v + 1, h => by rw [vrank_yes (by simp; omega) (by simp), vrank_true n v (by omega)]
theorem verts_true (n : Nat) : (verts (List.replicate n true)).length = n := by
  rw [← vrank_all (k := n) (by simp)]; exact vrank_true n n (Nat.le_refl _)
theorem kin_all {n : Nat} {l : List Arc} (hg : ∀ k (hk : k < l.length), 0 ≤ l[k].src ∧ l[k].src < (n : Int) ∧ 0 ≤ l[k].dst ∧ l[k].dst < (n : Int)) : ∀ x ∈ l, kin (List.replicate n true) x = true := fun x hx => by
  obtain ⟨k, hk, rfl⟩ := List.mem_iff_getElem.1 hx
  have := hg k hk
  rw [kin_get (by simp; omega) (by simp; omega)]; simp
theorem sub_true {n : Nat} {l : List Arc} (hg : ∀ k (hk : k < l.length), 0 ≤ l[k].src ∧ l[k].src < (n : Int) ∧ 0 ≤ l[k].dst ∧ l[k].dst < (n : Int)) : subArcs (List.replicate n true) l = l := by
  unfold subArcs
  rw [List.filter_eq_self.2 (kin_all hg)]
  refine (List.map_congr_left (g := id) fun x hx => ?_).trans (List.map_id _)
  obtain ⟨k, hk, rfl⟩ := List.mem_iff_getElem.1 hx
  obtain ⟨a, b, c, d⟩ := hg k hk
  unfold subArc
  rw [vrank_true n _ (by omega), vrank_true n _ (by omega)]
  generalize l[k] = y at *
  obtain ⟨s, t, w⟩ := y
  simp only [id, Arc.mk.injEq, and_true]
  simp only at a c
  omega
theorem idxs_all {n : Nat} {l : List Arc} (hg : ∀ k (hk : k < l.length), 0 ≤ l[k].src ∧ l[k].src < (n : Int) ∧ 0 ≤ l[k].dst ∧ l[k].dst < (n : Int)) : (idxs (kin (List.replicate n true)) l).length = l.length := by
  rw [idxs_length, List.countP_eq_length]; exact kin_all hg

/-- Each second one, as far as it has been written. -/
def halfTo (n i : Nat) : List Bool := (List.range n).map (fun j => decide (j < i) && decide (j % 2 = 0))
def bothTo (keep : List Bool) (i : Nat) : List Bool := (List.range keep.length).map (fun u => keep.getD u false && (decide (vrank keep u < i) && decide (vrank keep u % 2 = 0)))
theorem halfTo_len (n i : Nat) : (halfTo n i).length = n := by simp [halfTo]
theorem bothTo_len (keep : List Bool) (i : Nat) : (bothTo keep i).length = keep.length := by simp [bothTo]
theorem halfTo_zero (n : Nat) : halfTo n 0 = List.replicate n false := by
  refine List.ext_getElem (by simp [halfTo]) fun j h1 h2 => by simp [halfTo]
theorem bothTo_zero (keep : List Bool) : bothTo keep 0 = List.replicate keep.length false := by
  refine List.ext_getElem (by simp [bothTo]) fun j h1 h2 => by simp [bothTo]
theorem halfTo_next {n i : Nat} (h : i < n) : (halfTo n i).set i (decide (i % 2 = 0)) = halfTo n (i + 1) := by
  refine List.ext_getElem (by simp [halfTo]) fun j h1 h2 => ?_
  rw [List.getElem_set]
  simp only [halfTo, List.getElem_map, List.getElem_range]
  split
  · rename_i e; subst e; simp
  · rename_i e
    have : (j < i + 1) ↔ (j < i) := by omega
    simp only [this]
theorem vrank_inj {keep : List Bool} {u v : Nat} (hu : u < keep.length) (hv : v < keep.length) (ku : keep[u] = true) (kv : keep[v] = true) (e : vrank keep u = vrank keep v) : u = v := by
  rcases Nat.lt_trichotomy u v with h | h | h
  · have := vrank_yes hu ku; have := vrank_mono keep (j := u + 1) (k := v) (by omega); omega
  · exact h
  · have := vrank_yes hv kv; have := vrank_mono keep (j := v + 1) (k := u) (by omega); omega
theorem bothTo_next {keep : List Bool} {i u : Nat} (hu : u < keep.length) (ku : keep[u] = true) (hr : vrank keep u = i) : (bothTo keep i).set u (decide (i % 2 = 0)) = bothTo keep (i + 1) := by
  refine List.ext_getElem (by simp [bothTo]) fun j h1 h2 => ?_
  rw [List.getElem_set]
  have hj : j < keep.length := by simpa [bothTo] using h2
  simp only [bothTo, List.getElem_map, List.getElem_range]
  split
  · rename_i e; subst e; rw [getD_in _ _ hu, ku, hr]; simp
  · rename_i e
    rw [getD_in _ _ hj]
    cases kj : keep[j]
    · rfl
    · have : vrank keep j ≠ i := fun e' => e (vrank_inj hu hj ku kj (hr.trans e'.symm))
      have : (vrank keep j < i + 1) ↔ (vrank keep j < i) := by omega
      simp only [this]
/-- All that are half of some are half. -/
theorem both_get {keep : List Bool} {n : Nat} (hn : n = (verts keep).length) {u : Nat} : (bothTo keep n).getD u false = (keep.getD u false && (halfTo n n).getD (vrank keep u) false) := by
  by_cases hu : u < keep.length
  · rw [getD_in _ _ (by rw [bothTo_len]; exact hu)]
    simp only [bothTo, List.getElem_map, List.getElem_range]
    cases hk : keep.getD u false
    · rfl
    · rw [getD_in _ _ hu] at hk
      have hr := vrank_lt hu hk
      rw [getD_in _ _ (by rw [halfTo_len]; omega)]
      simp only [halfTo, List.getElem_map, List.getElem_range]
  · rw [getD_out _ _ (by rw [bothTo_len]; omega), getD_out keep _ (by omega)]; rfl
theorem vrank_both {keep : List Bool} {n : Nat} (hn : n = (verts keep).length) : ∀ u, u ≤ keep.length → vrank (bothTo keep n) u = vrank (halfTo n n) (vrank keep u)
  | 0, _ => by rw [vrank_zero, vrank_zero, vrank_zero]
  | u + 1, h => by
    have ih := vrank_both hn u (by omega)
    have hu : u < keep.length := by omega
    have hb : u < (bothTo keep n).length := by rw [bothTo_len]; exact hu
    have hg := both_get hn (u := u)
    rw [getD_in _ _ hb, getD_in _ _ hu] at hg
    cases hk : keep[u]
    · rw [hk, Bool.false_and] at hg
      rw [vrank_no hb hg, vrank_no hu hk, ih]
    · have hr := vrank_lt hu hk
      have hr' : vrank keep u < (halfTo n n).length := by rw [halfTo_len]; omega
      rw [hk, Bool.true_and, getD_in _ _ hr'] at hg
      rw [vrank_yes hu hk]
      cases hh : (halfTo n n)[vrank keep u]
      · rw [hh] at hg; rw [vrank_no hb hg, vrank_no hr' hh, ih]
      · rw [hh] at hg; rw [vrank_yes hb hg, vrank_yes hr' hh, ih]
theorem verts_both {keep : List Bool} {n : Nat} (hn : n = (verts keep).length) : (verts (bothTo keep n)).length = (verts (halfTo n n)).length := by
  have := vrank_both hn keep.length (Nat.le_refl _)
  rw [vrank_all (by rw [bothTo_len]; exact Nat.le_refl _), vrank_all (keep := keep) (Nat.le_refl _), ← hn, vrank_all (by rw [halfTo_len]; exact Nat.le_refl _)] at this
  exact this
theorem verts_half {n : Nat} (h : n ≠ 0) : (verts (halfTo n n)).length ≠ 0 := verts_ne (v := 0) (by rw [halfTo_len]; omega) (by simp [halfTo]; omega)
theorem sub_both {keep : List Bool} {n : Nat} (hn : n = (verts keep).length) {l : List Arc} (hg : ∀ k (hk : k < l.length), 0 ≤ l[k].src ∧ l[k].src < (keep.length : Int) ∧ 0 ≤ l[k].dst ∧ l[k].dst < (keep.length : Int)) :
    subArcs (bothTo keep n) l = subArcs (halfTo n n) (subArcs keep l) := by
  unfold subArcs
  rw [List.filter_map, List.map_map, List.filter_filter]
  have hf : ∀ x ∈ l, kin (bothTo keep n) x = ((kin (halfTo n n) ∘ subArc keep) x && kin keep x) := fun x hx => by
    unfold kin
    rw [both_get hn, both_get hn]
    simp only [Function.comp, subArc, Int.toNat_natCast]
    generalize keep.getD x.src.toNat false = a; generalize keep.getD x.dst.toNat false = b
    generalize (halfTo n n).getD (vrank keep x.src.toNat) false = c; generalize (halfTo n n).getD (vrank keep x.dst.toNat) false = d
    cases a <;> cases b <;> cases c <;> cases d <;> rfl
  rw [List.filter_congr hf]
  refine List.map_congr_left fun x hx => ?_
  obtain ⟨k, hk, rfl⟩ := List.mem_iff_getElem.1 (List.mem_filter.1 hx).1
  have := hg k hk
  simp only [Function.comp, subArc, Int.toNat_natCast]
  rw [vrank_both hn _ (by omega), vrank_both hn _ (by omega)]
end Go.Proofs.Ytkhjckghpakliaa

/- Labels cut up under a bound: plain laws. -/

namespace Go.Proofs.Ytkhjckghpakliaa
open Go Fly
set_option linter.unusedVariables false
set_option linter.unusedSimpArgs false
set_option linter.unusedSectionVars false

/-- The vertices with a label. -/
def keepL (L : List Int) (j : Nat) : List Bool := L.map fun x => decide (x = (j : Int))
theorem keepL_len (L : List Int) (j : Nat) : (keepL L j).length = L.length := by simp [keepL]
def kpTo (L : List Int) (j k : Nat) : List Bool := L.mapIdx fun i x => decide (i < k ∧ x = (j : Int))
theorem kpTo_len (L : List Int) (j k : Nat) : (kpTo L j k).length = L.length := by simp [kpTo]
theorem kpTo_zero (L : List Int) (j : Nat) : kpTo L j 0 = List.replicate L.length false := by
  refine List.ext_getElem (by simp [kpTo]) fun i h1 h2 => ?_
  simp [kpTo]
theorem kpTo_next {L : List Int} {j k : Nat} (h : k < L.length) : (kpTo L j k).set k (decide (L[k] = (j : Int))) = kpTo L j (k + 1) := by
  refine List.ext_getElem (by simp [kpTo]) fun i h1 h2 => ?_
  have h3 : i < L.length := by simpa [kpTo] using h2
  by_cases hi : k = i
  · subst hi; simp [kpTo]
  · rw [List.getElem_set_ne hi]
    simp only [kpTo, List.getElem_mapIdx]
    apply decide_eq_decide.2
    constructor <;> rintro ⟨h4, h5⟩ <;> exact ⟨by omega, h5⟩
theorem kpTo_all (L : List Int) (j : Nat) : kpTo L j L.length = keepL L j := by
  refine List.ext_getElem (by simp [kpTo, keepL]) fun i h1 h2 => ?_
  have h3 : i < L.length := by simpa [keepL] using h2
  simp [kpTo, keepL, h3]
abbrev cutVs (L : List Int) (j : Nat) : List Int := verts (keepL L j)
def cutOrd (l : List Arc) (L : List Int) (j : Nat) : List Int := (ordR ((cutVs L j).length : Int) (subArcs (keepL L j) l)).1
def putAt (vs ord : List Int) (i : Nat) : Nat := (vs.getD (ord.getD i 0).toNat 0).toNat
def putTo (vs ord : List Int) (b : Nat) (nx : Int) (out : List Int) : Nat → List Int
  | 0 => out
  | i + 1 => (putTo vs ord b nx out i).set (putAt vs ord i) (nx + ((i / b : Nat) : Int))
theorem putTo_len (vs ord : List Int) (b : Nat) (nx : Int) (out : List Int) : ∀ i, (putTo vs ord b nx out i).length = out.length
  | 0 => rfl
  | i + 1 => by unfold putTo; rw [List.length_set, putTo_len vs ord b nx out i]
def cutTo (l : List Arc) (L : List Int) (b : Nat) : Nat → List Int × Int
  | 0 => (L, (L.length : Int))
  | j + 1 => if cnt L j ≤ b then cutTo l L b j else (putTo (cutVs L j) (cutOrd l L j) b (cutTo l L b j).2 (cutTo l L b j).1 (cutOrd l L j).length, (cutTo l L b j).2 + ((((cutOrd l L j).length + b - 1) / b : Nat) : Int))
theorem cutTo_len (l : List Arc) (L : List Int) (b : Nat) : ∀ j, (cutTo l L b j).1.length = L.length
  | 0 => rfl
  | j + 1 => by unfold cutTo; split; exact cutTo_len l L b j; rw [putTo_len, cutTo_len l L b j]
def cutL (l : List Arc) (L : List Int) (b : Nat) : List Int := tdy (cutTo l L b (maxL L + 1).toNat).1

/-- The vertices of a label that is there, in order. -/
structure CutOk (l : List Arc) (L : List Int) (j : Nat) : Prop where
  has : (cutVs L j).length ≠ 0
  few : (cutVs L j).length ≤ L.length
  good : gcheck ((cutVs L j).length : Int) (subArcs (keepL L j) l) = (0, 0)
  ord : ordR ((cutVs L j).length : Int) (subArcs (keepL L j) l) = (cutOrd l L j, 0)
  rng : ∀ x ∈ cutOrd l L j, 0 ≤ x ∧ x < ((cutVs L j).length : Int)
  nd : (cutOrd l L j).Nodup
  all : ∀ u, u < (cutVs L j).length → (u : Int) ∈ cutOrd l L j
  olen : (cutOrd l L j).length ≤ (cutVs L j).length
theorem cut_ok {l : List Arc} {L : List Int} {j : Nat} (hn : L.length ≤ 1024) (hl : l.length ≤ 8192) (hj : 0 < cnt L j) : CutOk l L j := by
  have hkl := keepL_len L j
  have hne : (cutVs L j).length ≠ 0 := by
    have : (j : Int) ∈ L := Classical.byContradiction fun h => by have := cntI_none h; rw [cnt_is] at hj; omega
    obtain ⟨v, hv, e⟩ := List.mem_iff_getElem.1 this
    exact verts_ne (v := v) (by omega) (by simp [keepL, e])
  have hg := sub_good (keep := keepL L j) (l := l) (by omega) hl hne
  obtain ⟨hrl, hrng⟩ := nbrs_rngG (n := (cutVs L j).length) (l := subArcs (keepL L j) l) (by rw [cutVs, hg])
  have ho := ord_ok hrng (cutVs L j).length (Nat.le_refl _)
  have e : ordR ((cutVs L j).length : Int) (subArcs (keepL L j) l) = ((ordGo (cutVs L j).length (fun v : Nat => nbrs (v : Int) (subArcs (keepL L j) l)) (cutVs L j).length).1, 0) := by
    unfold ordR
    rw [if_neg (by rw [cutVs, hg]; simp), Int.toNat_natCast]
  have e1 : cutOrd l L j = (ordGo (cutVs L j).length (fun v : Nat => nbrs (v : Int) (subArcs (keepL L j) l)) (cutVs L j).length).1 := by unfold cutOrd; rw [e]
  refine ⟨hne, ?_, hg, by rw [e, e1], ?_, ?_, ?_, ?_⟩
  · have := verts_le (keepL L j); rw [hkl] at this; exact this
  · rw [e1]; exact ho.rng
  · rw [e1]; exact ho.nd
  · rw [e1]; exact ho.all
  · rw [e1]; exact ints_card ho.rng ho.nd
/-- What a place of the order is told. -/
theorem CutOk.at {l : List Arc} {L : List Int} {j : Nat} (h : CutOk l L j) {i : Nat} (hi : i < (cutOrd l L j).length) : ∃ q, (cutOrd l L j)[i] = ((q : Nat) : Int) ∧ ∃ hq : q < (cutVs L j).length, ∃ u, (cutVs L j)[q] = ((u : Nat) : Int) ∧ (∃ hu : u < L.length, L[u] = (j : Int)) ∧ putAt (cutVs L j) (cutOrd l L j) i = u ∧ vrank (keepL L j) u = q := by
  have hr := h.rng _ (List.getElem_mem hi)
  obtain ⟨q, hq⟩ : ∃ q : Nat, (cutOrd l L j)[i] = (q : Int) := ⟨_, (Int.toNat_of_nonneg hr.1).symm⟩
  rw [hq] at hr
  obtain ⟨u, hu, e1, e2, e3⟩ := verts_get (keep := keepL L j) (i := q) (by show q < (cutVs L j).length; omega)
  have hq2 : q < (cutVs L j).length := by omega
  have e4 : (cutVs L j)[q] = (u : Int) := by have : (cutVs L j)[q]? = some (u : Int) := e1; rw [List.getElem?_eq_getElem hq2] at this; exact Option.some.inj this
  rw [keepL_len] at hu
  refine ⟨q, hq, hq2, u, e4, ⟨hu, by simpa [keepL] using e2⟩, ?_, e3⟩
  unfold putAt
  rw [List.getD_eq_getElem?_getD, List.getD_eq_getElem?_getD, List.getElem?_eq_getElem hi, Option.getD_some, hq, Int.toNat_natCast, List.getElem?_eq_getElem hq2, Option.getD_some, e4, Int.toNat_natCast]
theorem cutTo_next {l : List Arc} {L : List Int} {b : Nat} (hn : L.length ≤ 1024) (hl : l.length ≤ 8192) (hb : 0 < b) : ∀ j, (L.length : Int) ≤ (cutTo l L b j).2 ∧ (cutTo l L b j).2 ≤ 1024 + (j : Int) * 2048
  | 0 => by unfold cutTo; simp; omega
  | j + 1 => by
    have ih := cutTo_next (l := l) hn hl hb j
    unfold cutTo
    split
    · omega
    · have hc := cut_ok (l := l) hn hl (show 0 < cnt L j by omega)
      have h1 := hc.olen
      have h2 := hc.few
      have : ((cutOrd l L j).length + b - 1) / b ≤ 2048 := by
        refine Nat.div_le_of_le_mul ?_
        have : b * 1 ≤ b * 2048 := Nat.mul_le_mul_left b (by decide)
        rcases Nat.lt_or_ge b 1025 with h | h
        · have : 1 * 2048 ≤ b * 2048 := Nat.mul_le_mul_right 2048 hb
          omega
        · omega
      generalize ((cutOrd l L j).length + b - 1) / b = q at *
      omega
end Go.Proofs.Ytkhjckghpakliaa

/- What is cut up: no size is above the bound, and who had unlike labels has unlike ones. -/

namespace Go.Proofs.Ytkhjckghpakliaa
open Go Fly
set_option linter.unusedVariables false
set_option linter.unusedSimpArgs false
set_option linter.unusedSectionVars false

theorem qn (a b : Nat) : (0 : Int) ≤ ((a / b : Nat) : Int) := Int.natCast_nonneg _
theorem CutOk.inj {l : List Arc} {L : List Int} {j : Nat} (h : CutOk l L j) {i k : Nat} (hi : i < (cutOrd l L j).length) (hk : k < (cutOrd l L j).length) (e : putAt (cutVs L j) (cutOrd l L j) i = putAt (cutVs L j) (cutOrd l L j) k) : i = k := by
  obtain ⟨q, hq, _, u, _, _, hu, hr⟩ := h.at hi
  obtain ⟨q', hq', _, u', _, _, hu', hr'⟩ := h.at hk
  rw [hu, hu'] at e
  subst e
  have : q = q' := by rw [← hr, ← hr']
  subst this
  refine Classical.byContradiction fun hne => ?_
  have hn := h.nd
  rcases Nat.lt_or_gt_of_ne hne with hlt | hlt
  · exact List.pairwise_iff_getElem.1 hn i k hi hk hlt (by rw [hq, hq'])
  · exact List.pairwise_iff_getElem.1 hn k i hk hi hlt (by rw [hq, hq'])
theorem CutOk.cover {l : List Arc} {L : List Int} {j : Nat} (h : CutOk l L j) {v : Nat} (hv : v < L.length) (e : L[v] = (j : Int)) : ∃ i, i < (cutOrd l L j).length ∧ putAt (cutVs L j) (cutOrd l L j) i = v := by
  have hkv : v < (keepL L j).length := by rw [keepL_len]; exact hv
  have hkt : (keepL L j)[v] = true := by simp [keepL, e]
  have hr := vrank_lt hkv hkt
  obtain ⟨i, hi, ei⟩ := List.mem_iff_getElem.1 (h.all _ hr)
  obtain ⟨q, hq, _, u, _, ⟨hu, eu⟩, hp, hru⟩ := h.at hi
  refine ⟨i, hi, hp.trans ?_⟩
  have : q = vrank (keepL L j) v := by rw [ei] at hq; omega
  exact vrank_inj (by rw [keepL_len]; exact hu) hkv (by simp [keepL, eu]) hkt (by rw [hru, this])

/-- While the vertices of a label are told their new ones. -/
structure PutI (vs ord : List Int) (b : Nat) (nx : Int) (o p : List Int) (i : Nat) : Prop where
  len : p.length = o.length
  rest : ∀ v, (∀ k, k < i → putAt vs ord k ≠ v) → p[v]? = o[v]?
  told : ∀ k, k < i → p[putAt vs ord k]? = some (nx + ((k / b : Nat) : Int))
  old : ∀ y, y < nx → cntI p y ≤ cntI o y
  new : ∀ c : Nat, cntI p (nx + (c : Int)) ≤ min (i - c * b) b
theorem put_inv {l : List Arc} {L o : List Int} {j b : Nat} {nx : Int} (h : CutOk l L j) (hb : 0 < b) (hl : o.length = L.length) (hn : ∀ x ∈ o, x < nx) : ∀ i, i ≤ (cutOrd l L j).length → PutI (cutVs L j) (cutOrd l L j) b nx o (putTo (cutVs L j) (cutOrd l L j) b nx o i) i
  | 0, _ => by
    refine ⟨rfl, fun _ _ => rfl, fun k hk => by omega, fun y _ => Nat.le_refl _, fun c => ?_⟩
    show cntI o (nx + (c : Int)) ≤ _
    rw [cntI_none fun hm => by have := hn _ hm; omega]; omega
  | i + 1, hi => by
    have ih := put_inv (o := o) (nx := nx) (b := b) h hb hl hn i (by omega)
    obtain ⟨q, hq, _, u, _, ⟨hu, _⟩, hp, _⟩ := h.at (i := i) (by omega)
    have hset := cntI_set (L := putTo (cutVs L j) (cutOrd l L j) b nx o i) (i := u) (by rw [ih.len]; omega) (nx + ((i / b : Nat) : Int))
    show PutI _ _ _ _ _ ((putTo (cutVs L j) (cutOrd l L j) b nx o i).set (putAt (cutVs L j) (cutOrd l L j) i) _) _
    rw [hp]
    have hdm := Nat.div_add_mod i b
    have hml := Nat.mod_lt i hb
    refine ⟨by rw [List.length_set, ih.len], fun v hv => ?_, fun k hk => ?_, fun y hy => ?_, fun c => ?_⟩
    · rw [List.getElem?_set_ne (by have := hv i (by omega); rw [hp] at this; exact this)]
      exact ih.rest v fun k hk => hv k (by omega)
    · by_cases e : k = i
      · subst e
        rw [hp, List.getElem?_set_self (by rw [ih.len]; omega)]
      · rw [List.getElem?_set_ne (fun e' => e (h.inj (by omega) (by omega) (by rw [hp, e'])))]
        exact ih.told k (by omega)
    · have h1 := hset y
      have h2 := ih.old y hy
      rw [if_neg (show ¬ nx + ((i / b : Nat) : Int) = y by have := qn i b; omega)] at h1
      omega
    · have h1 := hset (nx + (c : Int))
      have h2 := ih.new c
      by_cases e : i / b = c
      · rw [if_pos (show nx + ((i / b : Nat) : Int) = nx + (c : Int) by omega)] at h1
        rw [e] at hdm
        rw [Nat.mul_comm] at hdm
        generalize c * b = z at *
        omega
      · rw [if_neg (show ¬ nx + ((i / b : Nat) : Int) = nx + (c : Int) by omega)] at h1
        have : i < c * b ∨ c * b + b ≤ i := by
          rcases Nat.lt_or_gt_of_ne e with hlt | hlt
          · left
            have h3 := Nat.mul_le_mul_right b (show i / b + 1 ≤ c from hlt)
            rw [Nat.succ_mul] at h3
            rw [Nat.mul_comm] at hdm
            omega
          · right
            have h3 := Nat.mul_le_mul_right b (show c + 1 ≤ i / b from hlt)
            rw [Nat.succ_mul] at h3
            rw [Nat.mul_comm] at hdm
            omega
        generalize c * b = z at *
        omega
/-- What has been cut up so far. -/
structure CutI (L : List Int) (b j : Nat) (o : List Int) (nx : Int) : Prop where
  len : o.length = L.length
  low : (L.length : Int) ≤ nx
  same : ∀ v (h : v < L.length), (j : Int) ≤ L[v] ∨ cntI L L[v] ≤ b → o[v]? = some L[v]
  new : ∀ v (h : v < L.length), L[v] < (j : Int) → b < cntI L L[v] → ∃ z, o[v]? = some z ∧ (L.length : Int) ≤ z ∧ z < nx
  fine : ∀ u v (hu : u < L.length) (hv : v < L.length), o[u]? = o[v]? → L[u] = L[v]
  size : ∀ y, (L.length : Int) ≤ y → cntI o y ≤ b
theorem CutI.rng {L : List Int} {b j : Nat} {o : List Int} {nx : Int} (h : CutI L b j o nx) (hL : ∀ x ∈ L, 0 ≤ x ∧ x < (L.length : Int)) : ∀ x ∈ o, x < nx := fun x hx => by
  obtain ⟨v, hv, e⟩ := List.mem_iff_getElem.1 hx
  have hv' : v < L.length := by rw [← h.len]; exact hv
  have e' : o[v]? = some x := by rw [List.getElem?_eq_getElem hv, e]
  have hr := hL _ (List.getElem_mem hv')
  have hlow := h.low
  by_cases hc : (j : Int) ≤ L[v] ∨ cntI L L[v] ≤ b
  · have := h.same v hv' hc
    rw [e'] at this
    have := Option.some.inj this
    omega
  · obtain ⟨z, h1, h2, h3⟩ := h.new v hv' (by omega) (by omega)
    rw [e'] at h1
    have := Option.some.inj h1
    omega
theorem cut_inv {l : List Arc} {L : List Int} {b : Nat} (hn : L.length ≤ 1024) (hl : l.length ≤ 8192) (hb : 0 < b) (hL : ∀ x ∈ L, 0 ≤ x ∧ x < (L.length : Int)) : ∀ j, CutI L b j (cutTo l L b j).1 (cutTo l L b j).2
  | 0 => by
    refine ⟨rfl, Int.le_refl _, fun v h _ => List.getElem?_eq_getElem h, fun v h h1 => ?_, fun u v hu hv e => ?_, fun y hy => ?_⟩
    · have := hL _ (List.getElem_mem h); omega
    · have e' : L[u]? = L[v]? := e
      rw [List.getElem?_eq_getElem hu, List.getElem?_eq_getElem hv] at e'
      exact Option.some.inj e'
    · show cntI L y ≤ b
      rw [cntI_none fun hm => by have := hL _ hm; omega]; omega
  | j + 1 => by
    have ih := cut_inv (l := l) hn hl hb hL j
    unfold cutTo
    by_cases hc : cnt L j ≤ b
    · rw [if_pos hc]
      rw [cnt_is] at hc
      refine ⟨ih.len, ih.low, fun v h h1 => ih.same v h ?_, fun v h h1 h2 => ih.new v h ?_ h2, ih.fine, ih.size⟩
      · by_cases e : L[v] = (j : Int)
        · right; rw [e]; exact hc
        · rcases h1 with h1 | h1
          · left; omega
          · exact .inr h1
      · refine Classical.byContradiction fun hne => ?_
        have : L[v] = (j : Int) := by omega
        rw [this] at h2; omega
    · rw [if_neg hc]
      have hck := cut_ok (l := l) hn hl (show 0 < cnt L j by omega)
      have hP := put_inv hck hb ih.len (ih.rng hL) (cutOrd l L j).length (Nat.le_refl _)
      rw [cnt_is] at hc
      have hlow := ih.low
      have hnj : ∀ v (h : v < L.length), L[v] ≠ (j : Int) → (putTo (cutVs L j) (cutOrd l L j) b (cutTo l L b j).2 (cutTo l L b j).1 (cutOrd l L j).length)[v]? = (cutTo l L b j).1[v]? := fun v h hne => hP.rest v fun k hk e => by
        obtain ⟨_, _, _, u, _, ⟨hu, eu⟩, hp, _⟩ := hck.at hk
        rw [hp] at e; subst e; exact hne eu
      have hyj : ∀ v (h : v < L.length), L[v] = (j : Int) → ∃ k, k < (cutOrd l L j).length ∧ (putTo (cutVs L j) (cutOrd l L j) b (cutTo l L b j).2 (cutTo l L b j).1 (cutOrd l L j).length)[v]? = some ((cutTo l L b j).2 + ((k / b : Nat) : Int)) := fun v h e => by
        obtain ⟨k, hk, rfl⟩ := hck.cover h e
        exact ⟨k, hk, hP.told k hk⟩
      have hdiv : ∀ k, k < (cutOrd l L j).length → ((k / b : Nat) : Int) < ((((cutOrd l L j).length + b - 1) / b : Nat) : Int) := fun k hk => by
        have : k / b + 1 ≤ ((cutOrd l L j).length + b - 1) / b := by
          rw [← Nat.add_div_right k hb]
          exact Nat.div_le_div_right (by omega)
        omega
      have hlt : ∀ v (h : v < L.length) z, (cutTo l L b j).1[v]? = some z → z < (cutTo l L b j).2 := fun v h z e => ih.rng hL z (List.mem_of_getElem? e)
      refine ⟨by rw [hP.len, ih.len], by dsimp only; have := qn ((cutOrd l L j).length + b - 1) b; omega, fun v h h1 => ?_, fun v h h1 h2 => ?_, fun u v hu hv e => ?_, fun y hy => ?_⟩
      · have hne : L[v] ≠ (j : Int) := by
          rcases h1 with h1 | h1
          · omega
          · intro e; rw [e] at h1; exact hc h1
        rw [hnj v h hne]
        refine ih.same v h ?_
        rcases h1 with h1 | h1
        · left; omega
        · exact .inr h1
      · by_cases e : L[v] = (j : Int)
        · obtain ⟨k, hk, ek⟩ := hyj v h e
          have := hdiv k hk
          have h6 := qn k b
          exact ⟨_, ek, by omega, by dsimp only; omega⟩
        · rw [hnj v h e]
          obtain ⟨z, h3, h4, h5⟩ := ih.new v h (by omega) h2
          have h6 := qn ((cutOrd l L j).length + b - 1) b
          exact ⟨z, h3, h4, by dsimp only; omega⟩
      · by_cases e1 : L[u] = (j : Int) <;> by_cases e2 : L[v] = (j : Int)
        · rw [e1, e2]
        · obtain ⟨k, hk, ek⟩ := hyj u hu e1
          rw [ek, hnj v hv e2] at e
          have := hlt v hv _ e.symm
          have h6 := qn k b
          omega
        · obtain ⟨k, hk, ek⟩ := hyj v hv e2
          rw [ek, hnj u hu e1] at e
          have := hlt u hu _ e
          have h6 := qn k b
          omega
        · rw [hnj u hu e1, hnj v hv e2] at e
          exact ih.fine u v hu hv e
      · dsimp only
        by_cases h1 : y < (cutTo l L b j).2
        · exact Nat.le_trans (hP.old y h1) (ih.size y hy)
        · have := hP.new (y - (cutTo l L b j).2).toNat
          rw [show (cutTo l L b j).2 + (((y - (cutTo l L b j).2).toNat : Nat) : Int) = y by omega] at this
          omega
/-- What is cut up, in the end. -/
theorem cut_holds {l : List Arc} {L : List Int} {n b : Nat} (hR : rightB (n : Int) L = true) (hn1 : 1 ≤ n) (hn : n ≤ 1024) (hl : l.length ≤ 8192) (hb : 0 < b) :
    rightB (n : Int) (cutL l L b) = true ∧ (∀ y, cntI (cutL l L b) y ≤ b) ∧ ∀ u v : Nat, u < n → v < n → lab (cutL l L b) (u : Int) = lab (cutL l L b) (v : Int) → lab L (u : Int) = lab L (v : Int) := by
  obtain rfl : L.length = n := (right_parts hR).2
  have hrg := right_range hR hn1
  have hI := cut_inv (l := l) hn hl hb (fun x hx => by have := hrg x hx; omega) (maxL L + 1).toNat
  obtain ⟨M, hM⟩ : ∃ M : Nat, (maxL L + 1).toNat = M := ⟨_, rfl⟩
  rw [hM] at hI hrg
  obtain ⟨o, ho⟩ : ∃ o, (cutTo l L b M).1 = o := ⟨_, rfl⟩
  obtain ⟨nx, hnx⟩ : ∃ nx, (cutTo l L b M).2 = nx := ⟨_, rfl⟩
  have ec : cutL l L b = tdy o := by unfold cutL; rw [hM, ho]
  rw [ho, hnx] at hI
  rw [ec]
  have hsz : ∀ y, cntI o y ≤ b := fun y => by
    by_cases hy : (L.length : Int) ≤ y
    · exact hI.size y hy
    · by_cases hyb : cntI L y ≤ b
      · refine Nat.le_trans ?_ hyb
        have key : ∀ (p q : List Int), p.length = q.length → (∀ v (h : v < p.length) (h' : v < q.length), p[v] = y → q[v] = y) → cntI p y ≤ cntI q y := by
          intro p
          induction p with
          | nil => intro q _ _; exact Nat.zero_le _
          | cons x p ihp =>
            intro q hl hq
            cases q with
            | nil => cases hl
            | cons z q =>
              have h1 := ihp q (by simpa using hl) (fun v h h' e => by have := hq (v + 1) (by simpa using h) (by simpa using h') (by simpa using e); simpa using this)
              have h2 := hq 0 (by simp) (by simp)
              unfold cntI at h1 ⊢
              rw [List.filter_cons, List.filter_cons]
              by_cases e : x = y
              · have := h2 e
                simp only [List.getElem_cons_zero] at this
                rw [if_pos (by simpa using e), if_pos (by simpa using this)]; simp only [List.length_cons]; omega
              · rw [if_neg (by simpa using e)]
                split
                · simp only [List.length_cons]; omega
                · exact h1
        refine key o L hI.len fun v h h' e => ?_
        by_cases hc : (M : Int) ≤ L[v] ∨ cntI L L[v] ≤ b
        · have := hI.same v h' hc
          rw [List.getElem?_eq_getElem h, e] at this
          exact (Option.some.inj this).symm
        · obtain ⟨z, h1, h2, h3⟩ := hI.new v h' (by omega) (by omega)
          rw [List.getElem?_eq_getElem h, e] at h1
          have := Option.some.inj h1
          omega
      · have : y ∉ o := fun hm => by
          obtain ⟨v, hv, e⟩ := List.mem_iff_getElem.1 hm
          have h' : v < L.length := by rw [← hI.len]; exact hv
          by_cases hc : (M : Int) ≤ L[v] ∨ cntI L L[v] ≤ b
          · have := hI.same v h' hc
            rw [List.getElem?_eq_getElem hv, e] at this
            have := Option.some.inj this
            rw [← this] at hc
            rcases hc with hc | hc
            · have := hrg y (by rw [this]; exact List.getElem_mem h'); omega
            · exact hyb hc
          · obtain ⟨z, h1, h2, h3⟩ := hI.new v h' (by omega) (by omega)
            rw [List.getElem?_eq_getElem hv, e] at h1
            have := Option.some.inj h1
            omega
        rw [cntI_none this]; omega
  refine ⟨right_tdy hI.len, fun y => ?_, fun u v hu hv e => ?_⟩
  · have := cntI_tdy (L := o) (bd := (b : Int)) (by omega) (fun y => by have := hsz y; omega) y
    omega
  · have ou : u < o.length := by rw [hI.len]; exact hu
    have ov : v < o.length := by rw [hI.len]; exact hv
    rw [tdy_labN ou ov, lab_get ou, lab_get ov] at e
    rw [lab_get hu, lab_get hv]
    exact hI.fine u v hu hv (by rw [List.getElem?_eq_getElem ou, List.getElem?_eq_getElem ov, e])
end Go.Proofs.Ytkhjckghpakliaa

/- The first example of chapter 9, told; sums of sizes. -/

namespace Go.Proofs.Ytkhjckghpakliaa
open Go Fly
set_option linter.unusedVariables false
set_option linter.unusedSimpArgs false
set_option linter.unusedSectionVars false

/-- The neighbours of a vertex, counted out. -/
def nbC (n : Nat) (l : List Arc) (v : Int) : List Int := ((List.range n).map Int.ofNat).filter fun u => l.any fun x => decide (u ∈ nbr v x)
theorem nbrs_canonC {n : Nat} {l : List Arc} (hg : (gcheck (n : Int) l).2 = 0) (v : Nat) (hv : v < n) : nbrs (v : Int) l = nbC n l v := by
  have h2 : (nbC n l v).Pairwise (· < ·) := by
    unfold nbC
    refine List.Pairwise.filter _ ?_
    rw [List.pairwise_map]
    exact List.pairwise_lt_range.imp fun {a b} h => by show (a : Int) < (b : Int); omega
  have h1 := nbrs_rising v l
  refine List.Perm.eq_of_pairwise (le := (· < ·)) (fun a b _ _ h h' => absurd h (by omega)) h1 h2 ?_
  refine (List.perm_ext_iff_of_nodup (h1.imp fun {a b} h e => by omega) (h2.imp fun {a b} h e => by omega)).2 fun u => ?_
  rw [nbrs_mem]
  unfold nbC
  simp only [List.mem_filter, List.mem_map, List.mem_range, List.any_eq_true, decide_eq_true_eq]
  constructor
  · rintro ⟨x, hx, hu⟩
    have := (nbrs_rngG hg).2 v hv u (nbrs_mem.2 ⟨x, hx, hu⟩)
    exact ⟨⟨u.toNat, by omega, by show ((u.toNat : Nat) : Int) = u; omega⟩, x, hx, hu⟩
  · rintro ⟨_, x, hx, hu⟩; exact ⟨x, hx, hu⟩
theorem bstep_sameC {rows rows' : Nat → List Int} {n : Nat} (h : ∀ v, v < n → rows v = rows' v) {s : BSt} (hI : BInv n s) (k : Nat) : bstep rows k s = bstep rows' k s := by
  unfold bstep
  cases e : s.1[k]? with
  | none => rfl
  | some v =>
    have hv := hI.rng v (List.mem_of_getElem? e)
    simp only
    rw [h _ (by omega)]
theorem bgo_sameC {rows rows' : Nat → List Int} {n : Nat} (h : ∀ v, v < n → rows v = rows' v) (hr : ∀ v, v < n → ∀ u ∈ rows v, 0 ≤ u ∧ u < (n : Int)) {s : BSt} (hI : BInv n s) : ∀ k, bgo rows s k = bgo rows' s k
  | 0 => rfl
  | k + 1 => by
    show bstep rows k (bgo rows s k) = bstep rows' k (bgo rows' s k)
    rw [← bgo_sameC h hr hI k]
    exact bstep_sameC h (BInv.go hr hI k) k
theorem ordGo_sameC {rows rows' : Nat → List Int} {n : Nat} (h : ∀ v, v < n → rows v = rows' v) (hr : ∀ v, v < n → ∀ u ∈ rows v, 0 ≤ u ∧ u < (n : Int)) : ∀ v, v ≤ n → ordGo n rows v = ordGo n rows' v
  | 0, _ => rfl
  | v + 1, hv => by
    have ih := ordGo_sameC h hr v (by omega)
    have hl := (ordGo_len hr v (by omega)).1
    have hb : bfs n rows v (ordGo n rows v).2 = bfs n rows' v (ordGo n rows v).2 := bgo_sameC h hr (BInv.start hl (by omega)) n
    unfold ordGo
    rw [← ih, hb]
def wg9 : List Arc := [⟨0, 1, 0⟩, ⟨1, 2, 0⟩, ⟨2, 3, 0⟩, ⟨3, 4, 0⟩]
theorem wg9Ok : ∀ x ∈ wg9, ArcOk x := by
  intro x hx
  simp only [wg9, List.mem_cons, List.not_mem_nil, or_false] at hx
  rcases hx with rfl | rfl | rfl | rfl <;> exact ⟨⟨by decide, by decide⟩, ⟨by decide, by decide⟩, by decide⟩
theorem w9Ord : cutOrd wg9 [0, 0, 0, 0, 0] 0 = [0, 1, 2, 3, 4] := by
  unfold cutOrd
  rw [show ((cutVs [0, 0, 0, 0, 0] 0).length : Int) = ((5 : Nat) : Int) by decide +kernel, show subArcs (keepL [0, 0, 0, 0, 0] 0) wg9 = wg9 by decide +kernel]
  unfold ordR
  rw [if_neg (by decide), Int.toNat_natCast, ordGo_sameC (rows' := fun v : Nat => nbC 5 wg9 (v : Int)) (fun v hv => nbrs_canonC (n := 5) (l := wg9) (by decide) v hv) (nbrs_rngG (n := 5) (l := wg9) (by decide)).2 5 (Nat.le_refl _)]
  decide +kernel
theorem w9Cut : cutL wg9 [0, 0, 0, 0, 0] 2 = [0, 0, 1, 1, 2] := by
  unfold cutL
  rw [show (maxL [0, 0, 0, 0, 0] + 1).toNat = 1 by decide]
  unfold cutTo
  rw [if_neg (by decide), w9Ord]
  decide +kernel
theorem w9One {L : List Int} {t s : Sm} (hm : s ∈ smL (prs 5 wg9) L 2) (hb : ∀ x ∈ smL (prs 5 wg9) L 2, befI s x ≤ 0) (hd : ((smL (prs 5 wg9) L 2).all fun x => decide (x = t) || (smL (prs 5 wg9) L 2).any fun z => decide (0 < befI x z)) = true) : s = t := by
  have := List.all_eq_true.1 hd s hm
  rw [Bool.or_eq_true] at this
  rcases this with h | h
  · simpa using h
  · obtain ⟨z, hz, h⟩ := List.any_eq_true.1 h
    have := hb z hz
    simp at h; omega
theorem w9Join {R : List Int} (h : JTo 5 wg9 2 [0, 1, 2, 3, 4] R) (hn : smL (prs 5 wg9) R 2 = []) : R = [0, 0, 1, 1, 2] := by
  rcases h.head with rfl | ⟨s, hs, hb, h⟩
  · exact absurd hn (by decide +kernel)
  · obtain rfl := w9One (t := (0, 1, 1)) hs hb (by decide +kernel)
    rw [show tdy (mrg ((0, 1, 1) : Sm).1 ((0, 1, 1) : Sm).2.1 [0, 1, 2, 3, 4]) = [0, 0, 1, 2, 3] by decide +kernel] at h
    rcases h.head with rfl | ⟨s, hs, hb, h⟩
    · exact absurd hn (by decide +kernel)
    · obtain rfl := w9One (t := (1, 2, 1)) hs hb (by decide +kernel)
      rw [show tdy (mrg ((1, 2, 1) : Sm).1 ((1, 2, 1) : Sm).2.1 [0, 0, 1, 2, 3]) = [0, 0, 1, 1, 2] by decide +kernel] at h
      rcases h.head with rfl | ⟨s, hs, hb, h⟩
      · rfl
      · rw [show smL (prs 5 wg9) [0, 0, 1, 1, 2] 2 = [] by decide +kernel] at hs; cases hs
theorem w9SpE : spE 5 wg9 [0, 0, 0, 0, 0] 2 = 0 := by decide +kernel
theorem w9JoinE : joinE 5 wg9 [0, 1, 2, 3, 4] 2 = 0 := by decide +kernel

/-- How many labels are below a number. -/
def blw (L : List Int) (k : Nat) : Nat := (L.filter fun x => decide (0 ≤ x ∧ x < (k : Int))).length
theorem blw_zero (L : List Int) : blw L 0 = 0 := by
  unfold blw
  rw [List.length_eq_zero_iff, List.filter_eq_nil_iff]
  intro x _ h
  simp at h; omega
theorem blw_next (k : Nat) : ∀ L : List Int, blw L (k + 1) = blw L k + cnt L k
  | [] => rfl
  | x :: L => by
    have ih := blw_next k L
    rw [cnt_is] at ih ⊢
    unfold blw cntI at ih ⊢
    simp only [List.filter_cons]
    by_cases h1 : x = (k : Int)
    · rw [if_pos (by simp; omega), if_neg (by simp; omega), if_pos (by simpa using h1)]
      simp only [List.length_cons]; omega
    · rw [if_neg (c := decide (x = (k : Int)) = true) (by simpa using h1)]
      by_cases h2 : 0 ≤ x ∧ x < (k : Int)
      · rw [if_pos (by simp; omega), if_pos (by simpa using h2)]
        simp only [List.length_cons]; omega
      · rw [if_neg (by simp; omega), if_neg (by simpa using h2)]
        exact ih
theorem blw_le (L : List Int) (k : Nat) : blw L k ≤ L.length := List.length_filter_le _ _
theorem blw_all {L : List Int} {k : Nat} (h : ∀ x ∈ L, 0 ≤ x ∧ x < (k : Int)) : blw L k = L.length := by
  unfold blw
  rw [List.filter_eq_self.2 fun x hx => by simpa using h x hx]
theorem lc_zero {N : Int} {l : List Arc} {L : List Int} (hg : (gcheck N l).2 = 0) (hR : rightB N L = true) : (lcount N l L).2 = 0 := by
  unfold lcount
  rw [if_neg (by rw [hg]; simp), if_neg (by rw [hR]; simp)]
theorem spE_one {N : Int} {l : List Arc} {L : List Int} {bd : Int} (hg : (gcheck N l).2 = 0) (hR : rightB N L = true) (hb : 1 ≤ bd ∧ bd ≤ 1024) : spE N l L bd = 0 := by
  unfold spE
  rw [if_neg (by rw [lc_zero hg hR]; simp), if_neg (by omega)]
/-- Of right labels each one is borne. -/
theorem right_cnt {n : Nat} {L : List Int} (hR : rightB (n : Int) L = true) (hn : 1 ≤ n) {j : Nat} (hj : j < (maxL L + 1).toNat) : 1 ≤ cnt L j := by
  have hl := (right_parts hR).2
  have e : L = tdy L := right_unique hR (right_tdy hl) fun u v hu hv => (tdy_labN (by omega) (by omega)).symm
  have hm := max_tdy (L := L) (by omega)
  rw [← e] at hm
  have hjs : j < (sns L).length := by omega
  rw [e, cnt_tdy hjs]
  have hmem : (sns L)[j] ∈ L := by
    have := sns_sub (L := L) (k := L.length) (Nat.le_refl _) (sns L)[j] (by rw [List.take_length]; exact List.getElem_mem _)
    exact this
  have := cntI_pos hmem
  unfold cntI at this
  omega
end Go.Proofs.Ytkhjckghpakliaa

/- flyoverbook: whether lists and graphs are the same. -/
namespace Go.Proofs.Ytkhjckghpakliaa
open Go Go.RowKit Fly
set_option linter.unusedVariables false
set_option linter.unusedSimpArgs false


theorem prefix_next {α : Type} {l r : List α} {k : Nat} (hl : l.length = r.length) (hk : k < l.length) (h : ∀ j (a : j < l.length) (b : j < r.length), j < k → l[j] = r[j]) (e : l[k] = r[k]'(hl ▸ hk)) :
    ∀ j (a : j < l.length) (b : j < r.length), j < k + 1 → l[j] = r[j] := fun j a b hj => by
  by_cases hjk : j = k
  · subst hjk; exact e
  · exact h j a b (by omega)
theorem prefix_all {α : Type} {l r : List α} {k : Nat} (hl : l.length = r.length) (hk : l.length ≤ k) (h : ∀ j (a : j < l.length) (b : j < r.length), j < k → l[j] = r[j]) : l = r :=
  List.ext_getElem hl fun j a b => h j a b (by omega)
theorem ne_at {α : Type} {l r : List α} {k : Nat} (hk : k < l.length) (hk' : k < r.length) (e : l[k] ≠ r[k]) : l ≠ r := fun h => by subst h; exact e rfl

set_option maxRecDepth 100000 in
set_option maxHeartbeats 4000000 in
theorem SameInts_spec (A B : Option Addr) (l r : List Int) (ca cb : Nat) (w : World) (hl : Ro (Fr w []) w A (ints l)) (hr : Ro (Fr w []) w B (ints r)) (hm : l.length ≤ 9223372036854775807) :
    Meets Try.prog 14 [.slice A l.length ca, .slice B r.length cb] w [] (fun u m => u = .bool (decide (l = r)) ∧ m = []) := by
 refine f_enter Try.func14 rfl Try.ntmps14 rfl Owns.nil ?_
 refine f_seq fun K1 kh1 => ?_
 refine f_region ?_
 refine f_stepP rfl rfl rfl (o_assign rfl) ?_
 refine f_done ?_
 refine f_tn (kh1 _ _ ?_)
 clear kh1
 refine f_seq fun K2 kh2 => ?_
 refine f_seq fun K3 kh3 => ?_
 refine f_region ?_
 refine f_stepP rfl rfl rfl (o_move rfl) ?_
 refine f_stepP rfl rfl rfl (o_len sl25 rfl) ?_
 refine f_stepP rfl rfl rfl (o_move rfl) ?_
 refine f_stepP rfl rfl rfl (o_len sl25 rfl) ?_
 refine f_stepP rfl rfl rfl (o_neq rfl rfl) ?_
 refine f_done ?_
 refine f_tn (kh3 _ _ ?_)
 clear kh3
 refine f_cond rfl (fun c10 => ?_) (fun c10 => ?_)
 ·
  refine f_seq fun K4 kh4 => ?_
  refine f_region ?_
  refine f_stepP rfl rfl rfl (o_assign rfl) ?_
  refine f_done ?_
  refine f_tn (kh4 _ _ ?_)
  clear kh4
  refine f_ret ?_
  refine f_tr ?_
  exact f_fin1 [] Try.results14 rfl Sub.nil ⟨by rw [decide_eq_false]; intro e; subst e; omega, rfl⟩
 ·
  have hlr : l.length = r.length := by omega
  refine f_skip ?_
  refine f_tn (kh2 _ _ ?_)
  clear kh2
  refine f_seq fun K5 kh5 => ?_
  refine f_seq fun K6 kh6 => ?_
  refine f_region ?_
  refine f_stepP rfl rfl rfl (o_assign rfl) ?_
  refine f_done ?_
  refine f_tn (kh6 _ _ ?_)
  clear kh6
  refine f_block ?_
  refine f_loopK (α := Nat) [0, 1] (fun k => [(5, .int .i64 (k : Int))]) (fun k => k ≤ l.length ∧ ∀ j (a : j < l.length) (b : j < r.length), j < k → l[j] = r[j]) (fun k => l.length - k) (0) ?_ ?_ ?_
  · exact (by repeat (first | exact trivial | refine ⟨rfl, ?_⟩))
  · exact ⟨by omega, fun j _ _ hj => by omega⟩
  ·
   rintro k ⟨hkl, hpre⟩
   refine f_seq fun K7 kh7 => ?_
   refine f_seq fun K8 kh8 => ?_
   refine f_region ?_
   refine f_stepP rfl rfl rfl (o_move rfl) ?_
   refine f_stepP rfl rfl rfl (o_move rfl) ?_
   refine f_stepP rfl rfl rfl (o_len sl25 rfl) ?_
   refine f_stepP rfl rfl rfl (o_lss rfl rfl) ?_
   refine f_done ?_
   refine f_tn (kh8 _ _ ?_)
   clear kh8
   refine f_cond rfl (fun c14 => ?_) (fun c14 => ?_)
   ·
    refine f_skip ?_
    refine f_tn (kh7 _ _ ?_)
    clear kh7
    refine f_seq fun K9 kh9 => ?_
    refine f_block ?_
    refine f_seq fun K10 kh10 => ?_
    refine f_regionS rfl (by decide +kernel) ?_
    have hk : k < l.length := by omega
    have hk' : k < r.length := by omega
    obtain ⟨b1, o1, rfl, hS1, hc1⟩ := hl (fun e => by have := ints_length l; rw [e] at this; simp at this; omega)
    obtain ⟨b2, o2, rfl, hS2, hc2⟩ := hr (fun e => by have := ints_length r; rw [e] at this; simp at this; omega)
    refine f_stillP rfl rfl rfl (o_move rfl) ?_
    refine f_stillP rfl rfl rfl (o_move rfl) ?_
    refine f_stillP rfl rfl rfl (o_idx sl25 rfl rfl (o1 + k) ⟨by omega, by omega, by first | omega | (simp; done) | (simp; omega)⟩) ?_
    refine f_stillP rfl rfl rfl (o_load Try.isAgg3 rfl (roOne (enc := (.int .i64 ·)) hS1 hc1 hk)) ?_
    refine f_stillP rfl rfl rfl (o_move rfl) ?_
    refine f_stillP rfl rfl rfl (o_move rfl) ?_
    refine f_stillP rfl rfl rfl (o_idx sl25 rfl rfl (o2 + k) ⟨by omega, by omega, by first | omega | (simp; done) | (simp; omega)⟩) ?_
    refine f_stillP rfl rfl rfl (o_load Try.isAgg3 rfl (roOne (enc := (.int .i64 ·)) hS2 hc2 hk')) ?_
    refine f_stillP rfl rfl rfl (o_neq rfl rfl) ?_
    refine f_stillD ?_
    refine f_tn (kh10 _ _ ?_)
    clear kh10
    refine f_cond rfl (fun c25 => ?_) (fun c25 => ?_)
    ·
     refine f_seq fun K11 kh11 => ?_
     refine f_region ?_
     refine f_stepP rfl rfl rfl (o_assign rfl) ?_
     refine f_done ?_
     refine f_tn (kh11 _ _ ?_)
     clear kh11
     refine f_ret ?_
     refine f_br ?_
     refine f_tr ?_
     refine f_tr ?_
     refine f_br ?_
     refine f_tr ?_
     exact f_fin1 [] Try.results14 rfl Sub.nil ⟨by rw [decide_eq_false]; exact ne_at hk hk' c25, rfl⟩
    ·
     refine f_skip ?_
     refine f_bn ?_
     refine f_tn (kh9 _ _ ?_)
     clear kh9
     refine f_region ?_
     refine f_stepP rfl rfl rfl (o_move rfl) ?_
     refine f_stepP rfl rfl rfl (o_add rfl rfl _ (wrap_i64 (by omega))) ?_
     refine f_stepP rfl rfl rfl (o_assign rfl) ?_
     refine f_done ?_
     refine f_tn (f_again (k + 1) (by first | omega | (dsimp only; omega) | (simp; omega)) ⟨by omega, prefix_next hlr hk hpre (by omega)⟩ ?_ ?_ ?_)
     · exact (by repeat (first | exact trivial | refine ⟨rfl, ?_⟩))
     · exact (by repeat (first | exact trivial | refine ⟨rfl, ?_⟩))
     · repeat (first | exact Sub.nil | refine Sub.pick ?_ | refine Sub.castO rfl ?_ | refine Sub.skip ?_)
   ·
    refine f_exit ?_
    refine f_te ?_
    clear kh7
    refine f_te ?_
    refine f_be ?_
    refine f_tn (kh5 _ _ ?_)
    clear kh5
    refine f_seq fun K12 kh12 => ?_
    refine f_region ?_
    refine f_stepP rfl rfl rfl (o_assign rfl) ?_
    refine f_done ?_
    refine f_tn (kh12 _ _ ?_)
    clear kh12
    refine f_ret ?_
    exact f_fin1 [] Try.results14 rfl Sub.nil ⟨by rw [decide_eq_true]; exact prefix_all hlr (by omega) hpre, rfl⟩


set_option maxRecDepth 100000 in
theorem eqArc (x y : Arc) (w : World) : (Op.equalIn 10000 44 (.agg (arcCs x).toArray) (.agg (arcCs y).toArray)).run Try.prog w = .ok (decide (x = y)) w := by
  have hf : Try.prog.fieldsOf 44 = (match Try.prog.underlying 44 with | some (.struct fs) => fs | _ => #[]) := rfl
  rw [Try.underlying44] at hf
  rw [run_equalIn_struct (P := Try.prog) w 9999 44 _ _ (by rw [hf]; exact Try.underlying44) Try.stoodInHeld44, hf]
  obtain ⟨a, b, c⟩ := x
  obtain ⟨a', b', c'⟩ := y
  have ii : ∀ (k k' : IntKind) (p q : Int) (T : TypeId) (v : World), Try.prog.underlying T = some (.int k') → (Op.equalIn 9999 T (.int k p) (.int k q)).run Try.prog v = .ok (p == q) v := fun k k' p q T v h => run_equalIn_int v 9998 T k k' p q h
  simp only [Op.eqFields, arcCs, part, Sem.run_bind, Sem.run_ite, Try.isAgg3, Try.isAgg42, Result.andThen_ok, Sem.run_pure, ne_eq, Bool.false_eq_true, if_false]
  simp [ii _ _ _ _ _ _ Try.underlying3, ii _ _ _ _ _ _ Try.underlying42]
  by_cases h1 : a = a' <;> by_cases h2 : b = b' <;> by_cases h3 : c = c' <;> simp [h1, h2, h3]

end Go.Proofs.Ytkhjckghpakliaa

/- graph.Induced: the graph of some vertices. -/
namespace Go.Proofs.Ytkhjckghpakliaa
open Go Go.RowKit Fly
set_option linter.unusedVariables false
set_option linter.unusedSimpArgs false


def InducedΦ (N : Int) (l : List Arc) (keep : List Bool) (u : Value) (own : List Seg) : Prop :=
  if (gcheck N l).2 ≠ 0 then u = .tuple #[.agg #[.int .i64 0, .slice none 0 0], .slice none 0 0, .slice none 0 0, .int .i64 (gcheck N l).2] ∧ own = []
  else if (keep.length : Int) ≠ N then u = .tuple #[.agg #[.int .i64 0, .slice none 0 0], .slice none 0 0, .slice none 0 0, .int .i64 4] ∧ own = []
  else if (verts keep).length = 0 then u = .tuple #[.agg #[.int .i64 0, .slice none 0 0], .slice none 0 0, .slice none 0 0, .int .i64 5] ∧ own = []
  else ∃ sa sv sl ma mv ml, u = .tuple #[.agg #[.int .i64 (verts keep).length, sa], sv, sl, .int .i64 0] ∧ own = [ma, mv, ml] ∧
    Own 44 3 sa (subArcs keep l).length ((subArcs keep l).flatMap arcCs) ma ∧ Own 3 1 sv (verts keep).length (ints (verts keep)) mv ∧ Own 3 1 sl (idxs (kin keep) l).length (ints (idxs (kin keep) l)) ml

set_option maxRecDepth 100000 in
set_option maxHeartbeats 4000000 in
theorem Induced_spec (N : Int) (A : Option Addr) (l : List Arc) (cap : Nat) (B : Option Addr) (keep : List Bool) (cb : Nat) (w : World) (hr : Ro (Fr w []) w A (l.flatMap arcCs)) (hk : Ro (Fr w []) w B (keep.map .bool)) (hl : l.length ≤ 9223372036854775807) (hN : I64 N) (hok : ∀ x ∈ l, ArcOk x) :
    Meets Try.prog 20 [.agg #[.int .i64 N, .slice A l.length cap], .slice B keep.length cb] w [] (InducedΦ N l keep) := by
 refine f_enter Try.func20 rfl Try.ntmps20 rfl Owns.nil ?_
 refine f_seq fun K1 kh1 => ?_
 refine f_region ?_
 refine f_step rfl rfl rfl (o_box rfl rfl fun b2 => ?_)
 refine f_step rfl rfl rfl (o_alloc Try.zeroValue24 rfl fun b4 => ?_)
 refine f_stepP rfl rfl rfl (o_assign rfl) ?_
 refine f_stepP rfl rfl rfl (o_assign rfl) ?_
 refine f_stepP rfl rfl rfl (o_assign rfl) ?_
 refine f_done ?_
 refine f_tn (kh1 _ _ ?_)
 clear kh1
 refine f_seq fun K2 kh2 => ?_
 refine f_seq fun K3 kh3 => ?_
 refine f_region ?_
 refine f_stepP rfl rfl rfl (o_loadA (vs := [_, _]) Try.isAgg24 Try.sizeOf24 rfl rfl ⟨(rdA rfl), (rdA rfl), trivial⟩) ?_
 refine f_step rfl rfl rfl (o_call Try.call28 rfl (fun w_ hp_ => Check_spec N A l cap w_ (hr.up0 hp_) hl hN hok) ?_)
 rintro _ _ ⟨rfl, rfl⟩
 dsimp only [List.cons_append, List.nil_append]
 refine f_stepP rfl rfl rfl (o_move rfl) ?_
 refine f_stepP rfl rfl rfl (o_extract rfl rfl) ?_
 refine f_stepP rfl rfl rfl (o_extract rfl rfl) ?_
 refine f_stepP rfl rfl rfl (o_assign rfl) ?_
 refine f_stepP rfl rfl rfl (o_assign rfl) ?_
 refine f_done ?_
 refine f_tn (kh3 _ _ ?_)
 clear kh3
 refine f_seq fun K4 kh4 => ?_
 refine f_region ?_
 refine f_stepP rfl rfl rfl (o_move rfl) ?_
 refine f_stepP rfl rfl rfl (o_neq rfl rfl) ?_
 refine f_done ?_
 refine f_tn (kh4 _ _ ?_)
 clear kh4
 refine f_cond rfl (fun c21 => ?_) (fun c21 => ?_)
 ·
  refine f_seq fun K5 kh5 => ?_
  refine f_region ?_
  refine f_stepP rfl rfl rfl (o_build st24 rfl rfl) ?_
  refine f_stepP rfl rfl rfl (o_move rfl) ?_
  refine f_step0 rfl rfl (o_storeA Try.sizeOf24 rfl rfl rfl rfl (by first | exact Nat.le_of_ble_eq_true rfl | (simp; done) | (simp; omega)) _ rfl ?_)
  refine f_stepP rfl rfl rfl (o_assign rfl) ?_
  refine f_stepP rfl rfl rfl (o_assign rfl) ?_
  refine f_stepP rfl rfl rfl (o_assign rfl) ?_
  refine f_done ?_
  refine f_tn (kh5 _ _ ?_)
  clear kh5
  refine f_ret ?_
  refine f_tr ?_
  exact f_finR4 [] Try.results20 (rvA (vs := [.int .i64 0, .slice none 0 0]) Try.isAgg24 Try.sizeOf24 rfl rfl ⟨(rdA rfl), (rdA rfl), trivial⟩) (rv rfl) (rv rfl) (rv rfl) Sub.nil (by unfold InducedΦ; rw [if_pos (by simpa using c21)]; exact ⟨rfl, rfl⟩)
 ·
  have hc0 : (gcheck N l).2 = 0 := by simpa using c21
  obtain ⟨hN1, hN2, hlen, hgood⟩ := gcheck_zero hc0
  refine f_skip ?_
  refine f_tn (kh2 _ _ ?_)
  clear kh2
  refine f_seq fun K6 kh6 => ?_
  refine f_seq fun K7 kh7 => ?_
  refine f_region ?_
  refine f_stepP rfl rfl rfl (o_move rfl) ?_
  refine f_stepP rfl rfl rfl (o_len sl48 rfl) ?_
  refine f_stepP rfl rfl rfl (o_field fa24_0 rfl) ?_
  refine f_stepP rfl rfl rfl (o_load Try.isAgg3 rfl (rdA rfl)) ?_
  refine f_stepP rfl rfl rfl (o_neq rfl rfl) ?_
  refine f_done ?_
  refine f_tn (kh7 _ _ ?_)
  clear kh7
  refine f_cond rfl (fun c28 => ?_) (fun c28 => ?_)
  ·
   refine f_seq fun K8 kh8 => ?_
   refine f_region ?_
   refine f_stepP rfl rfl rfl (o_build st24 rfl rfl) ?_
   refine f_step0 rfl rfl (o_storeA Try.sizeOf24 rfl rfl rfl rfl (by first | exact Nat.le_of_ble_eq_true rfl | (simp; done) | (simp; omega)) _ rfl ?_)
   refine f_stepP rfl rfl rfl (o_assign rfl) ?_
   refine f_stepP rfl rfl rfl (o_assign rfl) ?_
   refine f_stepP rfl rfl rfl (o_assign rfl) ?_
   refine f_done ?_
   refine f_tn (kh8 _ _ ?_)
   clear kh8
   refine f_ret ?_
   refine f_tr ?_
   exact f_finR4 [] Try.results20 (rvA (vs := [.int .i64 0, .slice none 0 0]) Try.isAgg24 Try.sizeOf24 rfl rfl ⟨(rdA rfl), (rdA rfl), trivial⟩) (rv rfl) (rv rfl) (rv rfl) Sub.nil (by unfold InducedΦ; rw [if_neg (by simpa using c21), if_pos (by omega)]; exact ⟨rfl, rfl⟩)
  ·
   have hkN : (keep.length : Int) = N := by omega
   refine f_skip ?_
   refine f_tn (kh6 _ _ ?_)
   clear kh6
   refine f_seq fun K9 kh9 => ?_
   refine f_region ?_
   refine f_step rfl rfl rfl (o_makeMap fun b30 => ?_)
   refine f_stepP rfl rfl rfl (o_assign rfl) ?_
   refine f_done ?_
   refine f_tn (kh9 _ _ ?_)
   clear kh9
   refine f_seq fun K10 kh10 => ?_
   refine f_seq fun K11 kh11 => ?_
   refine f_region ?_
   refine f_stepP rfl rfl rfl (o_move rfl) ?_
   refine f_stepP rfl rfl rfl (o_len sl48 rfl) ?_
   refine f_stepP rfl rfl rfl (o_move rfl) ?_
   refine f_done ?_
   refine f_tn (kh11 _ _ ?_)
   clear kh11
   refine f_block ?_
   refine f_loop (α := Nat × List (Int × Value × Nat) × Nat × Value × Seg) [1, 2, 4, 6, 10, 31, 32] (fun ⟨k, ents, clk, v5, m5⟩ => [(33, .int .i64 (k : Int)), (5, v5)]) (fun ⟨k, ents, clk, v5, m5⟩ => [[(b30, mobj (fun x : Int => .int .i64 x) ents clk)], m5, [(b2, blk [.int .i64 N, .slice A l.length cap] 24)], [(b4, blk [.int .i64 0, .slice none 0 0] 24)]]) (fun ⟨k, ents, clk, v5, m5⟩ => k ≤ keep.length ∧ Own 3 1 v5 (verts (keep.take k)).length (ints (verts (keep.take k))) m5 ∧ Numbers ents keep k) (fun ⟨k, ents, clk, v5, m5⟩ => keep.length - k) (0, [], 0, .slice none 0 0, []) ?_ ?_ ?_ ?_
   · exact (by repeat (first | exact trivial | refine ⟨rfl, ?_⟩))
   · repeat (first | exact Sub.nil | refine Sub.pick ?_ | refine Sub.castO rfl ?_ | refine Sub.skip ?_)
   · exact ⟨by omega, Own.nil _ _, numbers_start keep⟩
   ·
    rintro ⟨k, ents, clk, v5, m5⟩ ⟨hk0, ho5, hnum⟩
    obtain ⟨A5, cap5, rfl, hc5⟩ := ho5.val
    have hvl := verts_take_le keep k
    refine f_seq fun K12 kh12 => ?_
    refine f_region ?_
    refine f_stepP rfl rfl rfl (o_lss rfl rfl) ?_
    refine f_done ?_
    refine f_tn (kh12 _ _ ?_)
    clear kh12
    refine f_seq fun K13 kh13 => ?_
    refine f_cond rfl (fun c34 => ?_) (fun c34 => ?_)
    ·
     refine f_skip ?_
     refine f_tn (kh13 _ _ ?_)
     clear kh13
     refine f_seq fun K14 kh14 => ?_
     refine f_block ?_
     refine f_seq fun K15 kh15 => ?_
     refine f_region ?_
     refine f_stepP rfl rfl rfl (o_move rfl) ?_
     have hkk : k < keep.length := by omega
     obtain ⟨bk, ok, rfl, hSk, hck⟩ := hk (map_ne hkk)
     refine f_stepP rfl rfl rfl (o_idx sl48 rfl rfl (ok + k) ⟨by omega, by omega, by first | omega | (simp; done) | (simp; omega)⟩) ?_
     refine f_stepP rfl rfl rfl (o_load Try.isAgg4 rfl (roOne (enc := Value.bool) hSk hck hkk)) ?_
     refine f_stepP rfl rfl rfl (o_assign rfl) ?_
     refine f_stepP rfl rfl rfl (o_assign rfl) ?_
     refine f_done ?_
     refine f_tn (kh15 _ _ ?_)
     clear kh15
     refine f_seq fun K16 kh16 => ?_
     refine f_region ?_
     refine f_stepP rfl rfl rfl (o_move rfl) ?_
     refine f_done ?_
     refine f_tn (kh16 _ _ ?_)
     clear kh16
     refine f_condB rfl (fun c38 => ?_) (fun c38 => ?_)
     ·
      refine f_seq fun K17 kh17 => ?_
      refine f_region ?_
      refine f_stepP rfl rfl rfl (o_move rfl) ?_
      refine f_stepP rfl rfl rfl (o_move rfl) ?_
      refine f_stepP rfl rfl rfl (o_move rfl) ?_
      refine f_stepP rfl rfl rfl (o_len sl25 rfl) ?_
      refine f_step0 rfl rfl (o_mapUpdate kt66 rfl rfl rfl rfl ?_)
      refine f_done ?_
      refine f_tn (kh17 _ _ ?_)
      clear kh17
      refine f_region ?_
      refine f_stepP rfl rfl rfl (o_move rfl) ?_
      refine f_stepP rfl rfl rfl (o_move rfl) ?_
      refine f_step rfl rfl rfl (o_slice1 el25 (by omega) rfl rfl rfl fun b45 => ?_)
      refine f_step rfl rfl rfl (o_append el25 rfl rfl ho5 (ys := [.int .i64 (k : Int)]) ⟨(rdA rfl), trivial⟩ rfl rfl (by omega) (by omega) fun v46 m46 o46 => ?_)
      refine f_stepP rfl rfl rfl (o_assign rfl) ?_
      refine f_done ?_
      refine f_bn ?_
      refine f_tn (kh14 _ _ ?_)
      clear kh14
      refine f_region ?_
      refine f_stepP rfl rfl rfl (o_add rfl rfl _ (wrap_i64 (by omega))) ?_
      refine f_stepP rfl rfl rfl (o_move rfl) ?_
      refine f_done ?_
      refine f_tn (f_again (k + 1, mput ents (k : Int) (.int .i64 ((verts (keep.take k)).length : Int)) clk, mclock ents (k : Int) clk, v46, m46) (by first | omega | (dsimp only; omega) | (simp; omega)) ⟨by omega, by rw [verts_yes hkk (by simpa using c38), ints_append, List.length_append]; exact o46, numbers_yes hkk hnum (by simpa using c38)⟩ ?_ ?_ ?_)
      · exact (by repeat (first | exact trivial | refine ⟨rfl, ?_⟩))
      · exact (by repeat (first | exact trivial | refine ⟨rfl, ?_⟩))
      · repeat (first | exact Sub.nil | refine Sub.pick ?_ | refine Sub.castO rfl ?_ | refine Sub.skip ?_)
     ·
      refine f_skip ?_
      refine f_bn ?_
      refine f_tn (kh14 _ _ ?_)
      clear kh14
      refine f_region ?_
      refine f_stepP rfl rfl rfl (o_add rfl rfl _ (wrap_i64 (by omega))) ?_
      refine f_stepP rfl rfl rfl (o_move rfl) ?_
      refine f_done ?_
      refine f_tn (f_again (k + 1, ents, clk, _, m5) (by first | omega | (dsimp only; omega) | (simp; omega)) ⟨by omega, by rw [verts_no hkk (by simpa using c38)]; exact ho5, numbers_no hkk hnum (by simpa using c38)⟩ ?_ ?_ ?_)
      · exact (by repeat (first | exact trivial | refine ⟨rfl, ?_⟩))
      · exact (by repeat (first | exact trivial | refine ⟨rfl, ?_⟩))
      · repeat (first | exact Sub.nil | refine Sub.pick ?_ | refine Sub.castO rfl ?_ | refine Sub.skip ?_)
    ·
     refine f_exit ?_
     refine f_te ?_
     clear kh13
     refine f_te ?_
     refine f_be ?_
     refine f_tn (kh10 _ _ ?_)
     clear kh10
     refine f_seq fun K18 kh18 => ?_
     refine f_seq fun K19 kh19 => ?_
     refine f_region ?_
     refine f_stepP rfl rfl rfl (o_move rfl) ?_
     refine f_stepP rfl rfl rfl (o_len sl25 rfl) ?_
     refine f_stepP rfl rfl rfl (o_eql rfl rfl) ?_
     refine f_done ?_
     refine f_tn (kh19 _ _ ?_)
     clear kh19
     refine f_cond rfl (fun c50 => ?_) (fun c50 => ?_)
     ·
      refine f_seq fun K20 kh20 => ?_
      refine f_region ?_
      refine f_stepP rfl rfl rfl (o_build st24 rfl rfl) ?_
      refine f_step0 rfl rfl (o_storeA Try.sizeOf24 rfl rfl rfl rfl (by first | exact Nat.le_of_ble_eq_true rfl | (simp; done) | (simp; omega)) _ rfl ?_)
      refine f_stepP rfl rfl rfl (o_assign rfl) ?_
      refine f_stepP rfl rfl rfl (o_assign rfl) ?_
      refine f_stepP rfl rfl rfl (o_assign rfl) ?_
      refine f_done ?_
      refine f_tn (kh20 _ _ ?_)
      clear kh20
      refine f_ret ?_
      refine f_tr ?_
      exact f_finR4 [] Try.results20 (rvA (vs := [.int .i64 0, .slice none 0 0]) Try.isAgg24 Try.sizeOf24 rfl rfl ⟨(rdA rfl), (rdA rfl), trivial⟩) (rv rfl) (rv rfl) (rv rfl) Sub.nil (by unfold InducedΦ; rw [if_neg (by simpa using c21), if_neg (by omega), if_pos (by rw [verts_all (by omega)] at c50; omega)]; exact ⟨rfl, rfl⟩)
     ·
      have hne : ¬ (verts keep).length = 0 := by rw [verts_all (by omega)] at c50; omega
      refine f_skip ?_
      refine f_tn (kh18 _ _ ?_)
      clear kh18
      refine f_seq fun K21 kh21 => ?_
      refine f_region ?_
      refine f_stepP rfl rfl rfl (o_move rfl) ?_
      refine f_stepP rfl rfl rfl (o_len sl25 rfl) ?_
      refine f_stepP rfl rfl rfl (o_field fa24_0 rfl) ?_
      refine f_step0 rfl rfl (o_store Try.sizeOf3 rfl rfl rfl rfl (by first | exact Nat.le_of_ble_eq_true rfl | (simp; done) | (simp; omega)) _ rfl ?_)
      refine f_done ?_
      refine f_tn (kh21 _ _ ?_)
      clear kh21
      refine f_seq fun K22 kh22 => ?_
      refine f_seq fun K23 kh23 => ?_
      have hnum2 : ∀ j (h : j < keep.length), keep[j] = true → mget ents (j : Int) = some (.int .i64 (vrank keep j : Int)) := fun j h hj => hnum j h (by omega) hj
      refine f_region ?_
      refine f_stepP rfl rfl rfl (o_field fa24_1 rfl) ?_
      refine f_stepP rfl rfl rfl (o_load Try.isAgg22 rfl (rdA rfl)) ?_
      refine f_stepP rfl rfl rfl (o_len sl22 rfl) ?_
      refine f_stepP rfl rfl rfl (o_move rfl) ?_
      refine f_done ?_
      refine f_tn (kh23 _ _ ?_)
      clear kh23
      refine f_block ?_
      refine f_loop (α := Nat × Value × Seg × Value × Seg) [1, 4, 5, 10, 56, 57] (fun ⟨i, sa, ma, v6, m6⟩ => [(58, .int .i64 (i : Int)), (6, v6)]) (fun ⟨i, sa, ma, v6, m6⟩ => [[(b4, blk [.int .i64 (verts (keep.take k)).length, sa] 24)], ma, m6, m5, [(b30, mobj (fun x : Int => .int .i64 x) ents clk)], [(b2, blk [.int .i64 N, .slice A l.length cap] 24)]]) (fun ⟨i, sa, ma, v6, m6⟩ => i ≤ l.length ∧ Own 44 3 sa (subArcs keep (l.take i)).length ((subArcs keep (l.take i)).flatMap arcCs) ma ∧ Own 3 1 v6 (idxs (kin keep) (l.take i)).length (ints (idxs (kin keep) (l.take i))) m6) (fun ⟨i, sa, ma, v6, m6⟩ => l.length - i) (0, .slice none 0 0, [], .slice none 0 0, []) ?_ ?_ ?_ ?_
      · exact (by repeat (first | exact trivial | refine ⟨rfl, ?_⟩))
      · repeat (first | exact Sub.nil | refine Sub.pick ?_ | refine Sub.castO rfl ?_ | refine Sub.skip ?_)
      · exact ⟨by omega, Own.nil _ _, Own.nil _ _⟩
      ·
       rintro ⟨i, sa, ma, v6, m6⟩ ⟨hi0, hoa, ho6⟩
       have hl1 := sub_take_le keep l i
       have hl2 := idxs_take_le (kin keep) l i
       obtain ⟨Aa, capa, rfl, hca⟩ := hoa.val
       obtain ⟨A6, cap6, rfl, hc6⟩ := ho6.val
       refine f_envC (e := [(58, _), (6, _), (1, _), (4, _), (5, _), (10, _), (56, _), (57, _)]) (by repeat (first | exact trivial | refine ⟨rfl, ?_⟩)) ?_
       refine f_seq fun K24 kh24 => ?_
       refine f_region ?_
       refine f_stepP rfl rfl rfl (o_lss rfl rfl) ?_
       refine f_done ?_
       refine f_tn (kh24 _ _ ?_)
       clear kh24
       refine f_seq fun K25 kh25 => ?_
       refine f_cond rfl (fun c59 => ?_) (fun c59 => ?_)
       ·
        refine f_skip ?_
        refine f_tn (kh25 _ _ ?_)
        clear kh25
        refine f_seq fun K26 kh26 => ?_
        refine f_block ?_
        refine f_seq fun K27 kh27 => ?_
        refine f_region ?_
        refine f_stepP rfl rfl rfl (o_move rfl) ?_
        have hii : i < l.length := by omega
        obtain ⟨bl, off, rfl, hS, hc⟩ := hr (flat_ne arcCs arcCs_len (by omega) hii)
        obtain ⟨hs0, hs1, hd0, hd1⟩ := hgood i hii
        have hsr : l[i].src.toNat < keep.length := by omega
        have hds : l[i].dst.toNat < keep.length := by omega
        obtain ⟨bk, ok, rfl, hSk, hck⟩ := hk (map_ne hsr)
        refine f_stepP rfl rfl rfl (o_idx sl22 rfl rfl (off + i * 3) ⟨by omega, by omega, by first | omega | (simp; done) | (simp; omega)⟩) ?_
        refine f_stepP rfl rfl rfl (o_loadA (vs := arcCs l[i]) Try.isAgg44 Try.sizeOf44 rfl rfl (roElem arcCs_len hS hc hii)) ?_
        refine f_step rfl rfl rfl (o_alloc Try.zeroValue44 rfl fun b14 => ?_)
        refine f_stepP rfl rfl rfl (o_assign rfl) ?_
        refine f_step0 rfl rfl (o_storeA Try.sizeOf44 rfl rfl rfl rfl (by first | exact Nat.le_of_ble_eq_true rfl | (simp; done) | (simp; omega)) _ rfl ?_)
        refine f_done ?_
        refine f_tn (kh27 _ _ ?_)
        clear kh27
        refine f_seq fun K28 kh28 => ?_
        refine f_region ?_
        refine f_stepP rfl rfl rfl (o_move rfl) ?_
        refine f_stepP rfl rfl rfl (o_field fa44_0 rfl) ?_
        refine f_stepP rfl rfl rfl (o_load Try.isAgg3 rfl (rdA rfl)) ?_
        refine f_stepP rfl rfl rfl (o_idx sl48 rfl rfl (ok + l[i].src.toNat) ⟨by omega, by omega, by first | omega | (simp; done) | (simp; omega)⟩) ?_
        refine f_stepP rfl rfl rfl (o_load Try.isAgg4 rfl (roOne (enc := Value.bool) hSk hck hsr)) ?_
        refine f_stepP rfl rfl rfl (o_move rfl) ?_
        refine f_splitLB 68 rfl (fun g68 => ?_) (fun g68 => ?_)
        ·
         refine f_stepPY rfl rfl rfl rfl rfl (o_move rfl) ?_
         refine f_stepPY rfl rfl rfl rfl rfl (o_field fa44_1 rfl) ?_
         refine f_stepPY rfl rfl rfl rfl rfl (o_load Try.isAgg3 rfl (rdA rfl)) ?_
         refine f_stepPY rfl rfl rfl rfl rfl (o_idx sl48 rfl rfl (ok + l[i].dst.toNat) ⟨by omega, by omega, by first | omega | (simp; done) | (simp; omega)⟩) ?_
         refine f_stepPY rfl rfl rfl rfl rfl (o_load Try.isAgg4 rfl (roOne (enc := Value.bool) hSk hck hds)) ?_
         refine f_stepP rfl rfl rfl (o_pickT rfl rfl) ?_
         refine f_done ?_
         refine f_tn (kh28 _ _ ?_)
         clear kh28
         refine f_condB rfl (fun c74 => ?_) (fun c74 => ?_)
         ·
          have hkin : kin keep l[i] = true := by rw [kin_get hsr hds, g68, c74]; rfl
          refine f_seq fun K29 kh29 => ?_
          refine f_region ?_
          refine f_stepP rfl rfl rfl (o_field fa24_1 rfl) ?_
          refine f_stepP rfl rfl rfl (o_load Try.isAgg22 rfl (rdA rfl)) ?_
          refine f_stepP rfl rfl rfl (o_move rfl) ?_
          refine f_stepP rfl rfl rfl (o_field fa44_0 rfl) ?_
          refine f_stepP rfl rfl rfl (o_load Try.isAgg3 rfl (rdA rfl)) ?_
          refine f_stepP rfl rfl rfl (o_lookup kt66 Try.zeroValue3 rfl rfl rfl (.int .i64 (vrank keep l[i].src.toNat : Int)) (by rw [look_num hnum2 hs0 hsr g68])) ?_
          refine f_stepP rfl rfl rfl (o_move rfl) ?_
          refine f_stepP rfl rfl rfl (o_field fa44_1 rfl) ?_
          refine f_stepP rfl rfl rfl (o_load Try.isAgg3 rfl (rdA rfl)) ?_
          refine f_stepP rfl rfl rfl (o_lookup kt66 Try.zeroValue3 rfl rfl rfl (.int .i64 (vrank keep l[i].dst.toNat : Int)) (by rw [look_num hnum2 hd0 hds (by simpa using c74)])) ?_
          refine f_stepP rfl rfl rfl (o_field fa44_2 rfl) ?_
          refine f_stepP rfl rfl rfl (o_load Try.isAgg42 rfl (rdA rfl)) ?_
          refine f_stepP rfl rfl rfl (o_build (cs := arcCs (subArc keep l[i])) st44 rfl rfl) ?_
          refine f_step rfl rfl rfl (o_slice1 el22 (by omega) rfl rfl rfl fun b88 => ?_)
          refine f_step rfl rfl rfl (o_append el22 rfl rfl hoa (ys := arcCs (subArc keep l[i])) ⟨(rdA rfl), (rdA rfl), (rdA rfl), trivial⟩ rfl rfl (by omega) (by omega) fun v89 m89 o89 => ?_)
          obtain ⟨A89, cap89, rfl, _⟩ := o89.val
          refine f_stepP rfl rfl rfl (o_field fa24_1 rfl) ?_
          refine f_step0 rfl rfl (o_store Try.sizeOf22 rfl rfl rfl rfl (by first | exact Nat.le_of_ble_eq_true rfl | (simp; done) | (simp; omega)) _ rfl ?_)
          refine f_done ?_
          refine f_tn (kh29 _ _ ?_)
          clear kh29
          refine f_region ?_
          refine f_stepP rfl rfl rfl (o_move rfl) ?_
          refine f_stepP rfl rfl rfl (o_move rfl) ?_
          refine f_step rfl rfl rfl (o_slice1 el25 (by omega) rfl rfl rfl fun b93 => ?_)
          refine f_step rfl rfl rfl (o_append el25 rfl rfl ho6 (ys := [.int .i64 (i : Int)]) ⟨(rdA rfl), trivial⟩ rfl rfl (by omega) (by omega) fun v94 m94 o94 => ?_)
          refine f_stepP rfl rfl rfl (o_assign rfl) ?_
          refine f_done ?_
          refine f_bn ?_
          refine f_tn (kh26 _ _ ?_)
          clear kh26
          refine f_region ?_
          refine f_stepP rfl rfl rfl (o_add rfl rfl _ (wrap_i64 (by omega))) ?_
          refine f_stepP rfl rfl rfl (o_move rfl) ?_
          refine f_done ?_
          refine f_tn (f_again (i + 1, _, m89, v94, m94) (by first | omega | (dsimp only; omega) | (simp; omega)) ⟨by omega, by rw [sub_yes hii hkin, List.flatMap_append, List.length_append]; simpa using o89, by rw [idxs_yes hii hkin, ints_append, List.length_append]; exact o94⟩ ?_ ?_ ?_)
          · exact (by repeat (first | exact trivial | refine ⟨rfl, ?_⟩))
          · exact (by repeat (first | exact trivial | refine ⟨rfl, ?_⟩))
          · repeat (first | exact Sub.nil | refine Sub.pick ?_ | refine Sub.castO rfl ?_ | refine Sub.skip ?_)
         ·
          have hkin : kin keep l[i] = false := by rw [kin_get hsr hds, g68, c74]; rfl
          refine f_skip ?_
          refine f_bn ?_
          refine f_tn (kh26 _ _ ?_)
          clear kh26
          refine f_region ?_
          refine f_stepP rfl rfl rfl (o_add rfl rfl _ (wrap_i64 (by omega))) ?_
          refine f_stepP rfl rfl rfl (o_move rfl) ?_
          refine f_done ?_
          refine f_tn (f_again (i + 1, _, ma, _, m6) (by first | omega | (dsimp only; omega) | (simp; omega)) ⟨by omega, by rw [sub_no hii hkin]; exact hoa, by rw [idxs_no hii hkin]; exact ho6⟩ ?_ ?_ ?_)
          · exact (by repeat (first | exact trivial | refine ⟨rfl, ?_⟩))
          · exact (by repeat (first | exact trivial | refine ⟨rfl, ?_⟩))
          · repeat (first | exact Sub.nil | refine Sub.pick ?_ | refine Sub.castO rfl ?_ | refine Sub.skip ?_)
        ·
         have hkin : kin keep l[i] = false := by rw [kin_get hsr hds, g68]; rfl
         refine f_stepN rfl rfl rfl rfl rfl rfl ?_
         refine f_stepN rfl rfl rfl rfl rfl rfl ?_
         refine f_stepN rfl rfl rfl rfl rfl rfl ?_
         refine f_stepN rfl rfl rfl rfl rfl rfl ?_
         refine f_stepN rfl rfl rfl rfl rfl rfl ?_
         refine f_stepP rfl rfl rfl (o_pickF rfl rfl) ?_
         refine f_done ?_
         refine f_tn (kh28 _ _ ?_)
         clear kh28
         refine f_condF rfl ?_
         refine f_skip ?_
         refine f_bn ?_
         refine f_tn (kh26 _ _ ?_)
         clear kh26
         refine f_region ?_
         refine f_stepP rfl rfl rfl (o_add rfl rfl _ (wrap_i64 (by omega))) ?_
         refine f_stepP rfl rfl rfl (o_move rfl) ?_
         refine f_done ?_
         refine f_tn (f_again (i + 1, _, ma, _, m6) (by first | omega | (dsimp only; omega) | (simp; omega)) ⟨by omega, by rw [sub_no hii hkin]; exact hoa, by rw [idxs_no hii hkin]; exact ho6⟩ ?_ ?_ ?_)
         · exact (by repeat (first | exact trivial | refine ⟨rfl, ?_⟩))
         · exact (by repeat (first | exact trivial | refine ⟨rfl, ?_⟩))
         · repeat (first | exact Sub.nil | refine Sub.pick ?_ | refine Sub.castO rfl ?_ | refine Sub.skip ?_)
       ·
        refine f_exit ?_
        refine f_te ?_
        clear kh25
        refine f_te ?_
        refine f_be ?_
        refine f_tn (kh22 _ _ ?_)
        clear kh22
        refine f_seq fun K30 kh30 => ?_
        refine f_region ?_
        refine f_stepP rfl rfl rfl (o_loadA (vs := [_, _]) Try.isAgg24 Try.sizeOf24 rfl rfl ⟨(rdA rfl), (rdA rfl), trivial⟩) ?_
        refine f_stepP rfl rfl rfl (o_move rfl) ?_
        refine f_stepP rfl rfl rfl (o_move rfl) ?_
        refine f_step0 rfl rfl (o_storeA Try.sizeOf24 rfl rfl rfl rfl (by first | exact Nat.le_of_ble_eq_true rfl | (simp; done) | (simp; omega)) _ rfl ?_)
        refine f_stepP rfl rfl rfl (o_assign rfl) ?_
        refine f_stepP rfl rfl rfl (o_assign rfl) ?_
        refine f_stepP rfl rfl rfl (o_assign rfl) ?_
        refine f_done ?_
        refine f_tn (kh30 _ _ ?_)
        clear kh30
        refine f_ret ?_
        have et : l.take i = l := List.take_of_length_le (by omega)
        rw [et] at hoa ho6
        have ev := verts_all (keep := keep) (k := k) (by omega)
        rw [ev] at ho5
        exact f_finR4 [ma, m5, m6] Try.results20 (rvA (vs := [.int .i64 (verts (keep.take k)).length, .slice Aa (subArcs keep (l.take i)).length capa]) Try.isAgg24 Try.sizeOf24 rfl rfl ⟨(rdA rfl), (rdA rfl), trivial⟩) (rv rfl) (rv rfl) (rv rfl) (by repeat (first | exact Sub.nil | refine Sub.pick ?_)) (by unfold InducedΦ; rw [if_neg (by simpa using c21), if_neg (by omega), if_neg hne]; exact ⟨_, _, _, _, _, _, by rw [ev, et], rfl, hoa, ho5, ho6⟩)

end Go.Proofs.Ytkhjckghpakliaa

/- slices.Chunk over numbers, and the function that it hands back. -/
namespace Go.Proofs.Ytkhjckghpakliaa
open Go Go.RowKit Fly
set_option linter.unusedVariables false
set_option linter.unusedSimpArgs false


abbrev ckSegs (bs bn bo len cap bd : Nat) : List Seg := [[(bs, blk [.slice (some ⟨bo, 0, none⟩) len cap] 25)], [(bn, blk [.int .i64 (bd : Int)] 3)]]
abbrev ckEnc (bo len bd : Nat) (y : Nat) : Value := .slice (some ⟨bo, y, none⟩) (min bd (len - y)) (min bd (len - y))
def ckMay (len bd : Nat) (ys : List Nat) (y : Nat) : Prop := y = ys.length * bd ∧ ys.length * bd < len
def ckFin (bs bn bo len cap bd : Nat) (ys : List Nat) (o : List Seg) : Prop := len ≤ ys.length * bd ∧ o = ckSegs bs bn bo len cap bd
def ckStp (bs bn bo len cap bd : Nat) (ys : List Nat) (o : List Seg) : Prop := o = ckSegs bs bn bo len cap bd

set_option maxRecDepth 100000 in
set_option maxHeartbeats 4000000 in
theorem Chunk_spec (bo len cap bd : Nat) (w : World) (h : 0 < bd) :
    Meets Try.prog 22 [.slice (some ⟨bo, 0, none⟩) len cap, .int .i64 (bd : Int)] w [] (fun u own' => ∃ bs bn, u = .func (.func 34) #[] #[.pointer (some ⟨bs, 0, none⟩), .pointer (some ⟨bn, 0, none⟩)] ∧ own' = ckSegs bs bn bo len cap bd) := by
 refine f_enter Try.func22 rfl Try.ntmps22 rfl Owns.nil ?_
 refine f_seq fun K1 kh1 => ?_
 refine f_region ?_
 refine f_step rfl rfl rfl (o_box rfl rfl fun b2 => ?_)
 refine f_step rfl rfl rfl (o_box rfl rfl fun b3 => ?_)
 refine f_stepP rfl rfl rfl (o_assign rfl) ?_
 refine f_done ?_
 refine f_tn (kh1 _ _ ?_)
 clear kh1
 refine f_seq fun K2 kh2 => ?_
 refine f_seq fun K3 kh3 => ?_
 refine f_region ?_
 refine f_stepP rfl rfl rfl (o_load Try.isAgg3 rfl (rdA rfl)) ?_
 refine f_stepP rfl rfl rfl (o_lss rfl rfl) ?_
 refine f_done ?_
 refine f_tn (kh3 _ _ ?_)
 clear kh3
 refine f_condN rfl (by omega) ?_
 refine f_skip ?_
 refine f_tn (kh2 _ _ ?_)
 clear kh2
 refine f_seq fun K4 kh4 => ?_
 refine f_region ?_
 refine f_stepP rfl rfl rfl (o_func rfl rfl) ?_
 refine f_stepP rfl rfl rfl (o_assign rfl) ?_
 refine f_done ?_
 refine f_tn (kh4 _ _ ?_)
 clear kh4
 refine f_ret ?_
 exact f_fin1 (ckSegs b2 b3 bo len cap bd) Try.results22 rfl (by repeat (first | exact Sub.nil | refine Sub.pick ?_ | refine Sub.castO rfl ?_ | refine Sub.skip ?_)) ⟨b2, b3, rfl, rfl⟩

set_option maxRecDepth 100000 in
set_option maxHeartbeats 4000000 in
theorem Chunk1_iter (bs bn bo len cap bd : Nat) (m0 : Seg) (w : World) (h : 0 < bd ∧ bd ≤ 1000000) (hl : len ≤ 1000000) (hc : len ≤ cap ∧ cap ≤ 9223372036854775807) :
    IterAt Try.prog 34 [.pointer (some ⟨bs, 0, none⟩), .pointer (some ⟨bn, 0, none⟩)] (ckSegs bs bn bo len cap bd) (ckEnc bo len bd) (ckMay len bd) (ckFin bs bn bo len cap bd) (ckStp bs bn bo len cap bd) m0 w := by
 intro l_ J Jx hJ0 hown hY
 refine r_enter Try.func34 rfl Try.ntmps34 rfl hown ?_
 refine r_seq fun K1 kh1 => ?_
 refine r_region ?_
 refine r_stepP rfl rfl rfl rfl (o_assign rfl) ?_
 refine r_done ?_
 refine r_tn (kh1 _ _ _ ?_)
 clear kh1
 refine r_block ?_
 refine r_loop (α := Nat × List Nat × Seg) (fun ⟨p, ys, mJ⟩ => []) [0, 1, 2] (fun ⟨p, ys, mJ⟩ => [(4, .int .i64 (p : Int))]) (fun ⟨p, ys, mJ⟩ => [mJ, [(bs, blk [.slice (some ⟨bo, 0, none⟩) len cap] 25)], [(bn, blk [.int .i64 (bd : Int)] 3)]]) (fun ⟨p, ys, mJ⟩ => p = ys.length * bd ∧ p < len + bd ∧ J ys mJ) (fun ⟨p, ys, mJ⟩ => len + bd - p) (0, [], m0) rfl ?_ ?_ ?_ ?_
 · exact (by repeat (first | exact trivial | refine ⟨rfl, ?_⟩))
 · repeat (first | exact Sub.nil | refine Sub.pick ?_ | refine Sub.castO rfl ?_ | refine Sub.skip ?_)
 · exact ⟨by simp, by omega, hJ0⟩
 ·
  rintro ⟨p, ys, mJ⟩ ⟨hp, hpl, hJ⟩
  dsimp only
  refine r_seq fun K2 kh2 => ?_
  refine r_seq fun K3 kh3 => ?_
  refine r_region ?_
  refine r_stepP rfl rfl rfl rfl (o_move rfl) ?_
  refine r_stepP rfl rfl rfl rfl (o_load Try.isAgg25 rfl (rdA rfl)) ?_
  refine r_stepP rfl rfl rfl rfl (o_len sl25 rfl) ?_
  refine r_stepP rfl rfl rfl rfl (o_lss rfl rfl) ?_
  refine r_done ?_
  refine r_tn (kh3 _ _ _ ?_)
  clear kh3
  refine r_cond rfl (fun c9 => ?_) (fun c9 => ?_)
  ·
   have hpn : p < len := by omega
   refine r_skip ?_
   refine r_tn (kh2 _ _ _ ?_)
   clear kh2
   refine r_seq fun K4 kh4 => ?_
   refine r_block ?_
   refine r_seq fun K5 kh5 => ?_
   refine r_old ?_
   refine f_regionT 6 rfl (by decide +kernel) ?_
   refine f_stillP rfl rfl rfl (o_load Try.isAgg3 rfl (rdA rfl)) ?_
   refine f_stillP rfl rfl rfl (o_load Try.isAgg25 rfl (rdA rfl)) ?_
   refine f_stillP rfl rfl rfl (o_move rfl) ?_
   refine f_stillP rfl rfl rfl (o_slice sl25 rfl rfl rfl rfl (fun h => by cases h) p _ _ (.inr ⟨_, _, rfl, by omega⟩) (.inl ⟨rfl, rfl⟩) (.inl ⟨rfl, rfl⟩) ⟨by omega, by omega, by omega⟩ (.slice (some ⟨bo, p, none⟩) (len - p) (cap - p)) (by rw [if_neg (by omega)]; simp [add_at])) ?_
   refine f_stillP rfl rfl rfl (o_len sl25 rfl) ?_
   refine f_stillP rfl rfl rfl (o_min rfl rfl) ?_
   refine f_stillD (f_tail ?_)
   refine f_stepP rfl rfl rfl (o_assign rfl) ?_
   refine f_done ?_
   refine r_new ?_
   refine r_tn (kh5 _ _ _ ?_)
   clear kh5
   refine r_seq fun K6 kh6 => ?_
   refine r_region ?_
   refine r_stepP rfl rfl rfl rfl (o_move rfl) ?_
   refine r_stepP rfl rfl rfl rfl (o_load Try.isAgg25 rfl (rdA rfl)) ?_
   refine r_stepP rfl rfl rfl rfl (o_move rfl) ?_
   refine r_stepP rfl rfl rfl rfl (o_move rfl) ?_
   refine r_stepP rfl rfl rfl rfl (o_move rfl) ?_
   refine r_stepP rfl rfl rfl rfl (o_add rfl rfl _ (wrap_i64 (by omega))) ?_
   refine r_stepP rfl rfl rfl rfl (o_move rfl) ?_
   refine r_stepP rfl rfl rfl rfl (o_move rfl) ?_
   refine r_stepP rfl rfl rfl rfl (o_add rfl rfl _ (wrap_i64 (by omega))) ?_
   refine r_stepP rfl rfl rfl rfl (o_slice sl25 rfl rfl rfl rfl (fun _ => rfl) p (p + min bd (len - p)) (p + min bd (len - p)) (.inr ⟨_, _, rfl, by omega⟩) (.inr ⟨_, _, rfl, by omega⟩) (.inr ⟨_, _, rfl, by omega⟩) ⟨by omega, by omega, by omega⟩ (ckEnc bo len bd p) (by rw [if_neg (by omega)]; simp [add_at, ckEnc])) ?_
   refine r_step rfl rfl rfl (o_yield [mJ] _ rfl rfl (by repeat (first | exact Sub.refl | refine Sub.pick ?_)) (fun w_ hp_ => hY ys p w_ mJ hJ ⟨hp, by omega⟩ hp_.owns (fun k hk => hp_.fz k hk)) ?_)
   rintro v22 _ ⟨m2, rfl, hy2⟩
   obtain ⟨bb, rfl, hy3⟩ : ∃ bb, v22 = .bool bb ∧ ((bb = true ∧ J (ys ++ [p]) m2) ∨ (bb = false ∧ Jx (ys ++ [p]) m2)) := by
     rcases hy2 with ⟨rfl, h⟩ | ⟨rfl, h⟩
     · exact ⟨_, rfl, .inl ⟨rfl, h⟩⟩
     · exact ⟨_, rfl, .inr ⟨rfl, h⟩⟩
   dsimp only [List.cons_append, List.nil_append]
   refine r_stepP rfl rfl rfl rfl (o_not rfl) ?_
   refine r_done ?_
   refine r_tn (kh6 _ _ _ ?_)
   clear kh6
   refine r_condB rfl (fun c30 => ?_) (fun c30 => ?_)
   ·
    refine r_ret ?_
    refine r_br ?_
    refine r_tr ?_
    refine r_tr ?_
    refine r_br ?_
    have hJx2 : Jx (ys ++ [p]) m2 := (hy3.resolve_left (fun h => by rw [h.1] at c30; cases c30)).2
    exact r_fin0 [m2, [(bs, blk [.slice (some ⟨bo, 0, none⟩) len cap] 25)], [(bn, blk [.int .i64 (bd : Int)] 3)]] Try.results34 (by repeat (first | exact Sub.nil | refine Sub.pick ?_ | refine Sub.castO rfl ?_ | refine Sub.skip ?_)) ⟨rfl, m2, _, rfl, .inr ⟨_, rfl, hJx2⟩⟩
   ·
    have hJ2 : J (ys ++ [p]) m2 := (hy3.resolve_right (fun h => by rw [h.1] at c30; cases c30)).2
    refine r_skip ?_
    refine r_bn ?_
    refine r_tn (kh4 _ _ _ ?_)
    clear kh4
    refine r_region ?_
    refine r_stepP rfl rfl rfl rfl (o_move rfl) ?_
    refine r_stepP rfl rfl rfl rfl (o_load Try.isAgg3 rfl (rdA rfl)) ?_
    refine r_stepP rfl rfl rfl rfl (o_add rfl rfl _ (wrap_i64 (by omega))) ?_
    refine r_stepP rfl rfl rfl rfl (o_assign rfl) ?_
    refine r_done ?_
    refine r_tn (r_again (p + bd, ys ++ [p], m2) (by first | omega | (dsimp only; omega) | (simp; omega)) rfl ⟨by rw [List.length_append, List.length_singleton, Nat.succ_mul]; omega, by omega, hJ2⟩ ?_ ?_ ?_)
    · exact (by repeat (first | exact trivial | refine ⟨rfl, ?_⟩))
    · exact (by repeat (first | exact trivial | refine ⟨rfl, ?_⟩))
    · repeat (first | exact Sub.nil | refine Sub.pick ?_ | refine Sub.castO rfl ?_ | refine Sub.skip ?_)
  ·
   refine r_exit ?_
   refine r_te ?_
   clear kh2
   refine r_te ?_
   refine r_be ?_
   exact r_fin0n [mJ, [(bs, blk [.slice (some ⟨bo, 0, none⟩) len cap] 25)], [(bn, blk [.int .i64 (bd : Int)] 3)]] Try.results34 (by repeat (first | exact Sub.nil | refine Sub.pick ?_ | refine Sub.castO rfl ?_ | refine Sub.skip ?_)) ⟨rfl, mJ, _, rfl, .inl ⟨_, ⟨by omega, rfl⟩, hJ⟩⟩

end Go.Proofs.Ytkhjckghpakliaa
