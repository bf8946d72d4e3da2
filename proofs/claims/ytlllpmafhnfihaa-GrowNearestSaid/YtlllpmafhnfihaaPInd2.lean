/- The graph of some vertices: what it keeps. Plain laws. -/
import Derived.Test.YtlllpmafhnfihaaPInd

namespace Go.Proofs.Ytlllpmafhnfihaa
open Go Fly
set_option linter.unusedVariables false
set_option linter.unusedSimpArgs false

theorem getD_in {α : Type} (l : List α) (d : α) {i : Nat} (h : i < l.length) : l.getD i d = l[i] := by simp [List.getD_eq_getElem?_getD, h]
theorem getD_out {α : Type} (l : List α) (d : α) {i : Nat} (h : l.length ≤ i) : l.getD i d = d := by simp [List.getD_eq_getElem?_getD, h]
theorem vrank_zero (keep : List Bool) : vrank keep 0 = 0 := by unfold vrank; rw [List.take_zero]; rfl
theorem vrank_yes {keep : List Bool} {v : Nat} (h : v < keep.length) (hk : keep[v] = true) : vrank keep (v + 1) = vrank keep v + 1 := by
  unfold vrank; rw [verts_yes h hk, List.length_append]; rfl
theorem vrank_no {keep : List Bool} {v : Nat} (h : v < keep.length) (hk : keep[v] = false) : vrank keep (v + 1) = vrank keep v := by
  unfold vrank; rw [verts_no h hk]
theorem vrank_all {keep : List Bool} {k : Nat} (h : keep.length ≤ k) : vrank keep k = (verts keep).length := by unfold vrank; rw [verts_all h]
theorem vrank_mono (keep : List Bool) {j k : Nat} (h : j ≤ k) : vrank keep j ≤ vrank keep k := by
  induction k with
  | zero => rw [Nat.le_zero.1 h]; exact Nat.le_refl _
  | succ k ih =>
    rcases Nat.lt_or_ge j (k + 1) with h' | h'
    · have := ih (by omega)
      by_cases hl : k < keep.length
      · cases hk : keep[k]
        · rw [vrank_no hl hk]; omega
        · rw [vrank_yes hl hk]; omega
      · rw [vrank_all (k := k + 1) (by omega)]; rw [vrank_all (k := k) (by omega)] at this; exact this
    · rw [show j = k + 1 from by omega]; exact Nat.le_refl _
theorem vrank_lt {keep : List Bool} {v : Nat} (h : v < keep.length) (hk : keep[v] = true) : vrank keep v < (verts keep).length := by
  have a := vrank_yes h hk
  have b := vrank_mono keep (j := v + 1) (k := keep.length) (by omega)
  rw [vrank_all (Nat.le_refl _)] at b
  omega
/-- Which vertex has a number. -/
theorem verts_at {keep : List Bool} : ∀ k, k ≤ keep.length → ∀ i, i < (verts (keep.take k)).length → ∃ u, ∃ h : u < keep.length, u < k ∧ (verts (keep.take k))[i]? = some (u : Int) ∧ keep[u] = true ∧ vrank keep u = i
  | 0, _, i, hi => by rw [List.take_zero] at hi; exact absurd hi (Nat.not_lt_zero _)
  | k + 1, hk, i, hi => by
    have hl : k < keep.length := by omega
    cases hkk : keep[k]
    · rw [verts_no hl hkk] at hi ⊢
      obtain ⟨u, h, hu, e, r⟩ := verts_at k (by omega) i hi
      exact ⟨u, h, by omega, e, r⟩
    · rw [verts_yes hl hkk] at hi ⊢
      by_cases hik : i < (verts (keep.take k)).length
      · obtain ⟨u, h, hu, e, r⟩ := verts_at k (by omega) i hik
        exact ⟨u, h, by omega, by rw [List.getElem?_append_left hik]; exact e, r⟩
      · rw [List.length_append, List.length_singleton] at hi
        have ei : i = (verts (keep.take k)).length := by omega
        exact ⟨k, hl, by omega, by rw [ei, List.getElem?_append_right (Nat.le_refl _), Nat.sub_self]; rfl, hkk, by rw [ei]; rfl⟩
theorem verts_get {keep : List Bool} {i : Nat} (hi : i < (verts keep).length) : ∃ u, ∃ h : u < keep.length, (verts keep)[i]? = some (u : Int) ∧ keep[u] = true ∧ vrank keep u = i := by
  have e : keep.take keep.length = keep := List.take_length
  obtain ⟨u, h, _, a, b, c⟩ := verts_at keep.length (Nat.le_refl _) i (by rw [e]; exact hi)
  rw [e] at a
  exact ⟨u, h, a, b, c⟩
theorem verts_ne {keep : List Bool} {v : Nat} (h : v < keep.length) (hk : keep[v] = true) : (verts keep).length ≠ 0 := by
  have := vrank_lt h hk; omega

theorem kin_true {keep : List Bool} {x : Arc} (h : kin keep x = true) : ∃ (h1 : x.src.toNat < keep.length) (h2 : x.dst.toNat < keep.length), keep[x.src.toNat] = true ∧ keep[x.dst.toNat] = true := by
  have key : ∀ v, keep.getD v false = true → ∃ h : v < keep.length, keep[v] = true := fun v hv => by
    by_cases hl : v < keep.length
    · rw [getD_in _ _ hl] at hv; exact ⟨hl, hv⟩
    · rw [getD_out _ _ (by omega)] at hv; cases hv
  unfold kin at h
  rw [Bool.and_eq_true] at h
  obtain ⟨h1, e1⟩ := key _ h.1
  obtain ⟨h2, e2⟩ := key _ h.2
  exact ⟨h1, h2, e1, e2⟩

/-- The graph of some vertices is right. -/
theorem sub_good {keep : List Bool} {l : List Arc} (hk : keep.length ≤ 1024) (hl : l.length ≤ 8192) (hv : (verts keep).length ≠ 0) : gcheck ((verts keep).length : Int) (subArcs keep l) = (0, 0) := by
  have h1 := verts_le keep
  have h2 := sub_len keep l
  refine gcheck_ok ⟨by omega, by omega⟩ (by omega) fun j hj => ?_
  have hm := List.getElem_mem hj
  unfold subArcs at hm
  rw [List.mem_map] at hm
  obtain ⟨x, hx, e⟩ := hm
  rw [List.mem_filter] at hx
  obtain ⟨ha, hb, e1, e2⟩ := kin_true hx.2
  have r1 := vrank_lt ha e1
  have r2 := vrank_lt hb e2
  unfold subArcs
  rw [← e]
  unfold arcBad subArc
  simp
  omega
theorem sub_ok {keep : List Bool} {l : List Arc} (hk : keep.length ≤ 1024) (hok : ∀ x ∈ l, ArcOk x) : ∀ x ∈ subArcs keep l, ArcOk x := by
  intro y hy
  unfold subArcs at hy
  obtain ⟨x, hx, rfl⟩ := List.mem_map.1 hy
  have hx' := hok x (List.mem_filter.1 hx).1
  obtain ⟨ha, hb, e1, e2⟩ := kin_true (List.mem_filter.1 hx).2
  have r1 := vrank_lt ha e1
  have r2 := vrank_lt hb e2
  have := verts_le keep
  exact ⟨⟨by show _ ≤ ((vrank keep x.src.toNat : Nat) : Int); omega, by show ((vrank keep x.src.toNat : Nat) : Int) ≤ _; omega⟩, ⟨by show _ ≤ ((vrank keep x.dst.toNat : Nat) : Int); omega, by show ((vrank keep x.dst.toNat : Nat) : Int) ≤ _; omega⟩, hx'.wt⟩

/-- What is connected stays so in a part. -/
theorem conn_sub {keep : List Bool} {l : List Arc} (hc : ∀ x ∈ l, keep.getD x.src.toNat false = keep.getD x.dst.toNat false) {u v : Nat} (hu : keep.getD u false = true) (h : Conn (ends2 l) u v) :
    keep.getD v false = true ∧ Conn (ends2 (subArcs keep l)) (vrank keep u) (vrank keep v) := by
  have edge : ∀ x ∈ l, keep.getD x.src.toNat false = true → (vrank keep x.src.toNat, vrank keep x.dst.toNat) ∈ ends2 (subArcs keep l) := fun x hx hs => by
    refine List.mem_map.2 ⟨subArc keep x, List.mem_map.2 ⟨x, List.mem_filter.2 ⟨hx, ?_⟩, rfl⟩, by simp [subArc]⟩
    unfold kin; rw [← hc x hx, hs]; rfl
  induction h with
  | refl => exact ⟨hu, .refl _⟩
  | step _ he ih =>
    obtain ⟨i1, i2⟩ := ih
    rcases he with he | he
    · obtain ⟨x, hx, e⟩ := List.mem_map.1 he
      simp only [Prod.mk.injEq] at e
      obtain ⟨rfl, rfl⟩ := e
      exact ⟨by rw [← hc x hx]; exact i1, .step i2 (.inl (edge x hx i1))⟩
    · obtain ⟨x, hx, e⟩ := List.mem_map.1 he
      simp only [Prod.mk.injEq] at e
      obtain ⟨rfl, rfl⟩ := e
      exact ⟨by rw [hc x hx]; exact i1, .step i2 (.inr (edge x hx (by rw [hc x hx]; exact i1)))⟩

/-- The vertices of one label. -/
def ofPart (p : List Nat) (x : Nat) : List Bool := p.map (fun y => decide (y = x))
theorem ofPart_len (p : List Nat) (x : Nat) : (ofPart p x).length = p.length := List.length_map _
theorem ofPart_get {p : List Nat} {x v : Nat} (h : v < p.length) : (ofPart p x).getD v false = decide (p[v] = x) := by
  simp [ofPart, List.getD_eq_getElem?_getD, h]
theorem ofPart_ne {p : List Nat} {x : Nat} (hx : x < nxt p p.length) : (verts (ofPart p x)).length ≠ 0 := by
  obtain ⟨j, h, _, e⟩ := seen p.length (Nat.le_refl _) x hx
  exact verts_ne (v := j) (by rw [ofPart_len]; exact h) (by simp [ofPart, e])

/-- Each part is one. -/
theorem part_one {n : Nat} {l : List Arc} {p q : List Nat} {x : Nat} (hg : ∀ k (hk : k < l.length), 0 ≤ l[k].src ∧ l[k].src < (n : Int) ∧ 0 ≤ l[k].dst ∧ l[k].dst < (n : Int)) (hp : IsParts n (ends2 l) p)
    (hq : IsParts (verts (ofPart p x)).length (ends2 (subArcs (ofPart p x) l)) q) : ∀ i (h : i < q.length), q[i] = 0 := by
  have hl := hp.len
  have hc : ∀ y ∈ l, (ofPart p x).getD y.src.toNat false = (ofPart p x).getD y.dst.toNat false := fun y hy => by
    obtain ⟨k, hk, rfl⟩ := List.mem_iff_getElem.1 hy
    have := hg k hk
    rw [ofPart_get (by omega), ofPart_get (by omega), (hp.conn l[k].src.toNat l[k].dst.toNat (by omega) (by omega)).2 (.edge (.inl (List.mem_map.2 ⟨_, hy, rfl⟩)))]
  have kept : ∀ i, i < q.length → ∃ u, ∃ h : u < p.length, p[u] = x ∧ vrank (ofPart p x) u = i := fun i hi => by
    rw [hq.len] at hi
    obtain ⟨u, hu, _, hk, e⟩ := verts_get hi
    have hu' : u < p.length := by rw [ofPart_len] at hu; exact hu
    exact ⟨u, hu', by simpa [ofPart] using hk, e⟩
  intro i hi
  have h0 : 0 < q.length := by omega
  obtain ⟨u, hu, eu, ru⟩ := kept i hi
  obtain ⟨v, hv, ev, rv⟩ := kept 0 h0
  have c := (hp.conn v u hv hu).1 (by rw [eu, ev])
  have c2 := (conn_sub hc (by rw [ofPart_get hv]; simp [ev]) c).2
  rw [ru, rv] at c2
  have e := (hq.conn 0 i h0 hi).2 c2
  have t := hq.tidy 0 h0
  rw [nxt] at t
  omega
/-- An arc's ends have one label. -/
theorem parts_arc {n : Nat} {l : List Arc} {p : List Nat} (hp : IsParts n (ends2 l) p) {k : Nat} (hk : k < l.length) (h1 : l[k].src.toNat < p.length) (h2 : l[k].dst.toNat < p.length) : p[l[k].src.toNat] = p[l[k].dst.toNat] :=
  (hp.conn _ _ h1 h2).2 (.edge (.inl (List.mem_map.2 ⟨_, List.getElem_mem hk, rfl⟩)))

/-! ### all of a graph; some of some -/
theorem vrank_true (n : Nat) : ∀ v, v ≤ n → vrank (List.replicate n true) v = v
  | 0, _ => vrank_zero _
  | v + 1, h => by rw [vrank_yes (by simp; omega) (by simp), vrank_true n v (by omega)]
theorem verts_true (n : Nat) : (verts (List.replicate n true)).length = n := by
  rw [← vrank_all (k := n) (by simp)]; exact vrank_true n n (Nat.le_refl _)
theorem kin_all {n : Nat} {l : List Arc} (hg : ∀ k (hk : k < l.length), 0 ≤ l[k].src ∧ l[k].src < (n : Int) ∧ 0 ≤ l[k].dst ∧ l[k].dst < (n : Int)) : ∀ x ∈ l, kin (List.replicate n true) x = true := fun x hx => by
  obtain ⟨k, hk, rfl⟩ := List.mem_iff_getElem.1 hx
  have := hg k hk
  rw [kin_get (by simp; omega) (by simp; omega)]; simp
theorem sub_true {n : Nat} {l : List Arc} (hg : ∀ k (hk : k < l.length), 0 ≤ l[k].src ∧ l[k].src < (n : Int) ∧ 0 ≤ l[k].dst ∧ l[k].dst < (n : Int)) : subArcs (List.replicate n true) l = l := by
  unfold subArcs
  rw [List.filter_eq_self.2 (kin_all hg)]
  refine (List.map_congr_left (g := id) fun x hx => ?_).trans (List.map_id _)
  obtain ⟨k, hk, rfl⟩ := List.mem_iff_getElem.1 hx
  obtain ⟨a, b, c, d⟩ := hg k hk
  unfold subArc
  rw [vrank_true n _ (by omega), vrank_true n _ (by omega)]
  generalize l[k] = y at *
  obtain ⟨s, t, w⟩ := y
  simp only [id, Arc.mk.injEq, and_true]
  simp only at a c
  omega
theorem idxs_all {n : Nat} {l : List Arc} (hg : ∀ k (hk : k < l.length), 0 ≤ l[k].src ∧ l[k].src < (n : Int) ∧ 0 ≤ l[k].dst ∧ l[k].dst < (n : Int)) : (idxs (kin (List.replicate n true)) l).length = l.length := by
  rw [idxs_length, List.countP_eq_length]; exact kin_all hg

/-- Each second one, as far as it has been written. -/
def halfTo (n i : Nat) : List Bool := (List.range n).map (fun j => decide (j < i) && decide (j % 2 = 0))
def bothTo (keep : List Bool) (i : Nat) : List Bool := (List.range keep.length).map (fun u => keep.getD u false && (decide (vrank keep u < i) && decide (vrank keep u % 2 = 0)))
theorem halfTo_len (n i : Nat) : (halfTo n i).length = n := by simp [halfTo]
theorem bothTo_len (keep : List Bool) (i : Nat) : (bothTo keep i).length = keep.length := by simp [bothTo]
theorem halfTo_zero (n : Nat) : halfTo n 0 = List.replicate n false := by
  refine List.ext_getElem (by simp [halfTo]) fun j h1 h2 => by simp [halfTo]
theorem bothTo_zero (keep : List Bool) : bothTo keep 0 = List.replicate keep.length false := by
  refine List.ext_getElem (by simp [bothTo]) fun j h1 h2 => by simp [bothTo]
theorem halfTo_next {n i : Nat} (h : i < n) : (halfTo n i).set i (decide (i % 2 = 0)) = halfTo n (i + 1) := by
  refine List.ext_getElem (by simp [halfTo]) fun j h1 h2 => ?_
  rw [List.getElem_set]
  simp only [halfTo, List.getElem_map, List.getElem_range]
  split
  · rename_i e; subst e; simp
  · rename_i e
    have : (j < i + 1) ↔ (j < i) := by omega
    simp only [this]
theorem vrank_inj {keep : List Bool} {u v : Nat} (hu : u < keep.length) (hv : v < keep.length) (ku : keep[u] = true) (kv : keep[v] = true) (e : vrank keep u = vrank keep v) : u = v := by
  rcases Nat.lt_trichotomy u v with h | h | h
  · have := vrank_yes hu ku; have := vrank_mono keep (j := u + 1) (k := v) (by omega); omega
  · exact h
  · have := vrank_yes hv kv; have := vrank_mono keep (j := v + 1) (k := u) (by omega); omega
theorem bothTo_next {keep : List Bool} {i u : Nat} (hu : u < keep.length) (ku : keep[u] = true) (hr : vrank keep u = i) : (bothTo keep i).set u (decide (i % 2 = 0)) = bothTo keep (i + 1) := by
  refine List.ext_getElem (by simp [bothTo]) fun j h1 h2 => ?_
  rw [List.getElem_set]
  have hj : j < keep.length := by simpa [bothTo] using h2
  simp only [bothTo, List.getElem_map, List.getElem_range]
  split
  · rename_i e; subst e; rw [getD_in _ _ hu, ku, hr]; simp
  · rename_i e
    rw [getD_in _ _ hj]
    cases kj : keep[j]
    · rfl
    · have : vrank keep j ≠ i := fun e' => e (vrank_inj hu hj ku kj (hr.trans e'.symm))
      have : (vrank keep j < i + 1) ↔ (vrank keep j < i) := by omega
      simp only [this]
/-- All that are half of some are half. -/
theorem both_get {keep : List Bool} {n : Nat} (hn : n = (verts keep).length) {u : Nat} : (bothTo keep n).getD u false = (keep.getD u false && (halfTo n n).getD (vrank keep u) false) := by
  by_cases hu : u < keep.length
  · rw [getD_in _ _ (by rw [bothTo_len]; exact hu)]
    simp only [bothTo, List.getElem_map, List.getElem_range]
    cases hk : keep.getD u false
    · rfl
    · rw [getD_in _ _ hu] at hk
      have hr := vrank_lt hu hk
      rw [getD_in _ _ (by rw [halfTo_len]; omega)]
      simp only [halfTo, List.getElem_map, List.getElem_range]
  · rw [getD_out _ _ (by rw [bothTo_len]; omega), getD_out keep _ (by omega)]; rfl
theorem vrank_both {keep : List Bool} {n : Nat} (hn : n = (verts keep).length) : ∀ u, u ≤ keep.length → vrank (bothTo keep n) u = vrank (halfTo n n) (vrank keep u)
  | 0, _ => by rw [vrank_zero, vrank_zero, vrank_zero]
  | u + 1, h => by
    have ih := vrank_both hn u (by omega)
    have hu : u < keep.length := by omega
    have hb : u < (bothTo keep n).length := by rw [bothTo_len]; exact hu
    have hg := both_get hn (u := u)
    rw [getD_in _ _ hb, getD_in _ _ hu] at hg
    cases hk : keep[u]
    · rw [hk, Bool.false_and] at hg
      rw [vrank_no hb hg, vrank_no hu hk, ih]
    · have hr := vrank_lt hu hk
      have hr' : vrank keep u < (halfTo n n).length := by rw [halfTo_len]; omega
      rw [hk, Bool.true_and, getD_in _ _ hr'] at hg
      rw [vrank_yes hu hk]
      cases hh : (halfTo n n)[vrank keep u]
      · rw [hh] at hg; rw [vrank_no hb hg, vrank_no hr' hh, ih]
      · rw [hh] at hg; rw [vrank_yes hb hg, vrank_yes hr' hh, ih]
theorem verts_both {keep : List Bool} {n : Nat} (hn : n = (verts keep).length) : (verts (bothTo keep n)).length = (verts (halfTo n n)).length := by
  have := vrank_both hn keep.length (Nat.le_refl _)
  rw [vrank_all (by rw [bothTo_len]; exact Nat.le_refl _), vrank_all (keep := keep) (Nat.le_refl _), ← hn, vrank_all (by rw [halfTo_len]; exact Nat.le_refl _)] at this
  exact this
theorem verts_half {n : Nat} (h : n ≠ 0) : (verts (halfTo n n)).length ≠ 0 := verts_ne (v := 0) (by rw [halfTo_len]; omega) (by simp [halfTo]; omega)
theorem sub_both {keep : List Bool} {n : Nat} (hn : n = (verts keep).length) {l : List Arc} (hg : ∀ k (hk : k < l.length), 0 ≤ l[k].src ∧ l[k].src < (keep.length : Int) ∧ 0 ≤ l[k].dst ∧ l[k].dst < (keep.length : Int)) :
    subArcs (bothTo keep n) l = subArcs (halfTo n n) (subArcs keep l) := by
  unfold subArcs
  rw [List.filter_map, List.map_map, List.filter_filter]
  have hf : ∀ x ∈ l, kin (bothTo keep n) x = ((kin (halfTo n n) ∘ subArc keep) x && kin keep x) := fun x hx => by
    unfold kin
    rw [both_get hn, both_get hn]
    simp only [Function.comp, subArc, Int.toNat_natCast]
    generalize keep.getD x.src.toNat false = a; generalize keep.getD x.dst.toNat false = b
    generalize (halfTo n n).getD (vrank keep x.src.toNat) false = c; generalize (halfTo n n).getD (vrank keep x.dst.toNat) false = d
    cases a <;> cases b <;> cases c <;> cases d <;> rfl
  rw [List.filter_congr hf]
  refine List.map_congr_left fun x hx => ?_
  obtain ⟨k, hk, rfl⟩ := List.mem_iff_getElem.1 (List.mem_filter.1 hx).1
  have := hg k hk
  simp only [Function.comp, subArc, Int.toNat_natCast]
  rw [vrank_both hn _ (by omega), vrank_both hn _ (by omega)]
end Go.Proofs.Ytlllpmafhnfihaa
