import Derived.Test.YtbjiejhdgkpjcaaAll7
import Derived.Test.YtbjiejhdgkpjcaaAll8
import Derived.Test.YtbjiejhdgkpjcaaAll6
import Derived.Test.YtbjiejhdgkpjcaaAll4
import Derived.Test.YtbjiejhdgkpjcaaAll5

/- The graph of some vertices: what it keeps. Plain laws. -/

namespace Go.Proofs.Ytbjiejhdgkpjcaa
open Go Fly
set_option linter.unusedVariables false
set_option linter.unusedSimpArgs false

theorem getD_in {α : Type} (l : List α) (d : α) {i : Nat} (h : i < l.length) : l.getD i d = l[i] := by simp [List.getD_eq_getElem?_getD, h]
theorem getD_out {α : Type} (l : List α) (d : α) {i : Nat} (h : l.length ≤ i) : l.getD i d = d := by simp [List.getD_eq_getElem?_getD, h]
theorem vrank_zero (keep : List Bool) : vrank keep 0 = 0 := by unfold vrank; rw [List.take_zero]; rfl
theorem vrank_yes {keep : List Bool} {v : Nat} (h : v < keep.length) (hk : keep[v] = true) : vrank keep (v + 1) = vrank keep v + 1 := by
  unfold vrank; rw [verts_yes h hk, List.length_append]; rfl
theorem vrank_no {keep : List Bool} {v : Nat} (h : v < keep.length) (hk : keep[v] = false) : vrank keep (v + 1) = vrank keep v := by
  unfold vrank; rw [verts_no h hk]
theorem vrank_all {keep : List Bool} {k : Nat} (h : keep.length ≤ k) : vrank keep k = (verts keep).length := by unfold vrank; rw [verts_all h]
theorem vrank_mono (keep : List Bool) {j k : Nat} (h : j ≤ k) : vrank keep j ≤ vrank keep k := by
  induction k with
  | zero => rw [Nat.le_zero.1 h]; exact Nat.le_refl _
  | succ k ih =>
    rcases Nat.lt_or_ge j (k + 1) with h' | h'
    · have := ih (by omega)
      by_cases hl : k < keep.length
      · cases hk : keep[k]
        · rw [vrank_no hl hk]; omega
        · rw [vrank_yes hl hk]; omega
      · rw [vrank_all (k := k + 1) (by omega)]; rw [vrank_all (k := k) (by omega)] at this; exact this
    · rw [show j = k + 1 from by omega]; exact Nat.le_refl _
theorem vrank_lt {keep : List Bool} {v : Nat} (h : v < keep.length) (hk : keep[v] = true) : vrank keep v < (verts keep).length := by
  have a := vrank_yes h hk
  have b := vrank_mono keep (j := v + 1) (k := keep.length) (by omega)
  rw [vrank_all (Nat.le_refl _)] at b
  omega
/-- Which vertex has a number. -/
theorem verts_at {keep : List Bool} : ∀ k, k ≤ keep.length → ∀ i, i < (verts (keep.take k)).length → ∃ u, ∃ h : u < keep.length, u < k ∧ (verts (keep.take k))[i]? = some (u : Int) ∧ keep[u] = true ∧ vrank keep u = i
  | 0, _, i, hi => by rw [List.take_zero] at hi; exact absurd hi (Nat.not_lt_zero _)
  | k + 1, hk, i, hi => by
    have hl : k < keep.length := by omega
    cases hkk : keep[k]
    · rw [verts_no hl hkk] at hi ⊢
      obtain ⟨u, h, hu, e, r⟩ := verts_at k (by omega) i hi
      exact ⟨u, h, by omega, e, r⟩
    · rw [verts_yes hl hkk] at hi ⊢
      by_cases hik : i < (verts (keep.take k)).length
      · obtain ⟨u, h, hu, e, r⟩ := verts_at k (by omega) i hik
        exact ⟨u, h, by omega, by rw [List.getElem?_append_left hik]; exact e, r⟩
      · rw [List.length_append, List.length_singleton] at hi
        have ei : i = (verts (keep.take k)).length := by omega
        exact ⟨k, hl, by omega, by rw [ei, List.getElem?_append_right (Nat.le_refl _), Nat.sub_self]; rfl, hkk, by rw [ei]; rfl⟩
theorem verts_get {keep : List Bool} {i : Nat} (hi : i < (verts keep).length) : ∃ u, ∃ h : u < keep.length, (verts keep)[i]? = some (u : Int) ∧ keep[u] = true ∧ vrank keep u = i := by
  have e : keep.take keep.length = keep := List.take_length
  obtain ⟨u, h, _, a, b, c⟩ := verts_at keep.length (Nat.le_refl _) i (by rw [e]; exact hi)
  rw [e] at a
  exact ⟨u, h, a, b, c⟩
theorem verts_ne {keep : List Bool} {v : Nat} (h : v < keep.length) (hk : keep[v] = true) : (verts keep).length ≠ 0 := by
  have := vrank_lt h hk; omega

theorem kin_true {keep : List Bool} {x : Arc} (h : kin keep x = true) : ∃ (h1 : x.src.toNat < keep.length) (h2 : x.dst.toNat < keep.length), keep[x.src.toNat] = true ∧ keep[x.dst.toNat] = true := by
  have key : ∀ v, keep.getD v false = true → ∃ h : v < keep.length, keep[v] = true := fun v hv => by
    by_cases hl : v < keep.length
    · rw [getD_in _ _ hl] at hv; exact ⟨hl, hv⟩
    · rw [getD_out _ _ (by omega)] at hv; cases hv
  unfold kin at h
  rw [Bool.and_eq_true] at h
  obtain ⟨h1, e1⟩ := key _ h.1
  obtain ⟨h2, e2⟩ := key _ h.2
  exact ⟨h1, h2, e1, e2⟩

/-- The graph of some vertices is right. -/
theorem sub_good {keep : List Bool} {l : List Arc} (hk : keep.length ≤ 1024) (hl : l.length ≤ 8192) (hv : (verts keep).length ≠ 0) : gcheck ((verts keep).length : Int) (subArcs keep l) = (0, 0) := by
  have h1 := verts_le keep
  have h2 := sub_len keep l
  refine gcheck_ok ⟨by omega, by omega⟩ (by omega) fun j hj => ?_
  have hm := List.getElem_mem hj
  unfold subArcs at hm
  rw [List.mem_map] at hm
  obtain ⟨x, hx, e⟩ := hm
  rw [List.mem_filter] at hx
  obtain ⟨ha, hb, e1, e2⟩ := kin_true hx.2
  have r1 := vrank_lt ha e1
  have r2 := vrank_lt hb e2
  unfold subArcs
  rw [← e]
  unfold arcBad subArc
  simp
  omega
theorem sub_ok {keep : List Bool} {l : List Arc} (hk : keep.length ≤ 1024) (hok : ∀ x ∈ l, ArcOk x) : ∀ x ∈ subArcs keep l, ArcOk x := by
  intro y hy
  unfold subArcs at hy
  obtain ⟨x, hx, rfl⟩ := List.mem_map.1 hy
  have hx' := hok x (List.mem_filter.1 hx).1
  obtain ⟨ha, hb, e1, e2⟩ := kin_true (List.mem_filter.1 hx).2
  have r1 := vrank_lt ha e1
  have r2 := vrank_lt hb e2
  have := verts_le keep
  exact ⟨⟨by show _ ≤ ((vrank keep x.src.toNat : Nat) : Int); omega, by show ((vrank keep x.src.toNat : Nat) : Int) ≤ _; omega⟩, ⟨by show _ ≤ ((vrank keep x.dst.toNat : Nat) : Int); omega, by show ((vrank keep x.dst.toNat : Nat) : Int) ≤ _; omega⟩, hx'.wt⟩

/-- What is connected stays so in a part. -/
theorem conn_sub {keep : List Bool} {l : List Arc} (hc : ∀ x ∈ l, keep.getD x.src.toNat false = keep.getD x.dst.toNat false) {u v : Nat} (hu : keep.getD u false = true) (h : Conn (ends2 l) u v) :
    keep.getD v false = true ∧ Conn (ends2 (subArcs keep l)) (vrank keep u) (vrank keep v) := by
  have edge : ∀ x ∈ l, keep.getD x.src.toNat false = true → (vrank keep x.src.toNat, vrank keep x.dst.toNat) ∈ ends2 (subArcs keep l) := fun x hx hs => by
    refine List.mem_map.2 ⟨subArc keep x, List.mem_map.2 ⟨x, List.mem_filter.2 ⟨hx, ?_⟩, rfl⟩, by simp [subArc]⟩
    unfold kin; rw [← hc x hx, hs]; rfl
  induction h with
  | refl => exact ⟨hu, .refl _⟩
  | step _ he ih =>
    obtain ⟨i1, i2⟩ := ih
    rcases he with he | he
    · obtain ⟨x, hx, e⟩ := List.mem_map.1 he
      simp only [Prod.mk.injEq] at e
      obtain ⟨rfl, rfl⟩ := e
      exact ⟨by rw [← hc x hx]; exact i1, .step i2 (.inl (edge x hx i1))⟩
    · obtain ⟨x, hx, e⟩ := List.mem_map.1 he
      simp only [Prod.mk.injEq] at e
      obtain ⟨rfl, rfl⟩ := e
      exact ⟨by rw [hc x hx]; exact i1, .step i2 (.inr (edge x hx (by rw [hc x hx]; exact i1)))⟩

/-- The vertices of one label. -/
def ofPart (p : List Nat) (x : Nat) : List Bool := p.map (fun y => decide (y = x))
theorem ofPart_len (p : List Nat) (x : Nat) : (ofPart p x).length = p.length := List.length_map _
theorem ofPart_get {p : List Nat} {x v : Nat} (h : v < p.length) : (ofPart p x).getD v false = decide (p[v] = x) := by
  simp [ofPart, List.getD_eq_getElem?_getD, h]
theorem ofPart_ne {p : List Nat} {x : Nat} (hx : x < nxt p p.length) : (verts (ofPart p x)).length ≠ 0 := by
  obtain ⟨j, h, _, e⟩ := seen p.length (Nat.le_refl _) x hx
  exact verts_ne (v := j) (by rw [ofPart_len]; exact h) (by simp [ofPart, e])

/-- Each part is one. -/
theorem part_one {n : Nat} {l : List Arc} {p q : List Nat} {x : Nat} (hg : ∀ k (hk : k < l.length), 0 ≤ l[k].src ∧ l[k].src < (n : Int) ∧ 0 ≤ l[k].dst ∧ l[k].dst < (n : Int)) (hp : IsParts n (ends2 l) p)
    (hq : IsParts (verts (ofPart p x)).length (ends2 (subArcs (ofPart p x) l)) q) : ∀ i (h : i < q.length), q[i] = 0 := by
  have hl := hp.len
  have hc : ∀ y ∈ l, (ofPart p x).getD y.src.toNat false = (ofPart p x).getD y.dst.toNat false := fun y hy => by
    obtain ⟨k, hk, rfl⟩ := List.mem_iff_getElem.1 hy
    have := hg k hk
    rw [ofPart_get (by omega), ofPart_get (by omega), (hp.conn l[k].src.toNat l[k].dst.toNat (by omega) (by omega)).2 (.edge (.inl (List.mem_map.2 ⟨_, hy, rfl⟩)))]
  have kept : ∀ i, i < q.length → ∃ u, ∃ h : u < p.length, p[u] = x ∧ vrank (ofPart p x) u = i := fun i hi => by
    rw [hq.len] at hi
    obtain ⟨u, hu, _, hk, e⟩ := verts_get hi
    have hu' : u < p.length := by rw [ofPart_len] at hu; exact hu
    exact ⟨u, hu', by simpa [ofPart] using hk, e⟩
  intro i hi
  have h0 : 0 < q.length := by omega
  obtain ⟨u, hu, eu, ru⟩ := kept i hi
  obtain ⟨v, hv, ev, rv⟩ := kept 0 h0
  have c := (hp.conn v u hv hu).1 (by rw [eu, ev])
  have c2 := (conn_sub hc (by rw [ofPart_get hv]; simp [ev]) c).2
  rw [ru, rv] at c2
  have e := (hq.conn 0 i h0 hi).2 c2
  have t := hq.tidy 0 h0
  rw [nxt] at t
  omega
/-- An arc's ends have one label. -/
theorem parts_arc {n : Nat} {l : List Arc} {p : List Nat} (hp : IsParts n (ends2 l) p) {k : Nat} (hk : k < l.length) (h1 : l[k].src.toNat < p.length) (h2 : l[k].dst.toNat < p.length) : p[l[k].src.toNat] = p[l[k].dst.toNat] :=
  (hp.conn _ _ h1 h2).2 (.edge (.inl (List.mem_map.2 ⟨_, List.getElem_mem hk, rfl⟩)))

/-! ### all of a graph; some of some -/
theorem vrank_true (n : Nat) : ∀ v, v ≤ n → vrank (List.replicate n true) v = v
  | 0, _ => vrank_zero _
  | v + 1, h => by rw [vrank_yes (by simp; omega) (by simp), vrank_true n v (by omega)]
theorem verts_true (n : Nat) : (verts (List.replicate n true)).length = n := by
  rw [← vrank_all (k := n) (by simp)]; exact vrank_true n n (Nat.le_refl _)
theorem kin_all {n : Nat} {l : List Arc} (hg : ∀ k (hk : k < l.length), 0 ≤ l[k].src ∧ l[k].src < (n : Int) ∧ 0 ≤ l[k].dst ∧ l[k].dst < (n : Int)) : ∀ x ∈ l, kin (List.replicate n true) x = true := fun x hx => by
  obtain ⟨k, hk, rfl⟩ := List.mem_iff_getElem.1 hx
  have := hg k hk
  rw [kin_get (by simp; omega) (by simp; omega)]; simp
theorem sub_true {n : Nat} {l : List Arc} (hg : ∀ k (hk : k < l.length), 0 ≤ l[k].src ∧ l[k].src < (n : Int) ∧ 0 ≤ l[k].dst ∧ l[k].dst < (n : Int)) : subArcs (List.replicate n true) l = l := by
  unfold subArcs
  rw [List.filter_eq_self.2 (kin_all hg)]
  refine (List.map_congr_left (g := id) fun x hx => ?_).trans (List.map_id _)
  obtain ⟨k, hk, rfl⟩ := List.mem_iff_getElem.1 hx
  obtain ⟨a, b, c, d⟩ := hg k hk
  unfold subArc
  rw [vrank_true n _ (by omega), vrank_true n _ (by omega)]
  generalize l[k] = y at *
  obtain ⟨s, t, w⟩ := y
  simp only [id, Arc.mk.injEq, and_true]
  simp only at a c
  omega
theorem idxs_all {n : Nat} {l : List Arc} (hg : ∀ k (hk : k < l.length), 0 ≤ l[k].src ∧ l[k].src < (n : Int) ∧ 0 ≤ l[k].dst ∧ l[k].dst < (n : Int)) : (idxs (kin (List.replicate n true)) l).length = l.length := by
  rw [idxs_length, List.countP_eq_length]; exact kin_all hg

/-- Each second one, as far as it has been written. -/
def halfTo (n i : Nat) : List Bool := (List.range n).map (fun j => decide (j < i) && decide (j % 2 = 0))
def bothTo (keep : List Bool) (i : Nat) : List Bool := (List.range keep.length).map (fun u => keep.getD u false && (decide (vrank keep u < i) && decide (vrank keep u % 2 = 0)))
theorem halfTo_len (n i : Nat) : (halfTo n i).length = n := by simp [halfTo]
theorem bothTo_len (keep : List Bool) (i : Nat) : (bothTo keep i).length = keep.length := by simp [bothTo]
theorem halfTo_zero (n : Nat) : halfTo n 0 = List.replicate n false := by
  refine List.ext_getElem (by simp [halfTo]) fun j h1 h2 => by simp [halfTo]
theorem bothTo_zero (keep : List Bool) : bothTo keep 0 = List.replicate keep.length false := by
  refine List.ext_getElem (by simp [bothTo]) fun j h1 h2 => by simp [bothTo]
theorem halfTo_next {n i : Nat} (h : i < n) : (halfTo n i).set i (decide (i % 2 = 0)) = halfTo n (i + 1) := by
  refine List.ext_getElem (by simp [halfTo]) fun j h1 h2 => ?_
  rw [List.getElem_set]
  simp only [halfTo, List.getElem_map, List.getElem_range]
  split
  · rename_i e; subst e; simp
  · rename_i e
    have : (j < i + 1) ↔ (j < i) := by omega
    simp only [this]
theorem vrank_inj {keep : List Bool} {u v : Nat} (hu : u < keep.length) (hv : v < keep.length) (ku : keep[u] = true) (kv : keep[v] = true) (e : vrank keep u = vrank keep v) : u = v := by
  rcases Nat.lt_trichotomy u v with h | h | h
  · have := vrank_yes hu ku; have := vrank_mono keep (j := u + 1) (k := v) (by omega); omega
  · exact h
  · have := vrank_yes hv kv; have := vrank_mono keep (j := v + 1) (k := u) (by omega); omega
theorem bothTo_next {keep : List Bool} {i u : Nat} (hu : u < keep.length) (ku : keep[u] = true) (hr : vrank keep u = i) : (bothTo keep i).set u (decide (i % 2 = 0)) = bothTo keep (i + 1) := by
  refine List.ext_getElem (by simp [bothTo]) fun j h1 h2 => ?_
  rw [List.getElem_set]
  have hj : j < keep.length := by simpa [bothTo] using h2
  simp only [bothTo, List.getElem_map, List.getElem_range]
  split
  · rename_i e; subst e; rw [getD_in _ _ hu, ku, hr]; simp
  · rename_i e
    rw [getD_in _ _ hj]
    cases kj : keep[j]
    · rfl
    · have : vrank keep j ≠ i := fun e' => e (vrank_inj hu hj ku kj (hr.trans e'.symm))
      have : (vrank keep j < i + 1) ↔ (vrank keep j < i) := by omega
      simp only [this]
/-- All that are half of some are half. -/
theorem both_get {keep : List Bool} {n : Nat} (hn : n = (verts keep).length) {u : Nat} : (bothTo keep n).getD u false = (keep.getD u false && (halfTo n n).getD (vrank keep u) false) := by
  by_cases hu : u < keep.length
  · rw [getD_in _ _ (by rw [bothTo_len]; exact hu)]
    simp only [bothTo, List.getElem_map, List.getElem_range]
    cases hk : keep.getD u false
    · rfl
    · rw [getD_in _ _ hu] at hk
      have hr := vrank_lt hu hk
      rw [getD_in _ _ (by rw [halfTo_len]; omega)]
      simp only [halfTo, List.getElem_map, List.getElem_range]
  · rw [getD_out _ _ (by rw [bothTo_len]; omega), getD_out keep _ (by omega)]; rfl
theorem vrank_both {keep : List Bool} {n : Nat} (hn : n = (verts keep).length) : ∀ u, u ≤ keep.length → vrank (bothTo keep n) u = vrank (halfTo n n) (vrank keep u)
  | 0, _ => by rw [vrank_zero, vrank_zero, vrank_zero]
  | u + 1, h => by
    have ih := vrank_both hn u (by omega)
    have hu : u < keep.length := by omega
    have hb : u < (bothTo keep n).length := by rw [bothTo_len]; exact hu
    have hg := both_get hn (u := u)
    rw [getD_in _ _ hb, getD_in _ _ hu] at hg
    cases hk : keep[u]
    · rw [hk, Bool.false_and] at hg
      rw [vrank_no hb hg, vrank_no hu hk, ih]
    · have hr := vrank_lt hu hk
      have hr' : vrank keep u < (halfTo n n).length := by rw [halfTo_len]; omega
      rw [hk, Bool.true_and, getD_in _ _ hr'] at hg
      rw [vrank_yes hu hk]
      cases hh : (halfTo n n)[vrank keep u]
      · rw [hh] at hg; rw [vrank_no hb hg, vrank_no hr' hh, ih]
      · rw [hh] at hg; rw [vrank_yes hb hg, vrank_yes hr' hh, ih]
theorem verts_both {keep : List Bool} {n : Nat} (hn : n = (verts keep).length) : (verts (bothTo keep n)).length = (verts (halfTo n n)).length := by
  have := vrank_both hn keep.length (Nat.le_refl _)
  rw [vrank_all (by rw [bothTo_len]; exact Nat.le_refl _), vrank_all (keep := keep) (Nat.le_refl _), ← hn, vrank_all (by rw [halfTo_len]; exact Nat.le_refl _)] at this
  exact this
theorem verts_half {n : Nat} (h : n ≠ 0) : (verts (halfTo n n)).length ≠ 0 := verts_ne (v := 0) (by rw [halfTo_len]; omega) (by simp [halfTo]; omega)
theorem sub_both {keep : List Bool} {n : Nat} (hn : n = (verts keep).length) {l : List Arc} (hg : ∀ k (hk : k < l.length), 0 ≤ l[k].src ∧ l[k].src < (keep.length : Int) ∧ 0 ≤ l[k].dst ∧ l[k].dst < (keep.length : Int)) :
    subArcs (bothTo keep n) l = subArcs (halfTo n n) (subArcs keep l) := by
  unfold subArcs
  rw [List.filter_map, List.map_map, List.filter_filter]
  have hf : ∀ x ∈ l, kin (bothTo keep n) x = ((kin (halfTo n n) ∘ subArc keep) x && kin keep x) := fun x hx => by
    unfold kin
    rw [both_get hn, both_get hn]
    simp only [Function.comp, subArc, Int.toNat_natCast]
    generalize keep.getD x.src.toNat false = a; generalize keep.getD x.dst.toNat false = b
    generalize (halfTo n n).getD (vrank keep x.src.toNat) false = c; generalize (halfTo n n).getD (vrank keep x.dst.toNat) false = d
    cases a <;> cases b <;> cases c <;> cases d <;> rfl
  rw [List.filter_congr hf]
  refine List.map_congr_left fun x hx => ?_
  obtain ⟨k, hk, rfl⟩ := List.mem_iff_getElem.1 (List.mem_filter.1 hx).1
  have := hg k hk
  simp only [Function.comp, subArc, Int.toNat_natCast]
  rw [vrank_both hn _ (by omega), vrank_both hn _ (by omega)]
end Go.Proofs.Ytbjiejhdgkpjcaa

/- A region is connected. -/

namespace Go.Proofs.Ytbjiejhdgkpjcaa
open Go Fly
set_option linter.unusedVariables false
set_option linter.unusedSimpArgs false
set_option linter.unusedSectionVars false

theorem marksL_keep {n : Nat} {M : List Int} {v : Nat} (h : v < (marksL n M).length) : (marksL n M)[v] = decide ((v : Int) ∈ M) := by simp [marksL]
theorem nbr_ends {v u : Int} {x : Arc} (h : u ∈ nbr v x) : (x.src = v ∧ x.dst = u) ∨ (x.dst = v ∧ x.src = u) := by
  unfold nbr at h
  split at h
  · simp at h
  · split at h
    · simp at h; exact .inl ⟨by assumption, h.symm⟩
    · split at h
      · simp at h; exact .inr ⟨by assumption, h.symm⟩
      · simp at h
theorem reg_conn {n : Nat} {l : List Arc} {cn mn : Nat} {L : List Int} (hg : (gcheck (n : Int) l).2 = 0) (hok : RegOk n l cn mn L) :
    ∀ i (h : i < L.length), Conn (ends2 (subArcs (marksL n L) l)) (vrank (marksL n L) cn) (vrank (marksL n L) L[i].toNat) := by
  obtain ⟨hrl, hrng⟩ := nbrs_rngG hg
  obtain ⟨E, hE⟩ := bfs_lev (rows := fun v : Nat => nbrs (v : Int) l) hok.c hrng
  have hLi : ∀ i (h : i < L.length), ∃ h' : i < (bfs n (fun v : Nat => nbrs (v : Int) l) cn (List.replicate n false)).1.length, L[i] = (bfs n (fun v : Nat => nbrs (v : Int) l) cn (List.replicate n false)).1[i] := by
    intro i h
    have hL := hok.is
    subst hL
    exact ⟨by rw [List.length_take] at h; omega, List.getElem_take⟩
  intro i
  induction i using Nat.strongRecOn with
  | _ i ih =>
    intro h
    obtain ⟨h', e⟩ := hLi i h
    rcases Nat.eq_zero_or_pos i with h0 | h0
    · subst h0
      have := hE.head.1
      rw [List.getElem?_eq_getElem h'] at this
      have e2 := Option.some.inj this
      rw [e, e2]; exact .refl _
    · obtain ⟨j, hj, hm, _⟩ := hE.par i h' (by rw [hE.len]; exact h') h0
      have hjL : j < L.length := by omega
      obtain ⟨hj', ej⟩ := hLi j hjL
      have c1 := ih j hj hjL
      have r1 := hok.rng _ (List.getElem_mem h)
      have r2 := hok.rng _ (List.getElem_mem hjL)
      rw [← e, ← ej] at hm
      have hm2 : L[i] ∈ nbrs (L[j]) l := by
        have h5 : L[i] ∈ nbrs ((L[j].toNat : Nat) : Int) l := hm
        rwa [Int.toNat_of_nonneg r2.1] at h5
      obtain ⟨x, hx, hux⟩ := nbrs_mem.1 hm2
      have hk : ∀ k (hk : k < L.length), (marksL n L).getD L[k].toNat false = true := fun k hk => by
        have r := hok.rng _ (List.getElem_mem hk)
        rw [marksL_at (by omega), Int.toNat_of_nonneg r.1]; simp
      have hkin : kin (marksL n L) x = true := by
        unfold kin
        rcases nbr_ends hux with ⟨h1, h2⟩ | ⟨h1, h2⟩
        · rw [h1, h2, hk j hjL, hk i h]; rfl
        · rw [h1, h2, hk i h, hk j hjL]; rfl
      have hmem : ((subArc (marksL n L) x).src.toNat, (subArc (marksL n L) x).dst.toNat) ∈ ends2 (subArcs (marksL n L) l) :=
        List.mem_map.2 ⟨_, List.mem_map.2 ⟨x, List.mem_filter.2 ⟨hx, hkin⟩, rfl⟩, rfl⟩
      have hmem2 : (vrank (marksL n L) x.src.toNat, vrank (marksL n L) x.dst.toNat) ∈ ends2 (subArcs (marksL n L) l) := by simpa [subArc] using hmem
      rcases nbr_ends hux with ⟨h1, h2⟩ | ⟨h1, h2⟩
      · rw [h1, h2] at hmem2; exact c1.step (.inl hmem2)
      · rw [h1, h2] at hmem2; exact c1.step (.inr hmem2)
theorem reg_head {n : Nat} {l : List Arc} {cn mn : Nat} {L : List Int} (hg : (gcheck (n : Int) l).2 = 0) (hok : RegOk n l cn mn L) : ∃ h : 0 < L.length, L[0] = (cn : Int) := by
  obtain ⟨hrl, hrng⟩ := nbrs_rngG hg
  obtain ⟨E, hE⟩ := bfs_lev (rows := fun v : Nat => nbrs (v : Int) l) hok.c hrng
  have hL := hok.is
  have hm := hok.m
  have hp := hE.pos
  have h0 : 0 < L.length := by rw [hL, List.length_take]; omega
  refine ⟨h0, ?_⟩
  have := hE.head.1
  rw [List.getElem?_eq_getElem hp] at this
  subst hL
  rw [List.getElem_take]; exact Option.some.inj this
/-- The parts of a region's own graph: one. -/
theorem reg_parts {n : Nat} {l : List Arc} {cn mn : Nat} {L : List Int} (hg : (gcheck (n : Int) l).2 = 0) (hok : RegOk n l cn mn L) {p : List Nat} (hp : IsParts (verts (marksL n L)).length (ends2 (subArcs (marksL n L) l)) p) : ∀ k (h : k < p.length), p[k] = 0 := by
  have hlen := hp.len
  have hc : ∀ i, i < (verts (marksL n L)).length → Conn (ends2 (subArcs (marksL n L) l)) (vrank (marksL n L) cn) i := fun i hi => by
    obtain ⟨u, hu, _, h1, h2⟩ := verts_get hi
    rw [marksL_keep hu, decide_eq_true_eq] at h1
    obtain ⟨k, hk, e⟩ := List.mem_iff_getElem.1 h1
    have := reg_conn hg hok k hk
    rw [e, Int.toNat_natCast, h2] at this
    exact this
  obtain ⟨h0, e0⟩ := reg_head hg hok
  have hcn : vrank (marksL n L) cn < (verts (marksL n L)).length := vrank_lt (v := cn) (by rw [marksL_len]; exact hok.c) (by rw [marksL_keep (by rw [marksL_len]; exact hok.c), decide_eq_true_eq, ← e0]; exact List.getElem_mem h0)
  have hz : ∀ (h : 0 < p.length), p[0] = 0 := fun h => by
    have := hp.tidy 0 h
    simpa [nxt] using this
  intro k h
  have hk := hc k (by omega)
  have h1 := hc 0 (by omega)
  have := (hp.conn k 0 (by omega) (by omega)).2 (hk.symm.trans h1)
  rw [← hz (by omega)]
  exact this
end Go.Proofs.Ytbjiejhdgkpjcaa

/- The natural cut: it is one alone, and of a right graph and a right question it is told. -/

namespace Go.Proofs.Ytbjiejhdgkpjcaa
open Go Fly
set_option linter.unusedVariables false
set_option linter.unusedSimpArgs false
set_option linter.unusedSectionVars false

theorem nc_looked {n : Nat} {l : List Arc} {c most : Int} (h0 : ncE (n : Int) l c most = 0) (hne : (regR (n : Int) l c most).1.length ≠ n) : flooked (nodeN n l c most) (cutE (prs n l) (nodeL n l c most)) 0 1 = 0 := by
  unfold ncE at h0
  by_cases h1 : (regR (n : Int) l c most).2 ≠ 0
  · rw [if_pos h1] at h0; exact absurd h0 h1
  · rw [if_neg h1, if_neg (by omega), Int.toNat_natCast] at h0; exact h0
/-- There is but one natural cut. -/
theorem nc_unique {n : Nat} {l : List Arc} {c most : Int} {C C' : List Pr} (h0 : ncE (n : Int) l c most = 0) (hC : NcΦ n l c most C) (hC' : NcΦ n l c most C') : C = C' := by
  by_cases e : (regR (n : Int) l c most).1.length = n
  · rw [hC.1 e, hC'.1 e]
  · obtain ⟨f, V, sd, hl, hF, hS, rfl⟩ := hC.2 e
    obtain ⟨f', V', sd', hl', hF', hS', rfl⟩ := hC'.2 e
    have hf := nc_looked h0 e
    obtain ⟨hk, _, hk1, _, hk2, _⟩ := flooked_zero hf
    obtain ⟨hz1, hz2, hz3, hz4⟩ := ncheck_zero hk
    have he : NetOk (nodeN n l c most).toNat (cutE (prs n l) (nodeL n l c most)) := fun x hx => by
      obtain ⟨j, hj, rfl⟩ := List.mem_iff_getElem.1 hx
      have := hz4 j hj; omega
    have hsame := (Side.same he (by omega) hF hF' hS hS').2
    have : sd = sd' := List.ext_getElem (by omega) fun i h1 h2 => by
      have := hsame i (by omega)
      simpa [List.getD_eq_getElem?_getD, h1, h2] using this
    rw [this]
theorem prs_few {n : Nat} {l : List Arc} (hg : ∀ a ∈ l, (0 ≤ a.src ∧ a.src < (n : Int)) ∧ 0 ≤ a.dst ∧ a.dst < (n : Int)) : (prs n l).length ≤ l.length := by
  have hnd : (prs n l).Nodup := (prs_sorted n l).imp fun {a b} h e => by subst e; unfold ltX at h; omega
  have h1 := List.Nodup.length_le_of_subset hnd (l₂ := prRaw l) fun p hp => (mem_prs hg).1 hp
  refine Nat.le_trans h1 ?_
  unfold prRaw
  rw [List.length_map]; exact List.length_filter_le _ _
/-- A right question is answered. -/
theorem nc_zero {n : Nat} {l : List Arc} {c most : Int} (h : (regR (n : Int) l c most).2 = 0) : ncE (n : Int) l c most = 0 := by
  unfold ncE
  rw [if_neg (by rw [h]; simp)]
  by_cases e : ((regR (n : Int) l c most).1.length : Int) = n
  · rw [if_pos e]
  · rw [if_neg e, Int.toNat_natCast]
    obtain ⟨hg, n', cn, mn, en, rfl, rfl, hok⟩ := reg_ok h
    obtain rfl : n = n' := by omega
    obtain ⟨hg1, hg2, hg3, hg4⟩ := gcheck_zero hg
    have hgood : ∀ a ∈ l, (0 ≤ a.src ∧ a.src < (n : Int)) ∧ 0 ≤ a.dst ∧ a.dst < (n : Int) := fun a ha => by
      obtain ⟨i, hi, rfl⟩ := List.mem_iff_getElem.1 ha
      have := hg4 i hi; omega
    have hle : (regR (n : Int) l (cn : Int) (mn : Int)).1.length ≤ n := ints_card hok.rng hok.nd
    have hpos : 0 < (regR (n : Int) l (cn : Int) (mn : Int)).1.length := (reg_head hg hok).1
    have hcl : (coreR (n : Int) l (cn : Int) (mn : Int)).1.length = min (((regR (n : Int) l (cn : Int) (mn : Int)).1.length + 3) / 4) (regR (n : Int) l (cn : Int) (mn : Int)).1.length := by unfold coreR; simp only [List.length_take]
    have hN : nodeN n l (cn : Int) (mn : Int) = 2 + ((regR (n : Int) l (cn : Int) (mn : Int)).1.length : Int) - ((coreR (n : Int) l (cn : Int) (mn : Int)).1.length : Int) := rfl
    have hrng := ndTo_rng (regR (n : Int) l (cn : Int) (mn : Int)).1 (coreR (n : Int) l (cn : Int) (mn : Int)).1.length n (regR (n : Int) l (cn : Int) (mn : Int)).1.length (by omega) _ (Nat.le_refl _)
    have hnl : (nodeL n l (cn : Int) (mn : Int)).length = n := ndTo_len _ _ _ _
    have hfew := prs_few hgood
    have hlen := cutE_len (nodeL n l (cn : Int) (mn : Int)) (prs n l)
    have hnd : ∀ u : Int, 0 ≤ u → u < (n : Int) → 0 ≤ nd (nodeL n l (cn : Int) (mn : Int)) u ∧ nd (nodeL n l (cn : Int) (mn : Int)) u < nodeN n l (cn : Int) (mn : Int) := fun u hu1 hu2 => by
      rw [nd_at (by omega)]
      have := hrng _ (List.getElem_mem (show u.toNat < (nodeL n l (cn : Int) (mn : Int)).length by omega))
      rw [hN]; exact this
    have hk : ncheck (nodeN n l (cn : Int) (mn : Int)) (cutE (prs n l) (nodeL n l (cn : Int) (mn : Int))) = (0, 0) := ncheck_ok (by omega) (by omega) fun j hj => by
      have hm := List.getElem_mem hj
      obtain ⟨p, hp, hq⟩ := List.mem_flatMap.1 hm
      have hr := prs_rng hp
      have h1 := hnd p.1 hr.1.1 hr.1.2
      have h2 := hnd p.2 hr.2.1 hr.2.2
      generalize (cutE (prs n l) (nodeL n l (cn : Int) (mn : Int)))[j] = x at hq
      split at hq
      · simp only [List.mem_cons, List.not_mem_nil, or_false] at hq
        rcases hq with rfl | rfl <;> (unfold arcBad; simp; omega)
      · cases hq
    unfold flooked
    rw [hk, if_neg (by decide), if_neg (by omega), if_neg (by decide)]
end Go.Proofs.Ytbjiejhdgkpjcaa

/- natcut.Marks: the pairs of many cuts. -/
namespace Go.Proofs.Ytbjiejhdgkpjcaa
open Go Go.RowKit Fly
set_option linter.unusedVariables false
set_option linter.unusedSimpArgs false


def mkE (N : Int) (l : List Arc) (cs : List Int) (most : Int) : Int := if (gcheck N l).2 ≠ 0 then (gcheck N l).2 else if 16384 < cs.length then 2 else if most < 1 ∨ 1024 < most then 1 else if cs.any (offV N) then 5 else 0
structure Td (cs : List Int) (ents : List (Int × Value × Nat)) : Prop where
  yes : ∀ q ∈ cs, ∃ c : Int, mget ents q = some (.int .i64 c) ∧ 1 ≤ c ∧ c ≤ (cs.length : Int)
  no : ∀ q, q ∉ cs → mget ents q = none
theorem Td.nil : Td [] [] where
  yes := fun q hq => by cases hq
  no := fun q _ => rfl
theorem Td.val {cs : List Int} {ents : List (Int × Value × Nat)} (h : Td cs ents) (q : Int) : ∃ c : Int, (mget ents q).getD (.int .i64 0) = .int .i64 c ∧ 0 ≤ c ∧ c ≤ (cs.length : Int) := by
  by_cases hq : q ∈ cs
  · obtain ⟨c, h1, h2, h3⟩ := h.yes q hq
    exact ⟨c, by rw [h1]; rfl, by omega, h3⟩
  · exact ⟨0, by rw [h.no q hq]; rfl, by omega, by omega⟩
theorem Td.add {cs : List Int} {ents : List (Int × Value × Nat)} (h : Td cs ents) {q : Int} {c : Int} (h0 : 0 ≤ c) (h1 : c ≤ (cs.length : Int)) (k : Nat) : Td (cs ++ [q]) (mput ents q (.int .i64 (c + 1)) k) where
  yes := fun x hx => by
    rw [mget_put]
    by_cases e : x = q
    · rw [if_pos e]; exact ⟨_, rfl, by omega, by simp; omega⟩
    · rw [if_neg e]
      rcases List.mem_append.1 hx with hx | hx
      · obtain ⟨d, h2, h3, h4⟩ := h.yes x hx
        exact ⟨d, h2, h3, by simp; omega⟩
      · exact absurd (List.mem_singleton.1 hx) e
  no := fun x hx => by
    rw [mget_put, if_neg (fun e => hx (by simp [e]))]
    exact h.no x fun hm => hx (by simp [hm])
/-- While the centres are gone through: who has been met is gone. -/
structure Tg (cs : List Int) (k : Nat) (ents : List (Int × Value × Nat)) : Prop where
  gone : ∀ v ∈ cs.take k, mget ents v = none
  left : ∀ v ∈ cs, v ∉ cs.take k → ∃ c : Int, mget ents v = some (.int .i64 c) ∧ 1 ≤ c
theorem Tg.val {cs : List Int} {k : Nat} {ents : List (Int × Value × Nat)} (h : Tg cs k ents) {v : Int} (hv : v ∈ cs) : ∃ c : Int, (mget ents v).getD (.int .i64 0) = .int .i64 c ∧ (c = 0 ↔ v ∈ cs.take k) := by
  by_cases hm : v ∈ cs.take k
  · exact ⟨0, by rw [h.gone v hm]; rfl, by simp [hm]⟩
  · obtain ⟨c, h1, h2⟩ := h.left v hv hm
    exact ⟨c, by rw [h1]; rfl, by constructor; intro e; omega; intro e; exact absurd e hm⟩
theorem Tg.skip {cs : List Int} {k : Nat} {ents : List (Int × Value × Nat)} (h : Tg cs k ents) (hk : k < cs.length) (hm : cs[k] ∈ cs.take k) : Tg cs (k + 1) ents where
  gone := fun v hv => by
    rw [List.take_succ_eq_append_getElem hk] at hv
    rcases List.mem_append.1 hv with hv | hv
    · exact h.gone v hv
    · obtain rfl := List.mem_singleton.1 hv; exact h.gone _ hm
  left := fun v hv hn => h.left v hv fun hm' => hn (by rw [List.take_succ_eq_append_getElem hk]; exact List.mem_append_left _ hm')
theorem Tg.del {cs : List Int} {k : Nat} {ents : List (Int × Value × Nat)} (h : Tg cs k ents) (hn : (ents.map (·.1)).Nodup) (hk : k < cs.length) : Tg cs (k + 1) (mdel ents cs[k]) where
  gone := fun v hv => by
    rw [mget_del hn]
    split
    · rfl
    · rename_i hne
      rw [List.take_succ_eq_append_getElem hk] at hv
      rcases List.mem_append.1 hv with hv | hv
      · exact h.gone v hv
      · exact absurd (List.mem_singleton.1 hv) hne
  left := fun v hv hn' => by
    rw [List.take_succ_eq_append_getElem hk] at hn'
    rw [mget_del hn, if_neg (fun e => hn' (List.mem_append_right _ (by rw [e]; exact List.mem_singleton.2 rfl)))]
    exact h.left v hv fun hm' => hn' (List.mem_append_left _ hm')
/-- All pairs of some centres' cuts. -/
def OutI (n : Nat) (l : List Arc) (most : Int) (done : List Int) (O : List Pr) : Prop := ∀ p, p ∈ O ↔ ∃ v ∈ done, ∃ C, NcΦ n l v most C ∧ p ∈ C
theorem OutI.skip {n : Nat} {l : List Arc} {most : Int} {cs : List Int} {k : Nat} {O : List Pr} (h : OutI n l most (cs.take k) O) (hk : k < cs.length) (hm : cs[k] ∈ cs.take k) : OutI n l most (cs.take (k + 1)) O := fun p => by
  rw [h p, List.take_succ_eq_append_getElem hk]
  constructor
  · rintro ⟨v, hv, h2⟩; exact ⟨v, List.mem_append_left _ hv, h2⟩
  · rintro ⟨v, hv, h2⟩
    rcases List.mem_append.1 hv with hv | hv
    · exact ⟨v, hv, h2⟩
    · obtain rfl := List.mem_singleton.1 hv; exact ⟨_, hm, h2⟩
theorem OutI.add {n : Nat} {l : List Arc} {most : Int} {cs : List Int} {k : Nat} {O C : List Pr} (h : OutI n l most (cs.take k) O) (hk : k < cs.length) (h0 : ncE (n : Int) l cs[k] most = 0) (hC : NcΦ n l cs[k] most C) : OutI n l most (cs.take (k + 1)) (O ++ C) := fun p => by
  rw [List.mem_append, h p, List.take_succ_eq_append_getElem hk]
  constructor
  · rintro (⟨v, hv, h2⟩ | hp)
    · exact ⟨v, List.mem_append_left _ hv, h2⟩
    · exact ⟨cs[k], List.mem_append_right _ (List.mem_singleton.2 rfl), C, hC, hp⟩
  · rintro ⟨v, hv, C', hC', hp⟩
    rcases List.mem_append.1 hv with hv | hv
    · exact .inl ⟨v, hv, C', hC', hp⟩
    · obtain rfl := List.mem_singleton.1 hv
      exact .inr (by rw [nc_unique h0 hC hC']; exact hp)
theorem reg_zeroN {n : Nat} {l : List Arc} {c most : Int} (hg : (gcheck (n : Int) l).2 = 0) (hc : 0 ≤ c ∧ c < (n : Int)) (hm : 1 ≤ most ∧ most ≤ 1024) : (regR (n : Int) l c most).2 = 0 := by
  unfold regR
  rw [if_neg (by rw [hg]; simp), if_neg (by omega), if_neg (by omega)]
theorem nc_sub {n : Nat} {l : List Arc} {c most : Int} {C : List Pr} (h : NcΦ n l c most C) : (∀ p ∈ C, p ∈ prs n l) ∧ C.length ≤ (prs n l).length := by
  by_cases e : (regR (n : Int) l c most).1.length = n
  · rw [h.1 e]; exact ⟨fun p hp => (by cases hp), Nat.zero_le _⟩
  · obtain ⟨_, _, _, _, _, _, rfl⟩ := h.2 e
    exact ⟨fun p hp => (List.mem_filter.1 hp).1, List.length_filter_le _ _⟩
theorem prs_one (C : List Pr) : (C.flatMap prCs).all (·.oneCell') = true := by
  rw [List.all_eq_true]
  intro v hv
  obtain ⟨p, _, hp⟩ := List.mem_flatMap.1 hv
  simp only [prCs, List.mem_cons, List.not_mem_nil, or_false] at hp
  rcases hp with rfl | rfl <;> rfl

set_option maxRecDepth 100000 in
set_option maxHeartbeats 4000000 in
theorem Marks1_spec (N : Int) (A : Option Addr) (len cap b : Nat) (i : Int) (w : World) (h2 : Ro (Fr w []) w (some ⟨b, 0, none⟩) [.int .i64 N, .slice A len cap]) :
    Meets Try.prog 44 ([.int .i64 i] ++ [.pointer (some ⟨b, 0, none⟩)]) w [] (fun u m => u = .bool (offV N i) ∧ m = []) := by
 obtain ⟨b', o', e', hS2, hc2⟩ := h2 (by simp)
 obtain ⟨rfl, rfl⟩ : b = b' ∧ 0 = o' := by cases e'; exact ⟨rfl, rfl⟩
 refine f_enter Try.func44 rfl Try.ntmps44 rfl Owns.nil ?_
 refine f_seq fun K1 kh1 => ?_
 refine f_region ?_
 refine f_stepP rfl rfl rfl (o_assign rfl) ?_
 refine f_done ?_
 refine f_tn (kh1 _ _ ?_)
 clear kh1
 refine f_seq fun K2 kh2 => ?_
 refine f_region ?_
 refine f_stepP rfl rfl rfl (o_move rfl) ?_
 refine f_stepP rfl rfl rfl (o_lss rfl rfl) ?_
 refine f_stepP rfl rfl rfl (o_move rfl) ?_
 refine f_splitL 6 rfl (fun g6 => ?_) (fun g6 => ?_)
 ·
  refine f_stepN rfl rfl rfl rfl rfl rfl ?_
  refine f_stepN rfl rfl rfl rfl rfl rfl ?_
  refine f_stepN rfl rfl rfl rfl rfl rfl ?_
  refine f_stepN rfl rfl rfl rfl rfl rfl ?_
  refine f_stepP rfl rfl rfl (o_pickT rfl rfl) ?_
  refine f_stepP rfl rfl rfl (o_assign rfl) ?_
  refine f_done ?_
  refine f_tn (kh2 _ _ ?_)
  clear kh2
  refine f_ret ?_
  exact f_fin1 [] Try.results44 rfl Sub.nil ⟨by unfold offV; rw [decide_eq_true (.inl g6)], rfl⟩
 ·
  refine f_stepPY rfl rfl rfl rfl rfl (o_move rfl) ?_
  refine f_stepPY rfl rfl rfl rfl rfl (o_field fa24_0 rfl) ?_
  refine f_stepPY rfl rfl rfl rfl rfl (o_load Try.isAgg3 rfl (rdS hS2 (hc2 0 _ rfl))) ?_
  refine f_stepPY rfl rfl rfl rfl rfl (o_geq rfl rfl) ?_
  refine f_stepP rfl rfl rfl (o_pickF rfl rfl) ?_
  refine f_stepP rfl rfl rfl (o_assign rfl) ?_
  refine f_done ?_
  refine f_tn (kh2 _ _ ?_)
  clear kh2
  refine f_ret ?_
  exact f_fin1 [] Try.results44 rfl Sub.nil ⟨by unfold offV; congr 1; apply decide_eq_decide.2; omega, rfl⟩

set_option maxRecDepth 100000 in
set_option maxHeartbeats 4000000 in
theorem Marks_spec (N : Int) (A B : Option Addr) (l : List Arc) (cap : Nat) (cs : List Int) (cb : Nat) (most : Int) (w : World) (hr : Ro (Fr w []) w A (l.flatMap arcCs)) (hl : l.length ≤ 9223372036854775807) (hN : I64 N) (hok : ∀ x ∈ l, ArcOk x) (hL : Ro (Fr w []) w B (ints cs)) (hm : cs.length ≤ 9223372036854775807) :
    Meets Try.prog 23 [.agg #[.int .i64 N, .slice A l.length cap], .slice B cs.length cb, .int .i64 most] w [] (fun u own' => ∃ (M : List Pr) (A' : Option Addr) (c2 : Nat) (m' : Seg), u = .tuple #[.slice A' M.length M.length, .int .i64 (mkE N l cs most)] ∧ own' = [m'] ∧ Own 47 2 (.slice A' M.length c2) M.length (M.flatMap prCs) m' ∧ (mkE N l cs most ≠ 0 → M = []) ∧ (mkE N l cs most = 0 → M.Pairwise ltX ∧ OutI N.toNat l most cs M)) := by
 refine f_enter Try.func23 rfl Try.ntmps23 rfl Owns.nil ?_
 refine f_seq fun K1 kh1 => ?_
 refine f_region ?_
 refine f_step rfl rfl rfl (o_box rfl rfl fun b3 => ?_)
 refine f_stepP rfl rfl rfl (o_assign rfl) ?_
 refine f_stepP rfl rfl rfl (o_assign rfl) ?_
 refine f_done ?_
 refine f_tn (kh1 _ _ ?_)
 clear kh1
 refine f_seq fun K2 kh2 => ?_
 refine f_seq fun K3 kh3 => ?_
 refine f_region ?_
 refine f_stepP rfl rfl rfl (o_loadA (vs := [_, _]) Try.isAgg24 Try.sizeOf24 rfl rfl ⟨(rdA rfl), (rdA rfl), trivial⟩) ?_
 refine f_step rfl rfl rfl (o_call Try.call37 rfl (fun w_ hp_ => Check_spec N A l cap w_ (hr.up0 hp_) hl hN hok) ?_)
 rintro _ _ ⟨rfl, rfl⟩
 dsimp only [List.cons_append, List.nil_append]
 refine f_stepP rfl rfl rfl (o_move rfl) ?_
 refine f_stepP rfl rfl rfl (o_extract rfl rfl) ?_
 refine f_stepP rfl rfl rfl (o_extract rfl rfl) ?_
 refine f_stepP rfl rfl rfl (o_assign rfl) ?_
 refine f_stepP rfl rfl rfl (o_assign rfl) ?_
 refine f_done ?_
 refine f_tn (kh3 _ _ ?_)
 clear kh3
 refine f_seq fun K4 kh4 => ?_
 refine f_region ?_
 refine f_stepP rfl rfl rfl (o_move rfl) ?_
 refine f_stepP rfl rfl rfl (o_neq rfl rfl) ?_
 refine f_done ?_
 refine f_tn (kh4 _ _ ?_)
 clear kh4
 refine f_cond rfl (fun c24 => ?_) (fun c24 => ?_)
 ·
  refine f_seq fun K5 kh5 => ?_
  refine f_region ?_
  refine f_stepP rfl rfl rfl (o_move rfl) ?_
  refine f_stepP rfl rfl rfl (o_assign rfl) ?_
  refine f_stepP rfl rfl rfl (o_assign rfl) ?_
  refine f_done ?_
  refine f_tn (kh5 _ _ ?_)
  clear kh5
  refine f_ret ?_
  refine f_tr ?_
  have c24' : (gcheck N l).2 ≠ 0 := by simpa using c24
  have he : mkE N l cs most = (gcheck N l).2 := by unfold mkE; rw [if_pos c24']
  exact f_fin2 [[]] Try.results23 rfl rfl (show Fly.Sub _ [[]] from (by repeat (first | exact Sub.nil | refine Sub.pick ?_ | refine Sub.castO rfl ?_ | refine Sub.skip ?_))) ⟨[], none, 0, [], by rw [he]; rfl, rfl, Own.nil _ _, fun _ => rfl, fun h => absurd (he.symm.trans h) c24'⟩
 ·
  have hg : (gcheck N l).2 = 0 := by simpa using c24
  obtain ⟨hg1, hg2, hgl, hgd⟩ := gcheck_zero hg
  obtain ⟨n, rfl⟩ : ∃ n : Nat, N = (n : Int) := ⟨N.toNat, by omega⟩
  have hn1 : n ≤ 1024 := by omega
  have hpl := prs_len hn1 l
  refine f_skip ?_
  refine f_tn (kh2 _ _ ?_)
  clear kh2
  refine f_seq fun K6 kh6 => ?_
  refine f_block ?_
  refine f_seq fun K7 kh7 => ?_
  refine f_region ?_
  refine f_stepP rfl rfl rfl (o_move rfl) ?_
  refine f_stepP rfl rfl rfl (o_len sl35 rfl) ?_
  refine f_stepP rfl rfl rfl (o_gtr rfl rfl) ?_
  refine f_stepP rfl rfl rfl (o_assign rfl) ?_
  refine f_done ?_
  refine f_tn (kh7 _ _ ?_)
  clear kh7
  refine f_cond rfl (fun c26 => ?_) (fun c26 => ?_)
  ·
   refine f_seq fun K8 kh8 => ?_
   refine f_region ?_
   refine f_stepP rfl rfl rfl (o_assign rfl) ?_
   refine f_stepP rfl rfl rfl (o_assign rfl) ?_
   refine f_done ?_
   refine f_tn (kh8 _ _ ?_)
   clear kh8
   refine f_ret ?_
   refine f_br ?_
   refine f_tr ?_
   have he : mkE (n : Int) l cs most = 2 := by unfold mkE; rw [if_neg (by rw [hg]; simp), if_pos (by omega)]
   exact f_fin2 [[]] Try.results23 rfl rfl (show Fly.Sub _ [[]] from (by repeat (first | exact Sub.nil | refine Sub.pick ?_ | refine Sub.castO rfl ?_ | refine Sub.skip ?_))) ⟨[], none, 0, [], by rw [he]; rfl, rfl, Own.nil _ _, fun _ => rfl, fun h => by rw [he] at h; cases h⟩
  ·
   refine f_seq fun K9 kh9 => ?_
   refine f_region ?_
   refine f_stepP rfl rfl rfl (o_move rfl) ?_
   refine f_stepP rfl rfl rfl (o_lss rfl rfl) ?_
   refine f_stepP rfl rfl rfl (o_move rfl) ?_
   refine f_splitL 33 rfl (fun g33 => ?_) (fun g33 => ?_)
   ·
    refine f_stepN rfl rfl rfl rfl rfl rfl ?_
    refine f_stepN rfl rfl rfl rfl rfl rfl ?_
    refine f_stepP rfl rfl rfl (o_pickT rfl rfl) ?_
    refine f_stepP rfl rfl rfl (o_assign rfl) ?_
    refine f_done ?_
    refine f_tn (kh9 _ _ ?_)
    clear kh9
    refine f_condT rfl ?_
    refine f_seq fun K10 kh10 => ?_
    refine f_region ?_
    refine f_stepP rfl rfl rfl (o_assign rfl) ?_
    refine f_stepP rfl rfl rfl (o_assign rfl) ?_
    refine f_done ?_
    refine f_tn (kh10 _ _ ?_)
    clear kh10
    refine f_ret ?_
    refine f_br ?_
    refine f_tr ?_
    have he : mkE (n : Int) l cs most = 1 := by unfold mkE; rw [if_neg (by rw [hg]; simp), if_neg (by omega), if_pos (by omega)]
    exact f_fin2 [[]] Try.results23 rfl rfl (show Fly.Sub _ [[]] from (by repeat (first | exact Sub.nil | refine Sub.pick ?_ | refine Sub.castO rfl ?_ | refine Sub.skip ?_))) ⟨[], none, 0, [], by rw [he]; rfl, rfl, Own.nil _ _, fun _ => rfl, fun h => by rw [he] at h; cases h⟩
   ·
    refine f_stepPY rfl rfl rfl rfl rfl (o_move rfl) ?_
    refine f_stepPY rfl rfl rfl rfl rfl (o_gtr rfl rfl) ?_
    refine f_stepP rfl rfl rfl (o_pickF rfl rfl) ?_
    refine f_stepP rfl rfl rfl (o_assign rfl) ?_
    refine f_done ?_
    refine f_tn (kh9 _ _ ?_)
    clear kh9
    refine f_cond rfl (fun c30 => ?_) (fun c30 => ?_)
    ·
     refine f_seq fun K11 kh11 => ?_
     refine f_region ?_
     refine f_stepP rfl rfl rfl (o_assign rfl) ?_
     refine f_stepP rfl rfl rfl (o_assign rfl) ?_
     refine f_done ?_
     refine f_tn (kh11 _ _ ?_)
     clear kh11
     refine f_ret ?_
     refine f_br ?_
     refine f_tr ?_
     have he : mkE (n : Int) l cs most = 1 := by unfold mkE; rw [if_neg (by rw [hg]; simp), if_neg (by omega), if_pos (by omega)]
     exact f_fin2 [[]] Try.results23 rfl rfl (show Fly.Sub _ [[]] from (by repeat (first | exact Sub.nil | refine Sub.pick ?_ | refine Sub.castO rfl ?_ | refine Sub.skip ?_))) ⟨[], none, 0, [], by rw [he]; rfl, rfl, Own.nil _ _, fun _ => rfl, fun h => by rw [he] at h; cases h⟩
    ·
     refine f_seq fun K12 kh12 => ?_
     refine f_region ?_
     refine f_stepP rfl rfl rfl (o_move rfl) ?_
     refine f_stepP rfl rfl rfl (o_func rfl rfl) ?_
     refine f_step rfl rfl rfl (o_call Try.call43 rfl (fun w_ hp_ => ContG_spec B cs cb (offV (n : Int)) 44 [.pointer (some ⟨b3, 0, none⟩)] w_ (hL.up0 hp_) hm Try.call44 (fun w' hs i hi => Marks1_spec (n : Int) A l.length cap b3 i w' (heldRo hp_ hs))) ?_)
     rintro _ _ ⟨rfl, rfl⟩
     dsimp only [List.cons_append, List.nil_append]
     refine f_stepP rfl rfl rfl (o_assign rfl) ?_
     refine f_done ?_
     refine f_tn (kh12 _ _ ?_)
     clear kh12
     refine f_condB rfl (fun c37 => ?_) (fun c37 => ?_)
     ·
      refine f_seq fun K13 kh13 => ?_
      refine f_region ?_
      refine f_stepP rfl rfl rfl (o_assign rfl) ?_
      refine f_stepP rfl rfl rfl (o_assign rfl) ?_
      refine f_done ?_
      refine f_tn (kh13 _ _ ?_)
      clear kh13
      refine f_ret ?_
      refine f_br ?_
      refine f_tr ?_
      have he : mkE (n : Int) l cs most = 5 := by unfold mkE; rw [if_neg (by rw [hg]; simp), if_neg (by omega), if_neg (by omega), if_pos c37]
      exact f_fin2 [[]] Try.results23 rfl rfl (show Fly.Sub _ [[]] from (by repeat (first | exact Sub.nil | refine Sub.pick ?_ | refine Sub.castO rfl ?_ | refine Sub.skip ?_))) ⟨[], none, 0, [], by rw [he]; rfl, rfl, Own.nil _ _, fun _ => rfl, fun h => by rw [he] at h; cases h⟩
     ·
      have hoff : ∀ v ∈ cs, 0 ≤ v ∧ v < (n : Int) := fun v hv => by
        have h1 := List.any_eq_false.1 c37 v hv
        unfold offV at h1
        simp at h1; omega
      refine f_skip ?_
      refine f_bn ?_
      refine f_tn (kh6 _ _ ?_)
      clear kh6
      refine f_seq fun K14 kh14 => ?_
      refine f_region ?_
      refine f_step rfl rfl rfl (o_makeMap fun b41 => ?_)
      refine f_stepP rfl rfl rfl (o_assign rfl) ?_
      refine f_done ?_
      refine f_tn (kh14 _ _ ?_)
      clear kh14
      refine f_seq fun K15 kh15 => ?_
      refine f_seq fun K16 kh16 => ?_
      refine f_region ?_
      refine f_stepP rfl rfl rfl (o_move rfl) ?_
      refine f_stepP rfl rfl rfl (o_len sl35 rfl) ?_
      refine f_stepP rfl rfl rfl (o_move rfl) ?_
      refine f_done ?_
      refine f_tn (kh16 _ _ ?_)
      clear kh16
      refine f_block ?_
      refine f_loop (α := Nat × List (Int × Value × Nat) × Nat) [1, 2, 3, 10, 42, 43] (fun ⟨k, ents, c1⟩ => [(44, .int .i64 (k : Int))]) (fun ⟨k, ents, c1⟩ => [[(b41, mobj (fun x : Int => .int .i64 x) ents c1)], [(b3, blk [.int .i64 (n : Int), .slice A l.length cap] 24)]]) (fun ⟨k, ents, c1⟩ => k ≤ cs.length ∧ MOk ents c1 ∧ Td (cs.take k) ents) (fun ⟨k, ents, c1⟩ => cs.length - k) (0, [], 0) ?_ ?_ ?_ ?_
      · exact (by repeat (first | exact trivial | refine ⟨rfl, ?_⟩))
      · repeat (first | exact Sub.nil | refine Sub.pick ?_ | refine Sub.castO rfl ?_ | refine Sub.skip ?_)
      · exact ⟨by omega, MOk.nil, Td.nil⟩
      ·
       rintro ⟨k, ents, c1⟩ ⟨hkl, hmap, htd⟩
       refine f_seq fun K17 kh17 => ?_
       refine f_region ?_
       refine f_stepP rfl rfl rfl (o_lss rfl rfl) ?_
       refine f_done ?_
       refine f_tn (kh17 _ _ ?_)
       clear kh17
       refine f_seq fun K18 kh18 => ?_
       refine f_cond rfl (fun c45 => ?_) (fun c45 => ?_)
       ·
        have hk : k < cs.length := by omega
        obtain ⟨bb, ob, rfl, hSb, hcb⟩ := hL (fun e => by have := ints_length cs; rw [e] at this; simp at this; omega)
        obtain ⟨c, hc, hc0, hc1⟩ := htd.val cs[k]
        have htk : cs.take (k + 1) = cs.take k ++ [cs[k]] := List.take_succ_eq_append_getElem hk
        have hti : (cs.take k).length = k := by rw [List.length_take]; omega
        have htd2 := htd.add (q := cs[k]) hc0 hc1 c1
        rw [← htk] at htd2
        rw [hti] at hc1
        refine f_skip ?_
        refine f_tn (kh18 _ _ ?_)
        clear kh18
        refine f_seq fun K19 kh19 => ?_
        refine f_block ?_
        refine f_seq fun K20 kh20 => ?_
        refine f_region ?_
        refine f_stepP rfl rfl rfl (o_idx sl35 rfl rfl (ob + k) ⟨by omega, by omega, by first | omega | (simp; done) | (simp; omega)⟩) ?_
        refine f_stepP rfl rfl rfl (o_load Try.isAgg3 rfl (roOne (enc := (.int .i64 ·)) hSb hcb hk)) ?_
        refine f_stepP rfl rfl rfl (o_assign rfl) ?_
        refine f_done ?_
        refine f_tn (kh20 _ _ ?_)
        clear kh20
        refine f_region ?_
        refine f_stepP rfl rfl rfl (o_move rfl) ?_
        refine f_stepP rfl rfl rfl (o_move rfl) ?_
        refine f_stepP rfl rfl rfl (o_lookup kt82 Try.zeroValue3 rfl rfl rfl (.int .i64 c) hc) ?_
        refine f_stepP rfl rfl rfl (o_add rfl rfl _ (wrap_i64 (by omega))) ?_
        refine f_step0 rfl rfl (o_mapUpdate kt82 rfl rfl rfl rfl ?_)
        refine f_done ?_
        refine f_bn ?_
        refine f_tn (kh19 _ _ ?_)
        clear kh19
        refine f_region ?_
        refine f_stepP rfl rfl rfl (o_add rfl rfl _ (wrap_i64 (by omega))) ?_
        refine f_stepP rfl rfl rfl (o_move rfl) ?_
        refine f_done ?_
        refine f_tn (f_again (k + 1, mput ents cs[k] (.int .i64 (c + 1)) c1, mclock ents cs[k] c1) (by first | omega | (dsimp only; omega) | (simp; omega)) ⟨by omega, hmap.put _ _, htd2⟩ ?_ ?_ ?_)
        · exact (by repeat (first | exact trivial | refine ⟨rfl, ?_⟩))
        · exact (by repeat (first | exact trivial | refine ⟨rfl, ?_⟩))
        · repeat (first | exact Sub.nil | refine Sub.pick ?_ | refine Sub.castO rfl ?_ | refine Sub.skip ?_)
       ·
        obtain rfl : k = cs.length := by omega
        rw [List.take_length] at htd
        refine f_exit ?_
        refine f_te ?_
        clear kh18
        refine f_te ?_
        refine f_be ?_
        refine f_tn (kh15 _ _ ?_)
        clear kh15
        refine f_seq fun K21 kh21 => ?_
        refine f_region ?_
        refine f_stepP rfl rfl rfl (o_assign rfl) ?_
        refine f_done ?_
        refine f_tn (kh21 _ _ ?_)
        clear kh21
        refine f_seq fun K22 kh22 => ?_
        refine f_seq fun K23 kh23 => ?_
        refine f_region ?_
        refine f_stepP rfl rfl rfl (o_move rfl) ?_
        refine f_stepP rfl rfl rfl (o_len sl35 rfl) ?_
        refine f_stepP rfl rfl rfl (o_move rfl) ?_
        refine f_done ?_
        refine f_tn (kh23 _ _ ?_)
        clear kh23
        refine f_block ?_
        refine f_loop (α := Nat × List (Int × Value × Nat) × Nat × List Pr × Value × Seg) [2, 3, 10, 53, 54] (fun ⟨k, ents, c1, O, vo, mo⟩ => [(55, .int .i64 (k : Int)), (13, vo)]) (fun ⟨k, ents, c1, O, vo, mo⟩ => [[(b41, mobj (fun x : Int => .int .i64 x) ents c1)], mo, [(b3, blk [.int .i64 (n : Int), .slice A l.length cap] 24)]]) (fun ⟨k, ents, c1, O, vo, mo⟩ => k ≤ cs.length ∧ MOk ents c1 ∧ Tg cs k ents ∧ Own 47 2 vo O.length (O.flatMap prCs) mo ∧ OutI n l most (cs.take k) O ∧ O.length ≤ k * 8192) (fun ⟨k, ents, c1, O, vo, mo⟩ => cs.length - k) (0, ents, c1, [], .slice none 0 0, []) ?_ ?_ ?_ ?_
        · exact (by repeat (first | exact trivial | refine ⟨rfl, ?_⟩))
        · repeat (first | exact Sub.nil | refine Sub.pick ?_ | refine Sub.castO rfl ?_ | refine Sub.skip ?_)
        · exact ⟨by omega, hmap, ⟨fun v hv => by simp at hv, fun v hv _ => by obtain ⟨c, h1, h2, _⟩ := htd.yes v hv; exact ⟨c, h1, h2⟩⟩, Own.nil _ _, fun p => by simp, by simp⟩
        ·
         rintro ⟨k, ents, c1, O, vo, mo⟩ ⟨hkl, hmap, htg, hO, hOI, hOl⟩
         obtain ⟨Ao, co, rfl, hco⟩ := hO.val
         refine f_envC (e := [(55, _), (13, _), (2, _), (3, _), (10, _), (53, _), (54, _)]) (by repeat (first | exact trivial | refine ⟨rfl, ?_⟩)) ?_
         refine f_seq fun K24 kh24 => ?_
         refine f_region ?_
         refine f_stepP rfl rfl rfl (o_lss rfl rfl) ?_
         refine f_done ?_
         refine f_tn (kh24 _ _ ?_)
         clear kh24
         refine f_seq fun K25 kh25 => ?_
         refine f_cond rfl (fun c56 => ?_) (fun c56 => ?_)
         ·
          have hk : k < cs.length := by omega
          obtain ⟨bb, ob, rfl, hSb, hcb⟩ := hL (fun e => by have := ints_length cs; rw [e] at this; simp at this; omega)
          have hkm := List.getElem_mem hk
          obtain ⟨c, hc, hciff⟩ := htg.val hkm
          have hnz := nc_zero (reg_zeroN (most := most) hg (hoff _ hkm) (by omega))
          refine f_skip ?_
          refine f_tn (kh25 _ _ ?_)
          clear kh25
          refine f_seq fun K26 kh26 => ?_
          refine f_block ?_
          refine f_seq fun K27 kh27 => ?_
          refine f_region ?_
          refine f_stepP rfl rfl rfl (o_idx sl35 rfl rfl (ob + k) ⟨by omega, by omega, by first | omega | (simp; done) | (simp; omega)⟩) ?_
          refine f_stepP rfl rfl rfl (o_load Try.isAgg3 rfl (roOne (enc := (.int .i64 ·)) hSb hcb hk)) ?_
          refine f_stepP rfl rfl rfl (o_assign rfl) ?_
          refine f_done ?_
          refine f_tn (kh27 _ _ ?_)
          clear kh27
          refine f_seq fun K28 kh28 => ?_
          refine f_seq fun K29 kh29 => ?_
          refine f_region ?_
          refine f_stepP rfl rfl rfl (o_move rfl) ?_
          refine f_stepP rfl rfl rfl (o_move rfl) ?_
          refine f_stepP rfl rfl rfl (o_lookup kt82 Try.zeroValue3 rfl rfl rfl (.int .i64 c) hc) ?_
          refine f_stepP rfl rfl rfl (o_eql rfl rfl) ?_
          refine f_done ?_
          refine f_tn (kh29 _ _ ?_)
          clear kh29
          refine f_cond rfl (fun c62 => ?_) (fun c62 => ?_)
          ·
           have hin : cs[k] ∈ cs.take k := hciff.1 (by omega)
           refine f_exit ?_
           refine f_te ?_
           clear kh28
           refine f_be ?_
           refine f_tn (kh26 _ _ ?_)
           clear kh26
           refine f_region ?_
           refine f_stepP rfl rfl rfl (o_add rfl rfl _ (wrap_i64 (by omega))) ?_
           refine f_stepP rfl rfl rfl (o_move rfl) ?_
           refine f_done ?_
           refine f_tn (f_again (k + 1, ents, c1, O, _, mo) (by first | omega | (dsimp only; omega) | (simp; omega)) ⟨by omega, hmap, htg.skip hk hin, hO, hOI.skip hk hin, by omega⟩ ?_ ?_ ?_)
           · exact (by repeat (first | exact trivial | refine ⟨rfl, ?_⟩))
           · exact (by repeat (first | exact trivial | refine ⟨rfl, ?_⟩))
           · repeat (first | exact Sub.nil | refine Sub.pick ?_ | refine Sub.castO rfl ?_ | refine Sub.skip ?_)
          ·
           refine f_skip ?_
           refine f_tn (kh28 _ _ ?_)
           clear kh28
           refine f_seq fun K30 kh30 => ?_
           refine f_region ?_
           refine f_stepP rfl rfl rfl (o_move rfl) ?_
           refine f_stepP rfl rfl rfl (o_move rfl) ?_
           refine f_step0 rfl rfl (o_delete kt82 rfl rfl rfl ?_)
           refine f_done ?_
           refine f_tn (kh30 _ _ ?_)
           clear kh30
           refine f_seq fun K31 kh31 => ?_
           refine f_region ?_
           refine f_stepP rfl rfl rfl (o_loadA (vs := [_, _]) Try.isAgg24 Try.sizeOf24 rfl rfl ⟨(rdA rfl), (rdA rfl), trivial⟩) ?_
           refine f_stepP rfl rfl rfl (o_move rfl) ?_
           refine f_stepP rfl rfl rfl (o_move rfl) ?_
           refine f_step rfl rfl rfl (o_call Try.call11 rfl (fun w_ hp_ => CutN_spec (n : Int) A l cap cs[k] most w_ (hr.up0 hp_) hl hN hok) ?_)
           rintro _ _ ⟨C, AC, cC, mC, rfl, rfl, hoC, _, hC0⟩
           rw [hnz]
           have hC := hC0 hnz
           rw [Int.toNat_natCast] at hC
           obtain ⟨hCs, hCl⟩ := nc_sub hC
           dsimp only [List.cons_append, List.nil_append]
           refine f_stepP rfl rfl rfl (o_move rfl) ?_
           refine f_stepP rfl rfl rfl (o_extract rfl rfl) ?_
           refine f_stepP rfl rfl rfl (o_extract rfl rfl) ?_
           refine f_stepP rfl rfl rfl (o_assign rfl) ?_
           refine f_stepP rfl rfl rfl (o_assign rfl) ?_
           refine f_done ?_
           refine f_tn (kh31 _ _ ?_)
           clear kh31
           refine f_seq fun K32 kh32 => ?_
           refine f_seq fun K33 kh33 => ?_
           refine f_region ?_
           refine f_stepP rfl rfl rfl (o_move rfl) ?_
           refine f_stepP rfl rfl rfl (o_neq rfl rfl) ?_
           refine f_done ?_
           refine f_tn (kh33 _ _ ?_)
           clear kh33
           refine f_condN rfl (by simp) ?_
           refine f_skip ?_
           refine f_tn (kh32 _ _ ?_)
           clear kh32
           refine f_region ?_
           refine f_stepP rfl rfl rfl (o_move rfl) ?_
           refine f_stepP rfl rfl rfl (o_move rfl) ?_
           refine f_step rfl rfl rfl (o_appendQ el28 rfl rfl hO (ys := C.flatMap prCs) (fun hne => by
             obtain ⟨bC, spC, rfl, rfl⟩ := hoC.at_ (by rcases C with _ | _; simp at hne; simp)
             exact ⟨bC, 0, rfl, rds_of _ _ fun j v hj => rdA (app_get (by simpa using hj))⟩) (flat_length prCs prCs_len C) (prs_one C) (by omega) (by omega) ?_)
           rintro v77 m77 o77
           obtain ⟨A77, c77, rfl, _⟩ := o77.val
           refine f_stepP rfl rfl rfl (o_assign rfl) ?_
           refine f_done ?_
           refine f_bn ?_
           refine f_tn (kh26 _ _ ?_)
           clear kh26
           refine f_region ?_
           refine f_stepP rfl rfl rfl (o_add rfl rfl _ (wrap_i64 (by omega))) ?_
           refine f_stepP rfl rfl rfl (o_move rfl) ?_
           refine f_done ?_
           refine f_tn (f_again (k + 1, mdel ents cs[k], c1, O ++ C, _, m77) (by first | omega | (dsimp only; omega) | (simp; omega)) ⟨by omega, hmap.del _, htg.del hmap.keys hk, by rw [List.flatMap_append, List.length_append]; exact o77, hOI.add hk hnz hC, by rw [List.length_append]; have := prs_few (n := n) (l := l) (fun a ha => by obtain ⟨i, hi, rfl⟩ := List.mem_iff_getElem.1 ha; have := hgd i hi; omega); omega⟩ ?_ ?_ ?_)
           · exact (by repeat (first | exact trivial | refine ⟨rfl, ?_⟩))
           · exact (by repeat (first | exact trivial | refine ⟨rfl, ?_⟩))
           · repeat (first | exact Sub.nil | refine Sub.pick ?_ | refine Sub.castO rfl ?_ | refine Sub.skip ?_)
         ·
          obtain rfl : k = cs.length := by omega
          rw [List.take_length] at hOI
          have hOok : ∀ p ∈ O, POk p := fun p hp => by
            obtain ⟨v, _, C, hC, hpC⟩ := (hOI p).1 hp
            have := prs_rng ((nc_sub hC).1 p hpC)
            unfold POk; omega
          refine f_exit ?_
          refine f_te ?_
          clear kh25
          refine f_te ?_
          refine f_be ?_
          refine f_tn (kh22 _ _ ?_)
          clear kh22
          refine f_seq fun K34 kh34 => ?_
          refine f_region ?_
          refine f_stepP rfl rfl rfl (o_move rfl) ?_
          refine f_step rfl rfl rfl (o_callM [mo] _ Try.call45 rfl (by repeat (first | exact Sub.refl | refine Sub.pick ?_)) (fun w_ hp_ => SortPr_spec Ao co O mo w_ hOok hO (by omega) hp_.owns) ?_)
          rintro _ _ ⟨rfl, m2, l2, rfl, hp2, hs2, ho2⟩
          have hl2 := hp2.length_eq
          rw [← hl2]
          dsimp only [List.cons_append, List.nil_append]
          refine f_done ?_
          refine f_tn (kh34 _ _ ?_)
          clear kh34
          refine f_seq fun K35 kh35 => ?_
          refine f_region ?_
          refine f_stepP rfl rfl rfl (o_move rfl) ?_
          refine f_step rfl rfl rfl (o_callM [m2] _ Try.call47 rfl (by repeat (first | exact Sub.refl | refine Sub.pick ?_)) (fun w_ hp_ => CompactPr_spec Ao co l2 m2 w_ ho2 (by omega) hp_.owns) ?_)
          rintro v82 _ ⟨m3, rfl, ho3⟩
          obtain ⟨A3, c3, rfl, hc3⟩ := ho3.val
          dsimp only [List.cons_append, List.nil_append]
          refine f_step rfl rfl rfl (o_call Try.call31 rfl (fun w_ hp_ => ClipPr_spec A3 (cpt l2).length c3 w_ hc3.1 hc3.2 (own_none ho3)) ?_)
          rintro _ _ ⟨rfl, rfl⟩
          dsimp only [List.cons_append, List.nil_append]
          refine f_stepP rfl rfl rfl (o_assign rfl) ?_
          refine f_stepP rfl rfl rfl (o_assign rfl) ?_
          refine f_done ?_
          refine f_tn (kh35 _ _ ?_)
          clear kh35
          refine f_ret ?_
          have he : mkE (n : Int) l cs most = 0 := by unfold mkE; rw [if_neg (by rw [hg]; simp), if_neg (by omega), if_neg (by omega), if_neg (by rw [c37]; simp)]
          have hcr : (cpt l2).Pairwise ltX := cpt_rising (R := ltX) (fun a b c h1 h2 => by unfold ltX at *; omega) (fun a b h e => by subst e; unfold ltX at h; omega) hs2
          exact f_fin2 [m3] Try.results23 rfl rfl (by repeat (first | exact Sub.nil | refine Sub.pick ?_ | refine Sub.castO rfl ?_ | refine Sub.skip ?_)) ⟨cpt l2, A3, c3, m3, by rw [he], rfl, ho3, fun h => absurd he h, fun _ => ⟨hcr, fun p => by rw [cpt_mem, hp2.mem_iff, Int.toNat_natCast]; exact hOI p⟩⟩

end Go.Proofs.Ytbjiejhdgkpjcaa

/- graph.Parts: the labels of what is connected. -/
namespace Go.Proofs.Ytbjiejhdgkpjcaa
open Go Go.RowKit Fly
set_option linter.unusedVariables false
set_option linter.unusedSimpArgs false


abbrev upSegs (bu bx : Nat) (up : List Nat) : List Seg := [[(bu, blk (nats up) 3)], [(bx, blk [.slice (some ⟨bu, 0, none⟩) up.length up.length] 35)]]

set_option maxRecDepth 100000 in
set_option maxHeartbeats 4000000 in
theorem root_spec (bu bx : Nat) (up : List Nat) (v : Nat) (w : World) (ho : Owns w (upSegs bu bx up)) (hd : Down up) (hv : v < up.length) (hn : up.length ≤ 1000000) :
    Meets Try.prog 49 [.int .i64 (v : Int), .pointer (some ⟨bx, 0, none⟩)] w (upSegs bu bx up)
      (fun u own' => u = .int .i64 (rootOf up v : Int) ∧ ∃ up', own' = upSegs bu bx up' ∧ up'.length = up.length ∧ Down up' ∧ ∀ x, rootOf up' x = rootOf up x) := by
 refine f_enter Try.func49 rfl Try.ntmps49 rfl ho ?_
 unfold upSegs
 refine f_seq fun K1 kh1 => ?_
 refine f_region ?_
 refine f_stepP rfl rfl rfl (o_assign rfl) ?_
 refine f_done ?_
 refine f_tn (kh1 _ _ ?_)
 clear kh1
 refine f_seq fun K2 kh2 => ?_
 refine f_block ?_
 refine f_loop (α := Nat × List Nat) [1] (fun ⟨v', up'⟩ => [(0, .int .i64 (v' : Int))]) (fun ⟨v', up'⟩ => [[(bu, blk (nats up') 3)], [(bx, blk [.slice (some ⟨bu, 0, none⟩) up.length up.length] 35)]]) (fun ⟨v', up'⟩ => up'.length = up.length ∧ v' < up'.length ∧ Down up' ∧ (∀ x, rootOf up' x = rootOf up x) ∧ rootOf up v' = rootOf up v) (fun ⟨v', up'⟩ => v') (v, up) ?_ ?_ ?_ ?_
 · exact (by repeat (first | exact trivial | refine ⟨rfl, ?_⟩))
 · repeat (first | exact Sub.nil | refine Sub.pick ?_ | refine Sub.castO rfl ?_ | refine Sub.skip ?_)
 · exact ⟨rfl, hv, hd, fun _ => rfl, rfl⟩
 ·
  rintro ⟨v', up'⟩ ⟨hl', hv', hd', hr', hrv⟩
  have hle := hd' v' hv'
  have h2 : up'[v'] < up'.length := by omega
  have hle2 := hd' _ h2
  refine f_seq fun K3 kh3 => ?_
  refine f_seq fun K4 kh4 => ?_
  refine f_region ?_
  refine f_stepP rfl rfl rfl (o_load Try.isAgg35 rfl (rdA rfl)) ?_
  refine f_stepP rfl rfl rfl (o_move rfl) ?_
  refine f_stepP rfl rfl rfl (o_idx sl35 rfl rfl (v') ⟨by omega, by omega, by first | omega | (simp; done) | (simp; omega)⟩) ?_
  refine f_stepP rfl rfl rfl (o_load Try.isAgg3 rfl (rdA (nats_get hv'))) ?_
  refine f_stepP rfl rfl rfl (o_move rfl) ?_
  refine f_stepP rfl rfl rfl (o_neq rfl rfl) ?_
  refine f_done ?_
  refine f_tn (kh4 _ _ ?_)
  clear kh4
  refine f_cond rfl (fun c9 => ?_) (fun c9 => ?_)
  ·
   refine f_skip ?_
   refine f_tn (kh3 _ _ ?_)
   clear kh3
   refine f_block ?_
   refine f_seq fun K5 kh5 => ?_
   refine f_regionT 10 rfl (by decide +kernel) ?_
   refine f_stillP rfl rfl rfl (o_load Try.isAgg35 rfl (rdA rfl)) ?_
   refine f_stillP rfl rfl rfl (o_move rfl) ?_
   refine f_stillP rfl rfl rfl (o_load Try.isAgg35 rfl (rdA rfl)) ?_
   refine f_stillP rfl rfl rfl (o_load Try.isAgg35 rfl (rdA rfl)) ?_
   refine f_stillP rfl rfl rfl (o_move rfl) ?_
   refine f_stillP rfl rfl rfl (o_idx sl35 rfl rfl (v') ⟨by omega, by omega, by first | omega | (simp; done) | (simp; omega)⟩) ?_
   refine f_stillP rfl rfl rfl (o_load Try.isAgg3 rfl (rdA (nats_get hv'))) ?_
   refine f_stillP rfl rfl rfl (o_idx sl35 rfl rfl (up'[v']) ⟨by omega, by omega, by first | omega | (simp; done) | (simp; omega)⟩) ?_
   refine f_stillP rfl rfl rfl (o_load Try.isAgg3 rfl (rdA (nats_get h2))) ?_
   refine f_stillP rfl rfl rfl (o_idx sl35 rfl rfl (v') ⟨by omega, by omega, by first | omega | (simp; done) | (simp; omega)⟩) ?_
   refine f_stillD (f_tail ?_)
   refine f_step0 rfl rfl (o_store Try.sizeOf3 rfl rfl rfl rfl (by rw [nats_length]; omega) (nats (up'.set v' up'[up'[v']])) (nats_set _ _ _) ?_)
   refine f_done ?_
   refine f_tn (kh5 _ _ ?_)
   clear kh5
   refine f_region ?_
   refine f_stepP rfl rfl rfl (o_load Try.isAgg35 rfl (rdA rfl)) ?_
   refine f_stepP rfl rfl rfl (o_move rfl) ?_
   refine f_stepP rfl rfl rfl (o_idx sl35 rfl rfl (v') ⟨by omega, by omega, by first | omega | (simp; done) | (simp; omega)⟩) ?_
   refine f_stepP rfl rfl rfl (o_load Try.isAgg3 rfl (rdA (nats_set_get hv'))) ?_
   refine f_stepP rfl rfl rfl (o_assign rfl) ?_
   refine f_done ?_
   refine f_bn ?_
   refine f_tn (f_again (up'[up'[v']], up'.set v' up'[up'[v']]) (by first | omega | (dsimp only; omega) | (simp; omega)) ⟨by simp [hl'], by simp; omega, down_halve hd' hv' h2, fun x => by rw [rootOf_halve hd' hv' h2]; exact hr' x, by rw [← hrv, ← hr', ← hr', rootOf_two hd' hv' h2]⟩ ?_ ?_ ?_)
   · exact (by repeat (first | exact trivial | refine ⟨rfl, ?_⟩))
   · exact (by repeat (first | exact trivial | refine ⟨rfl, ?_⟩))
   · repeat (first | exact Sub.nil | refine Sub.pick ?_ | refine Sub.castO rfl ?_ | refine Sub.skip ?_)
  ·
   refine f_exit ?_
   refine f_te ?_
   clear kh3
   refine f_te ?_
   refine f_be ?_
   refine f_tn (kh2 _ _ ?_)
   clear kh2
   refine f_seq fun K6 kh6 => ?_
   refine f_region ?_
   refine f_stepP rfl rfl rfl (o_move rfl) ?_
   refine f_stepP rfl rfl rfl (o_assign rfl) ?_
   refine f_done ?_
   refine f_tn (kh6 _ _ ?_)
   clear kh6
   refine f_ret ?_
   exact f_fin1 (upSegs bu bx up') Try.results49 rfl (by unfold upSegs; rw [hl']; exact Sub.refl) ⟨by rw [← hrv, ← hr', rootOf_stay hv' (by omega)], up', rfl, hl', hd', hr'⟩

set_option maxRecDepth 100000 in
set_option maxHeartbeats 4000000 in
theorem Parts_spec (N : Int) (A : Option Addr) (l : List Arc) (cap : Nat) (w : World) (hr : Ro (Fr w []) w A (l.flatMap arcCs)) (hl : l.length ≤ 9223372036854775807) (hN : I64 N) (hok : ∀ x ∈ l, ArcOk x) :
    Meets Try.prog 26 [.agg #[.int .i64 N, .slice A l.length cap]] w []
      (fun u own' => if (gcheck N l).2 = 0 then ∃ p b, u = .tuple #[.slice (some ⟨b, 0, none⟩) N.toNat N.toNat, .int .i64 0] ∧ own' = [[(b, blk (nats p) 3)]] ∧ IsParts N.toNat (ends2 l) p
        else u = .tuple #[.slice none 0 0, .int .i64 (gcheck N l).2] ∧ own' = []) := by
 refine f_enter Try.func26 rfl Try.ntmps26 rfl Owns.nil ?_
 refine f_seq fun K1 kh1 => ?_
 refine f_region ?_
 refine f_step rfl rfl rfl (o_box rfl rfl fun b1 => ?_)
 refine f_stepP rfl rfl rfl (o_assign rfl) ?_
 refine f_stepP rfl rfl rfl (o_assign rfl) ?_
 refine f_done ?_
 refine f_tn (kh1 _ _ ?_)
 clear kh1
 refine f_seq fun K2 kh2 => ?_
 refine f_seq fun K3 kh3 => ?_
 refine f_region ?_
 refine f_stepP rfl rfl rfl (o_loadA (vs := [_, _]) Try.isAgg24 Try.sizeOf24 rfl rfl ⟨(rdA rfl), (rdA rfl), trivial⟩) ?_
 refine f_step rfl rfl rfl (o_call Try.call37 rfl (fun w_ hp_ => Check_spec N A l cap w_ (hr.up0 hp_) hl hN hok) ?_)
 rintro _ _ ⟨rfl, rfl⟩
 dsimp only [List.cons_append, List.nil_append]
 refine f_stepP rfl rfl rfl (o_move rfl) ?_
 refine f_stepP rfl rfl rfl (o_extract rfl rfl) ?_
 refine f_stepP rfl rfl rfl (o_extract rfl rfl) ?_
 refine f_stepP rfl rfl rfl (o_assign rfl) ?_
 refine f_stepP rfl rfl rfl (o_assign rfl) ?_
 refine f_done ?_
 refine f_tn (kh3 _ _ ?_)
 clear kh3
 refine f_seq fun K4 kh4 => ?_
 refine f_region ?_
 refine f_stepP rfl rfl rfl (o_move rfl) ?_
 refine f_stepP rfl rfl rfl (o_neq rfl rfl) ?_
 refine f_done ?_
 refine f_tn (kh4 _ _ ?_)
 clear kh4
 refine f_cond rfl (fun c23 => ?_) (fun c23 => ?_)
 ·
  refine f_seq fun K5 kh5 => ?_
  refine f_region ?_
  refine f_stepP rfl rfl rfl (o_move rfl) ?_
  refine f_stepP rfl rfl rfl (o_assign rfl) ?_
  refine f_stepP rfl rfl rfl (o_assign rfl) ?_
  refine f_done ?_
  refine f_tn (kh5 _ _ ?_)
  clear kh5
  refine f_ret ?_
  refine f_tr ?_
  exact f_fin2 [] Try.results26 rfl rfl Sub.nil (by rw [if_neg (by simpa using c23)]; exact ⟨rfl, rfl⟩)
 ·
  have hc0 : (gcheck N l).2 = 0 := by simpa using c23
  obtain ⟨hN1, hN2, hlen, hgood⟩ := gcheck_zero hc0
  obtain ⟨n, rfl⟩ : ∃ n : Nat, N = n := ⟨N.toNat, by omega⟩
  clear c23
  refine f_skip ?_
  refine f_tn (kh2 _ _ ?_)
  clear kh2
  refine f_seq fun K6 kh6 => ?_
  refine f_region ?_
  refine f_stepP rfl rfl rfl (o_field fa24_0 rfl) ?_
  refine f_stepP rfl rfl rfl (o_load Try.isAgg3 rfl (rdA rfl)) ?_
  refine f_step rfl rfl rfl (o_make el35 rfl rfl n rfl (by omega) (by omega) (nats (List.replicate n 0)) (nats_replicate n) fun b27 => ?_)
  refine f_step rfl rfl rfl (o_alloc Try.zeroValue35 rfl fun b6 => ?_)
  refine f_step0 rfl rfl (o_store Try.sizeOf35 rfl rfl rfl rfl (by first | exact Nat.le_of_ble_eq_true rfl | (simp; done) | (simp; omega)) _ rfl ?_)
  refine f_done ?_
  refine f_tn (kh6 _ _ ?_)
  clear kh6
  refine f_seq fun K7 kh7 => ?_
  refine f_seq fun K8 kh8 => ?_
  refine f_region ?_
  refine f_stepP rfl rfl rfl (o_load Try.isAgg35 rfl (rdA rfl)) ?_
  refine f_stepP rfl rfl rfl (o_len sl35 rfl) ?_
  refine f_stepP rfl rfl rfl (o_move rfl) ?_
  refine f_done ?_
  refine f_tn (kh8 _ _ ?_)
  clear kh8
  refine f_block ?_
  refine f_loop (α := Nat × List Nat) [1, 6, 29] (fun ⟨k, up⟩ => [(30, .int .i64 (k : Int))]) (fun ⟨k, up⟩ => [[(b27, blk (nats up) 3)], [(b6, blk [.slice (some ⟨b27, 0, none⟩) n n] 35)], [(b1, blk [.int .i64 (n : Int), .slice A l.length cap] 24)]]) (fun ⟨k, up⟩ => k ≤ n ∧ up.length = n ∧ ∀ j (h : j < up.length), j < k → up[j] = j) (fun ⟨k, up⟩ => n - k) (0, List.replicate n 0) ?_ ?_ ?_ ?_
  · exact (by repeat (first | exact trivial | refine ⟨rfl, ?_⟩))
  · repeat (first | exact Sub.nil | refine Sub.pick ?_ | refine Sub.castO rfl ?_ | refine Sub.skip ?_)
  · exact ⟨by omega, by simp, fun j _ h => by omega⟩
  ·
   rintro ⟨k, up⟩ ⟨hkn, hul, hup⟩
   refine f_seq fun K9 kh9 => ?_
   refine f_region ?_
   refine f_stepP rfl rfl rfl (o_lss rfl rfl) ?_
   refine f_done ?_
   refine f_tn (kh9 _ _ ?_)
   clear kh9
   refine f_seq fun K10 kh10 => ?_
   refine f_cond rfl (fun c31 => ?_) (fun c31 => ?_)
   ·
    refine f_skip ?_
    refine f_tn (kh10 _ _ ?_)
    clear kh10
    refine f_seq fun K11 kh11 => ?_
    refine f_block ?_
    refine f_seq fun K12 kh12 => ?_
    refine f_region ?_
    refine f_stepP rfl rfl rfl (o_move rfl) ?_
    refine f_stepP rfl rfl rfl (o_assign rfl) ?_
    refine f_done ?_
    refine f_tn (kh12 _ _ ?_)
    clear kh12
    refine f_region ?_
    refine f_stepP rfl rfl rfl (o_load Try.isAgg35 rfl (rdA rfl)) ?_
    refine f_stepP rfl rfl rfl (o_move rfl) ?_
    refine f_stepP rfl rfl rfl (o_move rfl) ?_
    have hk : k < n := by omega
    refine f_stepP rfl rfl rfl (o_idx sl35 rfl rfl (k) ⟨by omega, by omega, by first | omega | (simp; done) | (simp; omega)⟩) ?_
    refine f_step0 rfl rfl (o_store Try.sizeOf3 rfl rfl rfl rfl (by rw [nats_length]; omega) (nats (up.set k k)) (nats_set _ _ _) ?_)
    refine f_done ?_
    refine f_bn ?_
    refine f_tn (kh11 _ _ ?_)
    clear kh11
    refine f_region ?_
    refine f_stepP rfl rfl rfl (o_add rfl rfl _ (wrap_i64 (by omega))) ?_
    refine f_stepP rfl rfl rfl (o_move rfl) ?_
    refine f_done ?_
    refine f_tn (f_again (k + 1, up.set k k) (by first | omega | (dsimp only; omega) | (simp; omega)) ⟨by omega, by simp [hul], fun j h hj => by rw [List.getElem_set]; split <;> first | assumption | exact hup j (by simpa using h) (by omega)⟩ ?_ ?_ ?_)
    · exact (by repeat (first | exact trivial | refine ⟨rfl, ?_⟩))
    · exact (by repeat (first | exact trivial | refine ⟨rfl, ?_⟩))
    · repeat (first | exact Sub.nil | refine Sub.pick ?_ | refine Sub.castO rfl ?_ | refine Sub.skip ?_)
   ·
    refine f_exit ?_
    refine f_te ?_
    clear kh10
    refine f_te ?_
    refine f_be ?_
    refine f_tn (kh7 _ _ ?_)
    clear kh7
    refine f_seq fun K13 kh13 => ?_
    refine f_region ?_
    refine f_stepP rfl rfl rfl (o_func rfl rfl) ?_
    refine f_stepP rfl rfl rfl (o_assign rfl) ?_
    refine f_done ?_
    refine f_tn (kh13 _ _ ?_)
    clear kh13
    refine f_seq fun K14 kh14 => ?_
    refine f_seq fun K15 kh15 => ?_
    refine f_region ?_
    refine f_stepP rfl rfl rfl (o_field fa24_1 rfl) ?_
    refine f_stepP rfl rfl rfl (o_load Try.isAgg22 rfl (rdA rfl)) ?_
    refine f_stepP rfl rfl rfl (o_len sl22 rfl) ?_
    refine f_stepP rfl rfl rfl (o_move rfl) ?_
    refine f_done ?_
    refine f_tn (kh15 _ _ ?_)
    clear kh15
    refine f_block ?_
    refine f_loop (α := Nat × List Nat) [1, 6, 8, 40, 41] (fun ⟨k, up⟩ => [(42, .int .i64 (k : Int))]) (fun ⟨k, up⟩ => [[(b27, blk (nats up) 3)], [(b6, blk [.slice (some ⟨b27, 0, none⟩) n n] 35)], [(b1, blk [.int .i64 (n : Int), .slice A l.length cap] 24)]]) (fun ⟨k, up⟩ => k ≤ l.length ∧ up.length = n ∧ Down up ∧ Tells up (ends2 (l.take k))) (fun ⟨k, up⟩ => l.length - k) (0, up) ?_ ?_ ?_ ?_
    · exact (by repeat (first | exact trivial | refine ⟨rfl, ?_⟩))
    · repeat (first | exact Sub.nil | refine Sub.pick ?_ | refine Sub.castO rfl ?_ | refine Sub.skip ?_)
    · exact ⟨by omega, hul, by have := up_range hul (fun j h => hup j h (by omega)); subst this; exact down_range n, by have := up_range hul (fun j h => hup j h (by omega)); subst this; exact tells_start n⟩
    ·
     rintro ⟨k, up⟩ ⟨hkl, hul, hd, ht⟩
     refine f_envC (e := [(42, _), (1, _), (6, _), (8, _), (40, _), (41, _)]) (by repeat (first | exact trivial | refine ⟨rfl, ?_⟩)) ?_
     refine f_seq fun K16 kh16 => ?_
     refine f_region ?_
     refine f_stepP rfl rfl rfl (o_lss rfl rfl) ?_
     refine f_done ?_
     refine f_tn (kh16 _ _ ?_)
     clear kh16
     refine f_seq fun K17 kh17 => ?_
     refine f_cond rfl (fun c43 => ?_) (fun c43 => ?_)
     ·
      refine f_skip ?_
      refine f_tn (kh17 _ _ ?_)
      clear kh17
      refine f_seq fun K18 kh18 => ?_
      refine f_block ?_
      refine f_seq fun K19 kh19 => ?_
      refine f_region ?_
      have hk : k < l.length := by omega
      obtain ⟨bl, off, rfl, hS, hc⟩ := hr (flat_ne arcCs arcCs_len (by omega) hk)
      obtain ⟨hs0, hs1, hd0, hd1'⟩ := hgood k hk
      have hsr : l[k].src.toNat < up.length := by omega
      have hsd : l[k].dst.toNat < up.length := by omega
      have hun : up.length ≤ 1000000 := by omega
      have esr : l[k].src = (l[k].src.toNat : Int) := by omega
      have esd : l[k].dst = (l[k].dst.toNat : Int) := by omega
      refine f_stepP rfl rfl rfl (o_idx sl22 rfl rfl (off + k * 3) ⟨by omega, by omega, by first | omega | (simp; done) | (simp; omega)⟩) ?_
      refine f_stepP rfl rfl rfl (o_loadA (vs := arcCs l[k]) Try.isAgg55 Try.sizeOf55 rfl rfl (roElem arcCs_len hS hc hk)) ?_
      refine f_step rfl rfl rfl (o_alloc Try.zeroValue55 rfl fun b10 => ?_)
      refine f_step0 rfl rfl (o_storeA Try.sizeOf55 rfl rfl rfl rfl (by first | exact Nat.le_of_ble_eq_true rfl | (simp; done) | (simp; omega)) _ rfl ?_)
      refine f_done ?_
      refine f_tn (kh19 _ _ ?_)
      clear kh19
      refine f_seq fun K20 kh20 => ?_
      refine f_regionH [[(b10, blk (arcCs l[k]) 55)]] rfl ?_
      refine f_take 0 rfl (by decide +kernel) rfl rfl rfl (by repeat (first | exact Sub.nil | refine Sub.pick ?_ | refine Sub.castO rfl ?_ | refine Sub.skip ?_)) (o_move rfl) ?_
      refine f_take 1 rfl (by decide +kernel) rfl rfl rfl (by repeat (first | exact Sub.nil | refine Sub.pick ?_ | refine Sub.castO rfl ?_ | refine Sub.skip ?_)) (o_field fa55_0 rfl) ?_
      refine f_take 2 rfl (by decide +kernel) rfl rfl rfl (by repeat (first | exact Sub.nil | refine Sub.pick ?_ | refine Sub.castO rfl ?_ | refine Sub.skip ?_)) (o_load (v := .int .i64 (l[k].src.toNat : Int)) Try.isAgg3 rfl (rdA (by rw [← esr]; rfl))) ?_
      refine f_take 4 rfl (by decide +kernel) rfl rfl rfl (by repeat (first | exact Sub.nil | refine Sub.pick ?_ | refine Sub.castO rfl ?_ | refine Sub.skip ?_)) (o_move rfl) ?_
      refine f_take 5 rfl (by decide +kernel) rfl rfl rfl (by repeat (first | exact Sub.nil | refine Sub.pick ?_ | refine Sub.castO rfl ?_ | refine Sub.skip ?_)) (o_field fa55_1 rfl) ?_
      refine f_take 6 rfl (by decide +kernel) rfl rfl rfl (by repeat (first | exact Sub.nil | refine Sub.pick ?_ | refine Sub.castO rfl ?_ | refine Sub.skip ?_)) (o_load (v := .int .i64 (l[k].dst.toNat : Int)) Try.isAgg3 rfl (rdA (by rw [← esd]; rfl))) ?_
      refine f_only 3 rfl (by decide +kernel) rfl rfl rfl (o_callV (upSegs b27 b6 up) _ Try.call49 rfl rfl (by unfold upSegs; rw [hul]; exact Sub.pick (Sub.pick Sub.refl)) (fun w_ hp_ => root_spec b27 b6 up _ w_ hp_.owns hd hsr hun) ?_)
      rintro _ _ ⟨rfl, up1, rfl, hl1, hd1, hr1⟩
      unfold upSegs
      rw [hl1, hul]
      dsimp only [List.cons_append, List.nil_append]
      refine ⟨(by repeat (first | exact Sub.nil | refine Sub.pick ?_ | refine Sub.castO rfl ?_ | refine Sub.skip ?_)), ?_⟩
      refine f_only 7 rfl (by decide +kernel) rfl rfl rfl (o_callV (upSegs b27 b6 up1) _ Try.call49 rfl rfl (by unfold upSegs; rw [hl1, hul]; exact Sub.pick (Sub.pick Sub.refl)) (fun w_ hp_ => root_spec b27 b6 up1 _ w_ hp_.owns hd1 (hl1 ▸ hsd) (hl1 ▸ hun)) ?_)
      rintro _ _ ⟨rfl, up2, rfl, hl2, hd2, hr2⟩
      unfold upSegs
      rw [hl2, hl1, hul]
      dsimp only [List.cons_append, List.nil_append]
      refine ⟨(by repeat (first | exact Sub.nil | refine Sub.pick ?_ | refine Sub.castO rfl ?_ | refine Sub.skip ?_)), ?_⟩
      refine f_only 8 rfl (by decide +kernel) rfl rfl rfl ((o_assign rfl).does ⟨(by repeat (first | exact Sub.nil | refine Sub.pick ?_ | refine Sub.castO rfl ?_ | refine Sub.skip ?_)), ?_⟩)
      refine f_only 9 rfl (by decide +kernel) rfl rfl rfl ((o_assign rfl).does ⟨(by repeat (first | exact Sub.nil | refine Sub.pick ?_ | refine Sub.castO rfl ?_ | refine Sub.skip ?_)), ?_⟩)
      refine f_over (by decide +kernel) ?_
      refine f_tn (kh20 _ _ ?_)
      clear kh20
      refine f_region ?_
      refine f_stepP rfl rfl rfl (o_load Try.isAgg35 rfl (rdA rfl)) ?_
      refine f_stepP rfl rfl rfl (o_move rfl) ?_
      refine f_stepP rfl rfl rfl (o_move rfl) ?_
      refine f_stepP rfl rfl rfl (o_max rfl rfl) ?_
      refine f_stepP rfl rfl rfl (o_move rfl) ?_
      refine f_stepP rfl rfl rfl (o_move rfl) ?_
      refine f_stepP rfl rfl rfl (o_min rfl rfl) ?_
      have e1 := hr1 l[k].dst.toNat
      have q1 := rootOf_le (up := up) l[k].src.toNat
      have q2 := rootOf_le (up := up) l[k].dst.toNat
      refine f_stepP rfl rfl rfl (o_idx sl35 rfl rfl (max (rootOf up l[k].src.toNat) (rootOf up l[k].dst.toNat)) ⟨by omega, by omega, by first | omega | (simp; done) | (simp; omega)⟩) ?_
      refine f_step0 rfl rfl (o_store Try.sizeOf3 rfl rfl rfl rfl (by rw [nats_length]; omega) (nats (up2.set (max (rootOf up l[k].src.toNat) (rootOf up l[k].dst.toNat)) (min (rootOf up l[k].src.toNat) (rootOf up l[k].dst.toNat)))) (by rw [← nats_set]; congr 2; omega) ?_)
      refine f_done ?_
      refine f_bn ?_
      refine f_tn (kh18 _ _ ?_)
      clear kh18
      refine f_region ?_
      refine f_stepP rfl rfl rfl (o_add rfl rfl _ (wrap_i64 (by omega))) ?_
      refine f_stepP rfl rfl rfl (o_move rfl) ?_
      refine f_done ?_
      refine f_tn (f_again (k + 1, up2.set (max (rootOf up l[k].src.toNat) (rootOf up l[k].dst.toNat)) (min (rootOf up l[k].src.toNat) (rootOf up l[k].dst.toNat))) (by first | omega | (dsimp only; omega) | (simp; omega)) ⟨by omega, by simp [hl2, hl1, hul], down_join hd2, by rw [ends2_take hk]; exact tells_next hd hd2 ht (hl2.trans hl1) (fun x => (hr2 x).trans (hr1 x)) (ends2_lt hul hgood k) hsr hsd⟩ ?_ ?_ ?_)
      · exact (by repeat (first | exact trivial | refine ⟨rfl, ?_⟩))
      · exact (by repeat (first | exact trivial | refine ⟨rfl, ?_⟩))
      · repeat (first | exact Sub.nil | refine Sub.pick ?_ | refine Sub.castO rfl ?_ | refine Sub.skip ?_)
     ·
      refine f_exit ?_
      refine f_te ?_
      clear kh17
      refine f_te ?_
      refine f_be ?_
      refine f_tn (kh14 _ _ ?_)
      clear kh14
      refine f_seq fun K21 kh21 => ?_
      refine f_region ?_
      refine f_stepP rfl rfl rfl (o_field fa24_0 rfl) ?_
      refine f_stepP rfl rfl rfl (o_load Try.isAgg3 rfl (rdA rfl)) ?_
      refine f_step rfl rfl rfl (o_make el35 rfl rfl n rfl (by omega) (by omega) (nats (List.replicate n 0)) (nats_replicate n) fun b65 => ?_)
      refine f_stepP rfl rfl rfl (o_assign rfl) ?_
      refine f_done ?_
      refine f_tn (kh21 _ _ ?_)
      clear kh21
      refine f_seq fun K22 kh22 => ?_
      refine f_region ?_
      refine f_stepP rfl rfl rfl (o_assign rfl) ?_
      refine f_done ?_
      refine f_tn (kh22 _ _ ?_)
      clear kh22
      refine f_seq fun K23 kh23 => ?_
      refine f_seq fun K24 kh24 => ?_
      refine f_region ?_
      refine f_stepP rfl rfl rfl (o_move rfl) ?_
      refine f_stepP rfl rfl rfl (o_len sl35 rfl) ?_
      refine f_stepP rfl rfl rfl (o_move rfl) ?_
      refine f_done ?_
      refine f_tn (kh24 _ _ ?_)
      clear kh24
      refine f_block ?_
      refine f_loop (α := Nat × List Nat × List Nat × Nat) [8, 13, 67] (fun ⟨k, up, out, nx⟩ => [(68, .int .i64 (k : Int)), (14, .int .i64 (nx : Int))]) (fun ⟨k, up, out, nx⟩ => [[(b27, blk (nats up) 3)], [(b6, blk [.slice (some ⟨b27, 0, none⟩) n n] 35)], [(b1, blk [.int .i64 (n : Int), .slice A l.length cap] 24)], [(b65, blk (nats out) 3)]]) (fun ⟨k, up, out, nx⟩ => k ≤ n ∧ up.length = n ∧ Down up ∧ Tells up (ends2 l) ∧ Labelled up k out nx) (fun ⟨k, up, out, nx⟩ => n - k) (0, up, List.replicate n 0, 0) ?_ ?_ ?_ ?_
      · exact (by repeat (first | exact trivial | refine ⟨rfl, ?_⟩))
      · repeat (first | exact Sub.nil | refine Sub.pick ?_ | refine Sub.castO rfl ?_ | refine Sub.skip ?_)
      · exact ⟨by omega, hul, hd, by rw [show l.take k = l from List.take_of_length_le (by omega)] at ht; exact ht, by have := labelled_start up; rw [hul] at this; exact this⟩
      ·
       rintro ⟨k, up, out, nx⟩ ⟨hkn, hul, hd, ht, hlab⟩
       have hol := hlab.len
       have hnx : nx ≤ k := by rw [← hlab.next]; exact nxt_le out k
       refine f_envC (e := [(68, _), (14, _), (8, _), (13, _), (67, _)]) (by repeat (first | exact trivial | refine ⟨rfl, ?_⟩)) ?_
       refine f_seq fun K25 kh25 => ?_
       refine f_region ?_
       refine f_stepP rfl rfl rfl (o_lss rfl rfl) ?_
       refine f_done ?_
       refine f_tn (kh25 _ _ ?_)
       clear kh25
       refine f_seq fun K26 kh26 => ?_
       refine f_cond rfl (fun c69 => ?_) (fun c69 => ?_)
       ·
        refine f_skip ?_
        refine f_tn (kh26 _ _ ?_)
        clear kh26
        refine f_seq fun K27 kh27 => ?_
        refine f_block ?_
        refine f_seq fun K28 kh28 => ?_
        refine f_region ?_
        refine f_stepP rfl rfl rfl (o_move rfl) ?_
        refine f_stepP rfl rfl rfl (o_assign rfl) ?_
        refine f_done ?_
        refine f_tn (kh28 _ _ ?_)
        clear kh28
        refine f_seq fun K29 kh29 => ?_
        refine f_seq fun K30 kh30 => ?_
        refine f_region ?_
        refine f_stepP rfl rfl rfl (o_move rfl) ?_
        refine f_stepP rfl rfl rfl (o_move rfl) ?_
        have hk' : k < up.length := by omega
        refine f_step rfl rfl rfl (o_callV (upSegs b27 b6 up) _ Try.call49 rfl rfl (by unfold upSegs; rw [hul]; exact Sub.pick (Sub.pick Sub.refl)) (fun w_ hp_ => root_spec b27 b6 up k w_ hp_.owns hd hk' (by omega)) ?_)
        rintro _ _ ⟨rfl, up1, rfl, hl1, hd1, hr1⟩
        unfold upSegs
        rw [hl1, hul]
        dsimp only [List.cons_append, List.nil_append]
        refine f_stepP rfl rfl rfl (o_assign rfl) ?_
        refine f_done ?_
        refine f_tn (kh30 _ _ ?_)
        clear kh30
        refine f_seq fun K31 kh31 => ?_
        refine f_region ?_
        refine f_stepP rfl rfl rfl (o_move rfl) ?_
        refine f_stepP rfl rfl rfl (o_move rfl) ?_
        refine f_stepP rfl rfl rfl (o_neq rfl rfl) ?_
        refine f_done ?_
        refine f_tn (kh31 _ _ ?_)
        clear kh31
        refine f_cond rfl (fun c76 => ?_) (fun c76 => ?_)
        ·
         refine f_seq fun K32 kh32 => ?_
         refine f_region ?_
         refine f_stepP rfl rfl rfl (o_move rfl) ?_
         refine f_stepP rfl rfl rfl (o_move rfl) ?_
         refine f_stepP rfl rfl rfl (o_move rfl) ?_
         refine f_stepP rfl rfl rfl (o_move rfl) ?_
         have hro : rootOf up k < out.length := by have := rootOf_le (up := up) k; omega
         refine f_stepP rfl rfl rfl (o_idx sl35 rfl rfl (rootOf up k) ⟨by omega, by omega, by first | omega | (simp; done) | (simp; omega)⟩) ?_
         refine f_stepP rfl rfl rfl (o_load Try.isAgg3 rfl (rdA (nats_get hro))) ?_
         refine f_stepP rfl rfl rfl (o_idx sl35 rfl rfl (k) ⟨by omega, by omega, by first | omega | (simp; done) | (simp; omega)⟩) ?_
         refine f_step0 rfl rfl (o_store Try.sizeOf3 rfl rfl rfl rfl (by rw [nats_length]; omega) (nats (out.set k out[rootOf up k])) (nats_set _ _ _) ?_)
         refine f_done ?_
         refine f_tn (kh32 _ _ ?_)
         clear kh32
         refine f_exit ?_
         refine f_te ?_
         clear kh29
         refine f_be ?_
         refine f_tn (kh27 _ _ ?_)
         clear kh27
         refine f_region ?_
         refine f_stepP rfl rfl rfl (o_add rfl rfl _ (wrap_i64 (by omega))) ?_
         refine f_stepP rfl rfl rfl (o_move rfl) ?_
         refine f_done ?_
         refine f_tn (f_again (k + 1, up1, out.set k out[rootOf up k], nx) (by first | omega | (dsimp only; omega) | (simp; omega)) ⟨by omega, hl1.trans hul, hd1, tells_roots ht hl1 hr1, by exact labelled_roots (labelled_old hd hlab hk' (by omega) hro) hl1 hr1⟩ ?_ ?_ ?_)
         · exact (by repeat (first | exact trivial | refine ⟨rfl, ?_⟩))
         · exact (by repeat (first | exact trivial | refine ⟨rfl, ?_⟩))
         · repeat (first | exact Sub.nil | refine Sub.pick ?_ | refine Sub.castO rfl ?_ | refine Sub.skip ?_)
        ·
         refine f_skip ?_
         refine f_tn (kh29 _ _ ?_)
         clear kh29
         refine f_seq fun K33 kh33 => ?_
         refine f_region ?_
         refine f_stepP rfl rfl rfl (o_move rfl) ?_
         refine f_stepP rfl rfl rfl (o_move rfl) ?_
         refine f_stepP rfl rfl rfl (o_move rfl) ?_
         refine f_stepP rfl rfl rfl (o_idx sl35 rfl rfl (k) ⟨by omega, by omega, by first | omega | (simp; done) | (simp; omega)⟩) ?_
         refine f_step0 rfl rfl (o_store Try.sizeOf3 rfl rfl rfl rfl (by rw [nats_length]; omega) (nats (out.set k nx)) (nats_set _ _ _) ?_)
         refine f_done ?_
         refine f_tn (kh33 _ _ ?_)
         clear kh33
         refine f_region ?_
         refine f_stepP rfl rfl rfl (o_move rfl) ?_
         refine f_stepP rfl rfl rfl (o_add rfl rfl _ (wrap_i64 (by omega))) ?_
         refine f_stepP rfl rfl rfl (o_assign rfl) ?_
         refine f_done ?_
         refine f_bn ?_
         refine f_tn (kh27 _ _ ?_)
         clear kh27
         refine f_region ?_
         refine f_stepP rfl rfl rfl (o_add rfl rfl _ (wrap_i64 (by omega))) ?_
         refine f_stepP rfl rfl rfl (o_move rfl) ?_
         refine f_done ?_
         refine f_tn (f_again (k + 1, up1, out.set k nx, nx + 1) (by first | omega | (dsimp only; omega) | (simp; omega)) ⟨by omega, hl1.trans hul, hd1, tells_roots ht hl1 hr1, by exact labelled_roots (labelled_new hd hlab hk' (by omega)) hl1 hr1⟩ ?_ ?_ ?_)
         · exact (by repeat (first | exact trivial | refine ⟨rfl, ?_⟩))
         · exact (by repeat (first | exact trivial | refine ⟨rfl, ?_⟩))
         · repeat (first | exact Sub.nil | refine Sub.pick ?_ | refine Sub.castO rfl ?_ | refine Sub.skip ?_)
       ·
        refine f_exit ?_
        refine f_te ?_
        clear kh26
        refine f_te ?_
        refine f_be ?_
        refine f_tn (kh23 _ _ ?_)
        clear kh23
        refine f_seq fun K34 kh34 => ?_
        refine f_region ?_
        refine f_stepP rfl rfl rfl (o_move rfl) ?_
        refine f_stepP rfl rfl rfl (o_assign rfl) ?_
        refine f_stepP rfl rfl rfl (o_assign rfl) ?_
        refine f_done ?_
        refine f_tn (kh34 _ _ ?_)
        clear kh34
        refine f_ret ?_
        exact f_fin2 [[(b65, blk (nats out) 3)]] Try.results26 rfl rfl (by repeat (first | exact Sub.nil | refine Sub.pick ?_ | refine Sub.cast rfl ?_)) (by rw [if_pos hc0]; exact ⟨out, b65, rfl, rfl, parts_end hul hlab ht (by omega)⟩)

end Go.Proofs.Ytbjiejhdgkpjcaa
