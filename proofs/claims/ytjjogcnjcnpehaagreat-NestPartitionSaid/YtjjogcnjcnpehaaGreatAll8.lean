import Derived.Test.YtjjogcnjcnpehaaGreatAll6
import Derived.Test.YtjjogcnjcnpehaaGreatAll7
import Derived.Test.YtjjogcnjcnpehaaGreatAll5
import Derived.Test.YtjjogcnjcnpehaaGreatAll3
import Derived.Test.YtjjogcnjcnpehaaGreatFlyMap
import Derived.Laws.IdiomRangeMap

/- The graph of some vertices: what it keeps. Plain laws. -/
namespace Go.Proofs.YtjjogcnjcnpehaaGreat
open Go Fly
set_option linter.unusedVariables false
set_option linter.unusedSimpArgs false
theorem getD_in {α : Type} (l : List α) (d : α) {i : Nat} (h : i < l.length) : l.getD i d = l[i] := by simp [List.getD_eq_getElem?_getD, h]
theorem getD_out {α : Type} (l : List α) (d : α) {i : Nat} (h : l.length ≤ i) : l.getD i d = d := by simp [List.getD_eq_getElem?_getD, h]
theorem vrank_yes {keep : List Bool} {v : Nat} (h : v < keep.length) (hk : keep[v] = true) : fK keep (v + 1) = fK keep v + 1 := by
  unfold fK; rw [verts_yes h hk, List.length_append]; rfl
theorem vrank_no {keep : List Bool} {v : Nat} (h : v < keep.length) (hk : keep[v] = false) : fK keep (v + 1) = fK keep v := by
  unfold fK; rw [verts_no h hk]
theorem vrank_all {keep : List Bool} {k : Nat} (h : keep.length ≤ k) : fK keep k = (fB keep).length := by unfold fK; rw [verts_all h]
theorem vrank_mono (keep : List Bool) {j k : Nat} (h : j ≤ k) : fK keep j ≤ fK keep k := by
  induction k with
  | zero => rw [Nat.le_zero.1 h]; exact Nat.le_refl _
  | succ k ih =>
    rcases Nat.lt_or_ge j (k + 1) with h' | h'
    · have := ih (by omega)
      by_cases hl : k < keep.length
      · cases hk : keep[k]
        · rw [vrank_no hl hk]; omega
        · rw [vrank_yes hl hk]; omega
      · rw [vrank_all (k := k + 1) (by omega)]; rw [vrank_all (k := k) (by omega)] at this; exact this
    · rw [show j = k + 1 from by omega]; exact Nat.le_refl _
theorem kS {keep : List Bool} {v : Nat} (h : v < keep.length) (hk : keep[v] = true) : fK keep v < (fB keep).length := by
  have a := vrank_yes h hk
  have b := vrank_mono keep (j := v + 1) (k := keep.length) (by omega)
  rw [vrank_all (Nat.le_refl _)] at b;omega
/-- Which vertex has a number. -/
theorem verts_at {keep : List Bool} : ∀ k, k ≤ keep.length → ∀ i, i < (fB (keep.take k)).length → ∃ u, ∃ h : u < keep.length, u < k ∧ (fB (keep.take k))[i]? = some (u : Int) ∧ keep[u] = true ∧ fK keep u = i
  | 0, _, i, hi => by rw [List.take_zero] at hi; exact absurd hi (Nat.not_lt_zero _)
  | k + 1, hk, i, hi => by
    have hl : k < keep.length := by omega
    cases hkk : keep[k]
    · rw [verts_no hl hkk] at hi ⊢
      obtain ⟨u, h, hu, e, r⟩ := verts_at k (by omega) i hi
      exact ⟨u, h, by omega, e, r⟩
    · rw [verts_yes hl hkk] at hi ⊢
      by_cases hik : i < (fB (keep.take k)).length
      · obtain ⟨u, h, hu, e, r⟩ := verts_at k (by omega) i hik
        exact ⟨u, h, by omega, by rw [List.getElem?_append_left hik]; exact e, r⟩
      · rw [List.length_append, List.length_singleton] at hi
        have ei : i = (fB (keep.take k)).length := by omega
        exact ⟨k, hl, by omega, by rw [ei, List.getElem?_append_right (Nat.le_refl _), Nat.sub_self]; rfl, hkk, by rw [ei]; rfl⟩
theorem verts_get {keep : List Bool} {i : Nat} (hi : i < (fB keep).length) : ∃ u, ∃ h : u < keep.length, (fB keep)[i]? = some (u : Int) ∧ keep[u] = true ∧ fK keep u = i := by
  have e : keep.take keep.length = keep := List.take_length
  obtain ⟨u, h, _, a, b, c⟩ := verts_at keep.length (Nat.le_refl _) i (by rw [e]; exact hi)
  rw [e] at a;exact ⟨u, h, a, b, c⟩
theorem verts_ne {keep : List Bool} {v : Nat} (h : v < keep.length) (hk : keep[v] = true) : (fB keep).length ≠ 0 := by
  have := kS h hk; omega
theorem kin_true {keep : List Bool} {x : Arc} (h : kin keep x = true) : ∃ (h1 : x.src.toNat < keep.length) (h2 : x.dst.toNat < keep.length), keep[x.src.toNat] = true ∧ keep[x.dst.toNat] = true := by
  have key : ∀ v, keep.getD v false = true → ∃ h : v < keep.length, keep[v] = true := fun v hv => by
    by_cases hl : v < keep.length
    · rw [getD_in _ _ hl] at hv; exact ⟨hl, hv⟩
    · rw [getD_out _ _ (by omega)] at hv; cases hv
  unfold kin at h
  rw [Bool.and_eq_true] at h;obtain ⟨h1, e1⟩ := key _ h.1
  obtain ⟨h2, e2⟩ := key _ h.2
  exact ⟨h1, h2, e1, e2⟩
/-- The graph of some vertices is right. -/
theorem sub_good {keep : List Bool} {l : List Arc} (hk : keep.length ≤ 1024) (hl : l.length ≤ 8192) (hv : (fB keep).length ≠ 0) : bH ((fB keep).length : Int) (d8 keep l) = (0, 0) := by
  have h1 := verts_le keep
  have h2 := sub_len keep l
  refine gcheck_ok ⟨by omega, by omega⟩ (by omega) fun j hj => ?_;have hm := List.getElem_mem hj
  unfold d8 at hm
  rw [List.mem_map] at hm;obtain ⟨x, hx, e⟩ := hm
  rw [List.mem_filter] at hx;obtain ⟨ha, hb, e1, e2⟩ := kin_true hx.2
  have r1 := kS ha e1
  have r2 := kS hb e2
  unfold d8
  rw [← e]
  unfold eB subArc
  simp;omega
theorem sub_ok {keep : List Bool} {l : List Arc} (hk : keep.length ≤ 1024) (hok : ∀ x ∈ l, dQ x) : ∀ x ∈ d8 keep l, dQ x := by
  intro y hy
  unfold d8 at hy
  obtain ⟨x, hx, rfl⟩ := List.mem_map.1 hy
  have hx' := hok x (List.mem_filter.1 hx).1
  obtain ⟨ha, hb, e1, e2⟩ := kin_true (List.mem_filter.1 hx).2
  have r1 := kS ha e1
  have r2 := kS hb e2
  have := verts_le keep
  exact ⟨⟨by show _ ≤ ((fK keep x.src.toNat : Nat) : Int); omega, by show ((fK keep x.src.toNat : Nat) : Int) ≤ _; omega⟩, ⟨by show _ ≤ ((fK keep x.dst.toNat : Nat) : Int); omega, by show ((fK keep x.dst.toNat : Nat) : Int) ≤ _; omega⟩, hx'.wt⟩
/-! ### all of a graph; some of some -/
theorem vrank_inj {keep : List Bool} {u v : Nat} (hu : u < keep.length) (hv : v < keep.length) (ku : keep[u] = true) (kv : keep[v] = true) (e : fK keep u = fK keep v) : u = v := by
  rcases Nat.lt_trichotomy u v with h | h | h
  · have := vrank_yes hu ku; have := vrank_mono keep (j := u + 1) (k := v) (by omega); omega
  · exact h
  · have := vrank_yes hv kv; have := vrank_mono keep (j := v + 1) (k := u) (by omega); omega
end Go.Proofs.YtjjogcnjcnpehaaGreat

/- A region is connected. -/
namespace Go.Proofs.YtjjogcnjcnpehaaGreat
open Go Fly
set_option linter.unusedVariables false
set_option linter.unusedSimpArgs false
set_option linter.unusedSectionVars false
theorem reg_head {n : Nat} {l : List Arc} {cn mn : Nat} {L : List Int} (hg : (bH (n : Int) l).2 = 0) (hok : RegOk n l cn mn L) : ∃ h : 0 < L.length, L[0] = (cn : Int) := by
  obtain ⟨hrl, hrng⟩ := iZ hg
  obtain ⟨E, hE⟩ := bfs_lev (rows := fun v : Nat => bY (v : Int) l) hok.c hrng
  have hL := hok.is
  have hm := hok.m
  have hp := hE.pos
  have h0 : 0 < L.length := by rw [hL, List.length_take]; omega
  refine ⟨h0, ?_⟩;have := hE.head.1
  rw [List.getElem?_eq_getElem hp] at this;subst hL;rw [List.getElem_take]; exact Option.some.inj this
end Go.Proofs.YtjjogcnjcnpehaaGreat

/- The natural cut: it is one alone, and of a right graph and a right question it is told. -/
namespace Go.Proofs.YtjjogcnjcnpehaaGreat
open Go Fly
set_option linter.unusedVariables false
set_option linter.unusedSimpArgs false
set_option linter.unusedSectionVars false
theorem nc_looked {n : Nat} {l : List Arc} {c most : Int} (h0 : ncE (n : Int) l c most = 0) (hne : (dE (n : Int) l c most).1.length ≠ n) : e6 (gP n l c most) (kC (prs n l) (d7 n l c most)) 0 1 = 0 := by
  unfold ncE at h0
  by_cases h1 : (dE (n : Int) l c most).2 ≠ 0
  · rw [if_pos h1] at h0; exact absurd h0 h1
  · rw [if_neg h1, if_neg (by omega), Int.toNat_natCast] at h0; exact h0
/-- There is but one natural cut. -/
theorem nc_unique {n : Nat} {l : List Arc} {c most : Int} {C C' : List Pr} (h0 : ncE (n : Int) l c most = 0) (hC : NcΦ n l c most C) (hC' : NcΦ n l c most C') : C = C' := by
  by_cases e : (dE (n : Int) l c most).1.length = n
  · rw [hC.1 e, hC'.1 e]
  · obtain ⟨f, V, sd, hl, hF, hS, rfl⟩ := hC.2 e
    obtain ⟨f', V', sd', hl', hF', hS', rfl⟩ := hC'.2 e
    have hf := nc_looked h0 e
    obtain ⟨hk, _, hk1, _, hk2, _⟩ := flooked_zero hf
    obtain ⟨hz1, hz2, hz3, hz4⟩ := ncheck_zero hk
    have he : jJ (gP n l c most).toNat (kC (prs n l) (d7 n l c most)) := fun x hx => by
      obtain ⟨j, hj, rfl⟩ := List.mem_iff_getElem.1 hx
      have := hz4 j hj; omega
    have hsame := (Side.same he (by omega) hF hF' hS hS').2
    have : sd = sd' := List.ext_getElem (by omega) fun i h1 h2 => by
      have := hsame i (by omega)
      simpa [List.getD_eq_getElem?_getD, h1, h2] using this
    rw [this]
theorem prs_few {n : Nat} {l : List Arc} (hg : ∀ a ∈ l, (0 ≤ a.src ∧ a.src < (n : Int)) ∧ 0 ≤ a.dst ∧ a.dst < (n : Int)) : (prs n l).length ≤ l.length := by
  have hnd : (prs n l).Nodup := (lO n l).imp fun {a b} h e => by subst e; unfold ltX at h; omega
  have h1 := List.Nodup.length_le_of_subset hnd (l₂ := iG l) fun p hp => (mem_prs hg).1 hp
  refine Nat.le_trans h1 ?_
  unfold iG
  rw [List.length_map]; exact List.length_filter_le _ _
/-- A right question is answered. -/
theorem nc_zero {n : Nat} {l : List Arc} {c most : Int} (h : (dE (n : Int) l c most).2 = 0) : ncE (n : Int) l c most = 0 := by
  unfold ncE
  rw [if_neg (by rw [h]; simp)]
  by_cases e : ((dE (n : Int) l c most).1.length : Int) = n
  · rw [if_pos e]
  · rw [if_neg e, Int.toNat_natCast]
    obtain ⟨hg, n', cn, mn, en, rfl, rfl, hok⟩ := reg_ok h
    obtain rfl : n = n' := by omega
    obtain ⟨hg1, hg2, hg3, hg4⟩ := bX hg
    have hgood : ∀ a ∈ l, (0 ≤ a.src ∧ a.src < (n : Int)) ∧ 0 ≤ a.dst ∧ a.dst < (n : Int) := fun a ha => by
      obtain ⟨i, hi, rfl⟩ := List.mem_iff_getElem.1 ha
      have := hg4 i hi; omega
    have hle : (dE (n : Int) l (cn : Int) (mn : Int)).1.length ≤ n := ints_card hok.rng hok.nd
    have hpos : 0 < (dE (n : Int) l (cn : Int) (mn : Int)).1.length := (reg_head hg hok).1
    have hcl : (fN (n : Int) l (cn : Int) (mn : Int)).1.length = min (((dE (n : Int) l (cn : Int) (mn : Int)).1.length + 3) / 4) (dE (n : Int) l (cn : Int) (mn : Int)).1.length := by unfold fN; simp only [List.length_take]
    have hN : gP n l (cn : Int) (mn : Int) = 2 + ((dE (n : Int) l (cn : Int) (mn : Int)).1.length : Int) - ((fN (n : Int) l (cn : Int) (mn : Int)).1.length : Int) := rfl
    have hrng := ndTo_rng (dE (n : Int) l (cn : Int) (mn : Int)).1 (fN (n : Int) l (cn : Int) (mn : Int)).1.length n (dE (n : Int) l (cn : Int) (mn : Int)).1.length (by omega) _ (Nat.le_refl _)
    have hnl : (d7 n l (cn : Int) (mn : Int)).length = n := ndTo_len _ _ _ _
    have hfew := prs_few hgood
    have hlen := cutE_len (d7 n l (cn : Int) (mn : Int)) (prs n l)
    have hnd : ∀ u : Int, 0 ≤ u → u < (n : Int) → 0 ≤ nd (d7 n l (cn : Int) (mn : Int)) u ∧ nd (d7 n l (cn : Int) (mn : Int)) u < gP n l (cn : Int) (mn : Int) := fun u hu1 hu2 => by
      rw [nd_at (by omega)];have := hrng _ (List.getElem_mem (show u.toNat < (d7 n l (cn : Int) (mn : Int)).length by omega))
      rw [hN]; exact this
    have hk : gQ (gP n l (cn : Int) (mn : Int)) (kC (prs n l) (d7 n l (cn : Int) (mn : Int))) = (0, 0) := ncheck_ok (by omega) (by omega) fun j hj => by
      have hm := List.getElem_mem hj
      obtain ⟨p, hp, hq⟩ := List.mem_flatMap.1 hm
      have hr := f7 hp
      have h1 := hnd p.1 hr.1.1 hr.1.2
      have h2 := hnd p.2 hr.2.1 hr.2.2
      generalize (kC (prs n l) (d7 n l (cn : Int) (mn : Int)))[j] = x at hq
      split at hq
      · simp only [List.mem_cons, List.not_mem_nil, or_false] at hq
        rcases hq with rfl | rfl <;> (unfold eB; simp; omega)
      · cases hq
    unfold e6
    rw [hk, if_neg (by decide), if_neg (by omega), if_neg (by decide)]
end Go.Proofs.YtjjogcnjcnpehaaGreat

/- natcut.Marks: the pairs of many cuts. -/
namespace Go.Proofs.YtjjogcnjcnpehaaGreat
open Go Go.RowKit Fly
set_option linter.unusedVariables false
set_option linter.unusedSimpArgs false
def mkE (N : Int) (l : List Arc) (cs : List Int) (most : Int) : Int := if (bH N l).2 ≠ 0 then (bH N l).2 else if 16384 < cs.length then 2 else if most < 1 ∨ 1024 < most then 1 else if cs.any (offV N) then 5 else 0
structure Td (cs : List Int) (ents : List (Int × Value × Nat)) : Prop where
  yes : ∀ q ∈ cs, ∃ c : Int, dI ents q = some (.int .i64 c) ∧ 1 ≤ c ∧ c ≤ (cs.length : Int)
  no : ∀ q, q ∉ cs → dI ents q = none
theorem Td.nil : Td [] [] where
  yes := fun q hq => by cases hq
  no := fun q _ => rfl
theorem Td.val {cs : List Int} {ents : List (Int × Value × Nat)} (h : Td cs ents) (q : Int) : ∃ c : Int, (dI ents q).getD (.int .i64 0) = .int .i64 c ∧ 0 ≤ c ∧ c ≤ (cs.length : Int) := by
  by_cases hq : q ∈ cs
  · obtain ⟨c, h1, h2, h3⟩ := h.yes q hq
    exact ⟨c, by rw [h1]; rfl, by omega, h3⟩
  · exact ⟨0, by rw [h.no q hq]; rfl, by omega, by omega⟩
theorem Td.add {cs : List Int} {ents : List (Int × Value × Nat)} (h : Td cs ents) {q : Int} {c : Int} (h0 : 0 ≤ c) (h1 : c ≤ (cs.length : Int)) (k : Nat) : Td (cs ++ [q]) (eW ents q (.int .i64 (c + 1)) k) where
  yes := fun x hx => by
    rw [gS]
    by_cases e : x = q
    · rw [if_pos e]; exact ⟨_, rfl, by omega, by simp; omega⟩
    · rw [if_neg e]
      rcases List.mem_append.1 hx with hx | hx
      · obtain ⟨d, h2, h3, h4⟩ := h.yes x hx
        exact ⟨d, h2, h3, by simp; omega⟩
      · exact absurd (List.mem_singleton.1 hx) e
  no := fun x hx => by
    rw [gS, if_neg (fun e => hx (by simp [e]))];exact h.no x fun hm => hx (by simp [hm])
/-- While the centres are gone through: who has been met is gone. -/
structure Tg (cs : List Int) (k : Nat) (ents : List (Int × Value × Nat)) : Prop where
  gone : ∀ v ∈ cs.take k, dI ents v = none
  left : ∀ v ∈ cs, v ∉ cs.take k → ∃ c : Int, dI ents v = some (.int .i64 c) ∧ 1 ≤ c
theorem Tg.val {cs : List Int} {k : Nat} {ents : List (Int × Value × Nat)} (h : Tg cs k ents) {v : Int} (hv : v ∈ cs) : ∃ c : Int, (dI ents v).getD (.int .i64 0) = .int .i64 c ∧ (c = 0 ↔ v ∈ cs.take k) := by
  by_cases hm : v ∈ cs.take k
  · exact ⟨0, by rw [h.gone v hm]; rfl, by simp [hm]⟩
  · obtain ⟨c, h1, h2⟩ := h.left v hv hm
    exact ⟨c, by rw [h1]; rfl, by constructor; intro e; omega; intro e; exact absurd e hm⟩
theorem Tg.skip {cs : List Int} {k : Nat} {ents : List (Int × Value × Nat)} (h : Tg cs k ents) (hk : k < cs.length) (hm : cs[k] ∈ cs.take k) : Tg cs (k + 1) ents where
  gone := fun v hv => by
    rw [List.take_succ_eq_append_getElem hk] at hv
    rcases List.mem_append.1 hv with hv | hv
    · exact h.gone v hv
    · obtain rfl := List.mem_singleton.1 hv; exact h.gone _ hm
  left := fun v hv hn => h.left v hv fun hm' => hn (by rw [List.take_succ_eq_append_getElem hk]; exact List.mem_append_left _ hm')
theorem Tg.del {cs : List Int} {k : Nat} {ents : List (Int × Value × Nat)} (h : Tg cs k ents) (hn : (ents.map (·.1)).Nodup) (hk : k < cs.length) : Tg cs (k + 1) (mdel ents cs[k]) where
  gone := fun v hv => by
    rw [mget_del hn]
    split
    · rfl
    · rename_i hne
      rw [List.take_succ_eq_append_getElem hk] at hv
      rcases List.mem_append.1 hv with hv | hv
      · exact h.gone v hv
      · exact absurd (List.mem_singleton.1 hv) hne
  left := fun v hv hn' => by
    rw [List.take_succ_eq_append_getElem hk] at hn';rw [mget_del hn, if_neg (fun e => hn' (List.mem_append_right _ (by rw [e]; exact List.mem_singleton.2 rfl)))];exact h.left v hv fun hm' => hn' (List.mem_append_left _ hm')
/-- All pairs of some centres' cuts. -/
def OutI (n : Nat) (l : List Arc) (most : Int) (done : List Int) (O : List Pr) : Prop := ∀ p, p ∈ O ↔ ∃ v ∈ done, ∃ C, NcΦ n l v most C ∧ p ∈ C
theorem OutI.skip {n : Nat} {l : List Arc} {most : Int} {cs : List Int} {k : Nat} {O : List Pr} (h : OutI n l most (cs.take k) O) (hk : k < cs.length) (hm : cs[k] ∈ cs.take k) : OutI n l most (cs.take (k + 1)) O := fun p => by
  rw [h p, List.take_succ_eq_append_getElem hk];constructor
  · rintro ⟨v, hv, h2⟩; exact ⟨v, List.mem_append_left _ hv, h2⟩
  · rintro ⟨v, hv, h2⟩
    rcases List.mem_append.1 hv with hv | hv
    · exact ⟨v, hv, h2⟩
    · obtain rfl := List.mem_singleton.1 hv; exact ⟨_, hm, h2⟩
theorem OutI.add {n : Nat} {l : List Arc} {most : Int} {cs : List Int} {k : Nat} {O C : List Pr} (h : OutI n l most (cs.take k) O) (hk : k < cs.length) (h0 : ncE (n : Int) l cs[k] most = 0) (hC : NcΦ n l cs[k] most C) : OutI n l most (cs.take (k + 1)) (O ++ C) := fun p => by
  rw [List.mem_append, h p, List.take_succ_eq_append_getElem hk];constructor
  · rintro (⟨v, hv, h2⟩ | hp)
    · exact ⟨v, List.mem_append_left _ hv, h2⟩
    · exact ⟨cs[k], List.mem_append_right _ (List.mem_singleton.2 rfl), C, hC, hp⟩
  · rintro ⟨v, hv, C', hC', hp⟩
    rcases List.mem_append.1 hv with hv | hv
    · exact .inl ⟨v, hv, C', hC', hp⟩
    · obtain rfl := List.mem_singleton.1 hv
      exact .inr (by rw [nc_unique h0 hC hC']; exact hp)
theorem reg_zeroN {n : Nat} {l : List Arc} {c most : Int} (hg : (bH (n : Int) l).2 = 0) (hc : 0 ≤ c ∧ c < (n : Int)) (hm : 1 ≤ most ∧ most ≤ 1024) : (dE (n : Int) l c most).2 = 0 := by
  unfold dE
  rw [if_neg (by rw [hg]; simp), if_neg (by omega), if_neg (by omega)]
theorem nc_sub {n : Nat} {l : List Arc} {c most : Int} {C : List Pr} (h : NcΦ n l c most C) : (∀ p ∈ C, p ∈ prs n l) ∧ C.length ≤ (prs n l).length := by
  by_cases e : (dE (n : Int) l c most).1.length = n
  · rw [h.1 e]; exact ⟨fun p hp => (by cases hp), Nat.zero_le _⟩
  · obtain ⟨_, _, _, _, _, _, rfl⟩ := h.2 e
    exact ⟨fun p hp => (List.mem_filter.1 hp).1, List.length_filter_le _ _⟩
theorem prs_one (C : List Pr) : (C.flatMap dU).all (·.oneCell') = true := by
  rw [List.all_eq_true];intro v hv;obtain ⟨p, _, hp⟩ := List.mem_flatMap.1 hv
  simp only [dU, List.mem_cons, List.not_mem_nil, or_false] at hp
  rcases hp with rfl | rfl <;> rfl
set_option maxRecDepth 100000 in
set_option maxHeartbeats 4000000 in
theorem Marks1_spec (N : Int) (A : Option Addr) (len cap b : Nat) (i : Int) (w : World) (h2 : Ro (Fr w []) w (some ⟨b, 0, none⟩) [.int .i64 N, .slice A len cap]) :
    Meets Tryz.prog 53 ([.int .i64 i] ++ [.pointer (some ⟨b, 0, none⟩)]) w [] (fun u m => u = .bool (offV N i) ∧ m = []) := by
 obtain ⟨b', o', e', hS2, hc2⟩ := h2 (by simp)
 obtain ⟨rfl, rfl⟩ : b = b' ∧ 0 = o' := by cases e'; exact ⟨rfl, rfl⟩
 refine bJ Tryz.func53 rfl Tryz.ntmps53 rfl Owns.nil ?_;refine aK fun K1 kh1 => ?_;refine aB ?_;refine aA rfl rfl rfl (aF rfl) ?_;refine aJ ?_;refine aL (kh1 _ _ ?_);clear kh1;refine aK fun K2 kh2 => ?_;refine aB ?_;refine aA rfl rfl rfl (aG rfl) ?_;refine aA rfl rfl rfl (cD rfl rfl) ?_;refine aA rfl rfl rfl (aG rfl) ?_;refine cX 6 rfl (fun g6 => ?_) (fun g6 => ?_)
 ·
  refine aS rfl rfl rfl rfl rfl rfl ?_;refine aS rfl rfl rfl rfl rfl rfl ?_;refine aS rfl rfl rfl rfl rfl rfl ?_;refine aS rfl rfl rfl rfl rfl rfl ?_;refine aA rfl rfl rfl (cF rfl rfl) ?_;refine aA rfl rfl rfl (aF rfl) ?_;refine aJ ?_;refine aL (kh2 _ _ ?_);clear kh2;refine a7 ?_;exact bP [] Tryz.results53 rfl aI ⟨by unfold offV; rw [decide_eq_true (.inl g6)], rfl⟩
 ·
  refine aO rfl rfl rfl rfl rfl (aG rfl) ?_;refine aO rfl rfl rfl rfl rfl (aQ eE rfl) ?_;refine aO rfl rfl rfl rfl rfl (aM Tryz.isAgg3 rfl (rdS hS2 (hc2 0 _ rfl))) ?_;refine aO rfl rfl rfl rfl rfl (h7 rfl rfl) ?_;refine aA rfl rfl rfl (cO rfl rfl) ?_;refine aA rfl rfl rfl (aF rfl) ?_;refine aJ ?_;refine aL (kh2 _ _ ?_);clear kh2;refine a7 ?_;exact bP [] Tryz.results53 rfl aI ⟨by unfold offV; congr 1; apply decide_eq_decide.2; omega, rfl⟩
set_option maxRecDepth 100000 in
set_option maxHeartbeats 4000000 in
theorem Marks_spec (N : Int) (A B : Option Addr) (l : List Arc) (cap : Nat) (cs : List Int) (cb : Nat) (most : Int) (w : World) (hr : Ro (Fr w []) w A (l.flatMap cE)) (hl : l.length ≤ 9223372036854775807) (hN : I64 N) (hok : ∀ x ∈ l, dQ x) (hL : Ro (Fr w []) w B (a6 cs)) (hm : cs.length ≤ 9223372036854775807) :
    Meets Tryz.prog 35 [.agg #[.int .i64 N, .slice A l.length cap], .slice B cs.length cb, .int .i64 most] w [] (fun u own' => ∃ (M : List Pr) (A' : Option Addr) (c2 : Nat) (m' : Seg), u = .tuple #[.slice A' M.length M.length, .int .i64 (mkE N l cs most)] ∧ own' = [m'] ∧ Own 95 2 (.slice A' M.length c2) M.length (M.flatMap dU) m' ∧ (mkE N l cs most ≠ 0 → M = []) ∧ (mkE N l cs most = 0 → M.Pairwise ltX ∧ OutI N.toNat l most cs M)) := by
 refine bJ Tryz.func35 rfl Tryz.ntmps35 rfl Owns.nil ?_;refine aK fun K1 kh1 => ?_;refine aB ?_;refine aR rfl rfl rfl (cZ rfl rfl fun b3 => ?_);refine aA rfl rfl rfl (aF rfl) ?_;refine aA rfl rfl rfl (aF rfl) ?_;refine aJ ?_;refine aL (kh1 _ _ ?_);clear kh1;refine aK fun K2 kh2 => ?_;refine aK fun K3 kh3 => ?_;refine aB ?_;refine aA rfl rfl rfl (a8 (vs := [_, _]) Tryz.isAgg24 Tryz.sizeOf24 rfl rfl ⟨(rdA rfl), (rdA rfl), trivial⟩) ?_;refine aR rfl rfl rfl (bD Tryz.call21 rfl (fun w_ hp_ => fG N A l cap w_ (hr.up0 hp_) hl hN hok) ?_);rintro _ _ ⟨rfl, rfl⟩;dsimp only [List.cons_append, List.nil_append];refine aA rfl rfl rfl (aG rfl) ?_;refine aA rfl rfl rfl (aV rfl rfl) ?_;refine aA rfl rfl rfl (aV rfl rfl) ?_;refine aA rfl rfl rfl (aF rfl) ?_;refine aA rfl rfl rfl (aF rfl) ?_;refine aJ ?_;refine aL (kh3 _ _ ?_);clear kh3;refine aK fun K4 kh4 => ?_;refine aB ?_;refine aA rfl rfl rfl (aG rfl) ?_;refine aA rfl rfl rfl (c6 rfl rfl) ?_;refine aJ ?_;refine aL (kh4 _ _ ?_);clear kh4;refine aZ rfl (fun c24 => ?_) (fun c24 => ?_)
 ·
  refine aK fun K5 kh5 => ?_;refine aB ?_;refine aA rfl rfl rfl (aG rfl) ?_;refine aA rfl rfl rfl (aF rfl) ?_;refine aA rfl rfl rfl (aF rfl) ?_;refine aJ ?_;refine aL (kh5 _ _ ?_);clear kh5;refine a7 ?_;refine bT ?_;have c24' : (bH N l).2 ≠ 0 := by simpa using c24
  have he : mkE N l cs most = (bH N l).2 := by unfold mkE; rw [if_pos c24']
  exact bW [[]] Tryz.results35 rfl rfl (show Fly.Sub _ [[]] from (by repeat first|exact aI|refine aD ?_|refine aC rfl ?_|refine aH ?_)) ⟨[], none, 0, [], by rw [he]; rfl, rfl, Own.nil _ _, fun _ => rfl, fun h => absurd (he.symm.trans h) c24'⟩
 ·
  have hg : (bH N l).2 = 0 := by simpa using c24
  obtain ⟨hg1, hg2, hgl, hgd⟩ := bX hg
  obtain ⟨n, rfl⟩ : ∃ n : Nat, N = (n : Int) := ⟨N.toNat, by omega⟩
  have hn1 : n ≤ 1024 := by omega
  have hpl := prs_len hn1 l
  refine aW ?_;refine aL (kh2 _ _ ?_);clear kh2;refine aK fun K6 kh6 => ?_;refine aY ?_;refine aK fun K7 kh7 => ?_;refine aB ?_;refine aA rfl rfl rfl (aG rfl) ?_;refine aA rfl rfl rfl (bS bK rfl) ?_;refine aA rfl rfl rfl (eQ rfl rfl) ?_;refine aA rfl rfl rfl (aF rfl) ?_;refine aJ ?_;refine aL (kh7 _ _ ?_);clear kh7;refine aZ rfl (fun c26 => ?_) (fun c26 => ?_)
  ·
   refine aK fun K8 kh8 => ?_;refine aB ?_;refine aA rfl rfl rfl (aF rfl) ?_;refine aA rfl rfl rfl (aF rfl) ?_;refine aJ ?_;refine aL (kh8 _ _ ?_);clear kh8;refine a7 ?_;refine eC ?_;refine bT ?_;have he : mkE (n : Int) l cs most = 2 := by unfold mkE; rw [if_neg (by rw [hg]; simp), if_pos (by omega)]
   exact bW [[]] Tryz.results35 rfl rfl (show Fly.Sub _ [[]] from (by repeat first|exact aI|refine aD ?_|refine aC rfl ?_|refine aH ?_)) ⟨[], none, 0, [], by rw [he]; rfl, rfl, Own.nil _ _, fun _ => rfl, fun h => by rw [he] at h; cases h⟩
  ·
   refine aK fun K9 kh9 => ?_;refine aB ?_;refine aA rfl rfl rfl (aG rfl) ?_;refine aA rfl rfl rfl (cD rfl rfl) ?_;refine aA rfl rfl rfl (aG rfl) ?_;refine cX 33 rfl (fun g33 => ?_) (fun g33 => ?_)
   ·
    refine aS rfl rfl rfl rfl rfl rfl ?_;refine aS rfl rfl rfl rfl rfl rfl ?_;refine aA rfl rfl rfl (cF rfl rfl) ?_;refine aA rfl rfl rfl (aF rfl) ?_;refine aJ ?_;refine aL (kh9 _ _ ?_);clear kh9;refine eF rfl ?_;refine aK fun K10 kh10 => ?_;refine aB ?_;refine aA rfl rfl rfl (aF rfl) ?_;refine aA rfl rfl rfl (aF rfl) ?_;refine aJ ?_;refine aL (kh10 _ _ ?_);clear kh10;refine a7 ?_;refine eC ?_;refine bT ?_;have he : mkE (n : Int) l cs most = 1 := by unfold mkE; rw [if_neg (by rw [hg]; simp), if_neg (by omega), if_pos (by omega)]
    exact bW [[]] Tryz.results35 rfl rfl (show Fly.Sub _ [[]] from (by repeat first|exact aI|refine aD ?_|refine aC rfl ?_|refine aH ?_)) ⟨[], none, 0, [], by rw [he]; rfl, rfl, Own.nil _ _, fun _ => rfl, fun h => by rw [he] at h; cases h⟩
   ·
    refine aO rfl rfl rfl rfl rfl (aG rfl) ?_;refine aO rfl rfl rfl rfl rfl (eQ rfl rfl) ?_;refine aA rfl rfl rfl (cO rfl rfl) ?_;refine aA rfl rfl rfl (aF rfl) ?_;refine aJ ?_;refine aL (kh9 _ _ ?_);clear kh9;refine aZ rfl (fun c30 => ?_) (fun c30 => ?_)
    ·
     refine aK fun K11 kh11 => ?_;refine aB ?_;refine aA rfl rfl rfl (aF rfl) ?_;refine aA rfl rfl rfl (aF rfl) ?_;refine aJ ?_;refine aL (kh11 _ _ ?_);clear kh11;refine a7 ?_;refine eC ?_;refine bT ?_;have he : mkE (n : Int) l cs most = 1 := by unfold mkE; rw [if_neg (by rw [hg]; simp), if_neg (by omega), if_pos (by omega)]
     exact bW [[]] Tryz.results35 rfl rfl (show Fly.Sub _ [[]] from (by repeat first|exact aI|refine aD ?_|refine aC rfl ?_|refine aH ?_)) ⟨[], none, 0, [], by rw [he]; rfl, rfl, Own.nil _ _, fun _ => rfl, fun h => by rw [he] at h; cases h⟩
    ·
     refine aK fun K12 kh12 => ?_;refine aB ?_;refine aA rfl rfl rfl (aG rfl) ?_;refine aA rfl rfl rfl (o_func rfl rfl) ?_;refine aR rfl rfl rfl (bD Tryz.call33 rfl (fun w_ hp_ => ContG_spec B cs cb (offV (n : Int)) 53 [.pointer (some ⟨b3, 0, none⟩)] w_ (hL.up0 hp_) hm Tryz.call53 (fun w' hs i hi => Marks1_spec (n : Int) A l.length cap b3 i w' (heldRo hp_ hs))) ?_);rintro _ _ ⟨rfl, rfl⟩;dsimp only [List.cons_append, List.nil_append];refine aA rfl rfl rfl (aF rfl) ?_;refine aJ ?_;refine aL (kh12 _ _ ?_);clear kh12;refine fC rfl (fun c37 => ?_) (fun c37 => ?_)
     ·
      refine aK fun K13 kh13 => ?_;refine aB ?_;refine aA rfl rfl rfl (aF rfl) ?_;refine aA rfl rfl rfl (aF rfl) ?_;refine aJ ?_;refine aL (kh13 _ _ ?_);clear kh13;refine a7 ?_;refine eC ?_;refine bT ?_;have he : mkE (n : Int) l cs most = 5 := by unfold mkE; rw [if_neg (by rw [hg]; simp), if_neg (by omega), if_neg (by omega), if_pos c37]
      exact bW [[]] Tryz.results35 rfl rfl (show Fly.Sub _ [[]] from (by repeat first|exact aI|refine aD ?_|refine aC rfl ?_|refine aH ?_)) ⟨[], none, 0, [], by rw [he]; rfl, rfl, Own.nil _ _, fun _ => rfl, fun h => by rw [he] at h; cases h⟩
     ·
      have hoff : ∀ v ∈ cs, 0 ≤ v ∧ v < (n : Int) := fun v hv => by
        have h1 := List.any_eq_false.1 c37 v hv
        unfold offV at h1
        simp at h1; omega
      refine aW ?_;refine cV ?_;refine aL (kh6 _ _ ?_);clear kh6;refine aK fun K14 kh14 => ?_;refine aB ?_;refine aR rfl rfl rfl (iH fun b41 => ?_);refine aA rfl rfl rfl (aF rfl) ?_;refine aJ ?_;refine aL (kh14 _ _ ?_);clear kh14;refine aK fun K15 kh15 => ?_;refine aK fun K16 kh16 => ?_;refine aB ?_;refine aA rfl rfl rfl (aG rfl) ?_;refine aA rfl rfl rfl (bS bK rfl) ?_;refine aA rfl rfl rfl (aG rfl) ?_;refine aJ ?_;refine aL (kh16 _ _ ?_);clear kh16;refine aY ?_;refine cS (α := Nat × List (Int × Value × Nat) × Nat) [1, 2, 3, 10, 42, 43] (fun ⟨k, ents, c1⟩ => [(44, .int .i64 (k : Int))]) (fun ⟨k, ents, c1⟩ => [[(b41, f3 (fun x : Int => .int .i64 x) ents c1)], [(b3, blk [.int .i64 (n : Int), .slice A l.length cap] 24)]]) (fun ⟨k, ents, c1⟩ => k ≤ cs.length ∧ MOk ents c1 ∧ Td (cs.take k) ents) (fun ⟨k, ents, c1⟩ => cs.length - k) (0, [], 0) ?_ ?_ ?_ ?_
      · exact (by repeat constructor)
      · repeat first|exact aI|refine aD ?_|refine aC rfl ?_|refine aH ?_
      · exact ⟨by omega, MOk.nil, Td.nil⟩
      ·
       rintro ⟨k, ents, c1⟩ ⟨hkl, hmap, htd⟩;refine aK fun K17 kh17 => ?_;refine aB ?_;refine aA rfl rfl rfl (cD rfl rfl) ?_;refine aJ ?_;refine aL (kh17 _ _ ?_);clear kh17;refine aK fun K18 kh18 => ?_;refine aZ rfl (fun c45 => ?_) (fun c45 => ?_)
       ·
        have hk : k < cs.length := by omega
        obtain ⟨bb, ob, rfl, hSb, hcb⟩ := hL (fun e => by have := aX cs; rw [e] at this; simp at this; omega)
        obtain ⟨c, hc, hc0, hc1⟩ := htd.val cs[k]
        have htk : cs.take (k + 1) = cs.take k ++ [cs[k]] := List.take_succ_eq_append_getElem hk
        have hti : (cs.take k).length = k := by rw [List.length_take]; omega
        have htd2 := htd.add (q := cs[k]) hc0 hc1 c1
        rw [← htk] at htd2;rw [hti] at hc1;refine aW ?_;refine aL (kh18 _ _ ?_);clear kh18;refine aK fun K19 kh19 => ?_;refine aY ?_;refine aK fun K20 kh20 => ?_;refine aB ?_;refine aA rfl rfl rfl (bA bK rfl rfl (ob + k) ⟨by omega, by omega, by first | omega | (simp; done) | (simp; omega)⟩) ?_;refine aA rfl rfl rfl (aM Tryz.isAgg3 rfl (dX (enc := (.int .i64 ·)) hSb hcb hk)) ?_;refine aA rfl rfl rfl (aF rfl) ?_;refine aJ ?_;refine aL (kh20 _ _ ?_);clear kh20;refine aB ?_;refine aA rfl rfl rfl (aG rfl) ?_;refine aA rfl rfl rfl (aG rfl) ?_;refine aA rfl rfl rfl (fW kt86 Tryz.zeroValue3 rfl rfl rfl (.int .i64 c) hc) ?_;refine aA rfl rfl rfl (bG rfl rfl _ (aT (by omega))) ?_;refine bF rfl rfl (gO kt86 rfl rfl rfl rfl ?_);refine aJ ?_;refine cV ?_;refine aL (kh19 _ _ ?_);clear kh19;refine aB ?_;refine aA rfl rfl rfl (bG rfl rfl _ (aT (by omega))) ?_;refine aA rfl rfl rfl (aG rfl) ?_;refine aJ ?_;refine aL (bB (k + 1, eW ents cs[k] (.int .i64 (c + 1)) c1, fF ents cs[k] c1) (by first | omega | (dsimp only; omega) | (simp; omega)) ⟨by omega, hmap.put _ _, htd2⟩ ?_ ?_ ?_)
        · exact (by repeat constructor)
        · exact (by repeat constructor)
        · repeat first|exact aI|refine aD ?_|refine aC rfl ?_|refine aH ?_
       ·
        obtain rfl : k = cs.length := by omega
        rw [List.take_length] at htd;refine cG ?_;refine cK ?_;clear kh18;refine cK ?_;refine d5 ?_;refine aL (kh15 _ _ ?_);clear kh15;refine aK fun K21 kh21 => ?_;refine aB ?_;refine aA rfl rfl rfl (aF rfl) ?_;refine aJ ?_;refine aL (kh21 _ _ ?_);clear kh21;refine aK fun K22 kh22 => ?_;refine aK fun K23 kh23 => ?_;refine aB ?_;refine aA rfl rfl rfl (aG rfl) ?_;refine aA rfl rfl rfl (bS bK rfl) ?_;refine aA rfl rfl rfl (aG rfl) ?_;refine aJ ?_;refine aL (kh23 _ _ ?_);clear kh23;refine aY ?_;refine cS (α := Nat × List (Int × Value × Nat) × Nat × List Pr × Value × Seg) [2, 3, 10, 53, 54] (fun ⟨k, ents, c1, O, vo, mo⟩ => [(55, .int .i64 (k : Int)), (13, vo)]) (fun ⟨k, ents, c1, O, vo, mo⟩ => [[(b41, f3 (fun x : Int => .int .i64 x) ents c1)], mo, [(b3, blk [.int .i64 (n : Int), .slice A l.length cap] 24)]]) (fun ⟨k, ents, c1, O, vo, mo⟩ => k ≤ cs.length ∧ MOk ents c1 ∧ Tg cs k ents ∧ Own 95 2 vo O.length (O.flatMap dU) mo ∧ OutI n l most (cs.take k) O ∧ O.length ≤ k * 8192) (fun ⟨k, ents, c1, O, vo, mo⟩ => cs.length - k) (0, ents, c1, [], .slice none 0 0, []) ?_ ?_ ?_ ?_
        · exact (by repeat constructor)
        · repeat first|exact aI|refine aD ?_|refine aC rfl ?_|refine aH ?_
        · exact ⟨by omega, hmap, ⟨fun v hv => by simp at hv, fun v hv _ => by obtain ⟨c, h1, h2, _⟩ := htd.yes v hv; exact ⟨c, h1, h2⟩⟩, Own.nil _ _, fun p => by simp, by simp⟩
        ·
         rintro ⟨k, ents, c1, O, vo, mo⟩ ⟨hkl, hmap, htg, hO, hOI, hOl⟩;obtain ⟨Ao, co, rfl, hco⟩ := hO.val
         refine eX (e := [(55, _), (13, _), (2, _), (3, _), (10, _), (53, _), (54, _)]) (by repeat constructor) ?_;refine aK fun K24 kh24 => ?_;refine aB ?_;refine aA rfl rfl rfl (cD rfl rfl) ?_;refine aJ ?_;refine aL (kh24 _ _ ?_);clear kh24;refine aK fun K25 kh25 => ?_;refine aZ rfl (fun c56 => ?_) (fun c56 => ?_)
         ·
          have hk : k < cs.length := by omega
          obtain ⟨bb, ob, rfl, hSb, hcb⟩ := hL (fun e => by have := aX cs; rw [e] at this; simp at this; omega)
          have hkm := List.getElem_mem hk
          obtain ⟨c, hc, hciff⟩ := htg.val hkm
          have hnz := nc_zero (reg_zeroN (most := most) hg (hoff _ hkm) (by omega))
          refine aW ?_;refine aL (kh25 _ _ ?_);clear kh25;refine aK fun K26 kh26 => ?_;refine aY ?_;refine aK fun K27 kh27 => ?_;refine aB ?_;refine aA rfl rfl rfl (bA bK rfl rfl (ob + k) ⟨by omega, by omega, by first | omega | (simp; done) | (simp; omega)⟩) ?_;refine aA rfl rfl rfl (aM Tryz.isAgg3 rfl (dX (enc := (.int .i64 ·)) hSb hcb hk)) ?_;refine aA rfl rfl rfl (aF rfl) ?_;refine aJ ?_;refine aL (kh27 _ _ ?_);clear kh27;refine aK fun K28 kh28 => ?_;refine aK fun K29 kh29 => ?_;refine aB ?_;refine aA rfl rfl rfl (aG rfl) ?_;refine aA rfl rfl rfl (aG rfl) ?_;refine aA rfl rfl rfl (fW kt86 Tryz.zeroValue3 rfl rfl rfl (.int .i64 c) hc) ?_;refine aA rfl rfl rfl (fM rfl rfl) ?_;refine aJ ?_;refine aL (kh29 _ _ ?_);clear kh29;refine aZ rfl (fun c62 => ?_) (fun c62 => ?_)
          ·
           have hin : cs[k] ∈ cs.take k := hciff.1 (by omega)
           refine cG ?_;refine cK ?_;clear kh28;refine d5 ?_;refine aL (kh26 _ _ ?_);clear kh26;refine aB ?_;refine aA rfl rfl rfl (bG rfl rfl _ (aT (by omega))) ?_;refine aA rfl rfl rfl (aG rfl) ?_;refine aJ ?_;refine aL (bB (k + 1, ents, c1, O, _, mo) (by first | omega | (dsimp only; omega) | (simp; omega)) ⟨by omega, hmap, htg.skip hk hin, hO, hOI.skip hk hin, by omega⟩ ?_ ?_ ?_)
           · exact (by repeat constructor)
           · exact (by repeat constructor)
           · repeat first|exact aI|refine aD ?_|refine aC rfl ?_|refine aH ?_
          ·
           refine aW ?_;refine aL (kh28 _ _ ?_);clear kh28;refine aK fun K30 kh30 => ?_;refine aB ?_;refine aA rfl rfl rfl (aG rfl) ?_;refine aA rfl rfl rfl (aG rfl) ?_;refine bF rfl rfl (o_delete kt86 rfl rfl rfl ?_);refine aJ ?_;refine aL (kh30 _ _ ?_);clear kh30;refine aK fun K31 kh31 => ?_;refine aB ?_;refine aA rfl rfl rfl (a8 (vs := [_, _]) Tryz.isAgg24 Tryz.sizeOf24 rfl rfl ⟨(rdA rfl), (rdA rfl), trivial⟩) ?_;refine aA rfl rfl rfl (aG rfl) ?_;refine aA rfl rfl rfl (aG rfl) ?_;refine aR rfl rfl rfl (bD Tryz.call54 rfl (fun w_ hp_ => CutN_spec (n : Int) A l cap cs[k] most w_ (hr.up0 hp_) hl hN hok) ?_);rintro _ _ ⟨C, AC, cC, mC, rfl, rfl, hoC, _, hC0⟩;rw [hnz];have hC := hC0 hnz
           rw [Int.toNat_natCast] at hC;obtain ⟨hCs, hCl⟩ := nc_sub hC
           dsimp only [List.cons_append, List.nil_append];refine aA rfl rfl rfl (aG rfl) ?_;refine aA rfl rfl rfl (aV rfl rfl) ?_;refine aA rfl rfl rfl (aV rfl rfl) ?_;refine aA rfl rfl rfl (aF rfl) ?_;refine aA rfl rfl rfl (aF rfl) ?_;refine aJ ?_;refine aL (kh31 _ _ ?_);clear kh31;refine aK fun K32 kh32 => ?_;refine aK fun K33 kh33 => ?_;refine aB ?_;refine aA rfl rfl rfl (aG rfl) ?_;refine aA rfl rfl rfl (c6 rfl rfl) ?_;refine aJ ?_;refine aL (kh33 _ _ ?_);clear kh33;refine e7 rfl (by simp) ?_;refine aW ?_;refine aL (kh32 _ _ ?_);clear kh32;refine aB ?_;refine aA rfl rfl rfl (aG rfl) ?_;refine aA rfl rfl rfl (aG rfl) ?_
           refine aR rfl rfl rfl (o_appendQ el68 rfl rfl hO (ys := C.flatMap dU) (fun hne => by
             obtain ⟨bC, spC, rfl, rfl⟩ := hoC.at_ (by rcases C with _ | _; simp at hne; simp)
             exact ⟨bC, 0, rfl, rds_of _ _ fun j v hj => rdA (dN (by simpa using hj))⟩) (dR dU dK C) (prs_one C) (by omega) (by omega) ?_)
           rintro v77 m77 o77;obtain ⟨A77, c77, rfl, _⟩ := o77.val
           refine aA rfl rfl rfl (aF rfl) ?_;refine aJ ?_;refine cV ?_;refine aL (kh26 _ _ ?_);clear kh26;refine aB ?_;refine aA rfl rfl rfl (bG rfl rfl _ (aT (by omega))) ?_;refine aA rfl rfl rfl (aG rfl) ?_;refine aJ ?_;refine aL (bB (k + 1, mdel ents cs[k], c1, O ++ C, _, m77) (by first | omega | (dsimp only; omega) | (simp; omega)) ⟨by omega, hmap.del _, htg.del hmap.keys hk, by rw [List.flatMap_append, List.length_append]; exact o77, hOI.add hk hnz hC, by rw [List.length_append]; have := prs_few (n := n) (l := l) (fun a ha => by obtain ⟨i, hi, rfl⟩ := List.mem_iff_getElem.1 ha; have := hgd i hi; omega); omega⟩ ?_ ?_ ?_)
           · exact (by repeat constructor)
           · exact (by repeat constructor)
           · repeat first|exact aI|refine aD ?_|refine aC rfl ?_|refine aH ?_
         ·
          obtain rfl : k = cs.length := by omega
          rw [List.take_length] at hOI
          have hOok : ∀ p ∈ O, POk p := fun p hp => by
            obtain ⟨v, _, C, hC, hpC⟩ := (hOI p).1 hp
            have := f7 ((nc_sub hC).1 p hpC)
            unfold POk; omega
          refine cG ?_;refine cK ?_;clear kh25;refine cK ?_;refine d5 ?_;refine aL (kh22 _ _ ?_);clear kh22;refine aK fun K34 kh34 => ?_;refine aB ?_;refine aA rfl rfl rfl (aG rfl) ?_;refine aR rfl rfl rfl (fH [mo] _ Tryz.call55 rfl (by repeat (first | exact Sub.refl | refine aD ?_)) (fun w_ hp_ => SortPr_spec Ao co O mo w_ hOok hO (by omega) hp_.owns) ?_);rintro _ _ ⟨rfl, m2, l2, rfl, hp2, hs2, ho2⟩;have hl2 := hp2.length_eq
          rw [← hl2];dsimp only [List.cons_append, List.nil_append];refine aJ ?_;refine aL (kh34 _ _ ?_);clear kh34;refine aK fun K35 kh35 => ?_;refine aB ?_;refine aA rfl rfl rfl (aG rfl) ?_;refine aR rfl rfl rfl (fH [m2] _ Tryz.call58 rfl (by repeat (first | exact Sub.refl | refine aD ?_)) (fun w_ hp_ => CompactPr_spec Ao co l2 m2 w_ ho2 (by omega) hp_.owns) ?_);rintro v82 _ ⟨m3, rfl, ho3⟩;obtain ⟨A3, c3, rfl, hc3⟩ := ho3.val
          dsimp only [List.cons_append, List.nil_append];refine aR rfl rfl rfl (bD Tryz.call57 rfl (fun w_ hp_ => ClipPr_spec A3 (cpt l2).length c3 w_ hc3.1 hc3.2 (j0 ho3)) ?_);rintro _ _ ⟨rfl, rfl⟩;dsimp only [List.cons_append, List.nil_append];refine aA rfl rfl rfl (aF rfl) ?_;refine aA rfl rfl rfl (aF rfl) ?_;refine aJ ?_;refine aL (kh35 _ _ ?_);clear kh35;refine a7 ?_;have he : mkE (n : Int) l cs most = 0 := by unfold mkE; rw [if_neg (by rw [hg]; simp), if_neg (by omega), if_neg (by omega), if_neg (by rw [c37]; simp)]
          have hcr : (cpt l2).Pairwise ltX := l5 (R := ltX) (fun a b c h1 h2 => by unfold ltX at *; omega) (fun a b h e => by subst e; unfold ltX at h; omega) hs2
          exact bW [m3] Tryz.results35 rfl rfl (by repeat first|exact aI|refine aD ?_|refine aC rfl ?_|refine aH ?_) ⟨cpt l2, A3, c3, m3, by rw [he], rfl, ho3, fun h => absurd he h, fun _ => ⟨hcr, fun p => by rw [cpt_mem, hp2.mem_iff, Int.toNat_natCast]; exact hOI p⟩⟩
end Go.Proofs.YtjjogcnjcnpehaaGreat

/- graph.Parts: the labels of what is connected. -/
namespace Go.Proofs.YtjjogcnjcnpehaaGreat
open Go Go.RowKit Fly
set_option linter.unusedVariables false
set_option linter.unusedSimpArgs false
abbrev iA (bu bx : Nat) (up : List Nat) : List Seg := [[(bu, blk (iU up) 3)], [(bx, blk [.slice (some ⟨bu, 0, none⟩) up.length up.length] 25)]]
set_option maxRecDepth 100000 in
set_option maxHeartbeats 4000000 in
theorem root_spec (bu bx : Nat) (up : List Nat) (v : Nat) (w : World) (ho : Owns w (iA bu bx up)) (hd : kQ up) (hv : v < up.length) (hn : up.length ≤ 1000000) :
    Meets Tryz.prog 86 [.int .i64 (v : Int), .pointer (some ⟨bx, 0, none⟩)] w (iA bu bx up)
      (fun u own' => u = .int .i64 (bO up v : Int) ∧ ∃ up', own' = iA bu bx up' ∧ up'.length = up.length ∧ kQ up' ∧ ∀ x, bO up' x = bO up x) := by
 refine bJ Tryz.func86 rfl Tryz.ntmps86 rfl ho ?_
 unfold iA
 refine aK fun K1 kh1 => ?_;refine aB ?_;refine aA rfl rfl rfl (aF rfl) ?_;refine aJ ?_;refine aL (kh1 _ _ ?_);clear kh1;refine aK fun K2 kh2 => ?_;refine aY ?_;refine cS (α := Nat × List Nat) [1] (fun ⟨v', up'⟩ => [(0, .int .i64 (v' : Int))]) (fun ⟨v', up'⟩ => [[(bu, blk (iU up') 3)], [(bx, blk [.slice (some ⟨bu, 0, none⟩) up.length up.length] 25)]]) (fun ⟨v', up'⟩ => up'.length = up.length ∧ v' < up'.length ∧ kQ up' ∧ (∀ x, bO up' x = bO up x) ∧ bO up v' = bO up v) (fun ⟨v', up'⟩ => v') (v, up) ?_ ?_ ?_ ?_
 · exact (by repeat constructor)
 · repeat first|exact aI|refine aD ?_|refine aC rfl ?_|refine aH ?_
 · exact ⟨rfl, hv, hd, fun _ => rfl, rfl⟩
 ·
  rintro ⟨v', up'⟩ ⟨hl', hv', hd', hr', hrv⟩;have hle := hd' v' hv'
  have h2 : up'[v'] < up'.length := by omega
  have hle2 := hd' _ h2
  refine aK fun K3 kh3 => ?_;refine aK fun K4 kh4 => ?_;refine aB ?_;refine aA rfl rfl rfl (aM Tryz.isAgg25 rfl (rdA rfl)) ?_;refine aA rfl rfl rfl (aG rfl) ?_;refine aA rfl rfl rfl (bA bK rfl rfl (v') ⟨by omega, by omega, by first | omega | (simp; done) | (simp; omega)⟩) ?_;refine aA rfl rfl rfl (aM Tryz.isAgg3 rfl (rdA (nats_get hv'))) ?_;refine aA rfl rfl rfl (aG rfl) ?_;refine aA rfl rfl rfl (c6 rfl rfl) ?_;refine aJ ?_;refine aL (kh4 _ _ ?_);clear kh4;refine aZ rfl (fun c9 => ?_) (fun c9 => ?_)
  ·
   refine aW ?_;refine aL (kh3 _ _ ?_);clear kh3;refine aY ?_;refine aK fun K5 kh5 => ?_;refine gY 10 rfl (by decide +kernel) ?_;refine aN rfl rfl rfl (aM Tryz.isAgg25 rfl (rdA rfl)) ?_;refine aN rfl rfl rfl (aG rfl) ?_;refine aN rfl rfl rfl (aM Tryz.isAgg25 rfl (rdA rfl)) ?_;refine aN rfl rfl rfl (aM Tryz.isAgg25 rfl (rdA rfl)) ?_;refine aN rfl rfl rfl (aG rfl) ?_;refine aN rfl rfl rfl (bA bK rfl rfl (v') ⟨by omega, by omega, by first | omega | (simp; done) | (simp; omega)⟩) ?_;refine aN rfl rfl rfl (aM Tryz.isAgg3 rfl (rdA (nats_get hv'))) ?_;refine aN rfl rfl rfl (bA bK rfl rfl (up'[v']) ⟨by omega, by omega, by first | omega | (simp; done) | (simp; omega)⟩) ?_;refine aN rfl rfl rfl (aM Tryz.isAgg3 rfl (rdA (nats_get h2))) ?_;refine aN rfl rfl rfl (bA bK rfl rfl (v') ⟨by omega, by omega, by first | omega | (simp; done) | (simp; omega)⟩) ?_;refine eH (kN ?_);refine bF rfl rfl (cB Tryz.sizeOf3 rfl rfl rfl rfl (by rw [jB]; omega) (iU (up'.set v' up'[up'[v']])) (nats_set _ _ _) ?_);refine aJ ?_;refine aL (kh5 _ _ ?_);clear kh5;refine aB ?_;refine aA rfl rfl rfl (aM Tryz.isAgg25 rfl (rdA rfl)) ?_;refine aA rfl rfl rfl (aG rfl) ?_;refine aA rfl rfl rfl (bA bK rfl rfl (v') ⟨by omega, by omega, by first | omega | (simp; done) | (simp; omega)⟩) ?_;refine aA rfl rfl rfl (aM Tryz.isAgg3 rfl (rdA (nats_set_get hv'))) ?_;refine aA rfl rfl rfl (aF rfl) ?_;refine aJ ?_;refine cV ?_;refine aL (bB (up'[up'[v']], up'.set v' up'[up'[v']]) (by first | omega | (dsimp only; omega) | (simp; omega)) ⟨by simp [hl'], by simp; omega, down_halve hd' hv' h2, fun x => by rw [rootOf_halve hd' hv' h2]; exact hr' x, by rw [← hrv, ← hr', ← hr', rootOf_two hd' hv' h2]⟩ ?_ ?_ ?_)
   · exact (by repeat constructor)
   · exact (by repeat constructor)
   · repeat first|exact aI|refine aD ?_|refine aC rfl ?_|refine aH ?_
  ·
   refine cG ?_;refine cK ?_;clear kh3;refine cK ?_;refine d5 ?_;refine aL (kh2 _ _ ?_);clear kh2;refine aK fun K6 kh6 => ?_;refine aB ?_;refine aA rfl rfl rfl (aG rfl) ?_;refine aA rfl rfl rfl (aF rfl) ?_;refine aJ ?_;refine aL (kh6 _ _ ?_);clear kh6;refine a7 ?_;exact bP (iA bu bx up') Tryz.results86 rfl (by unfold iA; rw [hl']; exact Sub.refl) ⟨by rw [← hrv, ← hr', eJ hv' (by omega)], up', rfl, hl', hd', hr'⟩
set_option maxRecDepth 100000 in
set_option maxHeartbeats 4000000 in
theorem Parts_spec (N : Int) (A : Option Addr) (l : List Arc) (cap : Nat) (w : World) (hr : Ro (Fr w []) w A (l.flatMap cE)) (hl : l.length ≤ 9223372036854775807) (hN : I64 N) (hok : ∀ x ∈ l, dQ x) :
    Meets Tryz.prog 59 [.agg #[.int .i64 N, .slice A l.length cap]] w []
      (fun u own' => if (bH N l).2 = 0 then ∃ p b, u = .tuple #[.slice (some ⟨b, 0, none⟩) N.toNat N.toNat, .int .i64 0] ∧ own' = [[(b, blk (iU p) 3)]] ∧ IsParts N.toNat (lE l) p
        else u = .tuple #[.slice none 0 0, .int .i64 (bH N l).2] ∧ own' = []) := by
 refine bJ Tryz.func59 rfl Tryz.ntmps59 rfl Owns.nil ?_;refine aK fun K1 kh1 => ?_;refine aB ?_;refine aR rfl rfl rfl (cZ rfl rfl fun b1 => ?_);refine aA rfl rfl rfl (aF rfl) ?_;refine aA rfl rfl rfl (aF rfl) ?_;refine aJ ?_;refine aL (kh1 _ _ ?_);clear kh1;refine aK fun K2 kh2 => ?_;refine aK fun K3 kh3 => ?_;refine aB ?_;refine aA rfl rfl rfl (a8 (vs := [_, _]) Tryz.isAgg24 Tryz.sizeOf24 rfl rfl ⟨(rdA rfl), (rdA rfl), trivial⟩) ?_;refine aR rfl rfl rfl (bD Tryz.call21 rfl (fun w_ hp_ => fG N A l cap w_ (hr.up0 hp_) hl hN hok) ?_);rintro _ _ ⟨rfl, rfl⟩;dsimp only [List.cons_append, List.nil_append];refine aA rfl rfl rfl (aG rfl) ?_;refine aA rfl rfl rfl (aV rfl rfl) ?_;refine aA rfl rfl rfl (aV rfl rfl) ?_;refine aA rfl rfl rfl (aF rfl) ?_;refine aA rfl rfl rfl (aF rfl) ?_;refine aJ ?_;refine aL (kh3 _ _ ?_);clear kh3;refine aK fun K4 kh4 => ?_;refine aB ?_;refine aA rfl rfl rfl (aG rfl) ?_;refine aA rfl rfl rfl (c6 rfl rfl) ?_;refine aJ ?_;refine aL (kh4 _ _ ?_);clear kh4;refine aZ rfl (fun c23 => ?_) (fun c23 => ?_)
 ·
  refine aK fun K5 kh5 => ?_;refine aB ?_;refine aA rfl rfl rfl (aG rfl) ?_;refine aA rfl rfl rfl (aF rfl) ?_;refine aA rfl rfl rfl (aF rfl) ?_;refine aJ ?_;refine aL (kh5 _ _ ?_);clear kh5;refine a7 ?_;refine bT ?_;exact bW [] Tryz.results59 rfl rfl aI (by rw [if_neg (by simpa using c23)]; exact ⟨rfl, rfl⟩)
 ·
  have hc0 : (bH N l).2 = 0 := by simpa using c23
  obtain ⟨hN1, hN2, hlen, hgood⟩ := bX hc0
  obtain ⟨n, rfl⟩ : ∃ n : Nat, N = n := ⟨N.toNat, by omega⟩
  clear c23;refine aW ?_;refine aL (kh2 _ _ ?_);clear kh2;refine aK fun K6 kh6 => ?_;refine aB ?_;refine aA rfl rfl rfl (aQ eE rfl) ?_;refine aA rfl rfl rfl (aM Tryz.isAgg3 rfl (rdA rfl)) ?_;refine aR rfl rfl rfl (d3 dV rfl rfl n rfl (by omega) (by omega) (iU (List.replicate n 0)) (nats_replicate n) fun b27 => ?_);refine aR rfl rfl rfl (cU Tryz.zeroValue25 rfl fun b6 => ?_);refine bF rfl rfl (cB Tryz.sizeOf25 rfl rfl rfl rfl (by first | exact Nat.le_of_ble_eq_true rfl | (simp; done) | (simp; omega)) _ rfl ?_);refine aJ ?_;refine aL (kh6 _ _ ?_);clear kh6;refine aK fun K7 kh7 => ?_;refine aK fun K8 kh8 => ?_;refine aB ?_;refine aA rfl rfl rfl (aM Tryz.isAgg25 rfl (rdA rfl)) ?_;refine aA rfl rfl rfl (bS bK rfl) ?_;refine aA rfl rfl rfl (aG rfl) ?_;refine aJ ?_;refine aL (kh8 _ _ ?_);clear kh8;refine aY ?_;refine cS (α := Nat × List Nat) [1, 6, 29] (fun ⟨k, up⟩ => [(30, .int .i64 (k : Int))]) (fun ⟨k, up⟩ => [[(b27, blk (iU up) 3)], [(b6, blk [.slice (some ⟨b27, 0, none⟩) n n] 25)], [(b1, blk [.int .i64 (n : Int), .slice A l.length cap] 24)]]) (fun ⟨k, up⟩ => k ≤ n ∧ up.length = n ∧ ∀ j (h : j < up.length), j < k → up[j] = j) (fun ⟨k, up⟩ => n - k) (0, List.replicate n 0) ?_ ?_ ?_ ?_
  · exact (by repeat constructor)
  · repeat first|exact aI|refine aD ?_|refine aC rfl ?_|refine aH ?_
  · exact ⟨by omega, by simp, fun j _ h => by omega⟩
  ·
   rintro ⟨k, up⟩ ⟨hkn, hul, hup⟩;refine aK fun K9 kh9 => ?_;refine aB ?_;refine aA rfl rfl rfl (cD rfl rfl) ?_;refine aJ ?_;refine aL (kh9 _ _ ?_);clear kh9;refine aK fun K10 kh10 => ?_;refine aZ rfl (fun c31 => ?_) (fun c31 => ?_)
   ·
    refine aW ?_;refine aL (kh10 _ _ ?_);clear kh10;refine aK fun K11 kh11 => ?_;refine aY ?_;refine aK fun K12 kh12 => ?_;refine aB ?_;refine aA rfl rfl rfl (aG rfl) ?_;refine aA rfl rfl rfl (aF rfl) ?_;refine aJ ?_;refine aL (kh12 _ _ ?_);clear kh12;refine aB ?_;refine aA rfl rfl rfl (aM Tryz.isAgg25 rfl (rdA rfl)) ?_;refine aA rfl rfl rfl (aG rfl) ?_;refine aA rfl rfl rfl (aG rfl) ?_;have hk : k < n := by omega
    refine aA rfl rfl rfl (bA bK rfl rfl (k) ⟨by omega, by omega, by first | omega | (simp; done) | (simp; omega)⟩) ?_;refine bF rfl rfl (cB Tryz.sizeOf3 rfl rfl rfl rfl (by rw [jB]; omega) (iU (up.set k k)) (nats_set _ _ _) ?_);refine aJ ?_;refine cV ?_;refine aL (kh11 _ _ ?_);clear kh11;refine aB ?_;refine aA rfl rfl rfl (bG rfl rfl _ (aT (by omega))) ?_;refine aA rfl rfl rfl (aG rfl) ?_;refine aJ ?_;refine aL (bB (k + 1, up.set k k) (by first | omega | (dsimp only; omega) | (simp; omega)) ⟨by omega, by simp [hul], fun j h hj => by rw [List.getElem_set]; split <;> first | assumption | exact hup j (by simpa using h) (by omega)⟩ ?_ ?_ ?_)
    · exact (by repeat constructor)
    · exact (by repeat constructor)
    · repeat first|exact aI|refine aD ?_|refine aC rfl ?_|refine aH ?_
   ·
    refine cG ?_;refine cK ?_;clear kh10;refine cK ?_;refine d5 ?_;refine aL (kh7 _ _ ?_);clear kh7;refine aK fun K13 kh13 => ?_;refine aB ?_;refine aA rfl rfl rfl (o_func rfl rfl) ?_;refine aA rfl rfl rfl (aF rfl) ?_;refine aJ ?_;refine aL (kh13 _ _ ?_);clear kh13;refine aK fun K14 kh14 => ?_;refine aK fun K15 kh15 => ?_;refine aB ?_;refine aA rfl rfl rfl (aQ hG rfl) ?_;refine aA rfl rfl rfl (aM Tryz.isAgg22 rfl (rdA rfl)) ?_;refine aA rfl rfl rfl (bS lJ rfl) ?_;refine aA rfl rfl rfl (aG rfl) ?_;refine aJ ?_;refine aL (kh15 _ _ ?_);clear kh15;refine aY ?_;refine cS (α := Nat × List Nat) [1, 6, 8, 40, 41] (fun ⟨k, up⟩ => [(42, .int .i64 (k : Int))]) (fun ⟨k, up⟩ => [[(b27, blk (iU up) 3)], [(b6, blk [.slice (some ⟨b27, 0, none⟩) n n] 25)], [(b1, blk [.int .i64 (n : Int), .slice A l.length cap] 24)]]) (fun ⟨k, up⟩ => k ≤ l.length ∧ up.length = n ∧ kQ up ∧ Tells up (lE (l.take k))) (fun ⟨k, up⟩ => l.length - k) (0, up) ?_ ?_ ?_ ?_
    · exact (by repeat constructor)
    · repeat first|exact aI|refine aD ?_|refine aC rfl ?_|refine aH ?_
    · exact ⟨by omega, hul, by have := up_range hul (fun j h => hup j h (by omega)); subst this; exact down_range n, by have := up_range hul (fun j h => hup j h (by omega)); subst this; exact tells_start n⟩
    ·
     rintro ⟨k, up⟩ ⟨hkl, hul, hd, ht⟩;refine eX (e := [(42, _), (1, _), (6, _), (8, _), (40, _), (41, _)]) (by repeat constructor) ?_;refine aK fun K16 kh16 => ?_;refine aB ?_;refine aA rfl rfl rfl (cD rfl rfl) ?_;refine aJ ?_;refine aL (kh16 _ _ ?_);clear kh16;refine aK fun K17 kh17 => ?_;refine aZ rfl (fun c43 => ?_) (fun c43 => ?_)
     ·
      refine aW ?_;refine aL (kh17 _ _ ?_);clear kh17;refine aK fun K18 kh18 => ?_;refine aY ?_;refine aK fun K19 kh19 => ?_;refine aB ?_;have hk : k < l.length := by omega
      obtain ⟨bl, off, rfl, hS, hc⟩ := hr (f9 cE dO (by omega) hk)
      obtain ⟨hs0, hs1, hd0, hd1'⟩ := hgood k hk
      have hsr : l[k].src.toNat < up.length := by omega
      have hsd : l[k].dst.toNat < up.length := by omega
      have hun : up.length ≤ 1000000 := by omega
      have esr : l[k].src = (l[k].src.toNat : Int) := by omega
      have esd : l[k].dst = (l[k].dst.toNat : Int) := by omega
      refine aA rfl rfl rfl (bA lJ rfl rfl (off + k * 3) ⟨by omega, by omega, by first | omega | (simp; done) | (simp; omega)⟩) ?_;refine aA rfl rfl rfl (a8 (vs := cE l[k]) Tryz.isAgg48 Tryz.sizeOf48 rfl rfl (gN dO hS hc hk)) ?_;refine aR rfl rfl rfl (cU Tryz.zeroValue48 rfl fun b10 => ?_);refine bF rfl rfl (cA Tryz.sizeOf48 rfl rfl rfl rfl (by first | exact Nat.le_of_ble_eq_true rfl | (simp; done) | (simp; omega)) _ rfl ?_);refine aJ ?_;refine aL (kh19 _ _ ?_);clear kh19;refine aK fun K20 kh20 => ?_;refine dH [[(b10, blk (cE l[k]) 48)]] rfl ?_;refine aU 0 rfl (by decide +kernel) rfl rfl rfl (by repeat first|exact aI|refine aD ?_|refine aC rfl ?_|refine aH ?_) (aG rfl) ?_;refine aU 1 rfl (by decide +kernel) rfl rfl rfl (by repeat first|exact aI|refine aD ?_|refine aC rfl ?_|refine aH ?_) (aQ gA rfl) ?_;refine aU 2 rfl (by decide +kernel) rfl rfl rfl (by repeat first|exact aI|refine aD ?_|refine aC rfl ?_|refine aH ?_) (aM (v := .int .i64 (l[k].src.toNat : Int)) Tryz.isAgg3 rfl (rdA (by rw [← esr]; rfl))) ?_;refine aU 4 rfl (by decide +kernel) rfl rfl rfl (by repeat first|exact aI|refine aD ?_|refine aC rfl ?_|refine aH ?_) (aG rfl) ?_;refine aU 5 rfl (by decide +kernel) rfl rfl rfl (by repeat first|exact aI|refine aD ?_|refine aC rfl ?_|refine aH ?_) (aQ fX rfl) ?_;refine aU 6 rfl (by decide +kernel) rfl rfl rfl (by repeat first|exact aI|refine aD ?_|refine aC rfl ?_|refine aH ?_) (aM (v := .int .i64 (l[k].dst.toNat : Int)) Tryz.isAgg3 rfl (rdA (by rw [← esd]; rfl))) ?_;refine bQ 3 rfl (by decide +kernel) rfl rfl rfl (lQ (iA b27 b6 up) _ Tryz.call86 rfl rfl (by unfold iA; rw [hul]; exact aD (aD Sub.refl)) (fun w_ hp_ => root_spec b27 b6 up _ w_ hp_.owns hd hsr hun) ?_);rintro _ _ ⟨rfl, up1, rfl, hl1, hd1, hr1⟩
      unfold iA
      rw [hl1, hul];dsimp only [List.cons_append, List.nil_append];refine ⟨(by repeat first|exact aI|refine aD ?_|refine aC rfl ?_|refine aH ?_), ?_⟩;refine bQ 7 rfl (by decide +kernel) rfl rfl rfl (lQ (iA b27 b6 up1) _ Tryz.call86 rfl rfl (by unfold iA; rw [hl1, hul]; exact aD (aD Sub.refl)) (fun w_ hp_ => root_spec b27 b6 up1 _ w_ hp_.owns hd1 (hl1 ▸ hsd) (hl1 ▸ hun)) ?_);rintro _ _ ⟨rfl, up2, rfl, hl2, hd2, hr2⟩
      unfold iA
      rw [hl2, hl1, hul];dsimp only [List.cons_append, List.nil_append];refine ⟨(by repeat first|exact aI|refine aD ?_|refine aC rfl ?_|refine aH ?_), ?_⟩;refine bQ 8 rfl (by decide +kernel) rfl rfl rfl ((aF rfl).does ⟨(by repeat first|exact aI|refine aD ?_|refine aC rfl ?_|refine aH ?_), ?_⟩);refine bQ 9 rfl (by decide +kernel) rfl rfl rfl ((aF rfl).does ⟨(by repeat first|exact aI|refine aD ?_|refine aC rfl ?_|refine aH ?_), ?_⟩);refine dF (by decide +kernel) ?_;refine aL (kh20 _ _ ?_);clear kh20;refine aB ?_;refine aA rfl rfl rfl (aM Tryz.isAgg25 rfl (rdA rfl)) ?_;refine aA rfl rfl rfl (aG rfl) ?_;refine aA rfl rfl rfl (aG rfl) ?_;refine aA rfl rfl rfl (o_max rfl rfl) ?_;refine aA rfl rfl rfl (aG rfl) ?_;refine aA rfl rfl rfl (aG rfl) ?_;refine aA rfl rfl rfl (o_min rfl rfl) ?_;have e1 := hr1 l[k].dst.toNat
      have q1 := kX (up := up) l[k].src.toNat
      have q2 := kX (up := up) l[k].dst.toNat
      refine aA rfl rfl rfl (bA bK rfl rfl (max (bO up l[k].src.toNat) (bO up l[k].dst.toNat)) ⟨by omega, by omega, by first | omega | (simp; done) | (simp; omega)⟩) ?_;refine bF rfl rfl (cB Tryz.sizeOf3 rfl rfl rfl rfl (by rw [jB]; omega) (iU (up2.set (max (bO up l[k].src.toNat) (bO up l[k].dst.toNat)) (min (bO up l[k].src.toNat) (bO up l[k].dst.toNat)))) (by rw [← nats_set]; congr 2; omega) ?_);refine aJ ?_;refine cV ?_;refine aL (kh18 _ _ ?_);clear kh18;refine aB ?_;refine aA rfl rfl rfl (bG rfl rfl _ (aT (by omega))) ?_;refine aA rfl rfl rfl (aG rfl) ?_;refine aJ ?_;refine aL (bB (k + 1, up2.set (max (bO up l[k].src.toNat) (bO up l[k].dst.toNat)) (min (bO up l[k].src.toNat) (bO up l[k].dst.toNat))) (by first | omega | (dsimp only; omega) | (simp; omega)) ⟨by omega, by simp [hl2, hl1, hul], down_join hd2, by rw [ends2_take hk]; exact tells_next hd hd2 ht (hl2.trans hl1) (fun x => (hr2 x).trans (hr1 x)) (ends2_lt hul hgood k) hsr hsd⟩ ?_ ?_ ?_)
      · exact (by repeat constructor)
      · exact (by repeat constructor)
      · repeat first|exact aI|refine aD ?_|refine aC rfl ?_|refine aH ?_
     ·
      refine cG ?_;refine cK ?_;clear kh17;refine cK ?_;refine d5 ?_;refine aL (kh14 _ _ ?_);clear kh14;refine aK fun K21 kh21 => ?_;refine aB ?_;refine aA rfl rfl rfl (aQ eE rfl) ?_;refine aA rfl rfl rfl (aM Tryz.isAgg3 rfl (rdA rfl)) ?_;refine aR rfl rfl rfl (d3 dV rfl rfl n rfl (by omega) (by omega) (iU (List.replicate n 0)) (nats_replicate n) fun b65 => ?_);refine aA rfl rfl rfl (aF rfl) ?_;refine aJ ?_;refine aL (kh21 _ _ ?_);clear kh21;refine aK fun K22 kh22 => ?_;refine aB ?_;refine aA rfl rfl rfl (aF rfl) ?_;refine aJ ?_;refine aL (kh22 _ _ ?_);clear kh22;refine aK fun K23 kh23 => ?_;refine aK fun K24 kh24 => ?_;refine aB ?_;refine aA rfl rfl rfl (aG rfl) ?_;refine aA rfl rfl rfl (bS bK rfl) ?_;refine aA rfl rfl rfl (aG rfl) ?_;refine aJ ?_;refine aL (kh24 _ _ ?_);clear kh24;refine aY ?_;refine cS (α := Nat × List Nat × List Nat × Nat) [8, 13, 67] (fun ⟨k, up, out, nx⟩ => [(68, .int .i64 (k : Int)), (14, .int .i64 (nx : Int))]) (fun ⟨k, up, out, nx⟩ => [[(b27, blk (iU up) 3)], [(b6, blk [.slice (some ⟨b27, 0, none⟩) n n] 25)], [(b1, blk [.int .i64 (n : Int), .slice A l.length cap] 24)], [(b65, blk (iU out) 3)]]) (fun ⟨k, up, out, nx⟩ => k ≤ n ∧ up.length = n ∧ kQ up ∧ Tells up (lE l) ∧ h8 up k out nx) (fun ⟨k, up, out, nx⟩ => n - k) (0, up, List.replicate n 0, 0) ?_ ?_ ?_ ?_
      · exact (by repeat constructor)
      · repeat first|exact aI|refine aD ?_|refine aC rfl ?_|refine aH ?_
      · exact ⟨by omega, hul, hd, by rw [show l.take k = l from List.take_of_length_le (by omega)] at ht; exact ht, by have := labelled_start up; rw [hul] at this; exact this⟩
      ·
       rintro ⟨k, up, out, nx⟩ ⟨hkn, hul, hd, ht, hlab⟩;have hol := hlab.len
       have hnx : nx ≤ k := by rw [← hlab.next]; exact nxt_le out k
       refine eX (e := [(68, _), (14, _), (8, _), (13, _), (67, _)]) (by repeat constructor) ?_;refine aK fun K25 kh25 => ?_;refine aB ?_;refine aA rfl rfl rfl (cD rfl rfl) ?_;refine aJ ?_;refine aL (kh25 _ _ ?_);clear kh25;refine aK fun K26 kh26 => ?_;refine aZ rfl (fun c69 => ?_) (fun c69 => ?_)
       ·
        refine aW ?_;refine aL (kh26 _ _ ?_);clear kh26;refine aK fun K27 kh27 => ?_;refine aY ?_;refine aK fun K28 kh28 => ?_;refine aB ?_;refine aA rfl rfl rfl (aG rfl) ?_;refine aA rfl rfl rfl (aF rfl) ?_;refine aJ ?_;refine aL (kh28 _ _ ?_);clear kh28;refine aK fun K29 kh29 => ?_;refine aK fun K30 kh30 => ?_;refine aB ?_;refine aA rfl rfl rfl (aG rfl) ?_;refine aA rfl rfl rfl (aG rfl) ?_;have hk' : k < up.length := by omega
        refine aR rfl rfl rfl (lQ (iA b27 b6 up) _ Tryz.call86 rfl rfl (by unfold iA; rw [hul]; exact aD (aD Sub.refl)) (fun w_ hp_ => root_spec b27 b6 up k w_ hp_.owns hd hk' (by omega)) ?_);rintro _ _ ⟨rfl, up1, rfl, hl1, hd1, hr1⟩
        unfold iA
        rw [hl1, hul];dsimp only [List.cons_append, List.nil_append];refine aA rfl rfl rfl (aF rfl) ?_;refine aJ ?_;refine aL (kh30 _ _ ?_);clear kh30;refine aK fun K31 kh31 => ?_;refine aB ?_;refine aA rfl rfl rfl (aG rfl) ?_;refine aA rfl rfl rfl (aG rfl) ?_;refine aA rfl rfl rfl (c6 rfl rfl) ?_;refine aJ ?_;refine aL (kh31 _ _ ?_);clear kh31;refine aZ rfl (fun c76 => ?_) (fun c76 => ?_)
        ·
         refine aK fun K32 kh32 => ?_;refine aB ?_;refine aA rfl rfl rfl (aG rfl) ?_;refine aA rfl rfl rfl (aG rfl) ?_;refine aA rfl rfl rfl (aG rfl) ?_;refine aA rfl rfl rfl (aG rfl) ?_;have hro : bO up k < out.length := by have := kX (up := up) k; omega
         refine aA rfl rfl rfl (bA bK rfl rfl (bO up k) ⟨by omega, by omega, by first | omega | (simp; done) | (simp; omega)⟩) ?_;refine aA rfl rfl rfl (aM Tryz.isAgg3 rfl (rdA (nats_get hro))) ?_;refine aA rfl rfl rfl (bA bK rfl rfl (k) ⟨by omega, by omega, by first | omega | (simp; done) | (simp; omega)⟩) ?_;refine bF rfl rfl (cB Tryz.sizeOf3 rfl rfl rfl rfl (by rw [jB]; omega) (iU (out.set k out[bO up k])) (nats_set _ _ _) ?_);refine aJ ?_;refine aL (kh32 _ _ ?_);clear kh32;refine cG ?_;refine cK ?_;clear kh29;refine d5 ?_;refine aL (kh27 _ _ ?_);clear kh27;refine aB ?_;refine aA rfl rfl rfl (bG rfl rfl _ (aT (by omega))) ?_;refine aA rfl rfl rfl (aG rfl) ?_;refine aJ ?_;refine aL (bB (k + 1, up1, out.set k out[bO up k], nx) (by first | omega | (dsimp only; omega) | (simp; omega)) ⟨by omega, hl1.trans hul, hd1, tells_roots ht hl1 hr1, by exact labelled_roots (labelled_old hd hlab hk' (by omega) hro) hl1 hr1⟩ ?_ ?_ ?_)
         · exact (by repeat constructor)
         · exact (by repeat constructor)
         · repeat first|exact aI|refine aD ?_|refine aC rfl ?_|refine aH ?_
        ·
         refine aW ?_;refine aL (kh29 _ _ ?_);clear kh29;refine aK fun K33 kh33 => ?_;refine aB ?_;refine aA rfl rfl rfl (aG rfl) ?_;refine aA rfl rfl rfl (aG rfl) ?_;refine aA rfl rfl rfl (aG rfl) ?_;refine aA rfl rfl rfl (bA bK rfl rfl (k) ⟨by omega, by omega, by first | omega | (simp; done) | (simp; omega)⟩) ?_;refine bF rfl rfl (cB Tryz.sizeOf3 rfl rfl rfl rfl (by rw [jB]; omega) (iU (out.set k nx)) (nats_set _ _ _) ?_);refine aJ ?_;refine aL (kh33 _ _ ?_);clear kh33;refine aB ?_;refine aA rfl rfl rfl (aG rfl) ?_;refine aA rfl rfl rfl (bG rfl rfl _ (aT (by omega))) ?_;refine aA rfl rfl rfl (aF rfl) ?_;refine aJ ?_;refine cV ?_;refine aL (kh27 _ _ ?_);clear kh27;refine aB ?_;refine aA rfl rfl rfl (bG rfl rfl _ (aT (by omega))) ?_;refine aA rfl rfl rfl (aG rfl) ?_;refine aJ ?_;refine aL (bB (k + 1, up1, out.set k nx, nx + 1) (by first | omega | (dsimp only; omega) | (simp; omega)) ⟨by omega, hl1.trans hul, hd1, tells_roots ht hl1 hr1, by exact labelled_roots (labelled_new hd hlab hk' (by omega)) hl1 hr1⟩ ?_ ?_ ?_)
         · exact (by repeat constructor)
         · exact (by repeat constructor)
         · repeat first|exact aI|refine aD ?_|refine aC rfl ?_|refine aH ?_
       ·
        refine cG ?_;refine cK ?_;clear kh26;refine cK ?_;refine d5 ?_;refine aL (kh23 _ _ ?_);clear kh23;refine aK fun K34 kh34 => ?_;refine aB ?_;refine aA rfl rfl rfl (aG rfl) ?_;refine aA rfl rfl rfl (aF rfl) ?_;refine aA rfl rfl rfl (aF rfl) ?_;refine aJ ?_;refine aL (kh34 _ _ ?_);clear kh34;refine a7 ?_;exact bW [[(b65, blk (iU out) 3)]] Tryz.results59 rfl rfl (by repeat (first | exact aI | refine aD ?_ | refine Sub.cast rfl ?_)) (by rw [if_pos hc0]; exact ⟨out, b65, rfl, rfl, parts_end hul hlab ht (by omega)⟩)
end Go.Proofs.YtjjogcnjcnpehaaGreat

/- Ranging over a map that the loop does not write, in the words of the small logic. -/
namespace Go.Proofs.YtjjogcnjcnpehaaGreat.Fly
open Go Go.RowKit
set_option linter.unusedVariables false
set_option linter.unusedSimpArgs false
set_option linter.unusedSectionVars false
theorem nodup_inj {β γ : Type} {f : β → γ} : ∀ {l : List β} {a b : β}, (l.map f).Nodup → a ∈ l → b ∈ l → f a = f b → a = b
  | [], _, _, _, ha, _, _ => by cases ha
  | x :: l, a, b, h, ha, hb, e => by
    simp only [List.map_cons, List.nodup_cons, List.mem_map, not_exists, not_and] at h;simp only [List.mem_cons] at ha hb
    rcases ha with rfl | ha <;> rcases hb with rfl | hb
    · rfl
    · exact absurd e.symm (h.1 b hb)
    · exact absurd e (h.1 a ha)
    · exact nodup_inj h.2 ha hb e
section
variable {α : Type} [DecidableEq α]
/-- The keys that have come. -/
structure Came (l : List (α × Value × Nat)) (seen : List Nat) (out : List α) : Prop where
  nodup : out.Nodup
  mem : ∀ e ∈ l, e.1 ∈ out ↔ e.2.2 ∈ seen
  sub : ∀ k ∈ out, k ∈ l.map (·.1)
theorem Came.start {l : List (α × Value × Nat)} : Came l [] [] := ⟨by simp, by simp, by simp⟩
theorem Came.len {l : List (α × Value × Nat)} {seen : List Nat} {out : List α} (h : Came l seen out) : out.length ≤ l.length := by
  have := List.Nodup.length_le_of_subset h.nodup h.sub
  simpa using this
theorem Came.next {l : List (α × Value × Nat)} {c : Nat} {seen : List Nat} {out : List α} (h : Came l seen out) (hok : MOk l c) {e : α × Value × Nat} (he : e ∈ l) (hne : e.2.2 ∉ seen) : Came l (seen ++ [e.2.2]) (out ++ [e.1]) where
  nodup := by
    rw [List.nodup_append];refine ⟨h.nodup, by simp, fun a ha b hb e' => ?_⟩;simp only [List.mem_singleton] at hb;subst hb; subst e';exact hne ((h.mem e he).1 ha)
  mem := fun x hx => by
    simp only [List.mem_append, List.mem_singleton];rw [h.mem x hx];constructor
    · rintro (h1 | h1)
      · exact .inl h1
      · exact .inr (by rw [nodup_inj hok.keys hx he h1])
    · rintro (h1 | h1)
      · exact .inl h1
      · exact .inr (by rw [nodup_inj (f := fun x => x.2.2) hok.born hx he h1])
  sub := fun k hk => by
    simp only [List.mem_append, List.mem_singleton] at hk
    rcases hk with hk | rfl
    · exact h.sub k hk
    · exact List.mem_map.2 ⟨e, he, rfl⟩
theorem Came.all {l : List (α × Value × Nat)} {seen : List Nat} {out : List α} (h : Came l seen out) (ha : ∀ e ∈ l, e.2.2 ∈ seen) (k : α) : k ∈ out ↔ k ∈ l.map (·.1) :=
  ⟨h.sub k, fun hk => by obtain ⟨e, he, rfl⟩ := List.mem_map.1 hk; exact (h.mem e he).2 (ha e he)⟩
/-- An iterator over a map's block: the stamps of what it has handed out. -/
abbrev j5 (bm c : Nat) (seen : List Nat) : Obj := .mapIter (some bm) c seen.toArray c
variable {P : Program} {n : Nat} {S : Nat → Prop} {w0 : World} {env : Env} {segs : List Seg} {K : Value → List Seg → Prop} {d : Option Tmp} {ty : TypeId} {pos : String} {af : Array Edge} {g : Option (Nat × Bool)} {M k E : TypeId} {enc : α → Value}
theorem o_range {x : Operand} {bm : Nat} {l : List (α × Value × Nat)} {c : Nat} {f : Seg → List Seg} (KT : KeyT P M k E enc) (hx : ev env x = some (.map (some bm))) [hA : At segs bm (f3 enc l c) f]
    (kk : ∀ b, K (.pointer (some ⟨b, 0, none⟩)) ([(b, j5 bm c [])] :: segs)) : Does P n S w0 env segs ⟨d, .range M x, ty, pos, af, g⟩ K :=
  e8 fun a w ha hp => by
    have hb := hp.own bm _ hA.mem
    refine ⟨_, _, w.alloc (j5 bm c []), .inl ?_, by simpa using hp.alloc (j5 bm c []), kk w.heap.size⟩;simp only [execOp, ha.eval hx, Sem.run_bind, run_range_map w M k E bm _ c KT.und hb, Result.andThen_ok, Sem.run_pure]
theorem left_list (l : List (α × Value × Nat)) (seen : List Nat) : (leftOf (l.map fun x => (⟨enc x.1, x.2.1, x.2.2⟩ : MapEntry)).toArray seen.toArray).toList = (l.filter fun x => !seen.contains x.2.2).map fun x => (⟨enc x.1, x.2.1, x.2.2⟩ : MapEntry) := by
  unfold leftOf
  simp [List.filter_map, Function.comp_def]
theorem run_next_at {w : World} {r bm c : Nat} {seen : List Nat} {l : List (α × Value × Nat)} (ty : TypeId) (hr : w.heap[r]? = some (j5 bm c seen)) (hb : w.heap[bm]? = some (f3 enc l c)) (hok : MOk l c) :
    ((∀ e ∈ l, e.2.2 ∈ seen) ∧ (Instr.next (.pointer (some ⟨r, 0, none⟩)) false ty).run P w = .ok (.tuple #[.bool false]) w) ∨
    ∃ e ∈ l, e.2.2 ∉ seen ∧ ∃ w1 : World, w1.heap = w.heap ∧ w1.os = w.os ∧ w1.tape = w.tape ∧ w1.output = w.output ∧ w.drawn ≤ w1.drawn ∧ (Instr.next (.pointer (some ⟨r, 0, none⟩)) false ty).run P w = .ok (.tuple #[.bool true, enc e.1, e.2.1]) { w1 with heap := w1.heap.setIfInBounds r (j5 bm c (seen ++ [e.2.2])) } := by
  have hold : ∀ x ∈ ((l.map fun x => (⟨enc x.1, x.2.1, x.2.2⟩ : MapEntry)).toArray).toList, x.born < c := fun x hx => by
    simp at hx;obtain ⟨a, b, s, h, rfl⟩ := hx
    exact hok.old _ h
  simp only [Instr.next, getObj, Sem.run_bind, Sem.run, hr, hb, Result.andThen, next_test_false seen.toArray _ c c hold (Nat.le_refl _), Bool.false_eq_true, if_false];have hL := left_list (enc := enc) l seen
  unfold leftOf at hL
  have hmem : ∀ x ∈ (Array.filter (fun e => !seen.toArray.contains e.born) (l.map fun x => (⟨enc x.1, x.2.1, x.2.2⟩ : MapEntry)).toArray).toList, x.born < c := fun x hx => hold x (by simp at hx ⊢; exact hx.1)
  generalize Array.filter (fun e => !seen.toArray.contains e.born) (l.map fun x => (⟨enc x.1, x.2.1, x.2.2⟩ : MapEntry)).toArray = L at hL hmem ⊢
  have e1 : L.filter (fun x => decide (x.born < c)) = L := Array.filter_eq_self.2 (fun x hx => by simpa using hmem x (by simpa using hx))
  have e2 : L.filter (fun x => decide (x.born ≥ c)) = #[] := by
    rw [Array.filter_eq_empty_iff];intro x hx;have := hmem x (by simpa using hx)
    simp; omega
  simp only [e1, e2, Array.append_empty]
  by_cases h0 : L.size = 0
  · left
    have : L = #[] := Array.eq_empty_of_size_eq_zero h0
    subst this;refine ⟨fun e he => ?_, by simp [choose, Sem.run, Question.forced]⟩;have hL' := hL.symm
    simp only [List.map_eq_nil_iff] at hL';rw [List.filter_eq_nil_iff] at hL';have := hL' e he
    simpa using this
  · right
    have hne : L.isEmpty = false := by simp [Array.isEmpty, h0]
    simp only [hne, Bool.false_eq_true, if_false, Array.empty_append, Array.size_map]
    have hch : ∃ (j : Nat) (w1 : World), j < L.size ∧ w1.heap = w.heap ∧ w1.os = w.os ∧ w1.tape = w.tape ∧ w1.output = w.output ∧ w.drawn ≤ w1.drawn ∧ (choose (Question.mapNext L.size)).run P w = .ok j w1 := by
      by_cases hf : L.size ≤ 1
      · exact ⟨0, w, by omega, rfl, rfl, rfl, rfl, Nat.le_refl _, by simp [choose, Sem.run, Question.forced, hf]⟩
      · exact ⟨_, w.drew, Nat.mod_lt _ (by omega), rfl, rfl, rfl, rfl, Nat.le_succ _, by
          simp only [choose, Sem.run, Question.forced, decide_eq_true_eq, hf, if_false, Question.cut]
          rfl⟩
    obtain ⟨j, w1, hj, q1, q2, q3, q4, q5, hrun⟩ := hch
    have hLj : L[j] ∈ L.toList := by simp
    rw [hL] at hLj;obtain ⟨e, he, hee⟩ := List.mem_map.1 hLj
    obtain ⟨he1, he2⟩ := List.mem_filter.1 he
    refine ⟨e, he1, by simpa using he2, w1, q1, q2, q3, q4, q5, ?_⟩
    have hset : (setObj r (j5 bm c (seen ++ [e.2.2]))).run P w1 = .ok () { w1 with heap := w1.heap.setIfInBounds r (j5 bm c (seen ++ [e.2.2])) } := by
      simp only [setObj, Sem.run];rw [q1, hr]
    have hps : seen.toArray.push L[j].born = (seen ++ [e.2.2]).toArray := by rw [← hee]; simp
    simp only [hrun, Array.getElem?_map, Array.getElem?_eq_getElem hj, Option.map_some, Sem.run_bind, hps, hset, Result.andThen];rw [← hee]
    rfl
theorem o_next {x : Operand} {r bm c : Nat} {seen : List Nat} {l : List (α × Value × Nat)} {f f' : Seg → List Seg} (hok : MOk l c) (hx : ev env x = some (.pointer (some ⟨r, 0, none⟩))) [hA : At segs r (j5 bm c seen) f] [hB : At segs bm (f3 enc l c) f']
    (kend : (∀ e ∈ l, e.2.2 ∈ seen) → K (.tuple #[.bool false]) segs) (kmore : ∀ e ∈ l, e.2.2 ∉ seen → K (.tuple #[.bool true, enc e.1, e.2.1]) (f [(r, j5 bm c (seen ++ [e.2.2]))])) :
    Does P n S w0 env segs ⟨d, .next x false, ty, pos, af, g⟩ K :=
  e8 fun a w ha hp => by
    have hr := hp.own r _ hA.mem
    have hb := hp.own bm _ hB.mem
    obtain ⟨L, R, e1, e2⟩ := hA.flat
    rcases run_next_at (P := P) (enc := enc) ty hr hb hok with ⟨h1, h2⟩ | ⟨e, he, hne, w1, q1, q2, q3, q4, q5, h2⟩
    · exact ⟨_, _, w, .inl (by simp [execOp, ha.eval hx, h2]), hp, kend h1⟩
    · refine ⟨_, _, { w1 with heap := w1.heap.setIfInBounds r (j5 bm c (seen ++ [e.2.2])) }, .inl (by simp [execOp, ha.eval hx, h2]), ?_, kmore e he hne⟩
      rw [e2];rw [e1] at hp
      have hlt : r < w.heap.size := by
        rcases Nat.lt_or_ge r w.heap.size with h' | h'
        · exact h'
        · rw [Array.getElem?_eq_none h'] at hr; cases hr
      refine hp.put (by exact q2) (by exact q3) (by exact q4) (by simp [q1]) (by exact q5) (by simp [q1, hlt]) (fun k hk => ?_);have : r ≠ k := fun e => hk e.symm
      simp [q1, Array.getElem?_setIfInBounds, this]
/-- What a step of the iterator says. -/
def Nx (l : List (α × Value × Nat)) (seen : List Nat) (b : Bool) (seen' : List Nat) : Prop := (b = true ∧ ∃ e ∈ l, e.2.2 ∉ seen ∧ seen' = seen ++ [e.2.2]) ∨ (b = false ∧ seen' = seen ∧ ∀ e ∈ l, e.2.2 ∈ seen)
theorem o_next1 {x : Operand} {r bm c : Nat} {seen : List Nat} {l : List (α × Value × Nat)} {f f' : Seg → List Seg} (hok : MOk l c) (hx : ev env x = some (.pointer (some ⟨r, 0, none⟩))) [hA : At segs r (j5 bm c seen) f] [hB : At segs bm (f3 enc l c) f']
    (kk : ∀ (b : Bool) (rest : List Value) (seen' : List Nat), Nx l seen b seen' → K (.tuple (.bool b :: rest).toArray) (f [(r, j5 bm c seen')])) :
    Does P n S w0 env segs ⟨d, .next x false, ty, pos, af, g⟩ K :=
  o_next hok hx (fun h => by
    have e : f [(r, j5 bm c seen)] = segs := by
      obtain ⟨L, R, e1, e2⟩ := hA.eq
      rw [e1, e2]
    have := kk false [] seen (.inr ⟨rfl, rfl, h⟩)
    rwa [e] at this) fun e he hne => kk true [enc e.1, e.2.1] _ (.inl ⟨rfl, e, he, hne, rfl⟩)
theorem o_entry {x : Operand} {r bm c : Nat} {seen : List Nat} {l : List (α × Value × Nat)} {e : α × Value × Nat} {f f' : Seg → List Seg} (hok : MOk l c) (he : e ∈ l) (hx : ev env x = some (.pointer (some ⟨r, 0, none⟩))) [hA : At segs r (j5 bm c (seen ++ [e.2.2])) f] [hB : At segs bm (f3 enc l c) f'] :
    Pure P n S w0 env segs ⟨d, .entry x, ty, pos, af, g⟩ (.tuple #[enc e.1, e.2.1]) :=
  fun a w ha hp => by
    have hr := hp.own r _ hA.mem
    have hb := hp.own bm _ hB.mem
    have hf : ((l.map fun x => (⟨enc x.1, x.2.1, x.2.2⟩ : MapEntry)).toArray).find? (·.born == e.2.2) = some ⟨enc e.1, e.2.1, e.2.2⟩ := by
      rw [← Array.find?_toList];exact find_born ⟨enc e.1, e.2.1, e.2.2⟩ _ (by simp only [List.map_map]; exact hok.born) (List.mem_map.2 ⟨e, he, rfl⟩)
    have hbk : (seen ++ [e.2.2]).toArray.back? = some e.2.2 := by simp
    have : (Instr.entry (.pointer (some ⟨r, 0, none⟩))).run P w = .ok (.tuple #[enc e.1, e.2.1]) w := by
      simp only [Instr.entry, getObj, Sem.run_bind, Sem.run, hr, hb, Result.andThen, hbk, bne_self_eq_false, Bool.false_eq_true, if_false, hf]
      rfl
    simp [execOp, ha.eval hx, this]
end
end Go.Proofs.YtjjogcnjcnpehaaGreat.Fly
