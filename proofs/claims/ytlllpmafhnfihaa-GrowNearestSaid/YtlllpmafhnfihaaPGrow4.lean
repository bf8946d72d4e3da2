/- A region is connected. -/
import Derived.Test.YtlllpmafhnfihaaPGrow3
import Derived.Test.YtlllpmafhnfihaaPInd2

namespace Go.Proofs.Ytlllpmafhnfihaa
open Go Fly
set_option linter.unusedVariables false
set_option linter.unusedSimpArgs false
set_option linter.unusedSectionVars false

theorem marksL_keep {n : Nat} {M : List Int} {v : Nat} (h : v < (marksL n M).length) : (marksL n M)[v] = decide ((v : Int) ∈ M) := by simp [marksL]
theorem nbr_ends {v u : Int} {x : Arc} (h : u ∈ nbr v x) : (x.src = v ∧ x.dst = u) ∨ (x.dst = v ∧ x.src = u) := by
  unfold nbr at h
  split at h
  · simp at h
  · split at h
    · simp at h; exact .inl ⟨by assumption, h.symm⟩
    · split at h
      · simp at h; exact .inr ⟨by assumption, h.symm⟩
      · simp at h
theorem reg_conn {n : Nat} {l : List Arc} {cn mn : Nat} {L : List Int} (hg : (gcheck (n : Int) l).2 = 0) (hok : RegOk n l cn mn L) :
    ∀ i (h : i < L.length), Conn (ends2 (subArcs (marksL n L) l)) (vrank (marksL n L) cn) (vrank (marksL n L) L[i].toNat) := by
  obtain ⟨hrl, hrng⟩ := nbrs_rngG hg
  obtain ⟨E, hE⟩ := bfs_lev (rows := fun v : Nat => nbrs (v : Int) l) hok.c hrng
  have hLi : ∀ i (h : i < L.length), ∃ h' : i < (bfs n (fun v : Nat => nbrs (v : Int) l) cn (List.replicate n false)).1.length, L[i] = (bfs n (fun v : Nat => nbrs (v : Int) l) cn (List.replicate n false)).1[i] := by
    intro i h
    have hL := hok.is
    subst hL
    exact ⟨by rw [List.length_take] at h; omega, List.getElem_take⟩
  intro i
  induction i using Nat.strongRecOn with
  | _ i ih =>
    intro h
    obtain ⟨h', e⟩ := hLi i h
    rcases Nat.eq_zero_or_pos i with h0 | h0
    · subst h0
      have := hE.head.1
      rw [List.getElem?_eq_getElem h'] at this
      have e2 := Option.some.inj this
      rw [e, e2]; exact .refl _
    · obtain ⟨j, hj, hm, _⟩ := hE.par i h' (by rw [hE.len]; exact h') h0
      have hjL : j < L.length := by omega
      obtain ⟨hj', ej⟩ := hLi j hjL
      have c1 := ih j hj hjL
      have r1 := hok.rng _ (List.getElem_mem h)
      have r2 := hok.rng _ (List.getElem_mem hjL)
      rw [← e, ← ej] at hm
      have hm2 : L[i] ∈ nbrs (L[j]) l := by
        have h5 : L[i] ∈ nbrs ((L[j].toNat : Nat) : Int) l := hm
        rwa [Int.toNat_of_nonneg r2.1] at h5
      obtain ⟨x, hx, hux⟩ := nbrs_mem.1 hm2
      have hk : ∀ k (hk : k < L.length), (marksL n L).getD L[k].toNat false = true := fun k hk => by
        have r := hok.rng _ (List.getElem_mem hk)
        rw [marksL_at (by omega), Int.toNat_of_nonneg r.1]; simp
      have hkin : kin (marksL n L) x = true := by
        unfold kin
        rcases nbr_ends hux with ⟨h1, h2⟩ | ⟨h1, h2⟩
        · rw [h1, h2, hk j hjL, hk i h]; rfl
        · rw [h1, h2, hk i h, hk j hjL]; rfl
      have hmem : ((subArc (marksL n L) x).src.toNat, (subArc (marksL n L) x).dst.toNat) ∈ ends2 (subArcs (marksL n L) l) :=
        List.mem_map.2 ⟨_, List.mem_map.2 ⟨x, List.mem_filter.2 ⟨hx, hkin⟩, rfl⟩, rfl⟩
      have hmem2 : (vrank (marksL n L) x.src.toNat, vrank (marksL n L) x.dst.toNat) ∈ ends2 (subArcs (marksL n L) l) := by simpa [subArc] using hmem
      rcases nbr_ends hux with ⟨h1, h2⟩ | ⟨h1, h2⟩
      · rw [h1, h2] at hmem2; exact c1.step (.inl hmem2)
      · rw [h1, h2] at hmem2; exact c1.step (.inr hmem2)
theorem reg_head {n : Nat} {l : List Arc} {cn mn : Nat} {L : List Int} (hg : (gcheck (n : Int) l).2 = 0) (hok : RegOk n l cn mn L) : ∃ h : 0 < L.length, L[0] = (cn : Int) := by
  obtain ⟨hrl, hrng⟩ := nbrs_rngG hg
  obtain ⟨E, hE⟩ := bfs_lev (rows := fun v : Nat => nbrs (v : Int) l) hok.c hrng
  have hL := hok.is
  have hm := hok.m
  have hp := hE.pos
  have h0 : 0 < L.length := by rw [hL, List.length_take]; omega
  refine ⟨h0, ?_⟩
  have := hE.head.1
  rw [List.getElem?_eq_getElem hp] at this
  subst hL
  rw [List.getElem_take]; exact Option.some.inj this
/-- The parts of a region's own graph: one. -/
theorem reg_parts {n : Nat} {l : List Arc} {cn mn : Nat} {L : List Int} (hg : (gcheck (n : Int) l).2 = 0) (hok : RegOk n l cn mn L) {p : List Nat} (hp : IsParts (verts (marksL n L)).length (ends2 (subArcs (marksL n L) l)) p) : ∀ k (h : k < p.length), p[k] = 0 := by
  have hlen := hp.len
  have hc : ∀ i, i < (verts (marksL n L)).length → Conn (ends2 (subArcs (marksL n L) l)) (vrank (marksL n L) cn) i := fun i hi => by
    obtain ⟨u, hu, _, h1, h2⟩ := verts_get hi
    rw [marksL_keep hu, decide_eq_true_eq] at h1
    obtain ⟨k, hk, e⟩ := List.mem_iff_getElem.1 h1
    have := reg_conn hg hok k hk
    rw [e, Int.toNat_natCast, h2] at this
    exact this
  obtain ⟨h0, e0⟩ := reg_head hg hok
  have hcn : vrank (marksL n L) cn < (verts (marksL n L)).length := vrank_lt (v := cn) (by rw [marksL_len]; exact hok.c) (by rw [marksL_keep (by rw [marksL_len]; exact hok.c), decide_eq_true_eq, ← e0]; exact List.getElem_mem h0)
  have hz : ∀ (h : 0 < p.length), p[0] = 0 := fun h => by
    have := hp.tidy 0 h
    simpa [nxt] using this
  intro k h
  have hk := hc k (by omega)
  have h1 := hc 0 (by omega)
  have := (hp.conn k 0 (by omega) (by omega)).2 (hk.symm.trans h1)
  rw [← hz (by omega)]
  exact this
end Go.Proofs.Ytlllpmafhnfihaa
