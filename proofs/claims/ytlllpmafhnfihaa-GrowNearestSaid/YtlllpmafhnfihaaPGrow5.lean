/- How far the vertices around a centre lie. -/
import Derived.Test.YtlllpmafhnfihaaPGrow4
import Derived.Test.YtlllpmafhnfihaaPNear

namespace Go.Proofs.Ytlllpmafhnfihaa
open Go Fly
set_option linter.unusedVariables false
set_option linter.unusedSimpArgs false
set_option linter.unusedSectionVars false

def bothA (x : Arc) : List Arc := [⟨x.src, x.dst, 1⟩, ⟨x.dst, x.src, 1⟩]
def bothL (l : List Arc) : List Arc := l.flatMap bothA
theorem bothL_len (l : List Arc) : (bothL l).length = 2 * l.length := by
  induction l with
  | nil => rfl
  | cons x l ih => show ((bothA x) ++ bothL l).length = _; rw [List.length_append, ih]; simp [bothA]; omega
theorem bothL_next {l : List Arc} {k : Nat} (hk : k < l.length) : bothL (l.take (k + 1)) = bothL (l.take k) ++ bothA l[k] := by
  unfold bothL; rw [List.take_succ_eq_append_getElem hk, List.flatMap_append]; simp
theorem mem_bothL {l : List Arc} {x : Arc} : x ∈ bothL l ↔ ∃ a ∈ l, x = ⟨a.src, a.dst, 1⟩ ∨ x = ⟨a.dst, a.src, 1⟩ := by
  unfold bothL bothA
  simp [List.mem_flatMap]
theorem bothL_ok {n : Nat} {l : List Arc} (hg : (gcheck (n : Int) l).2 = 0) (h2 : (bothL l).length ≤ 8192) : (gcheck (n : Int) (bothL l)).2 = 0 ∧ ∀ x ∈ bothL l, ArcOk x := by
  obtain ⟨h1, h3, h4, h5⟩ := gcheck_zero hg
  have key : ∀ x ∈ bothL l, 0 ≤ x.src ∧ x.src < (n : Int) ∧ 0 ≤ x.dst ∧ x.dst < (n : Int) ∧ x.wt = 1 := fun x hx => by
    obtain ⟨a, ha, e⟩ := mem_bothL.1 hx
    obtain ⟨i, hi, rfl⟩ := List.mem_iff_getElem.1 ha
    have := h5 i hi
    rcases e with rfl | rfl
    · exact ⟨this.1, this.2.1, this.2.2.1, this.2.2.2, rfl⟩
    · exact ⟨this.2.2.1, this.2.2.2, this.1, this.2.1, rfl⟩
  refine ⟨?_, fun x hx => ?_⟩
  · rw [gcheck_ok ⟨h1, h3⟩ h2 fun j hj => by
      have := key _ (List.getElem_mem hj)
      unfold arcBad; simp; omega]
  · have := key x hx
    exact ⟨by unfold I64; omega, by unfold I64; omega, by omega⟩
theorem both_le {n : Nat} {l : List Arc} {c : Nat} {D : List Int} (hD : IsD n (bothL l) (fun _ => true) c D) {u v : Int} (h : v ∈ nbrs u l) : dg D v.toNat ≤ dg D u.toNat + 1 := by
  obtain ⟨x, hx, hv⟩ := nbrs_mem.1 h
  have key : ∀ y : Arc, y ∈ bothL l → y.wt = 1 → dg D y.dst.toNat ≤ dg D y.src.toNat + 1 := fun y hy hw => by
    obtain ⟨i, hi, rfl⟩ := List.mem_iff_getElem.1 hy
    have := hD.arcs i hi rfl
    rw [hw] at this; exact this
  rcases nbr_ends hv with ⟨h1, h2⟩ | ⟨h1, h2⟩
  · have := key ⟨x.src, x.dst, 1⟩ (mem_bothL.2 ⟨x, hx, .inl rfl⟩) rfl
    rw [h1, h2] at this; exact this
  · have := key ⟨x.dst, x.src, 1⟩ (mem_bothL.2 ⟨x, hx, .inr rfl⟩) rfl
    rw [h1, h2] at this; exact this
theorem both_from {n : Nat} {l : List Arc} {c : Nat} {D : List Int} (hg : (gcheck (n : Int) l).2 = 0) (hD : IsD n (bothL l) (fun _ => true) c D) {v : Nat} (hv : v < n) (hne : v ≠ c) (hlt : dg D v < INF) : ∃ u, u < n ∧ (v : Int) ∈ nbrs (u : Int) l ∧ dg D v = dg D u + 1 := by
  obtain ⟨_, _, _, h5⟩ := gcheck_zero hg
  have hw := hD.walk v hv hlt
  generalize hm : dg D v = m at hw
  cases hw with
  | nil => exact absurd rfl hne
  | @step m' i hi hp hk =>
    have h1 := hD.le hk
    have h2 := hD.arcs i hi hp
    obtain ⟨a, ha, e⟩ := mem_bothL.1 (List.getElem_mem hi)
    obtain ⟨q, hq, rfl⟩ := List.mem_iff_getElem.1 ha
    have hgq := h5 q hq
    have hw1 : (bothL l)[i].wt = 1 := by rcases e with e | e <;> rw [e]
    rw [hw1] at h2 hm
    have hsd : l[q].src ≠ l[q].dst := fun es => by
      have : (bothL l)[i].src.toNat = (bothL l)[i].dst.toNat := by rcases e with e | e <;> rw [e] <;> simp [es]
      rw [this] at h1
      omega
    have hs : ∃ s : Nat, (bothL l)[i].src = (s : Int) ∧ s < n := by
      rcases e with e | e <;> rw [e]
      · exact ⟨l[q].src.toNat, by simp; omega, by omega⟩
      · exact ⟨l[q].dst.toNat, by simp; omega, by omega⟩
    obtain ⟨s, hs, hsn⟩ := hs
    have hd0 : 0 ≤ (bothL l)[i].dst := by rcases e with e | e <;> rw [e] <;> simp <;> omega
    refine ⟨s, hsn, ?_, ?_⟩
    · rw [Int.toNat_of_nonneg hd0, ← hs]
      refine nbrs_mem.2 ⟨l[q], ha, ?_⟩
      unfold nbr
      rw [if_neg hsd]
      rcases e with e | e <;> rw [e]
      · simp
      · simp [fun h => hsd h]
    · rw [hs, Int.toNat_natCast] at h1 h2
      omega
/-- The order around a centre is by distances. -/
theorem lev_is {n : Nat} {l : List Arc} {c : Nat} {D : List Int} (hg : (gcheck (n : Int) l).2 = 0) (hc : c < n) (hD : IsD n (bothL l) (fun _ => true) c D) :
    ∃ E : List Nat, E.length = (bfs n (fun v : Nat => nbrs (v : Int) l) c (List.replicate n false)).1.length ∧ E.Pairwise (· ≤ ·) ∧
      (∀ i (h : i < (bfs n (fun v : Nat => nbrs (v : Int) l) c (List.replicate n false)).1.length) (h' : i < E.length), dg D ((bfs n (fun v : Nat => nbrs (v : Int) l) c (List.replicate n false)).1[i]).toNat = (E[i] : Int) ∧ E[i] ≤ i) ∧
      ∀ v, v < n → (v : Int) ∉ (bfs n (fun v : Nat => nbrs (v : Int) l) c (List.replicate n false)).1 → dg D v = INF := by
  obtain ⟨hrl, hrng⟩ := nbrs_rngG hg
  have hI := bfs_inv hrng (b := List.replicate n false) (by simp) hc
  have hn := gcheck_zero hg
  obtain ⟨E, hE⟩ := bfs_lev (rows := fun v : Nat => nbrs (v : Int) l) hc hrng
  generalize hF : bfs n (fun v : Nat => nbrs (v : Int) l) c (List.replicate n false) = F at hI hE ⊢
  have hlen := hE.len
  have hout := hI.out
  have hup : ∀ i (h : i < F.1.length) (h' : i < E.length), dg D (F.1[i]).toNat ≤ (E[i] : Int) ∧ E[i] ≤ i := by
    intro i
    induction i using Nat.strongRecOn with
    | _ i ih =>
      intro h h'
      rcases Nat.eq_zero_or_pos i with h0 | h0
      · subst h0
        have e1 := hE.head.1
        have e2 := hE.head.2
        rw [List.getElem?_eq_getElem h] at e1
        rw [List.getElem?_eq_getElem h'] at e2
        rw [Option.some.inj e1, Option.some.inj e2, Int.toNat_natCast, hD.zero]; simp
      · obtain ⟨j, hj, hm, he⟩ := hE.par i h h' h0
        have hj1 : j < F.1.length := by omega
        obtain ⟨i1, i2⟩ := ih j hj hj1 (by omega)
        have hr := hI.rng _ (List.getElem_mem hj1)
        have hm2 : F.1[i] ∈ nbrs ((F.1[j].toNat : Nat) : Int) l := hm
        have := both_le hD hm2
        rw [Int.toNat_natCast] at this
        omega
  have hlow : ∀ m : Nat, ∀ v, v < n → dg D v = (m : Int) → (m : Int) < INF → ∃ i, ∃ h : i < F.1.length, ∃ h' : i < E.length, F.1[i] = (v : Int) ∧ E[i] ≤ m := by
    intro m
    induction m with
    | zero =>
      intro v hv hm _
      by_cases hvc : v = c
      · subst hvc
        have e1 := hE.head.1
        have e2 := hE.head.2
        have hp := hE.pos
        refine ⟨0, hp, by omega, ?_, ?_⟩
        · rw [List.getElem?_eq_getElem hp] at e1; exact Option.some.inj e1
        · rw [List.getElem?_eq_getElem (by omega)] at e2; rw [Option.some.inj e2]; exact Nat.le_refl _
      · obtain ⟨u, hu, _, h2⟩ := both_from hg hD hv hvc (by rw [hm]; decide)
        have := (hD.rng u hu).1
        omega
    | succ m ih =>
      intro v hv hm hlt
      by_cases hvc : v = c
      · subst hvc; rw [hD.zero] at hm; omega
      · obtain ⟨u, hu, h1, h2⟩ := both_from hg hD hv hvc (by rw [hm]; exact hlt)
        obtain ⟨j, hj, hj', e1, e2⟩ := ih u hu (by omega) (by omega)
        obtain ⟨i, hi, hi', e3, e4⟩ := hE.clo j hj hj' (by omega) (v : Int) (by rw [e1, Int.toNat_natCast]; exact h1)
        exact ⟨i, hi, hi', e3, by omega⟩
  refine ⟨E, hlen, hE.rise, fun i h h' => ⟨?_, (hup i h h').2⟩, fun v hv hnot => ?_⟩
  · obtain ⟨h1, h2⟩ := hup i h h'
    have hr := hI.rng _ (List.getElem_mem h)
    have h0 := (hD.rng F.1[i].toNat (by omega)).1
    obtain ⟨i2, hi2, hi2', e1, e2⟩ := hlow (dg D F.1[i].toNat).toNat F.1[i].toNat (by omega) (by omega) (by unfold INF; omega)
    have : i2 = i := (List.getElem_inj hI.nd).1 (by rw [e1]; omega)
    subst this
    omega
  · have hr := hD.rng v hv
    rcases Int.lt_or_le (dg D v) INF with hlt | hge
    · obtain ⟨i, hi, _, e1, _⟩ := hlow (dg D v).toNat v hv (by omega) (by omega)
      exact absurd (by rw [← e1]; exact List.getElem_mem hi) hnot
    · omega
end Go.Proofs.Ytlllpmafhnfihaa
