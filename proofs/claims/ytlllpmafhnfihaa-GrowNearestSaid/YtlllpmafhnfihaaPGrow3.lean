/- The order around a centre: who comes of whom, how far each one lies; the order of all vertices. -/
import Derived.Test.YtlllpmafhnfihaaFOrder
import Derived.Test.YtlllpmafhnfihaaPGrow2

namespace Go.Proofs.Ytlllpmafhnfihaa
open Go Fly
set_option linter.unusedVariables false
set_option linter.unusedSimpArgs false
set_option linter.unusedSectionVars false

/-- Marked is what was marked, and what has come. -/
def BMk (b0 : List Bool) (s : BSt) : Prop := ∀ v : Nat, s.2.getD v false = true ↔ b0.getD v false = true ∨ (v : Int) ∈ s.1
theorem BMk.start {n c : Nat} {b : List Bool} (hb : b.length = n) (hc : c < n) : BMk b (bstart c b) := fun v => by
  show (b.set c true).getD v false = true ↔ _ ∨ (v : Int) ∈ [(c : Int)]
  rw [getD_set, List.mem_singleton]
  by_cases h : c = v
  · subst h; rw [if_pos ⟨rfl, by omega⟩]; simp
  · rw [if_neg (fun h' => h h'.1)]
    constructor
    · exact .inl
    · rintro (h' | h')
      · exact h'
      · exact absurd (by omega) h
theorem BMk.push1 {n : Nat} {b0 : List Bool} {s : BSt} (hI : BInv n s) (h : BMk b0 s) {u : Int} (hu : 0 ≤ u ∧ u < (n : Int)) : BMk b0 (bpush1 s u) := by
  unfold bpush1
  split
  · exact h
  · intro v
    show (s.2.set u.toNat true).getD v false = true ↔ _ ∨ (v : Int) ∈ s.1 ++ [u]
    rw [getD_set, List.mem_append, List.mem_singleton]
    by_cases e : u.toNat = v
    · rw [if_pos ⟨e, by rw [hI.len]; omega⟩]
      exact ⟨fun _ => .inr (.inr (by omega)), fun _ => rfl⟩
    · rw [if_neg (fun h' => e h'.1), h v]
      constructor
      · rintro (h' | h')
        · exact .inl h'
        · exact .inr (.inl h')
      · rintro (h' | h' | h')
        · exact .inl h'
        · exact .inr h'
        · exact absurd (by omega) e
theorem BMk.push {n : Nat} {b0 : List Bool} {row : List Int} (hr : ∀ u ∈ row, 0 ≤ u ∧ u < (n : Int)) : ∀ {s : BSt}, BInv n s → BMk b0 s → BMk b0 (bpush row s) := by
  induction row with
  | nil => exact fun _ h => h
  | cons u row ih => exact fun hI h => ih (fun x hx => hr x (List.mem_cons_of_mem _ hx)) (hI.push1 (hr u (List.mem_cons_self ..))) (h.push1 hI (hr u (List.mem_cons_self ..)))
theorem BMk.go {n : Nat} {b0 : List Bool} {rows : Nat → List Int} (hr : ∀ v, v < n → ∀ u ∈ rows v, 0 ≤ u ∧ u < (n : Int)) {s : BSt} (hI : BInv n s) (h : BMk b0 s) : ∀ k, BMk b0 (bgo rows s k)
  | 0 => h
  | k + 1 => by
    have ih := BMk.go hr hI h k
    have hIk := BInv.go hr hI k
    show BMk b0 (bstep rows k (bgo rows s k))
    rcases Nat.lt_or_ge k (bgo rows s k).1.length with hk | hk
    · rw [bstep_at hk]
      exact ih.push (hr _ (by have := hIk.rng _ (List.getElem_mem hk); omega)) hIk
    · rw [bstep_no hk]; exact ih

/-- How far each one lies: E; the first k have been gone through. -/
structure BLev (n : Nat) (rows : Nat → List Int) (c k : Nat) (s : BSt) (E : List Nat) : Prop where
  len : E.length = s.1.length
  pos : 0 < s.1.length
  head : s.1[0]? = some (c : Int) ∧ E[0]? = some 0
  rise : E.Pairwise (· ≤ ·)
  par : ∀ i (h : i < s.1.length) (h' : i < E.length), 0 < i → ∃ j, ∃ hj : j < i, s.1[i] ∈ rows (s.1[j]'(by omega)).toNat ∧ E[i] = E[j]'(by omega) + 1
  top : ∀ (h' : k < E.length) i (h : i < E.length), E[i] ≤ E[k] + 1
  clo : ∀ j (h : j < s.1.length) (h' : j < E.length), j < k → ∀ u ∈ rows s.1[j].toNat, ∃ i, ∃ hi : i < s.1.length, ∃ hi' : i < E.length, s.1[i] = u ∧ E[i] ≤ E[j] + 1
theorem BLev.start (n : Nat) (rows : Nat → List Int) (c : Nat) (b : List Bool) : BLev n rows c 0 (bstart c b) [0] :=
  ⟨rfl, by simp [bstart], ⟨rfl, rfl⟩, by simp, fun i h _ hi => by simp [bstart] at h; omega, fun h' i h => by simp at h; subst h; simp, fun j _ _ hj => by omega⟩
/-- One neighbour of the k-th. -/
theorem BLev.push1 {n : Nat} {rows : Nat → List Int} {c k : Nat} {s : BSt} {E : List Nat} (h : BLev n rows c k s E) (hk : k < s.1.length) (hk' : k < E.length) {u : Int} (hu : u ∈ rows s.1[k].toNat) (hm : s.2.getD u.toNat false = true ↔ u ∈ s.1) :
    ∃ E', BLev n rows c k (bpush1 s u) E' ∧ E <+: E' ∧ (∃ i, ∃ hi : i < (bpush1 s u).1.length, ∃ hi' : i < E'.length, (bpush1 s u).1[i] = u ∧ E'[i] ≤ E[k] + 1) := by
  unfold bpush1
  split
  · rename_i ht
    refine ⟨E, h, List.prefix_refl _, ?_⟩
    obtain ⟨i, hi, he⟩ := List.mem_iff_getElem.1 (hm.1 ht)
    exact ⟨i, hi, by rw [h.len]; exact hi, he, h.top hk' i _⟩
  · have hlen := h.len
    refine ⟨E ++ [E[k] + 1], ⟨by simp [hlen], by simp, ?_, ?_, ?_, ?_, ?_⟩, List.prefix_append _ _, s.1.length, by simp, by simp [hlen], by simp, ?_⟩
    · refine ⟨?_, ?_⟩
      · rw [List.getElem?_append_left h.pos]; exact h.head.1
      · rw [List.getElem?_append_left (by have := h.pos; omega)]; exact h.head.2
    · rw [List.pairwise_append]
      refine ⟨h.rise, by simp, fun a ha b hb => ?_⟩
      simp only [List.mem_singleton] at hb
      obtain ⟨i, hi, rfl⟩ := List.mem_iff_getElem.1 ha
      have := h.top hk' i hi
      omega
    · intro i hi hi' h0
      rcases Nat.lt_or_ge i s.1.length with hl | hl
      · obtain ⟨j, hj, h1, h2⟩ := h.par i hl (by omega) h0
        refine ⟨j, hj, ?_, ?_⟩
        · rw [List.getElem_append_left hl, List.getElem_append_left (by omega)]; exact h1
        · rw [List.getElem_append_left (by omega), List.getElem_append_left (by omega)]; exact h2
      · have hi2 : i = s.1.length := by simp at hi; omega
        subst hi2
        refine ⟨k, hk, ?_, ?_⟩
        · rw [List.getElem_append_right (Nat.le_refl _), List.getElem_append_left hk]; simpa using hu
        · rw [List.getElem_append_right (by omega), List.getElem_append_left hk']; simp
    · intro _ i hi
      rw [List.getElem_append_left hk']
      rcases Nat.lt_or_ge i E.length with hl | hl
      · rw [List.getElem_append_left hl]; exact h.top hk' i hl
      · rw [List.getElem_append_right hl]; simp
    · intro j hj hj' hjk v hv
      have hjl : j < s.1.length := by omega
      have hjl' : j < E.length := by omega
      rw [List.getElem_append_left hjl] at hv
      obtain ⟨i, hi, hi', h1, h2⟩ := h.clo j hjl hjl' hjk v hv
      refine ⟨i, by simp; omega, by simp; omega, ?_, ?_⟩
      · rw [List.getElem_append_left hi]; exact h1
      · rw [List.getElem_append_left hi', List.getElem_append_left hjl']; exact h2
    · rw [List.getElem_append_right (by omega)]; simp
theorem pre_get {α : Type} {a b : List α} (h : a <+: b) {i : Nat} (hi : i < a.length) : ∃ hi' : i < b.length, b[i] = a[i] := by
  obtain ⟨t, rfl⟩ := h
  exact ⟨by simp; omega, List.getElem_append_left hi⟩
theorem BLev.push {n : Nat} {rows : Nat → List Int} {c k : Nat} {b0 : List Bool} (hf : ∀ v, b0.getD v false = false) (hr : ∀ v, v < n → ∀ u ∈ rows v, 0 ≤ u ∧ u < (n : Int)) {s : BSt} {E : List Nat} (hI : BInv n s) (hM : BMk b0 s) (h : BLev n rows c k s E) (hk : k < s.1.length) (hk' : k < E.length) :
    ∀ j, j ≤ (rows s.1[k].toNat).length → ∃ E', BLev n rows c k (bpush ((rows s.1[k].toNat).take j) s) E' ∧ E <+: E' ∧
      ∀ u ∈ (rows s.1[k].toNat).take j, ∃ i, ∃ hi : i < (bpush ((rows s.1[k].toNat).take j) s).1.length, ∃ hi' : i < E'.length, (bpush ((rows s.1[k].toNat).take j) s).1[i] = u ∧ E'[i] ≤ E[k] + 1
  | 0, _ => ⟨E, by simpa [bpush] using h, List.prefix_refl _, by simp⟩
  | j + 1, hj => by
    obtain ⟨E1, h1, h2, h3⟩ := BLev.push hf hr hI hM h hk hk' j (by omega)
    have hj' : j < (rows s.1[k].toNat).length := by omega
    have hrow := hr s.1[k].toNat (by have := hI.rng _ (List.getElem_mem hk); omega)
    have hI1 : BInv n (bpush ((rows s.1[k].toNat).take j) s) := hI.push fun u hu => hrow u (List.mem_of_mem_take hu)
    have hM1 : BMk b0 (bpush ((rows s.1[k].toNat).take j) s) := hM.push (fun u hu => hrow u (List.mem_of_mem_take hu)) hI
    obtain ⟨r, hr1⟩ := bpush_ext ((rows s.1[k].toNat).take j) s
    have hk1 : k < (bpush ((rows s.1[k].toNat).take j) s).1.length := by rw [hr1, List.length_append]; omega
    have hsk : (bpush ((rows s.1[k].toNat).take j) s).1[k] = s.1[k] := by simp only [hr1]; exact List.getElem_append_left hk
    obtain ⟨hk1', hEk⟩ := pre_get h2 hk'
    have hu := hrow _ (List.getElem_mem hj')
    have hm : (bpush ((rows s.1[k].toNat).take j) s).2.getD ((rows s.1[k].toNat)[j]).toNat false = true ↔ (rows s.1[k].toNat)[j] ∈ (bpush ((rows s.1[k].toNat).take j) s).1 := by
      rw [hM1 _, hf, Int.toNat_of_nonneg hu.1]; simp
    rw [bpush_next hj']
    obtain ⟨E2, g1, g2, g3⟩ := h1.push1 hk1 hk1' (u := (rows s.1[k].toNat)[j]) (by rw [hsk]; exact List.getElem_mem hj') hm
    refine ⟨E2, g1, h2.trans g2, fun u hu => ?_⟩
    rw [List.take_succ_eq_append_getElem hj'] at hu
    rcases List.mem_append.1 hu with hu | hu
    · obtain ⟨i, hi, hi', e1, e2⟩ := h3 u hu
      obtain ⟨hi2, e3⟩ := pre_get g2 hi'
      obtain ⟨r2, hr2⟩ := bpush1_ext (bpush ((rows s.1[k].toNat).take j) s) (rows s.1[k].toNat)[j]
      refine ⟨i, by rw [hr2, List.length_append]; omega, hi2, ?_, by rw [e3]; exact e2⟩
      simp only [hr2]
      rw [List.getElem_append_left hi]; exact e1
    · simp only [List.mem_singleton] at hu
      subst hu
      obtain ⟨i, hi, hi', e1, e2⟩ := g3
      exact ⟨i, hi, hi', e1, by rw [hEk] at e2; exact e2⟩
theorem BLev.step {n : Nat} {rows : Nat → List Int} {c k : Nat} {b0 : List Bool} (hf : ∀ v, b0.getD v false = false) (hr : ∀ v, v < n → ∀ u ∈ rows v, 0 ≤ u ∧ u < (n : Int)) {s : BSt} {E : List Nat} (hI : BInv n s) (hM : BMk b0 s) (h : BLev n rows c k s E) : ∃ E', BLev n rows c (k + 1) (bstep rows k s) E' := by
  rcases Nat.lt_or_ge k s.1.length with hk | hk
  · have hk' : k < E.length := by rw [h.len]; exact hk
    obtain ⟨E', h1, h2, h3⟩ := BLev.push hf hr hI hM h hk hk' _ (Nat.le_refl _)
    rw [List.take_length] at h1 h3
    rw [bstep_at hk]
    refine ⟨E', { h1 with top := fun hk2 i hi => ?_, clo := fun j hj hj' hjk u hu => ?_ }⟩
    · obtain ⟨hk3, e⟩ := pre_get h2 hk'
      have h4 := h1.top hk3 i hi
      have h5 := List.pairwise_iff_getElem.1 h1.rise k (k + 1) hk3 hk2 (by omega)
      omega
    · rcases Nat.lt_or_ge j k with hjk2 | hjk2
      · exact h1.clo j hj hj' hjk2 u hu
      · obtain rfl : j = k := by omega
        obtain ⟨r, hr1⟩ := bpush_ext (rows s.1[j].toNat) s
        have hsk : (bpush (rows s.1[j].toNat) s).1[j] = s.1[j] := by
          have hg : (bpush (rows s.1[j].toNat) s).1[j]? = s.1[j]? := by rw [hr1, List.getElem?_append_left hk]
          rw [List.getElem?_eq_getElem hj, List.getElem?_eq_getElem hk] at hg
          exact Option.some.inj hg
        rw [hsk] at hu
        obtain ⟨i, hi, hi', e1, e2⟩ := h3 u hu
        obtain ⟨hk3, e⟩ := pre_get h2 hk'
        exact ⟨i, hi, hi', e1, by rw [e]; exact e2⟩
  · rw [bstep_no hk]
    refine ⟨E, { h with top := fun hk2 i hi => ?_, clo := fun j hj hj' hjk u hu => ?_ }⟩
    · have := h.len; omega
    · exact h.clo j hj hj' (by omega) u hu
theorem BLev.go {n : Nat} {rows : Nat → List Int} {c : Nat} {b0 : List Bool} (hb : b0.length = n) (hc : c < n) (hf : ∀ v, b0.getD v false = false) (hr : ∀ v, v < n → ∀ u ∈ rows v, 0 ≤ u ∧ u < (n : Int)) : ∀ k, ∃ E, BLev n rows c k (bgo rows (bstart c b0) k) E
  | 0 => ⟨_, BLev.start n rows c b0⟩
  | k + 1 => by
    obtain ⟨E, h⟩ := BLev.go hb hc hf hr k
    exact h.step hf hr (BInv.go hr (BInv.start hb hc) k) (BMk.go hr (BInv.start hb hc) (BMk.start hb hc) k)
/-- The whole order around a centre, nothing being marked. -/
theorem bfs_lev {n : Nat} {rows : Nat → List Int} {c : Nat} (hc : c < n) (hr : ∀ v, v < n → ∀ u ∈ rows v, 0 ≤ u ∧ u < (n : Int)) : ∃ E, BLev n rows c n (bfs n rows c (List.replicate n false)) E :=
  BLev.go (by simp) hc (fun v => by rw [List.getD_eq_getElem?_getD, List.getElem?_replicate]; split <;> rfl) hr n
theorem bfs_mk {n : Nat} {rows : Nat → List Int} {c : Nat} {b : List Bool} (hb : b.length = n) (hc : c < n) (hr : ∀ v, v < n → ∀ u ∈ rows v, 0 ≤ u ∧ u < (n : Int)) : BMk b (bfs n rows c b) := BMk.go hr (BInv.start hb hc) (BMk.start hb hc) n
theorem nbrs_symm {l : List Arc} {u v : Int} : u ∈ nbrs v l ↔ v ∈ nbrs u l := by
  rw [nbrs_mem, nbrs_mem]
  constructor <;>
  · rintro ⟨x, hx, h⟩
    refine ⟨x, hx, ?_⟩
    unfold nbr at h ⊢
    by_cases h1 : x.src = x.dst
    · rw [if_pos h1] at h; simp at h
    · rw [if_neg h1] at h ⊢
      split at h
      · rename_i h2
        simp at h
        rw [if_neg (by omega), if_pos (by omega)]; simp; omega
      · split at h
        · rename_i h2 h3
          simp at h
          rw [if_pos (by omega)]; simp; omega
        · simp at h
/-- Around all of a part lies nothing. -/
theorem ring_none {n c : Nat} {l : List Arc} (hg : (gcheck (n : Int) l).2 = 0) (hc : c < n) : ringL l (bfs n (fun v : Nat => nbrs (v : Int) l) c (List.replicate n false)).1 n = [] := by
  obtain ⟨hrl, hrng⟩ := nbrs_rngG hg
  obtain ⟨E, hE⟩ := bfs_lev (rows := fun v : Nat => nbrs (v : Int) l) hc hrng
  have hI := bfs_inv hrng (b := List.replicate n false) (by simp) hc
  refine List.eq_nil_iff_forall_not_mem.2 fun x hx => ?_
  obtain ⟨v, hv, rfl, hb⟩ := ringL_mem.1 hx
  unfold rgB at hb
  rw [Bool.and_eq_true, List.any_eq_true] at hb
  obtain ⟨h1, u, hu, h2⟩ := hb
  have hum : u ∈ (bfs n (fun v : Nat => nbrs (v : Int) l) c (List.replicate n false)).1 := by simpa using h2
  obtain ⟨j, hj, rfl⟩ := List.mem_iff_getElem.1 hum
  have hjr := hI.rng _ (List.getElem_mem hj)
  have hjn := hI.out
  obtain ⟨i, hi, _, he, _⟩ := hE.clo j hj (by rw [hE.len]; exact hj) (by omega) (v : Int) (by
    show (v : Int) ∈ nbrs ((_ : Nat) : Int) l
    rw [Int.toNat_of_nonneg hjr.1]; exact nbrs_symm.1 hu)
  have : (v : Int) ∈ (bfs n (fun v : Nat => nbrs (v : Int) l) c (List.replicate n false)).1 := by rw [← he]; exact List.getElem_mem hi
  simp [this] at h1
/-- The order of all has each vertex once. -/
structure OrdOk (n v : Nat) (s : BSt) : Prop where
  len : s.2.length = n
  rng : ∀ x ∈ s.1, 0 ≤ x ∧ x < (n : Int)
  nd : s.1.Nodup
  mrk : ∀ u : Nat, s.2.getD u false = true ↔ (u : Int) ∈ s.1
  all : ∀ u, u < v → (u : Int) ∈ s.1
theorem bgo_fresh {n : Nat} {rows : Nat → List Int} (hr : ∀ v, v < n → ∀ u ∈ rows v, 0 ≤ u ∧ u < (n : Int)) {c : Nat} {b : List Bool} (hb : b.length = n) (hc : c < n) (hbc : b.getD c false = false) : ∀ k, ∀ x ∈ (bgo rows (bstart c b) k).1, b.getD x.toNat false = false
  | 0, x, hx => by simp [bgo, bstart] at hx; subst hx; simpa using hbc
  | k + 1, x, hx => by
    have ih := bgo_fresh hr hb hc hbc k
    have hI := BInv.go hr (BInv.start hb hc) k
    have hM := BMk.go hr (BInv.start hb hc) (BMk.start hb hc) k
    rcases Nat.lt_or_ge k (bgo rows (bstart c b) k).1.length with hk | hk
    · have hrow := hr _ (show ((bgo rows (bstart c b) k).1[k]).toNat < n by have := hI.rng _ (List.getElem_mem hk); omega)
      have key : ∀ (row : List Int) (s : BSt), (∀ u ∈ row, 0 ≤ u ∧ u < (n : Int)) → BInv n s → BMk b s → (∀ x ∈ s.1, b.getD x.toNat false = false) → ∀ x ∈ (bpush row s).1, b.getD x.toNat false = false := by
        intro row
        induction row with
        | nil => intro s _ _ _ h x hx; exact h x hx
        | cons u row ih2 =>
          intro s hr2 hI2 hM2 h x hx
          have hu := hr2 u (List.mem_cons_self ..)
          refine ih2 (bpush1 s u) (fun y hy => hr2 y (List.mem_cons_of_mem _ hy)) (hI2.push1 hu) (hM2.push1 hI2 hu) ?_ x hx
          intro y hy
          unfold bpush1 at hy
          split at hy
          · exact h y hy
          · rename_i hn
            rcases List.mem_append.1 hy with hy | hy
            · exact h y hy
            · simp only [List.mem_singleton] at hy
              subst hy
              rw [hM2 _] at hn
              cases hbv : b.getD y.toNat false with
              | false => rfl
              | true => exact absurd (.inl hbv) hn
      have hx' : x ∈ (bpush (rows ((bgo rows (bstart c b) k).1[k]).toNat) (bgo rows (bstart c b) k)).1 := by
        have e : bgo rows (bstart c b) (k + 1) = bstep rows k (bgo rows (bstart c b) k) := rfl
        rw [e, bstep_at hk] at hx; exact hx
      exact key _ _ hrow hI hM ih x hx'
    · have e : bgo rows (bstart c b) (k + 1) = bstep rows k (bgo rows (bstart c b) k) := rfl
      rw [e, bstep_no hk] at hx
      exact ih x hx
theorem ord_ok {n : Nat} {rows : Nat → List Int} (hr : ∀ v, v < n → ∀ u ∈ rows v, 0 ≤ u ∧ u < (n : Int)) : ∀ v, v ≤ n → OrdOk n v (ordGo n rows v)
  | 0, _ => ⟨by simp [ordGo], by simp [ordGo], by simp [ordGo], fun u => by simp [ordGo, List.getD_eq_getElem?_getD, List.getElem?_replicate]; split <;> rfl, fun u hu => by omega⟩
  | v + 1, h => by
    have ih := ord_ok hr v (by omega)
    unfold ordGo
    split
    · rename_i hm
      refine { ih with all := fun u hu => ?_ }
      rcases Nat.lt_or_ge u v with h1 | h1
      · exact ih.all u h1
      · obtain rfl : u = v := by omega
        exact (ih.mrk u).1 hm
    · rename_i hm
      have hv : v < n := by omega
      have hI := bfs_inv hr ih.len hv
      have hM := bfs_mk ih.len hv hr
      have hfr := bgo_fresh hr ih.len hv (by simpa using hm) n
      refine ⟨hI.len, fun x hx => ?_, ?_, fun u => ?_, fun u hu => ?_⟩
      · rcases List.mem_append.1 hx with hx | hx
        · exact ih.rng x hx
        · exact hI.rng x hx
      · rw [List.nodup_append]
        refine ⟨ih.nd, hI.nd, fun a ha b hb e => ?_⟩
        subst e
        have h1 := hfr a hb
        have h2 := (ih.mrk a.toNat).2 (by rw [Int.toNat_of_nonneg (ih.rng a ha).1]; exact ha)
        rw [h1] at h2; cases h2
      · show (bfs n rows v (ordGo n rows v).2).2.getD u false = true ↔ (u : Int) ∈ (ordGo n rows v).1 ++ (bfs n rows v (ordGo n rows v).2).1
        rw [hM u, ih.mrk u, List.mem_append]
      · rcases Nat.lt_or_ge u v with h1 | h1
        · exact List.mem_append_left _ (ih.all u h1)
        · obtain rfl : u = v := by omega
          refine List.mem_append_right _ ?_
          obtain ⟨r, hr2⟩ := bgo_ext rows (bstart u (ordGo n rows u).2) 0 n
          rw [Nat.zero_add] at hr2
          show (u : Int) ∈ (bgo rows (bstart u (ordGo n rows u).2) n).1
          rw [hr2]
          exact List.mem_append_left _ (by simp [bgo, bstart])
theorem OrdOk.full {n : Nat} {s : BSt} (h : OrdOk n n s) : s.1.length = n := by
  have h1 := ints_card h.rng h.nd
  have h2 := List.Nodup.length_le_of_subset (l₁ := (List.range n).map Int.ofNat) (l₂ := s.1) (by
    have := List.nodup_range (n := n)
    rw [List.Nodup, List.pairwise_map]
    exact this.imp fun {a b} hne e => hne (by have : (a : Int) = b := e; omega)) fun x hx => by
    obtain ⟨u, hu, rfl⟩ := List.mem_map.1 hx
    exact h.all u (List.mem_range.1 hu)
  simp at h2; omega
end Go.Proofs.Ytlllpmafhnfihaa
