/- The layers of a network, and ways through them. Plain laws. -/
import Derived.Test.YtnagjidfenfdbaaPFlow

namespace Go.Proofs.Ytnagjidfenfdbaa
open Go Fly
set_option linter.unusedVariables false
set_option linter.unusedSimpArgs false

theorem flAt_set {L : List Int} {u : Nat} (h : u < L.length) (x : Int) (v : Nat) : flAt (L.set u x) v = if u = v then x else flAt L v := by
  unfold flAt
  rw [List.getD_eq_getElem?_getD, List.getElem?_set]
  by_cases e : u = v
  · rw [if_pos e, if_pos h, if_pos e]; rfl
  · rw [if_neg e, if_neg e, List.getD_eq_getElem?_getD]
def unl (L : List Int) : Nat := L.countP (fun x => decide (x < 0))
theorem unl_set : ∀ {L : List Int} {i : Nat} {x : Int}, i < L.length → flAt L i < 0 → 0 ≤ x → unl (L.set i x) + 1 = unl L
  | y :: L, 0, x, _, h, hx => by
    have hy : y < 0 := by simpa [flAt] using h
    simp [unl, hy, List.countP_cons, show ¬ x < 0 by omega]
  | y :: L, i + 1, x, hi, h, hx => by
    have := unl_set (L := L) (i := i) (x := x) (by simpa using hi) (by simpa [flAt] using h) hx
    unfold unl at this ⊢
    simp only [List.set_cons_succ, List.countP_cons]
    omega
/-- What is left, seen from s: the layers so far. -/
structure LayB (n : Nat) (e : List Arc) (s : Nat) (f L : List Int) (work : List Nat) (P : Nat → Prop) : Prop where
  len : L.length = n
  ge : ∀ v, v < n → -1 ≤ flAt L v
  s0 : flAt L s = 0
  pred : ∀ v, v < n → 0 ≤ flAt L v → v ≠ s → ∃ k, k < 2 * e.length ∧ 0 < kleft e f k ∧ kto e k = v ∧ 0 ≤ flAt L (kfrom e k) ∧ flAt L v = flAt L (kfrom e k) + 1
  wk : ∀ v, v ∈ work → v < n ∧ 0 ≤ flAt L v
  cl : ∀ k, k < 2 * e.length → 0 < kleft e f k → 0 ≤ flAt L (kfrom e k) → kfrom e k ∉ work → P k → 0 ≤ flAt L (kto e k)
variable {n : Nat} {e : List Arc} {s t : Nat} {f L : List Int} {work : List Nat} {P : Nat → Prop}
theorem flAt_rep {n : Nat} {x : Int} {v : Nat} (h : v < n) : flAt (List.replicate n x) v = x := by
  unfold flAt; rw [List.getD_eq_getElem?_getD, List.getElem?_replicate, if_pos h]; rfl
theorem kfrom_lt (he : NetOk n e) {k : Nat} (hk : k < 2 * e.length) : kfrom e k < n := by
  have := he _ (List.getElem_mem (show k / 2 < e.length by omega))
  unfold kfrom; rw [arcAt_eq (by omega)]; split <;> omega
theorem kto_lt (he : NetOk n e) {k : Nat} (hk : k < 2 * e.length) : kto e k < n := by
  have := he _ (List.getElem_mem (show k / 2 < e.length by omega))
  unfold kto; rw [arcAt_eq (by omega)]; split <;> omega
theorem LayB.begin (he : NetOk n e) (hs : s < n) : LayB n e s f ((List.replicate n (-1)).set s 0) [s] (fun _ => True) := by
  have G : ∀ v, v < n → flAt ((List.replicate n (-1)).set s 0) v = if s = v then 0 else -1 := fun v hv => by rw [flAt_set (by simpa using hs), flAt_rep hv]
  refine ⟨by simp, fun v hv => by rw [G v hv]; split <;> omega, by rw [G s hs, if_pos rfl], fun v hv h hne => ?_, fun v hv => ?_, fun k hk hl hf hn _ => ?_⟩
  · rw [G v hv, if_neg (fun e => hne e.symm)] at h; omega
  · simp at hv; subst hv; exact ⟨hs, by rw [G v hs, if_pos rfl]; exact Int.le_refl _⟩
  · have hlt := kfrom_lt he hk
    rw [G _ hlt] at hf
    split at hf
    · rename_i e'; exact absurd (by rw [← e']; simp) hn
    · omega
theorem LayB.pop {v : Nat} (h : LayB n e s f L (v :: work) (fun _ => True)) : LayB n e s f L work (fun k => kfrom e k ≠ v) :=
  ⟨h.len, h.ge, h.s0, h.pred, fun u hu => h.wk u (List.mem_cons_of_mem _ hu), fun k hk hl hf hn hne => h.cl k hk hl hf (by simp; exact ⟨hne, hn⟩) trivial⟩
theorem LayB.weaken {Q : Nat → Prop} (h : LayB n e s f L work P) (hq : ∀ k, k < 2 * e.length → Q k → P k) : LayB n e s f L work Q :=
  ⟨h.len, h.ge, h.s0, h.pred, h.wk, fun k hk hl hf hn hQ => h.cl k hk hl hf hn (hq k hk hQ)⟩
theorem LayB.see {k : Nat} (h : LayB n e s f L work P) (he : NetOk n e) (hk : k < 2 * e.length) (hf : 0 ≤ flAt L (kfrom e k)) (hu : flAt L (kto e k) < 0) (hl : 0 < kleft e f k) :
    LayB n e s f (L.set (kto e k) (flAt L (kfrom e k) + 1)) (work ++ [kto e k]) (fun j => P j ∨ j = k) := by
  have ht := kto_lt he hk
  have hfr := kfrom_lt he hk
  have G : ∀ v, flAt (L.set (kto e k) (flAt L (kfrom e k) + 1)) v = if kto e k = v then flAt L (kfrom e k) + 1 else flAt L v := fun v => flAt_set (by rw [h.len]; exact ht) _ v
  refine ⟨by simpa using h.len, fun v hv => ?_, ?_, fun v hv hv0 hne => ?_, fun v hv => ?_, fun j hj hjl hjf hjn hP => ?_⟩
  · rw [G]; split
    · omega
    · exact h.ge v hv
  · rw [G, if_neg (fun e' => by rw [e', h.s0] at hu; omega)]; exact h.s0
  · rw [G] at hv0 ⊢
    split at hv0
    · rename_i e'
      rw [if_pos e']
      refine ⟨k, hk, hl, e', ?_, ?_⟩
      · rw [G, if_neg (fun e2 => by rw [← e2] at hf; omega)]; exact hf
      · rw [G, if_neg (fun e2 => by rw [← e2] at hf; omega)]
    · rename_i e'
      rw [if_neg e']
      obtain ⟨j, a, b, c, d, g⟩ := h.pred v hv hv0 hne
      refine ⟨j, a, b, c, ?_, ?_⟩
      · rw [G, if_neg (fun e2 => by rw [← e2] at d; omega)]; exact d
      · rw [G, if_neg (fun e2 => by rw [← e2] at d; omega)]; exact g
  · rw [G]
    rcases List.mem_append.1 hv with hv | hv
    · have := h.wk v hv
      split
      · exact ⟨this.1, by omega⟩
      · exact this
    · simp at hv; subst hv; rw [if_pos rfl]; exact ⟨ht, by omega⟩
  · simp only [List.mem_append, List.mem_singleton, not_or] at hjn
    rw [G] at hjf ⊢
    rw [if_neg (fun e' => hjn.2 e'.symm)] at hjf
    split
    · omega
    · rename_i e'
      rcases hP with hP | rfl
      · exact h.cl j hj hjl hjf hjn.1 hP
      · exact absurd rfl e'
theorem LayB.skip {k : Nat} (h : LayB n e s f L work P) (hn : ¬ (flAt L (kto e k) < 0 ∧ 0 < kleft e f k)) : LayB n e s f L work (fun j => P j ∨ j = k) :=
  ⟨h.len, h.ge, h.s0, h.pred, h.wk, fun j hj hjl hjf hjn hP => by
    rcases hP with hP | rfl
    · exact h.cl j hj hjl hjf hjn hP
    · omega⟩
/-- The layers, as they are told. -/
structure Lay (n : Nat) (e : List Arc) (s : Nat) (f L : List Int) : Prop where
  len : L.length = n
  ge : ∀ v, v < n → -1 ≤ flAt L v
  s0 : flAt L s = 0
  pred : ∀ v, v < n → 0 ≤ flAt L v → v ≠ s → ∃ k, k < 2 * e.length ∧ 0 < kleft e f k ∧ kto e k = v ∧ 0 ≤ flAt L (kfrom e k) ∧ flAt L v = flAt L (kfrom e k) + 1
  cl : ∀ k, k < 2 * e.length → 0 < kleft e f k → 0 ≤ flAt L (kfrom e k) → 0 ≤ flAt L (kto e k)
theorem LayB.done (h : LayB n e s f L [] (fun _ => True)) : Lay n e s f L := ⟨h.len, h.ge, h.s0, h.pred, fun k hk hl hf => h.cl k hk hl hf (by simp) trivial⟩
theorem Lay.reach (h : Lay n e s f L) (he : NetOk n e) : ∀ (m : Nat) (v : Nat), v < n → flAt L v = (m : Int) → Reach e f s v
  | 0, v, hv, hm => by
    by_cases hvs : v = s
    · subst hvs; exact .refl
    · obtain ⟨k, a, b, c, d, g⟩ := h.pred v hv (by omega) hvs; omega
  | m + 1, v, hv, hm => by
    by_cases hvs : v = s
    · subst hvs; exact .refl
    · obtain ⟨k, a, b, c, d, g⟩ := h.pred v hv (by omega) hvs
      have := Lay.reach h he m (kfrom e k) (kfrom_lt he a) (by omega)
      rw [← c]; exact .step this a b
theorem Lay.side (h : Lay n e s f L) (he : NetOk n e) (ht : flAt L t < 0) : Side n e s t f (fun v => decide (0 ≤ flAt L v)) where
  src := by simp [h.s0]
  dst := by simp; exact ht
  shut := fun k hk hl hA => by simp at hA ⊢; exact h.cl k hk hl hA
  reach := fun v hv hA => by
    simp at hA
    exact h.reach he (flAt L v).toNat v hv (by omega)

/-! ### rows -/
/-- The edges that lead out of a node, of the first ones. -/
def kRow (e : List Arc) (j v : Nat) : List Int := ((List.range j).filter (fun k => kfrom e k == v)).map (fun k : Nat => (k : Int))
def kRows (e : List Arc) (n j : Nat) : List (List Int) := (List.range n).map (kRow e j)
theorem kRows_len (e : List Arc) (n j : Nat) : (kRows e n j).length = n := by simp [kRows]
theorem kRows_get {e : List Arc} {n j v : Nat} (h : v < (kRows e n j).length) : (kRows e n j)[v] = kRow e j v := by simp [kRows]
theorem kRow_next (e : List Arc) (j v : Nat) : kRow e (j + 1) v = if kfrom e j = v then kRow e j v ++ [(j : Int)] else kRow e j v := by
  unfold kRow
  rw [List.range_succ, List.filter_append, List.map_append]
  by_cases h : kfrom e j = v
  · rw [if_pos h]; simp [h]
  · rw [if_neg h]; simp [h]
theorem kRows_next {e : List Arc} {n j : Nat} (h : kfrom e j < n) : (kRows e n j).set (kfrom e j) (kRow e j (kfrom e j) ++ [(j : Int)]) = kRows e n (j + 1) := by
  refine List.ext_getElem (by simp [kRows]) fun v h1 h2 => ?_
  rw [List.getElem_set, kRows_get, kRows_get, kRow_next]
  split
  · rename_i e'; subst e'; rfl
  · rfl
theorem kRows_zero (e : List Arc) (n : Nat) : kRows e n 0 = List.replicate n [] := by
  refine List.ext_getElem (by simp [kRows]) fun v h1 h2 => by rw [kRows_get]; simp [kRow]
theorem kRow_mem {e : List Arc} {j v : Nat} {x : Int} (h : x ∈ kRow e j v) : ∃ k : Nat, x = k ∧ k < j ∧ kfrom e k = v := by
  unfold kRow at h
  obtain ⟨k, hk, rfl⟩ := List.mem_map.1 h
  rw [List.mem_filter] at hk
  exact ⟨k, rfl, by simpa using hk.1, by simpa using hk.2⟩
theorem kRow_has {e : List Arc} {j k : Nat} (h : k < j) : (k : Int) ∈ kRow e j (kfrom e k) := by
  unfold kRow
  exact List.mem_map.2 ⟨k, List.mem_filter.2 ⟨by simpa using h, by simp⟩, rfl⟩
theorem kRow_len (e : List Arc) (j v : Nat) : (kRow e j v).length ≤ j := by
  unfold kRow; rw [List.length_map]; exact Nat.le_trans (List.length_filter_le _ _) (by simp)
abbrev row (e : List Arc) (v : Nat) : List Int := kRow e (2 * e.length) v
theorem row_at {e : List Arc} {v i : Nat} (h : i < (row e v).length) : ∃ k : Nat, (row e v)[i] = (k : Int) ∧ k < 2 * e.length ∧ kfrom e k = v := kRow_mem (List.getElem_mem h)

/-! ### ways through the layers -/
/-- An edge through which a way may go on. -/
def Good (e : List Arc) (f L : List Int) (k : Nat) : Prop := 0 < kleft e f k ∧ flAt L (kto e k) = flAt L (kfrom e k) + 1
structure Nx (n : Nat) (e : List Arc) (nx : List Int) : Prop where
  len : nx.length = n
  rng : ∀ v, v < n → 0 ≤ flAt nx v ∧ flAt nx v ≤ ((row e v).length : Int)
/-- From here there is no way on. -/
def Dead (e : List Arc) (t : Nat) (nx : List Int) (v : Nat) : Prop := flAt nx v = ((row e v).length : Int) ∧ v ≠ t
/-- What has been passed leads nowhere. -/
def Past (n : Nat) (e : List Arc) (t : Nat) (f L nx : List Int) : Prop := ∀ v, v < n → ∀ (j k : Nat), (j : Int) < flAt nx v → (row e v)[j]? = some (k : Int) → Good e f L k → Dead e t nx (kto e k)
/-- A way as far as it has come. -/
structure Wy (n : Nat) (e : List Arc) (s : Nat) (f L nx : List Int) (W : List Nat) (v : Nat) : Prop where
  way : Way e s v W
  good : ∀ k, k ∈ W → Good e f L k
  cur : ∀ k, k ∈ W → (row e (kfrom e k))[(flAt nx (kfrom e k)).toNat]? = some (k : Int)
  nx : Nx n e nx
variable {nx : List Int} {W : List Nat} {v : Nat}
theorem Wy.up (h : Wy n e s f L nx W v) : Up e L W := fun k hk => (h.good k hk).2
theorem Way.end_lt {L : List Int} : ∀ {W : List Nat} {u v : Nat}, Way e u v W → Up e L W → ∀ k, k ∈ W → flAt L (kfrom e k) < flAt L v
  | [], _, _, _, _, k, h => by simp at h
  | j :: r, u, v, ⟨h1, h2, h3⟩, hU, k, h => by
    have hU' : Up e L r := fun i hi => hU i (List.mem_cons_of_mem _ hi)
    have hj := hU j (List.mem_cons_self ..)
    rcases List.mem_cons.1 h with rfl | h
    · cases r with
      | nil => have : kto e k = v := h3; rw [← this]; omega
      | cons i r =>
        have := Way.end_lt h3 hU' i (List.mem_cons_self ..)
        have := Way.rise h3 hU' i (List.mem_cons_self ..)
        omega
    · exact Way.end_lt h3 hU' k h
theorem Nx.step (h : Nx n e nx) (hv : v < n) (hlt : flAt nx v < ((row e v).length : Int)) : Nx n e (nx.set v (flAt nx v + 1)) :=
  ⟨by simpa using h.len, fun u hu => by
    rw [flAt_set (by rw [h.len]; exact hv)]
    have := h.rng v hv
    split
    · rename_i e'; subst e'; omega
    · exact h.rng u hu⟩
theorem Past.step (h : Past n e t f L nx) (hx : Nx n e nx) (hv : v < n) (hlt : flAt nx v < ((row e v).length : Int)) (hd : ∀ k : Nat, (row e v)[(flAt nx v).toNat]? = some (k : Int) → Good e f L k → Dead e t nx (kto e k)) :
    Past n e t f L (nx.set v (flAt nx v + 1)) := by
  have G : ∀ u, flAt (nx.set v (flAt nx v + 1)) u = if v = u then flAt nx v + 1 else flAt nx u := fun u => flAt_set (by rw [hx.len]; exact hv) _ u
  have D : ∀ u, Dead e t nx u → Dead e t (nx.set v (flAt nx v + 1)) u := fun u ⟨a, b⟩ => ⟨by rw [G, if_neg (fun e' => by subst e'; omega)]; exact a, b⟩
  intro u hu j k hj hk hg
  refine D _ ?_
  rw [G] at hj
  split at hj
  · rename_i e'
    subst e'
    by_cases h1 : (j : Int) < flAt nx v
    · exact h v hv j k h1 hk hg
    · have := hx.rng v hv
      have : (flAt nx v).toNat = j := by omega
      exact hd k (by rw [this]; exact hk) hg
  · exact h u hu j k hj hk hg
theorem Wy.pass (h : Wy n e s f L nx W v) (hv : v < n) (hlt : flAt nx v < ((row e v).length : Int)) : Wy n e s f L (nx.set v (flAt nx v + 1)) W v :=
  ⟨h.way, h.good, fun k hk => by
    have := h.way.end_lt h.up k hk
    rw [flAt_set (by rw [h.nx.len]; exact hv), if_neg (fun e' => by rw [← e'] at this; omega)]
    exact h.cur k hk, h.nx.step hv hlt⟩
theorem Wy.on {k : Nat} (h : Wy n e s f L nx W v) (hk : k < 2 * e.length) (hf : kfrom e k = v) (hr : (row e v)[(flAt nx v).toNat]? = some (k : Int)) (hg : Good e f L k) : Wy n e s f L nx (W ++ [k]) (kto e k) :=
  ⟨h.way.snoc hk hf, fun j hj => by
    rcases List.mem_append.1 hj with hj | hj
    · exact h.good j hj
    · simp at hj; subst hj; exact hg, fun j hj => by
    rcases List.mem_append.1 hj with hj | hj
    · exact h.cur j hj
    · simp at hj; subst hj; rw [hf]; exact hr, h.nx⟩
theorem Wy.back {k : Nat} (h : Wy n e s f L nx (W ++ [k]) v) : k < 2 * e.length ∧ kto e k = v ∧ Wy n e s f L nx W (kfrom e k) :=
  let ⟨a, b, c⟩ := h.way.pop
  ⟨a, b, c, fun j hj => h.good j (List.mem_append_left _ hj), fun j hj => h.cur j (List.mem_append_left _ hj), h.nx⟩
theorem Wy.lt {k : Nat} (h : Wy n e s f L nx (W ++ [k]) v) : flAt nx (kfrom e k) < ((row e (kfrom e k)).length : Int) := by
  have := h.cur k (by simp)
  have h1 := (List.getElem?_eq_some_iff.1 this).1
  omega
/-- If t has a layer there is a way. -/
theorem no_dead (h : Lay n e s f L) (he : NetOk n e) (hx : Nx n e nx) (hp : Past n e t f L nx) (hd : Dead e t nx s) : ∀ (m : Nat) (v : Nat), v < n → flAt L v = (m : Int) → Dead e t nx v
  | 0, v, hv, hm => by
    by_cases hvs : v = s
    · subst hvs; exact hd
    · obtain ⟨k, a, b, c, d, g⟩ := h.pred v hv (by omega) hvs; omega
  | m + 1, v, hv, hm => by
    by_cases hvs : v = s
    · subst hvs; exact hd
    · obtain ⟨k, a, b, c, d, g⟩ := h.pred v hv (by omega) hvs
      have hk := no_dead h he hx hp hd m (kfrom e k) (kfrom_lt he a) (by omega)
      obtain ⟨j, hj, hjk⟩ := List.mem_iff_getElem.1 (kRow_has (e := e) a)
      rw [← c]
      exact hp (kfrom e k) (kfrom_lt he a) j k (by rw [hk.1]; exact_mod_cast hj) (by rw [List.getElem?_eq_getElem hj, hjk]) ⟨b, by rw [c]; exact g⟩
theorem way_there (h : Lay n e s f L) (he : NetOk n e) (ht : t < n) (htl : 0 ≤ flAt L t) (hx : Nx n e nx) (hp : Past n e t f L nx) (hd : Dead e t nx s) : False :=
  (no_dead h he hx hp hd (flAt L t).toNat t ht (by omega)).2 rfl
theorem Past.start (n : Nat) (e : List Arc) (t : Nat) (f L : List Int) : Past n e t f L (List.replicate n 0) := fun v hv j k hj _ _ => by rw [flAt_zero] at hj; omega
theorem Nx.start (n : Nat) (e : List Arc) : Nx n e (List.replicate n 0) := ⟨by simp, fun v hv => by rw [flAt_zero]; omega⟩

/-! ### measures -/
def remN (n : Nat) (e : List Arc) (nx : List Int) : Int := sumTo (fun v => ((row e v).length : Int) - flAt nx v) n
theorem remN_step (h : Nx n e nx) (hv : v < n) : remN n e (nx.set v (flAt nx v + 1)) = remN n e nx - 1 := by
  unfold remN
  have : sumTo (fun u => ((row e u).length : Int) - flAt (nx.set v (flAt nx v + 1)) u) n = sumTo (fun u => (((row e u).length : Int) - flAt nx u) - (if v = u then 1 else 0)) n := sumTo_congr fun u hu => by
    rw [flAt_set (by rw [h.len]; exact hv)]
    split
    · rename_i e'; subst e'; omega
    · omega
  rw [this, sumTo_sub, sumTo_one, if_pos hv]
theorem sumTo_nn {g : Nat → Int} : ∀ {n}, (∀ v, v < n → 0 ≤ g v) → 0 ≤ sumTo g n
  | 0, _ => Int.le_refl _
  | n + 1, h => by have := sumTo_nn (n := n) fun v hv => h v (by omega); have := h n (by omega); simp only [sumTo]; omega
theorem remN_nn (h : Nx n e nx) : 0 ≤ remN n e nx := sumTo_nn fun v hv => by have := h.rng v hv; omega
def topL : List Int → Nat
  | [] => 0
  | x :: r => x.toNat + topL r
theorem topL_ge : ∀ (L : List Int) (v : Nat), flAt L v ≤ (topL L : Int)
  | [], v => by simp [flAt, topL]
  | x :: r, 0 => by simp [flAt, topL]; omega
  | x :: r, v + 1 => by have := topL_ge r v; simp [flAt, topL] at this ⊢; omega
/-- How much is still to be done on a way. -/
def wayMu (n : Nat) (e : List Arc) (L nx : List Int) (v : Nat) : Nat := (remN n e nx).toNat * (topL L + 3) + (topL L + 1 - flAt L v).toNat
theorem wayMu_on {k : Nat} (hg : Good e f L k) (hf : kfrom e k = v) (h : Nx n e nx) : wayMu n e L nx (kto e k) < wayMu n e L nx v := by
  unfold wayMu
  have := topL_ge L (kto e k)
  have := hg.2
  rw [hf] at this
  omega
theorem wayMu_pass {u : Nat} (h : Nx n e nx) (hv : v < n) (hlt : flAt nx v < ((row e v).length : Int)) (hu : -1 ≤ flAt L u) (w : Nat) : wayMu n e L (nx.set v (flAt nx v + 1)) u < wayMu n e L nx w := by
  unfold wayMu
  have h1 := remN_step h hv
  have h2 := remN_nn (h.step hv hlt)
  have e1 : (remN n e nx).toNat = (remN n e (nx.set v (flAt nx v + 1))).toNat + 1 := by omega
  rw [e1, Nat.add_mul]
  have := topL_ge L w
  omega
end Go.Proofs.Ytnagjidfenfdbaa
