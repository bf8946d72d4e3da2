/- Shortest walks: plain laws. -/
import Derived.Test.YtlllpmafhnfihaaPParts
import Derived.Test.YtlllpmafhnfihaaPHeap

namespace Go.Proofs.Ytlllpmafhnfihaa
open Go Fly
set_option linter.unusedVariables false
set_option linter.unusedSimpArgs false

abbrev INF : Int := 18446744073709551615
def u64s (l : List Int) : List Value := l.map (.int .u64 ·)
theorem u64s_length (l : List Int) : (u64s l).length = l.length := by simp [u64s]
theorem u64s_at {l : List Int} {i : Nat} {x : Int} (h : l[i]? = some x) : (u64s l)[i]? = some (.int .u64 x) := by simp [u64s, h]
theorem u64s_set (l : List Int) (i : Nat) (x : Int) : (u64s l).set i (.int .u64 x) = u64s (l.set i x) := by simp [u64s, List.map_set]

/-- Distances added. -/
def dadd (a b : Int) : Int := if INF < a + b then INF else a + b
theorem dadd_le (a b : Int) : dadd a b ≤ a + b := by unfold dadd; split <;> omega
theorem dadd_inf (a b : Int) : dadd a b ≤ INF := by unfold dadd; split <;> omega

/-- The length told for a vertex. -/
def dg (d : List Int) (v : Nat) : Int := d.getD v INF
theorem dg_eq {d : List Int} {v : Nat} (h : v < d.length) : dg d v = d[v] := by simp [dg, List.getD_eq_getElem?_getD, h]
theorem dg_at {d : List Int} {v : Nat} (h : v < d.length) : d[v]? = some (dg d v) := by rw [dg_eq h]; exact List.getElem?_eq_getElem h
theorem dg_set {d : List Int} {u : Nat} (h : u < d.length) (x : Int) (v : Nat) : dg (d.set u x) v = if u = v then x else dg d v := by
  unfold dg; rw [List.getD_eq_getElem?_getD, List.getD_eq_getElem?_getD, List.getElem?_set]
  split
  · rename_i e; subst e; simp [h]
  · rfl

/-- A walk over the arcs that may be gone. -/
inductive Wk (e : List Arc) (p : Nat → Bool) (s : Nat) : Nat → Int → Prop
  | nil : Wk e p s s 0
  | step {n : Int} {i : Nat} (hi : i < e.length) (hp : p i = true) (h : Wk e p s e[i].src.toNat n) : Wk e p s e[i].dst.toNat (n + e[i].wt)
theorem Wk.trans {e : List Arc} {p : Nat → Bool} {s u v : Nat} {n m : Int} (h : Wk e p s u n) (k : Wk e p u v m) : Wk e p s v (n + m) := by
  induction k with
  | nil => simpa using h
  | step hi hp _ ih => have := Wk.step hi hp ih; rwa [Int.add_assoc] at this
theorem Wk.one {e : List Arc} {p : Nat → Bool} {i : Nat} (hi : i < e.length) (hp : p i = true) : Wk e p e[i].src.toNat e[i].dst.toNat e[i].wt := by
  have := Wk.step hi hp (Wk.nil (e := e) (p := p)); rwa [Int.zero_add] at this
theorem Wk.nonneg {e : List Arc} {p : Nat → Bool} {s v : Nat} {n : Int} (hw : ∀ x ∈ e, 0 ≤ x.wt) (h : Wk e p s v n) : 0 ≤ n := by
  induction h with
  | nil => exact Int.le_refl _
  | step hi _ _ ih => have := hw _ (List.getElem_mem hi); omega

/-- The distances from s. -/
structure IsD (N : Nat) (e : List Arc) (p : Nat → Bool) (s : Nat) (d : List Int) : Prop where
  len : d.length = N
  rng : ∀ v, v < N → 0 ≤ dg d v ∧ dg d v ≤ INF
  zero : dg d s = 0
  arcs : ∀ i (h : i < e.length), p i = true → dg d e[i].dst.toNat ≤ dg d e[i].src.toNat + e[i].wt
  walk : ∀ v, v < N → dg d v < INF → Wk e p s v (dg d v)
theorem IsD.le {N : Nat} {e : List Arc} {p : Nat → Bool} {s : Nat} {d : List Int} (h : IsD N e p s d) {v : Nat} {n : Int} (hw : Wk e p s v n) : dg d v ≤ n := by
  induction hw with
  | nil => rw [h.zero]; exact Int.le_refl _
  | step hi hp _ ih => have := h.arcs _ hi hp; omega
theorem IsD.unique {N : Nat} {e : List Arc} {p : Nat → Bool} {s : Nat} {d d' : List Int} (h : IsD N e p s d) (h' : IsD N e p s d') : d = d' := by
  have key : ∀ {d d' : List Int}, IsD N e p s d → IsD N e p s d' → ∀ v, v < N → dg d v ≤ dg d' v := fun {d d'} h h' v hv => by
    by_cases hlt : dg d' v < INF
    · exact h.le (h'.walk v hv hlt)
    · have := (h.rng v hv).2; have := (h'.rng v hv).2; omega
  refine List.ext_getElem (h.len.trans h'.len.symm) fun v h1 h2 => ?_
  have hv : v < N := by rw [← h.len]; exact h1
  rw [← dg_eq h1, ← dg_eq h2]
  have a := key h h' v hv
  have b := key h' h v hv
  omega

/-! ### the search -/
/-- What stands in the search's lists; the vertices that have been taken, newest first; the arcs that have been gone over. -/
structure SS (N : Nat) (e : List Arc) (p : Nat → Bool) (s : Nat) (d by_ : List Int) (T : List (Option Int)) (o : List Nat) (R : Nat → Prop) : Prop where
  ld : d.length = N
  lb : by_.length = N
  lt : T.length = N
  rng : ∀ v, v < N → 0 ≤ dg d v ∧ dg d v ≤ INF
  zero : dg d s = 0
  walk : ∀ v, v < N → dg d v < INF → Wk e p s v (dg d v)
  key : ∀ (v : Nat) (x : Int), T[v]? = some (some x) → dg d v = x ∧ x < INF
  nd : o.Nodup
  ord : ∀ v, v ∈ o ↔ (v < N ∧ dg d v < INF ∧ T[v]? = some none)
  rel : ∀ i (h : i < e.length), p i = true → R i → dg d e[i].dst.toNat ≤ dg d e[i].src.toNat + e[i].wt
  mono : ∀ u, u ∈ o → ∀ (v : Nat) (x : Int), T[v]? = some (some x) → dg d u ≤ x
  by1 : ∀ v, v < N → v ∉ o → v ≠ s → dg d v < INF → ∃ (i : Nat) (h : i < e.length), by_[v]? = some (i : Int) ∧ p i = true ∧ e[i].dst.toNat = v ∧ e[i].src.toNat ∈ o ∧ dg d v = dg d e[i].src.toNat + e[i].wt
  by2 : ∀ (o1 : List Nat) (v : Nat) (o2 : List Nat), o = o1 ++ v :: o2 → v ≠ s → ∃ (i : Nat) (h : i < e.length), by_[v]? = some (i : Int) ∧ p i = true ∧ e[i].dst.toNat = v ∧ e[i].src.toNat ∈ o2 ∧ dg d v = dg d e[i].src.toNat + e[i].wt

variable {N : Nat} {e : List Arc} {p : Nat → Bool} {s : Nat} {d by_ : List Int} {T : List (Option Int)} {o : List Nat} {R : Nat → Prop}

theorem SS.begin (hs : s < N) : SS N e p s ((List.replicate N INF).set s 0) (List.replicate N (-1)) ((List.replicate N none).set s (some 0)) [] (fun _ => False) := by
  have hl : s < (List.replicate N INF).length := by simpa using hs
  have G : ∀ v, v < N → dg ((List.replicate N INF).set s 0) v = if s = v then 0 else INF := fun v hv => by
    rw [dg_set hl]; split
    · rfl
    · rw [dg_eq (by simpa using hv)]; simp
  have hI : (0 : Int) < INF := by decide
  refine ⟨by simp, by simp, by simp, fun v hv => ?_, by rw [G s hs, if_pos rfl], fun v hv hlt => ?_, fun v x hx => ?_, List.nodup_nil, fun v => ?_, fun _ _ _ h => h.elim, fun u hu => by simp at hu, fun v hv _ hne hlt => ?_, fun o1 v o2 h => by simp at h⟩
  · rw [G v hv]; split <;> omega
  · rw [G v hv] at hlt ⊢
    split at hlt
    · rename_i h; subst h; rw [if_pos rfl]; exact .nil
    · omega
  · rw [List.getElem?_set] at hx
    split at hx
    · rename_i h; subst h
      split at hx
      · rw [G s hs, if_pos rfl]
        have := Option.some.inj (Option.some.inj hx)
        exact ⟨this, by omega⟩
      · cases hx
    · rw [List.getElem?_replicate] at hx; split at hx <;> cases hx
  · constructor
    · intro h; simp at h
    · rintro ⟨hv, hlt, hx⟩
      rw [G v hv] at hlt
      split at hlt
      · rename_i h; subst h; rw [List.getElem?_set_self (by simpa using hs)] at hx; simp at hx
      · omega
  · rw [G v hv, if_neg (fun h => hne h.symm)] at hlt; omega

/-- The next vertex is taken. -/
theorem SS.pop (h : SS N e p s d by_ T o R) {v : Nat} {a : Int} (ht : topR T = some (v, a)) :
    SS N e p s d by_ (T.set v none) (v :: o) R ∧ v < N ∧ v ∉ o ∧ dg d v = a ∧ a < INF ∧ (∀ u, u ∈ v :: o → dg d u ≤ a) ∧ (∀ (u : Nat) (x : Int), (T.set v none)[u]? = some (some x) → a ≤ x) ∧ ∀ (u : Nat) (x : Int), T[u]? = some (some x) → a ≤ x := by
  obtain ⟨hv, hmin⟩ := topR_some ht
  obtain ⟨hd, ha⟩ := h.key v a hv
  have hvN : v < N := by rw [← h.lt]; exact (List.getElem?_eq_some_iff.1 hv).1
  have hvo : v ∉ o := fun hm => by have := ((h.ord v).1 hm).2.2; rw [hv] at this; simp at this
  have hle : ∀ (u : Nat) (x : Int), T[u]? = some (some x) → a ≤ x := fun u x hu => by
    have := hmin u x hu; unfold ele elt at this; dsimp only at this; omega
  have hT : ∀ (u : Nat) (x : Int), (T.set v none)[u]? = some (some x) → u ≠ v ∧ T[u]? = some (some x) := fun u x hu => by
    rw [List.getElem?_set] at hu
    split at hu
    · split at hu <;> simp at hu
    · rename_i hne; exact ⟨fun e => hne e.symm, hu⟩
  have hoa : ∀ u, u ∈ v :: o → dg d u ≤ a := fun u hu => by
    rcases List.mem_cons.1 hu with rfl | hu
    · omega
    · exact h.mono u hu v a hv
  refine ⟨⟨h.ld, h.lb, by simpa using h.lt, h.rng, h.zero, h.walk, fun u x hu => h.key u x (hT u x hu).2, List.nodup_cons.2 ⟨hvo, h.nd⟩, fun u => ?_, h.rel, fun u hu w x hx => ?_, fun u hu huo hne hlt => ?_, fun o1 u o2 ho hne => ?_⟩, hvN, hvo, hd, ha, hoa, fun u x hu => hle u x (hT u x hu).2, hle⟩
  · rw [List.mem_cons, List.getElem?_set]
    by_cases e1 : v = u
    · subst e1
      constructor
      · intro _; exact ⟨hvN, by omega, by rw [if_pos rfl, if_pos (by rw [h.lt]; exact hvN)]⟩
      · intro _; exact .inl rfl
    · rw [if_neg e1]
      constructor
      · rintro (h' | h')
        · exact absurd h'.symm e1
        · exact (h.ord u).1 h'
      · intro h'; exact .inr ((h.ord u).2 h')
  · exact Int.le_trans (hoa u hu) (hle w x (hT w x hx).2)
  · have hno : u ∉ o := fun h' => huo (List.mem_cons_of_mem _ h')
    obtain ⟨i, hi, h1, h2, h3, h4, h5⟩ := h.by1 u hu hno hne hlt
    exact ⟨i, hi, h1, h2, h3, List.mem_cons_of_mem _ h4, h5⟩
  · cases o1 with
    | nil =>
      obtain ⟨rfl, rfl⟩ := List.cons.inj ho
      exact h.by1 v hvN hvo hne (by omega)
    | cons w o1 =>
      obtain ⟨rfl, ho'⟩ := List.cons.inj ho
      exact h.by2 o1 u o2 ho' hne

/-- An arc is gone over, and leads nowhere nearer. -/
theorem SS.skip (h : SS N e p s d by_ T o R) {i : Nat} (hi : i < e.length) (hn : p i = true → dg d e[i].dst.toNat ≤ dg d e[i].src.toNat + e[i].wt) : SS N e p s d by_ T o (fun j => R j ∨ j = i) :=
  { h with
    rel := fun j hj hp hr => by
      rcases hr with hr | rfl
      · exact h.rel j hj hp hr
      · exact hn hp }
theorem SS.weaken (h : SS N e p s d by_ T o R) {R' : Nat → Prop} (hR : ∀ j, R' j → R j) : SS N e p s d by_ T o R' := { h with rel := fun j hj hp hr => h.rel j hj hp (hR j hr) }

/-- An arc is gone over, and leads nearer. -/
theorem SS.relax (h : SS N e p s d by_ T o R) (hwt : ∀ x ∈ e, 0 ≤ x.wt) (hdst : ∀ i (h : i < e.length), e[i].dst.toNat < N) {i : Nat} (hi : i < e.length) (hp : p i = true) {a n : Int} (hso : e[i].src.toNat ∈ o) (ha : dg d e[i].src.toNat = a) (hoa : ∀ u, u ∈ o → dg d u ≤ a)
    (hRo : ∀ j (h : j < e.length), R j → e[j].src.toNat ∈ o) (hTa : ∀ (u : Nat) (x : Int), T[u]? = some (some x) → a ≤ x) (hn : n = a + e[i].wt) (hlt : n < dg d e[i].dst.toNat) :
    SS N e p s (d.set e[i].dst.toNat n) (by_.set e[i].dst.toNat (i : Int)) (T.set e[i].dst.toNat (some n)) o (fun j => R j ∨ j = i) ∧ (∀ (u : Nat) (x : Int), (T.set e[i].dst.toNat (some n))[u]? = some (some x) → a ≤ x) ∧ e[i].dst.toNat ∉ o ∧ (lowerR T (e[i].dst.toNat : Int) n).1 = T.set e[i].dst.toNat (some n) := by
  have hu := hdst i hi
  generalize hud : e[i].dst.toNat = u at *
  have hw := hwt _ (List.getElem_mem hi)
  have hul : u < d.length := by rw [h.ld]; exact hu
  have huT : u < T.length := by rw [h.lt]; exact hu
  have hub : u < by_.length := by rw [h.lb]; exact hu
  have huo : u ∉ o := fun hm => by have := hoa u hm; omega
  have G := dg_set hul n
  have hune : ∀ w, w ∈ o → u ≠ w := fun w hw' e' => huo (e' ▸ hw')
  have hrg := h.rng u hu
  have ha0 : 0 ≤ a := by
    have hsN := ((h.ord _).1 hso).1
    have := (h.rng _ hsN).1; omega
  have hT : ∀ (w : Nat) (x : Int), (T.set u (some n))[w]? = some (some x) → (w = u ∧ x = n) ∨ (w ≠ u ∧ T[w]? = some (some x)) := fun w x hx => by
    rw [List.getElem?_set] at hx
    split at hx
    · rename_i e'; exact .inl ⟨e'.symm, (Option.some.inj (Option.some.inj hx)).symm⟩
    · rename_i e'; exact .inr ⟨fun e'' => e' e''.symm, hx⟩
  refine ⟨⟨by simpa using h.ld, by simpa using h.lb, by simpa using h.lt, fun v hv => ?_, ?_, fun v hv hvl => ?_, fun v x hx => ?_, h.nd, fun v => ?_, fun j hj hpj hr => ?_, fun w hw' v x hx => ?_, fun v hv hvo hne hvl => ?_, fun o1 v o2 ho hne => ?_⟩, fun w x hx => ?_, huo, ?_⟩
  · rw [G v]; split
    · omega
    · exact h.rng v hv
  · rw [G s, if_neg (fun e' => by rw [e'] at hlt; rw [h.zero] at hlt; omega)]; exact h.zero
  · rw [G v] at hvl ⊢
    split
    · rename_i e'; subst e'
      have hsw := h.walk _ ((h.ord _).1 hso).1 ((h.ord _).1 hso).2.1
      have := Wk.step hi hp hsw
      rw [hud, ha, ← hn] at this; exact this
    · rename_i e'; rw [if_neg e'] at hvl; exact h.walk v hv hvl
  · rcases hT v x hx with ⟨rfl, rfl⟩ | ⟨hne, hx'⟩
    · exact ⟨by rw [G v, if_pos rfl], by omega⟩
    · rw [G v, if_neg (fun e' => hne e'.symm)]; exact h.key v x hx'
  · rw [G v, List.getElem?_set]
    by_cases e' : u = v
    · subst e'
      constructor
      · intro hm; exact absurd hm huo
      · rintro ⟨_, _, hx⟩; rw [if_pos rfl, if_pos huT] at hx; simp at hx
    · rw [if_neg e', if_neg e']; exact h.ord v
  · rcases hr with hr | rfl
    · have hsj := hRo j hj hr
      rw [G e[j].dst.toNat, G e[j].src.toNat, if_neg (hune _ hsj)]
      have := h.rel j hj hpj hr
      split
      · rename_i e'; rw [← e'] at this; omega
      · exact this
    · rw [G e[j].dst.toNat, G e[j].src.toNat, if_neg (hune _ hso), if_pos hud.symm, ha, hn]; exact Int.le_refl _
  · rw [G w, if_neg (hune w hw')]
    rcases hT v x hx with ⟨rfl, rfl⟩ | ⟨hne, hx'⟩
    · have := hoa w hw'; omega
    · exact h.mono w hw' v x hx'
  · rw [G v] at hvl ⊢
    by_cases e' : u = v
    · subst e'
      rw [if_pos rfl] at hvl ⊢
      refine ⟨i, hi, by rw [List.getElem?_set_self hub], hp, hud, hso, ?_⟩
      rw [G e[i].src.toNat, if_neg (hune _ hso), ha, hn]
    · rw [if_neg e'] at hvl ⊢
      obtain ⟨j, hj, h1, h2, h3, h4, h5⟩ := h.by1 v hv hvo hne hvl
      exact ⟨j, hj, by rw [List.getElem?_set_ne e']; exact h1, h2, h3, h4, by rw [G e[j].src.toNat, if_neg (hune _ h4)]; exact h5⟩
  · obtain ⟨j, hj, h1, h2, h3, h4, h5⟩ := h.by2 o1 v o2 ho hne
    have hvo : v ∈ o := by rw [ho]; simp
    have h4o : e[j].src.toNat ∈ o := by rw [ho]; simp [h4]
    exact ⟨j, hj, by rw [List.getElem?_set_ne (hune v hvo)]; exact h1, h2, h3, h4, by rw [G v, if_neg (hune v hvo), G e[j].src.toNat, if_neg (hune _ h4o)]; exact h5⟩
  · rcases hT w x hx with ⟨rfl, rfl⟩ | ⟨hne, hx'⟩
    · omega
    · exact hTa w x hx'
  · cases hTu : T[u]? with
    | none => rw [List.getElem?_eq_getElem huT] at hTu; cases hTu
    | some ov =>
      cases ov with
      | none => unfold lowerR; rw [if_pos (by omega), Int.toNat_natCast, hTu]
      | some x =>
        have := (h.key u x hTu).1
        unfold lowerR; rw [if_pos (by omega), Int.toNat_natCast, hTu]
        simp only
        rw [if_neg (by omega)]

/-- All has been gone over. -/
theorem SS.done (h : SS N e p s d by_ T o (fun i => ∃ h : i < e.length, e[i].src.toNat ∈ o)) (ht : topR T = none) (hsrc : ∀ i (h : i < e.length), e[i].src.toNat < N) (hdst : ∀ i (h : i < e.length), e[i].dst.toNat < N) (hwt : ∀ x ∈ e, 0 ≤ x.wt) : IsD N e p s d := by
  have h0 := topFrom_none ht
  unfold tcount at h0
  rw [List.countP_eq_zero] at h0
  refine ⟨h.ld, h.rng, h.zero, fun i hi hp => ?_, h.walk⟩
  have hsN := hsrc i hi
  by_cases hlt : dg d e[i].src.toNat < INF
  · refine h.rel i hi hp ⟨hi, (h.ord _).2 ⟨hsN, hlt, ?_⟩⟩
    have hTl : e[i].src.toNat < T.length := by rw [h.lt]; exact hsN
    rw [List.getElem?_eq_getElem hTl]
    have := h0 _ (List.getElem_mem hTl)
    cases hx : T[e[i].src.toNat] with
    | none => rfl
    | some x => rw [hx] at this; simp at this
  · have := (h.rng _ (hdst i hi)).2
    have := hwt _ (List.getElem_mem hi)
    omega

/-- What lies nearer than all that wait has been taken. -/
theorem SS.near (h : SS N e p s d by_ T o (fun i => ∃ h : i < e.length, e[i].src.toNat ∈ o)) (hdst : ∀ i (h : i < e.length), e[i].dst.toNat < N) (hwt : ∀ x ∈ e, 0 ≤ x.wt) (hs : s < N) {a : Int} (hTa : ∀ (u : Nat) (x : Int), T[u]? = some (some x) → a ≤ x) (ha : a ≤ INF) {v : Nat} {n : Int} (hw : Wk e p s v n) (hn : n < a) :
    v ∈ o ∧ dg d v ≤ n := by
  have settle : ∀ {u : Nat} {m : Int}, u < N → dg d u ≤ m → m < a → u ∈ o := fun {u m} hu hd hm => by
    refine (h.ord u).2 ⟨hu, by omega, ?_⟩
    have hTl : u < T.length := by rw [h.lt]; exact hu
    rw [List.getElem?_eq_getElem hTl]
    cases hx : T[u] with
    | none => rfl
    | some x =>
      have hx' : T[u]? = some (some x) := by rw [List.getElem?_eq_getElem hTl, hx]
      have := hTa u x hx'
      have := (h.key u x hx').1
      omega
  induction hw with
  | nil => exact ⟨settle hs (by rw [h.zero]; exact Int.le_refl _) hn, by rw [h.zero]; exact Int.le_refl _⟩
  | step hi hp hk ih =>
    have h0 := hwt _ (List.getElem_mem hi)
    obtain ⟨h1, h2⟩ := ih (by omega)
    have := h.rel _ hi hp ⟨hi, h1⟩
    exact ⟨settle (hdst _ hi) (by omega) hn, by omega⟩

/-- Both ways. -/
def trn (b : Bool) (x : Arc) : Arc := if b then ⟨x.dst, x.src, x.wt⟩ else x
def rowOf (e : List Arc) (v : Nat) : List Int := idxs (fun x => decide (x.src.toNat = v)) e
def rowsOf (n : Nat) (e : List Arc) : List (List Int) := (List.range n).map (rowOf e)
theorem rowsOf_len (n : Nat) (e : List Arc) : (rowsOf n e).length = n := by simp [rowsOf]
theorem rowsOf_get {n : Nat} {e : List Arc} {v : Nat} (h : v < (rowsOf n e).length) : (rowsOf n e)[v] = rowOf e v := by simp [rowsOf]
theorem rowsOf_nil (n : Nat) : rowsOf n [] = List.replicate n [] := List.ext_getElem (by simp [rowsOf]) fun v h1 h2 => by rw [rowsOf_get]; simp [rowOf, idxs]
theorem rowsOf_next {n k v : Nat} {e : List Arc} (hk : k < e.length) (hv : e[k].src.toNat = v) : (rowsOf n (e.take k)).set v (rowOf (e.take k) v ++ [(k : Int)]) = rowsOf n (e.take (k + 1)) := by
  refine List.ext_getElem (by simp [rowsOf]) fun w h1 h2 => ?_
  rw [List.getElem_set, rowsOf_get, rowsOf_get]
  split
  · rename_i e'; subst e'; unfold rowOf; rw [idxs_yes hk (by simp [hv])]
  · rename_i e'; unfold rowOf; rw [idxs_no hk (by simp [hv, e'])]
theorem rowOf_len (e : List Arc) (v k : Nat) : (rowOf (e.take k) v).length ≤ k := by
  unfold rowOf; rw [idxs_length]; exact Nat.le_trans List.countP_le_length (List.length_take_le _ _)
theorem rowOf_at {e : List Arc} {v j : Nat} (h : j < (rowOf e v).length) : ∃ (i : Nat) (hi : i < e.length), (rowOf e v)[j] = (i : Int) ∧ e[i].src.toNat = v := by
  obtain ⟨i, hi, e1, e2⟩ := idxs_mem (List.getElem_mem h)
  exact ⟨i, hi, e1, by simpa using e2⟩
theorem rowOf_mem {e : List Arc} {i : Nat} (hi : i < e.length) : (i : Int) ∈ rowOf e e[i].src.toNat := by
  unfold rowOf idxs
  rw [List.mem_map]
  refine ⟨(e[i], i), List.mem_filter.2 ⟨List.mem_zipIdx_iff_getElem?.2 (by simp [hi]), by simp⟩, rfl⟩
/-- How many have not been taken. -/
def free (n : Nat) (o : List Nat) : Nat := (List.range n).countP (fun u => decide (u ∉ o))
theorem count_more (v : Nat) (o : List Nat) : ∀ L : List Nat, L.countP (fun u => decide (u ∉ v :: o)) ≤ L.countP (fun u => decide (u ∉ o)) := fun L =>
  List.countP_mono_left fun u _ h => by simp at h ⊢; exact h.2
theorem free_cons {n v : Nat} {o : List Nat} (hv : v < n) (ho : v ∉ o) : free n (v :: o) < free n o := by
  have key : ∀ L : List Nat, v ∈ L → L.countP (fun u => decide (u ∉ v :: o)) < L.countP (fun u => decide (u ∉ o)) := by
    intro L
    induction L with
    | nil => intro h; simp at h
    | cons x L ih =>
      intro h
      have hm := count_more v o L
      rw [List.countP_cons, List.countP_cons]
      rcases List.mem_cons.1 h with rfl | h
      · rw [if_neg (by simp), if_pos (by simpa using ho)]; omega
      · have := ih h
        by_cases hx : x ∈ v :: o
        · rw [if_neg (by simp only [decide_eq_true_eq]; exact fun h => h hx)]; split <;> omega
        · rw [if_pos (by simpa using hx), if_pos (by simp at hx ⊢; exact hx.2)]; omega
  exact key _ (by simpa using hv)
end Go.Proofs.Ytlllpmafhnfihaa
