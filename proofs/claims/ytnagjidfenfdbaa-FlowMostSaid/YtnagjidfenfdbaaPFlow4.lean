/- The document's flows: what is reached, pushing back along it, values. Plain laws. -/
import Derived.Test.YtnagjidfenfdbaaPFlow3

namespace Go.Proofs.Ytnagjidfenfdbaa
open Go Fly
set_option linter.unusedVariables false
set_option linter.unusedSimpArgs false

variable {n : Nat} {e : List Arc} {s t : Nat} {f : List Int} {V : Int}
/-- What is reached so far: the nodes seen, by which edge, and how late. -/
structure Rch (n : Nat) (e : List Arc) (s : Nat) (f : List Int) (sd : List Bool) (by_ : List Int) (q : List Nat) (P : Nat → Prop) : Prop where
  ls : sd.length = n
  lb : by_.length = n
  s0 : sd.getD s false = true
  nd : q.Nodup
  mem : ∀ v, v < n → (v ∈ q ↔ sd.getD v false = true)
  lt : ∀ v, v ∈ q → v < n
  prev : ∀ v, v < n → sd.getD v false = true → v ≠ s → ∃ (k : Nat) (a b : List Nat), k < 2 * e.length ∧ 0 < kleft e f k ∧ kto e k = v ∧ flAt by_ v = (k : Int) ∧ q = a ++ v :: b ∧ kfrom e k ∈ a
  cl : ∀ k, k < 2 * e.length → 0 < kleft e f k → P k → sd.getD (kto e k) false = true
theorem gd_set (l : List Bool) (i : Nat) (b : Bool) (v : Nat) (h : i < l.length) : (l.set i b).getD v false = if i = v then b else l.getD v false := by
  rw [List.getD_eq_getElem?_getD, List.getElem?_set]
  by_cases e : i = v
  · rw [if_pos e, if_pos h, if_pos e]; rfl
  · rw [if_neg e, if_neg e, ← List.getD_eq_getElem?_getD]
theorem gd_rep (n v : Nat) : (List.replicate n false).getD v false = false := by
  rw [List.getD_eq_getElem?_getD, List.getElem?_replicate]; split <;> rfl
theorem Rch.begin (hs : s < n) : Rch n e s f ((List.replicate n false).set s true) (List.replicate n (-1)) [s] (fun _ => False) := by
  have G : ∀ v, ((List.replicate n false).set s true).getD v false = decide (s = v) := fun v => by
    rw [gd_set _ _ _ _ (by simpa using hs), gd_rep]; split <;> simp_all
  refine ⟨by simp, by simp, by rw [G]; simp, by simp, fun v hv => by rw [G]; simp; exact eq_comm, fun v hv => by simp at hv; subst hv; exact hs, fun v hv h hne => ?_, fun k _ _ h => h.elim⟩
  rw [G] at h; simp at h; exact absurd h.symm hne
theorem Rch.weaken {sd : List Bool} {by_ : List Int} {q : List Nat} {P Q : Nat → Prop} (h : Rch n e s f sd by_ q P) (hq : ∀ k, k < 2 * e.length → Q k → P k) : Rch n e s f sd by_ q Q :=
  ⟨h.ls, h.lb, h.s0, h.nd, h.mem, h.lt, h.prev, fun k hk hl hQ => h.cl k hk hl (hq k hk hQ)⟩
theorem Rch.see {sd : List Bool} {by_ : List Int} {q : List Nat} {P : Nat → Prop} {k : Nat} (h : Rch n e s f sd by_ q P) (he : NetOk n e) (hk : k < 2 * e.length) (hf : kfrom e k ∈ q) (hu : sd.getD (kto e k) false = false) (hl : 0 < kleft e f k) :
    Rch n e s f (sd.set (kto e k) true) (by_.set (kto e k) (k : Int)) (q ++ [kto e k]) (fun j => P j ∨ j = k) := by
  have ht := kto_lt he hk
  have G : ∀ v, (sd.set (kto e k) true).getD v false = if kto e k = v then true else sd.getD v false := fun v => gd_set _ _ _ _ (by rw [h.ls]; exact ht)
  have hB : ∀ v, flAt (by_.set (kto e k) (k : Int)) v = if kto e k = v then (k : Int) else flAt by_ v := fun v => flAt_set (by rw [h.lb]; exact ht) _ v
  have hnq : kto e k ∉ q := fun hm => by rw [(h.mem _ ht).1 hm] at hu; cases hu
  refine ⟨by simpa using h.ls, by simpa using h.lb, ?_, ?_, fun v hv => ?_, fun v hv => ?_, fun v hv hs hne => ?_, fun j hj hjl hP => ?_⟩
  · rw [G]; split
    · rfl
    · exact h.s0
  · rw [List.nodup_append]
    exact ⟨h.nd, by simp, fun a ha b hb e' => by simp at hb; subst hb; subst e'; exact hnq ha⟩
  · rw [G, List.mem_append, List.mem_singleton]
    by_cases e' : kto e k = v
    · rw [if_pos e']; simp [e'.symm]
    · rw [if_neg e', h.mem v hv]; constructor
      · rintro (h1 | h1)
        · exact h1
        · exact absurd h1.symm e'
      · exact .inl
  · rcases List.mem_append.1 hv with hv | hv
    · exact h.lt v hv
    · simp at hv; subst hv; exact ht
  · rw [G] at hs
    by_cases e' : kto e k = v
    · exact ⟨k, q, [], hk, hl, e', by rw [hB, if_pos e'], by rw [e'], hf⟩
    · rw [if_neg e'] at hs
      obtain ⟨j, a, b, h1, h2, h3, h4, h5, h6⟩ := h.prev v hv hs hne
      exact ⟨j, a, b ++ [kto e k], h1, h2, h3, by rw [hB, if_neg e']; exact h4, by rw [h5]; simp, h6⟩
  · rw [G]
    by_cases e' : kto e k = kto e j
    · rw [if_pos e']
    · rw [if_neg e']
      rcases hP with hP | rfl
      · exact h.cl j hj hjl hP
      · exact absurd rfl e'
theorem Rch.skip {sd : List Bool} {by_ : List Int} {q : List Nat} {P : Nat → Prop} {k : Nat} (h : Rch n e s f sd by_ q P) (hn : sd.getD (kto e k) false = true ∨ ¬ 0 < kleft e f k) : Rch n e s f sd by_ q (fun j => P j ∨ j = k) :=
  ⟨h.ls, h.lb, h.s0, h.nd, h.mem, h.lt, h.prev, fun j hj hjl hP => by
    rcases hP with hP | rfl
    · exact h.cl j hj hjl hP
    · rcases hn with h1 | h1
      · exact h1
      · exact absurd hjl h1⟩
/-- All that can be reached is. -/
def Full (e : List Arc) (q : List Nat) : Nat → Prop := fun k => kfrom e k ∈ q
theorem Rch.reach {sd : List Bool} {by_ : List Int} {q : List Nat} {P : Nat → Prop} (h : Rch n e s f sd by_ q P) (he : NetOk n e) : ∀ (m : Nat) (v : Nat), v < n → sd.getD v false = true → (∀ a b, q = a ++ v :: b → a.length ≤ m) → Reach e f s v := by
  intro m
  induction m using Nat.strongRecOn with
  | _ m ih =>
    intro v hv hsd hm
    by_cases hvs : v = s
    · subst hvs; exact .refl
    · obtain ⟨k, a, b, h1, h2, h3, h4, h5, h6⟩ := h.prev v hv hsd hvs
      have hf := kfrom_lt he h1
      obtain ⟨c, d, hcd⟩ := List.append_of_mem h6
      have hmf : kfrom e k ∈ q := by rw [h5]; exact List.mem_append_left _ h6
      have hl : c.length < a.length := by rw [hcd]; simp
      have hu : ∀ a' b', q = a' ++ kfrom e k :: b' → a'.length ≤ c.length := fun a' b' hab => by
        have hnd := h.nd
        have e1 : q = c ++ kfrom e k :: (d ++ v :: b) := by rw [h5, hcd]; simp
        rw [e1] at hab hnd
        rcases Nat.lt_or_ge c.length a'.length with hlt | hge
        · have g1 : (c ++ kfrom e k :: (d ++ v :: b))[c.length]? = some (kfrom e k) := by simp
          have g2 : (c ++ kfrom e k :: (d ++ v :: b))[a'.length]? = some (kfrom e k) := by rw [hab]; simp
          have i1 := (List.getElem?_eq_some_iff.1 g1)
          have i2 := (List.getElem?_eq_some_iff.1 g2)
          obtain ⟨j1, j2⟩ := i1
          obtain ⟨j3, j4⟩ := i2
          exact absurd (j2.trans j4.symm) (List.pairwise_iff_getElem.1 hnd _ _ j1 j3 hlt)
        · exact hge
      have := ih c.length (Nat.lt_of_lt_of_le hl (hm a b h5)) (kfrom e k) hf ((h.mem _ hf).1 hmf) hu
      rw [← h3]; exact .step this h1 h2
theorem Rch.side {sd : List Bool} {by_ : List Int} {q : List Nat} (h : Rch n e s f sd by_ q (Full e q)) (he : NetOk n e) (ht : sd.getD t false = false) : Side n e s t f (fun v => sd.getD v false) where
  src := h.s0
  dst := ht
  shut := fun k hk hl hA => h.cl k hk hl ((h.mem _ (kfrom_lt he hk)).2 hA)
  reach := fun v hv hA => h.reach he q.length v hv hA fun a b hab => by rw [hab]; simp
/-- The way back: each edge is the one by which its end was reached. -/
structure Path (n : Nat) (e : List Arc) (s t : Nat) (f by_ : List Int) (W : List Nat) : Prop where
  way : Way e s t W
  good : ∀ k, k ∈ W → k < 2 * e.length ∧ 0 < kleft e f k ∧ flAt by_ (kto e k) = (k : Int) ∧ kto e k ≠ s
  nd : (W.map (· / 2)).Nodup
theorem Rch.path {sd : List Bool} {by_ : List Int} {q : List Nat} {P : Nat → Prop} (h : Rch n e s f sd by_ q P) (he : NetOk n e) (ht : t < n) (htd : sd.getD t false = true) : ∃ W, Path n e s t f by_ W := by
  -- the ends of the edges behind v come later among what was reached
  have key : ∀ (m : Nat) (v : Nat) (X : List Nat) (a b : List Nat), a.length = m → v < n → sd.getD v false = true → q = a ++ v :: b → Way e v t X → (∀ k, k ∈ X → k < 2 * e.length ∧ 0 < kleft e f k ∧ flAt by_ (kto e k) = (k : Int) ∧ kto e k ≠ s) → (X.map (· / 2)).Nodup → (∀ k, k ∈ X → kto e k ∈ b ∧ kfrom e k ∈ v :: b) → ∃ W, Path n e s t f by_ W := by
    intro m
    induction m using Nat.strongRecOn with
    | _ m ih =>
      intro v X a b ham hv hsd hq hw hg hn hb
      by_cases hvs : v = s
      · subst hvs; exact ⟨X, hw, hg, hn⟩
      · obtain ⟨k, a', b', h1, h2, h3, h4, h5, h6⟩ := h.prev v hv hsd hvs
        have hnd := h.nd
        obtain rfl : a' = a := by
          have e1 : a ++ v :: b = a' ++ v :: b' := hq ▸ h5
          rw [hq] at hnd
          rcases Nat.lt_trichotomy a.length a'.length with hlt | heq | hgt
          · have g1 : (a ++ v :: b)[a.length]? = some v := by simp
            have g2 : (a ++ v :: b)[a'.length]? = some v := by rw [e1]; simp
            obtain ⟨j1, j2⟩ := List.getElem?_eq_some_iff.1 g1
            obtain ⟨j3, j4⟩ := List.getElem?_eq_some_iff.1 g2
            exact absurd (j2.trans j4.symm) (List.pairwise_iff_getElem.1 hnd _ _ j1 j3 hlt)
          · exact ((List.append_inj e1 heq).1).symm
          · have g1 : (a ++ v :: b)[a.length]? = some v := by simp
            have g2 : (a ++ v :: b)[a'.length]? = some v := by rw [e1]; simp
            obtain ⟨j1, j2⟩ := List.getElem?_eq_some_iff.1 g1
            obtain ⟨j3, j4⟩ := List.getElem?_eq_some_iff.1 g2
            exact absurd (j4.trans j2.symm) (List.pairwise_iff_getElem.1 hnd _ _ j3 j1 hgt)
        have hf := kfrom_lt he h1
        obtain ⟨c, d, hcd⟩ := List.append_of_mem h6
        have e1 : q = c ++ kfrom e k :: (d ++ v :: b) := by rw [hq, hcd]; simp
        have hndq := h.nd
        have hvb : v ∉ b := fun hm => by
          rw [hq] at hndq
          exact (List.nodup_cons.1 (List.nodup_append.1 hndq).2.1).1 hm
        have hfb : ∀ x, x ∈ v :: b → x ≠ kfrom e k := fun x hx e' => by
          rw [e1] at hndq
          subst e'
          exact (List.nodup_cons.1 (List.nodup_append.1 hndq).2.1).1 (List.mem_append_right _ hx)
        refine ih c.length (by rw [← ham, hcd]; simp) (kfrom e k) (k :: X) c (d ++ v :: b) rfl hf ((h.mem _ hf).1 (by rw [e1]; simp)) e1 ⟨h1, rfl, by rw [h3]; exact hw⟩ (fun j hj => ?_) ?_ (fun j hj => ?_)
        · rcases List.mem_cons.1 hj with rfl | hj
          · exact ⟨h1, h2, by rw [h3]; exact h4, by rw [h3]; exact hvs⟩
          · exact hg j hj
        · rw [List.map_cons, List.nodup_cons]
          refine ⟨fun hm => ?_, hn⟩
          obtain ⟨j, hj, hjk⟩ := List.mem_map.1 hm
          rcases half_eq (e := e) hjk with rfl | ⟨d1, d2⟩
          · exact hvb (h3 ▸ (hb j hj).1)
          · exact hfb (kto e j) (List.mem_cons_of_mem _ (hb j hj).1) d2
        · rcases List.mem_cons.1 hj with rfl | hj
          · exact ⟨by rw [h3]; simp, by simp⟩
          · have := hb j hj
            refine ⟨by simp [this.1], ?_⟩
            have h2 := this.2
            simp only [List.mem_cons, List.mem_append] at h2 ⊢
            rcases h2 with h2 | h2
            · exact .inr (.inr (.inl h2))
            · exact .inr (.inr (.inr h2))
  obtain ⟨a, b, hab⟩ := List.append_of_mem ((h.mem t ht).2 htd)
  exact key a.length t [] a b rfl ht htd hab rfl (by simp) (by simp) (by simp)
/-- The least that is left along a way. -/
def minL (e : List Arc) (f : List Int) : List Nat → Int
  | [] => 4294967295
  | k :: W => min (minL e f W) (kleft e f k)
theorem minL_le {e : List Arc} {f : List Int} : ∀ {W : List Nat} {k : Nat}, k ∈ W → minL e f W ≤ kleft e f k
  | j :: W, k, h => by
    rcases List.mem_cons.1 h with rfl | h
    · exact Int.min_le_right _ _
    · exact Int.le_trans (Int.min_le_left _ _) (minL_le h)
theorem minL_pos {e : List Arc} {f : List Int} : ∀ {W : List Nat}, (∀ k, k ∈ W → 0 < kleft e f k) → 0 < minL e f W ∧ minL e f W ≤ 4294967295
  | [], _ => by simp [minL]
  | k :: W, h => by
    have := minL_pos (W := W) fun j hj => h j (List.mem_cons_of_mem _ hj)
    have := h k (List.mem_cons_self ..)
    simp only [minL]; omega
/-- Pushed from the back. -/
def pushR (f : List Int) (W : List Nat) (d : Int) : List Int := W.foldr (fun k g => fpush g k d) f
theorem pushR_len (f : List Int) (d : Int) : ∀ (W : List Nat), (pushR f W d).length = f.length
  | [] => rfl
  | k :: W => by show (fpush (pushR f W d) k d).length = _; rw [fpush_len, pushR_len f d W]
theorem flAt_pushR {f : List Int} {d : Int} : ∀ {W : List Nat} {i : Nat}, (∀ k, k ∈ W → k / 2 < f.length) → (∀ k, k ∈ W → k / 2 ≠ i) → flAt (pushR f W d) i = flAt f i
  | [], i, _, _ => rfl
  | k :: W, i, hl, hn => by
    show flAt (fpush (pushR f W d) k d) i = _
    rw [flAt_push (by rw [pushR_len]; exact hl k (List.mem_cons_self ..)), if_neg (hn k (List.mem_cons_self ..)), flAt_pushR (fun j hj => hl j (List.mem_cons_of_mem _ hj)) fun j hj => hn j (List.mem_cons_of_mem _ hj)]
theorem pushR_left {e : List Arc} {f : List Int} {d : Int} {k : Nat} {X : List Nat} (hl : ∀ j, j ∈ X → j / 2 < f.length) (hn : ∀ j, j ∈ X → j / 2 ≠ k / 2) : kleft e (pushR f X d) k = kleft e f k := by
  unfold kleft; rw [flAt_pushR hl hn]
theorem net_pushR {e : List Arc} {f : List Int} {d : Int} (h : e.length = f.length) : ∀ {W : List Nat} {u t : Nat}, Way e u t W → ∀ v, net e (pushR f W d) v = net e f v + ((if u = v then d else 0) - (if t = v then d else 0))
  | [], u, t, hw, v => by have : u = t := hw; subst this; simp [pushR]
  | k :: W, u, t, ⟨h1, h2, h3⟩, v => by
    show net e (fpush (pushR f W d) k d) v = _
    rw [net_push d v (by rw [pushR_len]; exact h) h1, net_pushR h h3 v, h2]; omega
theorem fits_pushR {e : List Arc} {f : List Int} {d : Int} (hf : Fits e f) (h0 : 0 ≤ d) : ∀ {W : List Nat}, (W.map (· / 2)).Nodup → (∀ k, k ∈ W → k < 2 * e.length ∧ d ≤ kleft e f k) → Fits e (pushR f W d)
  | [], _, _ => hf
  | k :: W, hn, hk => by
    rw [List.map_cons, List.nodup_cons] at hn
    have hkk := hk k (List.mem_cons_self ..)
    have ih := fits_pushR hf h0 hn.2 fun j hj => hk j (List.mem_cons_of_mem _ hj)
    show Fits e (fpush (pushR f W d) k d)
    refine ih.push hkk.1 h0 ?_
    rw [pushR_left (fun j hj => by have := (hk j (List.mem_cons_of_mem _ hj)).1; have := hf.len; omega) fun j hj e' => hn.1 (e' ▸ List.mem_map.2 ⟨j, hj, rfl⟩)]
    exact hkk.2
theorem Flow.pushR {W : List Nat} {by_ : List Int} (h : Flow n e s t f V) (hp : Path n e s t f by_ W) : Flow n e s t (pushR f W (minL e f W)) (V + minL e f W) := by
  have hm := minL_pos fun k hk => (hp.good k hk).2.1
  refine ⟨fits_pushR h.fits (by omega) hp.nd fun k hk => ⟨(hp.good k hk).1, minL_le hk⟩, fun v hv => ?_⟩
  rw [net_pushR h.fits.len.symm hp.way v, h.cons v hv]
  split <;> split <;> omega
/-- What flows out, what flows in. -/
def outS : List Arc → List Int → Nat → Int
  | x :: e, y :: f, v => (if x.src.toNat = v then y else 0) + outS e f v
  | _, _, _ => 0
def inS : List Arc → List Int → Nat → Int
  | x :: e, y :: f, v => (if x.dst.toNat = v then y else 0) + inS e f v
  | _, _, _ => 0
theorem net_eq : ∀ (e : List Arc) (f : List Int) (v : Nat), net e f v = outS e f v - inS e f v
  | [], _, _ => by simp [net, outS, inS]
  | x :: e, [], _ => by simp [net, outS, inS]
  | x :: e, y :: f, v => by simp only [net, outS, inS, net_eq e f v]; omega
theorem outS_next : ∀ {e : List Arc} {f : List Int} {i : Nat} (v : Nat), e.length = f.length → i < e.length → outS (e.take (i + 1)) (f.take (i + 1)) v = outS (e.take i) (f.take i) v + (if (arcAt e i).src.toNat = v then flAt f i else 0)
  | [], _, _, _, _, h => by simp at h
  | x :: e, [], _, _, h, _ => by simp at h
  | x :: e, y :: f, 0, v, _, _ => by simp [outS, arcAt, flAt]
  | x :: e, y :: f, i + 1, v, h, hi => by
    have := outS_next (e := e) (f := f) (i := i) v (by simpa using h) (by simpa using hi)
    simp only [List.take_succ_cons, outS] at this ⊢
    rw [this]
    have ea : arcAt (x :: e) (i + 1) = arcAt e i := by simp [arcAt]
    have ef : flAt (y :: f) (i + 1) = flAt f i := by simp [flAt]
    rw [ea, ef]; omega
theorem inS_next : ∀ {e : List Arc} {f : List Int} {i : Nat} (v : Nat), e.length = f.length → i < e.length → inS (e.take (i + 1)) (f.take (i + 1)) v = inS (e.take i) (f.take i) v + (if (arcAt e i).dst.toNat = v then flAt f i else 0)
  | [], _, _, _, _, h => by simp at h
  | x :: e, [], _, _, h, _ => by simp at h
  | x :: e, y :: f, 0, v, _, _ => by simp [inS, arcAt, flAt]
  | x :: e, y :: f, i + 1, v, h, hi => by
    have := inS_next (e := e) (f := f) (i := i) v (by simpa using h) (by simpa using hi)
    simp only [List.take_succ_cons, inS] at this ⊢
    rw [this]
    have ea : arcAt (x :: e) (i + 1) = arcAt e i := by simp [arcAt]
    have ef : flAt (y :: f) (i + 1) = flAt f i := by simp [flAt]
    rw [ea, ef]; omega
theorem sums_bound : ∀ (e : List Arc) (f : List Int) (v : Nat), (∀ i, i < f.length → 0 ≤ flAt f i ∧ flAt f i ≤ 4294967295) → 0 ≤ outS e f v ∧ outS e f v ≤ f.length * 4294967295 ∧ 0 ≤ inS e f v ∧ inS e f v ≤ f.length * 4294967295
  | [], f, v, _ => by simp [outS, inS]; omega
  | x :: e, [], v, _ => by simp [outS, inS]
  | x :: e, y :: f, v, h => by
    have ih := sums_bound e f v fun i hi => by have := h (i + 1) (by simpa using hi); simpa [flAt] using this
    have h0 := h 0 (by simp)
    simp [flAt] at h0
    simp only [outS, inS, List.length_cons]
    rw [show ((f.length + 1 : Nat) : Int) * 4294967295 = f.length * 4294967295 + 4294967295 by rw [Int.natCast_add, Int.add_mul]; simp]
    split <;> split <;> omega
end Go.Proofs.Ytnagjidfenfdbaa
