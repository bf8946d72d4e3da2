/- Walks that are told arc by arc; lists turned about. Plain laws. -/
import Derived.Test.YtlllpmafhnfihaaPNear3

namespace Go.Proofs.Ytlllpmafhnfihaa
open Go Fly
set_option linter.unusedVariables false
set_option linter.unusedSimpArgs false

/-- The arcs lead from u to t. -/
def Chain (e : List Arc) : Nat → Nat → List Nat → Prop
  | u, t, [] => u = t
  | u, t, i :: r => ∃ h : i < e.length, e[i].src.toNat = u ∧ Chain e e[i].dst.toNat t r
def wsum (e : List Arc) : List Nat → Int
  | [] => 0
  | i :: r => (e[i]?.map Arc.wt).getD 0 + wsum e r
theorem wsum_cons {e : List Arc} {i : Nat} (h : i < e.length) (r : List Nat) : wsum e (i :: r) = e[i].wt + wsum e r := by simp [wsum, h]
/-- Where the arcs lead. -/
def heads (e : List Arc) (W : List Nat) : List Nat := W.map (fun i => (e[i]?.map (fun x => x.dst.toNat)).getD 0)
theorem heads_cons {e : List Arc} {i : Nat} (h : i < e.length) (r : List Nat) : heads e (i :: r) = e[i].dst.toNat :: heads e r := by simp [heads, h]
/-- A shortest walk as it is told. -/
structure Told (e : List Arc) (s t : Nat) (W : List Nat) (x : Int) : Prop where
  chain : Chain e s t W
  sum : wsum e W = x
  nd : (heads e W).Nodup
  ns : s ∉ heads e W

theorem free_len {n : Nat} : ∀ {o : List Nat}, o.Nodup → (∀ v, v ∈ o → v < n) → free n o + o.length ≤ n
  | [], _, _ => by unfold free; simp only [List.length_nil, Nat.add_zero]; exact Nat.le_trans List.countP_le_length (by simp)
  | v :: o, h, hv => by
    rw [List.nodup_cons] at h
    have a := free_len h.2 (fun u hu => hv u (List.mem_cons_of_mem _ hu))
    have b := free_cons (hv v (List.mem_cons_self ..)) h.1
    rw [List.length_cons]; omega

/-- As far as the walk has been gone back. -/
structure Back (e : List Arc) (d : List Int) (o : List Nat) (t v : Nat) (W o1 o2 : List Nat) : Prop where
  ho : o = o1 ++ v :: o2
  chain : Chain e v t W
  sum : wsum e W + dg d v = dg d t
  hd : ∀ u, u ∈ heads e W → u ∈ o1
  nd : (heads e W).Nodup
  len : W.length ≤ o1.length
theorem Back.start {e : List Arc} {d : List Int} {o : List Nat} {t : Nat} (ht : t ∈ o) : ∃ o1 o2, Back e d o t t [] o1 o2 := by
  obtain ⟨o1, o2, h⟩ := List.append_of_mem ht
  exact ⟨o1, o2, h, rfl, by simp [wsum], fun u hu => by simp [heads] at hu, by simp [heads], Nat.zero_le _⟩
theorem Back.next {n : Nat} {e : List Arc} {p : Nat → Bool} {s : Nat} {d by_ : List Int} {T : List (Option Int)} {o : List Nat} {R : Nat → Prop} (h : SS n e p s d by_ T o R) {t v : Nat} {W o1 o2 : List Nat} (hb : Back e d o t v W o1 o2) (hne : v ≠ s) :
    ∃ (i : Nat) (hi : i < e.length) (o1' o2' : List Nat), by_[v]? = some (i : Int) ∧ Back e d o t e[i].src.toNat (i :: W) o1' o2' ∧ o2'.length < o2.length := by
  obtain ⟨i, hi, h1, h2, h3, h4, h5⟩ := h.by2 o1 v o2 hb.ho hne
  obtain ⟨a, b, hab⟩ := List.append_of_mem h4
  have hvo : v ∉ o1 := fun hm => by
    have := h.nd; rw [hb.ho] at this
    have := (List.nodup_append.1 this).2.2 v hm v (by simp)
    exact this rfl
  refine ⟨i, hi, o1 ++ v :: a, b, h1, ⟨by rw [hb.ho, hab]; simp, ⟨hi, rfl, by rw [h3]; exact hb.chain⟩, by rw [wsum_cons hi]; have := hb.sum; omega, fun u hu => ?_, ?_, ?_⟩, by rw [hab]; simp; omega⟩
  · rw [heads_cons hi, h3] at hu
    rcases List.mem_cons.1 hu with rfl | hu
    · simp
    · exact List.mem_append_left _ (hb.hd u hu)
  · rw [heads_cons hi, h3, List.nodup_cons]
    exact ⟨fun hm => hvo (hb.hd v hm), hb.nd⟩
  · have := hb.len; rw [List.length_cons, List.length_append, List.length_cons]; omega
theorem Back.told {e : List Arc} {d : List Int} {o : List Nat} {t s : Nat} {W o1 o2 : List Nat} (hb : Back e d o t s W o1 o2) (hnd : o.Nodup) (hz : dg d s = 0) : Told e s t W (dg d t) :=
  ⟨hb.chain, by have := hb.sum; omega, hb.nd, fun hm => by
    rw [hb.ho] at hnd
    exact (List.nodup_append.1 hnd).2.2 s (hb.hd s hm) s (by simp) rfl⟩

/-! ### lists turned about -/
def revTo (l : List Int) (k : Nat) : List Int := (List.range l.length).map (fun x => if x < k ∨ l.length - k ≤ x then l.getD (l.length - 1 - x) 0 else l.getD x 0)
theorem revTo_len (l : List Int) (k : Nat) : (revTo l k).length = l.length := by simp [revTo]
theorem revTo_get {l : List Int} {k x : Nat} (h : x < (revTo l k).length) : (revTo l k)[x] = if x < k ∨ l.length - k ≤ x then l.getD (l.length - 1 - x) 0 else l.getD x 0 := by simp [revTo]
theorem revTo_zero (l : List Int) : revTo l 0 = l := by
  refine List.ext_getElem (revTo_len l 0) fun x h1 h2 => ?_
  rw [revTo_get, if_neg (by omega)]
  simp [List.getD_eq_getElem?_getD, h2]
theorem revTo_next {l : List Int} {k : Nat} (h : 2 * k + 1 < l.length) : ((revTo l k).set k ((revTo l k).getD (l.length - 1 - k) 0)).set (l.length - 1 - k) ((revTo l k).getD k 0) = revTo l (k + 1) := by
  have hg : ∀ x, x < l.length → (revTo l k).getD x 0 = if x < k ∨ l.length - k ≤ x then l.getD (l.length - 1 - x) 0 else l.getD x 0 := fun x hx => by
    rw [List.getD_eq_getElem?_getD, List.getElem?_eq_getElem (by rw [revTo_len]; exact hx), Option.getD_some, revTo_get]
  rw [hg _ (by omega), hg k (by omega), if_neg (by omega), if_neg (by omega)]
  refine List.ext_getElem (by simp [revTo]) fun x h1 h2 => ?_
  have hx : x < l.length := by rw [revTo_len] at h2; exact h2
  rw [List.getElem_set, List.getElem_set, revTo_get, revTo_get]
  by_cases e1 : l.length - 1 - k = x
  · rw [if_pos e1, if_pos (by omega)]; congr 1; omega
  · rw [if_neg e1]
    by_cases e2 : k = x
    · rw [if_pos e2, if_pos (by omega)]; congr 1; omega
    · rw [if_neg e2]
      by_cases e3 : x < k ∨ l.length - k ≤ x
      · rw [if_pos e3, if_pos (by omega)]
      · rw [if_neg e3, if_neg (by omega)]
theorem revTo_all {l : List Int} {k : Nat} (h : l.length ≤ 2 * k + 1) : revTo l k = l.reverse := by
  refine List.ext_getElem (by simp [revTo]) fun x h1 h2 => ?_
  have hx : x < l.length := by rw [revTo_len] at h1; exact h1
  rw [revTo_get, List.getElem_reverse]
  have e : l.getD (l.length - 1 - x) 0 = l[l.length - 1 - x]'(by omega) := by simp [List.getD_eq_getElem?_getD, show l.length - 1 - x < l.length by omega]
  rw [← e]
  split
  · rfl
  · congr 1; omega

/-- Distances that are told are small. -/
theorem SS.small {n : Nat} {e : List Arc} {p : Nat → Bool} {s : Nat} {d by_ : List Int} {T : List (Option Int)} {o : List Nat} {R : Nat → Prop} (h : SS n e p s d by_ T o R) (hw : ∀ x ∈ e, x.wt ≤ 4294967295) :
    ∀ (k : Nat) (o1 : List Nat) (v : Nat) (o2 : List Nat), o2.length = k → o = o1 ++ v :: o2 → dg d v ≤ (k : Int) * 4294967295 := by
  intro k
  induction k using Nat.strongRecOn with
  | _ k ih =>
    intro o1 v o2 hk ho
    by_cases hs : v = s
    · subst hs; rw [h.zero]; omega
    · obtain ⟨i, hi, _, _, _, h4, h5⟩ := h.by2 o1 v o2 ho hs
      obtain ⟨a, b, hab⟩ := List.append_of_mem h4
      have hl : b.length < k := by rw [hab] at hk; simp at hk; omega
      have := ih b.length hl (o1 ++ v :: a) e[i].src.toNat b rfl (by rw [ho, hab]; simp)
      have := hw _ (List.getElem_mem hi)
      omega
theorem SS.bound {n : Nat} {e : List Arc} {p : Nat → Bool} {s : Nat} {d by_ : List Int} {T : List (Option Int)} {o : List Nat} {R : Nat → Prop} (h : SS n e p s d by_ T o R) (hw : ∀ x ∈ e, x.wt ≤ 4294967295) (hn : n ≤ 1024) (ht : topR T = none) : ∀ v, v < n → dg d v < INF → dg d v ≤ 4398046510080 := fun v hv hlt => by
  have hT : T[v]? = some none := by
    have h0 := topFrom_none ht
    unfold tcount at h0
    rw [List.countP_eq_zero] at h0
    have hvl : v < T.length := by rw [h.lt]; exact hv
    have := h0 _ (List.getElem_mem hvl)
    rw [List.getElem?_eq_getElem hvl]
    cases e : T[v] with
    | none => rfl
    | some x => rw [e] at this; simp at this
  have hm := (h.ord v).2 ⟨hv, hlt, hT⟩
  obtain ⟨a, b, hab⟩ := List.append_of_mem hm
  have hb := h.small hw b.length a v b rfl hab
  have hl := free_len h.nd (fun v hv => ((h.ord v).1 hv).1)
  rw [hab] at hl
  simp at hl
  omega
end Go.Proofs.Ytlllpmafhnfihaa
