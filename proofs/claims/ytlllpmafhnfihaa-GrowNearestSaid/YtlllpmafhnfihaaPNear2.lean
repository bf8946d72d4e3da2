/- One step of the search. Plain laws. -/
import Derived.Test.YtlllpmafhnfihaaPNear

namespace Go.Proofs.Ytlllpmafhnfihaa
open Go Fly
set_option linter.unusedVariables false
set_option linter.unusedSimpArgs false

/-- The arcs that have been gone over: those out of the vertices that have been taken. -/
def RF (e : List Arc) (o : List Nat) : Nat → Prop := fun i => ∃ h : i < e.length, e[i].src.toNat ∈ o
/-- A vertex has been taken, and the first j of its arcs have been gone over. -/
structure NX (n : Nat) (e : List Arc) (p : Nat → Bool) (s : Nat) (d0 : List Int) (v : Nat) (a : Int) (o : List Nat) (j : Nat) (d by_ : List Int) (T : List (Option Int)) : Prop where
  ss : SS n e p s d by_ T (v :: o) (fun i => RF e o i ∨ (i : Int) ∈ (rowOf e v).take j)
  ta : ∀ (u : Nat) (x : Int), T[u]? = some (some x) → a ≤ x
  oa : ∀ u, u ∈ v :: o → dg d u ≤ a
  dv : dg d v = a
  le : ∀ u, dg d u ≤ dg d0 u
  ch : ∀ u, dg d u = dg d0 u ∨ ∃ (i : Nat) (h : i < e.length), e[i].src.toNat = v ∧ e[i].dst.toNat = u

variable {n : Nat} {e : List Arc} {p : Nat → Bool} {s : Nat} {d0 d by_ : List Int} {T : List (Option Int)} {o : List Nat} {v j : Nat} {a : Int}

theorem NX.start (h : SS n e p s d0 by_ T o (RF e o)) (ht : topR T = some (v, a)) : NX n e p s d0 v a o 0 d0 by_ (T.set v none) ∧ v < n ∧ v ∉ o ∧ dg d0 v = a ∧ a < INF ∧ 0 ≤ a := by
  obtain ⟨h1, hv, hvo, hd, ha, hoa, hta, _⟩ := h.pop ht
  have := (h.rng v hv).1
  exact ⟨⟨h1.weaken fun i hi => by rcases hi with hi | hi; exact hi; simp at hi, hta, hoa, hd, fun u => Int.le_refl _, fun u => .inl rfl⟩, hv, hvo, hd, ha, by omega⟩
theorem row_mem {i : Nat} (h : (i : Int) ∈ rowOf e v) : ∃ hi : i < e.length, e[i].src.toNat = v := by
  obtain ⟨k, hk, e1, e2⟩ := idxs_mem h
  have : i = k := by omega
  subst this
  exact ⟨hk, by simpa using e2⟩
theorem take_next {i k : Nat} (hj : j < (rowOf e v).length) (hr : (rowOf e v)[j] = (i : Int)) (h : (k : Int) ∈ (rowOf e v).take (j + 1)) : (k : Int) ∈ (rowOf e v).take j ∨ k = i := by
  rw [List.take_succ_eq_append_getElem hj, List.mem_append, List.mem_singleton, hr] at h
  rcases h with h | h
  · exact .inl h
  · exact .inr (by omega)
theorem NX.skip (h : NX n e p s d0 v a o j d by_ T) (hj : j < (rowOf e v).length) {i : Nat} (hi : i < e.length) (hr : (rowOf e v)[j] = (i : Int)) (hsrc : e[i].src.toNat = v) (hn : p i = true → dg d e[i].dst.toNat ≤ a + e[i].wt) : NX n e p s d0 v a o (j + 1) d by_ T :=
  { h with
    ss := (h.ss.skip hi (fun hp => by rw [hsrc, h.dv]; exact hn hp)).weaken fun k hk => by
      rcases hk with hk | hk
      · exact .inl (.inl hk)
      · rcases take_next hj hr hk with hk | hk
        · exact .inl (.inr hk)
        · exact .inr hk }
theorem NX.relax (h : NX n e p s d0 v a o j d by_ T) (hwt : ∀ x ∈ e, 0 ≤ x.wt) (hdst : ∀ i (h : i < e.length), e[i].dst.toNat < n) (hj : j < (rowOf e v).length) {i u : Nat} (hi : i < e.length) (hr : (rowOf e v)[j] = (i : Int)) (hsrc : e[i].src.toNat = v) (hp : p i = true) (hu : e[i].dst.toNat = u) {m : Int} (hm : m = a + e[i].wt) (hlt : m < dg d u) :
    NX n e p s d0 v a o (j + 1) (d.set u m) (by_.set u (i : Int)) (T.set u (some m)) ∧ (lowerR T (u : Int) m).1 = T.set u (some m) := by
  subst hu
  obtain ⟨h1, h2, h3, h4⟩ := h.ss.relax hwt hdst hi hp (by rw [hsrc]; simp) (by rw [hsrc]; exact h.dv) h.oa (fun k hk hR => by
    rcases hR with ⟨_, hR⟩ | hR
    · exact List.mem_cons_of_mem _ hR
    · obtain ⟨_, e1⟩ := row_mem (List.mem_of_mem_take hR)
      rw [e1]; simp) h.ta hm hlt
  have hul : e[i].dst.toNat < d.length := by rw [h.ss.ld]; exact hdst i hi
  have G := dg_set hul m
  refine ⟨⟨h1.weaken fun k hk => ?_, h2, fun w hw => ?_, ?_, fun w => ?_, fun w => ?_⟩, h4⟩
  · rcases hk with hk | hk
    · exact .inl (.inl hk)
    · rcases take_next hj hr hk with hk | hk
      · exact .inl (.inr hk)
      · exact .inr hk
  · rw [G w, if_neg (by rintro rfl; exact h3 hw)]; exact h.oa w hw
  · rw [G v, if_neg (fun e' => h3 (by rw [e']; simp))]; exact h.dv
  · rw [G w]; split
    · rename_i e'; subst e'; have := h.le e[i].dst.toNat; omega
    · exact h.le w
  · rw [G w]; split
    · rename_i e'; subst e'; exact .inr ⟨i, hi, hsrc, rfl⟩
    · exact h.ch w
theorem NX.done (h : NX n e p s d0 v a o j d by_ T) (hj : (rowOf e v).length ≤ j) : SS n e p s d by_ T (v :: o) (RF e (v :: o)) := by
  have e1 : (rowOf e v).take j = rowOf e v := List.take_of_length_le hj
  have h1 := h.ss
  rw [e1] at h1
  refine h1.weaken fun i ⟨hi, hm⟩ => ?_
  rcases List.mem_cons.1 hm with hm | hm
  · exact .inr (by rw [← hm]; exact rowOf_mem hi)
  · exact .inl ⟨hi, hm⟩
theorem dadd_lt {a b c : Int} (h : dadd a b < c) (hc : c ≤ INF) : dadd a b = a + b := by
  unfold dadd at h ⊢
  split
  · rename_i h'; rw [if_pos h'] at h; omega
  · rfl
end Go.Proofs.Ytlllpmafhnfihaa
