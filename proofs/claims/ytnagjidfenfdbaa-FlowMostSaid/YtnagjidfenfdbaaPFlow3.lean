/- Networks turned about, capacities raised, sums over cuts. Plain laws. -/
import Derived.Test.YtnagjidfenfdbaaPFlow2

namespace Go.Proofs.Ytnagjidfenfdbaa
open Go Fly
set_option linter.unusedVariables false
set_option linter.unusedSimpArgs false

variable {n : Nat} {e : List Arc} {s t : Nat} {f g : List Int} {V W : Int} {A B : Nat → Bool}
/-- None is greater than one with a side. -/
theorem Flow.le_max (hf : Flow n e s t f V) (hg : Flow n e s t g W) (hB : Side n e s t g B) (he : NetOk n e) (hs : s < n) : V ≤ W := by
  have h1 := hf.le_cut he hs hB.src hB.dst
  have h2 := (hg.shut he hs hB.src hB.dst).2 hB.shut
  omega
def turnA (x : Arc) : Arc := ⟨x.dst, x.src, x.wt⟩
theorem turn_turn (e : List Arc) : (e.map turnA).map turnA = e := by
  rw [List.map_map]; conv => rhs; rw [← List.map_id e]
  rfl
theorem net_turn : ∀ (e : List Arc) (f : List Int) (v : Nat), net (e.map turnA) f v = - net e f v
  | [], _, _ => by simp [net]
  | x :: e, [], _ => by simp [net]
  | x :: e, y :: f, v => by
    have := net_turn e f v
    simp only [List.map_cons, net, turnA] at this ⊢
    omega
theorem arcAt_map {i : Nat} (h : i < e.length) : arcAt (e.map turnA) i = turnA (arcAt e i) := by rw [arcAt_eq h, arcAt_eq (by simpa using h), List.getElem_map]
theorem Flow.turn (h : Flow n e s t f V) : Flow n (e.map turnA) t s f V :=
  ⟨⟨by simpa using h.fits.len, fun i hi => by
    have hi' : i < e.length := by simpa using hi
    rw [arcAt_map hi']; exact h.fits.rng i hi'⟩, fun v hv => by rw [net_turn, h.cons v hv]; omega⟩
theorem NetOk.turn (h : NetOk n e) : NetOk n (e.map turnA) := fun x hx => by
  obtain ⟨y, hy, rfl⟩ := List.mem_map.1 hx
  exact ⟨(h y hy).2, (h y hy).1⟩
theorem turn_same (he : NetOk n e) (hs : s < n) (ht : t < n) (hf : Flow n e s t f V) (hA : Side n e s t f A) (hg : Flow n (e.map turnA) t s g W) (hB : Side n (e.map turnA) t s g B) : V = W := by
  have h1 := hf.turn.le_max hg hB he.turn ht
  have h2 : Flow n e s t g W := by have := hg.turn; rwa [turn_turn] at this
  have h3 := h2.le_max hf hA he hs
  omega
/-- An edge's capacity is raised. -/
def raise (e : List Arc) (i : Nat) (d : Int) : List Arc := e.set i ⟨(arcAt e i).src, (arcAt e i).dst, (arcAt e i).wt + d⟩
theorem raise_len (e : List Arc) (i : Nat) (d : Int) : (raise e i d).length = e.length := by simp [raise]
theorem raise_at {i : Nat} {d : Int} (hi : i < e.length) (j : Nat) : arcAt (raise e i d) j = if i = j then ⟨(arcAt e i).src, (arcAt e i).dst, (arcAt e i).wt + d⟩ else arcAt e j := by
  unfold raise
  conv => lhs; unfold arcAt
  rw [List.getD_eq_getElem?_getD, List.getElem?_set]
  by_cases h : i = j
  · rw [if_pos h, if_pos hi, if_pos h]; rfl
  · rw [if_neg h, if_neg h, ← List.getD_eq_getElem?_getD]; rfl
theorem net_raise : ∀ {e : List Arc} {i : Nat} (d : Int) (f : List Int) (v : Nat), i < e.length → net (raise e i d) f v = net e f v
  | [], _, _, _, _, h => by simp at h
  | x :: e, 0, d, [], v, _ => by simp [raise, net]
  | x :: e, 0, d, y :: f, v, _ => by simp [raise, net, arcAt]
  | x :: e, i + 1, d, [], v, _ => by simp [raise, net]
  | x :: e, i + 1, d, y :: f, v, h => by
    have := net_raise (e := e) (i := i) d f v (by simpa using h)
    unfold raise at this ⊢
    have ea : arcAt (x :: e) (i + 1) = arcAt e i := by simp [arcAt]
    rw [ea]
    simp only [List.set_cons_succ, net, this]
theorem capA_raise : ∀ {e : List Arc} {i : Nat} (d : Int), i < e.length → 0 ≤ d → capA A e ≤ capA A (raise e i d) ∧ capA A (raise e i d) ≤ capA A e + d
  | [], _, _, h, _ => by simp at h
  | x :: e, 0, d, _, hd => by
    simp only [raise, arcAt, List.getD_cons_zero, List.set_cons_zero, capA]
    split <;> omega
  | x :: e, i + 1, d, h, hd => by
    have := capA_raise (e := e) (i := i) d (by simpa using h) hd
    unfold raise at this ⊢
    have ea : arcAt (x :: e) (i + 1) = arcAt e i := by simp [arcAt]
    rw [ea]
    simp only [List.set_cons_succ, capA]
    omega
theorem Flow.raise {i : Nat} {d : Int} (h : Flow n e s t f V) (hi : i < e.length) (hd : 0 ≤ d) : Flow n (raise e i d) s t f V :=
  ⟨⟨by rw [raise_len]; exact h.fits.len, fun j hj => by
    rw [raise_len] at hj
    have := h.fits.rng j hj
    rw [raise_at hi]
    split
    · rename_i e'; subst e'; simp only; omega
    · exact this⟩, fun v hv => by rw [net_raise d f v hi]; exact h.cons v hv⟩
theorem NetOk.raise {i : Nat} {d : Int} (h : NetOk n e) (hi : i < e.length) : NetOk n (raise e i d) := fun x hx => by
  obtain ⟨j, hj, rfl⟩ := List.mem_iff_getElem.1 hx
  have hj' : j < e.length := by rwa [raise_len] at hj
  rw [← arcAt_eq hj, raise_at hi]
  split
  · have := h _ (List.getElem_mem hi); rw [arcAt_eq hi]; exact this
  · rw [arcAt_eq hj']; exact h _ (List.getElem_mem hj')
theorem raise_more {i : Nat} {d : Int} (he : NetOk n e) (hs : s < n) (hi : i < e.length) (hd : 0 ≤ d) (hf : Flow n e s t f V) (hA : Side n e s t f A) (hg : Flow n (raise e i d) s t g W) (hB : Side n (raise e i d) s t g B) : V ≤ W ∧ W ≤ V + d := by
  refine ⟨(hf.raise hi hd).le_max hg hB (he.raise hi) hs, ?_⟩
  have h1 := hg.le_cut (he.raise hi) hs hA.src hA.dst
  have h2 := (hf.shut he hs hA.src hA.dst).2 hA.shut
  have h3 := capA_raise (A := A) (e := e) d hi hd
  omega
theorem capA_append (A : Nat → Bool) : ∀ (e e' : List Arc), capA A (e ++ e') = capA A e + capA A e'
  | [], e' => by simp [capA]
  | x :: e, e' => by simp only [List.cons_append, capA, capA_append A e e']; omega
theorem capA_next {i : Nat} (hi : i < e.length) : capA A (e.take (i + 1)) = capA A (e.take i) + (if A e[i].src.toNat && !A e[i].dst.toNat then e[i].wt else 0) := by
  rw [List.take_succ_eq_append_getElem hi, capA_append]; simp [capA]
theorem capA_bound {c : Int} : ∀ (e : List Arc), (∀ x ∈ e, 0 ≤ x.wt ∧ x.wt ≤ c) → 0 ≤ capA A e ∧ capA A e ≤ e.length * c
  | [], _ => by simp [capA]
  | x :: e, h => by
    have := capA_bound e fun y hy => h y (List.mem_cons_of_mem _ hy)
    have := h x (List.mem_cons_self ..)
    simp only [capA, List.length_cons]
    rw [show ((e.length + 1 : Nat) : Int) * c = e.length * c + c by rw [Int.natCast_add, Int.add_mul]; simp]
    split <;> omega
theorem capA_take {c : Int} (h : ∀ x ∈ e, 0 ≤ x.wt ∧ x.wt ≤ c) (i : Nat) (hc : c ≤ 4294967295) (hl : e.length ≤ 16384) : 0 ≤ capA A (e.take i) ∧ capA A (e.take i) ≤ 70368744161280 := by
  have h1 := capA_bound (A := A) (c := c) (e.take i) fun x hx => h x (List.mem_of_mem_take hx)
  have h2 : (e.take i).length ≤ 16384 := by simp; omega
  refine ⟨h1.1, ?_⟩
  by_cases h0 : c ≤ 0
  · have : ((e.take i).length : Int) * c ≤ 0 := Int.mul_nonpos_of_nonneg_of_nonpos (by omega) h0
    omega
  · have h3 : ((e.take i).length : Int) * c ≤ 16384 * 4294967295 := Int.mul_le_mul (by omega) hc (by omega) (by omega)
    omega
theorem capA_congr : ∀ {e : List Arc}, (∀ x ∈ e, A x.src.toNat = B x.src.toNat ∧ A x.dst.toNat = B x.dst.toNat) → capA A e = capA B e
  | [], _ => rfl
  | x :: e, h => by
    have h0 := h x (List.mem_cons_self ..)
    simp only [capA, h0.1, h0.2, capA_congr fun y hy => h y (List.mem_cons_of_mem _ hy)]
end Go.Proofs.Ytnagjidfenfdbaa
