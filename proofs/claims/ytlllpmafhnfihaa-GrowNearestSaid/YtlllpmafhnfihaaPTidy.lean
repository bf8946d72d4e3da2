/- Labels made tidy; labels that go down to what is connected. -/
import Derived.Test.YtlllpmafhnfihaaPParts

namespace Go.Proofs.Ytlllpmafhnfihaa
open Go Fly
set_option linter.unusedVariables false
set_option linter.unusedSectionVars false
set_option linter.unusedSimpArgs false

/-- The first v labels, tidied. -/
structure TidyTo (L : List Nat) (v : Nat) (P : List Nat) : Prop where
  len : P.length = v
  tidy : Tidy P
  same : ∀ i j (hi : i < P.length) (hj : j < P.length), P[i] = P[j] ↔ L.getD i 0 = L.getD j 0
theorem TidyTo.start (L : List Nat) : TidyTo L 0 [] := ⟨rfl, fun k h => by simp at h, fun i j hi => by simp at hi⟩
theorem nxt_app {P : List Nat} {x k : Nat} (h : k ≤ P.length) : nxt (P ++ [x]) k = nxt P k :=
  nxt_take _ _ k fun j hj => by rw [List.getElem?_append_left (by omega)]
theorem nxt_snoc (P : List Nat) (x : Nat) : nxt (P ++ [x]) (P.length + 1) = if x = nxt P P.length then nxt P P.length + 1 else nxt P P.length := by
  rw [nxt, nxt_app (Nat.le_refl _), List.getElem?_append_right (Nat.le_refl _), Nat.sub_self]
  simp
theorem tidy_snoc {P : List Nat} {x : Nat} (h : Tidy P) (hx : x ≤ nxt P P.length) : Tidy (P ++ [x]) := fun k hk => by
  rw [List.length_append] at hk
  simp at hk
  rw [nxt_app (by omega)]
  rw [List.getElem_append]
  split
  · rename_i hlt; exact h k hlt
  · rename_i hge
    have : k = P.length := by omega
    subst this; simpa using hx
theorem same_snoc {L P : List Nat} {x : Nat} (h : ∀ i j (hi : i < P.length) (hj : j < P.length), P[i] = P[j] ↔ L.getD i 0 = L.getD j 0) (hx : ∀ i (hi : i < P.length), P[i] = x ↔ L.getD i 0 = L.getD P.length 0) :
    ∀ i j (hi : i < (P ++ [x]).length) (hj : j < (P ++ [x]).length), (P ++ [x])[i] = (P ++ [x])[j] ↔ L.getD i 0 = L.getD j 0 := fun i j hi hj => by
  rw [List.length_append] at hi hj
  simp at hi hj
  rw [List.getElem_append, List.getElem_append]
  split <;> rename_i h1 <;> split <;> rename_i h2
  · exact h i j h1 h2
  · have : j = P.length := by omega
    subst this; simpa using hx i h1
  · have : i = P.length := by omega
    subst this
    constructor
    · intro e; exact ((hx j h2).1 (by simpa using e.symm)).symm
    · intro e; have := (hx j h2).2 e.symm; simpa using this.symm
  · have : i = P.length := by omega
    have : j = P.length := by omega
    simp_all
theorem TidyTo.old {L P : List Nat} {v u : Nat} (h : TidyTo L v P) (hu : u < P.length) (he : L.getD u 0 = L.getD v 0) : TidyTo L (v + 1) (P ++ [P[u]]) ∧ nxt (P ++ [P[u]]) (v + 1) = nxt P v := by
  have hl := h.len
  have hb := below_next h.tidy hu (k := P.length) hu
  subst hl
  refine ⟨⟨by simp, tidy_snoc h.tidy (by omega), same_snoc h.same fun i hi => ?_⟩, by rw [nxt_snoc, if_neg (by omega)]⟩
  rw [h.same i u hi hu, he]
theorem TidyTo.new {L P : List Nat} {v : Nat} (h : TidyTo L v P) (hn : ∀ u, u < v → L.getD u 0 ≠ L.getD v 0) : TidyTo L (v + 1) (P ++ [nxt P v]) ∧ nxt (P ++ [nxt P v]) (v + 1) = nxt P v + 1 := by
  have hl := h.len
  subst hl
  refine ⟨⟨by simp, tidy_snoc h.tidy (Nat.le_refl _), same_snoc h.same fun i hi => ?_⟩, by rw [nxt_snoc, if_pos rfl]⟩
  have := below_next h.tidy hi (k := P.length) hi
  exact ⟨fun e => by omega, fun e => absurd e (hn i hi)⟩

/-- Labels each of which is connected with its vertex. -/
structure CI (es : List (Nat × Nat)) (n : Nat) (o : List Nat) : Prop where
  len : o.length = n
  lt : ∀ v (h : v < o.length), o[v] < n
  conn : ∀ v (h : v < o.length), Conn es v o[v]
theorem CI.start (es : List (Nat × Nat)) (n : Nat) : CI es n (List.range n) := ⟨by simp, fun v h => by simpa using h, fun v h => by simp; exact .refl v⟩
theorem CI.set {es : List (Nat × Nat)} {n : Nat} {o : List Nat} (h : CI es n o) {a x : Nat} (ha : a < o.length) (hx : x < n) (hc : Conn es a x) : CI es n (o.set a x) where
  len := by rw [List.length_set]; exact h.len
  lt := fun v hv => by rw [List.getElem_set]; split; exact hx; exact h.lt v (by simpa using hv)
  conn := fun v hv => by
    rw [List.getElem_set]; split
    · rename_i e; subst e; exact hc
    · exact h.conn v (by simpa using hv)
theorem CI.join {es : List (Nat × Nat)} {n : Nat} {o : List Nat} (h : CI es n o) {a b : Nat} (ha : a < o.length) (hb : b < o.length) (he : (a, b) ∈ es) : CI es n ((o.set a (min o[a] o[b])).set b (min o[a] o[b])) := by
  have hl : min o[a] o[b] < n := by have := h.lt a ha; omega
  have c1 : Conn es a (min o[a] o[b]) := by
    rcases Nat.le_total o[a] o[b] with hle | hle
    · rw [Nat.min_eq_left hle]; exact h.conn a ha
    · rw [Nat.min_eq_right hle]; exact (Conn.edge (.inl he)).trans (h.conn b hb)
  have c2 : Conn es b (min o[a] o[b]) := (Conn.edge (.inr he)).trans c1
  exact (h.set ha hl c1).set (by rw [List.length_set]; exact hb) hl c2
def nsum : List Nat → Nat
  | [] => 0
  | x :: r => x + nsum r
theorem nsum_set : ∀ {l : List Nat} {i x : Nat} (h : i < l.length), nsum (l.set i x) + l[i] = nsum l + x
  | y :: r, 0, x, _ => by simp [nsum]; omega
  | y :: r, i + 1, x, h => by
    have := nsum_set (l := r) (i := i) (x := x) (by simpa using h)
    simp only [List.set_cons_succ, nsum, List.getElem_cons_succ]; omega
theorem nsum_join {o : List Nat} {a b : Nat} (ha : a < o.length) (hb : b < o.length) (hne : o[a] ≠ o[b]) : nsum ((o.set a (min o[a] o[b])).set b (min o[a] o[b])) < nsum o := by
  have hab : a ≠ b := fun e => by subst e; exact hne rfl
  have h1 := nsum_set (l := o) (i := a) (x := min o[a] o[b]) ha
  have h2 := nsum_set (l := o.set a (min o[a] o[b])) (i := b) (x := min o[a] o[b]) (by rw [List.length_set]; exact hb)
  rw [List.getElem_set_ne hab] at h2
  omega
/-- When all ends agree, what is connected has one label. -/
theorem CI.done {es : List (Nat × Nat)} {n : Nat} {o P : List Nat} (h : CI es n o) (he : ∀ e ∈ es, o.getD e.1 0 = o.getD e.2 0) (hP : TidyTo o n P) : IsParts n es P where
  len := hP.len
  tidy := hP.tidy
  conn := fun u v hu hv => by
    rw [hP.same u v hu hv]
    have hl := hP.len; have ho := h.len
    have e1 : o.getD u 0 = o[u]'(by omega) := by simp [List.getD_eq_getElem?_getD, show u < o.length by omega]
    have e2 : o.getD v 0 = o[v]'(by omega) := by simp [List.getD_eq_getElem?_getD, show v < o.length by omega]
    constructor
    · intro e
      rw [e1, e2] at e
      exact (h.conn u (by omega)).trans (e ▸ (h.conn v (by omega)).symm)
    · intro hc; exact conn_eq_of_up (f := fun x => o.getD x 0) he hc
end Go.Proofs.Ytlllpmafhnfihaa
