/- Plain laws: union and find with halved paths; tidy labels; what is connected. No program in sight. -/
import Derived.Test.YtkmkakpadgljeaaPGraph

namespace Go.Proofs.Ytkmkakpadgljeaa
open Go Fly
set_option linter.unusedVariables false

def nats (l : List Nat) : List Value := l.map (fun x : Nat => .int .i64 (x : Int))
theorem nats_length (l : List Nat) : (nats l).length = l.length := by simp [nats]
theorem nats_get {l : List Nat} {i : Nat} (h : i < l.length) : (nats l)[i]? = some (.int .i64 (l[i] : Int)) := by simp [nats, h]
theorem nats_set (l : List Nat) (i x : Nat) : (nats l).set i (.int .i64 (x : Int)) = nats (l.set i x) := by simp [nats, List.map_set]
theorem nats_replicate (n : Nat) : (List.replicate n [Value.int .i64 0]).flatten = nats (List.replicate n 0) := by
  induction n with
  | zero => rfl
  | succ n ih => simp only [List.replicate_succ, List.flatten_cons, ih]; rfl

theorem nats_set_get {l : List Nat} {i x : Nat} (h : i < l.length) : (nats (l.set i x))[i]? = some (.int .i64 (x : Int)) := by simp [nats, h]

/-! ### roots -/
/-- Each entry leads down or stays. -/
def Down (up : List Nat) : Prop := ∀ i (h : i < up.length), up[i] ≤ i

/-- Where one comes to from v. -/
def rootOf (up : List Nat) (v : Nat) : Nat := if h : v < up.length then if up[v] < v then rootOf up up[v] else v else v
termination_by v

theorem rootOf_stay {up : List Nat} {v : Nat} (h : v < up.length) (hs : up[v] = v) : rootOf up v = v := by
  rw [rootOf, dif_pos h, if_neg (by omega)]
theorem rootOf_go {up : List Nat} (hd : Down up) {v : Nat} (h : v < up.length) (hs : up[v] ≠ v) : rootOf up v = rootOf up up[v] := by
  rw [rootOf, dif_pos h, if_pos (by have := hd v h; omega)]
theorem rootOf_le {up : List Nat} (v : Nat) : rootOf up v ≤ v := by
  induction v using Nat.strongRecOn with
  | _ v ih =>
    rw [rootOf]
    split
    · split
      · rename_i h hlt; exact Nat.le_trans (ih _ hlt) (Nat.le_of_lt hlt)
      · exact Nat.le_refl _
    · exact Nat.le_refl _
theorem rootOf_root {up : List Nat} (hd : Down up) {v : Nat} (h : v < up.length) : ∃ hr : rootOf up v < up.length, up[rootOf up v] = rootOf up v := by
  induction v using Nat.strongRecOn with
  | _ v ih =>
    by_cases hs : up[v] = v
    · rw [rootOf_stay h hs]; exact ⟨h, hs⟩
    · have hle := hd v h
      rw [rootOf_go hd h hs]
      exact ih _ (by omega) (by omega)
theorem rootOf_idem {up : List Nat} (hd : Down up) {v : Nat} (h : v < up.length) : rootOf up (rootOf up v) = rootOf up v := by
  obtain ⟨hr, he⟩ := rootOf_root hd h
  exact rootOf_stay hr he

/-- Halving a path. -/
theorem down_halve {up : List Nat} (hd : Down up) {v : Nat} (h : v < up.length) (h2 : up[v] < up.length) : Down (up.set v up[up[v]]) := by
  intro i hi
  rw [List.length_set] at hi
  rw [List.getElem_set]
  split
  · rename_i e; subst e; exact Nat.le_trans (hd _ h2) (hd _ h)
  · exact hd i hi

theorem rootOf_halve {up : List Nat} (hd : Down up) {v : Nat} (h : v < up.length) (h2 : up[v] < up.length) (u : Nat) : rootOf (up.set v up[up[v]]) u = rootOf up u := by
  have hd' := down_halve hd h h2
  induction u using Nat.strongRecOn with
  | _ u ih =>
    by_cases hu : u < up.length
    · have hu' : u < (up.set v up[up[v]]).length := by simpa using hu
      by_cases e : v = u
      · subst e
        by_cases hs : up[v] = v
        · rw [rootOf_stay h hs, rootOf_stay hu' (by simp [hs])]
        · have hlt : up[v] < v := by have := hd v h; omega
          have hle : up[up[v]] ≤ up[v] := hd _ h2
          rw [rootOf_go hd h hs]
          have hg : (up.set v up[up[v]])[v] = up[up[v]] := by simp
          rw [rootOf_go hd' hu' (by rw [hg]; omega), hg, ih _ (by omega)]
          by_cases hs2 : up[up[v]] = up[v]
          · rw [hs2]
          · rw [rootOf_go hd h2 hs2]
      · have hg : (up.set v up[up[v]])[u] = up[u] := by rw [List.getElem_set, if_neg e]
        by_cases hs : up[u] = u
        · rw [rootOf_stay hu hs, rootOf_stay hu' (by rw [hg, hs])]
        · rw [rootOf_go hd hu hs, rootOf_go hd' hu' (by rw [hg]; exact hs), hg, ih _ (by have := hd u hu; omega)]
    · rw [rootOf, rootOf, dif_neg (by simpa using hu), dif_neg hu]

/-- Two roots put together. -/
theorem down_join {up : List Nat} (hd : Down up) {x y : Nat} : Down (up.set (max x y) (min x y)) := by
  intro i hi
  rw [List.length_set] at hi
  rw [List.getElem_set]
  split
  · rename_i e; subst e; omega
  · exact hd i hi

theorem rootOf_join {up : List Nat} (hd : Down up) {x y : Nat} (hx : x < up.length) (hy : y < up.length) (rx : up[x] = x) (ry : up[y] = y) (u : Nat) (hu : u < up.length) :
    rootOf (up.set (max x y) (min x y)) u = if rootOf up u = max x y then min x y else rootOf up u := by
  have hd' := down_join hd (x := x) (y := y)
  have hm : min x y < up.length := by omega
  have hM : max x y < up.length := by omega
  have rm : up[min x y] = min x y := by
    rcases Nat.le_total x y with h | h
    · simp only [Nat.min_eq_left h]; exact rx
    · simp only [Nat.min_eq_right h]; exact ry
  have rM : up[max x y] = max x y := by
    rcases Nat.le_total x y with h | h
    · simp only [Nat.max_eq_right h]; exact ry
    · simp only [Nat.max_eq_left h]; exact rx
  generalize hp : min x y = p at *
  generalize hq : max x y = q at *
  have hpq : p ≤ q := by omega
  induction u using Nat.strongRecOn with
  | _ u ih =>
    have hu' : u < (up.set q p).length := by simpa using hu
    by_cases e : q = u
    · subst e
      rw [rootOf_stay hu rM, if_pos rfl]
      by_cases hs : p = q
      · subst hs; rw [rootOf_stay hu' (by simp)]
      · have hg : (up.set q p)[q] = p := by simp
        rw [rootOf_go hd' hu' (by rw [hg]; exact hs), hg, ih p (by omega) hm, rootOf_stay hm rm, if_neg hs]
    · have hg : (up.set q p)[u] = up[u] := by rw [List.getElem_set, if_neg e]
      by_cases hs : up[u] = u
      · rw [rootOf_stay hu hs, if_neg (fun h => e h.symm), rootOf_stay hu' (by rw [hg, hs])]
      · rw [rootOf_go hd hu hs, rootOf_go hd' hu' (by rw [hg]; exact hs), hg]
        have := hd u hu
        exact ih _ (by omega) (by omega)

/-! ### what is connected -/
/-- The ends of some arcs, as vertices. -/
def ends2 (l : List Arc) : List (Nat × Nat) := l.map (fun x => (x.src.toNat, x.dst.toNat))

inductive Conn (es : List (Nat × Nat)) : Nat → Nat → Prop
  | refl (v : Nat) : Conn es v v
  | step {u x y : Nat} (h : Conn es u x) (he : (x, y) ∈ es ∨ (y, x) ∈ es) : Conn es u y

theorem Conn.trans {es : List (Nat × Nat)} {u v x : Nat} (h : Conn es u v) (k : Conn es v x) : Conn es u x := by
  induction k with
  | refl => exact h
  | step _ he ih => exact .step ih he
theorem Conn.edge {es : List (Nat × Nat)} {u v : Nat} (h : (u, v) ∈ es ∨ (v, u) ∈ es) : Conn es u v := .step (.refl u) h
theorem Conn.symm {es : List (Nat × Nat)} {u v : Nat} (h : Conn es u v) : Conn es v u := by
  induction h with
  | refl => exact .refl _
  | step _ he ih => exact (Conn.edge he.symm).trans ih
theorem Conn.mono {es es' : List (Nat × Nat)} (hs : ∀ e ∈ es, e ∈ es') {u v : Nat} (h : Conn es u v) : Conn es' u v := by
  induction h with
  | refl => exact .refl _
  | step _ he ih => exact .step ih (he.imp (hs _) (hs _))

/-- The roots tell what is connected by some edges. -/
def Tells (up : List Nat) (es : List (Nat × Nat)) : Prop := ∀ u v, u < up.length → v < up.length → (rootOf up u = rootOf up v ↔ Conn es u v)

theorem conn_eq_of_up {es : List (Nat × Nat)} {f : Nat → Nat} (h : ∀ e ∈ es, f e.1 = f e.2) {u v : Nat} (hc : Conn es u v) : f u = f v := by
  induction hc with
  | refl => rfl
  | step _ he ih =>
    rcases he with he | he
    · exact ih.trans (h _ he)
    · exact ih.trans (h _ he).symm

theorem tells_start (n : Nat) : Tells (List.range n) [] := by
  intro u v hu hv
  have hr : ∀ u, u < n → rootOf (List.range n) u = u := fun u hu => rootOf_stay (by simpa using hu) (by simp)
  rw [List.length_range] at hu hv
  rw [hr u hu, hr v hv]
  constructor
  · rintro rfl; exact .refl _
  · intro h
    cases h with
    | refl => rfl
    | step _ he => simp at he

theorem tells_join {up : List Nat} {es : List (Nat × Nat)} {a b : Nat} (hd : Down up) (ht : Tells up es) (hes : ∀ e ∈ es, e.1 < up.length ∧ e.2 < up.length) (ha : a < up.length) (hb : b < up.length) :
    Tells (up.set (max (rootOf up a) (rootOf up b)) (min (rootOf up a) (rootOf up b))) (es ++ [(a, b)]) := by
  obtain ⟨hra, ea⟩ := rootOf_root hd ha
  obtain ⟨hrb, eb⟩ := rootOf_root hd hb
  intro u v hu hv
  rw [List.length_set] at hu hv
  rw [rootOf_join hd hra hrb ea eb u hu, rootOf_join hd hra hrb ea eb v hv]
  have hinc : ∀ {u v : Nat}, Conn es u v → Conn (es ++ [(a, b)]) u v := fun h => h.mono (fun e he => by simp [he])
  have hab : Conn (es ++ [(a, b)]) a b := .edge (.inl (by simp))
  constructor
  · intro h
    have hau : rootOf up u = rootOf up a → Conn (es ++ [(a, b)]) u a := fun e => hinc ((ht u a hu ha).1 e)
    have hbu : rootOf up u = rootOf up b → Conn (es ++ [(a, b)]) u b := fun e => hinc ((ht u b hu hb).1 e)
    have hav : rootOf up v = rootOf up a → Conn (es ++ [(a, b)]) v a := fun e => hinc ((ht v a hv ha).1 e)
    have hbv : rootOf up v = rootOf up b → Conn (es ++ [(a, b)]) v b := fun e => hinc ((ht v b hv hb).1 e)
    -- each of the two is of a's class or b's, or both are as before
    have key : ∀ w, w < up.length → (rootOf up w = rootOf up a ∨ rootOf up w = rootOf up b) → Conn (es ++ [(a, b)]) w a := fun w hw hor => by
      rcases hor with e | e
      · exact hinc ((ht w a hw ha).1 e)
      · exact (hinc ((ht w b hw hb).1 e)).trans hab.symm
    by_cases h1 : rootOf up u = max (rootOf up a) (rootOf up b) <;> by_cases h2 : rootOf up v = max (rootOf up a) (rootOf up b)
    · exact hinc ((ht u v hu hv).1 (h1.trans h2.symm))
    · rw [if_pos h1, if_neg h2] at h
      exact (key u hu (by omega)).trans (key v hv (by omega)).symm
    · rw [if_neg h1, if_pos h2] at h
      exact (key u hu (by omega)).trans (key v hv (by omega)).symm
    · rw [if_neg h1, if_neg h2] at h
      exact hinc ((ht u v hu hv).1 h)
  · intro h
    refine conn_eq_of_up (es := es ++ [(a, b)]) (f := fun w => if rootOf up w = max (rootOf up a) (rootOf up b) then min (rootOf up a) (rootOf up b) else rootOf up w) ?_ h
    intro e he
    rw [List.mem_append, List.mem_singleton] at he
    rcases he with he | rfl
    · obtain ⟨h1, h2⟩ := hes e he
      have := (ht e.1 e.2 h1 h2).2 (.edge (.inl he))
      simp only [this]
    · dsimp only
      split <;> split <;> omega

/-! ### tidy labels -/
/-- How many labels the first k vertices have. -/
def nxt (p : List Nat) : Nat → Nat
  | 0 => 0
  | k + 1 => if p[k]? = some (nxt p k) then nxt p k + 1 else nxt p k

def Tidy (p : List Nat) : Prop := ∀ k (h : k < p.length), p[k] ≤ nxt p k

theorem nxt_take (p q : List Nat) : ∀ k, (∀ j, j < k → p[j]? = q[j]?) → nxt p k = nxt q k
  | 0, _ => rfl
  | k + 1, h => by rw [nxt, nxt, nxt_take p q k (fun j hj => h j (by omega)), h k (by omega)]

theorem nxt_le (p : List Nat) : ∀ k, nxt p k ≤ k
  | 0 => Nat.le_refl _
  | k + 1 => by have := nxt_le p k; rw [nxt]; split <;> omega

theorem nxt_mono (p : List Nat) {j k : Nat} (h : j ≤ k) : nxt p j ≤ nxt p k := by
  induction k with
  | zero => rw [Nat.le_zero.1 h]; exact Nat.le_refl _
  | succ k ih =>
    rcases Nat.lt_or_ge j (k + 1) with h' | h'
    · have := ih (by omega); rw [nxt]; split <;> omega
    · rw [show j = k + 1 from by omega]; exact Nat.le_refl _

/-- A label below the next one has been seen. -/
theorem seen {p : List Nat} : ∀ k, k ≤ p.length → ∀ x, x < nxt p k → ∃ j, ∃ h : j < p.length, j < k ∧ p[j] = x
  | 0, _, x, hx => by simp [nxt] at hx
  | k + 1, hk, x, hx => by
    rw [nxt] at hx
    split at hx
    · rename_i he
      by_cases hxk : x < nxt p k
      · obtain ⟨j, h, hj, e⟩ := seen k (by omega) x hxk
        exact ⟨j, h, by omega, e⟩
      · have hkl : k < p.length := by omega
        rw [List.getElem?_eq_getElem hkl] at he
        exact ⟨k, hkl, by omega, by have := Option.some.inj he; omega⟩
    · obtain ⟨j, h, hj, e⟩ := seen k (by omega) x hx
      exact ⟨j, h, by omega, e⟩

theorem below_next {p : List Nat} (ht : Tidy p) {j k : Nat} (h : j < p.length) (hjk : j < k) : p[j] < nxt p k := by
  have h1 : p[j] < nxt p (j + 1) := by
    have := ht j h
    rw [nxt, List.getElem?_eq_getElem h]
    split
    · rename_i e; have := Option.some.inj e; omega
    · rename_i e; have : p[j] ≠ nxt p j := fun e' => e (by rw [e']); omega
  exact Nat.lt_of_lt_of_le h1 (nxt_mono p hjk)

/-- Tidy labels are told by which vertices have the same. -/
theorem tidy_unique {p q : List Nat} (hp : Tidy p) (hq : Tidy q) (hl : p.length = q.length) (h : ∀ i j (hi : i < p.length) (hj : j < p.length), p[i] = p[j] ↔ q[i]'(hl ▸ hi) = q[j]'(hl ▸ hj)) : p = q := by
  have key : ∀ k j : Nat, j < k → p[j]? = q[j]? := by
    intro k
    induction k with
    | zero => intro j hj; omega
    | succ k ih =>
      intro j hj
      rcases Nat.lt_or_ge j k with h' | h'
      · exact ih j h'
      · obtain rfl : j = k := by omega
        by_cases hjl : j < p.length
        · have hjq : j < q.length := hl ▸ hjl
          have hn := nxt_take p q j ih
          rw [List.getElem?_eq_getElem hjl, List.getElem?_eq_getElem hjq]
          congr 1
          have a := hp j hjl
          have b := hq j hjq
          by_cases e1 : p[j] < nxt p j
          · obtain ⟨i, hi, hij, e⟩ := seen j (by omega) _ e1
            have e2 := (h i j hi hjl).1 e
            have e3 := ih i hij
            rw [List.getElem?_eq_getElem hi, List.getElem?_eq_getElem (hl ▸ hi)] at e3
            have := Option.some.inj e3
            omega
          · by_cases e2 : q[j] < nxt q j
            · obtain ⟨i, hi, hij, e⟩ := seen j (by omega) _ e2
              have hi' : i < p.length := hl ▸ hi
              have e4 := (h i j hi' hjl).2 e
              have := below_next hp hi' hij
              omega
            · omega
        · rw [List.getElem?_eq_none (by omega), List.getElem?_eq_none (by omega)]
  exact List.ext_getElem? fun i => key (i + 1) i (by omega)

/-- The labels of a graph's parts. -/
structure IsParts (n : Nat) (es : List (Nat × Nat)) (p : List Nat) : Prop where
  len : p.length = n
  tidy : Tidy p
  conn : ∀ u v (hu : u < p.length) (hv : v < p.length), p[u] = p[v] ↔ Conn es u v

theorem IsParts.unique {n : Nat} {es es' : List (Nat × Nat)} {p q : List Nat} (hp : IsParts n es p) (hq : IsParts n es' q) (h : ∀ u v, u < n → v < n → (Conn es u v ↔ Conn es' u v)) : p = q :=
  tidy_unique hp.tidy hq.tidy (hp.len.trans hq.len.symm) fun i j hi hj =>
    (hp.conn i j hi hj).trans ((h i j (hp.len ▸ hi) (hp.len ▸ hj)).trans (hq.conn i j (by rw [hq.len, ← hp.len]; exact hi) (by rw [hq.len, ← hp.len]; exact hj)).symm)

/-! ### numbering the roots -/
/-- What has been written when the first k vertices have their labels. -/
structure Labelled (up : List Nat) (k : Nat) (out : List Nat) (next : Nat) : Prop where
  len : out.length = up.length
  next : nxt out k = next
  tidy : ∀ j (h : j < out.length), j < k → out[j] ≤ nxt out j
  same : ∀ i j (hi : i < out.length) (hj : j < out.length), i < k → j < k → (out[i] = out[j] ↔ rootOf up i = rootOf up j)

theorem labelled_start (up : List Nat) : Labelled up 0 (List.replicate up.length 0) 0 :=
  ⟨by simp, rfl, fun j _ h => by omega, fun i j _ _ h => by omega⟩

theorem nxt_set {out : List Nat} {k x : Nat} : ∀ j, j ≤ k → nxt (out.set k x) j = nxt out j := fun j hj =>
  nxt_take _ _ j fun i hi => by rw [List.getElem?_set_ne (by omega)]

/-- A root gets the next label. -/
theorem labelled_new {up out : List Nat} {k next : Nat} (hd : Down up) (h : Labelled up k out next) (hk : k < up.length) (hr : rootOf up k = k) : Labelled up (k + 1) (out.set k next) (next + 1) := by
  have hl := h.len
  have hb : ∀ j (hj : j < out.length), j < k → out[j] < next := fun j hj hjk => by
    have h1 := h.tidy j hj hjk
    have h2 : nxt out (j + 1) ≤ nxt out k := nxt_mono out hjk
    rw [nxt, List.getElem?_eq_getElem hj] at h2
    have h3 := h.next
    split at h2
    · rename_i e; have := Option.some.inj e; omega
    · rename_i e; have : out[j] ≠ nxt out j := fun e' => e (by rw [e']); omega
  refine ⟨by simp [hl], ?_, fun j hj hjk => ?_, fun i j hi hj hik hjk => ?_⟩
  · rw [nxt, nxt_set k (Nat.le_refl _), h.next, if_pos (by rw [List.getElem?_set_self (by omega)])]
  · rw [List.length_set] at hj
    rw [nxt_set j (by omega), List.getElem_set]
    split
    · rename_i e; subst e; rw [h.next]; exact Nat.le_refl _
    · exact h.tidy j hj (by omega)
  · rw [List.length_set] at hi hj
    rw [List.getElem_set, List.getElem_set]
    have hne : ∀ j (hj : j < out.length), j < k → rootOf up j ≠ k := fun j _ hjk e => by have := rootOf_le (up := up) j; omega
    by_cases e1 : k = i <;> by_cases e2 : k = j
    · subst e1; subst e2; simp
    · subst e1; rw [if_pos rfl, if_neg e2, hr]
      have := hb j hj (by omega)
      have := hne j hj (by omega)
      constructor
      · intro; omega
      · intro e; exact absurd e.symm this
    · subst e2; rw [if_pos rfl, if_neg e1, hr]
      have := hb i hi (by omega)
      have := hne i hi (by omega)
      constructor
      · intro; omega
      · intro e; exact absurd e this
    · rw [if_neg e1, if_neg e2]; exact h.same i j hi hj (by omega) (by omega)

/-- A vertex gets its root's label. -/
theorem labelled_old {up out : List Nat} {k next : Nat} (hd : Down up) (h : Labelled up k out next) (hk : k < up.length) (hr : rootOf up k ≠ k) (hro : rootOf up k < out.length) : Labelled up (k + 1) (out.set k out[rootOf up k]) next := by
  have hl := h.len
  have hrk : rootOf up k < k := by have := rootOf_le (up := up) k; omega
  have hlt : out[rootOf up k] < next := by
    have h1 := h.tidy _ hro hrk
    have h2 : nxt out (rootOf up k + 1) ≤ nxt out k := nxt_mono out hrk
    rw [nxt, List.getElem?_eq_getElem hro] at h2
    have h3 := h.next
    split at h2
    · rename_i e; have := Option.some.inj e; omega
    · rename_i e; have : out[rootOf up k] ≠ nxt out (rootOf up k) := fun e' => e (by rw [e']); omega
  have hid := rootOf_idem hd hk
  refine ⟨by simp [hl], ?_, fun j hj hjk => ?_, fun i j hi hj hik hjk => ?_⟩
  · rw [nxt, nxt_set k (Nat.le_refl _), h.next, if_neg]
    rw [List.getElem?_set_self (by omega)]
    intro e; have := Option.some.inj e; omega
  · rw [List.length_set] at hj
    rw [nxt_set j (by omega), List.getElem_set]
    split
    · rename_i e; subst e; rw [h.next]; omega
    · exact h.tidy j hj (by omega)
  · rw [List.length_set] at hi hj
    rw [List.getElem_set, List.getElem_set]
    by_cases e1 : k = i <;> by_cases e2 : k = j
    · subst e1; subst e2; simp
    · subst e1; rw [if_pos rfl, if_neg e2, h.same _ j hro hj hrk (by omega), hid]
    · subst e2; rw [if_pos rfl, if_neg e1, h.same i _ hi hro (by omega) hrk, hid]
    · rw [if_neg e1, if_neg e2]; exact h.same i j hi hj (by omega) (by omega)

theorem labelled_end {up out : List Nat} {es : List (Nat × Nat)} {next : Nat} (h : Labelled up up.length out next) (ht : Tells up es) : IsParts up.length es out :=
  ⟨h.len, fun k hk => h.tidy k hk (by rw [← h.len]; exact hk), fun u v hu hv =>
    (h.same u v hu hv (by rw [← h.len]; exact hu) (by rw [← h.len]; exact hv)).trans (ht u v (by rw [← h.len]; exact hu) (by rw [← h.len]; exact hv))⟩

theorem rootOf_two {up : List Nat} (hd : Down up) {v : Nat} (h : v < up.length) (h2 : up[v] < up.length) : rootOf up up[up[v]] = rootOf up v := by
  by_cases hs : up[v] = v
  · simp only [hs]
  · rw [rootOf_go hd h hs]
    by_cases hs2 : up[up[v]] = up[v]
    · rw [hs2]
    · rw [rootOf_go hd h2 hs2]

theorem down_range (n : Nat) : Down (List.range n) := fun i h => by simp
theorem up_range {up : List Nat} {n : Nat} (hl : up.length = n) (h : ∀ j (hj : j < up.length), up[j] = j) : up = List.range n :=
  List.ext_getElem (by simp [hl]) fun i h1 h2 => by simp [h i h1]
theorem gcheck_zero {N : Int} {l : List Arc} (h : (gcheck N l).2 = 0) : 1 ≤ N ∧ N ≤ 1024 ∧ l.length ≤ 8192 ∧ ∀ k (hk : k < l.length), 0 ≤ l[k].src ∧ l[k].src < N ∧ 0 ≤ l[k].dst ∧ l[k].dst < N := by
  unfold gcheck at h
  split at h
  · simp at h
  · split at h
    · simp at h
    · rename_i h1 h2
      refine ⟨by omega, by omega, by omega, fun k hk => ?_⟩
      split at h
      · simp at h
      · rename_i hn
        rw [List.findIdx?_eq_none_iff] at hn
        have := hn _ (List.getElem_mem hk)
        unfold arcBad at this
        simp at this
        omega
theorem ends2_take {l : List Arc} {k : Nat} (hk : k < l.length) : ends2 (l.take (k + 1)) = ends2 (l.take k) ++ [(l[k].src.toNat, l[k].dst.toNat)] := by
  unfold ends2; rw [List.take_succ_eq_append_getElem hk, List.map_append]; rfl
theorem ends2_lt {l : List Arc} {n : Nat} {up : List Nat} (hul : up.length = n) (hg : ∀ k (hk : k < l.length), 0 ≤ l[k].src ∧ l[k].src < (n : Int) ∧ 0 ≤ l[k].dst ∧ l[k].dst < (n : Int)) (k : Nat) :
    ∀ e ∈ ends2 (l.take k), e.1 < up.length ∧ e.2 < up.length := by
  intro e he
  obtain ⟨x, hx, rfl⟩ := List.mem_map.1 he
  obtain ⟨j, hj, rfl⟩ := List.mem_iff_getElem.1 (List.mem_of_mem_take hx)
  have := hg j hj
  dsimp only
  omega
theorem tells_roots {up up' : List Nat} {es : List (Nat × Nat)} (h : Tells up es) (hl : up'.length = up.length) (hr : ∀ x, rootOf up' x = rootOf up x) : Tells up' es := fun u v hu hv => by
  rw [hr, hr]; exact h u v (hl ▸ hu) (hl ▸ hv)
theorem labelled_roots {up up' : List Nat} {k nx : Nat} {out : List Nat} (h : Labelled up k out nx) (hl : up'.length = up.length) (hr : ∀ x, rootOf up' x = rootOf up x) : Labelled up' k out nx :=
  ⟨h.len.trans hl.symm, h.next, h.tidy, fun i j hi hj a b => by rw [hr, hr]; exact h.same i j hi hj a b⟩
theorem tells_next {up up2 : List Nat} {es : List (Nat × Nat)} {a b : Nat} (hd : Down up) (hd2 : Down up2) (ht : Tells up es) (hl : up2.length = up.length) (hr : ∀ x, rootOf up2 x = rootOf up x)
    (hes : ∀ e ∈ es, e.1 < up.length ∧ e.2 < up.length) (ha : a < up.length) (hb : b < up.length) :
    Tells (up2.set (max (rootOf up a) (rootOf up b)) (min (rootOf up a) (rootOf up b))) (es ++ [(a, b)]) := by
  have := tells_join hd2 (tells_roots ht hl hr) (fun e he => by rw [hl]; exact hes e he) (a := a) (b := b) (hl ▸ ha) (hl ▸ hb)
  rw [hr, hr] at this
  exact this

theorem parts_end {up out : List Nat} {es : List (Nat × Nat)} {n k nx : Nat} (hul : up.length = n) (h : Labelled up k out nx) (ht : Tells up es) (hk : k = n) : IsParts n es out := by
  subst hk
  subst hul
  exact labelled_end h ht

/-! ### sums over the vertices -/
theorem idxs_mem {α : Type} {p : α → Bool} {l : List α} {x : Int} (h : x ∈ idxs p l) : ∃ (i : Nat) (hi : i < l.length), x = (i : Int) ∧ p l[i] = true := by
  unfold idxs at h
  obtain ⟨y, hy, rfl⟩ := List.mem_map.1 h
  rw [List.mem_filter] at hy
  obtain ⟨a, i⟩ := y
  have := List.mem_zipIdx hy.1
  have hi : i < l.length := by simpa using this.2.1
  refine ⟨i, hi, rfl, ?_⟩
  have e : a = l[i] := by simpa using this.2.2
  rw [← e]; exact hy.2
theorem idxs_length {α : Type} (p : α → Bool) (l : List α) : (idxs p l).length = l.countP p := by
  unfold idxs
  rw [List.length_map, ← List.countP_eq_length_filter]
  have := List.countP_map (p := p) (f := Prod.fst) (l := l.zipIdx)
  rw [List.zipIdx_map_fst] at this
  rw [this]; rfl

/-- How many arcs are of the first k vertices. -/
theorem count_upto {α : Type} (f : α → Int) (l : List α) (k : Nat) : l.countP (fun x => decide (0 ≤ f x ∧ f x < (k : Int))) + l.countP (fun x => decide (f x = (k : Int))) = l.countP (fun x => decide (0 ≤ f x ∧ f x < ((k + 1 : Nat) : Int))) := by
  induction l with
  | nil => rfl
  | cons x l ih =>
    simp only [List.countP_cons, decide_eq_true_eq]
    split <;> split <;> split <;> omega
theorem count_all {α : Type} (f : α → Int) (l : List α) (n : Nat) (h : ∀ k (hk : k < l.length), 0 ≤ f l[k] ∧ f l[k] < (n : Int)) : l.countP (fun x => decide (0 ≤ f x ∧ f x < (n : Int))) = l.length := by
  rw [List.countP_eq_length]
  intro x hx
  obtain ⟨k, hk, rfl⟩ := List.mem_iff_getElem.1 hx
  simpa using h k hk
theorem count_none {α : Type} (f : α → Int) (l : List α) : l.countP (fun x => decide (0 ≤ f x ∧ f x < ((0 : Nat) : Int))) = 0 := by
  rw [List.countP_eq_zero]
  intro x _
  simp

end Go.Proofs.Ytkmkakpadgljeaa
