import Derived.Test.YtjjogcnjcnpehaaGreatAll2
import Derived.Test.YtjjogcnjcnpehaaGreatAll4
import Derived.Test.YtjjogcnjcnpehaaGreatFlyT
import Derived.Test.YtjjogcnjcnpehaaGreatAll3
import Derived.Shelf.SlSortCmp.Insertion
import Derived.Test.YtjjogcnjcnpehaaGreatFlyD
import Derived.Test.YtjjogcnjcnpehaaGreatFlyMem
import Derived.Shelf.SlSortCmp.WholeK
import Derived.Shelf.SlSortCmp.NoneTotal
import Derived.Shelf.Sort.Plain
import Derived.Shelf.SlLaysF0
import Derived.Test.YtjjogcnjcnpehaaGreatProg

/- Plain laws: union and find with halved paths; tidy labels; what is connected. No program in sight. -/
namespace Go.Proofs.YtjjogcnjcnpehaaGreat
open Go Fly
set_option linter.unusedVariables false
def iU (l : List Nat) : List Value := l.map (fun x : Nat => .int .i64 (x : Int))
theorem jB (l : List Nat) : (iU l).length = l.length := by simp [iU]
theorem nats_get {l : List Nat} {i : Nat} (h : i < l.length) : (iU l)[i]? = some (.int .i64 (l[i] : Int)) := by simp [iU, h]
theorem nats_set (l : List Nat) (i x : Nat) : (iU l).set i (.int .i64 (x : Int)) = iU (l.set i x) := by simp [iU, List.map_set]
theorem nats_replicate (n : Nat) : (List.replicate n [Value.int .i64 0]).flatten = iU (List.replicate n 0) := by
  induction n with
  | zero => rfl
  | succ n ih => simp only [List.replicate_succ, List.flatten_cons, ih]; rfl
theorem nats_set_get {l : List Nat} {i x : Nat} (h : i < l.length) : (iU (l.set i x))[i]? = some (.int .i64 (x : Int)) := by simp [iU, h]
/-! ### roots -/
/-- Each entry leads down or stays. -/
def kQ (up : List Nat) : Prop := ∀ i (h : i < up.length), up[i] ≤ i
/-- Where one comes to from v. -/
def bO (up : List Nat) (v : Nat) : Nat := if h : v < up.length then if up[v] < v then bO up up[v] else v else v
termination_by v
theorem eJ {up : List Nat} {v : Nat} (h : v < up.length) (hs : up[v] = v) : bO up v = v := by
  rw [bO, dif_pos h, if_neg (by omega)]
theorem fT {up : List Nat} (hd : kQ up) {v : Nat} (h : v < up.length) (hs : up[v] ≠ v) : bO up v = bO up up[v] := by
  rw [bO, dif_pos h, if_pos (by have := hd v h; omega)]
theorem kX {up : List Nat} (v : Nat) : bO up v ≤ v := by
  induction v using Nat.strongRecOn with
  | _ v ih =>
    rw [bO]
    split
    · split
      · rename_i h hlt; exact Nat.le_trans (ih _ hlt) (Nat.le_of_lt hlt)
      · exact Nat.le_refl _
    · exact Nat.le_refl _
theorem rootOf_root {up : List Nat} (hd : kQ up) {v : Nat} (h : v < up.length) : ∃ hr : bO up v < up.length, up[bO up v] = bO up v := by
  induction v using Nat.strongRecOn with
  | _ v ih =>
    by_cases hs : up[v] = v
    · rw [eJ h hs]; exact ⟨h, hs⟩
    · have hle := hd v h
      rw [fT hd h hs];exact ih _ (by omega) (by omega)
theorem rootOf_idem {up : List Nat} (hd : kQ up) {v : Nat} (h : v < up.length) : bO up (bO up v) = bO up v := by
  obtain ⟨hr, he⟩ := rootOf_root hd h
  exact eJ hr he
/-- Halving a path. -/
theorem down_halve {up : List Nat} (hd : kQ up) {v : Nat} (h : v < up.length) (h2 : up[v] < up.length) : kQ (up.set v up[up[v]]) := by
  intro i hi;rw [List.length_set] at hi;rw [List.getElem_set]
  split
  · rename_i e; subst e; exact Nat.le_trans (hd _ h2) (hd _ h)
  · exact hd i hi
theorem rootOf_halve {up : List Nat} (hd : kQ up) {v : Nat} (h : v < up.length) (h2 : up[v] < up.length) (u : Nat) : bO (up.set v up[up[v]]) u = bO up u := by
  have hd' := down_halve hd h h2
  induction u using Nat.strongRecOn with
  | _ u ih =>
    by_cases hu : u < up.length
    · have hu' : u < (up.set v up[up[v]]).length := by simpa using hu
      by_cases e : v = u
      · subst e
        by_cases hs : up[v] = v
        · rw [eJ h hs, eJ hu' (by simp [hs])]
        · have hlt : up[v] < v := by have := hd v h; omega
          have hle : up[up[v]] ≤ up[v] := hd _ h2
          rw [fT hd h hs];have hg : (up.set v up[up[v]])[v] = up[up[v]] := by simp
          rw [fT hd' hu' (by rw [hg]; omega), hg, ih _ (by omega)]
          by_cases hs2 : up[up[v]] = up[v]
          · rw [hs2]
          · rw [fT hd h2 hs2]
      · have hg : (up.set v up[up[v]])[u] = up[u] := by rw [List.getElem_set, if_neg e]
        by_cases hs : up[u] = u
        · rw [eJ hu hs, eJ hu' (by rw [hg, hs])]
        · rw [fT hd hu hs, fT hd' hu' (by rw [hg]; exact hs), hg, ih _ (by have := hd u hu; omega)]
    · rw [bO, bO, dif_neg (by simpa using hu), dif_neg hu]
/-- Two roots put together. -/
theorem down_join {up : List Nat} (hd : kQ up) {x y : Nat} : kQ (up.set (max x y) (min x y)) := by
  intro i hi;rw [List.length_set] at hi;rw [List.getElem_set]
  split
  · rename_i e; subst e; omega
  · exact hd i hi
theorem rootOf_join {up : List Nat} (hd : kQ up) {x y : Nat} (hx : x < up.length) (hy : y < up.length) (rx : up[x] = x) (ry : up[y] = y) (u : Nat) (hu : u < up.length) :
    bO (up.set (max x y) (min x y)) u = if bO up u = max x y then min x y else bO up u := by
  have hd' := down_join hd (x := x) (y := y)
  have hm : min x y < up.length := by omega
  have hM : max x y < up.length := by omega
  have rm : up[min x y] = min x y := by
    rcases Nat.le_total x y with h | h
    · simp only [Nat.min_eq_left h]; exact rx
    · simp only [Nat.min_eq_right h]; exact ry
  have rM : up[max x y] = max x y := by
    rcases Nat.le_total x y with h | h
    · simp only [Nat.max_eq_right h]; exact ry
    · simp only [Nat.max_eq_left h]; exact rx
  generalize hp : min x y = p at *
  generalize hq : max x y = q at *
  have hpq : p ≤ q := by omega
  induction u using Nat.strongRecOn with
  | _ u ih =>
    have hu' : u < (up.set q p).length := by simpa using hu
    by_cases e : q = u
    · subst e
      rw [eJ hu rM, if_pos rfl]
      by_cases hs : p = q
      · subst hs; rw [eJ hu' (by simp)]
      · have hg : (up.set q p)[q] = p := by simp
        rw [fT hd' hu' (by rw [hg]; exact hs), hg, ih p (by omega) hm, eJ hm rm, if_neg hs]
    · have hg : (up.set q p)[u] = up[u] := by rw [List.getElem_set, if_neg e]
      by_cases hs : up[u] = u
      · rw [eJ hu hs, if_neg (fun h => e h.symm), eJ hu' (by rw [hg, hs])]
      · rw [fT hd hu hs, fT hd' hu' (by rw [hg]; exact hs), hg]
        have := hd u hu
        exact ih _ (by omega) (by omega)
/-! ### what is connected -/
/-- The ends of some arcs, as vertices. -/
def lE (l : List Arc) : List (Nat × Nat) := l.map (fun x => (x.src.toNat, x.dst.toNat))
inductive Conn (es : List (Nat × Nat)) : Nat → Nat → Prop
  | refl (v : Nat) : Conn es v v
  | step {u x y : Nat} (h : Conn es u x) (he : (x, y) ∈ es ∨ (y, x) ∈ es) : Conn es u y
theorem Conn.trans {es : List (Nat × Nat)} {u v x : Nat} (h : Conn es u v) (k : Conn es v x) : Conn es u x := by
  induction k with
  | refl => exact h
  | step _ he ih => exact .step ih he
theorem Conn.edge {es : List (Nat × Nat)} {u v : Nat} (h : (u, v) ∈ es ∨ (v, u) ∈ es) : Conn es u v := .step (.refl u) h
theorem Conn.symm {es : List (Nat × Nat)} {u v : Nat} (h : Conn es u v) : Conn es v u := by
  induction h with
  | refl => exact .refl _
  | step _ he ih => exact (Conn.edge he.symm).trans ih
theorem Conn.mono {es es' : List (Nat × Nat)} (hs : ∀ e ∈ es, e ∈ es') {u v : Nat} (h : Conn es u v) : Conn es' u v := by
  induction h with
  | refl => exact .refl _
  | step _ he ih => exact .step ih (he.imp (hs _) (hs _))
/-- The roots tell what is connected by some edges. -/
def Tells (up : List Nat) (es : List (Nat × Nat)) : Prop := ∀ u v, u < up.length → v < up.length → (bO up u = bO up v ↔ Conn es u v)
theorem conn_eq_of_up {es : List (Nat × Nat)} {f : Nat → Nat} (h : ∀ e ∈ es, f e.1 = f e.2) {u v : Nat} (hc : Conn es u v) : f u = f v := by
  induction hc with
  | refl => rfl
  | step _ he ih =>
    rcases he with he | he
    · exact ih.trans (h _ he)
    · exact ih.trans (h _ he).symm
theorem tells_start (n : Nat) : Tells (List.range n) [] := by
  intro u v hu hv;have hr : ∀ u, u < n → bO (List.range n) u = u := fun u hu => eJ (by simpa using hu) (by simp)
  rw [List.length_range] at hu hv;rw [hr u hu, hr v hv];constructor
  · rintro rfl; exact .refl _
  · intro h
    cases h with
    | refl => rfl
    | step _ he => simp at he
theorem tells_join {up : List Nat} {es : List (Nat × Nat)} {a b : Nat} (hd : kQ up) (ht : Tells up es) (hes : ∀ e ∈ es, e.1 < up.length ∧ e.2 < up.length) (ha : a < up.length) (hb : b < up.length) :
    Tells (up.set (max (bO up a) (bO up b)) (min (bO up a) (bO up b))) (es ++ [(a, b)]) := by
  obtain ⟨hra, ea⟩ := rootOf_root hd ha
  obtain ⟨hrb, eb⟩ := rootOf_root hd hb
  intro u v hu hv;rw [List.length_set] at hu hv;rw [rootOf_join hd hra hrb ea eb u hu, rootOf_join hd hra hrb ea eb v hv];have hinc : ∀ {u v : Nat}, Conn es u v → Conn (es ++ [(a, b)]) u v := fun h => h.mono (fun e he => by simp [he])
  have hab : Conn (es ++ [(a, b)]) a b := .edge (.inl (by simp))
  constructor
  · intro h
    have hau : bO up u = bO up a → Conn (es ++ [(a, b)]) u a := fun e => hinc ((ht u a hu ha).1 e)
    have hbu : bO up u = bO up b → Conn (es ++ [(a, b)]) u b := fun e => hinc ((ht u b hu hb).1 e)
    have hav : bO up v = bO up a → Conn (es ++ [(a, b)]) v a := fun e => hinc ((ht v a hv ha).1 e)
    have hbv : bO up v = bO up b → Conn (es ++ [(a, b)]) v b := fun e => hinc ((ht v b hv hb).1 e)
    have key : ∀ w, w < up.length → (bO up w = bO up a ∨ bO up w = bO up b) → Conn (es ++ [(a, b)]) w a := fun w hw hor => by
      rcases hor with e | e
      · exact hinc ((ht w a hw ha).1 e)
      · exact (hinc ((ht w b hw hb).1 e)).trans hab.symm
    by_cases h1 : bO up u = max (bO up a) (bO up b) <;> by_cases h2 : bO up v = max (bO up a) (bO up b)
    · exact hinc ((ht u v hu hv).1 (h1.trans h2.symm))
    · rw [if_pos h1, if_neg h2] at h
      exact (key u hu (by omega)).trans (key v hv (by omega)).symm
    · rw [if_neg h1, if_pos h2] at h
      exact (key u hu (by omega)).trans (key v hv (by omega)).symm
    · rw [if_neg h1, if_neg h2] at h
      exact hinc ((ht u v hu hv).1 h)
  · intro h
    refine conn_eq_of_up (es := es ++ [(a, b)]) (f := fun w => if bO up w = max (bO up a) (bO up b) then min (bO up a) (bO up b) else bO up w) ?_ h;intro e he;rw [List.mem_append, List.mem_singleton] at he
    rcases he with he | rfl
    · obtain ⟨h1, h2⟩ := hes e he
      have := (ht e.1 e.2 h1 h2).2 (.edge (.inl he))
      simp only [this]
    · dsimp only
      split <;> split <;> omega
/-! ### tidy labels -/
/-- How many labels the first k vertices have. -/
def nxt (p : List Nat) : Nat → Nat
  | 0 => 0
  | k + 1 => if p[k]? = some (nxt p k) then nxt p k + 1 else nxt p k
def Tidy (p : List Nat) : Prop := ∀ k (h : k < p.length), p[k] ≤ nxt p k
theorem j1 (p q : List Nat) : ∀ k, (∀ j, j < k → p[j]? = q[j]?) → nxt p k = nxt q k
  | 0, _ => rfl
  | k + 1, h => by rw [nxt, nxt, j1 p q k (fun j hj => h j (by omega)), h k (by omega)]
theorem nxt_le (p : List Nat) : ∀ k, nxt p k ≤ k
  | 0 => Nat.le_refl _
  | k + 1 => by have := nxt_le p k; rw [nxt]; split <;> omega
theorem nxt_mono (p : List Nat) {j k : Nat} (h : j ≤ k) : nxt p j ≤ nxt p k := by
  induction k with
  | zero => rw [Nat.le_zero.1 h]; exact Nat.le_refl _
  | succ k ih =>
    rcases Nat.lt_or_ge j (k + 1) with h' | h'
    · have := ih (by omega); rw [nxt]; split <;> omega
    · rw [show j = k + 1 from by omega]; exact Nat.le_refl _
/-- A label below the next one has been seen. -/
theorem seen {p : List Nat} : ∀ k, k ≤ p.length → ∀ x, x < nxt p k → ∃ j, ∃ h : j < p.length, j < k ∧ p[j] = x
  | 0, _, x, hx => by simp [nxt] at hx
  | k + 1, hk, x, hx => by
    rw [nxt] at hx
    split at hx
    · rename_i he
      by_cases hxk : x < nxt p k
      · obtain ⟨j, h, hj, e⟩ := seen k (by omega) x hxk
        exact ⟨j, h, by omega, e⟩
      · have hkl : k < p.length := by omega
        rw [List.getElem?_eq_getElem hkl] at he;exact ⟨k, hkl, by omega, by have := Option.some.inj he; omega⟩
    · obtain ⟨j, h, hj, e⟩ := seen k (by omega) x hx
      exact ⟨j, h, by omega, e⟩
theorem below_next {p : List Nat} (ht : Tidy p) {j k : Nat} (h : j < p.length) (hjk : j < k) : p[j] < nxt p k := by
  have h1 : p[j] < nxt p (j + 1) := by
    have := ht j h
    rw [nxt, List.getElem?_eq_getElem h]
    split
    · rename_i e; have := Option.some.inj e; omega
    · rename_i e; have : p[j] ≠ nxt p j := fun e' => e (by rw [e']); omega
  exact Nat.lt_of_lt_of_le h1 (nxt_mono p hjk)
/-- Tidy labels are told by which vertices have the same. -/
theorem tidy_unique {p q : List Nat} (hp : Tidy p) (hq : Tidy q) (hl : p.length = q.length) (h : ∀ i j (hi : i < p.length) (hj : j < p.length), p[i] = p[j] ↔ q[i]'(hl ▸ hi) = q[j]'(hl ▸ hj)) : p = q := by
  have key : ∀ k j : Nat, j < k → p[j]? = q[j]? := by
    intro k
    induction k with
    | zero => intro j hj; omega
    | succ k ih =>
      intro j hj
      rcases Nat.lt_or_ge j k with h' | h'
      · exact ih j h'
      · obtain rfl : j = k := by omega
        by_cases hjl : j < p.length
        · have hjq : j < q.length := hl ▸ hjl
          have hn := j1 p q j ih
          rw [List.getElem?_eq_getElem hjl, List.getElem?_eq_getElem hjq]
          congr 1
          have a := hp j hjl
          have b := hq j hjq
          by_cases e1 : p[j] < nxt p j
          · obtain ⟨i, hi, hij, e⟩ := seen j (by omega) _ e1
            have e2 := (h i j hi hjl).1 e
            have e3 := ih i hij
            rw [List.getElem?_eq_getElem hi, List.getElem?_eq_getElem (hl ▸ hi)] at e3;have := Option.some.inj e3
            omega
          · by_cases e2 : q[j] < nxt q j
            · obtain ⟨i, hi, hij, e⟩ := seen j (by omega) _ e2
              have hi' : i < p.length := hl ▸ hi
              have e4 := (h i j hi' hjl).2 e
              have := below_next hp hi' hij
              omega
            · omega
        · rw [List.getElem?_eq_none (by omega), List.getElem?_eq_none (by omega)]
  exact List.ext_getElem? fun i => key (i + 1) i (by omega)
/-- The labels of a graph's parts. -/
structure IsParts (n : Nat) (es : List (Nat × Nat)) (p : List Nat) : Prop where
  len : p.length = n
  tidy : Tidy p
  conn : ∀ u v (hu : u < p.length) (hv : v < p.length), p[u] = p[v] ↔ Conn es u v
theorem IsParts.unique {n : Nat} {es es' : List (Nat × Nat)} {p q : List Nat} (hp : IsParts n es p) (hq : IsParts n es' q) (h : ∀ u v, u < n → v < n → (Conn es u v ↔ Conn es' u v)) : p = q :=
  tidy_unique hp.tidy hq.tidy (hp.len.trans hq.len.symm) fun i j hi hj =>
    (hp.conn i j hi hj).trans ((h i j (hp.len ▸ hi) (hp.len ▸ hj)).trans (hq.conn i j (by rw [hq.len, ← hp.len]; exact hi) (by rw [hq.len, ← hp.len]; exact hj)).symm)
/-! ### numbering the roots -/
/-- What has been written when the first k vertices have their labels. -/
structure h8 (up : List Nat) (k : Nat) (out : List Nat) (next : Nat) : Prop where
  len : out.length = up.length
  next : nxt out k = next
  tidy : ∀ j (h : j < out.length), j < k → out[j] ≤ nxt out j
  same : ∀ i j (hi : i < out.length) (hj : j < out.length), i < k → j < k → (out[i] = out[j] ↔ bO up i = bO up j)
theorem labelled_start (up : List Nat) : h8 up 0 (List.replicate up.length 0) 0 :=
  ⟨by simp, rfl, fun j _ h => by omega, fun i j _ _ h => by omega⟩
theorem nxt_set {out : List Nat} {k x : Nat} : ∀ j, j ≤ k → nxt (out.set k x) j = nxt out j := fun j hj =>
  j1 _ _ j fun i hi => by rw [List.getElem?_set_ne (by omega)]
/-- A root gets the next label. -/
theorem labelled_new {up out : List Nat} {k next : Nat} (hd : kQ up) (h : h8 up k out next) (hk : k < up.length) (hr : bO up k = k) : h8 up (k + 1) (out.set k next) (next + 1) := by
  have hl := h.len
  have hb : ∀ j (hj : j < out.length), j < k → out[j] < next := fun j hj hjk => by
    have h1 := h.tidy j hj hjk
    have h2 : nxt out (j + 1) ≤ nxt out k := nxt_mono out hjk
    rw [nxt, List.getElem?_eq_getElem hj] at h2;have h3 := h.next
    split at h2
    · rename_i e; have := Option.some.inj e; omega
    · rename_i e; have : out[j] ≠ nxt out j := fun e' => e (by rw [e']); omega
  refine ⟨by simp [hl], ?_, fun j hj hjk => ?_, fun i j hi hj hik hjk => ?_⟩
  · rw [nxt, nxt_set k (Nat.le_refl _), h.next, if_pos (by rw [List.getElem?_set_self (by omega)])]
  · rw [List.length_set] at hj
    rw [nxt_set j (by omega), List.getElem_set]
    split
    · rename_i e; subst e; rw [h.next]; exact Nat.le_refl _
    · exact h.tidy j hj (by omega)
  · rw [List.length_set] at hi hj
    rw [List.getElem_set, List.getElem_set];have hne : ∀ j (hj : j < out.length), j < k → bO up j ≠ k := fun j _ hjk e => by have := kX (up := up) j; omega
    by_cases e1 : k = i <;> by_cases e2 : k = j
    · subst e1; subst e2; simp
    · subst e1; rw [if_pos rfl, if_neg e2, hr]
      have := hb j hj (by omega)
      have := hne j hj (by omega)
      constructor
      · intro; omega
      · intro e; exact absurd e.symm this
    · subst e2; rw [if_pos rfl, if_neg e1, hr]
      have := hb i hi (by omega)
      have := hne i hi (by omega)
      constructor
      · intro; omega
      · intro e; exact absurd e this
    · rw [if_neg e1, if_neg e2]; exact h.same i j hi hj (by omega) (by omega)
/-- A vertex gets its root's label. -/
theorem labelled_old {up out : List Nat} {k next : Nat} (hd : kQ up) (h : h8 up k out next) (hk : k < up.length) (hr : bO up k ≠ k) (hro : bO up k < out.length) : h8 up (k + 1) (out.set k out[bO up k]) next := by
  have hl := h.len
  have hrk : bO up k < k := by have := kX (up := up) k; omega
  have hlt : out[bO up k] < next := by
    have h1 := h.tidy _ hro hrk
    have h2 : nxt out (bO up k + 1) ≤ nxt out k := nxt_mono out hrk
    rw [nxt, List.getElem?_eq_getElem hro] at h2;have h3 := h.next
    split at h2
    · rename_i e; have := Option.some.inj e; omega
    · rename_i e; have : out[bO up k] ≠ nxt out (bO up k) := fun e' => e (by rw [e']); omega
  have hid := rootOf_idem hd hk
  refine ⟨by simp [hl], ?_, fun j hj hjk => ?_, fun i j hi hj hik hjk => ?_⟩
  · rw [nxt, nxt_set k (Nat.le_refl _), h.next, if_neg]
    rw [List.getElem?_set_self (by omega)];intro e; have := Option.some.inj e; omega
  · rw [List.length_set] at hj
    rw [nxt_set j (by omega), List.getElem_set]
    split
    · rename_i e; subst e; rw [h.next]; omega
    · exact h.tidy j hj (by omega)
  · rw [List.length_set] at hi hj
    rw [List.getElem_set, List.getElem_set]
    by_cases e1 : k = i <;> by_cases e2 : k = j
    · subst e1; subst e2; simp
    · subst e1; rw [if_pos rfl, if_neg e2, h.same _ j hro hj hrk (by omega), hid]
    · subst e2; rw [if_pos rfl, if_neg e1, h.same i _ hi hro (by omega) hrk, hid]
    · rw [if_neg e1, if_neg e2]; exact h.same i j hi hj (by omega) (by omega)
theorem labelled_end {up out : List Nat} {es : List (Nat × Nat)} {next : Nat} (h : h8 up up.length out next) (ht : Tells up es) : IsParts up.length es out :=
  ⟨h.len, fun k hk => h.tidy k hk (by rw [← h.len]; exact hk), fun u v hu hv =>
    (h.same u v hu hv (by rw [← h.len]; exact hu) (by rw [← h.len]; exact hv)).trans (ht u v (by rw [← h.len]; exact hu) (by rw [← h.len]; exact hv))⟩
theorem rootOf_two {up : List Nat} (hd : kQ up) {v : Nat} (h : v < up.length) (h2 : up[v] < up.length) : bO up up[up[v]] = bO up v := by
  by_cases hs : up[v] = v
  · simp only [hs]
  · rw [fT hd h hs]
    by_cases hs2 : up[up[v]] = up[v]
    · rw [hs2]
    · rw [fT hd h2 hs2]
theorem down_range (n : Nat) : kQ (List.range n) := fun i h => by simp
theorem up_range {up : List Nat} {n : Nat} (hl : up.length = n) (h : ∀ j (hj : j < up.length), up[j] = j) : up = List.range n :=
  List.ext_getElem (by simp [hl]) fun i h1 h2 => by simp [h i h1]
theorem bX {N : Int} {l : List Arc} (h : (bH N l).2 = 0) : 1 ≤ N ∧ N ≤ 1024 ∧ l.length ≤ 8192 ∧ ∀ k (hk : k < l.length), 0 ≤ l[k].src ∧ l[k].src < N ∧ 0 ≤ l[k].dst ∧ l[k].dst < N := by
  unfold bH at h
  split at h
  · simp at h
  · split at h
    · simp at h
    · rename_i h1 h2
      refine ⟨by omega, by omega, by omega, fun k hk => ?_⟩
      split at h
      · simp at h
      · rename_i hn
        rw [List.findIdx?_eq_none_iff] at hn;have := hn _ (List.getElem_mem hk)
        unfold eB at this
        simp at this;omega
theorem ends2_take {l : List Arc} {k : Nat} (hk : k < l.length) : lE (l.take (k + 1)) = lE (l.take k) ++ [(l[k].src.toNat, l[k].dst.toNat)] := by
  unfold lE; rw [List.take_succ_eq_append_getElem hk, List.map_append]; rfl
theorem ends2_lt {l : List Arc} {n : Nat} {up : List Nat} (hul : up.length = n) (hg : ∀ k (hk : k < l.length), 0 ≤ l[k].src ∧ l[k].src < (n : Int) ∧ 0 ≤ l[k].dst ∧ l[k].dst < (n : Int)) (k : Nat) :
    ∀ e ∈ lE (l.take k), e.1 < up.length ∧ e.2 < up.length := by
  intro e he;obtain ⟨x, hx, rfl⟩ := List.mem_map.1 he
  obtain ⟨j, hj, rfl⟩ := List.mem_iff_getElem.1 (List.mem_of_mem_take hx)
  have := hg j hj
  dsimp only;omega
theorem tells_roots {up up' : List Nat} {es : List (Nat × Nat)} (h : Tells up es) (hl : up'.length = up.length) (hr : ∀ x, bO up' x = bO up x) : Tells up' es := fun u v hu hv => by
  rw [hr, hr]; exact h u v (hl ▸ hu) (hl ▸ hv)
theorem labelled_roots {up up' : List Nat} {k nx : Nat} {out : List Nat} (h : h8 up k out nx) (hl : up'.length = up.length) (hr : ∀ x, bO up' x = bO up x) : h8 up' k out nx :=
  ⟨h.len.trans hl.symm, h.next, h.tidy, fun i j hi hj a b => by rw [hr, hr]; exact h.same i j hi hj a b⟩
theorem tells_next {up up2 : List Nat} {es : List (Nat × Nat)} {a b : Nat} (hd : kQ up) (hd2 : kQ up2) (ht : Tells up es) (hl : up2.length = up.length) (hr : ∀ x, bO up2 x = bO up x)
    (hes : ∀ e ∈ es, e.1 < up.length ∧ e.2 < up.length) (ha : a < up.length) (hb : b < up.length) :
    Tells (up2.set (max (bO up a) (bO up b)) (min (bO up a) (bO up b))) (es ++ [(a, b)]) := by
  have := tells_join hd2 (tells_roots ht hl hr) (fun e he => by rw [hl]; exact hes e he) (a := a) (b := b) (hl ▸ ha) (hl ▸ hb)
  rw [hr, hr] at this;exact this
theorem parts_end {up out : List Nat} {es : List (Nat × Nat)} {n k nx : Nat} (hul : up.length = n) (h : h8 up k out nx) (ht : Tells up es) (hk : k = n) : IsParts n es out := by
  subst hk;subst hul;exact labelled_end h ht
/-! ### sums over the vertices -/
theorem idxs_length {α : Type} (p : α → Bool) (l : List α) : (j6 p l).length = l.countP p := by
  unfold j6
  rw [List.length_map, ← List.countP_eq_length_filter];have := List.countP_map (p := p) (f := Prod.fst) (l := l.zipIdx)
  rw [List.zipIdx_map_fst] at this;rw [this]; rfl
end Go.Proofs.YtjjogcnjcnpehaaGreat

/- grow.Region: so many vertices around a centre. -/
namespace Go.Proofs.YtjjogcnjcnpehaaGreat
open Go Go.RowKit Fly
set_option linter.unusedVariables false
set_option linter.unusedSimpArgs false
/-- So many vertices around a centre, or what is wrong. -/
def dE (N : Int) (l : List Arc) (c most : Int) : List Int × Int :=
  if (bH N l).2 ≠ 0 then ([], (bH N l).2) else if c < 0 ∨ N ≤ c then ([], 5) else if most < 1 ∨ 1024 < most then ([], 1) else
    ((bfs N.toNat (fun v : Nat => bY (v : Int) l) c.toNat (List.replicate N.toNat false)).1.take most.toNat, 0)
theorem iZ {n : Nat} {l : List Arc} (hg : (bH (n : Int) l).2 = 0) : (∀ v : Nat, (bY (v : Int) l).length ≤ 8192) ∧ ∀ v, v < n → ∀ u ∈ bY (v : Int) l, 0 ≤ u ∧ u < (n : Int) := by
  obtain ⟨_, _, hlen, hgd⟩ := bX hg
  refine ⟨fun v => ?_, fun v _ u hu => ?_⟩
  · unfold bY
    refine Nat.le_trans (l6 _) ?_;rw [eZ];exact Nat.le_trans (lS v l) hlen
  · obtain ⟨x, hx, hux⟩ := k6.1 hu
    obtain ⟨i, hi, rfl⟩ := List.mem_iff_getElem.1 hx
    have := hgd i hi
    unfold nbr at hux
    split at hux
    · simp at hux
    · split at hux
      · simp at hux; omega
      · split at hux
        · simp at hux; omega
        · simp at hux
theorem kY (n : Nat) (b : Bool) : (List.replicate n [Value.bool b]).flatten = dW (List.replicate n b) := by
  induction n with
  | zero => rfl
  | succ n ih => rw [List.replicate_succ, List.flatten_cons, ih]; rfl
set_option maxRecDepth 100000 in
set_option maxHeartbeats 4000000 in
theorem Region_spec (N : Int) (A : Option Addr) (l : List Arc) (cap : Nat) (c most : Int) (w : World) (hr : Ro (Fr w []) w A (l.flatMap cE)) (hl : l.length ≤ 9223372036854775807) (hN : I64 N) (hok : ∀ x ∈ l, dQ x) :
    Meets Tryz.prog 79 [.agg #[.int .i64 N, .slice A l.length cap], .int .i64 c, .int .i64 most] w [] (fun u own' => ∃ s ms, u = .tuple #[s, .int .i64 (dE N l c most).2] ∧ own' = [ms] ∧ Own 3 1 s (dE N l c most).1.length (a6 (dE N l c most).1) ms) := by
 refine r_enter Tryz.func79 rfl Tryz.ntmps79 rfl Owns.nil ?_;refine cL fun K1 kh1 => ?_;refine bE ?_;refine eI rfl rfl rfl (Does.toR rfl (cZ rfl rfl fun b3 => ?_));refine eI rfl rfl rfl (Does.toR rfl (cZ rfl rfl fun b5 => ?_));refine aP rfl rfl rfl rfl (aF rfl) ?_;refine aP rfl rfl rfl rfl (aF rfl) ?_;refine bV ?_;refine cT (kh1 _ _ _ ?_);clear kh1;refine cL fun K2 kh2 => ?_;refine cL fun K3 kh3 => ?_;refine bE ?_;refine aP rfl rfl rfl rfl (a8 (vs := [_, _]) Tryz.isAgg24 Tryz.sizeOf24 rfl rfl ⟨(rdA rfl), (rdA rfl), trivial⟩) ?_;refine eI rfl rfl rfl (Does.toR rfl (bD Tryz.call21 rfl (fun w_ hp_ => fG N A l cap w_ (hr.up0 hp_) hl hN hok) ?_));rintro _ _ ⟨rfl, rfl⟩;dsimp only [List.cons_append, List.nil_append];refine aP rfl rfl rfl rfl (aG rfl) ?_;refine aP rfl rfl rfl rfl (aV rfl rfl) ?_;refine aP rfl rfl rfl rfl (aV rfl rfl) ?_;refine aP rfl rfl rfl rfl (aF rfl) ?_;refine aP rfl rfl rfl rfl (aF rfl) ?_;refine bV ?_;refine cT (kh3 _ _ _ ?_);clear kh3;refine cL fun K4 kh4 => ?_;refine bE ?_;refine aP rfl rfl rfl rfl (aG rfl) ?_;refine aP rfl rfl rfl rfl (c6 rfl rfl) ?_;refine bV ?_;refine cT (kh4 _ _ _ ?_);clear kh4;refine iC rfl (fun c18 => ?_) (fun c18 => ?_)
 ·
  refine cL fun K5 kh5 => ?_;refine bE ?_;refine aP rfl rfl rfl rfl (aG rfl) ?_;refine aP rfl rfl rfl rfl (aF rfl) ?_;refine aP rfl rfl rfl rfl (aF rfl) ?_;refine bV ?_;refine cT (kh5 _ _ _ ?_);clear kh5;refine jX ?_;refine r_tr ?_;have e : dE N l c most = ([], (bH N l).2) := if_pos c18
  exact iX [[]] Tryz.results79 rfl rfl (show Fly.Sub _ [[], []] from (by repeat first|exact aI|refine aD ?_|refine aC rfl ?_|refine aH ?_)) ⟨_, _, by rw [e], rfl, by rw [e]; exact Own.nil _ _⟩
 ·
  refine fU ?_;refine cT (kh2 _ _ _ ?_);clear kh2;refine cL fun K6 kh6 => ?_;refine eK ?_;refine cL fun K7 kh7 => ?_;refine bE ?_;refine aP rfl rfl rfl rfl (aG rfl) ?_;refine aP rfl rfl rfl rfl (cD rfl rfl) ?_;refine aP rfl rfl rfl rfl (aG rfl) ?_;refine r_splitL 23 rfl (fun g23 => ?_) (fun g23 => ?_)
  ·
   refine r_stepN rfl rfl rfl rfl rfl rfl ?_;refine r_stepN rfl rfl rfl rfl rfl rfl ?_;refine r_stepN rfl rfl rfl rfl rfl rfl ?_;refine r_stepN rfl rfl rfl rfl rfl rfl ?_;refine aP rfl rfl rfl rfl (cF rfl rfl) ?_;refine aP rfl rfl rfl rfl (aF rfl) ?_;refine bV ?_;refine cT (kh7 _ _ _ ?_);clear kh7;refine r_condT rfl ?_;refine cL fun K8 kh8 => ?_;refine bE ?_;refine aP rfl rfl rfl rfl (aF rfl) ?_;refine aP rfl rfl rfl rfl (aF rfl) ?_;refine bV ?_;refine cT (kh8 _ _ _ ?_);clear kh8;refine jX ?_;refine r_br ?_;refine r_tr ?_;have e : dE N l c most = ([], 5) := by unfold dE; rw [if_neg c18, if_pos (by omega)]
   exact iX [[]] Tryz.results79 rfl rfl (show Fly.Sub _ [[], []] from (by repeat first|exact aI|refine aD ?_|refine aC rfl ?_|refine aH ?_)) ⟨_, _, by rw [e], rfl, by rw [e]; exact Own.nil _ _⟩
  ·
   refine k3 rfl rfl rfl rfl rfl rfl (aG rfl) ?_;refine k3 rfl rfl rfl rfl rfl rfl (aQ eE rfl) ?_;refine k3 rfl rfl rfl rfl rfl rfl (aM Tryz.isAgg3 rfl (rdA rfl)) ?_;refine k3 rfl rfl rfl rfl rfl rfl (h7 rfl rfl) ?_;refine aP rfl rfl rfl rfl (cO rfl rfl) ?_;refine aP rfl rfl rfl rfl (aF rfl) ?_;refine bV ?_;refine cT (kh7 _ _ _ ?_);clear kh7;refine iC rfl (fun c20 => ?_) (fun c20 => ?_)
   ·
    refine cL fun K9 kh9 => ?_;refine bE ?_;refine aP rfl rfl rfl rfl (aF rfl) ?_;refine aP rfl rfl rfl rfl (aF rfl) ?_;refine bV ?_;refine cT (kh9 _ _ _ ?_);clear kh9;refine jX ?_;refine r_br ?_;refine r_tr ?_;have e : dE N l c most = ([], 5) := by unfold dE; rw [if_neg c18, if_pos (by omega)]
    exact iX [[]] Tryz.results79 rfl rfl (show Fly.Sub _ [[], []] from (by repeat first|exact aI|refine aD ?_|refine aC rfl ?_|refine aH ?_)) ⟨_, _, by rw [e], rfl, by rw [e]; exact Own.nil _ _⟩
   ·
    refine cL fun K10 kh10 => ?_;refine bE ?_;refine aP rfl rfl rfl rfl (aM Tryz.isAgg3 rfl (rdA rfl)) ?_;refine aP rfl rfl rfl rfl (cD rfl rfl) ?_;refine aP rfl rfl rfl rfl (aG rfl) ?_;refine r_splitL 32 rfl (fun g32 => ?_) (fun g32 => ?_)
    ·
     refine r_stepN rfl rfl rfl rfl rfl rfl ?_;refine r_stepN rfl rfl rfl rfl rfl rfl ?_;refine aP rfl rfl rfl rfl (cF rfl rfl) ?_;refine aP rfl rfl rfl rfl (aF rfl) ?_;refine bV ?_;refine cT (kh10 _ _ _ ?_);clear kh10;refine r_condT rfl ?_;refine cL fun K11 kh11 => ?_;refine bE ?_;refine aP rfl rfl rfl rfl (aF rfl) ?_;refine aP rfl rfl rfl rfl (aF rfl) ?_;refine bV ?_;refine cT (kh11 _ _ _ ?_);clear kh11;refine jX ?_;refine r_br ?_;refine r_tr ?_;have e : dE N l c most = ([], 1) := by unfold dE; rw [if_neg c18, if_neg (by omega), if_pos (by omega)]
     exact iX [[]] Tryz.results79 rfl rfl (show Fly.Sub _ [[], []] from (by repeat first|exact aI|refine aD ?_|refine aC rfl ?_|refine aH ?_)) ⟨_, _, by rw [e], rfl, by rw [e]; exact Own.nil _ _⟩
    ·
     refine k3 rfl rfl rfl rfl rfl rfl (aM Tryz.isAgg3 rfl (rdA rfl)) ?_;refine k3 rfl rfl rfl rfl rfl rfl (eQ rfl rfl) ?_;refine aP rfl rfl rfl rfl (cO rfl rfl) ?_;refine aP rfl rfl rfl rfl (aF rfl) ?_;refine bV ?_;refine cT (kh10 _ _ _ ?_);clear kh10;refine iC rfl (fun c29 => ?_) (fun c29 => ?_)
     ·
      refine cL fun K12 kh12 => ?_;refine bE ?_;refine aP rfl rfl rfl rfl (aF rfl) ?_;refine aP rfl rfl rfl rfl (aF rfl) ?_;refine bV ?_;refine cT (kh12 _ _ _ ?_);clear kh12;refine jX ?_;refine r_br ?_;refine r_tr ?_;have e : dE N l c most = ([], 1) := by unfold dE; rw [if_neg c18, if_neg (by omega), if_pos (by omega)]
      exact iX [[]] Tryz.results79 rfl rfl (show Fly.Sub _ [[], []] from (by repeat first|exact aI|refine aD ?_|refine aC rfl ?_|refine aH ?_)) ⟨_, _, by rw [e], rfl, by rw [e]; exact Own.nil _ _⟩
     ·
      refine fU ?_;refine r_bn ?_;refine cT (kh6 _ _ _ ?_);clear kh6;refine cL fun K13 kh13 => ?_;have hg : (bH N l).2 = 0 := by simpa using c18
      obtain ⟨hg1, hg2, hgl, hgd⟩ := bX hg
      obtain ⟨n, rfl⟩ : ∃ n : Nat, N = (n : Int) := ⟨N.toNat, by omega⟩
      obtain ⟨cn, rfl⟩ : ∃ cn : Nat, c = (cn : Int) := ⟨c.toNat, by omega⟩
      obtain ⟨mn, rfl⟩ : ∃ mn : Nat, most = (mn : Int) := ⟨most.toNat, by omega⟩
      have hn1 : n ≤ 1024 := by omega
      obtain ⟨hrl, hrng⟩ := iZ hg
      have hres : dE (n : Int) l (cn : Int) (mn : Int) = ((bfs n (fun v : Nat => bY (v : Int) l) cn (List.replicate n false)).1.take mn, 0) := by unfold dE; rw [if_neg (by rw [hg]; simp), if_neg (by omega), if_neg (by omega), Int.toNat_natCast, Int.toNat_natCast, Int.toNat_natCast]
      refine bE ?_;refine eI rfl rfl rfl (Does.toR rfl (cU Tryz.zeroValue25 rfl fun b10 => ?_));refine bV ?_;refine cT (kh13 _ _ _ ?_);clear kh13;refine cL fun K14 kh14 => ?_;refine cL fun K15 kh15 => ?_;refine r_old ?_;refine dH [[(b3, blk [.int .i64 (n : Int), .slice A l.length cap] 24)]] rfl ?_;refine aU 0 rfl (by decide +kernel) rfl rfl rfl (by repeat first|exact aI|refine aD ?_|refine aC rfl ?_|refine aH ?_) (a8 (vs := [_, _]) Tryz.isAgg24 Tryz.sizeOf24 rfl rfl ⟨(rdA rfl), (rdA rfl), trivial⟩) ?_;refine aU 2 rfl (by decide +kernel) rfl rfl rfl (by repeat first|exact aI|refine aD ?_|refine aC rfl ?_|refine aH ?_) (aG rfl) ?_;refine aU 3 rfl (by decide +kernel) rfl rfl rfl (by repeat first|exact aI|refine aD ?_|refine aC rfl ?_|refine aH ?_) (aQ eE rfl) ?_;refine aU 4 rfl (by decide +kernel) rfl rfl rfl (by repeat first|exact aI|refine aD ?_|refine aC rfl ?_|refine aH ?_) (aM Tryz.isAgg3 rfl (rdA rfl)) ?_;refine jE 1 5 rfl rfl (by decide +kernel) rfl rfl rfl rfl rfl rfl ?_ ?_
      ·
       refine (bD Tryz.call87 rfl (fun w_ hp_ => lM n A l cap w_ (hr.up0 hp_) hn1 hgl hgd) ?_);rintro _ _ ⟨bo, vs, ms, rfl, rfl, hR⟩;dsimp only [List.cons_append, List.nil_append];refine ⟨(by repeat first|exact aI|refine aD ?_|refine aC rfl ?_|refine aH ?_), ?_⟩;refine bQ 5 rfl (by decide +kernel) rfl rfl rfl (d3 el43 rfl rfl n rfl (by omega) (by omega) (dW (List.replicate n false)) (kY n false) fun b41 => ⟨(by repeat first|exact aI|refine aD ?_|refine aC rfl ?_|refine aH ?_), ?_⟩);refine bQ 6 rfl (by decide +kernel) rfl rfl rfl (bD Tryz.call88 rfl (fun w_ hp_ => around_spec n bo b41 (cn : Int) w_) ?_);rintro _ _ ⟨q3, q4, q5, rfl, rfl⟩;dsimp only [List.cons_append, List.nil_append];refine ⟨(by repeat first|exact aI|refine aD ?_|refine aC rfl ?_|refine aH ?_), ?_⟩;refine dF (by decide +kernel) ?_;refine r_new ?_;refine cT (kh15 _ _ _ ?_);clear kh15;refine eK ?_;refine r_range (p := 43) (lb := [.pointer (some ⟨q5, 0, none⟩), .pointer (some ⟨q4, 0, none⟩), .pointer (some ⟨q3, 0, none⟩)]) rfl Tryz.call111 rfl [[(b10, blk [.slice none 0 0] 25)], [(b5, blk [.int .i64 (mn : Int)] 3)]] [[(q5, blk [.slice (some ⟨b41, 0, none⟩) n n] 43)], [(q4, blk [.int .i64 (cn : Int)] 3)], [(q3, blk [.slice (some ⟨bo, 0, none⟩) n n] 30)], [(b41, blk (dW (List.replicate n false)) 4)], [(bo, blk vs 25)], ms.flatten] [] (by repeat (first | exact Sub.refl | exact aI | refine aD ?_ | refine aC rfl ?_ | refine aH ?_)) (fun y : Int => Value.int .i64 y) (may := arMay (bfs n (fun v : Nat => bY (v : Int) l) cn (List.replicate n false))) (Fin := arFin (bfs n (fun v : Nat => bY (v : Int) l) cn (List.replicate n false)) n cn b41 bo q3 q4 q5 vs ms.flatten) (Stp := arStp (bfs n (fun v : Nat => bY (v : Int) l) cn (List.replicate n false)) n cn b41 bo q3 q4 q5 vs ms.flatten) (fun w1_ m0_ hp_ => l9 n cn b41 bo q3 q4 q5 l (List.replicate n false) vs ms m0_ w1_ (by simp) (by omega) hn1 hR hrng hrl) (fun ys m => ys.length < mn ∧ ∃ vo mo, m = [(b10, blk [vo] 25), (b5, blk [.int .i64 (mn : Int)] 3)] ++ mo ∧ Own 3 1 vo ys.length (a6 ys) mo) (fun ys m => ys.length = mn ∧ ∃ vo mo, m = [(b10, blk [vo] 25), (b5, blk [.int .i64 (mn : Int)] 3)] ++ mo ∧ Own 3 1 vo ys.length (a6 ys) mo) (.exit 1) (⟨by show 0 < mn; omega, .slice none 0 0, [], rfl, Own.nil _ _⟩) ?_ ?_ ?_
       ·
        intro w1_ l_ d_ ys y m_ hI hmay hfr K_ kh_;obtain ⟨hlt, vo, mo, rfl, hO⟩ := hI
        obtain ⟨Ao, co, rfl, hco⟩ := hO.val
        refine r_subC (Sub.op3 (parts := [[(b10, blk [.slice Ao ys.length co] 25)], [(b5, blk [.int .i64 (mn : Int)] 3)], mo]) (by simp) Sub.refl) ?_;dsimp only [List.cons_append, List.nil_append];refine bE ?_;refine aP rfl rfl rfl rfl (aF rfl) ?_;refine bV ?_;refine cT (kh_ _ _ ?_);clear kh_;refine eK ?_;refine cL fun K16 kh16 => ?_;refine bE ?_;refine aP rfl rfl rfl rfl (aM Tryz.isAgg25 rfl (rdA rfl)) ?_;refine aP rfl rfl rfl rfl (aG rfl) ?_;refine eI rfl rfl rfl (Does.toR rfl (dA dV (by omega) rfl rfl rfl fun b46 => ?_));refine eI rfl rfl rfl (Does.toR rfl (dG dV rfl rfl hO (ys := [.int .i64 y]) ⟨(rdA rfl), trivial⟩ rfl rfl (by omega) (by omega) fun v47 m47 o47 => ?_));obtain ⟨A47, c47, rfl, _⟩ := o47.val
        refine iM rfl rfl (Does.toR rfl (cB Tryz.sizeOf25 rfl rfl rfl rfl (by first | exact Nat.le_of_ble_eq_true rfl | (simp; done) | (simp; omega)) [.slice A47 (ys.length + 1) c47] rfl ?_));refine bV ?_;refine cT (kh16 _ _ _ ?_);clear kh16;refine cL fun K17 kh17 => ?_;refine bE ?_;refine aP rfl rfl rfl rfl (aM Tryz.isAgg25 rfl (rdA rfl)) ?_;refine aP rfl rfl rfl rfl (bS bK rfl) ?_;refine aP rfl rfl rfl rfl (aM Tryz.isAgg3 rfl (rdA rfl)) ?_;refine aP rfl rfl rfl rfl (fM rfl rfl) ?_;refine bV ?_;refine cT (kh17 _ _ _ ?_);clear kh17;refine iC rfl (fun c51 => ?_) (fun c51 => ?_)
        ·
         refine iY ?_;refine r_bo rfl ?_;exact r_roundOut (m' := [(b10, blk [.slice A47 (ys.length + 1) c47] 25), (b5, blk [.int .i64 (mn : Int)] 3)] ++ m47) (.inr ⟨_, rfl, rfl⟩) (Sub.reg (out := [[(l_, .loop (d_.rc .busy none))], [(d_.D, .deferred (some []))], [(b10, blk [.slice A47 (ys.length + 1) c47] 25)], [(b5, blk [.int .i64 (mn : Int)] 3)], m47]) (by repeat first|exact aI|refine aD ?_|refine aC rfl ?_|refine aH ?_) (by simp)) ⟨by simp at c51 ⊢; omega, _, m47, rfl, by rw [List.length_append, dZ]; exact o47⟩
        ·
         refine fU ?_;refine r_bn ?_;exact lN (m' := [(b10, blk [.slice A47 (ys.length + 1) c47] 25), (b5, blk [.int .i64 (mn : Int)] 3)] ++ m47) (Sub.reg (out := [[(l_, .loop (d_.rc .busy none))], [(d_.D, .deferred (some []))], [(b10, blk [.slice A47 (ys.length + 1) c47] 25)], [(b5, blk [.int .i64 (mn : Int)] 3)], m47]) (by repeat first|exact aI|refine aD ?_|refine aC rfl ?_|refine aH ?_) (by simp)) ⟨by simp at c51 ⊢; omega, _, m47, rfl, by rw [List.length_append, dZ]; exact o47⟩
       ·
        intro D_ ys m_ o_ hF hI;obtain ⟨hlt, vo, mo, rfl, hO⟩ := hI
        obtain ⟨Ao, co, rfl, hco⟩ := hO.val
        obtain ⟨hF1, rfl⟩ := hF
        have hys : (bfs n (fun v : Nat => bY (v : Int) l) cn (List.replicate n false)).1.take mn = ys := by rw [← hF1]; exact List.take_of_length_le (by omega)
        refine r_subQ (Sub.op2 (parts := [[(b10, blk [.slice Ao ys.length co] 25)], [(b5, blk [.int .i64 (mn : Int)] 3)], mo]) (by simp) (show Fly.Sub _ [[(D_, .deferred (some []))], [(b10, blk [.slice Ao ys.length co] 25)], mo] from by dsimp only [List.cons_append, List.nil_append]; repeat first|exact aI|refine aD ?_|refine aC rfl ?_|refine aH ?_)) ?_;refine r_bn ?_;refine cT (kh14 _ _ _ ?_);clear kh14;refine cL fun K18 kh18 => ?_;refine bE ?_;refine aP rfl rfl rfl rfl (aM Tryz.isAgg25 rfl (rdA rfl)) ?_;refine aP rfl rfl rfl rfl (aF rfl) ?_;refine aP rfl rfl rfl rfl (aF rfl) ?_;refine bV ?_;refine cT (kh18 _ _ _ ?_);clear kh18;refine jX ?_;exact iX [mo] Tryz.results79 rfl rfl (show Fly.Sub _ ([(D_, Obj.deferred (some []))] :: [mo]) from (by repeat first|exact aI|refine aD ?_|refine aC rfl ?_|refine aH ?_)) ⟨.slice Ao ys.length co, mo, by rw [hres], rfl, by rw [hres]; simp only; rw [hys]; exact hO⟩
       ·
        intro D_ ys m_ o_ hF hI;obtain ⟨hlt, vo, mo, rfl, hO⟩ := hI
        obtain ⟨Ao, co, rfl, hco⟩ := hO.val
        obtain ⟨kk, hkk, hF1, b', hb', rfl⟩ := hF
        have hys : (bfs n (fun v : Nat => bY (v : Int) l) cn (List.replicate n false)).1.take mn = ys := by rw [hF1]; congr 1; rw [hF1, List.length_take] at hlt; omega
        refine r_subC (Sub.op2 (parts := [[(b10, blk [.slice Ao ys.length co] 25)], [(b5, blk [.int .i64 (mn : Int)] 3)], mo]) (by simp) (show Fly.Sub _ [[(D_, .deferred (some []))], [(b10, blk [.slice Ao ys.length co] 25)], mo] from by dsimp only [List.cons_append, List.nil_append]; repeat first|exact aI|refine aD ?_|refine aC rfl ?_|refine aH ?_)) ?_;refine iY ?_;refine r_be ?_;refine cT (kh14 _ _ _ ?_);clear kh14;refine cL fun K19 kh19 => ?_;refine bE ?_;refine aP rfl rfl rfl rfl (aM Tryz.isAgg25 rfl (rdA rfl)) ?_;refine aP rfl rfl rfl rfl (aF rfl) ?_;refine aP rfl rfl rfl rfl (aF rfl) ?_;refine bV ?_;refine cT (kh19 _ _ _ ?_);clear kh19;refine jX ?_;exact iX [mo] Tryz.results79 rfl rfl (show Fly.Sub _ ([(D_, Obj.deferred (some []))] :: [mo]) from (by repeat first|exact aI|refine aD ?_|refine aC rfl ?_|refine aH ?_)) ⟨.slice Ao ys.length co, mo, by rw [hres], rfl, by rw [hres]; simp only; rw [hys]; exact hO⟩
      ·
       refine (d3 el43 rfl rfl n rfl (by omega) (by omega) (dW (List.replicate n false)) (kY n false) fun b41 => ⟨(by repeat first|exact aI|refine aD ?_|refine aC rfl ?_|refine aH ?_), ?_⟩);refine bQ 1 rfl (by decide +kernel) rfl rfl rfl (bD Tryz.call87 rfl (fun w_ hp_ => lM n A l cap w_ (hr.up0 hp_) hn1 hgl hgd) ?_);rintro _ _ ⟨bo, vs, ms, rfl, rfl, hR⟩;dsimp only [List.cons_append, List.nil_append];refine ⟨(by repeat first|exact aI|refine aD ?_|refine aC rfl ?_|refine aH ?_), ?_⟩;refine bQ 6 rfl (by decide +kernel) rfl rfl rfl (bD Tryz.call88 rfl (fun w_ hp_ => around_spec n bo b41 (cn : Int) w_) ?_);rintro _ _ ⟨q3, q4, q5, rfl, rfl⟩;dsimp only [List.cons_append, List.nil_append];refine ⟨(by repeat first|exact aI|refine aD ?_|refine aC rfl ?_|refine aH ?_), ?_⟩;refine dF (by decide +kernel) ?_;refine r_new ?_;refine cT (kh15 _ _ _ ?_);clear kh15;refine eK ?_;refine r_range (p := 43) (lb := [.pointer (some ⟨q5, 0, none⟩), .pointer (some ⟨q4, 0, none⟩), .pointer (some ⟨q3, 0, none⟩)]) rfl Tryz.call111 rfl [[(b10, blk [.slice none 0 0] 25)], [(b5, blk [.int .i64 (mn : Int)] 3)]] [[(q5, blk [.slice (some ⟨b41, 0, none⟩) n n] 43)], [(q4, blk [.int .i64 (cn : Int)] 3)], [(q3, blk [.slice (some ⟨bo, 0, none⟩) n n] 30)], [(b41, blk (dW (List.replicate n false)) 4)], [(bo, blk vs 25)], ms.flatten] [] (by repeat (first | exact Sub.refl | exact aI | refine aD ?_ | refine aC rfl ?_ | refine aH ?_)) (fun y : Int => Value.int .i64 y) (may := arMay (bfs n (fun v : Nat => bY (v : Int) l) cn (List.replicate n false))) (Fin := arFin (bfs n (fun v : Nat => bY (v : Int) l) cn (List.replicate n false)) n cn b41 bo q3 q4 q5 vs ms.flatten) (Stp := arStp (bfs n (fun v : Nat => bY (v : Int) l) cn (List.replicate n false)) n cn b41 bo q3 q4 q5 vs ms.flatten) (fun w1_ m0_ hp_ => l9 n cn b41 bo q3 q4 q5 l (List.replicate n false) vs ms m0_ w1_ (by simp) (by omega) hn1 hR hrng hrl) (fun ys m => ys.length < mn ∧ ∃ vo mo, m = [(b10, blk [vo] 25), (b5, blk [.int .i64 (mn : Int)] 3)] ++ mo ∧ Own 3 1 vo ys.length (a6 ys) mo) (fun ys m => ys.length = mn ∧ ∃ vo mo, m = [(b10, blk [vo] 25), (b5, blk [.int .i64 (mn : Int)] 3)] ++ mo ∧ Own 3 1 vo ys.length (a6 ys) mo) (.exit 1) (⟨by show 0 < mn; omega, .slice none 0 0, [], rfl, Own.nil _ _⟩) ?_ ?_ ?_
       ·
        intro w1_ l_ d_ ys y m_ hI hmay hfr K_ kh_;obtain ⟨hlt, vo, mo, rfl, hO⟩ := hI
        obtain ⟨Ao, co, rfl, hco⟩ := hO.val
        refine r_subC (Sub.op3 (parts := [[(b10, blk [.slice Ao ys.length co] 25)], [(b5, blk [.int .i64 (mn : Int)] 3)], mo]) (by simp) Sub.refl) ?_;dsimp only [List.cons_append, List.nil_append];refine bE ?_;refine aP rfl rfl rfl rfl (aF rfl) ?_;refine bV ?_;refine cT (kh_ _ _ ?_);clear kh_;refine eK ?_;refine cL fun K20 kh20 => ?_;refine bE ?_;refine aP rfl rfl rfl rfl (aM Tryz.isAgg25 rfl (rdA rfl)) ?_;refine aP rfl rfl rfl rfl (aG rfl) ?_;refine eI rfl rfl rfl (Does.toR rfl (dA dV (by omega) rfl rfl rfl fun b46 => ?_));refine eI rfl rfl rfl (Does.toR rfl (dG dV rfl rfl hO (ys := [.int .i64 y]) ⟨(rdA rfl), trivial⟩ rfl rfl (by omega) (by omega) fun v47 m47 o47 => ?_));obtain ⟨A47, c47, rfl, _⟩ := o47.val
        refine iM rfl rfl (Does.toR rfl (cB Tryz.sizeOf25 rfl rfl rfl rfl (by first | exact Nat.le_of_ble_eq_true rfl | (simp; done) | (simp; omega)) [.slice A47 (ys.length + 1) c47] rfl ?_));refine bV ?_;refine cT (kh20 _ _ _ ?_);clear kh20;refine cL fun K21 kh21 => ?_;refine bE ?_;refine aP rfl rfl rfl rfl (aM Tryz.isAgg25 rfl (rdA rfl)) ?_;refine aP rfl rfl rfl rfl (bS bK rfl) ?_;refine aP rfl rfl rfl rfl (aM Tryz.isAgg3 rfl (rdA rfl)) ?_;refine aP rfl rfl rfl rfl (fM rfl rfl) ?_;refine bV ?_;refine cT (kh21 _ _ _ ?_);clear kh21;refine iC rfl (fun c51 => ?_) (fun c51 => ?_)
        ·
         refine iY ?_;refine r_bo rfl ?_;exact r_roundOut (m' := [(b10, blk [.slice A47 (ys.length + 1) c47] 25), (b5, blk [.int .i64 (mn : Int)] 3)] ++ m47) (.inr ⟨_, rfl, rfl⟩) (Sub.reg (out := [[(l_, .loop (d_.rc .busy none))], [(d_.D, .deferred (some []))], [(b10, blk [.slice A47 (ys.length + 1) c47] 25)], [(b5, blk [.int .i64 (mn : Int)] 3)], m47]) (by repeat first|exact aI|refine aD ?_|refine aC rfl ?_|refine aH ?_) (by simp)) ⟨by simp at c51 ⊢; omega, _, m47, rfl, by rw [List.length_append, dZ]; exact o47⟩
        ·
         refine fU ?_;refine r_bn ?_;exact lN (m' := [(b10, blk [.slice A47 (ys.length + 1) c47] 25), (b5, blk [.int .i64 (mn : Int)] 3)] ++ m47) (Sub.reg (out := [[(l_, .loop (d_.rc .busy none))], [(d_.D, .deferred (some []))], [(b10, blk [.slice A47 (ys.length + 1) c47] 25)], [(b5, blk [.int .i64 (mn : Int)] 3)], m47]) (by repeat first|exact aI|refine aD ?_|refine aC rfl ?_|refine aH ?_) (by simp)) ⟨by simp at c51 ⊢; omega, _, m47, rfl, by rw [List.length_append, dZ]; exact o47⟩
       ·
        intro D_ ys m_ o_ hF hI;obtain ⟨hlt, vo, mo, rfl, hO⟩ := hI
        obtain ⟨Ao, co, rfl, hco⟩ := hO.val
        obtain ⟨hF1, rfl⟩ := hF
        have hys : (bfs n (fun v : Nat => bY (v : Int) l) cn (List.replicate n false)).1.take mn = ys := by rw [← hF1]; exact List.take_of_length_le (by omega)
        refine r_subQ (Sub.op2 (parts := [[(b10, blk [.slice Ao ys.length co] 25)], [(b5, blk [.int .i64 (mn : Int)] 3)], mo]) (by simp) (show Fly.Sub _ [[(D_, .deferred (some []))], [(b10, blk [.slice Ao ys.length co] 25)], mo] from by dsimp only [List.cons_append, List.nil_append]; repeat first|exact aI|refine aD ?_|refine aC rfl ?_|refine aH ?_)) ?_;refine r_bn ?_;refine cT (kh14 _ _ _ ?_);clear kh14;refine cL fun K22 kh22 => ?_;refine bE ?_;refine aP rfl rfl rfl rfl (aM Tryz.isAgg25 rfl (rdA rfl)) ?_;refine aP rfl rfl rfl rfl (aF rfl) ?_;refine aP rfl rfl rfl rfl (aF rfl) ?_;refine bV ?_;refine cT (kh22 _ _ _ ?_);clear kh22;refine jX ?_;exact iX [mo] Tryz.results79 rfl rfl (show Fly.Sub _ ([(D_, Obj.deferred (some []))] :: [mo]) from (by repeat first|exact aI|refine aD ?_|refine aC rfl ?_|refine aH ?_)) ⟨.slice Ao ys.length co, mo, by rw [hres], rfl, by rw [hres]; simp only; rw [hys]; exact hO⟩
       ·
        intro D_ ys m_ o_ hF hI;obtain ⟨hlt, vo, mo, rfl, hO⟩ := hI
        obtain ⟨Ao, co, rfl, hco⟩ := hO.val
        obtain ⟨kk, hkk, hF1, b', hb', rfl⟩ := hF
        have hys : (bfs n (fun v : Nat => bY (v : Int) l) cn (List.replicate n false)).1.take mn = ys := by rw [hF1]; congr 1; rw [hF1, List.length_take] at hlt; omega
        refine r_subC (Sub.op2 (parts := [[(b10, blk [.slice Ao ys.length co] 25)], [(b5, blk [.int .i64 (mn : Int)] 3)], mo]) (by simp) (show Fly.Sub _ [[(D_, .deferred (some []))], [(b10, blk [.slice Ao ys.length co] 25)], mo] from by dsimp only [List.cons_append, List.nil_append]; repeat first|exact aI|refine aD ?_|refine aC rfl ?_|refine aH ?_)) ?_;refine iY ?_;refine r_be ?_;refine cT (kh14 _ _ _ ?_);clear kh14;refine cL fun K23 kh23 => ?_;refine bE ?_;refine aP rfl rfl rfl rfl (aM Tryz.isAgg25 rfl (rdA rfl)) ?_;refine aP rfl rfl rfl rfl (aF rfl) ?_;refine aP rfl rfl rfl rfl (aF rfl) ?_;refine bV ?_;refine cT (kh23 _ _ _ ?_);clear kh23;refine jX ?_;exact iX [mo] Tryz.results79 rfl rfl (show Fly.Sub _ ([(D_, Obj.deferred (some []))] :: [mo]) from (by repeat first|exact aI|refine aD ?_|refine aC rfl ?_|refine aH ?_)) ⟨.slice Ao ys.length co, mo, by rw [hres], rfl, by rw [hres]; simp only; rw [hys]; exact hO⟩
end Go.Proofs.YtjjogcnjcnpehaaGreat

/- slices.IndexFunc, slices.ContainsFunc, slices.Clone over numbers. -/
namespace Go.Proofs.YtjjogcnjcnpehaaGreat
open Go Go.RowKit Fly
set_option linter.unusedVariables false
set_option linter.unusedSimpArgs false
theorem anyG_no {α : Type} {p : α → Bool} {l : List α} {k : Nat} (hk : l.length ≤ k) (h : ∀ j (a : j < l.length), j < k → p l[j] = false) : l.any p = false := List.any_eq_false.2 fun x hx => by
  obtain ⟨i, hi, rfl⟩ := List.mem_iff_getElem.1 hx
  simp [h i hi (by omega)]
theorem anyG_yes {α : Type} {p : α → Bool} {l : List α} {k : Nat} (hk : k < l.length) (h : p l[k] = true) : l.any p = true := List.any_eq_true.2 ⟨_, List.getElem_mem hk, h⟩
theorem ints_oneG (l : List Int) : (a6 l).all (·.oneCell') = true := by
  induction l with
  | nil => rfl
  | cons x l ih => rw [show a6 (x :: l) = .int .i64 x :: a6 l from rfl, List.all_cons, ih]; rfl
set_option maxRecDepth 100000 in
set_option maxHeartbeats 4000000 in
theorem IdxG_spec (A : Option Addr) (l : List Int) (cap : Nat) (p : Int → Bool) (fi : FuncId) (capi : List Value) (w : World) (hr : Ro (Fr w []) w A (a6 l)) (hm : l.length ≤ 9223372036854775807) (hci : ∀ args w, (callFunc fi args).run Tryz.prog w = .ok (.enter fi args) w)
    (his : ∀ w', (∀ k, Fr w [] k → w'.heap[k]? = w.heap[k]?) → ∀ i, i ∈ l → Meets Tryz.prog fi ([.int .i64 i] ++ capi) w' [] (fun u m => u = .bool (p i) ∧ m = [])) :
    Meets Tryz.prog 52 [.slice A l.length cap, .func (.func fi) #[] capi.toArray] w [] (fun u m => ∃ r, u = .int .i64 r ∧ m = [] ∧ decide (0 ≤ r) = l.any p) := by
 refine bJ Tryz.func52 rfl Tryz.ntmps52 rfl Owns.nil ?_;refine aK fun K1 kh1 => ?_;refine aB ?_;refine aA rfl rfl rfl (aF rfl) ?_;refine aJ ?_;refine aL (kh1 _ _ ?_);clear kh1;refine aK fun K2 kh2 => ?_;refine aK fun K3 kh3 => ?_;refine aB ?_;refine aA rfl rfl rfl (aG rfl) ?_;refine aA rfl rfl rfl (bS bK rfl) ?_;refine aA rfl rfl rfl (aG rfl) ?_;refine aJ ?_;refine aL (kh3 _ _ ?_);clear kh3;refine aY ?_;refine jO (α := Nat) [0, 1, 7] (fun k => [(8, .int .i64 (k : Int))]) (fun k => k ≤ l.length ∧ ∀ j (a : j < l.length), j < k → p l[j] = false) (fun k => l.length - k) (0) ?_ ?_ ?_
 · exact (by repeat constructor)
 · exact ⟨Nat.zero_le _, fun j _ h => by omega⟩
 ·
  rintro k ⟨hkl, hpre⟩;refine aK fun K4 kh4 => ?_;refine aB ?_;refine aA rfl rfl rfl (cD rfl rfl) ?_;refine aJ ?_;refine aL (kh4 _ _ ?_);clear kh4;refine aK fun K5 kh5 => ?_;refine aZ rfl (fun c9 => ?_) (fun c9 => ?_)
  ·
   refine aW ?_;refine aL (kh5 _ _ ?_);clear kh5;refine aK fun K6 kh6 => ?_;refine aY ?_;refine aK fun K7 kh7 => ?_;refine aB ?_;refine aA rfl rfl rfl (aG rfl) ?_;refine aA rfl rfl rfl (aF rfl) ?_;refine aJ ?_;refine aL (kh7 _ _ ?_);clear kh7;refine aK fun K8 kh8 => ?_;refine aB ?_;refine aA rfl rfl rfl (aG rfl) ?_;refine aA rfl rfl rfl (aG rfl) ?_;refine aA rfl rfl rfl (aG rfl) ?_;have hk : k < l.length := by omega
   obtain ⟨b1, o1, rfl, hS1, hc1⟩ := hr (map_ne hk)
   refine aA rfl rfl rfl (bA bK rfl rfl (o1 + k) ⟨by omega, by omega, by first | omega | (simp; done) | (simp; omega)⟩) ?_;refine aA rfl rfl rfl (aM Tryz.isAgg3 rfl (dX (enc := (.int .i64 ·)) hS1 hc1 hk)) ?_;refine aR rfl rfl rfl (lQ [] _ hci rfl rfl Sub.refl (fun w_ hp_ => (by have h := his w_ (fun k hk => hp_.same k hk) _ (List.getElem_mem hk); exact h)) ?_);rintro _ _ ⟨rfl, rfl⟩;dsimp only [List.cons_append, List.nil_append];refine aJ ?_;refine aL (kh8 _ _ ?_);clear kh8;refine fC rfl (fun c16 => ?_) (fun c16 => ?_)
   ·
    refine aK fun K9 kh9 => ?_;refine aB ?_;refine aA rfl rfl rfl (aG rfl) ?_;refine aA rfl rfl rfl (aF rfl) ?_;refine aJ ?_;refine aL (kh9 _ _ ?_);clear kh9;refine a7 ?_;refine eC ?_;refine bT ?_;refine bT ?_;refine eC ?_;refine bT ?_;exact bP [] Tryz.results52 rfl aI ⟨_, rfl, rfl, by rw [anyG_yes hk c16]; simp⟩
   ·
    refine aW ?_;refine cV ?_;refine aL (kh6 _ _ ?_);clear kh6;refine aB ?_;refine aA rfl rfl rfl (bG rfl rfl _ (aT (by omega))) ?_;refine aA rfl rfl rfl (aG rfl) ?_;refine aJ ?_;refine aL (bB (k + 1) (by first | omega | (dsimp only; omega) | (simp; omega)) ⟨by omega, false_next (hk := hk) hpre (by simpa using c16)⟩ ?_ ?_ ?_)
    · exact (by repeat constructor)
    · exact (by repeat constructor)
    · repeat first|exact aI|refine aD ?_|refine aC rfl ?_|refine aH ?_
  ·
   refine cG ?_;refine cK ?_;clear kh5;refine cK ?_;refine d5 ?_;refine aL (kh2 _ _ ?_);clear kh2;refine aK fun K10 kh10 => ?_;refine aB ?_;refine aA rfl rfl rfl (aF rfl) ?_;refine aJ ?_;refine aL (kh10 _ _ ?_);clear kh10;refine a7 ?_;exact bP [] Tryz.results52 rfl aI ⟨_, rfl, rfl, by rw [anyG_no (by omega) hpre]; rfl⟩
set_option maxRecDepth 100000 in
set_option maxHeartbeats 4000000 in
theorem ContG_spec (A : Option Addr) (l : List Int) (cap : Nat) (p : Int → Bool) (fi : FuncId) (capi : List Value) (w : World) (hr : Ro (Fr w []) w A (a6 l)) (hm : l.length ≤ 9223372036854775807) (hci : ∀ args w, (callFunc fi args).run Tryz.prog w = .ok (.enter fi args) w)
    (his : ∀ w', (∀ k, Fr w [] k → w'.heap[k]? = w.heap[k]?) → ∀ i, i ∈ l → Meets Tryz.prog fi ([.int .i64 i] ++ capi) w' [] (fun u m => u = .bool (p i) ∧ m = [])) :
    Meets Tryz.prog 33 [.slice A l.length cap, .func (.func fi) #[] capi.toArray] w [] (fun u m => u = .bool (l.any p) ∧ m = []) := by
 refine bJ Tryz.func33 rfl Tryz.ntmps33 rfl Owns.nil ?_;refine aK fun K1 kh1 => ?_;refine aB ?_;refine aA rfl rfl rfl (aF rfl) ?_;refine aJ ?_;refine aL (kh1 _ _ ?_);clear kh1;refine aK fun K2 kh2 => ?_;refine aB ?_;refine aA rfl rfl rfl (aG rfl) ?_;refine aA rfl rfl rfl (aG rfl) ?_;refine aR rfl rfl rfl (bD Tryz.call52 rfl (fun w_ hp_ => IdxG_spec A l cap p fi capi w_ (hr.up0 hp_) hm hci (fun w' hs i hi => his w' (fun k hk => by rw [hs k ⟨Nat.lt_of_lt_of_le (hp_.lt k hk) hp_.size, by simp⟩]; exact hp_.same k hk) i hi)) ?_);rintro _ _ ⟨r, rfl, rfl, hr2⟩;dsimp only [List.cons_append, List.nil_append];refine aA rfl rfl rfl (h7 rfl rfl) ?_;refine aA rfl rfl rfl (aF rfl) ?_;refine aJ ?_;refine aL (kh2 _ _ ?_);clear kh2;refine a7 ?_;exact bP [] Tryz.results33 rfl aI ⟨by rw [← hr2], rfl⟩
set_option maxRecDepth 100000 in
set_option maxHeartbeats 4000000 in
theorem kJ (A : Option Addr) (len : Nat) (cs : List Value) (cap : Nat) (w : World) (hs : Ro (Fr w []) w A cs) (hn : A = none → len = 0) (hl : cs.length = len * 1) (hone : cs.all (·.oneCell') = true) (hmax : len ≤ 1000000000) :
    Meets Tryz.prog 19 [.slice A len cap] w [] (fun u own' => ∃ m, own' = [m] ∧ Own 3 1 u len cs m) := by
 refine bJ Tryz.func19 rfl Tryz.ntmps19 rfl Owns.nil ?_;refine aK fun K1 kh1 => ?_;refine aB ?_;refine aA rfl rfl rfl (aF rfl) ?_;refine aJ ?_;refine aL (kh1 _ _ ?_);clear kh1;refine aK fun K2 kh2 => ?_;refine aK fun K3 kh3 => ?_;refine aB ?_;refine aA rfl rfl rfl (aG rfl) ?_;refine aA rfl rfl rfl (o_eqlSl Tryz.underlying25 rfl rfl) ?_;refine aJ ?_;refine aL (kh3 _ _ ?_);clear kh3;refine fC rfl (fun c4 => ?_) (fun c4 => ?_)
 ·
  obtain rfl : A = none := by cases A <;> first | rfl | simp at c4
  obtain rfl : len = 0 := hn rfl
  obtain rfl : cs = [] := List.eq_nil_of_length_eq_zero (by simpa using hl)
  refine aK fun K4 kh4 => ?_;refine aB ?_;refine aA rfl rfl rfl (aF rfl) ?_;refine aJ ?_;refine aL (kh4 _ _ ?_);clear kh4;refine a7 ?_;refine bT ?_;exact bP [[]] Tryz.results19 rfl Sub.empty ⟨[], rfl, Own.nil _ _⟩
 · refine aW ?_;refine aL (kh2 _ _ ?_);clear kh2;refine aK fun K5 kh5 => ?_;refine aB ?_;refine aR rfl rfl rfl (o_slice0 dV fun b5 => ?_);refine aA rfl rfl rfl (aG rfl) ?_;refine aR rfl rfl rfl (o_appendQ dV rfl rfl (Own.mk (b := b5) (cs := []) (len := 0) rfl (by omega)) (ys := cs) (fun hne => by obtain ⟨b, off, e, hS, hc⟩ := hs hne; exact ⟨b, off, e, Seen.rds fun _ => ⟨hS, hc⟩⟩) hl hone (by omega) (by omega) fun v7 m7 o7 => ?_);refine aA rfl rfl rfl (aF rfl) ?_;refine aJ ?_;refine aL (kh5 _ _ ?_);clear kh5;refine a7 ?_;exact bP [m7] Tryz.results19 rfl (by repeat (first | exact aI | refine aD ?_)) ⟨m7, rfl, by simpa using o7⟩
end Go.Proofs.YtjjogcnjcnpehaaGreat

/- grow.Core, grow.Ring. -/
namespace Go.Proofs.YtjjogcnjcnpehaaGreat
open Go Go.RowKit Fly
set_option linter.unusedVariables false
set_option linter.unusedSimpArgs false
def fN (N : Int) (l : List Arc) (c most : Int) : List Int × Int := ((dE N l c most).1.take (((dE N l c most).1.length + 3) / 4), (dE N l c most).2)
theorem regR_len {N : Int} {l : List Arc} {c most : Int} : (dE N l c most).1.length ≤ 1024 := by
  unfold dE
  split
  · simp
  · split
    · simp
    · split
      · simp
      · simp only [List.length_take]; omega
theorem regR_err {N : Int} {l : List Arc} {c most : Int} (h : (dE N l c most).2 ≠ 0) : (dE N l c most).1 = [] := by
  unfold dE at h ⊢
  split
  · rfl
  · split
    · rfl
    · split
      · rfl
      · rename_i h1 h2 h3; rw [if_neg h1, if_neg h2, if_neg h3] at h; exact absurd rfl h
def offV (N : Int) (v : Int) : Bool := decide (v < 0 ∨ N ≤ v)
theorem nodup_not {M : List Int} {k : Nat} (hk : k < M.length) (h : M[k] ∈ M.take k) : ¬ M.Nodup := fun hn => by
  obtain ⟨i, hi, e⟩ := List.mem_iff_getElem.1 h
  rw [List.getElem_take] at e;have hik : i < k := by simp at hi; omega
  exact List.pairwise_iff_getElem.1 hn i k (by omega) hk hik e
set_option maxRecDepth 100000 in
set_option maxHeartbeats 4000000 in
theorem Core_spec (N : Int) (A : Option Addr) (l : List Arc) (cap : Nat) (c most : Int) (w : World) (hr : Ro (Fr w []) w A (l.flatMap cE)) (hl : l.length ≤ 9223372036854775807) (hN : I64 N) (hok : ∀ x ∈ l, dQ x) :
    Meets Tryz.prog 80 [.agg #[.int .i64 N, .slice A l.length cap], .int .i64 c, .int .i64 most] w [] (fun u own' => ∃ s ms, u = .tuple #[s, .int .i64 (fN N l c most).2] ∧ own' = [ms] ∧ Own 3 1 s (fN N l c most).1.length (a6 (fN N l c most).1) ms) := by
 have hrl := regR_len (N := N) (l := l) (c := c) (most := most)
 refine bJ Tryz.func80 rfl Tryz.ntmps80 rfl Owns.nil ?_;refine aK fun K1 kh1 => ?_;refine aB ?_;refine aR rfl rfl rfl (cZ rfl rfl fun b3 => ?_);refine aA rfl rfl rfl (aF rfl) ?_;refine aA rfl rfl rfl (aF rfl) ?_;refine aJ ?_;refine aL (kh1 _ _ ?_);clear kh1;refine aK fun K2 kh2 => ?_;refine aB ?_;refine aA rfl rfl rfl (a8 (vs := [_, _]) Tryz.isAgg24 Tryz.sizeOf24 rfl rfl ⟨(rdA rfl), (rdA rfl), trivial⟩) ?_;refine aA rfl rfl rfl (aG rfl) ?_;refine aA rfl rfl rfl (aG rfl) ?_;refine aR rfl rfl rfl (bD Tryz.call79 rfl (fun w_ hp_ => Region_spec N A l cap c most w_ (hr.up0 hp_) hl hN hok) ?_);rintro _ _ ⟨s, ms, rfl, rfl, ho⟩;obtain ⟨Ao, co, rfl, hco⟩ := ho.val
 dsimp only [List.cons_append, List.nil_append];refine aA rfl rfl rfl (aG rfl) ?_;refine aA rfl rfl rfl (aV rfl rfl) ?_;refine aA rfl rfl rfl (aV rfl rfl) ?_;refine aA rfl rfl rfl (aF rfl) ?_;refine aA rfl rfl rfl (aF rfl) ?_;refine aJ ?_;refine aL (kh2 _ _ ?_);clear kh2;refine aK fun K3 kh3 => ?_;refine aK fun K4 kh4 => ?_;refine aB ?_;refine aA rfl rfl rfl (aG rfl) ?_;refine aA rfl rfl rfl (c6 rfl rfl) ?_;refine aJ ?_;refine aL (kh4 _ _ ?_);clear kh4;refine aZ rfl (fun c18 => ?_) (fun c18 => ?_)
 ·
  refine aK fun K5 kh5 => ?_;refine aB ?_;refine aA rfl rfl rfl (aG rfl) ?_;refine aA rfl rfl rfl (aF rfl) ?_;refine aA rfl rfl rfl (aF rfl) ?_;refine aJ ?_;refine aL (kh5 _ _ ?_);clear kh5;refine a7 ?_;refine bT ?_;have e1 := regR_err c18
  exact bW [[]] Tryz.results80 rfl rfl (show Fly.Sub _ [[]] from (by repeat first|exact aI|refine aD ?_|refine aC rfl ?_|refine aH ?_)) ⟨_, _, rfl, rfl, by unfold fN; rw [e1]; exact Own.nil _ _⟩
 ·
  refine aW ?_;refine aL (kh3 _ _ ?_);clear kh3;refine aK fun K6 kh6 => ?_;refine aB ?_;refine aA rfl rfl rfl (aG rfl) ?_;refine aA rfl rfl rfl (aG rfl) ?_;refine aA rfl rfl rfl (bS bK rfl) ?_;refine aA rfl rfl rfl (bG rfl rfl _ (aT (by omega))) ?_;refine aA rfl rfl rfl (o_quo rfl rfl (by decide) (((((dE N l c most).1.length + 3) / 4 : Nat)) : Int) (by rw [show ((((dE N l c most).1.length : Nat) : Int) + 3) = (((dE N l c most).1.length + 3 : Nat) : Int) by omega, show (4 : Int) = ((4 : Nat) : Int) from rfl, tdiv_nat]; exact aT (by omega))) ?_;refine aA rfl rfl rfl (e5 bK rfl rfl rfl rfl (fun h => by cases h) 0 (((dE N l c most).1.length + 3) / 4) co (.inl ⟨rfl, rfl⟩) (.inr ⟨_, _, rfl, by omega⟩) (.inl ⟨rfl, rfl⟩) ⟨by omega, by omega, by omega⟩ (.slice Ao (((dE N l c most).1.length + 3) / 4) co) (by rw [Nat.sub_zero]; congr 1; split; rfl; cases Ao with | none => rfl | some x => obtain ⟨p, q, r⟩ := x; cases r <;> simp [Addr.add])) ?_;refine aR rfl rfl rfl (bD Tryz.call19 rfl (fun w_ hp_ => kJ Ao (((dE N l c most).1.length + 3) / 4) (a6 ((dE N l c most).1.take (((dE N l c most).1.length + 3) / 4))) co w_ (by have h := eU (ho.seen hp_); rw [← List.take_append_drop (((dE N l c most).1.length + 3) / 4) (dE N l c most).1, dZ] at h; exact fun hne => by obtain ⟨b, off, e, hS, hc⟩ := h (by simp [hne]); exact ⟨b, off, e, hS, fun j v hj => hc j v (dN hj)⟩) (fun e => by have := j0 ho e; omega) (by rw [aX, List.length_take]; omega) (ints_oneG _) (by omega)) ?_);rintro v26 _ ⟨m26, rfl, o26⟩;dsimp only [List.cons_append, List.nil_append];refine aA rfl rfl rfl (aF rfl) ?_;refine aA rfl rfl rfl (aF rfl) ?_;refine aJ ?_;refine aL (kh6 _ _ ?_);clear kh6;refine a7 ?_;have e0 : (dE N l c most).2 = 0 := by simpa using c18
  exact bW [m26] Tryz.results80 rfl rfl (by repeat first|exact aI|refine aD ?_|refine aC rfl ?_|refine aH ?_) ⟨v26, m26, by unfold fN; rw [e0], rfl, by unfold fN; simp only; rw [List.length_take, Nat.min_eq_left (by omega)]; exact o26⟩
end Go.Proofs.YtjjogcnjcnpehaaGreat

/- Pairs of vertices, in order. -/
namespace Go.Proofs.YtjjogcnjcnpehaaGreat
open Go Go.RowKit Go.Sort Fly
set_option linter.unusedVariables false
set_option linter.unusedSimpArgs false
set_option linter.unusedSectionVars false
abbrev Pr := Int × Int
def dU (p : Pr) : List Value := [.int .i64 p.1, .int .i64 p.2]
theorem dK (p : Pr) : (dU p).length = 2 := rfl
/-- What order says of two pairs. -/
def ordP (x y : Pr) : Int := if x.1 ≠ y.1 then x.1 - y.1 else x.2 - y.2
abbrev F20 := Fin 1048576 × Fin 1048576
def toP (x : F20) : Pr := (((x.1.val : Nat) : Int), ((x.2.val : Nat) : Int))
def ofP (p : Pr) : F20 := (⟨p.1.toNat % 1048576, Nat.mod_lt _ (by decide)⟩, ⟨p.2.toNat % 1048576, Nat.mod_lt _ (by decide)⟩)
def POk (p : Pr) : Prop := (0 ≤ p.1 ∧ p.1 < 1048576) ∧ 0 ≤ p.2 ∧ p.2 < 1048576
theorem to_of {p : Pr} (h : POk p) : toP (ofP p) = p := by
  unfold POk at h
  refine Prod.ext ?_ ?_ <;> simp only [toP, ofP] <;> omega
theorem toP_ok (x : F20) : POk (toP x) := by
  have h1 := x.1.isLt
  have h2 := x.2.isLt
  unfold POk toP; simp only; omega
theorem to_inj {x y : F20} (h : toP x = toP y) : x = y := by
  have h1 := congrArg Prod.fst h
  have h2 := congrArg Prod.snd h
  simp only [toP] at h1 h2;exact Prod.ext (Fin.ext (by omega)) (Fin.ext (by omega))
def cfP (x y : F20) : Int := ordP (toP x) (toP y)
def ltX (x y : Pr) : Prop := x.1 < y.1 ∨ x.1 = y.1 ∧ x.2 < y.2
theorem ltF (x y : F20) : ltOf cfP x y = decide ((toP x).1 < (toP y).1 ∨ (toP x).1 = (toP y).1 ∧ (toP x).2 < (toP y).2) := by
  unfold ltOf
  apply decide_eq_decide.2
  unfold cfP ordP
  by_cases h1 : (toP x).1 = (toP y).1
  · rw [if_neg (by omega)]; omega
  · rw [if_pos h1]; omega
theorem swoF : SWO (ltOf cfP) where
  irrefl x := by rw [ltF, decide_eq_false]; omega
  trans x y z h1 h2 := by rw [ltF] at *; simp only [decide_eq_true_eq] at *; omega
  ntrans x y z h1 h2 := by rw [ltF] at *; simp only [decide_eq_false_iff_not] at *; omega
theorem totF (x y : F20) (h1 : ltOf cfP x y = false) (h2 : ltOf cfP y x = false) : x = y := by
  rw [ltF] at *; simp only [decide_eq_false_iff_not] at *;exact to_inj (Prod.ext (by omega) (by omega))
theorem sorted_fin (l : List Pr) (hl : ∀ p ∈ l, POk p) : ∃ l2 : List Pr, l2 = (((l.map ofP).mergeSort fun x y => !(ltOf cfP) y x).map toP) ∧ l2.Perm l ∧ l2.Pairwise (fun x y => x = y ∨ ltX x y) := by
  refine ⟨_, rfl, ?_, ?_⟩
  · have h1 := (List.mergeSort_perm (l.map ofP) fun x y => !(ltOf cfP) y x).map toP
    have h2 : (l.map ofP).map toP = l := by
      rw [List.map_map]
      conv => rhs; rw [← List.map_id l]
      exact List.map_congr_left fun p hp => to_of (hl p hp)
    rw [h2] at h1; exact h1
  · rw [List.pairwise_map]
    refine (List.pairwise_mergeSort (fun a b c h1 h2 => ?_) (fun a b => ?_) (l.map ofP)).imp fun {a b} h => ?_
    · simp only [ltF] at *; simp only [Bool.not_eq_true', decide_eq_false_iff_not] at *; omega
    · simp only [ltF]; simp only [Bool.or_eq_true, Bool.not_eq_true', decide_eq_false_iff_not]; omega
    · simp only [ltF, Bool.not_eq_true', decide_eq_false_iff_not] at h
      unfold ltX
      by_cases e : toP a = toP b
      · exact .inl e
      · refine .inr ?_
        by_cases h1 : (toP a).1 = (toP b).1
        · by_cases h2 : (toP a).2 = (toP b).2
          · exact absurd (Prod.ext h1 h2) e
          · omega
        · omega
def allP (n : Nat) : List (Int × Int) := (List.range n).flatMap fun a : Nat => (List.range n).map fun b : Nat => ((Int.ofNat a, Int.ofNat b) : Int × Int)
theorem mem_allP {n : Nat} {k : Int × Int} : k ∈ allP n ↔ (0 ≤ k.1 ∧ k.1 < n) ∧ 0 ≤ k.2 ∧ k.2 < n := by
  unfold allP
  simp only [List.mem_flatMap, List.mem_range, List.mem_map];constructor
  · rintro ⟨a, ha, b, hb, rfl⟩; simp; omega
  · rintro ⟨⟨h1, h2⟩, h3, h4⟩
    exact ⟨k.1.toNat, by omega, k.2.toNat, by omega, Prod.ext (by simp; omega) (by simp; omega)⟩
theorem allP_len (n : Nat) : (allP n).length = n * n := by
  unfold allP
  rw [List.length_flatMap];simp [List.map_const']
theorem allP_sorted (n : Nat) : (allP n).Pairwise (fun x y => x.1 < y.1 ∨ x.1 = y.1 ∧ x.2 < y.2) := by
  unfold allP
  rw [List.pairwise_flatMap];refine ⟨fun a _ => ?_, ?_⟩
  · rw [List.pairwise_map]
    exact List.pairwise_lt_range.imp fun {x y} h => .inr ⟨rfl, by simpa using h⟩
  · refine List.pairwise_lt_range.imp fun {x y} h => ?_
    intro p hp q hq;simp only [List.mem_map] at hp hq;obtain ⟨_, _, rfl⟩ := hp
    obtain ⟨_, _, rfl⟩ := hq
    exact .inl (by simpa using h)
/-- The pair of an arc. -/
def jZ (a : Arc) : Pr := (min a.src a.dst, max a.src a.dst)
/-- All pairs of a graph, in order. -/
def prs (n : Nat) (l : List Arc) : List Pr := (allP n).filter fun p => l.any fun a => decide (a.src ≠ a.dst) && decide (jZ a = p)
def iG (l : List Arc) : List Pr := (l.filter fun a => decide (a.src ≠ a.dst)).map jZ
theorem lO (n : Nat) (l : List Arc) : (prs n l).Pairwise ltX := (allP_sorted n).filter _
theorem k8 {l : List Arc} {p : Pr} : p ∈ iG l ↔ ∃ a ∈ l, a.src ≠ a.dst ∧ jZ a = p := by
  unfold iG
  simp only [List.mem_map, List.mem_filter, decide_eq_true_eq];constructor
  · rintro ⟨a, ⟨h1, h2⟩, h3⟩; exact ⟨a, h1, h2, h3⟩
  · rintro ⟨a, h1, h2, h3⟩; exact ⟨a, ⟨h1, h2⟩, h3⟩
theorem mem_prs {n : Nat} {l : List Arc} (hg : ∀ a ∈ l, (0 ≤ a.src ∧ a.src < n) ∧ 0 ≤ a.dst ∧ a.dst < n) {p : Pr} : p ∈ prs n l ↔ p ∈ iG l := by
  unfold prs
  rw [List.mem_filter, mem_allP, k8];simp only [List.any_eq_true, Bool.and_eq_true, decide_eq_true_eq];constructor
  · rintro ⟨_, h⟩; exact h
  · rintro ⟨a, h1, h2, rfl⟩
    have := hg a h1
    unfold jZ
    exact ⟨by simp only; omega, a, h1, h2, rfl⟩
theorem nodup_X {l : List Pr} (h : l.Pairwise ltX) : l.Nodup := h.imp fun {x y} h e => by subst e; unfold ltX at h; omega
theorem prs_is {n : Nat} {l : List Arc} (hg : ∀ a ∈ l, (0 ≤ a.src ∧ a.src < n) ∧ 0 ≤ a.dst ∧ a.dst < n) {l2 : List Pr} (hp : l2.Perm (iG l)) (hs : l2.Pairwise (fun x y => x = y ∨ ltX x y)) : cpt l2 = prs n l := by
  have h1 : (cpt l2).Pairwise ltX := l5 (R := ltX) (fun a b c h1 h2 => by unfold ltX at *; omega) (fun a b h e => by subst e; unfold ltX at h; omega) hs
  refine List.Perm.eq_of_pairwise (le := ltX) (fun a b _ _ h1 h2 => by unfold ltX at *; exact absurd h1 (by omega)) h1 (lO n l) ?_;refine (List.perm_ext_iff_of_nodup (nodup_X h1) (nodup_X (lO n l))).2 fun p => ?_;rw [cpt_mem, mem_prs hg];exact hp.mem_iff
end Go.Proofs.YtjjogcnjcnpehaaGreat

/- slices.SortFunc over elements of k cells, by the shelf's contract, in the words of the small logic. -/
namespace Go.Proofs.YtjjogcnjcnpehaaGreat.Fly
open Go Go.RowKit Go.Sort
set_option linter.unusedVariables false
set_option linter.unusedSimpArgs false
set_option linter.unusedSectionVars false
theorem Hp.grown {w w' : World} {m : Seg} (h : Hp (Fr w []) w m w') : ∃ q os', w' = grow (w.drewN q) os' := by
  refine ⟨w'.drawn - w.drawn, w'.heap.extract w.heap.size w'.heap.size, ?_⟩;have h1 := h.drawn
  have h2 := h.size
  have hh : w'.heap = w.heap ++ w'.heap.extract w.heap.size w'.heap.size := by
    apply Array.ext_getElem?;intro i
    by_cases hi : i < w.heap.size
    · rw [Array.getElem?_append_left hi]
      exact h.same i ⟨hi, by simp⟩
    · rw [Array.getElem?_append_right (by omega), Array.getElem?_extract]
      by_cases hj : i < w'.heap.size
      · rw [if_pos (by omega)]; congr 1; omega
      · rw [if_neg (by omega), Array.getElem?_eq_none (by omega)]
  cases w' with
  | mk heap tape drawn os output =>
    have e1 := h.os; have e2 := h.tape; have e3 := h.output
    simp only at e1 e2 e3 h1 hh;subst e1 e2 e3;simp only [grow, World.drewN];rw [← hh]
    congr 1
    omega
section
variable {α : Type} [Inhabited α] (enc : α → List Value) (k : Nat) (hk : ∀ x, (enc x).length = k)
include hk
theorem flat_len (l : List α) : (l.flatMap enc).length = l.length * k := by
  induction l with
  | nil => simp
  | cons a l ih => simp [List.flatMap_cons, ih, hk, Nat.add_mul]; omega
theorem flatK_list (l : List α) : (flatK enc k l.toArray).toList = l.flatMap enc := by
  rcases Nat.eq_zero_or_pos k with k0 | k0
  · subst k0
    have h1 : (flatK enc 0 l.toArray).toList.length = 0 := by simp
    have h2 := flat_len enc 0 hk l
    have h3 : (l.flatMap enc).length = 0 := by omega
    rw [List.eq_nil_of_length_eq_zero h1, List.eq_nil_of_length_eq_zero h3]
  apply List.ext_getElem?;intro j
  induction l generalizing j with
  | nil => simp [flatK]
  | cons a l ih =>
    by_cases hj : j < (l.length + 1) * k
    · have e : (flatK enc k (a :: l).toArray).toList[j]? = some ((enc (a :: l).toArray[j / k]!)[j % k]!) := by
        simp [flatK, hj]
      rw [e, List.flatMap_cons]
      by_cases h0 : j < k
      · rw [List.getElem?_append_left (by rw [hk]; exact h0), Nat.div_eq_of_lt h0, Nat.mod_eq_of_lt h0]
        simp [List.getElem?_eq_getElem (show j < (enc a).length by rw [hk]; exact h0), getElem!_pos, hk, h0]
      · have hk0 : k ≤ j := by omega
        rw [List.getElem?_append_right (by rw [hk]; exact hk0), hk, ← ih (j - k)];have hj' : j - k < l.length * k := by rw [Nat.add_mul] at hj; omega
        have e' : (flatK enc k l.toArray).toList[j - k]? = some ((enc l.toArray[(j - k) / k]!)[(j - k) % k]!) := by
          simp [flatK, hj']
        rw [e']
        have hd : j / k = (j - k) / k + 1 := by
          rw [← Nat.div_eq_sub_div k0 hk0]
        have hm : j % k = (j - k) % k := Nat.mod_eq_sub_mod hk0
        rw [hd, hm];simp
    · rw [List.getElem?_eq_none (by simp; omega), List.getElem?_eq_none (by rw [flat_len enc k hk]; simp; omega)]
end
theorem putCells_id (F : Array Value) (cs sp : List Value) (h : cs.length = F.size) : (putCells id 0 F (cs ++ sp).toArray).toList = F.toList ++ sp := by
  apply List.ext_getElem?;intro j;rw [Array.getElem?_toList];simp only [putCells, Array.getElem?_mapIdx, List.getElem?_toArray]
  by_cases hj : j < F.size
  · rw [List.getElem?_append_left (by omega), List.getElem?_append_left (by simpa using hj)]
    simp [hj, h]
  · rw [List.getElem?_append_right (by omega), List.getElem?_append_right (by simp; omega)]
    simp only [Array.length_toList, h];cases sp[j - F.size]? <;> simp [hj]
theorem meets_sortF {P : Program} {ρ : Go.Shelf.Ren} (L : SlLaysF0.n6 P ρ) {E : TypeId} (k : Nat) (aE : ∀ w, (isAgg (ρ.t 24)).run P w = .ok true w) (zE : ∀ w, (Go.sizeOf (ρ.t 24)).run P w = .ok k w)
    {α : Type} [Inhabited α] (enc : α → List Value) (hk : ∀ x, (enc x).length = k) (h1 : ∀ x, ∀ v ∈ enc x, v.oneCell' = true) (cf : α → α → Int) (hO : SWO (ltOf cf)) (hT : ∀ x y, (ltOf cf) x y = false → (ltOf cf) y x = false → x = y)
    (g : Nat) (eg : ∀ args w, (callFunc g args).run P w = .ok (.enter g args) w) (hcmp : ∀ x y W, Meets P g [.agg (enc x).toArray, .agg (enc y).toArray] W [] (fun v _ => v = .int .i64 (cf x y)))
    (A : Option Addr) (cap : Nat) (l : List α) (m : Seg) (w : World) (ho : Own E k (.slice A l.length cap) l.length (l.flatMap enc) m) (hl : l.length < 4611686018427387904) (hw : Owns w [m]) :
    Meets P (ρ.f 6) [.slice A l.length cap, .func (.func g) #[] #[]] w [m] (fun u own' => u = .tuple #[] ∧ ∃ m', own' = [m'] ∧ Own E k (.slice A l.length cap) l.length ((l.mergeSort fun x y => !(ltOf cf) y x).flatMap enc) m') := by
  have ho' := ho
  obtain ⟨h0, h | ⟨b, c, sp, e, rfl, h1', h2, h3⟩⟩ := ho'
  · obtain ⟨e, hl0, rfl⟩ := h
    obtain rfl : l = [] := List.eq_nil_of_length_eq_zero hl0
    refine Calls.mono (AnyF.slices_SortFunc_none L A cap _ w) ?_;rintro _ _ ⟨rfl, rfl⟩;exact ⟨_, [[]], rfl, Hp.start hw, rfl, [], rfl, by simpa using ho⟩
  · cases e
    have hb : w.heap[b]? = some (blk (l.flatMap enc ++ sp) E) := hw.there b _ (by simp)
    have hlt : b < w.heap.size := by
      rcases Nat.lt_or_ge b w.heap.size with h' | h'
      · exact h'
      · rw [Array.getElem?_eq_none h'] at hb; cases hb
    have hfl := flatK_list enc k hk l
    have hlen := flat_len enc k hk l
    have hH : HoldsK enc k w b 0 l.toArray := by
      intro j hj;have hj' : j < (l.flatMap enc).length := by rw [hlen]; simpa using hj
      refine ⟨?_, by simp [World.frozen?, hb]⟩;have hg : (flatK enc k l.toArray)[j]? = (l.flatMap enc)[j]? := by rw [← hfl]; simp
      have : (l.flatMap enc ++ sp)[j]? = some (flatK enc k l.toArray)[j]! := by
        rw [List.getElem?_append_left hj', ← hg];simp at hj;simp [hj]
      simp [World.cell?, hb, this]
    have hc : CmpLays P g #[] enc k cf b 0 l.toArray.size w := by
      intro m os dk _ x y;refine Calls.mono (hcmp x y _) ?_;rintro _ w' ⟨v, own', rfl, hp, rfl⟩;exact ⟨rfl, hp.grown⟩
    have hcall := AnyQ.slices_SortFunc_total L k aE zE enc hk h1 cf hO g #[] b 0 cap l.toArray w eg hc hH hlt (by simpa using hl) hT
    simp only [List.size_toArray] at hcall;refine Calls.mono hcall ?_;rintro _ _ ⟨rfl, n, os, rfl⟩;have hl2 : (l.mergeSort fun x y => !(ltOf cf) y x).length = l.length := List.length_mergeSort l
    generalize (l.mergeSort fun x y => !(ltOf cf) y x) = L2 at hl2 ⊢
    have hlen2 := flat_len enc k hk L2
    have hnew : (sortWorldK enc k w b 0 n L2.toArray os).heap[b]? = some (blk (L2.flatMap enc ++ sp) E) := by
      unfold sortWorldK putRowK
      rw [heap_grow_old _ _ (by simpa using hlt)]
      have : (putCells id 0 (flatK enc k L2.toArray) (l.flatMap enc ++ sp).toArray) = (L2.flatMap enc ++ sp).toArray := by
        rw [← Array.toList_inj, putCells_id _ _ _ (by rw [hlen]; simp [hl2]), flatK_list enc k hk]
      simp [putRow, mapBlock, Sort.ahead, Array.getElem?_modify, hb, onCells, this]
    have hoth : ∀ j, j < w.heap.size → j ≠ b → (sortWorldK enc k w b 0 n L2.toArray os).heap[j]? = w.heap[j]? := fun j hj hne => by
      unfold sortWorldK putRowK
      rw [heap_grow_old _ _ (by simpa using hj)];have : b ≠ j := fun e => hne e.symm
      simp [putRow, mapBlock, Sort.ahead, Array.getElem?_modify, this]
    refine ⟨.tuple #[], [[(b, blk (L2.flatMap enc ++ sp) E)]], rfl, ?_, rfl, _, rfl, ⟨by rw [hlen2, hl2], .inr ⟨b, cap, sp, rfl, rfl, h1', h2, h3⟩⟩⟩;refine ⟨rfl, rfl, rfl, by simp [sortWorldK, putRowK, grow], by simp [sortWorldK, putRowK, grow, putRow, mapBlock, Sort.ahead], fun j hj => hj.1, fun j hj => hoth j hj.1 fun e => hj.2 (by subst e; simp), fun j o hm => ?_, fun j o hm hj => hj.2 (by simp at hm; obtain ⟨rfl, _⟩ := hm; simp), by simp⟩;simp only [List.flatten_cons, List.flatten_nil, List.append_nil, List.mem_singleton, Prod.mk.injEq] at hm;obtain ⟨rfl, rfl⟩ := hm
    exact hnew
end Go.Proofs.YtjjogcnjcnpehaaGreat.Fly

/- What the shelf's contracts ask of this program: tables of numbers, and each fact by the kernel. -/
namespace Go.Proofs
open Go.Shelf
def Tryz.laysPr_ren : Go.Shelf.Ren := ⟨fun | 6 => 55 | 15 => 51 | 14 => 85 | 28 => 77 | 29 => 78 | 20 => 103 | 21 => 104 | 22 => 105 | 23 => 106 | 24 => 107 | 25 => 108 | 26 => 109 | 27 => 110 | 46 => 120 | 47 => 93 | 48 => 94 | 49 => 121 | 50 => 122 | 57 => 125 | n => n, fun | 22 => 68 | 24 => 95 | 25 => 96 | 3 => 3 | 39 => 83 | 0 => 0 | 53 => 46 | 55 => 128 | 4 => 4 | 46 => 121 | 45 => 120 | 50 => 87 | 5 => 5 | 9 => 9 | 66 => 149 | 70 => 153 | 76 => 171 | 77 => 172 | n => n, fun | n => n⟩
theorem Tryz.laysPr : Go.Proofs.SlLaysF0.n6 Tryz.prog Tryz.laysPr_ren := {
  mixed := by kernel_rfl
  f6 := ⟨Tryz.f55.name, by decide, Tryz.func55.trans (congrArg some (by kernel_rfl))⟩
  f14 := ⟨Tryz.f85.name, by decide, Tryz.func85.trans (congrArg some (by kernel_rfl))⟩
  f15 := Tryz.func51.trans (congrArg some (by kernel_rfl))
  f20 := ⟨Tryz.f103.name, by decide, Tryz.func103.trans (congrArg some (by kernel_rfl))⟩
  f21 := ⟨Tryz.f104.name, by decide, Tryz.func104.trans (congrArg some (by kernel_rfl))⟩
  f22 := ⟨Tryz.f105.name, by decide, Tryz.func105.trans (congrArg some (by kernel_rfl))⟩
  f23 := ⟨Tryz.f106.name, by decide, Tryz.func106.trans (congrArg some (by kernel_rfl))⟩
  f24 := ⟨Tryz.f107.name, by decide, Tryz.func107.trans (congrArg some (by kernel_rfl))⟩
  f25 := ⟨Tryz.f108.name, by decide, Tryz.func108.trans (congrArg some (by kernel_rfl))⟩
  f26 := ⟨Tryz.f109.name, by decide, Tryz.func109.trans (congrArg some (by kernel_rfl))⟩
  f27 := ⟨Tryz.f110.name, by decide, Tryz.func110.trans (congrArg some (by kernel_rfl))⟩
  f28 := Tryz.func77.trans (congrArg some (by kernel_rfl))
  f29 := Tryz.func78.trans (congrArg some (by kernel_rfl))
  f46 := ⟨Tryz.f120.name, by decide, Tryz.func120.trans (congrArg some (by kernel_rfl))⟩
  f47 := Tryz.func93.trans (congrArg some (by kernel_rfl))
  f48 := Tryz.func94.trans (congrArg some (by kernel_rfl))
  f49 := ⟨Tryz.f121.name, by decide, Tryz.func121.trans (congrArg some (by kernel_rfl))⟩
  f50 := ⟨Tryz.f122.name, by decide, Tryz.func122.trans (congrArg some (by kernel_rfl))⟩
  f57 := ⟨Tryz.f125.name, by decide, Tryz.func125.trans (congrArg some (by kernel_rfl))⟩
  t0 := Tryz.underlying0
  a0 := Tryz.isAgg0
  z0 := Tryz.sizeOf0
  v0 := Tryz.zeroValue0
  t3 := Tryz.underlying3
  a3 := Tryz.isAgg3
  z3 := Tryz.sizeOf3
  v3 := Tryz.zeroValue3
  t4 := Tryz.underlying4
  a4 := Tryz.isAgg4
  z4 := Tryz.sizeOf4
  v4 := Tryz.zeroValue4
  t5 := Tryz.underlying5
  a5 := Tryz.isAgg5
  z5 := Tryz.sizeOf5
  v5 := Tryz.zeroValue5
  t9 := Tryz.underlying9
  a9 := Tryz.isAgg9
  z9 := Tryz.sizeOf9
  v9 := Tryz.zeroValue9
  t22 := Tryz.underlying68
  a22 := Tryz.isAgg68
  z22 := Tryz.sizeOf68
  v22 := Tryz.zeroValue68
  t25 := Tryz.underlying96
  a25 := Tryz.isAgg96
  z25 := Tryz.sizeOf96
  v25 := Tryz.zeroValue96
  t39 := Tryz.underlying83
  a39 := Tryz.isAgg83
  z39 := Tryz.sizeOf83
  v39 := Tryz.zeroValue83
  t45 := Tryz.underlying120
  a45 := Tryz.isAgg120
  z45 := Tryz.sizeOf120
  v45 := Tryz.zeroValue120
  t46 := Tryz.underlying121
  a46 := Tryz.isAgg121
  z46 := Tryz.sizeOf121
  v46 := Tryz.zeroValue121
  t50 := Tryz.underlying87
  a50 := Tryz.isAgg87
  z50 := Tryz.sizeOf87
  v50 := Tryz.zeroValue87
  t53 := Tryz.underlying46
  a53 := Tryz.isAgg46
  z53 := Tryz.sizeOf46
  v53 := Tryz.zeroValue46
  t55 := Tryz.underlying128
  a55 := Tryz.isAgg128
  z55 := Tryz.sizeOf128
  v55 := Tryz.zeroValue128
  t66 := Tryz.underlying149
  a66 := Tryz.isAgg149
  z66 := Tryz.sizeOf149
  v66 := Tryz.zeroValue149
  t70 := Tryz.underlying153
  a70 := Tryz.isAgg153
  z70 := Tryz.sizeOf153
  v70 := Tryz.zeroValue153
  t76 := Tryz.underlying171
  a76 := Tryz.isAgg171
  z76 := Tryz.sizeOf171
  v76 := Tryz.zeroValue171
  t77 := Tryz.underlying172
  a77 := Tryz.isAgg172
  z77 := Tryz.sizeOf172
  v77 := Tryz.zeroValue172 }
end Go.Proofs
