import Derived.Test.YtkmkakpadgljeaaAll3
import Derived.Test.YtkmkakpadgljeaaFlyR
import Derived.Test.YtkmkakpadgljeaaAll5
import Derived.Test.YtkmkakpadgljeaaFlyT
import Derived.Test.YtkmkakpadgljeaaAll0

/- Rows that are owned: how they are read. -/
namespace Go.Proofs.Ytkmkakpadgljeaa
open Go Go.RowKit Fly
set_option linter.unusedVariables false
set_option linter.unusedSimpArgs false


theorem RowsI.snoc {E : TypeId} {ls : List (List Int)} {vs : List Value} {ms : List Seg} (h : RowsI E ls vs ms) {l : List Int} {v : Value} {m : Seg} (ho : Own E 1 v l.length (ints l) m) : RowsI E (ls ++ [l]) (vs ++ [v]) (ms ++ [m]) :=
  ⟨by simp [h.lv], by simp [h.lm], fun i hi => by
    rw [List.length_append, List.length_singleton] at hi
    have hlv := h.lv
    have hlm := h.lm
    by_cases e : i < ls.length
    · have e1 : (ls ++ [l])[i]'(by simp; omega) = ls[i] := List.getElem_append_left e
      have e2 : (vs ++ [v])[i]'(by simp; omega) = vs[i]'(by omega) := List.getElem_append_left (by omega)
      have e3 : (ms ++ [m])[i]'(by simp; omega) = ms[i]'(by omega) := List.getElem_append_left (by omega)
      rw [e1, e2, e3]; exact h.own i e
    · have hie : i = ls.length := by omega
      have e1 : (ls ++ [l])[i]'(by simp; omega) = l := by subst hie; simp
      have e2 : (vs ++ [v])[i]'(by simp; omega) = v := by
        rw [List.getElem_append_right (by omega)]; simp
      have e3 : (ms ++ [m])[i]'(by simp; omega) = m := by
        rw [List.getElem_append_right (by omega)]; simp
      rw [e1, e2, e3]; exact ho⟩
theorem RowsI.one {E : TypeId} {l : List Int} {v : Value} {m : Seg} (ho : Own E 1 v l.length (ints l) m) : RowsI E [l] [v] [m] :=
  ⟨rfl, rfl, fun i hi => by
    have : i = 0 := by simpa using hi
    subst this; exact ho⟩
/-- The rows as they are read. -/
theorem RowsI.rows {E : TypeId} {ls : List (List Int)} {vs : List Value} {ms : List Seg} (h : RowsI E ls vs ms) : ∃ R : List Row, vs = R.map rowV ∧ rowsL R = ls := by
  have hlv := h.lv
  have key : ∀ i, i < ls.length → ∃ r : Row, (∀ hv : i < vs.length, vs[i] = rowV r) ∧ ∀ hi : i < ls.length, ls[i] = r.2.1 := fun i hi => by
    obtain ⟨A, c, e, _⟩ := (h.own i hi).val
    exact ⟨(A, ls[i], c), fun _ => e, fun _ => rfl⟩
  obtain ⟨R, hRl, hR⟩ := list_of (R := fun i r => (∀ hv : i < vs.length, vs[i] = rowV r) ∧ ∀ hi : i < ls.length, ls[i] = r.2.1) key
  refine ⟨R, List.ext_getElem (by simp; omega) fun i h1 h2 => ?_, List.ext_getElem (by simp [rowsL]; omega) fun i h1 h2 => ?_⟩
  · rw [List.getElem_map]; exact (hR i (by simpa using h2)).1 h1
  · simp only [rowsL, List.getElem_map]
    exact ((hR i (by omega)).2 h2).symm
/-- Rows behind which nothing can be put: each in memory of its own. -/
structure RowsC (E : TypeId) (R : List Row) (ms : List Seg) : Prop where
  lm : ms.length = R.length
  own : ∀ (i : Nat) (h : i < R.length), ∃ c, Own E 1 (.slice R[i].1 R[i].2.1.length c) R[i].2.1.length (ints R[i].2.1) (ms[i]'(lm ▸ h))
def cutVR : Value → Value
  | .slice A n _ => .slice A n n
  | v => v
/-- A row of rows of which the first k have been cut. -/
def ctoR (vs : List Value) (k : Nat) : List Value := vs.mapIdx fun i v => if i < k then cutVR v else v
theorem ctoR_len (vs : List Value) (k : Nat) : (ctoR vs k).length = vs.length := by simp [ctoR]
theorem ctoR_zero (vs : List Value) : ctoR vs 0 = vs := by
  refine List.ext_getElem (by simp [ctoR]) fun i h1 h2 => ?_
  simp [ctoR]
theorem ctoR_get {vs : List Value} {k i : Nat} (h : k ≤ i) : (ctoR vs k)[i]? = vs[i]? := by
  unfold ctoR
  rw [List.getElem?_mapIdx]
  cases vs[i]? with
  | none => rfl
  | some v => simp [show ¬ i < k by omega]
theorem ctoR_set {vs : List Value} {k i : Nat} (h : k ≤ i) (v : Value) : (ctoR vs k).set i v = ctoR (vs.set i v) k := by
  refine List.ext_getElem (by simp [ctoR]) fun j h1 h2 => ?_
  simp only [ctoR, List.getElem_mapIdx, List.getElem_set]
  by_cases e : i = j
  · subst e; simp [show ¬ i < k by omega]
  · simp [e]
theorem ctoR_next {vs : List Value} {k : Nat} (v : Value) : (ctoR vs k).set k (cutVR v) = ctoR (vs.set k v) (k + 1) := by
  refine List.ext_getElem (by simp [ctoR]) fun j h1 h2 => ?_
  simp only [ctoR, List.getElem_mapIdx, List.getElem_set]
  by_cases e : k = j
  · subst e; simp
  · by_cases e2 : j < k
    · simp [e, e2, show j < k + 1 by omega]
    · simp [e, e2, show ¬ j < k + 1 by omega]
theorem ctoR_all {vs : List Value} {k : Nat} (h : vs.length ≤ k) : ctoR vs k = vs.map cutVR := by
  refine List.ext_getElem (by simp [ctoR]) fun j h1 h2 => ?_
  simp only [ctoR, List.getElem_mapIdx, List.getElem_map]
  rw [if_pos (by have := h2; simp at this; omega)]
theorem RowsI.cut {E : TypeId} {ls : List (List Int)} {vs : List Value} {ms : List Seg} (h : RowsI E ls vs ms) : ∃ R : List Row, vs.map cutVR = R.map rowV ∧ rowsL R = ls ∧ RowsC E R ms := by
  have hlv := h.lv
  have hlm := h.lm
  have key : ∀ i, i < ls.length → ∃ r : Row, (∀ hv : i < vs.length, cutVR vs[i] = rowV r) ∧ (∀ hi : i < ls.length, ls[i] = r.2.1) ∧ ∀ hm : i < ms.length, ∃ c, Own E 1 (.slice r.1 r.2.1.length c) r.2.1.length (ints r.2.1) ms[i] := fun i hi => by
    have ho := h.own i hi
    obtain ⟨A, c, e, _⟩ := ho.val
    refine ⟨(A, ls[i], ls[i].length), fun _ => by rw [e]; rfl, fun _ => rfl, fun _ => ⟨c, ?_⟩⟩
    rw [e] at ho; exact ho
  obtain ⟨R, hRl, hR⟩ := list_of (R := fun i r => (∀ hv : i < vs.length, cutVR vs[i] = rowV r) ∧ (∀ hi : i < ls.length, ls[i] = r.2.1) ∧ ∀ hm : i < ms.length, ∃ c, Own E 1 (.slice r.1 r.2.1.length c) r.2.1.length (ints r.2.1) ms[i]) key
  refine ⟨R, List.ext_getElem (by simp; omega) fun i h1 h2 => ?_, List.ext_getElem (by simp [rowsL]; omega) fun i h1 h2 => ?_, by omega, fun i hi => (hR i (by omega)).2.2 (by omega)⟩
  · rw [List.getElem_map, List.getElem_map]; exact (hR i (by simpa using h2)).1 (by simpa using h1)
  · simp only [rowsL, List.getElem_map]
    exact ((hR i (by omega)).2.1 h2).symm
theorem RowsC.nil (E : TypeId) : RowsC E [] [] := ⟨rfl, fun i h => by simp at h⟩
theorem RowsC.ro {S : Nat → Prop} {w0 w : World} {segs o3 : List Seg} {E : TypeId} {R : List Row} {ms : List Seg} (hR : RowsC E R ms) (hp : Hp S w0 segs.flatten w) [p3 : Pick segs ms.flatten o3] : ∀ r ∈ R, Ro (Fr w []) w r.1 (ints r.2.1) ∧ r.2.1.length ≤ 9223372036854775807 := fun r hr => by
  obtain ⟨i, hi, rfl⟩ := List.mem_iff_getElem.1 hr
  obtain ⟨c, ho⟩ := hR.own i hi
  refine ⟨?_, by have := ho.val; obtain ⟨_, _, e, h⟩ := this; cases e; omega⟩
  have hmi : i < ms.length := by rw [hR.lm]; exact hi
  have hsub : Fly.Sub segs (ms[i] :: [(ms.eraseIdx i).flatten]) := ⟨o3.flatten, by
    have := p3.perm.trans ((flat_erase ms i hmi).append_right o3.flatten)
    simpa using this⟩
  have hp2 := hp.sub hsub
  exact seen_ro (ho.seen (segs := ms[i] :: [(ms.eraseIdx i).flatten]) hp2)
/-- An owned nest is read. -/
theorem nest_ro {S : Nat → Prop} {w0 w : World} {segs o1 o2 o3 : List Seg} {Ab Ac : Option Addr} {bs : List Int} {cb cc lc : Nat} {mb mc : Seg} {R : List Row} {ls : List (List Int)} {ms : List Seg} {E E2 : TypeId} (hp : Hp S w0 segs.flatten w) (hb : Own E 1 (.slice Ab bs.length cb) bs.length (ints bs) mb)
    (hc : Own E2 1 (.slice Ac lc cc) lc (R.map rowV) mc) (hR : RowsI E ls (R.map rowV) ms) (hRL : rowsL R = ls) [p1 : Pick segs mb o1] [p2 : Pick segs mc o2] [p3 : Pick segs ms.flatten o3] (hcl : R.length ≤ 9223372036854775807) : NestRo (Fr w []) w Ab bs Ac R where
  b := seen_ro (hb.seen hp)
  bl := by have := hb.val; obtain ⟨_, _, e, h⟩ := this; cases e; omega
  c := seen_ro (hc.seen hp)
  cl := hcl
  rows := fun r hr => by
    obtain ⟨i, hi, rfl⟩ := List.mem_iff_getElem.1 hr
    subst hRL
    have hi2 : i < (rowsL R).length := by rw [rowsL_len]; exact hi
    have ho := hR.own i hi2
    have e1 : (R.map rowV)[i]'(by simpa using hi) = rowV R[i] := by simp
    have e2 : (rowsL R)[i] = R[i].2.1 := by simp [rowsL]
    rw [e1, e2] at ho
    refine ⟨?_, by have := ho.val; obtain ⟨_, _, e, h⟩ := this; cases e; omega⟩
    have hmi : i < ms.length := by rw [hR.lm]; exact hi2
    have hsub : Fly.Sub segs (ms[i] :: [(ms.eraseIdx i).flatten]) := ⟨o3.flatten, by
      have := p3.perm.trans ((flat_erase ms i hmi).append_right o3.flatten)
      simpa using this⟩
    have hp2 := hp.sub hsub
    exact seen_ro (ho.seen (segs := ms[i] :: [(ms.eraseIdx i).flatten]) hp2)
theorem RowsI.ro {S : Nat → Prop} {w0 w : World} {segs o3 : List Seg} {E : TypeId} {R : List Row} {ms : List Seg} (hR : RowsI E (rowsL R) (R.map rowV) ms) (hp : Hp S w0 segs.flatten w) [p3 : Pick segs ms.flatten o3] : ∀ r ∈ R, Ro (Fr w []) w r.1 (ints r.2.1) ∧ r.2.1.length ≤ 9223372036854775807 := fun r hr => by
  obtain ⟨i, hi, rfl⟩ := List.mem_iff_getElem.1 hr
  have hi2 : i < (rowsL R).length := by rw [rowsL_len]; exact hi
  have ho := hR.own i hi2
  have e1 : (R.map rowV)[i]'(by simpa using hi) = rowV R[i] := by simp
  have e2 : (rowsL R)[i] = R[i].2.1 := by simp [rowsL]
  rw [e1, e2] at ho
  refine ⟨?_, by have := ho.val; obtain ⟨_, _, e, h⟩ := this; cases e; omega⟩
  have hmi : i < ms.length := by rw [hR.lm]; exact hi2
  have hsub : Fly.Sub segs (ms[i] :: [(ms.eraseIdx i).flatten]) := ⟨o3.flatten, by
    have := p3.perm.trans ((flat_erase ms i hmi).append_right o3.flatten)
    simpa using this⟩
  have hp2 := hp.sub hsub
  exact seen_ro (ho.seen (segs := ms[i] :: [(ms.eraseIdx i).flatten]) hp2)
theorem sub_snocU {segs o1 o2 : List Seg} {f m : Seg} [p1 : Pick segs f o1] [p2 : Pick o1 m o2] {out : List Seg} (hs : Fly.Sub o2 out) : Fly.Sub segs ((f ++ [m].flatten) :: out) := by
  obtain ⟨rest, hr⟩ := hs
  refine ⟨rest, ?_⟩
  have h2 := p1.perm.trans (List.Perm.append_left f p2.perm)
  simp only [List.flatten_cons, List.flatten_nil, List.append_nil, List.append_assoc] at h2 ⊢
  exact h2.trans (List.Perm.append_left f (List.Perm.append_left m hr))

end Go.Proofs.Ytkmkakpadgljeaa

/- package cell: Index, Stale. -/
namespace Go.Proofs.Ytkmkakpadgljeaa
open Go Go.RowKit Fly
set_option linter.unusedVariables false
set_option linter.unusedSimpArgs false


def ixE (N : Int) (l : List Arc) (bs : List Int) (L : List (List Int)) (q c v : Int) : Int := if clE N l bs L q c ≠ 0 then clE N l bs L q c else if v ∈ bdL (L.getD (q.toNat - 1) []) c l then 0 else 5
theorem bdL_len (L : List Int) (c : Int) (l : List Arc) : (bdL L c l).length ≤ 2 * l.length := by
  unfold bdL
  refine Nat.le_trans (cpt_len_le _) ?_
  rw [sortI_len]; exact bdR_len L c l
/-- Is it no number of an arc? -/
def offA (m : Nat) (i : Int) : Bool := decide (i < 0) || decide ((m : Int) ≤ i)
def snE (N : Int) (l : List Arc) (bs : List Int) (L : List (List Int)) (arcs : List Int) : Int :=
  if (nsE N l bs L).2 ≠ 0 then (nsE N l bs L).2 else if 16384 < arcs.length then 2 else if arcs.any (offA l.length) then 5 else 0
/-- The cell that an arc lies in. -/
def stOf (row : List Int) (l : List Arc) (i : Int) : List Int := (l[i.toNat]?).elim [] fun a => if row.getD a.src.toNat 0 = row.getD a.dst.toNat 0 then [row.getD a.src.toNat 0] else []
def stR (row : List Int) (l : List Arc) (arcs : List Int) : List Int := arcs.flatMap (stOf row l)
def stRow (row : List Int) (l : List Arc) (arcs : List Int) : List Int := cpt (sortI (stR row l arcs))
def stL (L : List (List Int)) (l : List Arc) (arcs : List Int) : List (List Int) := L.map fun row => stRow row l arcs
/-- Rows of which the first k are done, and one is under way. -/
def stM (L : List (List Int)) (l : List Arc) (arcs : List Int) (k j : Nat) : List (List Int) := L.mapIdx fun i row => if i < k then stRow row l arcs else if i = k then stR row l (arcs.take j) else []
theorem stM_len (L : List (List Int)) (l : List Arc) (arcs : List Int) (k j : Nat) : (stM L l arcs k j).length = L.length := by simp [stM]
theorem stM_zero (L : List (List Int)) (l : List Arc) (arcs : List Int) : stM L l arcs 0 0 = List.replicate L.length [] := by
  refine List.ext_getElem (by simp [stM]) fun i h1 h2 => ?_
  simp [stM, stR]
theorem stM_at {L : List (List Int)} {l : List Arc} {arcs : List Int} {k j : Nat} (h : k < (stM L l arcs k j).length) : (stM L l arcs k j)[k] = stR (L.getD k []) l (arcs.take j) := by
  have h' : k < L.length := by simpa [stM] using h
  simp [stM, List.getD_eq_getElem?_getD, h']
theorem stM_next {L : List (List Int)} {l : List Arc} {arcs : List Int} {k j : Nat} {X : List Int} (hX : X = stR (L.getD k []) l (arcs.take (j + 1))) : (stM L l arcs k j).set k X = stM L l arcs k (j + 1) := by
  refine List.ext_getElem (by simp [stM]) fun i h1 h2 => ?_
  have h' : i < L.length := by simpa [stM] using h2
  rw [List.getElem_set]
  by_cases e : k = i
  · subst e
    rw [if_pos rfl, hX]; simp [stM, List.getD_eq_getElem?_getD, h']
  · rw [if_neg e]
    simp only [stM, List.getElem_mapIdx]
    by_cases e2 : i < k
    · rw [if_pos e2, if_pos e2]
    · rw [if_neg e2, if_neg e2, if_neg (by omega), if_neg (by omega)]
theorem stM_same {L : List (List Int)} {l : List Arc} {arcs : List Int} {k j : Nat} (h : stR (L.getD k []) l (arcs.take (j + 1)) = stR (L.getD k []) l (arcs.take j)) : stM L l arcs k j = stM L l arcs k (j + 1) := by
  refine List.ext_getElem (by simp [stM]) fun i h1 h2 => ?_
  have h' : i < L.length := by simpa [stM] using h2
  simp only [stM, List.getElem_mapIdx]
  by_cases e2 : i < k
  · rw [if_pos e2, if_pos e2]
  · rw [if_neg e2, if_neg e2]
    by_cases e : i = k
    · subst e
      rw [if_pos rfl, if_pos rfl]
      have e3 : L.getD i [] = L[i] := by simp [List.getD_eq_getElem?_getD, h']
      rw [e3] at h; exact h.symm
    · rw [if_neg e, if_neg e]
theorem stM_row {L : List (List Int)} {l : List Arc} {arcs : List Int} {k : Nat} {X : List Int} (hX : X = stRow (L.getD k []) l arcs) : (stM L l arcs k arcs.length).set k X = stM L l arcs (k + 1) 0 := by
  refine List.ext_getElem (by simp [stM]) fun i h1 h2 => ?_
  have h' : i < L.length := by simpa [stM] using h2
  rw [List.getElem_set]
  by_cases e : k = i
  · subst e
    rw [if_pos rfl, hX]; simp [stM, List.getD_eq_getElem?_getD, h']
  · rw [if_neg e]
    simp only [stM, List.getElem_mapIdx]
    by_cases e2 : i < k
    · rw [if_pos e2, if_pos (by omega)]
    · rw [if_neg e2, if_neg (by omega), if_neg (by omega)]
      by_cases e3 : i = k + 1
      · rw [if_pos e3]; simp [stR]
      · rw [if_neg e3]
theorem stM_all {L : List (List Int)} {l : List Arc} {arcs : List Int} {k j : Nat} (h : L.length ≤ k) : stM L l arcs k j = stL L l arcs := by
  refine List.ext_getElem (by simp [stM, stL]) fun i h1 h2 => ?_
  have h' : i < L.length := by simpa [stL] using h2
  simp only [stM, stL, List.getElem_mapIdx, List.getElem_map]
  rw [if_pos (by omega)]
theorem stR_next {row : List Int} {l : List Arc} {arcs : List Int} {j : Nat} (hj : j < arcs.length) : stR row l (arcs.take (j + 1)) = stR row l (arcs.take j) ++ stOf row l arcs[j] := by
  unfold stR; rw [List.take_succ_eq_append_getElem hj, List.flatMap_append]; simp
theorem stOf_len (row : List Int) (l : List Arc) (i : Int) : (stOf row l i).length ≤ 1 := by
  unfold stOf
  cases l[i.toNat]? with
  | none => simp
  | some a => simp only [Option.elim]; split <;> simp
theorem stR_len (row : List Int) (l : List Arc) : ∀ arcs : List Int, (stR row l arcs).length ≤ arcs.length
  | [] => by simp [stR]
  | i :: arcs => by
    have h1 := stR_len row l arcs
    have h2 := stOf_len row l i
    unfold stR at *
    rw [List.flatMap_cons, List.length_append, List.length_cons]; omega
theorem stOf_at {row : List Int} {l : List Arc} {i : Int} {u : Nat} (hi : i = (u : Int)) (hu : u < l.length) : stOf row l i = if row.getD l[u].src.toNat 0 = row.getD l[u].dst.toNat 0 then [row.getD l[u].src.toNat 0] else [] := by
  unfold stOf; rw [hi, Int.toNat_natCast, List.getElem?_eq_getElem hu]; rfl

theorem ints_len1C {E : TypeId} {v : Value} {l : List Int} {x : Int} {m : Seg} : Own E 1 v (l.length + 1) (ints l ++ [.int .i64 x]) m = Own E 1 v (l ++ [x]).length (ints (l ++ [x])) m := by rw [ints_append, List.length_append]; rfl
theorem rep_flatC (n : Nat) (v : Value) : List.replicate n v = (List.replicate n [v]).flatten := by
  induction n with
  | zero => rfl
  | succ n ih => rw [List.replicate_succ, List.replicate_succ, List.flatten_cons, ← ih]; rfl

set_option maxRecDepth 100000 in
set_option maxHeartbeats 4000000 in
theorem CIndex_spec (N : Int) (A : Option Addr) (l : List Arc) (cap : Nat) (Ab : Option Addr) (bs : List Int) (cb : Nat) (Ac : Option Addr) (R : List Row) (cc : Nat) (q c v : Int) (w : World) (hr : Ro (Fr w []) w A (l.flatMap arcCs)) (hl : l.length ≤ 9223372036854775807) (hN : I64 N) (hok : ∀ x ∈ l, ArcOk x) (hn : NestRo (Fr w []) w Ab bs Ac R) :
    Meets Try.prog 12 [.agg #[.int .i64 N, .slice A l.length cap], .agg #[.slice Ab bs.length cb, .slice Ac R.length cc], .int .i64 q, .int .i64 c, .int .i64 v] w [] (fun u m => ∃ i : Nat, u = .tuple #[.int .i64 (i : Int), .int .i64 (ixE N l bs (rowsL R) q c v)] ∧ m = [] ∧ (ixE N l bs (rowsL R) q c v ≠ 0 → i = 0) ∧ (ixE N l bs (rowsL R) q c v = 0 → (bdL ((rowsL R).getD (q.toNat - 1) []) c l)[i]? = some v)) := by
 refine f_enter Try.func12 rfl Try.ntmps12 rfl Owns.nil ?_
 refine f_seq fun K1 kh1 => ?_
 refine f_region ?_
 refine f_step rfl rfl rfl (o_box rfl rfl fun b5 => ?_)
 refine f_step rfl rfl rfl (o_box rfl rfl fun b6 => ?_)
 refine f_stepP rfl rfl rfl (o_assign rfl) ?_
 refine f_stepP rfl rfl rfl (o_assign rfl) ?_
 refine f_done ?_
 refine f_tn (kh1 _ _ ?_)
 clear kh1
 refine f_seq fun K2 kh2 => ?_
 refine f_region ?_
 refine f_stepP rfl rfl rfl (o_loadA (vs := [_, _]) Try.isAgg24 Try.sizeOf24 rfl rfl ⟨(rdA rfl), (rdA rfl), trivial⟩) ?_
 refine f_stepP rfl rfl rfl (o_loadA (vs := [_, _]) Try.isAgg28 Try.sizeOf28 rfl rfl ⟨(rdA rfl), (rdA rfl), trivial⟩) ?_
 refine f_stepP rfl rfl rfl (o_move rfl) ?_
 refine f_stepP rfl rfl rfl (o_move rfl) ?_
 refine f_step rfl rfl rfl (o_call Try.call11 rfl (fun w_ hp_ => CBoundary_spec N A l cap Ab bs cb Ac R cc q c w_ (hr.up0 hp_) hl hN hok (hn.up0 hp_)) ?_)
 rintro _ _ ⟨M_, AM, cM, mM, rfl, rfl, hoM, hM1, hM0⟩
 dsimp only [List.cons_append, List.nil_append]
 refine f_stepP rfl rfl rfl (o_move rfl) ?_
 refine f_stepP rfl rfl rfl (o_extract rfl rfl) ?_
 refine f_stepP rfl rfl rfl (o_extract rfl rfl) ?_
 refine f_stepP rfl rfl rfl (o_assign rfl) ?_
 refine f_stepP rfl rfl rfl (o_assign rfl) ?_
 refine f_done ?_
 refine f_tn (kh2 _ _ ?_)
 clear kh2
 refine f_seq fun K3 kh3 => ?_
 refine f_seq fun K4 kh4 => ?_
 refine f_region ?_
 refine f_stepP rfl rfl rfl (o_move rfl) ?_
 refine f_stepP rfl rfl rfl (o_neq rfl rfl) ?_
 refine f_done ?_
 refine f_tn (kh4 _ _ ?_)
 clear kh4
 refine f_cond rfl (fun c25 => ?_) (fun c25 => ?_)
 ·
  refine f_seq fun K5 kh5 => ?_
  refine f_region ?_
  refine f_stepP rfl rfl rfl (o_move rfl) ?_
  refine f_stepP rfl rfl rfl (o_assign rfl) ?_
  refine f_stepP rfl rfl rfl (o_assign rfl) ?_
  refine f_done ?_
  refine f_tn (kh5 _ _ ?_)
  clear kh5
  refine f_ret ?_
  refine f_tr ?_
  have e : ixE N l bs (rowsL R) q c v = clE N l bs (rowsL R) q c := by unfold ixE; rw [if_pos (by simpa using c25)]
  exact f_fin2 [] Try.results12 rfl rfl Sub.nil ⟨0, by rw [e]; rfl, rfl, fun _ => rfl, fun h => absurd (e.symm.trans h) (by simpa using c25)⟩
 ·
  have hcz : clE N l bs (rowsL R) q c = 0 := by simpa using c25
  obtain ⟨n, k, j, hNn, hNo, hqk, hkb, hcj, hjm⟩ := clE_zero hcz
  obtain ⟨hn1, hn2, hlen, hgd⟩ := gcheck_zero hNo.g
  obtain rfl := hM0 hcz
  have hbl := bdL_len ((rowsL R).getD (q.toNat - 1) []) c l
  refine f_skip ?_
  refine f_tn (kh3 _ _ ?_)
  clear kh3
  refine f_seq fun K6 kh6 => ?_
  refine f_region ?_
  refine f_stepP rfl rfl rfl (o_move rfl) ?_
  refine f_stepP rfl rfl rfl (o_move rfl) ?_
  refine f_step rfl rfl rfl (o_call Try.call36 rfl (fun w_ hp_ => BSearch_spec AM (bdL ((rowsL R).getD (q.toNat - 1) []) c l) (bdL ((rowsL R).getD (q.toNat - 1) []) c l).length v w_ (seen_ro (hoM.seen hp_)) (by omega) (bdL_rising _ _ _)) ?_)
  rintro _ _ ⟨i, rfl, rfl, hi⟩
  dsimp only [List.cons_append, List.nil_append]
  refine f_stepP rfl rfl rfl (o_move rfl) ?_
  refine f_stepP rfl rfl rfl (o_extract rfl rfl) ?_
  refine f_stepP rfl rfl rfl (o_extract rfl rfl) ?_
  refine f_stepP rfl rfl rfl (o_assign rfl) ?_
  refine f_stepP rfl rfl rfl (o_assign rfl) ?_
  refine f_done ?_
  refine f_tn (kh6 _ _ ?_)
  clear kh6
  refine f_seq fun K7 kh7 => ?_
  refine f_seq fun K8 kh8 => ?_
  refine f_region ?_
  refine f_stepP rfl rfl rfl (o_move rfl) ?_
  refine f_stepP rfl rfl rfl (o_not rfl) ?_
  refine f_done ?_
  refine f_tn (kh8 _ _ ?_)
  clear kh8
  refine f_condB rfl (fun c34 => ?_) (fun c34 => ?_)
  ·
   refine f_seq fun K9 kh9 => ?_
   refine f_region ?_
   refine f_stepP rfl rfl rfl (o_assign rfl) ?_
   refine f_stepP rfl rfl rfl (o_assign rfl) ?_
   refine f_done ?_
   refine f_tn (kh9 _ _ ?_)
   clear kh9
   refine f_ret ?_
   refine f_tr ?_
   have e : ixE N l bs (rowsL R) q c v = 5 := by unfold ixE; rw [if_neg (by rw [hcz]; simp), if_neg (by simpa using c34)]
   exact f_fin2 [] Try.results12 rfl rfl Sub.nil ⟨0, by rw [e]; rfl, rfl, fun _ => rfl, fun h => absurd (e.symm.trans h) (by decide)⟩
  ·
   refine f_skip ?_
   refine f_tn (kh7 _ _ ?_)
   clear kh7
   refine f_seq fun K10 kh10 => ?_
   refine f_region ?_
   refine f_stepP rfl rfl rfl (o_move rfl) ?_
   refine f_stepP rfl rfl rfl (o_assign rfl) ?_
   refine f_stepP rfl rfl rfl (o_assign rfl) ?_
   refine f_done ?_
   refine f_tn (kh10 _ _ ?_)
   clear kh10
   refine f_ret ?_
   have hv : v ∈ bdL ((rowsL R).getD (q.toNat - 1) []) c l := by simpa using c34
   have e : ixE N l bs (rowsL R) q c v = 0 := by unfold ixE; rw [if_neg (by rw [hcz]; simp), if_pos hv]
   exact f_fin2 [] Try.results12 rfl rfl Sub.nil ⟨i, by rw [e], rfl, fun h => absurd e h, fun _ => hi hv⟩

set_option maxRecDepth 100000 in
set_option maxHeartbeats 4000000 in
theorem Stale1_spec (N : Int) (A : Option Addr) (len cap b : Nat) (i : Int) (w : World) (h2 : Ro (Fr w []) w (some ⟨b, 0, none⟩) [.int .i64 N, .slice A len cap]) :
    Meets Try.prog 39 ([.int .i64 i] ++ [.pointer (some ⟨b, 0, none⟩)]) w [] (fun u m => u = .bool (offA len i) ∧ m = []) := by
 obtain ⟨b2', o2', e2', hS2, hc2⟩ := h2 (by simp)
 obtain ⟨rfl, rfl⟩ : b = b2' ∧ 0 = o2' := by cases e2'; exact ⟨rfl, rfl⟩
 refine f_enter Try.func39 rfl Try.ntmps39 rfl Owns.nil ?_
 refine f_seq fun K1 kh1 => ?_
 refine f_region ?_
 refine f_stepP rfl rfl rfl (o_assign rfl) ?_
 refine f_done ?_
 refine f_tn (kh1 _ _ ?_)
 clear kh1
 refine f_seq fun K2 kh2 => ?_
 refine f_region ?_
 refine f_stepP rfl rfl rfl (o_move rfl) ?_
 refine f_stepP rfl rfl rfl (o_lss rfl rfl) ?_
 refine f_stepP rfl rfl rfl (o_move rfl) ?_
 refine f_splitL 6 rfl (fun g6 => ?_) (fun g6 => ?_)
 ·
  refine f_stepN rfl rfl rfl rfl rfl rfl ?_
  refine f_stepN rfl rfl rfl rfl rfl rfl ?_
  refine f_stepN rfl rfl rfl rfl rfl rfl ?_
  refine f_stepN rfl rfl rfl rfl rfl rfl ?_
  refine f_stepN rfl rfl rfl rfl rfl rfl ?_
  refine f_stepP rfl rfl rfl (o_pickT rfl rfl) ?_
  refine f_stepP rfl rfl rfl (o_assign rfl) ?_
  refine f_done ?_
  refine f_tn (kh2 _ _ ?_)
  clear kh2
  refine f_ret ?_
  exact f_fin1 [] Try.results39 rfl Sub.nil ⟨by unfold offA; rw [decide_eq_true g6]; rfl, rfl⟩
 ·
  refine f_stepPY rfl rfl rfl rfl rfl (o_move rfl) ?_
  refine f_stepPY rfl rfl rfl rfl rfl (o_field fa24_1 rfl) ?_
  refine f_stepPY rfl rfl rfl rfl rfl (o_load Try.isAgg22 rfl (rdS hS2 (hc2 1 _ rfl))) ?_
  refine f_stepPY rfl rfl rfl rfl rfl (o_len sl22 rfl) ?_
  refine f_stepPY rfl rfl rfl rfl rfl (o_geq rfl rfl) ?_
  refine f_stepP rfl rfl rfl (o_pickF rfl rfl) ?_
  refine f_stepP rfl rfl rfl (o_assign rfl) ?_
  refine f_done ?_
  refine f_tn (kh2 _ _ ?_)
  clear kh2
  refine f_ret ?_
  exact f_fin1 [] Try.results39 rfl Sub.nil ⟨by unfold offA; rw [decide_eq_false g6]; rfl, rfl⟩

set_option maxRecDepth 100000 in
set_option maxHeartbeats 4000000 in
theorem CStale_spec (N : Int) (A : Option Addr) (l : List Arc) (cap : Nat) (Ab : Option Addr) (bs : List Int) (cb : Nat) (Ac : Option Addr) (R : List Row) (cc : Nat) (D : Option Addr) (arcs : List Int) (cd : Nat) (w : World) (hr : Ro (Fr w []) w A (l.flatMap arcCs)) (hl : l.length ≤ 9223372036854775807) (hN : I64 N) (hok : ∀ x ∈ l, ArcOk x) (hn : NestRo (Fr w []) w Ab bs Ac R) (hD : Ro (Fr w []) w D (ints arcs)) (hm : arcs.length ≤ 9223372036854775807) :
    Meets Try.prog 17 [.agg #[.int .i64 N, .slice A l.length cap], .agg #[.slice Ab bs.length cb, .slice Ac R.length cc], .slice D arcs.length cd] w [] (fun u own' => ∃ (R' : List Row) (A' : Option Addr) (c' : Nat) (mc : Seg) (ms : List Seg), u = .tuple #[.slice A' R'.length c', .int .i64 (snE N l bs (rowsL R) arcs)] ∧ own' = [mc, ms.flatten] ∧ Own 25 1 (.slice A' R'.length c') R'.length (R'.map rowV) mc ∧ RowsC 3 R' ms ∧ (snE N l bs (rowsL R) arcs ≠ 0 → R' = []) ∧ (snE N l bs (rowsL R) arcs = 0 → rowsL R' = stL (rowsL R) l arcs)) := by
 refine f_enter Try.func17 rfl Try.ntmps17 rfl Owns.nil ?_
 refine f_seq fun K1 kh1 => ?_
 refine f_region ?_
 refine f_step rfl rfl rfl (o_box rfl rfl fun b3 => ?_)
 refine f_step rfl rfl rfl (o_box rfl rfl fun b4 => ?_)
 refine f_stepP rfl rfl rfl (o_assign rfl) ?_
 refine f_stepP rfl rfl rfl (o_assign rfl) ?_
 refine f_done ?_
 refine f_tn (kh1 _ _ ?_)
 clear kh1
 refine f_seq fun K2 kh2 => ?_
 refine f_seq fun K3 kh3 => ?_
 refine f_region ?_
 refine f_stepP rfl rfl rfl (o_loadA (vs := [_, _]) Try.isAgg24 Try.sizeOf24 rfl rfl ⟨(rdA rfl), (rdA rfl), trivial⟩) ?_
 refine f_stepP rfl rfl rfl (o_loadA (vs := [_, _]) Try.isAgg28 Try.sizeOf28 rfl rfl ⟨(rdA rfl), (rdA rfl), trivial⟩) ?_
 refine f_step rfl rfl rfl (o_call Try.call37 rfl (fun w_ hp_ => NCheck_spec N A l cap Ab bs cb Ac R cc w_ (hr.up0 hp_) hl hN hok (hn.up0 hp_)) ?_)
 rintro _ _ ⟨rfl, rfl⟩
 dsimp only [List.cons_append, List.nil_append]
 refine f_stepP rfl rfl rfl (o_move rfl) ?_
 refine f_stepP rfl rfl rfl (o_extract rfl rfl) ?_
 refine f_stepP rfl rfl rfl (o_extract rfl rfl) ?_
 refine f_stepP rfl rfl rfl (o_assign rfl) ?_
 refine f_stepP rfl rfl rfl (o_assign rfl) ?_
 refine f_done ?_
 refine f_tn (kh3 _ _ ?_)
 clear kh3
 refine f_seq fun K4 kh4 => ?_
 refine f_region ?_
 refine f_stepP rfl rfl rfl (o_move rfl) ?_
 refine f_stepP rfl rfl rfl (o_neq rfl rfl) ?_
 refine f_done ?_
 refine f_tn (kh4 _ _ ?_)
 clear kh4
 refine f_cond rfl (fun c23 => ?_) (fun c23 => ?_)
 ·
  refine f_seq fun K5 kh5 => ?_
  refine f_region ?_
  refine f_stepP rfl rfl rfl (o_move rfl) ?_
  refine f_stepP rfl rfl rfl (o_assign rfl) ?_
  refine f_stepP rfl rfl rfl (o_assign rfl) ?_
  refine f_done ?_
  refine f_tn (kh5 _ _ ?_)
  clear kh5
  refine f_ret ?_
  refine f_tr ?_
  have e : snE N l bs (rowsL R) arcs = (nsE N l bs (rowsL R)).2 := by unfold snE; rw [if_pos (by simpa using c23)]
  exact f_fin2 [[], []] Try.results17 rfl rfl (Sub.transF Sub.empty Sub.addNil) ⟨[], none, 0, [], [], by rw [e]; rfl, rfl, Own.nil _ _, RowsC.nil _, fun _ => rfl, fun h => absurd (e.symm.trans h) (by simpa using c23)⟩
 ·
  have hz : (nsE N l bs (rowsL R)).2 = 0 := by simpa using c23
  obtain ⟨n, rfl, hNo⟩ := nsE_zero hz
  obtain ⟨hn1, hn2, hlen, hgd⟩ := gcheck_zero hNo.g
  have hRl := hNo.len
  rw [rowsL_len] at hRl
  have hmany := hNo.many
  refine f_skip ?_
  refine f_tn (kh2 _ _ ?_)
  clear kh2
  refine f_seq fun K6 kh6 => ?_
  refine f_seq fun K7 kh7 => ?_
  refine f_region ?_
  refine f_stepP rfl rfl rfl (o_move rfl) ?_
  refine f_stepP rfl rfl rfl (o_len sl25 rfl) ?_
  refine f_stepP rfl rfl rfl (o_gtr rfl rfl) ?_
  refine f_done ?_
  refine f_tn (kh7 _ _ ?_)
  clear kh7
  refine f_cond rfl (fun c27 => ?_) (fun c27 => ?_)
  ·
   refine f_seq fun K8 kh8 => ?_
   refine f_region ?_
   refine f_stepP rfl rfl rfl (o_assign rfl) ?_
   refine f_stepP rfl rfl rfl (o_assign rfl) ?_
   refine f_done ?_
   refine f_tn (kh8 _ _ ?_)
   clear kh8
   refine f_ret ?_
   refine f_tr ?_
   have e : snE (n : Int) l bs (rowsL R) arcs = 2 := by unfold snE; rw [if_neg (by rw [hz]; simp), if_pos (by omega)]
   exact f_fin2 [[], []] Try.results17 rfl rfl (Sub.transF Sub.empty Sub.addNil) ⟨[], none, 0, [], [], by rw [e]; rfl, rfl, Own.nil _ _, RowsC.nil _, fun _ => rfl, fun h => absurd (e.symm.trans h) (by decide)⟩
  ·
   refine f_skip ?_
   refine f_tn (kh6 _ _ ?_)
   clear kh6
   refine f_seq fun K9 kh9 => ?_
   refine f_seq fun K10 kh10 => ?_
   refine f_region ?_
   refine f_stepP rfl rfl rfl (o_move rfl) ?_
   refine f_stepP rfl rfl rfl (o_func rfl rfl) ?_
   refine f_step rfl rfl rfl (o_call Try.call38 rfl (fun w_ hp_ => ContG_spec D arcs cd (offA l.length) 39 [.pointer (some ⟨b3, 0, none⟩)] w_ (hD.up0 hp_) hm Try.call39 (fun w' hs i hi => Stale1_spec (n : Int) A l.length cap b3 i w' (heldRo hp_ hs))) ?_)
   rintro _ _ ⟨rfl, rfl⟩
   dsimp only [List.cons_append, List.nil_append]
   refine f_done ?_
   refine f_tn (kh10 _ _ ?_)
   clear kh10
   refine f_condB rfl (fun c30 => ?_) (fun c30 => ?_)
   ·
    refine f_seq fun K11 kh11 => ?_
    refine f_region ?_
    refine f_stepP rfl rfl rfl (o_assign rfl) ?_
    refine f_stepP rfl rfl rfl (o_assign rfl) ?_
    refine f_done ?_
    refine f_tn (kh11 _ _ ?_)
    clear kh11
    refine f_ret ?_
    refine f_tr ?_
    have e : snE (n : Int) l bs (rowsL R) arcs = 5 := by unfold snE; rw [if_neg (by rw [hz]; simp), if_neg (by omega), if_pos c30]
    exact f_fin2 [[], []] Try.results17 rfl rfl (Sub.transF Sub.empty Sub.addNil) ⟨[], none, 0, [], [], by rw [e]; rfl, rfl, Own.nil _ _, RowsC.nil _, fun _ => rfl, fun h => absurd (e.symm.trans h) (by decide)⟩
   ·
    have hno : arcs.any (offA l.length) = false := by simpa using c30
    have hsn : snE (n : Int) l bs (rowsL R) arcs = 0 := by unfold snE; rw [if_neg (by rw [hz]; simp), if_neg (by omega), if_neg (by rw [hno]; simp)]
    refine f_skip ?_
    refine f_tn (kh9 _ _ ?_)
    clear kh9
    refine f_seq fun K12 kh12 => ?_
    refine f_region ?_
    refine f_stepP rfl rfl rfl (o_field fa28_1 rfl) ?_
    refine f_stepP rfl rfl rfl (o_load Try.isAgg26 rfl (rdA rfl)) ?_
    refine f_stepP rfl rfl rfl (o_len sl26 rfl) ?_
    refine f_step rfl rfl rfl (o_make el26 rfl rfl R.length rfl (by omega) (by omega) (List.replicate R.length (.slice none 0 0)) (rep_flatC R.length _).symm fun b34 => ?_)
    refine f_stepP rfl rfl rfl (o_assign rfl) ?_
    refine f_done ?_
    refine f_tn (kh12 _ _ ?_)
    clear kh12
    refine f_seq fun K13 kh13 => ?_
    refine f_seq fun K14 kh14 => ?_
    refine f_region ?_
    refine f_stepP rfl rfl rfl (o_field fa28_1 rfl) ?_
    refine f_stepP rfl rfl rfl (o_load Try.isAgg26 rfl (v := .slice Ac R.length cc) (rdA rfl)) ?_
    refine f_stepP rfl rfl rfl (o_len sl26 rfl) ?_
    refine f_stepP rfl rfl rfl (o_move rfl) ?_
    refine f_done ?_
    refine f_tn (kh14 _ _ ?_)
    clear kh14
    refine f_block ?_
    refine f_loop (α := Nat × List Value × List Seg) [2, 3, 10, 36, 37] (fun ⟨k, vs, ms⟩ => [(38, .int .i64 (k : Int))]) (fun ⟨k, vs, ms⟩ => [[(b34, blk (ctoR vs k) 25)], ms.flatten, [(b3, blk [.int .i64 (n : Int), .slice A l.length cap] 24)], [(b4, blk [.slice Ab bs.length cb, .slice Ac R.length cc] 28)]]) (fun ⟨k, vs, ms⟩ => k ≤ R.length ∧ RowsI 3 (stM (rowsL R) l arcs k 0) vs ms) (fun ⟨k, vs, ms⟩ => R.length - k) (0, List.replicate R.length (.slice none 0 0), List.replicate R.length []) ?_ ?_ ?_ ?_
    · exact (by repeat (first | exact trivial | refine ⟨rfl, ?_⟩))
    · dsimp only
      rw [ctoR_zero, show (List.replicate R.length ([] : Seg)).flatten = [] from by simp]
      repeat (first | exact Sub.nil | refine Sub.pick ?_ | refine Sub.castO rfl ?_ | refine Sub.skip ?_)
    · exact ⟨by omega, by rw [stM_zero, rowsL_len]; exact RowsI.start _ _⟩
    ·
     rintro ⟨k, vs, ms⟩ ⟨hkl, hR⟩
     refine f_seq fun K15 kh15 => ?_
     refine f_region ?_
     refine f_stepP rfl rfl rfl (o_lss rfl rfl) ?_
     refine f_done ?_
     refine f_tn (kh15 _ _ ?_)
     clear kh15
     refine f_seq fun K16 kh16 => ?_
     refine f_cond rfl (fun c39 => ?_) (fun c39 => ?_)
     ·
      have hkR : k < R.length := by omega
      obtain ⟨b0, o0, rfl, hS0, hc0⟩ := hn.c (map_ne hkR)
      have hrowk := hn.rows _ (List.getElem_mem hkR)
      have hrk := rowsL_at hkR
      have hkl := hNo.rowlen (k := k) (by omega)
      rw [hrk] at hkl
      obtain ⟨br, or, hAr, hSr, hcrr⟩ := hrowk.1 (fun e => by have := ints_length (R[k]'hkR).2.1; rw [e] at this; simp at this; omega)
      refine f_skip ?_
      refine f_tn (kh16 _ _ ?_)
      clear kh16
      refine f_seq fun K17 kh17 => ?_
      refine f_block ?_
      refine f_seq fun K18 kh18 => ?_
      refine f_region ?_
      refine f_stepP rfl rfl rfl (o_move rfl) ?_
      refine f_stepP rfl rfl rfl (o_idx sl26 rfl rfl (o0 + k) ⟨by omega, by omega, by first | omega | (simp; done) | (simp; omega)⟩) ?_
      refine f_stepP rfl rfl rfl (o_load Try.isAgg25 rfl (v := .slice (some ⟨br, or, none⟩) (R[k]'hkR).2.1.length (R[k]'hkR).2.2) (show Rd _ _ _ _ _ (Value.slice (some ⟨br, or, none⟩) (R[k]'hkR).2.1.length (R[k]'hkR).2.2) by rw [← hAr]; exact roOne (enc := rowV) hS0 hc0 hkR)) ?_
      refine f_stepP rfl rfl rfl (o_assign rfl) ?_
      refine f_stepP rfl rfl rfl (o_assign rfl) ?_
      refine f_done ?_
      refine f_tn (kh18 _ _ ?_)
      clear kh18
      refine f_seq fun K19 kh19 => ?_
      refine f_seq fun K20 kh20 => ?_
      refine f_region ?_
      refine f_stepP rfl rfl rfl (o_move rfl) ?_
      refine f_stepP rfl rfl rfl (o_len sl25 rfl) ?_
      refine f_stepP rfl rfl rfl (o_move rfl) ?_
      refine f_done ?_
      refine f_tn (kh20 _ _ ?_)
      clear kh20
      refine f_block ?_
      refine f_loop (α := Nat × List Value × List Seg) [2, 3, 10, 11, 12, 36, 37, 38, 43, 44] (fun ⟨j, vs, ms⟩ => [(45, .int .i64 (j : Int))]) (fun ⟨j, vs, ms⟩ => [[(b34, blk (ctoR vs k) 25)], ms.flatten, [(b3, blk [.int .i64 (n : Int), .slice A l.length cap] 24)], [(b4, blk [.slice Ab bs.length cb, .slice (some ⟨b0, o0, none⟩) R.length cc] 28)]]) (fun ⟨j, vs, ms⟩ => j ≤ arcs.length ∧ RowsI 3 (stM (rowsL R) l arcs k j) vs ms) (fun ⟨j, vs, ms⟩ => arcs.length - j) (0, vs, ms) ?_ ?_ ?_ ?_
      · exact (by repeat (first | exact trivial | refine ⟨rfl, ?_⟩))
      · repeat (first | exact Sub.nil | refine Sub.pick ?_ | refine Sub.castO rfl ?_ | refine Sub.skip ?_)
      · exact ⟨by omega, hR⟩
      ·
       rintro ⟨j, vs, ms⟩ ⟨hjl, hR⟩
       refine f_envC (e := [(45, _), (2, _), (3, _), (10, _), (11, _), (12, _), (36, _), (37, _), (38, _), (43, _), (44, _)]) (by repeat (first | exact trivial | refine ⟨rfl, ?_⟩)) ?_
       refine f_seq fun K21 kh21 => ?_
       refine f_region ?_
       refine f_stepP rfl rfl rfl (o_lss rfl rfl) ?_
       refine f_done ?_
       refine f_tn (kh21 _ _ ?_)
       clear kh21
       refine f_seq fun K22 kh22 => ?_
       refine f_cond rfl (fun c46 => ?_) (fun c46 => ?_)
       ·
        have hj : j < arcs.length := by omega
        have hoff : offA l.length arcs[j] = false := by have := List.any_eq_false.1 hno _ (List.getElem_mem hj); simpa using this
        obtain ⟨u, hu, hul⟩ : ∃ u : Nat, arcs[j] = (u : Int) ∧ u < l.length := ⟨arcs[j].toNat, by unfold offA at hoff; simp at hoff; omega, by unfold offA at hoff; simp at hoff; omega⟩
        obtain ⟨bd, od, rfl, hSd, hcd⟩ := hD (map_ne hj)
        obtain ⟨bl, off, rfl, hS, hc⟩ := hr (flat_ne arcCs arcCs_len (by omega) hul)
        have hgu := hgd u hul
        have hsN : l[u].src.toNat < (R[k]'hkR).2.1.length := by omega
        have hdN : l[u].dst.toNat < (R[k]'hkR).2.1.length := by omega
        have hnx := stR_next (row := (R[k]'hkR).2.1) (l := l) hj
        rw [stOf_at hu hul, getD_at hsN, getD_at hdN] at hnx
        refine f_skip ?_
        refine f_tn (kh22 _ _ ?_)
        clear kh22
        refine f_seq fun K23 kh23 => ?_
        refine f_block ?_
        refine f_seq fun K24 kh24 => ?_
        refine f_region ?_
        refine f_stepP rfl rfl rfl (o_idx sl25 rfl rfl (od + j) ⟨by omega, by omega, by first | omega | (simp; done) | (simp; omega)⟩) ?_
        refine f_stepP rfl rfl rfl (o_load Try.isAgg3 rfl (show Rd _ _ _ _ _ (.int .i64 (u : Int)) by rw [← hu]; exact roOne (enc := (.int .i64 ·)) hSd hcd hj)) ?_
        refine f_stepP rfl rfl rfl (o_assign rfl) ?_
        refine f_done ?_
        refine f_tn (kh24 _ _ ?_)
        clear kh24
        refine f_seq fun K25 kh25 => ?_
        refine f_region ?_
        refine f_stepP rfl rfl rfl (o_field fa24_1 rfl) ?_
        refine f_stepP rfl rfl rfl (o_load Try.isAgg22 rfl (rdA rfl)) ?_
        refine f_stepP rfl rfl rfl (o_move rfl) ?_
        refine f_stepP rfl rfl rfl (o_idx sl22 rfl rfl (off + u * 3) ⟨by omega, by omega, by first | omega | (simp; done) | (simp; omega)⟩) ?_
        refine f_stepP rfl rfl rfl (o_loadA (vs := arcCs l[u]) Try.isAgg39 Try.sizeOf39 rfl rfl (roElem arcCs_len hS hc hul)) ?_
        refine f_step rfl rfl rfl (o_alloc Try.zeroValue39 rfl fun b15 => ?_)
        refine f_step0 rfl rfl (o_storeA Try.sizeOf39 rfl rfl rfl rfl (by first | exact Nat.le_of_ble_eq_true rfl | (simp; done) | (simp; omega)) (arcCs l[u]) rfl ?_)
        refine f_done ?_
        refine f_tn (kh25 _ _ ?_)
        clear kh25
        refine f_seq fun K26 kh26 => ?_
        refine f_regionS rfl (by decide +kernel) ?_
        refine f_stillP rfl rfl rfl (o_move rfl) ?_
        refine f_stillP rfl rfl rfl (o_field fa39_0 rfl) ?_
        refine f_stillP rfl rfl rfl (o_load Try.isAgg3 rfl (rdA rfl)) ?_
        refine f_stillP rfl rfl rfl (o_idx sl25 rfl rfl (or + l[u].src.toNat) ⟨by omega, by omega, by first | omega | (simp; done) | (simp; omega)⟩) ?_
        refine f_stillP rfl rfl rfl (o_load Try.isAgg3 rfl (roOne (enc := (.int .i64 ·)) hSr hcrr hsN)) ?_
        refine f_stillP rfl rfl rfl (o_move rfl) ?_
        refine f_stillP rfl rfl rfl (o_field fa39_1 rfl) ?_
        refine f_stillP rfl rfl rfl (o_load Try.isAgg3 rfl (rdA rfl)) ?_
        refine f_stillP rfl rfl rfl (o_idx sl25 rfl rfl (or + l[u].dst.toNat) ⟨by omega, by omega, by first | omega | (simp; done) | (simp; omega)⟩) ?_
        refine f_stillP rfl rfl rfl (o_load Try.isAgg3 rfl (roOne (enc := (.int .i64 ·)) hSr hcrr hdN)) ?_
        refine f_stillP rfl rfl rfl (o_eql rfl rfl) ?_
        refine f_stillD ?_
        refine f_tn (kh26 _ _ ?_)
        clear kh26
        refine f_cond rfl (fun c64 => ?_) (fun c64 => ?_)
        ·
         rw [if_pos c64] at hnx
         obtain ⟨rv, rm, rG, hrv, hro, hrp, hput⟩ := hR.split (i := k) (by rw [stM_len, rowsL_len]; exact hkR)
         rw [stM_at] at hro
         have hrlen := stR_len ((rowsL R).getD k []) l (arcs.take j)
         rw [List.length_take] at hrlen
         obtain ⟨rl, hrl⟩ : ∃ rl, rl = stR ((rowsL R).getD k []) l (arcs.take j) := ⟨_, rfl⟩
         rw [← hrl] at hro hrlen
         obtain ⟨Ar, cr, rfl, hcr⟩ := hro.val
         have hlv := hR.lv
         rw [stM_len, rowsL_len] at hlv
         refine f_subC (Sub.splitF hrp) ?_
         refine f_regionH [[(b15, blk (arcCs l[u]) 39)]] rfl ?_
         refine f_take 0 rfl (by decide +kernel) rfl rfl rfl (by repeat (first | exact Sub.nil | refine Sub.pick ?_ | refine Sub.castO rfl ?_ | refine Sub.skip ?_)) (o_move rfl) ?_
         refine f_take 1 rfl (by decide +kernel) rfl rfl rfl (by repeat (first | exact Sub.nil | refine Sub.pick ?_ | refine Sub.castO rfl ?_ | refine Sub.skip ?_)) (o_move rfl) ?_
         refine f_take 2 rfl (by decide +kernel) rfl rfl rfl (by repeat (first | exact Sub.nil | refine Sub.pick ?_ | refine Sub.castO rfl ?_ | refine Sub.skip ?_)) (o_move rfl) ?_
         refine f_take 3 rfl (by decide +kernel) rfl rfl rfl (by repeat (first | exact Sub.nil | refine Sub.pick ?_ | refine Sub.castO rfl ?_ | refine Sub.skip ?_)) (o_move rfl) ?_
         refine f_take 4 rfl (by decide +kernel) rfl rfl rfl (by repeat (first | exact Sub.nil | refine Sub.pick ?_ | refine Sub.castO rfl ?_ | refine Sub.skip ?_)) (o_idx sl26 rfl rfl (k) ⟨by omega, by omega, by first | omega | (simp; done) | (simp; omega)⟩) ?_
         refine f_take 6 rfl (by decide +kernel) rfl rfl rfl (by repeat (first | exact Sub.nil | refine Sub.pick ?_ | refine Sub.castO rfl ?_ | refine Sub.skip ?_)) (o_move rfl) ?_
         refine f_take 7 rfl (by decide +kernel) rfl rfl rfl (by repeat (first | exact Sub.nil | refine Sub.pick ?_ | refine Sub.castO rfl ?_ | refine Sub.skip ?_)) (o_field fa39_0 rfl) ?_
         refine f_take 8 rfl (by decide +kernel) rfl rfl rfl (by repeat (first | exact Sub.nil | refine Sub.pick ?_ | refine Sub.castO rfl ?_ | refine Sub.skip ?_)) (o_load Try.isAgg3 rfl (rdA rfl)) ?_
         refine f_take 9 rfl (by decide +kernel) rfl rfl rfl (by repeat (first | exact Sub.nil | refine Sub.pick ?_ | refine Sub.castO rfl ?_ | refine Sub.skip ?_)) (o_idx sl25 rfl rfl (or + l[u].src.toNat) ⟨by omega, by omega, by first | omega | (simp; done) | (simp; omega)⟩) ?_
         refine f_take 10 rfl (by decide +kernel) rfl rfl rfl (by repeat (first | exact Sub.nil | refine Sub.pick ?_ | refine Sub.castO rfl ?_ | refine Sub.skip ?_)) (o_load Try.isAgg3 rfl (roOne (enc := (.int .i64 ·)) hSr hcrr hsN)) ?_
         refine f_two 5 11 rfl rfl (by decide +kernel) rfl rfl rfl rfl rfl rfl ?_ ?_
         ·
          refine (o_load Try.isAgg25 rfl (rdA (by rw [ctoR_get (Nat.le_refl _)]; exact hrv))).does ⟨(by repeat (first | exact Sub.nil | refine Sub.pick ?_ | refine Sub.castO rfl ?_ | refine Sub.skip ?_)), ?_⟩
          refine f_only 11 rfl (by decide +kernel) rfl rfl rfl (o_slice1 el25 (by omega) rfl rfl rfl fun b76 => ⟨(by repeat (first | exact Sub.nil | refine Sub.pick ?_ | refine Sub.castO rfl ?_ | refine Sub.skip ?_)), ?_⟩)
          refine f_only 12 rfl (by decide +kernel) rfl rfl rfl (o_append el25 rfl rfl hro (ys := [.int .i64 (R[k]'hkR).2.1[l[u].src.toNat]]) ⟨(rdA rfl), trivial⟩ rfl rfl (by omega) (by omega) fun v77 m77 o77 => ⟨(by repeat (first | exact Sub.nil | refine Sub.pick ?_ | refine Sub.castO rfl ?_ | refine Sub.skip ?_)), ?_⟩)
          obtain ⟨A77, cap77, rfl, _⟩ := o77.val
          refine f_take 13 rfl (by decide +kernel) rfl rfl rfl (by repeat (first | exact Sub.nil | refine Sub.pick ?_ | refine Sub.castO rfl ?_ | refine Sub.skip ?_)) (o_idx sl26 rfl rfl (k) ⟨by omega, by omega, by first | omega | (simp; done) | (simp; omega)⟩) ?_
          refine f_only0 14 rfl (by decide +kernel) rfl rfl (o_store Try.sizeOf25 rfl rfl rfl rfl (by rw [ctoR_len]; omega) (ctoR (vs.set k (.slice A77 (rl.length + 1) cap77)) k) (ctoR_set (Nat.le_refl _) _) ⟨(by repeat (first | exact Sub.nil | refine Sub.pick ?_ | refine Sub.castO rfl ?_ | refine Sub.skip ?_)), ?_⟩)
          refine f_over (by decide +kernel) ?_
          refine f_bn ?_
          refine f_tn (kh23 _ _ ?_)
          clear kh23
          refine f_region ?_
          refine f_stepP rfl rfl rfl (o_add rfl rfl _ (wrap_i64 (by omega))) ?_
          refine f_stepP rfl rfl rfl (o_move rfl) ?_
          refine f_done ?_
          refine f_subQ (Sub.joinF (m := m77) (G' := rG) (hput _ _ _ (by rw [← ints_len1C]; exact o77)).2) ?_
          refine f_tn (f_again (j + 1, vs.set k (.slice A77 (rl.length + 1) cap77), ms.set k m77) (by first | omega | (dsimp only; omega) | (simp; omega)) ⟨by omega, by have := (hput _ _ _ (by rw [← ints_len1C]; exact o77)).1; rw [hrl, stM_next (by rw [hrk, hnx])] at this; rw [hrl]; exact this⟩ ?_ ?_ ?_)
          · exact (by repeat (first | exact trivial | refine ⟨rfl, ?_⟩))
          · exact (by repeat (first | exact trivial | refine ⟨rfl, ?_⟩))
          · repeat (first | exact Sub.nil | refine Sub.pick ?_ | refine Sub.castO rfl ?_ | refine Sub.skip ?_)
         ·
          refine (o_slice1 el25 (by omega) rfl rfl rfl fun b76 => ⟨(by repeat (first | exact Sub.nil | refine Sub.pick ?_ | refine Sub.castO rfl ?_ | refine Sub.skip ?_)), ?_⟩)
          refine f_only 5 rfl (by decide +kernel) rfl rfl rfl ((o_load Try.isAgg25 rfl (rdA (by rw [ctoR_get (Nat.le_refl _)]; exact hrv))).does ⟨(by repeat (first | exact Sub.nil | refine Sub.pick ?_ | refine Sub.castO rfl ?_ | refine Sub.skip ?_)), ?_⟩)
          refine f_only 12 rfl (by decide +kernel) rfl rfl rfl (o_append el25 rfl rfl hro (ys := [.int .i64 (R[k]'hkR).2.1[l[u].src.toNat]]) ⟨(rdA rfl), trivial⟩ rfl rfl (by omega) (by omega) fun v77 m77 o77 => ⟨(by repeat (first | exact Sub.nil | refine Sub.pick ?_ | refine Sub.castO rfl ?_ | refine Sub.skip ?_)), ?_⟩)
          obtain ⟨A77, cap77, rfl, _⟩ := o77.val
          refine f_take 13 rfl (by decide +kernel) rfl rfl rfl (by repeat (first | exact Sub.nil | refine Sub.pick ?_ | refine Sub.castO rfl ?_ | refine Sub.skip ?_)) (o_idx sl26 rfl rfl (k) ⟨by omega, by omega, by first | omega | (simp; done) | (simp; omega)⟩) ?_
          refine f_only0 14 rfl (by decide +kernel) rfl rfl (o_store Try.sizeOf25 rfl rfl rfl rfl (by rw [ctoR_len]; omega) (ctoR (vs.set k (.slice A77 (rl.length + 1) cap77)) k) (ctoR_set (Nat.le_refl _) _) ⟨(by repeat (first | exact Sub.nil | refine Sub.pick ?_ | refine Sub.castO rfl ?_ | refine Sub.skip ?_)), ?_⟩)
          refine f_over (by decide +kernel) ?_
          refine f_bn ?_
          refine f_tn (kh23 _ _ ?_)
          clear kh23
          refine f_region ?_
          refine f_stepP rfl rfl rfl (o_add rfl rfl _ (wrap_i64 (by omega))) ?_
          refine f_stepP rfl rfl rfl (o_move rfl) ?_
          refine f_done ?_
          refine f_subQ (Sub.joinF (m := m77) (G' := rG) (hput _ _ _ (by rw [← ints_len1C]; exact o77)).2) ?_
          refine f_tn (f_again (j + 1, vs.set k (.slice A77 (rl.length + 1) cap77), ms.set k m77) (by first | omega | (dsimp only; omega) | (simp; omega)) ⟨by omega, by have := (hput _ _ _ (by rw [← ints_len1C]; exact o77)).1; rw [hrl, stM_next (by rw [hrk, hnx])] at this; rw [hrl]; exact this⟩ ?_ ?_ ?_)
          · exact (by repeat (first | exact trivial | refine ⟨rfl, ?_⟩))
          · exact (by repeat (first | exact trivial | refine ⟨rfl, ?_⟩))
          · repeat (first | exact Sub.nil | refine Sub.pick ?_ | refine Sub.castO rfl ?_ | refine Sub.skip ?_)
        ·
         rw [if_neg c64, List.append_nil] at hnx
         refine f_skip ?_
         refine f_bn ?_
         refine f_tn (kh23 _ _ ?_)
         clear kh23
         refine f_region ?_
         refine f_stepP rfl rfl rfl (o_add rfl rfl _ (wrap_i64 (by omega))) ?_
         refine f_stepP rfl rfl rfl (o_move rfl) ?_
         refine f_done ?_
         refine f_tn (f_again (j + 1, vs, ms) (by first | omega | (dsimp only; omega) | (simp; omega)) ⟨by omega, by rw [← stM_same (by rw [hrk]; exact hnx)]; exact hR⟩ ?_ ?_ ?_)
         · exact (by repeat (first | exact trivial | refine ⟨rfl, ?_⟩))
         · exact (by repeat (first | exact trivial | refine ⟨rfl, ?_⟩))
         · repeat (first | exact Sub.nil | refine Sub.pick ?_ | refine Sub.castO rfl ?_ | refine Sub.skip ?_)
       ·
        obtain rfl : j = arcs.length := by omega
        refine f_exit ?_
        refine f_te ?_
        clear kh22
        refine f_te ?_
        refine f_be ?_
        refine f_tn (kh19 _ _ ?_)
        clear kh19
        refine f_seq fun K27 kh27 => ?_
        obtain ⟨rv, rm, rG, hrv, hro, hrp, hput⟩ := hR.split (i := k) (by rw [stM_len, rowsL_len]; exact hkR)
        rw [stM_at] at hro
        have hrlen := stR_len ((rowsL R).getD k []) l (arcs.take arcs.length)
        rw [List.length_take] at hrlen
        obtain ⟨rl, hrl⟩ : ∃ rl, rl = stR ((rowsL R).getD k []) l (arcs.take arcs.length) := ⟨_, rfl⟩
        rw [← hrl] at hro hrlen
        obtain ⟨Ar, cr, rfl, hcr⟩ := hro.val
        have hlv := hR.lv
        rw [stM_len, rowsL_len] at hlv
        refine f_subC (Sub.splitF hrp) ?_
        refine f_region ?_
        refine f_stepP rfl rfl rfl (o_move rfl) ?_
        refine f_stepP rfl rfl rfl (o_move rfl) ?_
        refine f_stepP rfl rfl rfl (o_idx sl26 rfl rfl (k) ⟨by omega, by omega, by first | omega | (simp; done) | (simp; omega)⟩) ?_
        refine f_stepP rfl rfl rfl (o_load Try.isAgg25 rfl (rdA (by rw [ctoR_get (Nat.le_refl _)]; exact hrv))) ?_
        refine f_step rfl rfl rfl (o_callM [rm] _ Try.call33 rfl (Sub.pick Sub.refl) (fun w_ hp_ => SortInts_spec Ar cr rl rm w_ hro (by omega) hp_.owns) ?_)
        rintro _ _ ⟨rfl, m2, rfl, ho2⟩
        dsimp only [List.cons_append, List.nil_append]
        refine f_done ?_
        refine f_tn (kh27 _ _ ?_)
        clear kh27
        refine f_region ?_
        refine f_stepP rfl rfl rfl (o_move rfl) ?_
        refine f_stepP rfl rfl rfl (o_move rfl) ?_
        refine f_stepP rfl rfl rfl (o_move rfl) ?_
        refine f_stepP rfl rfl rfl (o_move rfl) ?_
        refine f_stepP rfl rfl rfl (o_idx sl26 rfl rfl (k) ⟨by omega, by omega, by first | omega | (simp; done) | (simp; omega)⟩) ?_
        refine f_stepP rfl rfl rfl (o_load Try.isAgg25 rfl (rdA (by rw [ctoR_get (Nat.le_refl _)]; exact hrv))) ?_
        refine f_step rfl rfl rfl (o_callM [m2] _ Try.call35 rfl (by repeat (first | exact Sub.refl | refine Sub.pick ?_)) (fun w_ hp_ => (by have h := Compact_spec Ar cr (sortI rl) m2 w_ (by rw [sortI_len]; exact ho2) (by rw [sortI_len]; omega) hp_.owns; rw [sortI_len] at h; exact h)) ?_)
        rintro v91 _ ⟨m3, rfl, ho3⟩
        obtain ⟨A3, c3, rfl, hc3⟩ := ho3.val
        dsimp only [List.cons_append, List.nil_append]
        refine f_step rfl rfl rfl (o_call Try.call34 rfl (fun w_ hp_ => cut_spec A3 (cpt (sortI rl)).length c3 w_ hc3.1 hc3.2 (own_none ho3)) ?_)
        rintro _ _ ⟨rfl, rfl⟩
        dsimp only [List.cons_append, List.nil_append]
        refine f_stepP rfl rfl rfl (o_idx sl26 rfl rfl (k) ⟨by omega, by omega, by first | omega | (simp; done) | (simp; omega)⟩) ?_
        refine f_step0 rfl rfl (o_store Try.sizeOf25 rfl rfl rfl rfl (by rw [ctoR_len]; omega) (ctoR (vs.set k (.slice A3 (cpt (sortI rl)).length c3)) (k + 1)) (ctoR_next (.slice A3 (cpt (sortI rl)).length c3)) ?_)
        refine f_done ?_
        refine f_bn ?_
        refine f_tn (kh17 _ _ ?_)
        clear kh17
        refine f_region ?_
        refine f_stepP rfl rfl rfl (o_add rfl rfl _ (wrap_i64 (by omega))) ?_
        refine f_stepP rfl rfl rfl (o_move rfl) ?_
        refine f_done ?_
        refine f_subQ (Sub.joinF (m := m3) (G' := rG) (hput _ _ _ ho3).2) ?_
        refine f_tn (f_again (k + 1, vs.set k (.slice A3 (cpt (sortI rl)).length c3), ms.set k m3) (by first | omega | (dsimp only; omega) | (simp; omega)) ⟨by omega, by have := (hput _ _ _ ho3).1; rw [hrl, List.take_length, show cpt (sortI (stR ((rowsL R).getD k []) l arcs)) = stRow ((rowsL R).getD k []) l arcs from rfl, stM_row rfl] at this; rw [hrl, List.take_length]; exact this⟩ ?_ ?_ ?_)
        · exact (by repeat (first | exact trivial | refine ⟨rfl, ?_⟩))
        · exact (by repeat (first | exact trivial | refine ⟨rfl, ?_⟩))
        · repeat (first | exact Sub.nil | refine Sub.pick ?_ | refine Sub.castO rfl ?_ | refine Sub.skip ?_)
     ·
      obtain rfl : k = R.length := by omega
      refine f_exit ?_
      refine f_te ?_
      clear kh16
      refine f_te ?_
      refine f_be ?_
      refine f_tn (kh13 _ _ ?_)
      clear kh13
      refine f_seq fun K28 kh28 => ?_
      refine f_region ?_
      refine f_stepP rfl rfl rfl (o_move rfl) ?_
      refine f_stepP rfl rfl rfl (o_assign rfl) ?_
      refine f_stepP rfl rfl rfl (o_assign rfl) ?_
      refine f_done ?_
      refine f_tn (kh28 _ _ ?_)
      clear kh28
      refine f_ret ?_
      have hlv := hR.lv
      rw [stM_len, rowsL_len] at hlv
      obtain ⟨R', hR1, hR2, hR3⟩ := RowsI.cut hR
      have hRl' : R'.length = R.length := by rw [← rowsL_len R', hR2, stM_len, rowsL_len]
      dsimp only
      rw [ctoR_all (by omega), hR1]
      exact f_fin2 [[(b34, blk (R'.map rowV) 25)], ms.flatten] Try.results17 rfl rfl (by repeat (first | exact Sub.nil | refine Sub.pick ?_ | refine Sub.castO rfl ?_ | refine Sub.skip ?_)) ⟨R', some ⟨b34, 0, none⟩, R.length, _, ms, by rw [hsn, hRl'], rfl, by have h := Own.mk (E := 25) (sz := 1) (b := b34) (cs := R'.map rowV) (len := R'.length) (by simp) (by omega); rw [hRl'] at h ⊢; exact h, hR3, fun h => absurd hsn h, fun _ => by rw [hR2, stM_all (by rw [rowsL_len]; exact Nat.le_refl _)]⟩

end Go.Proofs.Ytkmkakpadgljeaa

/- flyoverbook: whether lists and graphs are the same. -/
namespace Go.Proofs.Ytkmkakpadgljeaa
open Go Go.RowKit Fly
set_option linter.unusedVariables false
set_option linter.unusedSimpArgs false


theorem prefix_next {α : Type} {l r : List α} {k : Nat} (hl : l.length = r.length) (hk : k < l.length) (h : ∀ j (a : j < l.length) (b : j < r.length), j < k → l[j] = r[j]) (e : l[k] = r[k]'(hl ▸ hk)) :
    ∀ j (a : j < l.length) (b : j < r.length), j < k + 1 → l[j] = r[j] := fun j a b hj => by
  by_cases hjk : j = k
  · subst hjk; exact e
  · exact h j a b (by omega)
theorem prefix_all {α : Type} {l r : List α} {k : Nat} (hl : l.length = r.length) (hk : l.length ≤ k) (h : ∀ j (a : j < l.length) (b : j < r.length), j < k → l[j] = r[j]) : l = r :=
  List.ext_getElem hl fun j a b => h j a b (by omega)
theorem ne_at {α : Type} {l r : List α} {k : Nat} (hk : k < l.length) (hk' : k < r.length) (e : l[k] ≠ r[k]) : l ≠ r := fun h => by subst h; exact e rfl

set_option maxRecDepth 100000 in
set_option maxHeartbeats 4000000 in
theorem SameInts_spec (A B : Option Addr) (l r : List Int) (ca cb : Nat) (w : World) (hl : Ro (Fr w []) w A (ints l)) (hr : Ro (Fr w []) w B (ints r)) (hm : l.length ≤ 9223372036854775807) :
    Meets Try.prog 20 [.slice A l.length ca, .slice B r.length cb] w [] (fun u m => u = .bool (decide (l = r)) ∧ m = []) := by
 refine f_enter Try.func20 rfl Try.ntmps20 rfl Owns.nil ?_
 refine f_seq fun K1 kh1 => ?_
 refine f_region ?_
 refine f_stepP rfl rfl rfl (o_assign rfl) ?_
 refine f_done ?_
 refine f_tn (kh1 _ _ ?_)
 clear kh1
 refine f_seq fun K2 kh2 => ?_
 refine f_seq fun K3 kh3 => ?_
 refine f_region ?_
 refine f_stepP rfl rfl rfl (o_move rfl) ?_
 refine f_stepP rfl rfl rfl (o_len sl25 rfl) ?_
 refine f_stepP rfl rfl rfl (o_move rfl) ?_
 refine f_stepP rfl rfl rfl (o_len sl25 rfl) ?_
 refine f_stepP rfl rfl rfl (o_neq rfl rfl) ?_
 refine f_done ?_
 refine f_tn (kh3 _ _ ?_)
 clear kh3
 refine f_cond rfl (fun c10 => ?_) (fun c10 => ?_)
 ·
  refine f_seq fun K4 kh4 => ?_
  refine f_region ?_
  refine f_stepP rfl rfl rfl (o_assign rfl) ?_
  refine f_done ?_
  refine f_tn (kh4 _ _ ?_)
  clear kh4
  refine f_ret ?_
  refine f_tr ?_
  exact f_fin1 [] Try.results20 rfl Sub.nil ⟨by rw [decide_eq_false]; intro e; subst e; omega, rfl⟩
 ·
  have hlr : l.length = r.length := by omega
  refine f_skip ?_
  refine f_tn (kh2 _ _ ?_)
  clear kh2
  refine f_seq fun K5 kh5 => ?_
  refine f_seq fun K6 kh6 => ?_
  refine f_region ?_
  refine f_stepP rfl rfl rfl (o_assign rfl) ?_
  refine f_done ?_
  refine f_tn (kh6 _ _ ?_)
  clear kh6
  refine f_block ?_
  refine f_loopK (α := Nat) [0, 1] (fun k => [(5, .int .i64 (k : Int))]) (fun k => k ≤ l.length ∧ ∀ j (a : j < l.length) (b : j < r.length), j < k → l[j] = r[j]) (fun k => l.length - k) (0) ?_ ?_ ?_
  · exact (by repeat (first | exact trivial | refine ⟨rfl, ?_⟩))
  · exact ⟨by omega, fun j _ _ hj => by omega⟩
  ·
   rintro k ⟨hkl, hpre⟩
   refine f_seq fun K7 kh7 => ?_
   refine f_seq fun K8 kh8 => ?_
   refine f_region ?_
   refine f_stepP rfl rfl rfl (o_move rfl) ?_
   refine f_stepP rfl rfl rfl (o_move rfl) ?_
   refine f_stepP rfl rfl rfl (o_len sl25 rfl) ?_
   refine f_stepP rfl rfl rfl (o_lss rfl rfl) ?_
   refine f_done ?_
   refine f_tn (kh8 _ _ ?_)
   clear kh8
   refine f_cond rfl (fun c14 => ?_) (fun c14 => ?_)
   ·
    refine f_skip ?_
    refine f_tn (kh7 _ _ ?_)
    clear kh7
    refine f_seq fun K9 kh9 => ?_
    refine f_block ?_
    refine f_seq fun K10 kh10 => ?_
    refine f_regionS rfl (by decide +kernel) ?_
    have hk : k < l.length := by omega
    have hk' : k < r.length := by omega
    obtain ⟨b1, o1, rfl, hS1, hc1⟩ := hl (fun e => by have := ints_length l; rw [e] at this; simp at this; omega)
    obtain ⟨b2, o2, rfl, hS2, hc2⟩ := hr (fun e => by have := ints_length r; rw [e] at this; simp at this; omega)
    refine f_stillP rfl rfl rfl (o_move rfl) ?_
    refine f_stillP rfl rfl rfl (o_move rfl) ?_
    refine f_stillP rfl rfl rfl (o_idx sl25 rfl rfl (o1 + k) ⟨by omega, by omega, by first | omega | (simp; done) | (simp; omega)⟩) ?_
    refine f_stillP rfl rfl rfl (o_load Try.isAgg3 rfl (roOne (enc := (.int .i64 ·)) hS1 hc1 hk)) ?_
    refine f_stillP rfl rfl rfl (o_move rfl) ?_
    refine f_stillP rfl rfl rfl (o_move rfl) ?_
    refine f_stillP rfl rfl rfl (o_idx sl25 rfl rfl (o2 + k) ⟨by omega, by omega, by first | omega | (simp; done) | (simp; omega)⟩) ?_
    refine f_stillP rfl rfl rfl (o_load Try.isAgg3 rfl (roOne (enc := (.int .i64 ·)) hS2 hc2 hk')) ?_
    refine f_stillP rfl rfl rfl (o_neq rfl rfl) ?_
    refine f_stillD ?_
    refine f_tn (kh10 _ _ ?_)
    clear kh10
    refine f_cond rfl (fun c25 => ?_) (fun c25 => ?_)
    ·
     refine f_seq fun K11 kh11 => ?_
     refine f_region ?_
     refine f_stepP rfl rfl rfl (o_assign rfl) ?_
     refine f_done ?_
     refine f_tn (kh11 _ _ ?_)
     clear kh11
     refine f_ret ?_
     refine f_br ?_
     refine f_tr ?_
     refine f_tr ?_
     refine f_br ?_
     refine f_tr ?_
     exact f_fin1 [] Try.results20 rfl Sub.nil ⟨by rw [decide_eq_false]; exact ne_at hk hk' c25, rfl⟩
    ·
     refine f_skip ?_
     refine f_bn ?_
     refine f_tn (kh9 _ _ ?_)
     clear kh9
     refine f_region ?_
     refine f_stepP rfl rfl rfl (o_move rfl) ?_
     refine f_stepP rfl rfl rfl (o_add rfl rfl _ (wrap_i64 (by omega))) ?_
     refine f_stepP rfl rfl rfl (o_assign rfl) ?_
     refine f_done ?_
     refine f_tn (f_again (k + 1) (by first | omega | (dsimp only; omega) | (simp; omega)) ⟨by omega, prefix_next hlr hk hpre (by omega)⟩ ?_ ?_ ?_)
     · exact (by repeat (first | exact trivial | refine ⟨rfl, ?_⟩))
     · exact (by repeat (first | exact trivial | refine ⟨rfl, ?_⟩))
     · repeat (first | exact Sub.nil | refine Sub.pick ?_ | refine Sub.castO rfl ?_ | refine Sub.skip ?_)
   ·
    refine f_exit ?_
    refine f_te ?_
    clear kh7
    refine f_te ?_
    refine f_be ?_
    refine f_tn (kh5 _ _ ?_)
    clear kh5
    refine f_seq fun K12 kh12 => ?_
    refine f_region ?_
    refine f_stepP rfl rfl rfl (o_assign rfl) ?_
    refine f_done ?_
    refine f_tn (kh12 _ _ ?_)
    clear kh12
    refine f_ret ?_
    exact f_fin1 [] Try.results20 rfl Sub.nil ⟨by rw [decide_eq_true]; exact prefix_all hlr (by omega) hpre, rfl⟩


set_option maxRecDepth 100000 in
theorem eqArc (x y : Arc) (w : World) : (Op.equalIn 10000 39 (.agg (arcCs x).toArray) (.agg (arcCs y).toArray)).run Try.prog w = .ok (decide (x = y)) w := by
  have hf : Try.prog.fieldsOf 39 = (match Try.prog.underlying 39 with | some (.struct fs) => fs | _ => #[]) := rfl
  rw [Try.underlying39] at hf
  rw [run_equalIn_struct (P := Try.prog) w 9999 39 _ _ (by rw [hf]; exact Try.underlying39) Try.stoodInHeld39, hf]
  obtain ⟨a, b, c⟩ := x
  obtain ⟨a', b', c'⟩ := y
  have ii : ∀ (k k' : IntKind) (p q : Int) (T : TypeId) (v : World), Try.prog.underlying T = some (.int k') → (Op.equalIn 9999 T (.int k p) (.int k q)).run Try.prog v = .ok (p == q) v := fun k k' p q T v h => run_equalIn_int v 9998 T k k' p q h
  simp only [Op.eqFields, arcCs, part, Sem.run_bind, Sem.run_ite, Try.isAgg3, Try.isAgg37, Result.andThen_ok, Sem.run_pure, ne_eq, Bool.false_eq_true, if_false]
  simp [ii _ _ _ _ _ _ Try.underlying3, ii _ _ _ _ _ _ Try.underlying37]
  by_cases h1 : a = a' <;> by_cases h2 : b = b' <;> by_cases h3 : c = c' <;> simp [h1, h2, h3]

set_option maxRecDepth 100000 in
set_option maxHeartbeats 4000000 in
theorem SameGraph_spec (N M : Int) (A B : Option Addr) (l r : List Arc) (ca cb : Nat) (w : World) (hl : Ro (Fr w []) w A (l.flatMap arcCs)) (hr : Ro (Fr w []) w B (r.flatMap arcCs)) (hm : l.length ≤ 9223372036854775807) :
    Meets Try.prog 44 [.agg #[.int .i64 N, .slice A l.length ca], .agg #[.int .i64 M, .slice B r.length cb]] w [] (fun u m => u = .bool (decide (N = M ∧ l = r)) ∧ m = []) := by
 refine f_enter Try.func44 rfl Try.ntmps44 rfl Owns.nil ?_
 refine f_seq fun K1 kh1 => ?_
 refine f_region ?_
 refine f_step rfl rfl rfl (o_box rfl rfl fun b2 => ?_)
 refine f_step rfl rfl rfl (o_box rfl rfl fun b3 => ?_)
 refine f_stepP rfl rfl rfl (o_assign rfl) ?_
 refine f_done ?_
 refine f_tn (kh1 _ _ ?_)
 clear kh1
 refine f_seq fun K2 kh2 => ?_
 refine f_seq fun K3 kh3 => ?_
 refine f_region ?_
 refine f_stepP rfl rfl rfl (o_field fa24_0 rfl) ?_
 refine f_stepP rfl rfl rfl (o_load Try.isAgg3 rfl (rdA rfl)) ?_
 refine f_stepP rfl rfl rfl (o_field fa24_0 rfl) ?_
 refine f_stepP rfl rfl rfl (o_load Try.isAgg3 rfl (rdA rfl)) ?_
 refine f_stepP rfl rfl rfl (o_neq rfl rfl) ?_
 refine f_stepP rfl rfl rfl (o_move rfl) ?_
 refine f_splitL 11 rfl (fun g11 => ?_) (fun g11 => ?_)
 ·
  refine f_stepN rfl rfl rfl rfl rfl rfl ?_
  refine f_stepN rfl rfl rfl rfl rfl rfl ?_
  refine f_stepN rfl rfl rfl rfl rfl rfl ?_
  refine f_stepN rfl rfl rfl rfl rfl rfl ?_
  refine f_stepN rfl rfl rfl rfl rfl rfl ?_
  refine f_stepN rfl rfl rfl rfl rfl rfl ?_
  refine f_stepN rfl rfl rfl rfl rfl rfl ?_
  refine f_stepP rfl rfl rfl (o_pickT rfl rfl) ?_
  refine f_done ?_
  refine f_tn (kh3 _ _ ?_)
  clear kh3
  refine f_condT rfl ?_
  refine f_seq fun K4 kh4 => ?_
  refine f_region ?_
  refine f_stepP rfl rfl rfl (o_assign rfl) ?_
  refine f_done ?_
  refine f_tn (kh4 _ _ ?_)
  clear kh4
  refine f_ret ?_
  refine f_tr ?_
  exact f_fin1 [] Try.results44 rfl Sub.nil ⟨by rw [decide_eq_false]; intro e; omega, rfl⟩
 ·
  refine f_stepPY rfl rfl rfl rfl rfl (o_field fa24_1 rfl) ?_
  refine f_stepPY rfl rfl rfl rfl rfl (o_load Try.isAgg22 rfl (rdA rfl)) ?_
  refine f_stepPY rfl rfl rfl rfl rfl (o_len sl22 rfl) ?_
  refine f_stepPY rfl rfl rfl rfl rfl (o_field fa24_1 rfl) ?_
  refine f_stepPY rfl rfl rfl rfl rfl (o_load Try.isAgg22 rfl (rdA rfl)) ?_
  refine f_stepPY rfl rfl rfl rfl rfl (o_len sl22 rfl) ?_
  refine f_stepPY rfl rfl rfl rfl rfl (o_neq rfl rfl) ?_
  refine f_stepP rfl rfl rfl (o_pickF rfl rfl) ?_
  refine f_done ?_
  refine f_tn (kh3 _ _ ?_)
  clear kh3
  refine f_cond rfl (fun c19 => ?_) (fun c19 => ?_)
  ·
   refine f_seq fun K5 kh5 => ?_
   refine f_region ?_
   refine f_stepP rfl rfl rfl (o_assign rfl) ?_
   refine f_done ?_
   refine f_tn (kh5 _ _ ?_)
   clear kh5
   refine f_ret ?_
   refine f_tr ?_
   exact f_fin1 [] Try.results44 rfl Sub.nil ⟨by rw [decide_eq_false]; rintro ⟨_, e⟩; subst e; omega, rfl⟩
  ·
   have hNM : N = M := by omega
   have hlr : l.length = r.length := by omega
   refine f_skip ?_
   refine f_tn (kh2 _ _ ?_)
   clear kh2
   refine f_seq fun K6 kh6 => ?_
   refine f_seq fun K7 kh7 => ?_
   refine f_region ?_
   refine f_stepP rfl rfl rfl (o_assign rfl) ?_
   refine f_done ?_
   refine f_tn (kh7 _ _ ?_)
   clear kh7
   refine f_block ?_
   refine f_loopK (α := Nat) [2, 3] (fun k => [(5, .int .i64 (k : Int))]) (fun k => k ≤ l.length ∧ ∀ j (a : j < l.length) (b : j < r.length), j < k → l[j] = r[j]) (fun k => l.length - k) (0) ?_ ?_ ?_
   · exact (by repeat (first | exact trivial | refine ⟨rfl, ?_⟩))
   · exact ⟨by omega, fun j _ _ hj => by omega⟩
   ·
    rintro k ⟨hkl, hpre⟩
    refine f_seq fun K8 kh8 => ?_
    refine f_seq fun K9 kh9 => ?_
    refine f_region ?_
    refine f_stepP rfl rfl rfl (o_move rfl) ?_
    refine f_stepP rfl rfl rfl (o_field fa24_1 rfl) ?_
    refine f_stepP rfl rfl rfl (o_load Try.isAgg22 rfl (rdA rfl)) ?_
    refine f_stepP rfl rfl rfl (o_len sl22 rfl) ?_
    refine f_stepP rfl rfl rfl (o_lss rfl rfl) ?_
    refine f_done ?_
    refine f_tn (kh9 _ _ ?_)
    clear kh9
    refine f_cond rfl (fun c24 => ?_) (fun c24 => ?_)
    ·
     refine f_skip ?_
     refine f_tn (kh8 _ _ ?_)
     clear kh8
     refine f_seq fun K10 kh10 => ?_
     refine f_block ?_
     refine f_seq fun K11 kh11 => ?_
     refine f_regionS rfl (by decide +kernel) ?_
     have hk : k < l.length := by omega
     have hk' : k < r.length := by omega
     obtain ⟨b1, o1, rfl, hS1, hc1⟩ := hl (flat_ne arcCs arcCs_len (by omega) hk)
     obtain ⟨b2, o2, rfl, hS2, hc2⟩ := hr (flat_ne arcCs arcCs_len (by omega) hk')
     refine f_stillP rfl rfl rfl (o_field fa24_1 rfl) ?_
     refine f_stillP rfl rfl rfl (o_load Try.isAgg22 rfl (rdA rfl)) ?_
     refine f_stillP rfl rfl rfl (o_move rfl) ?_
     refine f_stillP rfl rfl rfl (o_idx sl22 rfl rfl (o1 + k * 3) ⟨by omega, by omega, by first | omega | (simp; done) | (simp; omega)⟩) ?_
     refine f_stillP rfl rfl rfl (o_loadA (vs := arcCs l[k]) Try.isAgg39 Try.sizeOf39 rfl rfl (roElem arcCs_len hS1 hc1 hk)) ?_
     refine f_stillP rfl rfl rfl (o_field fa24_1 rfl) ?_
     refine f_stillP rfl rfl rfl (o_load Try.isAgg22 rfl (rdA rfl)) ?_
     refine f_stillP rfl rfl rfl (o_move rfl) ?_
     refine f_stillP rfl rfl rfl (o_idx sl22 rfl rfl (o2 + k * 3) ⟨by omega, by omega, by first | omega | (simp; done) | (simp; omega)⟩) ?_
     refine f_stillP rfl rfl rfl (o_loadA (vs := arcCs r[k]) Try.isAgg39 Try.sizeOf39 rfl rfl (roElem arcCs_len hS2 hc2 hk')) ?_
     refine f_stillP rfl rfl rfl (o_neqA Try.eqGuardType39 (eqArc l[k] r[k]) rfl rfl) ?_
     refine f_stillD ?_
     refine f_tn (kh11 _ _ ?_)
     clear kh11
     refine f_cond rfl (fun c37 => ?_) (fun c37 => ?_)
     ·
      refine f_seq fun K12 kh12 => ?_
      refine f_region ?_
      refine f_stepP rfl rfl rfl (o_assign rfl) ?_
      refine f_done ?_
      refine f_tn (kh12 _ _ ?_)
      clear kh12
      refine f_ret ?_
      refine f_br ?_
      refine f_tr ?_
      refine f_tr ?_
      refine f_br ?_
      refine f_tr ?_
      exact f_fin1 [] Try.results44 rfl Sub.nil ⟨by rw [decide_eq_false]; rintro ⟨_, e⟩; exact ne_at hk hk' c37 e, rfl⟩
     ·
      refine f_skip ?_
      refine f_bn ?_
      refine f_tn (kh10 _ _ ?_)
      clear kh10
      refine f_region ?_
      refine f_stepP rfl rfl rfl (o_move rfl) ?_
      refine f_stepP rfl rfl rfl (o_add rfl rfl _ (wrap_i64 (by omega))) ?_
      refine f_stepP rfl rfl rfl (o_assign rfl) ?_
      refine f_done ?_
      refine f_tn (f_again (k + 1) (by first | omega | (dsimp only; omega) | (simp; omega)) ⟨by omega, prefix_next hlr hk hpre (by simpa using c37)⟩ ?_ ?_ ?_)
      · exact (by repeat (first | exact trivial | refine ⟨rfl, ?_⟩))
      · exact (by repeat (first | exact trivial | refine ⟨rfl, ?_⟩))
      · repeat (first | exact Sub.nil | refine Sub.pick ?_ | refine Sub.castO rfl ?_ | refine Sub.skip ?_)
    ·
     refine f_exit ?_
     refine f_te ?_
     clear kh8
     refine f_te ?_
     refine f_be ?_
     refine f_tn (kh6 _ _ ?_)
     clear kh6
     refine f_seq fun K13 kh13 => ?_
     refine f_region ?_
     refine f_stepP rfl rfl rfl (o_assign rfl) ?_
     refine f_done ?_
     refine f_tn (kh13 _ _ ?_)
     clear kh13
     refine f_ret ?_
     exact f_fin1 [] Try.results44 rfl Sub.nil ⟨by rw [decide_eq_true]; exact ⟨hNM, prefix_all hlr (by omega) hpre⟩, rfl⟩

end Go.Proofs.Ytkmkakpadgljeaa
