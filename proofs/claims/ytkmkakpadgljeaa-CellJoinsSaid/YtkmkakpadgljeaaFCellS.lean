/- package cell: Index, Stale. -/
import Derived.Test.YtkmkakpadgljeaaFCellB
import Derived.Test.YtkmkakpadgljeaaFRowsI
namespace Go.Proofs.Ytkmkakpadgljeaa
open Go Go.RowKit Fly
set_option linter.unusedVariables false
set_option linter.unusedSimpArgs false


def ixE (N : Int) (l : List Arc) (bs : List Int) (L : List (List Int)) (q c v : Int) : Int := if clE N l bs L q c ≠ 0 then clE N l bs L q c else if v ∈ bdL (L.getD (q.toNat - 1) []) c l then 0 else 5
theorem bdL_len (L : List Int) (c : Int) (l : List Arc) : (bdL L c l).length ≤ 2 * l.length := by
  unfold bdL
  refine Nat.le_trans (cpt_len_le _) ?_
  rw [sortI_len]; exact bdR_len L c l
/-- Is it no number of an arc? -/
def offA (m : Nat) (i : Int) : Bool := decide (i < 0) || decide ((m : Int) ≤ i)
def snE (N : Int) (l : List Arc) (bs : List Int) (L : List (List Int)) (arcs : List Int) : Int :=
  if (nsE N l bs L).2 ≠ 0 then (nsE N l bs L).2 else if 16384 < arcs.length then 2 else if arcs.any (offA l.length) then 5 else 0
/-- The cell that an arc lies in. -/
def stOf (row : List Int) (l : List Arc) (i : Int) : List Int := (l[i.toNat]?).elim [] fun a => if row.getD a.src.toNat 0 = row.getD a.dst.toNat 0 then [row.getD a.src.toNat 0] else []
def stR (row : List Int) (l : List Arc) (arcs : List Int) : List Int := arcs.flatMap (stOf row l)
def stRow (row : List Int) (l : List Arc) (arcs : List Int) : List Int := cpt (sortI (stR row l arcs))
def stL (L : List (List Int)) (l : List Arc) (arcs : List Int) : List (List Int) := L.map fun row => stRow row l arcs
/-- Rows of which the first k are done, and one is under way. -/
def stM (L : List (List Int)) (l : List Arc) (arcs : List Int) (k j : Nat) : List (List Int) := L.mapIdx fun i row => if i < k then stRow row l arcs else if i = k then stR row l (arcs.take j) else []
theorem stM_len (L : List (List Int)) (l : List Arc) (arcs : List Int) (k j : Nat) : (stM L l arcs k j).length = L.length := by simp [stM]
theorem stM_zero (L : List (List Int)) (l : List Arc) (arcs : List Int) : stM L l arcs 0 0 = List.replicate L.length [] := by
  refine List.ext_getElem (by simp [stM]) fun i h1 h2 => ?_
  simp [stM, stR]
theorem stM_at {L : List (List Int)} {l : List Arc} {arcs : List Int} {k j : Nat} (h : k < (stM L l arcs k j).length) : (stM L l arcs k j)[k] = stR (L.getD k []) l (arcs.take j) := by
  have h' : k < L.length := by simpa [stM] using h
  simp [stM, List.getD_eq_getElem?_getD, h']
theorem stM_next {L : List (List Int)} {l : List Arc} {arcs : List Int} {k j : Nat} {X : List Int} (hX : X = stR (L.getD k []) l (arcs.take (j + 1))) : (stM L l arcs k j).set k X = stM L l arcs k (j + 1) := by
  refine List.ext_getElem (by simp [stM]) fun i h1 h2 => ?_
  have h' : i < L.length := by simpa [stM] using h2
  rw [List.getElem_set]
  by_cases e : k = i
  · subst e
    rw [if_pos rfl, hX]; simp [stM, List.getD_eq_getElem?_getD, h']
  · rw [if_neg e]
    simp only [stM, List.getElem_mapIdx]
    by_cases e2 : i < k
    · rw [if_pos e2, if_pos e2]
    · rw [if_neg e2, if_neg e2, if_neg (by omega), if_neg (by omega)]
theorem stM_same {L : List (List Int)} {l : List Arc} {arcs : List Int} {k j : Nat} (h : stR (L.getD k []) l (arcs.take (j + 1)) = stR (L.getD k []) l (arcs.take j)) : stM L l arcs k j = stM L l arcs k (j + 1) := by
  refine List.ext_getElem (by simp [stM]) fun i h1 h2 => ?_
  have h' : i < L.length := by simpa [stM] using h2
  simp only [stM, List.getElem_mapIdx]
  by_cases e2 : i < k
  · rw [if_pos e2, if_pos e2]
  · rw [if_neg e2, if_neg e2]
    by_cases e : i = k
    · subst e
      rw [if_pos rfl, if_pos rfl]
      have e3 : L.getD i [] = L[i] := by simp [List.getD_eq_getElem?_getD, h']
      rw [e3] at h; exact h.symm
    · rw [if_neg e, if_neg e]
theorem stM_row {L : List (List Int)} {l : List Arc} {arcs : List Int} {k : Nat} {X : List Int} (hX : X = stRow (L.getD k []) l arcs) : (stM L l arcs k arcs.length).set k X = stM L l arcs (k + 1) 0 := by
  refine List.ext_getElem (by simp [stM]) fun i h1 h2 => ?_
  have h' : i < L.length := by simpa [stM] using h2
  rw [List.getElem_set]
  by_cases e : k = i
  · subst e
    rw [if_pos rfl, hX]; simp [stM, List.getD_eq_getElem?_getD, h']
  · rw [if_neg e]
    simp only [stM, List.getElem_mapIdx]
    by_cases e2 : i < k
    · rw [if_pos e2, if_pos (by omega)]
    · rw [if_neg e2, if_neg (by omega), if_neg (by omega)]
      by_cases e3 : i = k + 1
      · rw [if_pos e3]; simp [stR]
      · rw [if_neg e3]
theorem stM_all {L : List (List Int)} {l : List Arc} {arcs : List Int} {k j : Nat} (h : L.length ≤ k) : stM L l arcs k j = stL L l arcs := by
  refine List.ext_getElem (by simp [stM, stL]) fun i h1 h2 => ?_
  have h' : i < L.length := by simpa [stL] using h2
  simp only [stM, stL, List.getElem_mapIdx, List.getElem_map]
  rw [if_pos (by omega)]
theorem stR_next {row : List Int} {l : List Arc} {arcs : List Int} {j : Nat} (hj : j < arcs.length) : stR row l (arcs.take (j + 1)) = stR row l (arcs.take j) ++ stOf row l arcs[j] := by
  unfold stR; rw [List.take_succ_eq_append_getElem hj, List.flatMap_append]; simp
theorem stOf_len (row : List Int) (l : List Arc) (i : Int) : (stOf row l i).length ≤ 1 := by
  unfold stOf
  cases l[i.toNat]? with
  | none => simp
  | some a => simp only [Option.elim]; split <;> simp
theorem stR_len (row : List Int) (l : List Arc) : ∀ arcs : List Int, (stR row l arcs).length ≤ arcs.length
  | [] => by simp [stR]
  | i :: arcs => by
    have h1 := stR_len row l arcs
    have h2 := stOf_len row l i
    unfold stR at *
    rw [List.flatMap_cons, List.length_append, List.length_cons]; omega
theorem stOf_at {row : List Int} {l : List Arc} {i : Int} {u : Nat} (hi : i = (u : Int)) (hu : u < l.length) : stOf row l i = if row.getD l[u].src.toNat 0 = row.getD l[u].dst.toNat 0 then [row.getD l[u].src.toNat 0] else [] := by
  unfold stOf; rw [hi, Int.toNat_natCast, List.getElem?_eq_getElem hu]; rfl

theorem ints_len1C {E : TypeId} {v : Value} {l : List Int} {x : Int} {m : Seg} : Own E 1 v (l.length + 1) (ints l ++ [.int .i64 x]) m = Own E 1 v (l ++ [x]).length (ints (l ++ [x])) m := by rw [ints_append, List.length_append]; rfl
theorem rep_flatC (n : Nat) (v : Value) : List.replicate n v = (List.replicate n [v]).flatten := by
  induction n with
  | zero => rfl
  | succ n ih => rw [List.replicate_succ, List.replicate_succ, List.flatten_cons, ← ih]; rfl

set_option maxRecDepth 100000 in
set_option maxHeartbeats 4000000 in
theorem CIndex_spec (N : Int) (A : Option Addr) (l : List Arc) (cap : Nat) (Ab : Option Addr) (bs : List Int) (cb : Nat) (Ac : Option Addr) (R : List Row) (cc : Nat) (q c v : Int) (w : World) (hr : Ro (Fr w []) w A (l.flatMap arcCs)) (hl : l.length ≤ 9223372036854775807) (hN : I64 N) (hok : ∀ x ∈ l, ArcOk x) (hn : NestRo (Fr w []) w Ab bs Ac R) :
    Meets Try.prog 12 [.agg #[.int .i64 N, .slice A l.length cap], .agg #[.slice Ab bs.length cb, .slice Ac R.length cc], .int .i64 q, .int .i64 c, .int .i64 v] w [] (fun u m => ∃ i : Nat, u = .tuple #[.int .i64 (i : Int), .int .i64 (ixE N l bs (rowsL R) q c v)] ∧ m = [] ∧ (ixE N l bs (rowsL R) q c v ≠ 0 → i = 0) ∧ (ixE N l bs (rowsL R) q c v = 0 → (bdL ((rowsL R).getD (q.toNat - 1) []) c l)[i]? = some v)) := by
 refine f_enter Try.func12 rfl Try.ntmps12 rfl Owns.nil ?_
 refine f_seq fun K1 kh1 => ?_
 refine f_region ?_
 refine f_step rfl rfl rfl (o_box rfl rfl fun b5 => ?_)
 refine f_step rfl rfl rfl (o_box rfl rfl fun b6 => ?_)
 refine f_stepP rfl rfl rfl (o_assign rfl) ?_
 refine f_stepP rfl rfl rfl (o_assign rfl) ?_
 refine f_done ?_
 refine f_tn (kh1 _ _ ?_)
 clear kh1
 refine f_seq fun K2 kh2 => ?_
 refine f_region ?_
 refine f_stepP rfl rfl rfl (o_loadA (vs := [_, _]) Try.isAgg24 Try.sizeOf24 rfl rfl ⟨(rdA rfl), (rdA rfl), trivial⟩) ?_
 refine f_stepP rfl rfl rfl (o_loadA (vs := [_, _]) Try.isAgg28 Try.sizeOf28 rfl rfl ⟨(rdA rfl), (rdA rfl), trivial⟩) ?_
 refine f_stepP rfl rfl rfl (o_move rfl) ?_
 refine f_stepP rfl rfl rfl (o_move rfl) ?_
 refine f_step rfl rfl rfl (o_call Try.call11 rfl (fun w_ hp_ => CBoundary_spec N A l cap Ab bs cb Ac R cc q c w_ (hr.up0 hp_) hl hN hok (hn.up0 hp_)) ?_)
 rintro _ _ ⟨M_, AM, cM, mM, rfl, rfl, hoM, hM1, hM0⟩
 dsimp only [List.cons_append, List.nil_append]
 refine f_stepP rfl rfl rfl (o_move rfl) ?_
 refine f_stepP rfl rfl rfl (o_extract rfl rfl) ?_
 refine f_stepP rfl rfl rfl (o_extract rfl rfl) ?_
 refine f_stepP rfl rfl rfl (o_assign rfl) ?_
 refine f_stepP rfl rfl rfl (o_assign rfl) ?_
 refine f_done ?_
 refine f_tn (kh2 _ _ ?_)
 clear kh2
 refine f_seq fun K3 kh3 => ?_
 refine f_seq fun K4 kh4 => ?_
 refine f_region ?_
 refine f_stepP rfl rfl rfl (o_move rfl) ?_
 refine f_stepP rfl rfl rfl (o_neq rfl rfl) ?_
 refine f_done ?_
 refine f_tn (kh4 _ _ ?_)
 clear kh4
 refine f_cond rfl (fun c25 => ?_) (fun c25 => ?_)
 ·
  refine f_seq fun K5 kh5 => ?_
  refine f_region ?_
  refine f_stepP rfl rfl rfl (o_move rfl) ?_
  refine f_stepP rfl rfl rfl (o_assign rfl) ?_
  refine f_stepP rfl rfl rfl (o_assign rfl) ?_
  refine f_done ?_
  refine f_tn (kh5 _ _ ?_)
  clear kh5
  refine f_ret ?_
  refine f_tr ?_
  have e : ixE N l bs (rowsL R) q c v = clE N l bs (rowsL R) q c := by unfold ixE; rw [if_pos (by simpa using c25)]
  exact f_fin2 [] Try.results12 rfl rfl Sub.nil ⟨0, by rw [e]; rfl, rfl, fun _ => rfl, fun h => absurd (e.symm.trans h) (by simpa using c25)⟩
 ·
  have hcz : clE N l bs (rowsL R) q c = 0 := by simpa using c25
  obtain ⟨n, k, j, hNn, hNo, hqk, hkb, hcj, hjm⟩ := clE_zero hcz
  obtain ⟨hn1, hn2, hlen, hgd⟩ := gcheck_zero hNo.g
  obtain rfl := hM0 hcz
  have hbl := bdL_len ((rowsL R).getD (q.toNat - 1) []) c l
  refine f_skip ?_
  refine f_tn (kh3 _ _ ?_)
  clear kh3
  refine f_seq fun K6 kh6 => ?_
  refine f_region ?_
  refine f_stepP rfl rfl rfl (o_move rfl) ?_
  refine f_stepP rfl rfl rfl (o_move rfl) ?_
  refine f_step rfl rfl rfl (o_call Try.call36 rfl (fun w_ hp_ => BSearch_spec AM (bdL ((rowsL R).getD (q.toNat - 1) []) c l) (bdL ((rowsL R).getD (q.toNat - 1) []) c l).length v w_ (seen_ro (hoM.seen hp_)) (by omega) (bdL_rising _ _ _)) ?_)
  rintro _ _ ⟨i, rfl, rfl, hi⟩
  dsimp only [List.cons_append, List.nil_append]
  refine f_stepP rfl rfl rfl (o_move rfl) ?_
  refine f_stepP rfl rfl rfl (o_extract rfl rfl) ?_
  refine f_stepP rfl rfl rfl (o_extract rfl rfl) ?_
  refine f_stepP rfl rfl rfl (o_assign rfl) ?_
  refine f_stepP rfl rfl rfl (o_assign rfl) ?_
  refine f_done ?_
  refine f_tn (kh6 _ _ ?_)
  clear kh6
  refine f_seq fun K7 kh7 => ?_
  refine f_seq fun K8 kh8 => ?_
  refine f_region ?_
  refine f_stepP rfl rfl rfl (o_move rfl) ?_
  refine f_stepP rfl rfl rfl (o_not rfl) ?_
  refine f_done ?_
  refine f_tn (kh8 _ _ ?_)
  clear kh8
  refine f_condB rfl (fun c34 => ?_) (fun c34 => ?_)
  ·
   refine f_seq fun K9 kh9 => ?_
   refine f_region ?_
   refine f_stepP rfl rfl rfl (o_assign rfl) ?_
   refine f_stepP rfl rfl rfl (o_assign rfl) ?_
   refine f_done ?_
   refine f_tn (kh9 _ _ ?_)
   clear kh9
   refine f_ret ?_
   refine f_tr ?_
   have e : ixE N l bs (rowsL R) q c v = 5 := by unfold ixE; rw [if_neg (by rw [hcz]; simp), if_neg (by simpa using c34)]
   exact f_fin2 [] Try.results12 rfl rfl Sub.nil ⟨0, by rw [e]; rfl, rfl, fun _ => rfl, fun h => absurd (e.symm.trans h) (by decide)⟩
  ·
   refine f_skip ?_
   refine f_tn (kh7 _ _ ?_)
   clear kh7
   refine f_seq fun K10 kh10 => ?_
   refine f_region ?_
   refine f_stepP rfl rfl rfl (o_move rfl) ?_
   refine f_stepP rfl rfl rfl (o_assign rfl) ?_
   refine f_stepP rfl rfl rfl (o_assign rfl) ?_
   refine f_done ?_
   refine f_tn (kh10 _ _ ?_)
   clear kh10
   refine f_ret ?_
   have hv : v ∈ bdL ((rowsL R).getD (q.toNat - 1) []) c l := by simpa using c34
   have e : ixE N l bs (rowsL R) q c v = 0 := by unfold ixE; rw [if_neg (by rw [hcz]; simp), if_pos hv]
   exact f_fin2 [] Try.results12 rfl rfl Sub.nil ⟨i, by rw [e], rfl, fun h => absurd e h, fun _ => hi hv⟩

set_option maxRecDepth 100000 in
set_option maxHeartbeats 4000000 in
theorem Stale1_spec (N : Int) (A : Option Addr) (len cap b : Nat) (i : Int) (w : World) (h2 : Ro (Fr w []) w (some ⟨b, 0, none⟩) [.int .i64 N, .slice A len cap]) :
    Meets Try.prog 39 ([.int .i64 i] ++ [.pointer (some ⟨b, 0, none⟩)]) w [] (fun u m => u = .bool (offA len i) ∧ m = []) := by
 obtain ⟨b2', o2', e2', hS2, hc2⟩ := h2 (by simp)
 obtain ⟨rfl, rfl⟩ : b = b2' ∧ 0 = o2' := by cases e2'; exact ⟨rfl, rfl⟩
 refine f_enter Try.func39 rfl Try.ntmps39 rfl Owns.nil ?_
 refine f_seq fun K1 kh1 => ?_
 refine f_region ?_
 refine f_stepP rfl rfl rfl (o_assign rfl) ?_
 refine f_done ?_
 refine f_tn (kh1 _ _ ?_)
 clear kh1
 refine f_seq fun K2 kh2 => ?_
 refine f_region ?_
 refine f_stepP rfl rfl rfl (o_move rfl) ?_
 refine f_stepP rfl rfl rfl (o_lss rfl rfl) ?_
 refine f_stepP rfl rfl rfl (o_move rfl) ?_
 refine f_splitL 6 rfl (fun g6 => ?_) (fun g6 => ?_)
 ·
  refine f_stepN rfl rfl rfl rfl rfl rfl ?_
  refine f_stepN rfl rfl rfl rfl rfl rfl ?_
  refine f_stepN rfl rfl rfl rfl rfl rfl ?_
  refine f_stepN rfl rfl rfl rfl rfl rfl ?_
  refine f_stepN rfl rfl rfl rfl rfl rfl ?_
  refine f_stepP rfl rfl rfl (o_pickT rfl rfl) ?_
  refine f_stepP rfl rfl rfl (o_assign rfl) ?_
  refine f_done ?_
  refine f_tn (kh2 _ _ ?_)
  clear kh2
  refine f_ret ?_
  exact f_fin1 [] Try.results39 rfl Sub.nil ⟨by unfold offA; rw [decide_eq_true g6]; rfl, rfl⟩
 ·
  refine f_stepPY rfl rfl rfl rfl rfl (o_move rfl) ?_
  refine f_stepPY rfl rfl rfl rfl rfl (o_field fa24_1 rfl) ?_
  refine f_stepPY rfl rfl rfl rfl rfl (o_load Try.isAgg22 rfl (rdS hS2 (hc2 1 _ rfl))) ?_
  refine f_stepPY rfl rfl rfl rfl rfl (o_len sl22 rfl) ?_
  refine f_stepPY rfl rfl rfl rfl rfl (o_geq rfl rfl) ?_
  refine f_stepP rfl rfl rfl (o_pickF rfl rfl) ?_
  refine f_stepP rfl rfl rfl (o_assign rfl) ?_
  refine f_done ?_
  refine f_tn (kh2 _ _ ?_)
  clear kh2
  refine f_ret ?_
  exact f_fin1 [] Try.results39 rfl Sub.nil ⟨by unfold offA; rw [decide_eq_false g6]; rfl, rfl⟩

set_option maxRecDepth 100000 in
set_option maxHeartbeats 4000000 in
theorem CStale_spec (N : Int) (A : Option Addr) (l : List Arc) (cap : Nat) (Ab : Option Addr) (bs : List Int) (cb : Nat) (Ac : Option Addr) (R : List Row) (cc : Nat) (D : Option Addr) (arcs : List Int) (cd : Nat) (w : World) (hr : Ro (Fr w []) w A (l.flatMap arcCs)) (hl : l.length ≤ 9223372036854775807) (hN : I64 N) (hok : ∀ x ∈ l, ArcOk x) (hn : NestRo (Fr w []) w Ab bs Ac R) (hD : Ro (Fr w []) w D (ints arcs)) (hm : arcs.length ≤ 9223372036854775807) :
    Meets Try.prog 17 [.agg #[.int .i64 N, .slice A l.length cap], .agg #[.slice Ab bs.length cb, .slice Ac R.length cc], .slice D arcs.length cd] w [] (fun u own' => ∃ (R' : List Row) (A' : Option Addr) (c' : Nat) (mc : Seg) (ms : List Seg), u = .tuple #[.slice A' R'.length c', .int .i64 (snE N l bs (rowsL R) arcs)] ∧ own' = [mc, ms.flatten] ∧ Own 25 1 (.slice A' R'.length c') R'.length (R'.map rowV) mc ∧ RowsC 3 R' ms ∧ (snE N l bs (rowsL R) arcs ≠ 0 → R' = []) ∧ (snE N l bs (rowsL R) arcs = 0 → rowsL R' = stL (rowsL R) l arcs)) := by
 refine f_enter Try.func17 rfl Try.ntmps17 rfl Owns.nil ?_
 refine f_seq fun K1 kh1 => ?_
 refine f_region ?_
 refine f_step rfl rfl rfl (o_box rfl rfl fun b3 => ?_)
 refine f_step rfl rfl rfl (o_box rfl rfl fun b4 => ?_)
 refine f_stepP rfl rfl rfl (o_assign rfl) ?_
 refine f_stepP rfl rfl rfl (o_assign rfl) ?_
 refine f_done ?_
 refine f_tn (kh1 _ _ ?_)
 clear kh1
 refine f_seq fun K2 kh2 => ?_
 refine f_seq fun K3 kh3 => ?_
 refine f_region ?_
 refine f_stepP rfl rfl rfl (o_loadA (vs := [_, _]) Try.isAgg24 Try.sizeOf24 rfl rfl ⟨(rdA rfl), (rdA rfl), trivial⟩) ?_
 refine f_stepP rfl rfl rfl (o_loadA (vs := [_, _]) Try.isAgg28 Try.sizeOf28 rfl rfl ⟨(rdA rfl), (rdA rfl), trivial⟩) ?_
 refine f_step rfl rfl rfl (o_call Try.call37 rfl (fun w_ hp_ => NCheck_spec N A l cap Ab bs cb Ac R cc w_ (hr.up0 hp_) hl hN hok (hn.up0 hp_)) ?_)
 rintro _ _ ⟨rfl, rfl⟩
 dsimp only [List.cons_append, List.nil_append]
 refine f_stepP rfl rfl rfl (o_move rfl) ?_
 refine f_stepP rfl rfl rfl (o_extract rfl rfl) ?_
 refine f_stepP rfl rfl rfl (o_extract rfl rfl) ?_
 refine f_stepP rfl rfl rfl (o_assign rfl) ?_
 refine f_stepP rfl rfl rfl (o_assign rfl) ?_
 refine f_done ?_
 refine f_tn (kh3 _ _ ?_)
 clear kh3
 refine f_seq fun K4 kh4 => ?_
 refine f_region ?_
 refine f_stepP rfl rfl rfl (o_move rfl) ?_
 refine f_stepP rfl rfl rfl (o_neq rfl rfl) ?_
 refine f_done ?_
 refine f_tn (kh4 _ _ ?_)
 clear kh4
 refine f_cond rfl (fun c23 => ?_) (fun c23 => ?_)
 ·
  refine f_seq fun K5 kh5 => ?_
  refine f_region ?_
  refine f_stepP rfl rfl rfl (o_move rfl) ?_
  refine f_stepP rfl rfl rfl (o_assign rfl) ?_
  refine f_stepP rfl rfl rfl (o_assign rfl) ?_
  refine f_done ?_
  refine f_tn (kh5 _ _ ?_)
  clear kh5
  refine f_ret ?_
  refine f_tr ?_
  have e : snE N l bs (rowsL R) arcs = (nsE N l bs (rowsL R)).2 := by unfold snE; rw [if_pos (by simpa using c23)]
  exact f_fin2 [[], []] Try.results17 rfl rfl (Sub.transF Sub.empty Sub.addNil) ⟨[], none, 0, [], [], by rw [e]; rfl, rfl, Own.nil _ _, RowsC.nil _, fun _ => rfl, fun h => absurd (e.symm.trans h) (by simpa using c23)⟩
 ·
  have hz : (nsE N l bs (rowsL R)).2 = 0 := by simpa using c23
  obtain ⟨n, rfl, hNo⟩ := nsE_zero hz
  obtain ⟨hn1, hn2, hlen, hgd⟩ := gcheck_zero hNo.g
  have hRl := hNo.len
  rw [rowsL_len] at hRl
  have hmany := hNo.many
  refine f_skip ?_
  refine f_tn (kh2 _ _ ?_)
  clear kh2
  refine f_seq fun K6 kh6 => ?_
  refine f_seq fun K7 kh7 => ?_
  refine f_region ?_
  refine f_stepP rfl rfl rfl (o_move rfl) ?_
  refine f_stepP rfl rfl rfl (o_len sl25 rfl) ?_
  refine f_stepP rfl rfl rfl (o_gtr rfl rfl) ?_
  refine f_done ?_
  refine f_tn (kh7 _ _ ?_)
  clear kh7
  refine f_cond rfl (fun c27 => ?_) (fun c27 => ?_)
  ·
   refine f_seq fun K8 kh8 => ?_
   refine f_region ?_
   refine f_stepP rfl rfl rfl (o_assign rfl) ?_
   refine f_stepP rfl rfl rfl (o_assign rfl) ?_
   refine f_done ?_
   refine f_tn (kh8 _ _ ?_)
   clear kh8
   refine f_ret ?_
   refine f_tr ?_
   have e : snE (n : Int) l bs (rowsL R) arcs = 2 := by unfold snE; rw [if_neg (by rw [hz]; simp), if_pos (by omega)]
   exact f_fin2 [[], []] Try.results17 rfl rfl (Sub.transF Sub.empty Sub.addNil) ⟨[], none, 0, [], [], by rw [e]; rfl, rfl, Own.nil _ _, RowsC.nil _, fun _ => rfl, fun h => absurd (e.symm.trans h) (by decide)⟩
  ·
   refine f_skip ?_
   refine f_tn (kh6 _ _ ?_)
   clear kh6
   refine f_seq fun K9 kh9 => ?_
   refine f_seq fun K10 kh10 => ?_
   refine f_region ?_
   refine f_stepP rfl rfl rfl (o_move rfl) ?_
   refine f_stepP rfl rfl rfl (o_func rfl rfl) ?_
   refine f_step rfl rfl rfl (o_call Try.call38 rfl (fun w_ hp_ => ContG_spec D arcs cd (offA l.length) 39 [.pointer (some ⟨b3, 0, none⟩)] w_ (hD.up0 hp_) hm Try.call39 (fun w' hs i hi => Stale1_spec (n : Int) A l.length cap b3 i w' (heldRo hp_ hs))) ?_)
   rintro _ _ ⟨rfl, rfl⟩
   dsimp only [List.cons_append, List.nil_append]
   refine f_done ?_
   refine f_tn (kh10 _ _ ?_)
   clear kh10
   refine f_condB rfl (fun c30 => ?_) (fun c30 => ?_)
   ·
    refine f_seq fun K11 kh11 => ?_
    refine f_region ?_
    refine f_stepP rfl rfl rfl (o_assign rfl) ?_
    refine f_stepP rfl rfl rfl (o_assign rfl) ?_
    refine f_done ?_
    refine f_tn (kh11 _ _ ?_)
    clear kh11
    refine f_ret ?_
    refine f_tr ?_
    have e : snE (n : Int) l bs (rowsL R) arcs = 5 := by unfold snE; rw [if_neg (by rw [hz]; simp), if_neg (by omega), if_pos c30]
    exact f_fin2 [[], []] Try.results17 rfl rfl (Sub.transF Sub.empty Sub.addNil) ⟨[], none, 0, [], [], by rw [e]; rfl, rfl, Own.nil _ _, RowsC.nil _, fun _ => rfl, fun h => absurd (e.symm.trans h) (by decide)⟩
   ·
    have hno : arcs.any (offA l.length) = false := by simpa using c30
    have hsn : snE (n : Int) l bs (rowsL R) arcs = 0 := by unfold snE; rw [if_neg (by rw [hz]; simp), if_neg (by omega), if_neg (by rw [hno]; simp)]
    refine f_skip ?_
    refine f_tn (kh9 _ _ ?_)
    clear kh9
    refine f_seq fun K12 kh12 => ?_
    refine f_region ?_
    refine f_stepP rfl rfl rfl (o_field fa28_1 rfl) ?_
    refine f_stepP rfl rfl rfl (o_load Try.isAgg26 rfl (rdA rfl)) ?_
    refine f_stepP rfl rfl rfl (o_len sl26 rfl) ?_
    refine f_step rfl rfl rfl (o_make el26 rfl rfl R.length rfl (by omega) (by omega) (List.replicate R.length (.slice none 0 0)) (rep_flatC R.length _).symm fun b34 => ?_)
    refine f_stepP rfl rfl rfl (o_assign rfl) ?_
    refine f_done ?_
    refine f_tn (kh12 _ _ ?_)
    clear kh12
    refine f_seq fun K13 kh13 => ?_
    refine f_seq fun K14 kh14 => ?_
    refine f_region ?_
    refine f_stepP rfl rfl rfl (o_field fa28_1 rfl) ?_
    refine f_stepP rfl rfl rfl (o_load Try.isAgg26 rfl (v := .slice Ac R.length cc) (rdA rfl)) ?_
    refine f_stepP rfl rfl rfl (o_len sl26 rfl) ?_
    refine f_stepP rfl rfl rfl (o_move rfl) ?_
    refine f_done ?_
    refine f_tn (kh14 _ _ ?_)
    clear kh14
    refine f_block ?_
    refine f_loop (α := Nat × List Value × List Seg) [2, 3, 10, 36, 37] (fun ⟨k, vs, ms⟩ => [(38, .int .i64 (k : Int))]) (fun ⟨k, vs, ms⟩ => [[(b34, blk (ctoR vs k) 25)], ms.flatten, [(b3, blk [.int .i64 (n : Int), .slice A l.length cap] 24)], [(b4, blk [.slice Ab bs.length cb, .slice Ac R.length cc] 28)]]) (fun ⟨k, vs, ms⟩ => k ≤ R.length ∧ RowsI 3 (stM (rowsL R) l arcs k 0) vs ms) (fun ⟨k, vs, ms⟩ => R.length - k) (0, List.replicate R.length (.slice none 0 0), List.replicate R.length []) ?_ ?_ ?_ ?_
    · exact (by repeat (first | exact trivial | refine ⟨rfl, ?_⟩))
    · dsimp only
      rw [ctoR_zero, show (List.replicate R.length ([] : Seg)).flatten = [] from by simp]
      repeat (first | exact Sub.nil | refine Sub.pick ?_ | refine Sub.castO rfl ?_ | refine Sub.skip ?_)
    · exact ⟨by omega, by rw [stM_zero, rowsL_len]; exact RowsI.start _ _⟩
    ·
     rintro ⟨k, vs, ms⟩ ⟨hkl, hR⟩
     refine f_seq fun K15 kh15 => ?_
     refine f_region ?_
     refine f_stepP rfl rfl rfl (o_lss rfl rfl) ?_
     refine f_done ?_
     refine f_tn (kh15 _ _ ?_)
     clear kh15
     refine f_seq fun K16 kh16 => ?_
     refine f_cond rfl (fun c39 => ?_) (fun c39 => ?_)
     ·
      have hkR : k < R.length := by omega
      obtain ⟨b0, o0, rfl, hS0, hc0⟩ := hn.c (map_ne hkR)
      have hrowk := hn.rows _ (List.getElem_mem hkR)
      have hrk := rowsL_at hkR
      have hkl := hNo.rowlen (k := k) (by omega)
      rw [hrk] at hkl
      obtain ⟨br, or, hAr, hSr, hcrr⟩ := hrowk.1 (fun e => by have := ints_length (R[k]'hkR).2.1; rw [e] at this; simp at this; omega)
      refine f_skip ?_
      refine f_tn (kh16 _ _ ?_)
      clear kh16
      refine f_seq fun K17 kh17 => ?_
      refine f_block ?_
      refine f_seq fun K18 kh18 => ?_
      refine f_region ?_
      refine f_stepP rfl rfl rfl (o_move rfl) ?_
      refine f_stepP rfl rfl rfl (o_idx sl26 rfl rfl (o0 + k) ⟨by omega, by omega, by first | omega | (simp; done) | (simp; omega)⟩) ?_
      refine f_stepP rfl rfl rfl (o_load Try.isAgg25 rfl (v := .slice (some ⟨br, or, none⟩) (R[k]'hkR).2.1.length (R[k]'hkR).2.2) (show Rd _ _ _ _ _ (Value.slice (some ⟨br, or, none⟩) (R[k]'hkR).2.1.length (R[k]'hkR).2.2) by rw [← hAr]; exact roOne (enc := rowV) hS0 hc0 hkR)) ?_
      refine f_stepP rfl rfl rfl (o_assign rfl) ?_
      refine f_stepP rfl rfl rfl (o_assign rfl) ?_
      refine f_done ?_
      refine f_tn (kh18 _ _ ?_)
      clear kh18
      refine f_seq fun K19 kh19 => ?_
      refine f_seq fun K20 kh20 => ?_
      refine f_region ?_
      refine f_stepP rfl rfl rfl (o_move rfl) ?_
      refine f_stepP rfl rfl rfl (o_len sl25 rfl) ?_
      refine f_stepP rfl rfl rfl (o_move rfl) ?_
      refine f_done ?_
      refine f_tn (kh20 _ _ ?_)
      clear kh20
      refine f_block ?_
      refine f_loop (α := Nat × List Value × List Seg) [2, 3, 10, 11, 12, 36, 37, 38, 43, 44] (fun ⟨j, vs, ms⟩ => [(45, .int .i64 (j : Int))]) (fun ⟨j, vs, ms⟩ => [[(b34, blk (ctoR vs k) 25)], ms.flatten, [(b3, blk [.int .i64 (n : Int), .slice A l.length cap] 24)], [(b4, blk [.slice Ab bs.length cb, .slice (some ⟨b0, o0, none⟩) R.length cc] 28)]]) (fun ⟨j, vs, ms⟩ => j ≤ arcs.length ∧ RowsI 3 (stM (rowsL R) l arcs k j) vs ms) (fun ⟨j, vs, ms⟩ => arcs.length - j) (0, vs, ms) ?_ ?_ ?_ ?_
      · exact (by repeat (first | exact trivial | refine ⟨rfl, ?_⟩))
      · repeat (first | exact Sub.nil | refine Sub.pick ?_ | refine Sub.castO rfl ?_ | refine Sub.skip ?_)
      · exact ⟨by omega, hR⟩
      ·
       rintro ⟨j, vs, ms⟩ ⟨hjl, hR⟩
       refine f_envC (e := [(45, _), (2, _), (3, _), (10, _), (11, _), (12, _), (36, _), (37, _), (38, _), (43, _), (44, _)]) (by repeat (first | exact trivial | refine ⟨rfl, ?_⟩)) ?_
       refine f_seq fun K21 kh21 => ?_
       refine f_region ?_
       refine f_stepP rfl rfl rfl (o_lss rfl rfl) ?_
       refine f_done ?_
       refine f_tn (kh21 _ _ ?_)
       clear kh21
       refine f_seq fun K22 kh22 => ?_
       refine f_cond rfl (fun c46 => ?_) (fun c46 => ?_)
       ·
        have hj : j < arcs.length := by omega
        have hoff : offA l.length arcs[j] = false := by have := List.any_eq_false.1 hno _ (List.getElem_mem hj); simpa using this
        obtain ⟨u, hu, hul⟩ : ∃ u : Nat, arcs[j] = (u : Int) ∧ u < l.length := ⟨arcs[j].toNat, by unfold offA at hoff; simp at hoff; omega, by unfold offA at hoff; simp at hoff; omega⟩
        obtain ⟨bd, od, rfl, hSd, hcd⟩ := hD (map_ne hj)
        obtain ⟨bl, off, rfl, hS, hc⟩ := hr (flat_ne arcCs arcCs_len (by omega) hul)
        have hgu := hgd u hul
        have hsN : l[u].src.toNat < (R[k]'hkR).2.1.length := by omega
        have hdN : l[u].dst.toNat < (R[k]'hkR).2.1.length := by omega
        have hnx := stR_next (row := (R[k]'hkR).2.1) (l := l) hj
        rw [stOf_at hu hul, getD_at hsN, getD_at hdN] at hnx
        refine f_skip ?_
        refine f_tn (kh22 _ _ ?_)
        clear kh22
        refine f_seq fun K23 kh23 => ?_
        refine f_block ?_
        refine f_seq fun K24 kh24 => ?_
        refine f_region ?_
        refine f_stepP rfl rfl rfl (o_idx sl25 rfl rfl (od + j) ⟨by omega, by omega, by first | omega | (simp; done) | (simp; omega)⟩) ?_
        refine f_stepP rfl rfl rfl (o_load Try.isAgg3 rfl (show Rd _ _ _ _ _ (.int .i64 (u : Int)) by rw [← hu]; exact roOne (enc := (.int .i64 ·)) hSd hcd hj)) ?_
        refine f_stepP rfl rfl rfl (o_assign rfl) ?_
        refine f_done ?_
        refine f_tn (kh24 _ _ ?_)
        clear kh24
        refine f_seq fun K25 kh25 => ?_
        refine f_region ?_
        refine f_stepP rfl rfl rfl (o_field fa24_1 rfl) ?_
        refine f_stepP rfl rfl rfl (o_load Try.isAgg22 rfl (rdA rfl)) ?_
        refine f_stepP rfl rfl rfl (o_move rfl) ?_
        refine f_stepP rfl rfl rfl (o_idx sl22 rfl rfl (off + u * 3) ⟨by omega, by omega, by first | omega | (simp; done) | (simp; omega)⟩) ?_
        refine f_stepP rfl rfl rfl (o_loadA (vs := arcCs l[u]) Try.isAgg39 Try.sizeOf39 rfl rfl (roElem arcCs_len hS hc hul)) ?_
        refine f_step rfl rfl rfl (o_alloc Try.zeroValue39 rfl fun b15 => ?_)
        refine f_step0 rfl rfl (o_storeA Try.sizeOf39 rfl rfl rfl rfl (by first | exact Nat.le_of_ble_eq_true rfl | (simp; done) | (simp; omega)) (arcCs l[u]) rfl ?_)
        refine f_done ?_
        refine f_tn (kh25 _ _ ?_)
        clear kh25
        refine f_seq fun K26 kh26 => ?_
        refine f_regionS rfl (by decide +kernel) ?_
        refine f_stillP rfl rfl rfl (o_move rfl) ?_
        refine f_stillP rfl rfl rfl (o_field fa39_0 rfl) ?_
        refine f_stillP rfl rfl rfl (o_load Try.isAgg3 rfl (rdA rfl)) ?_
        refine f_stillP rfl rfl rfl (o_idx sl25 rfl rfl (or + l[u].src.toNat) ⟨by omega, by omega, by first | omega | (simp; done) | (simp; omega)⟩) ?_
        refine f_stillP rfl rfl rfl (o_load Try.isAgg3 rfl (roOne (enc := (.int .i64 ·)) hSr hcrr hsN)) ?_
        refine f_stillP rfl rfl rfl (o_move rfl) ?_
        refine f_stillP rfl rfl rfl (o_field fa39_1 rfl) ?_
        refine f_stillP rfl rfl rfl (o_load Try.isAgg3 rfl (rdA rfl)) ?_
        refine f_stillP rfl rfl rfl (o_idx sl25 rfl rfl (or + l[u].dst.toNat) ⟨by omega, by omega, by first | omega | (simp; done) | (simp; omega)⟩) ?_
        refine f_stillP rfl rfl rfl (o_load Try.isAgg3 rfl (roOne (enc := (.int .i64 ·)) hSr hcrr hdN)) ?_
        refine f_stillP rfl rfl rfl (o_eql rfl rfl) ?_
        refine f_stillD ?_
        refine f_tn (kh26 _ _ ?_)
        clear kh26
        refine f_cond rfl (fun c64 => ?_) (fun c64 => ?_)
        ·
         rw [if_pos c64] at hnx
         obtain ⟨rv, rm, rG, hrv, hro, hrp, hput⟩ := hR.split (i := k) (by rw [stM_len, rowsL_len]; exact hkR)
         rw [stM_at] at hro
         have hrlen := stR_len ((rowsL R).getD k []) l (arcs.take j)
         rw [List.length_take] at hrlen
         obtain ⟨rl, hrl⟩ : ∃ rl, rl = stR ((rowsL R).getD k []) l (arcs.take j) := ⟨_, rfl⟩
         rw [← hrl] at hro hrlen
         obtain ⟨Ar, cr, rfl, hcr⟩ := hro.val
         have hlv := hR.lv
         rw [stM_len, rowsL_len] at hlv
         refine f_subC (Sub.splitF hrp) ?_
         refine f_regionH [[(b15, blk (arcCs l[u]) 39)]] rfl ?_
         refine f_take 0 rfl (by decide +kernel) rfl rfl rfl (by repeat (first | exact Sub.nil | refine Sub.pick ?_ | refine Sub.castO rfl ?_ | refine Sub.skip ?_)) (o_move rfl) ?_
         refine f_take 1 rfl (by decide +kernel) rfl rfl rfl (by repeat (first | exact Sub.nil | refine Sub.pick ?_ | refine Sub.castO rfl ?_ | refine Sub.skip ?_)) (o_move rfl) ?_
         refine f_take 2 rfl (by decide +kernel) rfl rfl rfl (by repeat (first | exact Sub.nil | refine Sub.pick ?_ | refine Sub.castO rfl ?_ | refine Sub.skip ?_)) (o_move rfl) ?_
         refine f_take 3 rfl (by decide +kernel) rfl rfl rfl (by repeat (first | exact Sub.nil | refine Sub.pick ?_ | refine Sub.castO rfl ?_ | refine Sub.skip ?_)) (o_move rfl) ?_
         refine f_take 4 rfl (by decide +kernel) rfl rfl rfl (by repeat (first | exact Sub.nil | refine Sub.pick ?_ | refine Sub.castO rfl ?_ | refine Sub.skip ?_)) (o_idx sl26 rfl rfl (k) ⟨by omega, by omega, by first | omega | (simp; done) | (simp; omega)⟩) ?_
         refine f_take 6 rfl (by decide +kernel) rfl rfl rfl (by repeat (first | exact Sub.nil | refine Sub.pick ?_ | refine Sub.castO rfl ?_ | refine Sub.skip ?_)) (o_move rfl) ?_
         refine f_take 7 rfl (by decide +kernel) rfl rfl rfl (by repeat (first | exact Sub.nil | refine Sub.pick ?_ | refine Sub.castO rfl ?_ | refine Sub.skip ?_)) (o_field fa39_0 rfl) ?_
         refine f_take 8 rfl (by decide +kernel) rfl rfl rfl (by repeat (first | exact Sub.nil | refine Sub.pick ?_ | refine Sub.castO rfl ?_ | refine Sub.skip ?_)) (o_load Try.isAgg3 rfl (rdA rfl)) ?_
         refine f_take 9 rfl (by decide +kernel) rfl rfl rfl (by repeat (first | exact Sub.nil | refine Sub.pick ?_ | refine Sub.castO rfl ?_ | refine Sub.skip ?_)) (o_idx sl25 rfl rfl (or + l[u].src.toNat) ⟨by omega, by omega, by first | omega | (simp; done) | (simp; omega)⟩) ?_
         refine f_take 10 rfl (by decide +kernel) rfl rfl rfl (by repeat (first | exact Sub.nil | refine Sub.pick ?_ | refine Sub.castO rfl ?_ | refine Sub.skip ?_)) (o_load Try.isAgg3 rfl (roOne (enc := (.int .i64 ·)) hSr hcrr hsN)) ?_
         refine f_two 5 11 rfl rfl (by decide +kernel) rfl rfl rfl rfl rfl rfl ?_ ?_
         ·
          refine (o_load Try.isAgg25 rfl (rdA (by rw [ctoR_get (Nat.le_refl _)]; exact hrv))).does ⟨(by repeat (first | exact Sub.nil | refine Sub.pick ?_ | refine Sub.castO rfl ?_ | refine Sub.skip ?_)), ?_⟩
          refine f_only 11 rfl (by decide +kernel) rfl rfl rfl (o_slice1 el25 (by omega) rfl rfl rfl fun b76 => ⟨(by repeat (first | exact Sub.nil | refine Sub.pick ?_ | refine Sub.castO rfl ?_ | refine Sub.skip ?_)), ?_⟩)
          refine f_only 12 rfl (by decide +kernel) rfl rfl rfl (o_append el25 rfl rfl hro (ys := [.int .i64 (R[k]'hkR).2.1[l[u].src.toNat]]) ⟨(rdA rfl), trivial⟩ rfl rfl (by omega) (by omega) fun v77 m77 o77 => ⟨(by repeat (first | exact Sub.nil | refine Sub.pick ?_ | refine Sub.castO rfl ?_ | refine Sub.skip ?_)), ?_⟩)
          obtain ⟨A77, cap77, rfl, _⟩ := o77.val
          refine f_take 13 rfl (by decide +kernel) rfl rfl rfl (by repeat (first | exact Sub.nil | refine Sub.pick ?_ | refine Sub.castO rfl ?_ | refine Sub.skip ?_)) (o_idx sl26 rfl rfl (k) ⟨by omega, by omega, by first | omega | (simp; done) | (simp; omega)⟩) ?_
          refine f_only0 14 rfl (by decide +kernel) rfl rfl (o_store Try.sizeOf25 rfl rfl rfl rfl (by rw [ctoR_len]; omega) (ctoR (vs.set k (.slice A77 (rl.length + 1) cap77)) k) (ctoR_set (Nat.le_refl _) _) ⟨(by repeat (first | exact Sub.nil | refine Sub.pick ?_ | refine Sub.castO rfl ?_ | refine Sub.skip ?_)), ?_⟩)
          refine f_over (by decide +kernel) ?_
          refine f_bn ?_
          refine f_tn (kh23 _ _ ?_)
          clear kh23
          refine f_region ?_
          refine f_stepP rfl rfl rfl (o_add rfl rfl _ (wrap_i64 (by omega))) ?_
          refine f_stepP rfl rfl rfl (o_move rfl) ?_
          refine f_done ?_
          refine f_subQ (Sub.joinF (m := m77) (G' := rG) (hput _ _ _ (by rw [← ints_len1C]; exact o77)).2) ?_
          refine f_tn (f_again (j + 1, vs.set k (.slice A77 (rl.length + 1) cap77), ms.set k m77) (by first | omega | (dsimp only; omega) | (simp; omega)) ⟨by omega, by have := (hput _ _ _ (by rw [← ints_len1C]; exact o77)).1; rw [hrl, stM_next (by rw [hrk, hnx])] at this; rw [hrl]; exact this⟩ ?_ ?_ ?_)
          · exact (by repeat (first | exact trivial | refine ⟨rfl, ?_⟩))
          · exact (by repeat (first | exact trivial | refine ⟨rfl, ?_⟩))
          · repeat (first | exact Sub.nil | refine Sub.pick ?_ | refine Sub.castO rfl ?_ | refine Sub.skip ?_)
         ·
          refine (o_slice1 el25 (by omega) rfl rfl rfl fun b76 => ⟨(by repeat (first | exact Sub.nil | refine Sub.pick ?_ | refine Sub.castO rfl ?_ | refine Sub.skip ?_)), ?_⟩)
          refine f_only 5 rfl (by decide +kernel) rfl rfl rfl ((o_load Try.isAgg25 rfl (rdA (by rw [ctoR_get (Nat.le_refl _)]; exact hrv))).does ⟨(by repeat (first | exact Sub.nil | refine Sub.pick ?_ | refine Sub.castO rfl ?_ | refine Sub.skip ?_)), ?_⟩)
          refine f_only 12 rfl (by decide +kernel) rfl rfl rfl (o_append el25 rfl rfl hro (ys := [.int .i64 (R[k]'hkR).2.1[l[u].src.toNat]]) ⟨(rdA rfl), trivial⟩ rfl rfl (by omega) (by omega) fun v77 m77 o77 => ⟨(by repeat (first | exact Sub.nil | refine Sub.pick ?_ | refine Sub.castO rfl ?_ | refine Sub.skip ?_)), ?_⟩)
          obtain ⟨A77, cap77, rfl, _⟩ := o77.val
          refine f_take 13 rfl (by decide +kernel) rfl rfl rfl (by repeat (first | exact Sub.nil | refine Sub.pick ?_ | refine Sub.castO rfl ?_ | refine Sub.skip ?_)) (o_idx sl26 rfl rfl (k) ⟨by omega, by omega, by first | omega | (simp; done) | (simp; omega)⟩) ?_
          refine f_only0 14 rfl (by decide +kernel) rfl rfl (o_store Try.sizeOf25 rfl rfl rfl rfl (by rw [ctoR_len]; omega) (ctoR (vs.set k (.slice A77 (rl.length + 1) cap77)) k) (ctoR_set (Nat.le_refl _) _) ⟨(by repeat (first | exact Sub.nil | refine Sub.pick ?_ | refine Sub.castO rfl ?_ | refine Sub.skip ?_)), ?_⟩)
          refine f_over (by decide +kernel) ?_
          refine f_bn ?_
          refine f_tn (kh23 _ _ ?_)
          clear kh23
          refine f_region ?_
          refine f_stepP rfl rfl rfl (o_add rfl rfl _ (wrap_i64 (by omega))) ?_
          refine f_stepP rfl rfl rfl (o_move rfl) ?_
          refine f_done ?_
          refine f_subQ (Sub.joinF (m := m77) (G' := rG) (hput _ _ _ (by rw [← ints_len1C]; exact o77)).2) ?_
          refine f_tn (f_again (j + 1, vs.set k (.slice A77 (rl.length + 1) cap77), ms.set k m77) (by first | omega | (dsimp only; omega) | (simp; omega)) ⟨by omega, by have := (hput _ _ _ (by rw [← ints_len1C]; exact o77)).1; rw [hrl, stM_next (by rw [hrk, hnx])] at this; rw [hrl]; exact this⟩ ?_ ?_ ?_)
          · exact (by repeat (first | exact trivial | refine ⟨rfl, ?_⟩))
          · exact (by repeat (first | exact trivial | refine ⟨rfl, ?_⟩))
          · repeat (first | exact Sub.nil | refine Sub.pick ?_ | refine Sub.castO rfl ?_ | refine Sub.skip ?_)
        ·
         rw [if_neg c64, List.append_nil] at hnx
         refine f_skip ?_
         refine f_bn ?_
         refine f_tn (kh23 _ _ ?_)
         clear kh23
         refine f_region ?_
         refine f_stepP rfl rfl rfl (o_add rfl rfl _ (wrap_i64 (by omega))) ?_
         refine f_stepP rfl rfl rfl (o_move rfl) ?_
         refine f_done ?_
         refine f_tn (f_again (j + 1, vs, ms) (by first | omega | (dsimp only; omega) | (simp; omega)) ⟨by omega, by rw [← stM_same (by rw [hrk]; exact hnx)]; exact hR⟩ ?_ ?_ ?_)
         · exact (by repeat (first | exact trivial | refine ⟨rfl, ?_⟩))
         · exact (by repeat (first | exact trivial | refine ⟨rfl, ?_⟩))
         · repeat (first | exact Sub.nil | refine Sub.pick ?_ | refine Sub.castO rfl ?_ | refine Sub.skip ?_)
       ·
        obtain rfl : j = arcs.length := by omega
        refine f_exit ?_
        refine f_te ?_
        clear kh22
        refine f_te ?_
        refine f_be ?_
        refine f_tn (kh19 _ _ ?_)
        clear kh19
        refine f_seq fun K27 kh27 => ?_
        obtain ⟨rv, rm, rG, hrv, hro, hrp, hput⟩ := hR.split (i := k) (by rw [stM_len, rowsL_len]; exact hkR)
        rw [stM_at] at hro
        have hrlen := stR_len ((rowsL R).getD k []) l (arcs.take arcs.length)
        rw [List.length_take] at hrlen
        obtain ⟨rl, hrl⟩ : ∃ rl, rl = stR ((rowsL R).getD k []) l (arcs.take arcs.length) := ⟨_, rfl⟩
        rw [← hrl] at hro hrlen
        obtain ⟨Ar, cr, rfl, hcr⟩ := hro.val
        have hlv := hR.lv
        rw [stM_len, rowsL_len] at hlv
        refine f_subC (Sub.splitF hrp) ?_
        refine f_region ?_
        refine f_stepP rfl rfl rfl (o_move rfl) ?_
        refine f_stepP rfl rfl rfl (o_move rfl) ?_
        refine f_stepP rfl rfl rfl (o_idx sl26 rfl rfl (k) ⟨by omega, by omega, by first | omega | (simp; done) | (simp; omega)⟩) ?_
        refine f_stepP rfl rfl rfl (o_load Try.isAgg25 rfl (rdA (by rw [ctoR_get (Nat.le_refl _)]; exact hrv))) ?_
        refine f_step rfl rfl rfl (o_callM [rm] _ Try.call33 rfl (Sub.pick Sub.refl) (fun w_ hp_ => SortInts_spec Ar cr rl rm w_ hro (by omega) hp_.owns) ?_)
        rintro _ _ ⟨rfl, m2, rfl, ho2⟩
        dsimp only [List.cons_append, List.nil_append]
        refine f_done ?_
        refine f_tn (kh27 _ _ ?_)
        clear kh27
        refine f_region ?_
        refine f_stepP rfl rfl rfl (o_move rfl) ?_
        refine f_stepP rfl rfl rfl (o_move rfl) ?_
        refine f_stepP rfl rfl rfl (o_move rfl) ?_
        refine f_stepP rfl rfl rfl (o_move rfl) ?_
        refine f_stepP rfl rfl rfl (o_idx sl26 rfl rfl (k) ⟨by omega, by omega, by first | omega | (simp; done) | (simp; omega)⟩) ?_
        refine f_stepP rfl rfl rfl (o_load Try.isAgg25 rfl (rdA (by rw [ctoR_get (Nat.le_refl _)]; exact hrv))) ?_
        refine f_step rfl rfl rfl (o_callM [m2] _ Try.call35 rfl (by repeat (first | exact Sub.refl | refine Sub.pick ?_)) (fun w_ hp_ => (by have h := Compact_spec Ar cr (sortI rl) m2 w_ (by rw [sortI_len]; exact ho2) (by rw [sortI_len]; omega) hp_.owns; rw [sortI_len] at h; exact h)) ?_)
        rintro v91 _ ⟨m3, rfl, ho3⟩
        obtain ⟨A3, c3, rfl, hc3⟩ := ho3.val
        dsimp only [List.cons_append, List.nil_append]
        refine f_step rfl rfl rfl (o_call Try.call34 rfl (fun w_ hp_ => cut_spec A3 (cpt (sortI rl)).length c3 w_ hc3.1 hc3.2 (own_none ho3)) ?_)
        rintro _ _ ⟨rfl, rfl⟩
        dsimp only [List.cons_append, List.nil_append]
        refine f_stepP rfl rfl rfl (o_idx sl26 rfl rfl (k) ⟨by omega, by omega, by first | omega | (simp; done) | (simp; omega)⟩) ?_
        refine f_step0 rfl rfl (o_store Try.sizeOf25 rfl rfl rfl rfl (by rw [ctoR_len]; omega) (ctoR (vs.set k (.slice A3 (cpt (sortI rl)).length c3)) (k + 1)) (ctoR_next (.slice A3 (cpt (sortI rl)).length c3)) ?_)
        refine f_done ?_
        refine f_bn ?_
        refine f_tn (kh17 _ _ ?_)
        clear kh17
        refine f_region ?_
        refine f_stepP rfl rfl rfl (o_add rfl rfl _ (wrap_i64 (by omega))) ?_
        refine f_stepP rfl rfl rfl (o_move rfl) ?_
        refine f_done ?_
        refine f_subQ (Sub.joinF (m := m3) (G' := rG) (hput _ _ _ ho3).2) ?_
        refine f_tn (f_again (k + 1, vs.set k (.slice A3 (cpt (sortI rl)).length c3), ms.set k m3) (by first | omega | (dsimp only; omega) | (simp; omega)) ⟨by omega, by have := (hput _ _ _ ho3).1; rw [hrl, List.take_length, show cpt (sortI (stR ((rowsL R).getD k []) l arcs)) = stRow ((rowsL R).getD k []) l arcs from rfl, stM_row rfl] at this; rw [hrl, List.take_length]; exact this⟩ ?_ ?_ ?_)
        · exact (by repeat (first | exact trivial | refine ⟨rfl, ?_⟩))
        · exact (by repeat (first | exact trivial | refine ⟨rfl, ?_⟩))
        · repeat (first | exact Sub.nil | refine Sub.pick ?_ | refine Sub.castO rfl ?_ | refine Sub.skip ?_)
     ·
      obtain rfl : k = R.length := by omega
      refine f_exit ?_
      refine f_te ?_
      clear kh16
      refine f_te ?_
      refine f_be ?_
      refine f_tn (kh13 _ _ ?_)
      clear kh13
      refine f_seq fun K28 kh28 => ?_
      refine f_region ?_
      refine f_stepP rfl rfl rfl (o_move rfl) ?_
      refine f_stepP rfl rfl rfl (o_assign rfl) ?_
      refine f_stepP rfl rfl rfl (o_assign rfl) ?_
      refine f_done ?_
      refine f_tn (kh28 _ _ ?_)
      clear kh28
      refine f_ret ?_
      have hlv := hR.lv
      rw [stM_len, rowsL_len] at hlv
      obtain ⟨R', hR1, hR2, hR3⟩ := RowsI.cut hR
      have hRl' : R'.length = R.length := by rw [← rowsL_len R', hR2, stM_len, rowsL_len]
      dsimp only
      rw [ctoR_all (by omega), hR1]
      exact f_fin2 [[(b34, blk (R'.map rowV) 25)], ms.flatten] Try.results17 rfl rfl (by repeat (first | exact Sub.nil | refine Sub.pick ?_ | refine Sub.castO rfl ?_ | refine Sub.skip ?_)) ⟨R', some ⟨b34, 0, none⟩, R.length, _, ms, by rw [hsn, hRl'], rfl, by have h := Own.mk (E := 25) (sz := 1) (b := b34) (cs := R'.map rowV) (len := R'.length) (by simp) (by omega); rw [hRl'] at h ⊢; exact h, hR3, fun h => absurd hsn h, fun _ => by rw [hR2, stM_all (by rw [rowsL_len]; exact Nat.le_refl _)]⟩

end Go.Proofs.Ytkmkakpadgljeaa
