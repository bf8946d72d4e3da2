import Derived.Test.YtkmkakpadgljeaaGreatAll3
import Derived.Test.YtkmkakpadgljeaaGreatAll1
import Derived.Test.YtkmkakpadgljeaaGreatAll2

/- package nest: many, Many, cellOf, members, Members, Children, Parent, Apart. -/
namespace Go.Proofs.YtkmkakpadgljeaaGreat
open Go Go.RowKit Fly
set_option linter.unusedVariables false
set_option linter.unusedSimpArgs false


theorem clE_row {N : Int} {l : List Arc} {bs : List Int} {R : List Row} {q c : Int} (h : clE N l bs (rowsL R) q c = 0) : lkE N l bs (rowsL R) q = 0 := by
  unfold clE at h
  by_cases h1 : lkE N l bs (rowsL R) q = 0
  · exact h1
  · rw [if_pos h1] at h; exact h
theorem row_get {R : List Row} {q : Int} {r : Row} (h : R[(q - 1).toNat]? = some r) (hq : 1 ≤ q) : (rowsL R).getD (q.toNat - 1) [] = r.2.1 := by
  have e : (q - 1).toNat = q.toNat - 1 := by omega
  rw [e] at h
  unfold rowsL
  rw [List.getD_eq_getElem?_getD, List.getElem?_map, h]; rfl
/-- The members of a right level's cell: there is one. -/
theorem mem_pos {n : Nat} {L : List Int} (hR : rightB (n : Int) L = true) (hn : 1 ≤ n) {j : Nat} (hj : (j : Int) < maxL L + 1) : 0 < (memTo L (j : Int) L.length).length := by
  have h := right_cntN hR hn (j := j) (by omega)
  unfold cnt at h
  obtain ⟨x, hx⟩ := List.exists_mem_of_length_pos (show 0 < (L.filter fun x => decide (x = Int.ofNat j)).length by omega)
  obtain ⟨h1, h2⟩ := List.mem_filter.1 hx
  obtain ⟨v, hv, e⟩ := List.mem_iff_getElem.1 h1
  have : (v : Int) ∈ memTo L (j : Int) L.length := by
    unfold memTo
    refine List.mem_map.2 ⟨v, List.mem_filter.2 ⟨by simpa using hv, ?_⟩, rfl⟩
    rw [decide_eq_true_eq, List.getD_eq_getElem?_getD, List.getElem?_eq_getElem hv, Option.getD_some, e]
    simpa using h2
  exact List.length_pos_of_mem this
theorem memTo_mem {L : List Int} {c : Int} {k : Nat} {x : Int} : x ∈ memTo L c k ↔ ∃ v : Nat, x = (v : Int) ∧ v < k ∧ L.getD v 0 = c := by
  unfold memTo
  simp only [List.mem_map, List.mem_filter, List.mem_range, decide_eq_true_eq]
  constructor
  · rintro ⟨v, ⟨h1, h2⟩, rfl⟩; exact ⟨v, rfl, h1, h2⟩
  · rintro ⟨v, rfl, h1, h2⟩; exact ⟨v, ⟨h1, h2⟩, rfl⟩
theorem headD_get {L : List Int} (h : 0 < L.length) : L.headD 0 = L[0] := by
  cases L with
  | nil => simp at h
  | cons a b => rfl
/-- The cells below of some vertices. -/
def lowL (B M : List Int) : List Int := M.map fun v => B.getD v.toNat 0
def chE (N : Int) (l : List Arc) (bs : List Int) (L : List (List Int)) (q c : Int) : Int := if clE N l bs L q c ≠ 0 then clE N l bs L q c else if q = 1 then 111 else 0
def chL (L : List (List Int)) (q c : Int) : List Int := cpt (sortI (lowL (L.getD (q.toNat - 2) []) (memTo (L.getD (q.toNat - 1) []) c (L.getD (q.toNat - 1) []).length)))
def paE (N : Int) (l : List Arc) (bs : List Int) (L : List (List Int)) (q c : Int) : Int := if clE N l bs L q c ≠ 0 then clE N l bs L q c else if q = (bs.length : Int) then 111 else 0
def paV (L : List (List Int)) (q c : Int) : Int := (L.getD q.toNat []).getD ((memTo (L.getD (q.toNat - 1) []) c (L.getD (q.toNat - 1) []).length).headD 0).toNat 0
def apE (N : Int) (l : List Arc) (bs : List Int) (L : List (List Int)) (u v : Int) : Int := if (nsE N l bs L).2 ≠ 0 then (nsE N l bs L).2 else if u < 0 ∨ N ≤ u ∨ v < 0 ∨ N ≤ v then 5 else 0
/-- The greatest of the first levels at which two vertices are apart. -/
def apV (L : List (List Int)) (u v : Nat) : Nat → Nat
  | 0 => 0
  | k + 1 => if (L.getD k []).getD u 0 ≠ (L.getD k []).getD v 0 then k + 1 else apV L u v k
theorem lowL_next {B M : List Int} {k : Nat} (h : k < M.length) : lowL B (M.take (k + 1)) = lowL B (M.take k) ++ [B.getD M[k].toNat 0] := by
  unfold lowL; rw [List.take_succ_eq_append_getElem h, List.map_append]; rfl
theorem lowL_len (B M : List Int) : (lowL B M).length = M.length := by simp [lowL]

set_option maxRecDepth 100000 in
set_option maxHeartbeats 4000000 in
theorem MaxN_spec (B : Option Addr) (L : List Int) (cb : Nat) (w : World) (hL : Ro (Fr w []) w B (ints L)) (h0 : 0 < L.length) (hm : L.length ≤ 9223372036854775807) :
    Meets Tryz.prog 65 [.slice B L.length cb] w [] (fun u m => u = .int .i64 (maxL L) ∧ m = []) := by
 obtain ⟨bb, ob, rfl, hSb, hcb⟩ := hL (fun e => by have := ints_length L; rw [e] at this; simp at this; omega)
 refine f_enter Tryz.func65 rfl Tryz.ntmps65 rfl Owns.nil ?_
 refine f_seq fun K1 kh1 => ?_
 refine f_region ?_
 refine f_stepP rfl rfl rfl (o_assign rfl) ?_
 refine f_done ?_
 refine f_tn (kh1 _ _ ?_)
 clear kh1
 refine f_seq fun K2 kh2 => ?_
 refine f_seq fun K3 kh3 => ?_
 refine f_region ?_
 refine f_stepP rfl rfl rfl (o_move rfl) ?_
 refine f_stepP rfl rfl rfl (o_len sl69 rfl) ?_
 refine f_stepP rfl rfl rfl (o_lss rfl rfl) ?_
 refine f_done ?_
 refine f_tn (kh3 _ _ ?_)
 clear kh3
 refine f_condN rfl (by omega) ?_
 refine f_skip ?_
 refine f_tn (kh2 _ _ ?_)
 clear kh2
 refine f_seq fun K4 kh4 => ?_
 refine f_region ?_
 refine f_stepP rfl rfl rfl (o_move rfl) ?_
 refine f_stepP rfl rfl rfl (o_idx sl69 rfl rfl (ob + 0) ⟨by omega, by omega, by first | omega | (simp; done) | (simp; omega)⟩) ?_
 refine f_stepP rfl rfl rfl (o_load Tryz.isAgg3 rfl (roOne (enc := (.int .i64 ·)) hSb hcb h0)) ?_
 refine f_stepP rfl rfl rfl (o_assign rfl) ?_
 refine f_done ?_
 refine f_tn (kh4 _ _ ?_)
 clear kh4
 refine f_seq fun K5 kh5 => ?_
 refine f_seq fun K6 kh6 => ?_
 refine f_reC 3 rfl (v := .int .i64 ((L.take 1).foldl max (L.headD 0))) (by rw [max_one h0]) ?_
 refine f_region ?_
 refine f_stepP rfl rfl rfl (o_assign rfl) ?_
 refine f_done ?_
 refine f_tn (kh6 _ _ ?_)
 clear kh6
 refine f_block ?_
 refine f_loopK (α := Nat) [0] (fun k => [(4, .int .i64 (k : Int)), (3, .int .i64 ((L.take k).foldl max (L.headD 0)))]) (fun k => 1 ≤ k ∧ k ≤ L.length) (fun k => L.length - k) (1) ?_ ?_ ?_
 · exact (by repeat (first | exact trivial | refine ⟨rfl, ?_⟩))
 · exact ⟨by omega, by omega⟩
 ·
  rintro k ⟨hk1, hkl⟩
  refine f_seq fun K7 kh7 => ?_
  refine f_seq fun K8 kh8 => ?_
  refine f_region ?_
  refine f_stepP rfl rfl rfl (o_move rfl) ?_
  refine f_stepP rfl rfl rfl (o_move rfl) ?_
  refine f_stepP rfl rfl rfl (o_len sl69 rfl) ?_
  refine f_stepP rfl rfl rfl (o_lss rfl rfl) ?_
  refine f_done ?_
  refine f_tn (kh8 _ _ ?_)
  clear kh8
  refine f_cond rfl (fun c15 => ?_) (fun c15 => ?_)
  ·
   have hk : k < L.length := by omega
   refine f_skip ?_
   refine f_tn (kh7 _ _ ?_)
   clear kh7
   refine f_seq fun K9 kh9 => ?_
   refine f_block ?_
   refine f_region ?_
   refine f_stepP rfl rfl rfl (o_move rfl) ?_
   refine f_stepP rfl rfl rfl (o_move rfl) ?_
   refine f_stepP rfl rfl rfl (o_move rfl) ?_
   refine f_stepP rfl rfl rfl (o_idx sl69 rfl rfl (ob + k) ⟨by omega, by omega, by first | omega | (simp; done) | (simp; omega)⟩) ?_
   refine f_stepP rfl rfl rfl (o_load Tryz.isAgg3 rfl (roOne (enc := (.int .i64 ·)) hSb hcb hk)) ?_
   refine f_stepP rfl rfl rfl (o_max rfl rfl) ?_
   refine f_stepP rfl rfl rfl (o_assign rfl) ?_
   refine f_done ?_
   refine f_bn ?_
   refine f_tn (kh9 _ _ ?_)
   clear kh9
   refine f_reC 3 rfl (v := .int .i64 ((L.take (k + 1)).foldl max (L.headD 0))) (by rw [max_next hk]) ?_
   refine f_region ?_
   refine f_stepP rfl rfl rfl (o_move rfl) ?_
   refine f_stepP rfl rfl rfl (o_add rfl rfl _ (wrap_i64 (by omega))) ?_
   refine f_stepP rfl rfl rfl (o_assign rfl) ?_
   refine f_done ?_
   refine f_tn (f_again (k + 1) (by first | omega | (dsimp only; omega) | (simp; omega)) ⟨by omega, by omega⟩ ?_ ?_ ?_)
   · exact (by repeat (first | exact trivial | refine ⟨rfl, ?_⟩))
   · exact (by repeat (first | exact trivial | refine ⟨rfl, ?_⟩))
   · repeat (first | exact Sub.nil | refine Sub.pick ?_ | refine Sub.castO rfl ?_ | refine Sub.skip ?_)
  ·
   refine f_exit ?_
   refine f_te ?_
   clear kh7
   refine f_te ?_
   refine f_be ?_
   refine f_tn (kh5 _ _ ?_)
   clear kh5
   refine f_seq fun K10 kh10 => ?_
   refine f_region ?_
   refine f_stepP rfl rfl rfl (o_move rfl) ?_
   refine f_stepP rfl rfl rfl (o_assign rfl) ?_
   refine f_done ?_
   refine f_tn (kh10 _ _ ?_)
   clear kh10
   refine f_ret ?_
   exact f_fin1 [] Tryz.results65 rfl Sub.nil ⟨by rw [List.take_of_length_le (by omega)]; rfl, rfl⟩

set_option maxRecDepth 100000 in
set_option maxHeartbeats 4000000 in
theorem lmany_spec (B : Option Addr) (L : List Int) (cb : Nat) (w : World) (hL : Ro (Fr w []) w B (ints L)) (h0 : 0 < L.length) (hm : L.length ≤ 9223372036854775807) (hx : maxL L ≤ 1000000 ∧ -1000000 ≤ maxL L) :
    Meets Tryz.prog 47 [.slice B L.length cb] w [] (fun u m => u = .int .i64 (maxL L + 1) ∧ m = []) := by
 refine f_enter Tryz.func47 rfl Tryz.ntmps47 rfl Owns.nil ?_
 refine f_seq fun K1 kh1 => ?_
 refine f_region ?_
 refine f_stepP rfl rfl rfl (o_assign rfl) ?_
 refine f_done ?_
 refine f_tn (kh1 _ _ ?_)
 clear kh1
 refine f_seq fun K2 kh2 => ?_
 refine f_region ?_
 refine f_stepP rfl rfl rfl (o_move rfl) ?_
 refine f_step rfl rfl rfl (o_call Tryz.call65 rfl (fun w_ hp_ => MaxN_spec B L cb w_ (hL.up0 hp_) h0 hm) ?_)
 rintro _ _ ⟨rfl, rfl⟩
 dsimp only [List.cons_append, List.nil_append]
 refine f_stepP rfl rfl rfl (o_add rfl rfl _ (wrap_i64 (by omega))) ?_
 refine f_stepP rfl rfl rfl (o_assign rfl) ?_
 refine f_done ?_
 refine f_tn (kh2 _ _ ?_)
 clear kh2
 refine f_ret ?_
 exact f_fin1 [] Tryz.results47 rfl Sub.nil ⟨rfl, rfl⟩

set_option maxRecDepth 100000 in
set_option maxHeartbeats 4000000 in
theorem lmem_spec (B : Option Addr) (L : List Int) (cb : Nat) (c : Int) (w : World) (hL : Ro (Fr w []) w B (ints L)) (hm : L.length ≤ 1024) :
    Meets Tryz.prog 49 [.slice B L.length cb, .int .i64 c] w [] (fun u own' => ∃ A' c' m', u = .slice A' (memTo L c L.length).length c' ∧ own' = [m'] ∧ Own 3 1 (.slice A' (memTo L c L.length).length c') (memTo L c L.length).length (ints (memTo L c L.length)) m') := by
 refine f_enter Tryz.func49 rfl Tryz.ntmps49 rfl Owns.nil ?_
 refine f_seq fun K1 kh1 => ?_
 refine f_region ?_
 refine f_stepP rfl rfl rfl (o_assign rfl) ?_
 refine f_done ?_
 refine f_tn (kh1 _ _ ?_)
 clear kh1
 refine f_seq fun K2 kh2 => ?_
 refine f_region ?_
 refine f_stepP rfl rfl rfl (o_assign rfl) ?_
 refine f_done ?_
 refine f_tn (kh2 _ _ ?_)
 clear kh2
 refine f_seq fun K3 kh3 => ?_
 refine f_seq fun K4 kh4 => ?_
 refine f_region ?_
 refine f_stepP rfl rfl rfl (o_move rfl) ?_
 refine f_stepP rfl rfl rfl (o_len sl69 rfl) ?_
 refine f_stepP rfl rfl rfl (o_move rfl) ?_
 refine f_done ?_
 refine f_tn (kh4 _ _ ?_)
 clear kh4
 refine f_block ?_
 refine f_loop (α := Nat × Value × Seg) [1, 8, 9] (fun ⟨k, ov, om⟩ => [(10, .int .i64 (k : Int)), (5, ov)]) (fun ⟨k, ov, om⟩ => [om]) (fun ⟨k, ov, om⟩ => k ≤ L.length ∧ Own 3 1 ov (memTo L c k).length (ints (memTo L c k)) om) (fun ⟨k, ov, om⟩ => L.length - k) (0, .slice none 0 0, []) ?_ ?_ ?_ ?_
 · exact (by repeat (first | exact trivial | refine ⟨rfl, ?_⟩))
 · repeat (first | exact Sub.nil | refine Sub.pick ?_ | refine Sub.castO rfl ?_ | refine Sub.skip ?_)
 · exact ⟨Nat.zero_le _, Own.nil _ _⟩
 ·
  rintro ⟨k, ov, om⟩ ⟨hkl, hO⟩
  have hml := memTo_len L c k
  obtain ⟨Ao, co, rfl, hco⟩ := hO.val
  refine f_seq fun K5 kh5 => ?_
  refine f_region ?_
  refine f_stepP rfl rfl rfl (o_lss rfl rfl) ?_
  refine f_done ?_
  refine f_tn (kh5 _ _ ?_)
  clear kh5
  refine f_seq fun K6 kh6 => ?_
  refine f_cond rfl (fun c11 => ?_) (fun c11 => ?_)
  ·
   have hk : k < L.length := by omega
   obtain ⟨bb, ob, rfl, hSb, hcb⟩ := hL (fun e => by have := ints_length L; rw [e] at this; simp at this; omega)
   have hgk : L.getD k 0 = L[k] := by simp [List.getD_eq_getElem?_getD, hk]
   refine f_skip ?_
   refine f_tn (kh6 _ _ ?_)
   clear kh6
   refine f_seq fun K7 kh7 => ?_
   refine f_block ?_
   refine f_seq fun K8 kh8 => ?_
   refine f_region ?_
   refine f_stepP rfl rfl rfl (o_move rfl) ?_
   refine f_stepP rfl rfl rfl (o_idx sl69 rfl rfl (ob + k) ⟨by omega, by omega, by first | omega | (simp; done) | (simp; omega)⟩) ?_
   refine f_stepP rfl rfl rfl (o_load Tryz.isAgg3 rfl (roOne (enc := (.int .i64 ·)) hSb hcb hk)) ?_
   refine f_stepP rfl rfl rfl (o_assign rfl) ?_
   refine f_stepP rfl rfl rfl (o_assign rfl) ?_
   refine f_done ?_
   refine f_tn (kh8 _ _ ?_)
   clear kh8
   refine f_seq fun K9 kh9 => ?_
   refine f_region ?_
   refine f_stepP rfl rfl rfl (o_move rfl) ?_
   refine f_stepP rfl rfl rfl (o_move rfl) ?_
   refine f_stepP rfl rfl rfl (o_eql rfl rfl) ?_
   refine f_done ?_
   refine f_tn (kh9 _ _ ?_)
   clear kh9
   refine f_cond rfl (fun c17 => ?_) (fun c17 => ?_)
   ·
    have hnx := memTo_yes (L := L) (c := c) (k := k) (by rw [hgk]; exact c17)
    refine f_region ?_
    refine f_stepP rfl rfl rfl (o_move rfl) ?_
    refine f_stepP rfl rfl rfl (o_move rfl) ?_
    refine f_step rfl rfl rfl (o_slice1 el25 (by omega) rfl rfl rfl fun b20 => ?_)
    refine f_step rfl rfl rfl (o_append el25 rfl rfl hO (ys := [.int .i64 (k : Int)]) ⟨(rdA rfl), trivial⟩ rfl rfl (by omega) (by omega) fun v21 m21 o21 => ?_)
    refine f_stepP rfl rfl rfl (o_assign rfl) ?_
    refine f_done ?_
    refine f_bn ?_
    refine f_tn (kh7 _ _ ?_)
    clear kh7
    refine f_region ?_
    refine f_stepP rfl rfl rfl (o_add rfl rfl _ (wrap_i64 (by omega))) ?_
    refine f_stepP rfl rfl rfl (o_move rfl) ?_
    refine f_done ?_
    refine f_tn (f_again (k + 1, v21, m21) (by first | omega | (dsimp only; omega) | (simp; omega)) ⟨by omega, by rw [hnx, List.length_append, ints_append]; exact o21⟩ ?_ ?_ ?_)
    · exact (by repeat (first | exact trivial | refine ⟨rfl, ?_⟩))
    · exact (by repeat (first | exact trivial | refine ⟨rfl, ?_⟩))
    · repeat (first | exact Sub.nil | refine Sub.pick ?_ | refine Sub.castO rfl ?_ | refine Sub.skip ?_)
   ·
    have hnx := memTo_no (L := L) (c := c) (k := k) (by rw [hgk]; exact c17)
    refine f_skip ?_
    refine f_bn ?_
    refine f_tn (kh7 _ _ ?_)
    clear kh7
    refine f_region ?_
    refine f_stepP rfl rfl rfl (o_add rfl rfl _ (wrap_i64 (by omega))) ?_
    refine f_stepP rfl rfl rfl (o_move rfl) ?_
    refine f_done ?_
    refine f_tn (f_again (k + 1, .slice Ao (memTo L c k).length co, om) (by first | omega | (dsimp only; omega) | (simp; omega)) ⟨by omega, by rw [hnx]; exact hO⟩ ?_ ?_ ?_)
    · exact (by repeat (first | exact trivial | refine ⟨rfl, ?_⟩))
    · exact (by repeat (first | exact trivial | refine ⟨rfl, ?_⟩))
    · repeat (first | exact Sub.nil | refine Sub.pick ?_ | refine Sub.castO rfl ?_ | refine Sub.skip ?_)
  ·
   obtain rfl : k = L.length := by omega
   refine f_exit ?_
   refine f_te ?_
   clear kh6
   refine f_te ?_
   refine f_be ?_
   refine f_tn (kh3 _ _ ?_)
   clear kh3
   refine f_seq fun K10 kh10 => ?_
   refine f_region ?_
   refine f_stepP rfl rfl rfl (o_move rfl) ?_
   refine f_stepP rfl rfl rfl (o_assign rfl) ?_
   refine f_done ?_
   refine f_tn (kh10 _ _ ?_)
   clear kh10
   refine f_ret ?_
   exact f_fin1 [om] Tryz.results49 rfl (by repeat (first | exact Sub.nil | refine Sub.pick ?_ | refine Sub.castO rfl ?_ | refine Sub.skip ?_)) ⟨Ao, co, om, rfl, rfl, hO⟩

set_option maxRecDepth 100000 in
set_option maxHeartbeats 4000000 in
theorem NMany_spec (N : Int) (A : Option Addr) (l : List Arc) (cap : Nat) (Ab : Option Addr) (bs : List Int) (cb : Nat) (Ac : Option Addr) (R : List Row) (cc : Nat) (q : Int) (w : World) (hr : Ro (Fr w []) w A (l.flatMap arcCs)) (hl : l.length ≤ 9223372036854775807) (hN : I64 N) (hok : ∀ x ∈ l, ArcOk x) (hn : NestRo (Fr w []) w Ab bs Ac R) :
    Meets Tryz.prog 36 [.agg #[.int .i64 N, .slice A l.length cap], .agg #[.slice Ab bs.length cb, .slice Ac R.length cc], .int .i64 q] w [] (fun u m => u = .tuple #[.int .i64 (if lkE N l bs (rowsL R) q ≠ 0 then 0 else maxL ((rowsL R).getD (q.toNat - 1) []) + 1), .int .i64 (lkE N l bs (rowsL R) q)] ∧ m = []) := by
 refine f_enter Tryz.func36 rfl Tryz.ntmps36 rfl Owns.nil ?_
 refine f_seq fun K1 kh1 => ?_
 refine f_region ?_
 refine f_step rfl rfl rfl (o_box rfl rfl fun b3 => ?_)
 refine f_step rfl rfl rfl (o_box rfl rfl fun b4 => ?_)
 refine f_stepP rfl rfl rfl (o_assign rfl) ?_
 refine f_stepP rfl rfl rfl (o_assign rfl) ?_
 refine f_done ?_
 refine f_tn (kh1 _ _ ?_)
 clear kh1
 refine f_seq fun K2 kh2 => ?_
 refine f_region ?_
 refine f_stepP rfl rfl rfl (o_loadA (vs := [_, _]) Tryz.isAgg24 Tryz.sizeOf24 rfl rfl ⟨(rdA rfl), (rdA rfl), trivial⟩) ?_
 refine f_stepP rfl rfl rfl (o_loadA (vs := [_, _]) Tryz.isAgg28 Tryz.sizeOf28 rfl rfl ⟨(rdA rfl), (rdA rfl), trivial⟩) ?_
 refine f_stepP rfl rfl rfl (o_move rfl) ?_
 refine f_step rfl rfl rfl (o_call Tryz.call46 rfl (fun w_ hp_ => nlooked_spec N A l cap Ab bs cb Ac R cc q w_ (hr.up0 hp_) hl hN hok (hn.up0 hp_)) ?_)
 rintro _ _ ⟨r, x, rfl, rfl, hrx⟩
 dsimp only [List.cons_append, List.nil_append]
 refine f_stepP rfl rfl rfl (o_move rfl) ?_
 refine f_stepP rfl rfl rfl (o_extract rfl rfl) ?_
 refine f_stepP rfl rfl rfl (o_extract rfl rfl) ?_
 refine f_step rfl rfl rfl (o_alloc Tryz.zeroValue71 rfl fun b8 => ?_)
 refine f_step0 rfl rfl (o_storeA Tryz.sizeOf71 rfl rfl rfl rfl (by first | exact Nat.le_of_ble_eq_true rfl | (simp; done) | (simp; omega)) [rowV r, .int .i64 x] rfl ?_)
 refine f_stepP rfl rfl rfl (o_assign rfl) ?_
 refine f_done ?_
 refine f_tn (kh2 _ _ ?_)
 clear kh2
 refine f_seq fun K3 kh3 => ?_
 refine f_seq fun K4 kh4 => ?_
 refine f_region ?_
 refine f_stepP rfl rfl rfl (o_move rfl) ?_
 refine f_stepP rfl rfl rfl (o_neq rfl rfl) ?_
 refine f_done ?_
 refine f_tn (kh4 _ _ ?_)
 clear kh4
 refine f_cond rfl (fun c18 => ?_) (fun c18 => ?_)
 ·
  refine f_seq fun K5 kh5 => ?_
  refine f_region ?_
  refine f_stepP rfl rfl rfl (o_move rfl) ?_
  refine f_stepP rfl rfl rfl (o_assign rfl) ?_
  refine f_stepP rfl rfl rfl (o_assign rfl) ?_
  refine f_done ?_
  refine f_tn (kh5 _ _ ?_)
  clear kh5
  refine f_ret ?_
  refine f_tr ?_
  exact f_fin2 [] Tryz.results36 rfl rfl (by repeat (first | exact Sub.nil | refine Sub.pick ?_ | refine Sub.castO rfl ?_ | refine Sub.skip ?_)) ⟨by rw [if_pos (by simpa using c18)], rfl⟩
 ·
  have hlz : lkE N l bs (rowsL R) q = 0 := by simpa using c18
  obtain ⟨hx, hrr⟩ := hrx hlz
  have hrm := List.mem_of_getElem? hrr
  have hrr2 := hn.rows r hrm
  obtain ⟨n, k, hNn, hNo, hqk, hkb⟩ := lkE_zero hlz
  have hRr := hNo.right hkb
  have hrow := row_get hrr (by omega)
  rw [show q.toNat - 1 = k by omega] at hrow
  rw [hrow] at hRr
  have hn1 := hNo.n1
  have hmany := hNo.many
  have hrlen := (right_parts hRr).2
  have hrng := right_range hRr (by omega)
  refine f_skip ?_
  refine f_tn (kh3 _ _ ?_)
  clear kh3
  refine f_seq fun K6 kh6 => ?_
  refine f_region ?_
  refine f_stepP rfl rfl rfl (o_field fa71_0 rfl) ?_
  refine f_stepP rfl rfl rfl (o_load Tryz.isAgg69 rfl (rdA rfl)) ?_
  refine f_step rfl rfl rfl (o_call Tryz.call47 rfl (fun w_ hp_ => lmany_spec r.1 r.2.1 r.2.2 w_ (hrr2.1.up0 hp_) (by omega) hrr2.2 (by have := hrng _ (List.getElem_mem (show 0 < r.2.1.length by omega)); have := maxL_le (L := r.2.1) (b := 2000) (by omega) (fun x hx => by have := hrng x hx; omega); omega)) ?_)
  rintro _ _ ⟨rfl, rfl⟩
  dsimp only [List.cons_append, List.nil_append]
  refine f_stepP rfl rfl rfl (o_assign rfl) ?_
  refine f_stepP rfl rfl rfl (o_assign rfl) ?_
  refine f_done ?_
  refine f_tn (kh6 _ _ ?_)
  clear kh6
  refine f_ret ?_
  exact f_fin2 [] Tryz.results36 rfl rfl (by repeat (first | exact Sub.nil | refine Sub.pick ?_ | refine Sub.castO rfl ?_ | refine Sub.skip ?_)) ⟨by rw [if_neg (by rw [hlz]; simp), hlz, show q.toNat - 1 = k by omega, hrow], rfl⟩

set_option maxRecDepth 100000 in
set_option maxHeartbeats 4000000 in
theorem cellOf_spec (N : Int) (A : Option Addr) (l : List Arc) (cap : Nat) (Ab : Option Addr) (bs : List Int) (cb : Nat) (Ac : Option Addr) (R : List Row) (cc : Nat) (q c : Int) (w : World) (hr : Ro (Fr w []) w A (l.flatMap arcCs)) (hl : l.length ≤ 9223372036854775807) (hN : I64 N) (hok : ∀ x ∈ l, ArcOk x) (hn : NestRo (Fr w []) w Ab bs Ac R) :
    Meets Tryz.prog 48 [.agg #[.int .i64 N, .slice A l.length cap], .agg #[.slice Ab bs.length cb, .slice Ac R.length cc], .int .i64 q, .int .i64 c] w [] (fun u m => ∃ (r : Row) (x : Int), u = .tuple #[.agg #[rowV r, .int .i64 x], .int .i64 (clE N l bs (rowsL R) q c)] ∧ m = [] ∧ (clE N l bs (rowsL R) q c = 0 → x = q ∧ R[(q - 1).toNat]? = some r)) := by
 refine f_enter Tryz.func48 rfl Tryz.ntmps48 rfl Owns.nil ?_
 refine f_seq fun K1 kh1 => ?_
 refine f_region ?_
 refine f_step rfl rfl rfl (o_box rfl rfl fun b4 => ?_)
 refine f_step rfl rfl rfl (o_box rfl rfl fun b5 => ?_)
 refine f_step rfl rfl rfl (o_alloc Tryz.zeroValue71 rfl fun b8 => ?_)
 refine f_stepP rfl rfl rfl (o_assign rfl) ?_
 refine f_done ?_
 refine f_tn (kh1 _ _ ?_)
 clear kh1
 refine f_seq fun K2 kh2 => ?_
 refine f_region ?_
 refine f_stepP rfl rfl rfl (o_loadA (vs := [_, _]) Tryz.isAgg24 Tryz.sizeOf24 rfl rfl ⟨(rdA rfl), (rdA rfl), trivial⟩) ?_
 refine f_stepP rfl rfl rfl (o_loadA (vs := [_, _]) Tryz.isAgg28 Tryz.sizeOf28 rfl rfl ⟨(rdA rfl), (rdA rfl), trivial⟩) ?_
 refine f_stepP rfl rfl rfl (o_move rfl) ?_
 refine f_step rfl rfl rfl (o_call Tryz.call46 rfl (fun w_ hp_ => nlooked_spec N A l cap Ab bs cb Ac R cc q w_ (hr.up0 hp_) hl hN hok (hn.up0 hp_)) ?_)
 rintro _ _ ⟨r, x, rfl, rfl, hrx⟩
 dsimp only [List.cons_append, List.nil_append]
 refine f_stepP rfl rfl rfl (o_move rfl) ?_
 refine f_stepP rfl rfl rfl (o_extract rfl rfl) ?_
 refine f_stepP rfl rfl rfl (o_extract rfl rfl) ?_
 refine f_step rfl rfl rfl (o_alloc Tryz.zeroValue71 rfl fun b10 => ?_)
 refine f_step0 rfl rfl (o_storeA Tryz.sizeOf71 rfl rfl rfl rfl (by first | exact Nat.le_of_ble_eq_true rfl | (simp; done) | (simp; omega)) [rowV r, .int .i64 x] rfl ?_)
 refine f_stepP rfl rfl rfl (o_assign rfl) ?_
 refine f_done ?_
 refine f_tn (kh2 _ _ ?_)
 clear kh2
 refine f_seq fun K3 kh3 => ?_
 refine f_seq fun K4 kh4 => ?_
 refine f_region ?_
 refine f_stepP rfl rfl rfl (o_move rfl) ?_
 refine f_stepP rfl rfl rfl (o_neq rfl rfl) ?_
 refine f_done ?_
 refine f_tn (kh4 _ _ ?_)
 clear kh4
 refine f_cond rfl (fun c20 => ?_) (fun c20 => ?_)
 ·
  refine f_seq fun K5 kh5 => ?_
  refine f_region ?_
  refine f_stepP rfl rfl rfl (o_build (cs := [rowV (none, [], 0), .int .i64 0]) st71 rfl rfl) ?_
  refine f_stepP rfl rfl rfl (o_move rfl) ?_
  refine f_step0 rfl rfl (o_storeA Tryz.sizeOf71 rfl rfl rfl rfl (by first | exact Nat.le_of_ble_eq_true rfl | (simp; done) | (simp; omega)) [rowV (none, [], 0), .int .i64 0] rfl ?_)
  refine f_stepP rfl rfl rfl (o_assign rfl) ?_
  refine f_done ?_
  refine f_tn (kh5 _ _ ?_)
  clear kh5
  refine f_ret ?_
  refine f_tr ?_
  have e : clE N l bs (rowsL R) q c = lkE N l bs (rowsL R) q := by unfold clE; rw [if_pos (by simpa using c20)]
  exact f_fin2c (vs := [rowV (none, [], 0), .int .i64 0]) [] Tryz.results48 rfl Tryz.isAgg71 Tryz.sizeOf71 rfl ⟨(rdA rfl), (rdA rfl), trivial⟩ rfl (by repeat (first | exact Sub.nil | refine Sub.pick ?_ | refine Sub.castO rfl ?_ | refine Sub.skip ?_)) ⟨(none, [], 0), 0, by rw [e], rfl, fun h => absurd (e.symm.trans h) (by simpa using c20)⟩
 ·
  have hlz : lkE N l bs (rowsL R) q = 0 := by simpa using c20
  obtain ⟨hx, hrr⟩ := hrx hlz
  have hrm := List.mem_of_getElem? hrr
  have hrr2 := hn.rows r hrm
  obtain ⟨n, k, hNn, hNo, hqk, hkb⟩ := lkE_zero hlz
  have hRr := hNo.right hkb
  have hrow := row_get hrr (by omega)
  rw [show q.toNat - 1 = k by omega] at hrow
  rw [hrow] at hRr
  have hn1 := hNo.n1
  have hmany := hNo.many
  have hrlen := (right_parts hRr).2
  have hrng := right_range hRr (by omega)
  have hmx : maxL r.2.1 ≤ 1000000 ∧ -1000000 ≤ maxL r.2.1 := by
    have := hrng _ (List.getElem_mem (show 0 < r.2.1.length by omega))
    have := maxL_le (L := r.2.1) (b := 2000) (by omega) (fun x hx => by have := hrng x hx; omega)
    omega
  have hce : clE N l bs (rowsL R) q c = if c < 0 ∨ maxL r.2.1 + 1 ≤ c then 120 else 0 := by unfold clE; rw [if_neg (by rw [hlz]; simp), show q.toNat - 1 = k by omega, hrow]
  refine f_skip ?_
  refine f_tn (kh3 _ _ ?_)
  clear kh3
  refine f_seq fun K6 kh6 => ?_
  refine f_seq fun K7 kh7 => ?_
  refine f_region ?_
  refine f_stepP rfl rfl rfl (o_move rfl) ?_
  refine f_stepP rfl rfl rfl (o_lss rfl rfl) ?_
  refine f_stepP rfl rfl rfl (o_move rfl) ?_
  refine f_splitL 25 rfl (fun g25 => ?_) (fun g25 => ?_)
  ·
   refine f_stepN rfl rfl rfl rfl rfl rfl ?_
   refine f_stepN rfl rfl rfl rfl rfl rfl ?_
   refine f_stepN rfl rfl rfl rfl rfl rfl ?_
   refine f_stepN rfl rfl rfl rfl rfl rfl ?_
   refine f_stepN rfl rfl rfl rfl rfl rfl ?_
   refine f_stepP rfl rfl rfl (o_pickT rfl rfl) ?_
   refine f_done ?_
   refine f_tn (kh7 _ _ ?_)
   clear kh7
   refine f_condT rfl ?_
   refine f_seq fun K8 kh8 => ?_
   refine f_region ?_
   refine f_stepP rfl rfl rfl (o_build (cs := [rowV (none, [], 0), .int .i64 0]) st71 rfl rfl) ?_
   refine f_step0 rfl rfl (o_storeA Tryz.sizeOf71 rfl rfl rfl rfl (by first | exact Nat.le_of_ble_eq_true rfl | (simp; done) | (simp; omega)) [rowV (none, [], 0), .int .i64 0] rfl ?_)
   refine f_stepP rfl rfl rfl (o_assign rfl) ?_
   refine f_done ?_
   refine f_tn (kh8 _ _ ?_)
   clear kh8
   refine f_ret ?_
   refine f_tr ?_
   have e := hce.trans (if_pos (by omega))
   exact f_fin2c (vs := [rowV (none, [], 0), .int .i64 0]) [] Tryz.results48 rfl Tryz.isAgg71 Tryz.sizeOf71 rfl ⟨(rdA rfl), (rdA rfl), trivial⟩ rfl (by repeat (first | exact Sub.nil | refine Sub.pick ?_ | refine Sub.castO rfl ?_ | refine Sub.skip ?_)) ⟨(none, [], 0), 0, by rw [e], rfl, fun h => absurd (e.symm.trans h) (by decide)⟩
  ·
   refine f_stepPY rfl rfl rfl rfl rfl (o_move rfl) ?_
   refine f_stepPY rfl rfl rfl rfl rfl (o_field fa71_0 rfl) ?_
   refine f_stepPY rfl rfl rfl rfl rfl (o_load Tryz.isAgg69 rfl (rdA rfl)) ?_
   refine f_stepY rfl rfl rfl rfl rfl (o_call Tryz.call47 rfl (fun w_ hp_ => lmany_spec r.1 r.2.1 r.2.2 w_ (hrr2.1.up0 hp_) (by omega) hrr2.2 hmx) ?_)
   rintro _ _ ⟨rfl, rfl⟩
   dsimp only [List.cons_append, List.nil_append]
   refine f_stepPY rfl rfl rfl rfl rfl (o_geq rfl rfl) ?_
   refine f_stepP rfl rfl rfl (o_pickF rfl rfl) ?_
   refine f_done ?_
   refine f_tn (kh7 _ _ ?_)
   clear kh7
   refine f_cond rfl (fun c31 => ?_) (fun c31 => ?_)
   ·
    refine f_seq fun K9 kh9 => ?_
    refine f_region ?_
    refine f_stepP rfl rfl rfl (o_build (cs := [rowV (none, [], 0), .int .i64 0]) st71 rfl rfl) ?_
    refine f_step0 rfl rfl (o_storeA Tryz.sizeOf71 rfl rfl rfl rfl (by first | exact Nat.le_of_ble_eq_true rfl | (simp; done) | (simp; omega)) [rowV (none, [], 0), .int .i64 0] rfl ?_)
    refine f_stepP rfl rfl rfl (o_assign rfl) ?_
    refine f_done ?_
    refine f_tn (kh9 _ _ ?_)
    clear kh9
    refine f_ret ?_
    refine f_tr ?_
    have e := hce.trans (if_pos (by omega))
    exact f_fin2c (vs := [rowV (none, [], 0), .int .i64 0]) [] Tryz.results48 rfl Tryz.isAgg71 Tryz.sizeOf71 rfl ⟨(rdA rfl), (rdA rfl), trivial⟩ rfl (by repeat (first | exact Sub.nil | refine Sub.pick ?_ | refine Sub.castO rfl ?_ | refine Sub.skip ?_)) ⟨(none, [], 0), 0, by rw [e], rfl, fun h => absurd (e.symm.trans h) (by decide)⟩
   ·
    refine f_skip ?_
    refine f_tn (kh6 _ _ ?_)
    clear kh6
    refine f_seq fun K10 kh10 => ?_
    refine f_region ?_
    refine f_stepP rfl rfl rfl (o_loadA (vs := [rowV r, .int .i64 x]) Tryz.isAgg71 Tryz.sizeOf71 rfl rfl ⟨(rdA rfl), (rdA rfl), trivial⟩) ?_
    refine f_step0 rfl rfl (o_storeA Tryz.sizeOf71 rfl rfl rfl rfl (by first | exact Nat.le_of_ble_eq_true rfl | (simp; done) | (simp; omega)) [rowV r, .int .i64 x] rfl ?_)
    refine f_stepP rfl rfl rfl (o_assign rfl) ?_
    refine f_done ?_
    refine f_tn (kh10 _ _ ?_)
    clear kh10
    refine f_ret ?_
    have e := hce.trans (if_neg (by omega))
    exact f_fin2c (vs := [rowV r, .int .i64 x]) [] Tryz.results48 rfl Tryz.isAgg71 Tryz.sizeOf71 rfl ⟨(rdA rfl), (rdA rfl), trivial⟩ rfl (by repeat (first | exact Sub.nil | refine Sub.pick ?_ | refine Sub.castO rfl ?_ | refine Sub.skip ?_)) ⟨r, x, by rw [e], rfl, fun _ => ⟨hx, hrr⟩⟩

set_option maxRecDepth 100000 in
set_option maxHeartbeats 4000000 in
theorem NMembers_spec (N : Int) (A : Option Addr) (l : List Arc) (cap : Nat) (Ab : Option Addr) (bs : List Int) (cb : Nat) (Ac : Option Addr) (R : List Row) (cc : Nat) (q c : Int) (w : World) (hr : Ro (Fr w []) w A (l.flatMap arcCs)) (hl : l.length ≤ 9223372036854775807) (hN : I64 N) (hok : ∀ x ∈ l, ArcOk x) (hn : NestRo (Fr w []) w Ab bs Ac R) :
    Meets Tryz.prog 38 [.agg #[.int .i64 N, .slice A l.length cap], .agg #[.slice Ab bs.length cb, .slice Ac R.length cc], .int .i64 q, .int .i64 c] w [] (fun u own' => ∃ (M : List Int) (A' : Option Addr) (c' : Nat) (m' : Seg), u = .tuple #[.slice A' M.length c', .int .i64 (clE N l bs (rowsL R) q c)] ∧ own' = [m'] ∧ Own 3 1 (.slice A' M.length c') M.length (ints M) m' ∧ (clE N l bs (rowsL R) q c ≠ 0 → M = []) ∧ (clE N l bs (rowsL R) q c = 0 → M = memTo ((rowsL R).getD (q.toNat - 1) []) c ((rowsL R).getD (q.toNat - 1) []).length)) := by
 refine f_enter Tryz.func38 rfl Tryz.ntmps38 rfl Owns.nil ?_
 refine f_seq fun K1 kh1 => ?_
 refine f_region ?_
 refine f_step rfl rfl rfl (o_box rfl rfl fun b4 => ?_)
 refine f_step rfl rfl rfl (o_box rfl rfl fun b5 => ?_)
 refine f_stepP rfl rfl rfl (o_assign rfl) ?_
 refine f_stepP rfl rfl rfl (o_assign rfl) ?_
 refine f_done ?_
 refine f_tn (kh1 _ _ ?_)
 clear kh1
 refine f_seq fun K2 kh2 => ?_
 refine f_region ?_
 refine f_stepP rfl rfl rfl (o_loadA (vs := [_, _]) Tryz.isAgg24 Tryz.sizeOf24 rfl rfl ⟨(rdA rfl), (rdA rfl), trivial⟩) ?_
 refine f_stepP rfl rfl rfl (o_loadA (vs := [_, _]) Tryz.isAgg28 Tryz.sizeOf28 rfl rfl ⟨(rdA rfl), (rdA rfl), trivial⟩) ?_
 refine f_stepP rfl rfl rfl (o_move rfl) ?_
 refine f_stepP rfl rfl rfl (o_move rfl) ?_
 refine f_step rfl rfl rfl (o_call Tryz.call48 rfl (fun w_ hp_ => cellOf_spec N A l cap Ab bs cb Ac R cc q c w_ (hr.up0 hp_) hl hN hok (hn.up0 hp_)) ?_)
 rintro _ _ ⟨r, x, rfl, rfl, hrx⟩
 dsimp only [List.cons_append, List.nil_append]
 refine f_stepP rfl rfl rfl (o_move rfl) ?_
 refine f_stepP rfl rfl rfl (o_extract rfl rfl) ?_
 refine f_stepP rfl rfl rfl (o_extract rfl rfl) ?_
 refine f_step rfl rfl rfl (o_alloc Tryz.zeroValue71 rfl fun b10 => ?_)
 refine f_step0 rfl rfl (o_storeA Tryz.sizeOf71 rfl rfl rfl rfl (by first | exact Nat.le_of_ble_eq_true rfl | (simp; done) | (simp; omega)) [rowV r, .int .i64 x] rfl ?_)
 refine f_stepP rfl rfl rfl (o_assign rfl) ?_
 refine f_done ?_
 refine f_tn (kh2 _ _ ?_)
 clear kh2
 refine f_seq fun K3 kh3 => ?_
 refine f_seq fun K4 kh4 => ?_
 refine f_region ?_
 refine f_stepP rfl rfl rfl (o_move rfl) ?_
 refine f_stepP rfl rfl rfl (o_neq rfl rfl) ?_
 refine f_done ?_
 refine f_tn (kh4 _ _ ?_)
 clear kh4
 refine f_cond rfl (fun c21 => ?_) (fun c21 => ?_)
 ·
  refine f_seq fun K5 kh5 => ?_
  refine f_region ?_
  refine f_stepP rfl rfl rfl (o_move rfl) ?_
  refine f_stepP rfl rfl rfl (o_assign rfl) ?_
  refine f_stepP rfl rfl rfl (o_assign rfl) ?_
  refine f_done ?_
  refine f_tn (kh5 _ _ ?_)
  clear kh5
  refine f_ret ?_
  refine f_tr ?_
  exact f_fin2 [[]] Tryz.results38 rfl rfl (show Fly.Sub _ [[]] from (by repeat (first | exact Sub.nil | refine Sub.pick ?_ | refine Sub.castO rfl ?_ | refine Sub.skip ?_))) ⟨[], none, 0, [], rfl, rfl, Own.nil _ _, fun _ => rfl, fun h => absurd h (by simpa using c21)⟩
 ·
  have hcz : clE N l bs (rowsL R) q c = 0 := by simpa using c21
  obtain ⟨hx, hrr⟩ := hrx hcz
  have hlz := clE_row hcz
  have hrm := List.mem_of_getElem? hrr
  have hrr2 := hn.rows r hrm
  obtain ⟨n, k, j, hNn, hNo, hqk, hkb, hcj, hjm⟩ := clE_zero hcz
  have hRr := hNo.right hkb
  have hrow := row_get hrr (by omega)
  rw [show q.toNat - 1 = k by omega] at hrow
  rw [hrow] at hRr hjm
  have hn1 := hNo.n1
  have hmany := hNo.many
  have hrlen := (right_parts hRr).2
  have hRl := hNo.len
  rw [rowsL_len] at hRl
  have hmpos := mem_pos hRr (by omega) hjm
  rw [← hcj] at hmpos
  refine f_skip ?_
  refine f_tn (kh3 _ _ ?_)
  clear kh3
  refine f_seq fun K6 kh6 => ?_
  refine f_region ?_
  refine f_stepP rfl rfl rfl (o_field fa71_0 rfl) ?_
  refine f_stepP rfl rfl rfl (o_load Tryz.isAgg69 rfl (rdA rfl)) ?_
  refine f_stepP rfl rfl rfl (o_move rfl) ?_
  refine f_step rfl rfl rfl (o_call Tryz.call49 rfl (fun w_ hp_ => lmem_spec r.1 r.2.1 r.2.2 c w_ (hrr2.1.up0 hp_) (by omega)) ?_)
  rintro _ _ ⟨Am, cm, mm, rfl, rfl, hOm⟩
  have hml := memTo_len r.2.1 c r.2.1.length
  dsimp only [List.cons_append, List.nil_append]
  refine f_stepP rfl rfl rfl (o_assign rfl) ?_
  refine f_stepP rfl rfl rfl (o_assign rfl) ?_
  refine f_done ?_
  refine f_tn (kh6 _ _ ?_)
  clear kh6
  refine f_ret ?_
  exact f_fin2 [mm] Tryz.results38 rfl rfl (by repeat (first | exact Sub.nil | refine Sub.pick ?_ | refine Sub.castO rfl ?_ | refine Sub.skip ?_)) ⟨_, Am, cm, mm, by rw [hcz], rfl, hOm, fun h => absurd hcz h, fun _ => by rw [show q.toNat - 1 = k by omega, hrow]⟩

end Go.Proofs.YtkmkakpadgljeaaGreat

/- package cell: looked, cut, chosen, Inner, Between, Outer. -/
namespace Go.Proofs.YtkmkakpadgljeaaGreat
open Go Go.RowKit Fly
set_option linter.unusedVariables false
set_option linter.unusedSimpArgs false


theorem Ro.held {w w' : World} {A : Option Addr} {cs : List Value} (h : Ro (Fr w []) w A cs) (hs : ∀ k, Fr w [] k → w'.heap[k]? = w.heap[k]?) : Ro (Fr w' []) w' A cs := fun hne => by
  obtain ⟨b, off, rfl, hS, hc⟩ := h hne
  have hs' := hs b hS
  refine ⟨b, off, rfl, ⟨?_, by simp⟩, hc.same hs'⟩
  rcases Nat.lt_or_ge b w'.heap.size with h' | h'
  · exact h'
  · rw [Array.getElem?_eq_none h', Array.getElem?_eq_getElem hS.1] at hs'; cases hs'
/-- An arc inside a cell; one whose ends are of unlike cells; one between children. -/
def inP (L : List Int) (c : Int) (a : Arc) : Bool := decide (L.getD a.src.toNat 0 = c) && decide (L.getD a.dst.toNat 0 = c)
def unP (L : List Int) (a : Arc) : Bool := decide (L.getD a.src.toNat 0 ≠ L.getD a.dst.toNat 0)
def btP (L B : List Int) (c : Int) (a : Arc) : Bool := inP L c a && unP B a
def bwE (N : Int) (l : List Arc) (bs : List Int) (L : List (List Int)) (q c : Int) : Int := if clE N l bs L q c ≠ 0 then clE N l bs L q c else if q = 1 then 111 else 0
theorem idxs_len_leC {α : Type} (p : α → Bool) (l : List α) : (idxs p l).length ≤ l.length := by
  unfold idxs; rw [List.length_map]; exact Nat.le_trans (List.length_filter_le _ _) (by simp)
theorem getD_at {L : List Int} {i : Nat} (h : i < L.length) : L.getD i 0 = L[i] := by simp [List.getD_eq_getElem?_getD, h]
theorem idxs_congrC {α : Type} {p q : α → Bool} {l : List α} (h : ∀ i (hi : i < l.length), p l[i] = q l[i]) : idxs p l = idxs q l := by
  have key : ∀ k, k ≤ l.length → idxs p (l.take k) = idxs q (l.take k) := fun k => by
    induction k with
    | zero => intro _; simp [idxs]
    | succ k ih => intro hk; rw [idxs_succ (by omega), idxs_succ (by omega), ih (by omega), h k (by omega)]
  have := key l.length (Nat.le_refl _)
  rwa [List.take_length] at this

set_option maxRecDepth 100000 in
set_option maxHeartbeats 4000000 in
theorem cut_spec (A : Option Addr) (len cap : Nat) (w : World) (h : len ≤ cap) (hm : cap ≤ 9223372036854775807) (hA : A = none → len = 0) :
    Meets Tryz.prog 24 [.slice A len cap] w [] (fun u m => u = .slice A len len ∧ m = []) := by
 refine f_enter Tryz.func24 rfl Tryz.ntmps24 rfl Owns.nil ?_
 refine f_seq fun K1 kh1 => ?_
 refine f_region ?_
 refine f_stepP rfl rfl rfl (o_assign rfl) ?_
 refine f_done ?_
 refine f_tn (kh1 _ _ ?_)
 clear kh1
 refine f_seq fun K2 kh2 => ?_
 refine f_region ?_
 refine f_stepP rfl rfl rfl (o_move rfl) ?_
 refine f_stepP rfl rfl rfl (o_move rfl) ?_
 refine f_stepP rfl rfl rfl (o_len sl25 rfl) ?_
 refine f_stepP rfl rfl rfl (o_move rfl) ?_
 refine f_stepP rfl rfl rfl (o_len sl25 rfl) ?_
 refine f_stepP rfl rfl rfl (o_slice sl25 rfl rfl rfl rfl (fun _ => rfl) 0 len len (.inl ⟨rfl, rfl⟩) (.inr ⟨_, _, rfl, by omega⟩) (.inr ⟨_, _, rfl, by omega⟩) ⟨by omega, by omega, by omega⟩ (.slice A len len) (by rw [Nat.sub_zero]; congr 1; split; rfl; cases A with | none => rfl | some x => obtain ⟨p, q, r⟩ := x; cases r <;> simp [Addr.add])) ?_
 refine f_stepP rfl rfl rfl (o_assign rfl) ?_
 refine f_done ?_
 refine f_tn (kh2 _ _ ?_)
 clear kh2
 refine f_ret ?_
 exact f_fin1 [] Tryz.results24 rfl Sub.nil ⟨rfl, rfl⟩

set_option maxRecDepth 100000 in
set_option maxHeartbeats 4000000 in
theorem clooked_spec (N : Int) (A : Option Addr) (l : List Arc) (cap : Nat) (Ab : Option Addr) (bs : List Int) (cb : Nat) (Ac : Option Addr) (R : List Row) (cc : Nat) (q c : Int) (w : World) (hr : Ro (Fr w []) w A (l.flatMap arcCs)) (hl : l.length ≤ 9223372036854775807) (hN : I64 N) (hok : ∀ x ∈ l, ArcOk x) (hn : NestRo (Fr w []) w Ab bs Ac R) :
    Meets Tryz.prog 22 [.agg #[.int .i64 N, .slice A l.length cap], .agg #[.slice Ab bs.length cb, .slice Ac R.length cc], .int .i64 q, .int .i64 c] w [] (fun u m => ∃ r : Row, u = .tuple #[rowV r, .int .i64 (clE N l bs (rowsL R) q c)] ∧ m = [] ∧ (clE N l bs (rowsL R) q c ≠ 0 → r = (none, [], 0)) ∧ (clE N l bs (rowsL R) q c = 0 → R[(q - 1).toNat]? = some r)) := by
 refine f_enter Tryz.func22 rfl Tryz.ntmps22 rfl Owns.nil ?_
 refine f_seq fun K1 kh1 => ?_
 refine f_region ?_
 refine f_step rfl rfl rfl (o_box rfl rfl fun b4 => ?_)
 refine f_step rfl rfl rfl (o_box rfl rfl fun b5 => ?_)
 refine f_stepP rfl rfl rfl (o_assign rfl) ?_
 refine f_stepP rfl rfl rfl (o_assign rfl) ?_
 refine f_done ?_
 refine f_tn (kh1 _ _ ?_)
 clear kh1
 refine f_seq fun K2 kh2 => ?_
 refine f_seq fun K3 kh3 => ?_
 refine f_region ?_
 refine f_stepP rfl rfl rfl (o_loadA (vs := [_, _]) Tryz.isAgg24 Tryz.sizeOf24 rfl rfl ⟨(rdA rfl), (rdA rfl), trivial⟩) ?_
 refine f_stepP rfl rfl rfl (o_loadA (vs := [_, _]) Tryz.isAgg28 Tryz.sizeOf28 rfl rfl ⟨(rdA rfl), (rdA rfl), trivial⟩) ?_
 refine f_stepP rfl rfl rfl (o_move rfl) ?_
 refine f_stepP rfl rfl rfl (o_move rfl) ?_
 refine f_step rfl rfl rfl (o_call Tryz.call38 rfl (fun w_ hp_ => NMembers_spec N A l cap Ab bs cb Ac R cc q c w_ (hr.up0 hp_) hl hN hok (hn.up0 hp_)) ?_)
 rintro _ _ ⟨M_, AM, cM, mM, rfl, rfl, hoM, hM1, hM0⟩
 dsimp only [List.cons_append, List.nil_append]
 refine f_stepP rfl rfl rfl (o_move rfl) ?_
 refine f_stepP rfl rfl rfl (o_extract rfl rfl) ?_
 refine f_stepP rfl rfl rfl (o_extract rfl rfl) ?_
 refine f_stepP rfl rfl rfl (o_assign rfl) ?_
 refine f_stepP rfl rfl rfl (o_assign rfl) ?_
 refine f_done ?_
 refine f_tn (kh3 _ _ ?_)
 clear kh3
 refine f_seq fun K4 kh4 => ?_
 refine f_region ?_
 refine f_stepP rfl rfl rfl (o_move rfl) ?_
 refine f_stepP rfl rfl rfl (o_neq rfl rfl) ?_
 refine f_done ?_
 refine f_tn (kh4 _ _ ?_)
 clear kh4
 refine f_cond rfl (fun c21 => ?_) (fun c21 => ?_)
 ·
  refine f_seq fun K5 kh5 => ?_
  refine f_region ?_
  refine f_stepP rfl rfl rfl (o_move rfl) ?_
  refine f_stepP rfl rfl rfl (o_assign rfl) ?_
  refine f_stepP rfl rfl rfl (o_assign rfl) ?_
  refine f_done ?_
  refine f_tn (kh5 _ _ ?_)
  clear kh5
  refine f_ret ?_
  refine f_tr ?_
  exact f_fin2 [] Tryz.results22 rfl rfl Sub.nil ⟨(none, [], 0), rfl, rfl, fun _ => rfl, fun h => absurd h (by simpa using c21)⟩
 ·
  have hcz : clE N l bs (rowsL R) q c = 0 := by simpa using c21
  obtain ⟨n, k, j, hNn, hNo, hqk, hkb, hcj, hjm⟩ := clE_zero hcz
  have hRl := hNo.len
  rw [rowsL_len] at hRl
  have hmany := hNo.many
  have hkR : k < R.length := by omega
  obtain ⟨b0, o0, hA0, hS0, hc0⟩ := hn.c (map_ne hkR)
  refine f_skip ?_
  refine f_tn (kh2 _ _ ?_)
  clear kh2
  refine f_seq fun K6 kh6 => ?_
  refine f_region ?_
  refine f_stepP rfl rfl rfl (o_field fa28_1 rfl) ?_
  refine f_stepP rfl rfl rfl (o_load Tryz.isAgg26 rfl (v := .slice (some ⟨b0, o0, none⟩) R.length cc) (rdA (by rw [← hA0]; rfl))) ?_
  refine f_stepP rfl rfl rfl (o_move rfl) ?_
  refine f_stepP rfl rfl rfl (o_sub rfl rfl _ (Eq.trans (wrap_i64 (by omega)) (show _ = (k : Int) by omega))) ?_
  refine f_stepP rfl rfl rfl (o_idx sl26 rfl rfl (o0 + k) ⟨by omega, by omega, by first | omega | (simp; done) | (simp; omega)⟩) ?_
  refine f_stepP rfl rfl rfl (o_load Tryz.isAgg25 rfl (roOne (enc := rowV) hS0 hc0 hkR)) ?_
  refine f_stepP rfl rfl rfl (o_assign rfl) ?_
  refine f_stepP rfl rfl rfl (o_assign rfl) ?_
  refine f_done ?_
  refine f_tn (kh6 _ _ ?_)
  clear kh6
  refine f_ret ?_
  exact f_fin2 [] Tryz.results22 rfl rfl Sub.nil ⟨_, by rw [hcz], rfl, fun h => absurd hcz h, fun _ => by rw [show (q - 1).toNat = k by omega]; exact List.getElem?_eq_getElem hkR⟩

set_option maxRecDepth 100000 in
set_option maxHeartbeats 4000000 in
theorem chosen_spec (N : Int) (A : Option Addr) (l : List Arc) (cap : Nat) (p : Arc → Bool) (fi : FuncId) (capi : List Value) (w : World) (hr : Ro (Fr w []) w A (l.flatMap arcCs)) (hl : l.length ≤ 8192) (hci : ∀ args w, (callFunc fi args).run Tryz.prog w = .ok (.enter fi args) w)
    (his : ∀ w', (∀ k, Fr w [] k → w'.heap[k]? = w.heap[k]?) → ∀ i (hi : i < l.length), Meets Tryz.prog fi ([.agg (arcCs l[i]).toArray] ++ capi) w' [] (fun u m => u = .bool (p l[i]) ∧ m = [])) :
    Meets Tryz.prog 30 [.agg #[.int .i64 N, .slice A l.length cap], .func (.func fi) #[] capi.toArray] w [] (fun u own' => ∃ A' c' m', u = .slice A' (idxs p l).length (idxs p l).length ∧ own' = [m'] ∧ Own 3 1 (.slice A' (idxs p l).length c') (idxs p l).length (ints (idxs p l)) m') := by
 refine f_enter Tryz.func30 rfl Tryz.ntmps30 rfl Owns.nil ?_
 refine f_seq fun K1 kh1 => ?_
 refine f_region ?_
 refine f_step rfl rfl rfl (o_box rfl rfl fun b2 => ?_)
 refine f_stepP rfl rfl rfl (o_assign rfl) ?_
 refine f_done ?_
 refine f_tn (kh1 _ _ ?_)
 clear kh1
 refine f_seq fun K2 kh2 => ?_
 refine f_region ?_
 refine f_stepP rfl rfl rfl (o_assign rfl) ?_
 refine f_done ?_
 refine f_tn (kh2 _ _ ?_)
 clear kh2
 refine f_seq fun K3 kh3 => ?_
 refine f_seq fun K4 kh4 => ?_
 refine f_region ?_
 refine f_stepP rfl rfl rfl (o_field fa24_1 rfl) ?_
 refine f_stepP rfl rfl rfl (o_load Tryz.isAgg22 rfl (rdA rfl)) ?_
 refine f_stepP rfl rfl rfl (o_len sl22 rfl) ?_
 refine f_stepP rfl rfl rfl (o_move rfl) ?_
 refine f_done ?_
 refine f_tn (kh4 _ _ ?_)
 clear kh4
 refine f_block ?_
 refine f_loop (α := Nat × Value × Seg) [1, 9, 10] (fun ⟨k, ov, om⟩ => [(11, .int .i64 (k : Int)), (5, ov)]) (fun ⟨k, ov, om⟩ => [om]) (fun ⟨k, ov, om⟩ => k ≤ l.length ∧ Own 3 1 ov (idxs p (l.take k)).length (ints (idxs p (l.take k))) om) (fun ⟨k, ov, om⟩ => l.length - k) (0, .slice none 0 0, []) ?_ ?_ ?_ ?_
 · exact (by repeat (first | exact trivial | refine ⟨rfl, ?_⟩))
 · repeat (first | exact Sub.nil | refine Sub.pick ?_ | refine Sub.castO rfl ?_ | refine Sub.skip ?_)
 · exact ⟨Nat.zero_le _, Own.nil _ _⟩
 ·
  rintro ⟨k, ov, om⟩ ⟨hkl, hO⟩
  have hil := idxs_len_leC p (l.take k)
  rw [List.length_take] at hil
  obtain ⟨Ao, co, rfl, hco⟩ := hO.val
  refine f_seq fun K5 kh5 => ?_
  refine f_region ?_
  refine f_stepP rfl rfl rfl (o_lss rfl rfl) ?_
  refine f_done ?_
  refine f_tn (kh5 _ _ ?_)
  clear kh5
  refine f_seq fun K6 kh6 => ?_
  refine f_cond rfl (fun c12 => ?_) (fun c12 => ?_)
  ·
   have hk : k < l.length := by omega
   obtain ⟨bl, off, rfl, hS, hc⟩ := hr (flat_ne arcCs arcCs_len (by omega) hk)
   refine f_skip ?_
   refine f_tn (kh6 _ _ ?_)
   clear kh6
   refine f_seq fun K7 kh7 => ?_
   refine f_block ?_
   refine f_seq fun K8 kh8 => ?_
   refine f_region ?_
   refine f_stepP rfl rfl rfl (o_move rfl) ?_
   refine f_stepP rfl rfl rfl (o_idx sl22 rfl rfl (off + k * 3) ⟨by omega, by omega, by first | omega | (simp; done) | (simp; omega)⟩) ?_
   refine f_stepP rfl rfl rfl (o_loadA (vs := arcCs l[k]) Tryz.isAgg48 Tryz.sizeOf48 rfl rfl (roElem arcCs_len hS hc hk)) ?_
   refine f_step rfl rfl rfl (o_alloc Tryz.zeroValue48 rfl fun b7 => ?_)
   refine f_stepP rfl rfl rfl (o_assign rfl) ?_
   refine f_step0 rfl rfl (o_storeA Tryz.sizeOf48 rfl rfl rfl rfl (by first | exact Nat.le_of_ble_eq_true rfl | (simp; done) | (simp; omega)) (arcCs l[k]) rfl ?_)
   refine f_done ?_
   refine f_tn (kh8 _ _ ?_)
   clear kh8
   refine f_seq fun K9 kh9 => ?_
   refine f_region ?_
   refine f_stepP rfl rfl rfl (o_move rfl) ?_
   refine f_stepP rfl rfl rfl (o_loadA (vs := [_, _, _]) Tryz.isAgg48 Tryz.sizeOf48 rfl rfl ⟨(rdA rfl), (rdA rfl), (rdA rfl), trivial⟩) ?_
   refine f_step rfl rfl rfl (o_callV [] _ hci rfl rfl Sub.refl (fun w_ hp_ => (by have h := his w_ (fun k hk => hp_.same k hk) k hk; exact h)) ?_)
   rintro _ _ ⟨rfl, rfl⟩
   dsimp only [List.cons_append, List.nil_append]
   refine f_done ?_
   refine f_tn (kh9 _ _ ?_)
   clear kh9
   refine f_condB rfl (fun c18 => ?_) (fun c18 => ?_)
   ·
    refine f_region ?_
    refine f_stepP rfl rfl rfl (o_move rfl) ?_
    refine f_stepP rfl rfl rfl (o_move rfl) ?_
    refine f_step rfl rfl rfl (o_slice1 el25 (by omega) rfl rfl rfl fun b21 => ?_)
    refine f_step rfl rfl rfl (o_append el25 rfl rfl hO (ys := [.int .i64 (k : Int)]) ⟨(rdA rfl), trivial⟩ rfl rfl (by omega) (by omega) fun v22 m22 o22 => ?_)
    refine f_stepP rfl rfl rfl (o_assign rfl) ?_
    refine f_done ?_
    refine f_bn ?_
    refine f_tn (kh7 _ _ ?_)
    clear kh7
    refine f_region ?_
    refine f_stepP rfl rfl rfl (o_add rfl rfl _ (wrap_i64 (by omega))) ?_
    refine f_stepP rfl rfl rfl (o_move rfl) ?_
    refine f_done ?_
    refine f_tn (f_again (k + 1, v22, m22) (by first | omega | (dsimp only; omega) | (simp; omega)) ⟨by omega, by rw [idxs_yes hk c18, List.length_append, ints_append]; exact o22⟩ ?_ ?_ ?_)
    · exact (by repeat (first | exact trivial | refine ⟨rfl, ?_⟩))
    · exact (by repeat (first | exact trivial | refine ⟨rfl, ?_⟩))
    · repeat (first | exact Sub.nil | refine Sub.pick ?_ | refine Sub.castO rfl ?_ | refine Sub.skip ?_)
   ·
    refine f_skip ?_
    refine f_bn ?_
    refine f_tn (kh7 _ _ ?_)
    clear kh7
    refine f_region ?_
    refine f_stepP rfl rfl rfl (o_add rfl rfl _ (wrap_i64 (by omega))) ?_
    refine f_stepP rfl rfl rfl (o_move rfl) ?_
    refine f_done ?_
    refine f_tn (f_again (k + 1, .slice Ao (idxs p (l.take k)).length co, om) (by first | omega | (dsimp only; omega) | (simp; omega)) ⟨by omega, by rw [idxs_no hk (by simpa using c18)]; exact hO⟩ ?_ ?_ ?_)
    · exact (by repeat (first | exact trivial | refine ⟨rfl, ?_⟩))
    · exact (by repeat (first | exact trivial | refine ⟨rfl, ?_⟩))
    · repeat (first | exact Sub.nil | refine Sub.pick ?_ | refine Sub.castO rfl ?_ | refine Sub.skip ?_)
  ·
   obtain rfl : k = l.length := by omega
   rw [List.take_length] at hO hco hil
   refine f_reC 5 rfl (v := .slice Ao (idxs p l).length co) (by rw [List.take_length]) ?_
   refine f_exit ?_
   refine f_te ?_
   clear kh6
   refine f_te ?_
   refine f_be ?_
   refine f_tn (kh3 _ _ ?_)
   clear kh3
   refine f_seq fun K10 kh10 => ?_
   refine f_region ?_
   refine f_stepP rfl rfl rfl (o_move rfl) ?_
   refine f_step rfl rfl rfl (o_call Tryz.call24 rfl (fun w_ hp_ => cut_spec Ao (idxs p l).length co w_ hco.1 hco.2 (own_none hO)) ?_)
   rintro _ _ ⟨rfl, rfl⟩
   dsimp only [List.cons_append, List.nil_append]
   refine f_stepP rfl rfl rfl (o_assign rfl) ?_
   refine f_done ?_
   refine f_tn (kh10 _ _ ?_)
   clear kh10
   refine f_ret ?_
   exact f_fin1 [om] Tryz.results30 rfl (by repeat (first | exact Sub.nil | refine Sub.pick ?_ | refine Sub.castO rfl ?_ | refine Sub.skip ?_)) ⟨Ao, co, om, rfl, rfl, hO⟩

set_option maxRecDepth 100000 in
set_option maxHeartbeats 4000000 in
theorem Inner1_spec (a : Arc) (b1 b2 : Nat) (B : Option Addr) (L : List Int) (cb : Nat) (c : Int) (w : World) (h1 : Ro (Fr w []) w (some ⟨b1, 0, none⟩) [.slice B L.length cb]) (h2 : Ro (Fr w []) w (some ⟨b2, 0, none⟩) [.int .i64 c]) (hL : Ro (Fr w []) w B (ints L)) (hs : 0 ≤ a.src ∧ a.src < (L.length : Int)) (hd : 0 ≤ a.dst ∧ a.dst < (L.length : Int)) :
    Meets Tryz.prog 31 ([.agg (arcCs a).toArray] ++ [.pointer (some ⟨b1, 0, none⟩), .pointer (some ⟨b2, 0, none⟩)]) w [] (fun u m => u = .bool (inP L c a) ∧ m = []) := by
 have hsN : a.src.toNat < L.length := by omega
 have hdN : a.dst.toNat < L.length := by omega
 obtain ⟨b1', o1', e1', hS1, hc1⟩ := h1 (by simp)
 obtain ⟨rfl, rfl⟩ : b1 = b1' ∧ 0 = o1' := by cases e1'; exact ⟨rfl, rfl⟩
 obtain ⟨b2', o2', e2', hS2, hc2⟩ := h2 (by simp)
 obtain ⟨rfl, rfl⟩ : b2 = b2' ∧ 0 = o2' := by cases e2'; exact ⟨rfl, rfl⟩
 obtain ⟨br, or, rfl, hSr, hcr⟩ := hL (fun e => by have := ints_length L; rw [e] at this; simp at this; omega)
 refine f_enter Tryz.func31 rfl Tryz.ntmps31 rfl Owns.nil ?_
 refine f_seq fun K1 kh1 => ?_
 refine f_region ?_
 refine f_step rfl rfl rfl (o_box rfl rfl fun b3 => ?_)
 refine f_stepP rfl rfl rfl (o_assign rfl) ?_
 refine f_done ?_
 refine f_tn (kh1 _ _ ?_)
 clear kh1
 refine f_seq fun K2 kh2 => ?_
 refine f_regionT 16 rfl (by decide +kernel) ?_
 refine f_stillP rfl rfl rfl (o_load Tryz.isAgg25 rfl (rdS hS1 (hc1 0 _ rfl))) ?_
 refine f_stillP rfl rfl rfl (o_field fa48_0 rfl) ?_
 refine f_stillP rfl rfl rfl (o_load Tryz.isAgg3 rfl (rdA rfl)) ?_
 refine f_stillP rfl rfl rfl (o_idx sl25 rfl rfl (or + a.src.toNat) ⟨by omega, by omega, by first | omega | (simp; done) | (simp; omega)⟩) ?_
 refine f_stillP rfl rfl rfl (o_load Tryz.isAgg3 rfl (roOne (enc := (.int .i64 ·)) hSr hcr hsN)) ?_
 refine f_stillP rfl rfl rfl (o_load Tryz.isAgg3 rfl (rdS hS2 (hc2 0 _ rfl))) ?_
 refine f_stillP rfl rfl rfl (o_eql rfl rfl) ?_
 refine f_stillP rfl rfl rfl (o_move rfl) ?_
 refine f_splitS 12 rfl (fun g12 => ?_) (fun g12 => ?_)
 ·
  refine f_stillPY rfl rfl rfl rfl rfl (o_load Tryz.isAgg25 rfl (rdS hS1 (hc1 0 _ rfl))) ?_
  refine f_stillPY rfl rfl rfl rfl rfl (o_field fa48_1 rfl) ?_
  refine f_stillPY rfl rfl rfl rfl rfl (o_load Tryz.isAgg3 rfl (rdA rfl)) ?_
  refine f_stillPY rfl rfl rfl rfl rfl (o_idx sl25 rfl rfl (or + a.dst.toNat) ⟨by omega, by omega, by first | omega | (simp; done) | (simp; omega)⟩) ?_
  refine f_stillPY rfl rfl rfl rfl rfl (o_load Tryz.isAgg3 rfl (roOne (enc := (.int .i64 ·)) hSr hcr hdN)) ?_
  refine f_stillPY rfl rfl rfl rfl rfl (o_load Tryz.isAgg3 rfl (rdS hS2 (hc2 0 _ rfl))) ?_
  refine f_stillPY rfl rfl rfl rfl rfl (o_eql rfl rfl) ?_
  refine f_stillP rfl rfl rfl (o_pickT rfl rfl) ?_
  refine f_stillD (f_tail ?_)
  refine f_stepP rfl rfl rfl (o_assign rfl) ?_
  refine f_done ?_
  refine f_tn (kh2 _ _ ?_)
  clear kh2
  refine f_ret ?_
  exact f_fin1 [] Tryz.results31 rfl Sub.nil ⟨by unfold inP; rw [getD_at hsN, getD_at hdN, decide_eq_true g12]; rfl, rfl⟩
 ·
  refine f_stillN rfl rfl rfl rfl rfl rfl ?_
  refine f_stillN rfl rfl rfl rfl rfl rfl ?_
  refine f_stillN rfl rfl rfl rfl rfl rfl ?_
  refine f_stillN rfl rfl rfl rfl rfl rfl ?_
  refine f_stillN rfl rfl rfl rfl rfl rfl ?_
  refine f_stillN rfl rfl rfl rfl rfl rfl ?_
  refine f_stillN rfl rfl rfl rfl rfl rfl ?_
  refine f_stillP rfl rfl rfl (o_pickF rfl rfl) ?_
  refine f_stillD (f_tail ?_)
  refine f_stepP rfl rfl rfl (o_assign rfl) ?_
  refine f_done ?_
  refine f_tn (kh2 _ _ ?_)
  clear kh2
  refine f_ret ?_
  exact f_fin1 [] Tryz.results31 rfl Sub.nil ⟨by unfold inP; rw [getD_at hsN, getD_at hdN, decide_eq_false g12]; rfl, rfl⟩

set_option maxRecDepth 100000 in
set_option maxHeartbeats 4000000 in
theorem CInner_spec (N : Int) (A : Option Addr) (l : List Arc) (cap : Nat) (Ab : Option Addr) (bs : List Int) (cb : Nat) (Ac : Option Addr) (R : List Row) (cc : Nat) (q c : Int) (w : World) (hr : Ro (Fr w []) w A (l.flatMap arcCs)) (hl : l.length ≤ 9223372036854775807) (hN : I64 N) (hok : ∀ x ∈ l, ArcOk x) (hn : NestRo (Fr w []) w Ab bs Ac R) :
    Meets Tryz.prog 13 [.agg #[.int .i64 N, .slice A l.length cap], .agg #[.slice Ab bs.length cb, .slice Ac R.length cc], .int .i64 q, .int .i64 c] w [] (fun u own' => ∃ (M : List Int) (A' : Option Addr) (c2 : Nat) (m' : Seg), u = .tuple #[.slice A' M.length M.length, .int .i64 (clE N l bs (rowsL R) q c)] ∧ own' = [m'] ∧ Own 3 1 (.slice A' M.length c2) M.length (ints M) m' ∧ (clE N l bs (rowsL R) q c ≠ 0 → M = []) ∧ (clE N l bs (rowsL R) q c = 0 → M = idxs (inP ((rowsL R).getD (q.toNat - 1) []) c) l)) := by
 refine f_enter Tryz.func13 rfl Tryz.ntmps13 rfl Owns.nil ?_
 refine f_seq fun K1 kh1 => ?_
 refine f_region ?_
 refine f_step rfl rfl rfl (o_box rfl rfl fun b4 => ?_)
 refine f_step rfl rfl rfl (o_box rfl rfl fun b5 => ?_)
 refine f_step rfl rfl rfl (o_box rfl rfl fun b7 => ?_)
 refine f_stepP rfl rfl rfl (o_assign rfl) ?_
 refine f_stepP rfl rfl rfl (o_assign rfl) ?_
 refine f_done ?_
 refine f_tn (kh1 _ _ ?_)
 clear kh1
 refine f_seq fun K2 kh2 => ?_
 refine f_region ?_
 refine f_stepP rfl rfl rfl (o_loadA (vs := [_, _]) Tryz.isAgg24 Tryz.sizeOf24 rfl rfl ⟨(rdA rfl), (rdA rfl), trivial⟩) ?_
 refine f_stepP rfl rfl rfl (o_loadA (vs := [_, _]) Tryz.isAgg28 Tryz.sizeOf28 rfl rfl ⟨(rdA rfl), (rdA rfl), trivial⟩) ?_
 refine f_stepP rfl rfl rfl (o_move rfl) ?_
 refine f_stepP rfl rfl rfl (o_load Tryz.isAgg3 rfl (rdA rfl)) ?_
 refine f_step rfl rfl rfl (o_call Tryz.call22 rfl (fun w_ hp_ => clooked_spec N A l cap Ab bs cb Ac R cc q c w_ (hr.up0 hp_) hl hN hok (hn.up0 hp_)) ?_)
 rintro _ _ ⟨r, rfl, rfl, hr1, hr0⟩
 dsimp only [List.cons_append, List.nil_append]
 refine f_stepP rfl rfl rfl (o_move rfl) ?_
 refine f_stepP rfl rfl rfl (o_extract rfl rfl) ?_
 refine f_stepP rfl rfl rfl (o_extract rfl rfl) ?_
 refine f_step rfl rfl rfl (o_alloc Tryz.zeroValue25 rfl fun b10 => ?_)
 refine f_step0 rfl rfl (o_store Tryz.sizeOf25 rfl rfl rfl rfl (by first | exact Nat.le_of_ble_eq_true rfl | (simp; done) | (simp; omega)) [rowV r] rfl ?_)
 refine f_stepP rfl rfl rfl (o_assign rfl) ?_
 refine f_done ?_
 refine f_tn (kh2 _ _ ?_)
 clear kh2
 refine f_seq fun K3 kh3 => ?_
 refine f_seq fun K4 kh4 => ?_
 refine f_region ?_
 refine f_stepP rfl rfl rfl (o_move rfl) ?_
 refine f_stepP rfl rfl rfl (o_neq rfl rfl) ?_
 refine f_done ?_
 refine f_tn (kh4 _ _ ?_)
 clear kh4
 refine f_cond rfl (fun c21 => ?_) (fun c21 => ?_)
 ·
  refine f_seq fun K5 kh5 => ?_
  refine f_region ?_
  refine f_stepP rfl rfl rfl (o_move rfl) ?_
  refine f_stepP rfl rfl rfl (o_assign rfl) ?_
  refine f_stepP rfl rfl rfl (o_assign rfl) ?_
  refine f_done ?_
  refine f_tn (kh5 _ _ ?_)
  clear kh5
  refine f_ret ?_
  refine f_tr ?_
  have e : clE N l bs (rowsL R) q c = clE N l bs (rowsL R) q c := rfl
  exact f_fin2 [[]] Tryz.results13 rfl rfl (show Fly.Sub _ [[]] from (by repeat (first | exact Sub.nil | refine Sub.pick ?_ | refine Sub.castO rfl ?_ | refine Sub.skip ?_))) ⟨[], none, 0, [], by rw [e]; rfl, rfl, Own.nil _ _, fun _ => rfl, fun h => absurd (e.symm.trans h) (by simpa using c21)⟩
 ·
  have hcz : clE N l bs (rowsL R) q c = 0 := by simpa using c21
  obtain ⟨n, k, j, hNn, hNo, hqk, hkb, hcj, hjm⟩ := clE_zero hcz
  have hRl := hNo.len
  rw [rowsL_len] at hRl
  have hmany := hNo.many
  obtain ⟨hn1, hn2, hlen, hgd⟩ := gcheck_zero hNo.g
  have hrr := hr0 hcz
  have hrow := row_get hrr (by omega)
  rw [show q.toNat - 1 = k by omega] at hrow
  have hkl := hNo.rowlen (k := k) (by omega)
  rw [hrow] at hkl
  have hrm := hn.rows r (List.mem_of_getElem? hrr)
  refine f_skip ?_
  refine f_tn (kh3 _ _ ?_)
  clear kh3
  refine f_seq fun K6 kh6 => ?_
  refine f_region ?_
  refine f_stepP rfl rfl rfl (o_loadA (vs := [_, _]) Tryz.isAgg24 Tryz.sizeOf24 rfl rfl ⟨(rdA rfl), (rdA rfl), trivial⟩) ?_
  refine f_stepP rfl rfl rfl (o_func rfl rfl) ?_
  refine f_step rfl rfl rfl (o_call Tryz.call30 rfl (fun w_ hp_ => chosen_spec N A l cap (inP r.2.1 c) 31 [.pointer (some ⟨b10, 0, none⟩), .pointer (some ⟨b7, 0, none⟩)] w_ (hr.up0 hp_) hlen Tryz.call31 (fun w' hs i hi => Inner1_spec l[i] b10 b7 r.1 r.2.1 r.2.2 c w' (heldRo hp_ hs) (heldRo hp_ hs) (Ro.held (hrm.1.up0 hp_) hs) (by have := hgd i hi; omega) (by have := hgd i hi; omega))) ?_)
  rintro _ _ ⟨Ao, co, mo, rfl, rfl, hO⟩
  dsimp only [List.cons_append, List.nil_append]
  refine f_stepP rfl rfl rfl (o_assign rfl) ?_
  refine f_stepP rfl rfl rfl (o_assign rfl) ?_
  refine f_done ?_
  refine f_tn (kh6 _ _ ?_)
  clear kh6
  refine f_ret ?_
  have e := hcz
  exact f_fin2 [mo] Tryz.results13 rfl rfl (by repeat (first | exact Sub.nil | refine Sub.pick ?_ | refine Sub.castO rfl ?_ | refine Sub.skip ?_)) ⟨_, Ao, co, mo, by rw [e], rfl, hO, fun h => absurd e h, fun _ => by rw [show q.toNat - 1 = k by omega, hrow]⟩

set_option maxRecDepth 100000 in
set_option maxHeartbeats 4000000 in
theorem Outer1_spec (a : Arc) (b1 : Nat) (B : Option Addr) (L : List Int) (cb : Nat) (w : World) (h1 : Ro (Fr w []) w (some ⟨b1, 0, none⟩) [.slice B L.length cb]) (hL : Ro (Fr w []) w B (ints L)) (hs : 0 ≤ a.src ∧ a.src < (L.length : Int)) (hd : 0 ≤ a.dst ∧ a.dst < (L.length : Int)) :
    Meets Tryz.prog 37 ([.agg (arcCs a).toArray] ++ [.pointer (some ⟨b1, 0, none⟩)]) w [] (fun u m => u = .bool (unP L a) ∧ m = []) := by
 have hsN : a.src.toNat < L.length := by omega
 have hdN : a.dst.toNat < L.length := by omega
 obtain ⟨b1', o1', e1', hS1, hc1⟩ := h1 (by simp)
 obtain ⟨rfl, rfl⟩ : b1 = b1' ∧ 0 = o1' := by cases e1'; exact ⟨rfl, rfl⟩
 obtain ⟨br, or, rfl, hSr, hcr⟩ := hL (fun e => by have := ints_length L; rw [e] at this; simp at this; omega)
 refine f_enter Tryz.func37 rfl Tryz.ntmps37 rfl Owns.nil ?_
 refine f_seq fun K1 kh1 => ?_
 refine f_region ?_
 refine f_step rfl rfl rfl (o_box rfl rfl fun b2 => ?_)
 refine f_stepP rfl rfl rfl (o_assign rfl) ?_
 refine f_done ?_
 refine f_tn (kh1 _ _ ?_)
 clear kh1
 refine f_seq fun K2 kh2 => ?_
 refine f_regionT 11 rfl (by decide +kernel) ?_
 refine f_stillP rfl rfl rfl (o_load Tryz.isAgg25 rfl (rdS hS1 (hc1 0 _ rfl))) ?_
 refine f_stillP rfl rfl rfl (o_field fa48_0 rfl) ?_
 refine f_stillP rfl rfl rfl (o_load Tryz.isAgg3 rfl (rdA rfl)) ?_
 refine f_stillP rfl rfl rfl (o_idx sl25 rfl rfl (or + a.src.toNat) ⟨by omega, by omega, by first | omega | (simp; done) | (simp; omega)⟩) ?_
 refine f_stillP rfl rfl rfl (o_load Tryz.isAgg3 rfl (roOne (enc := (.int .i64 ·)) hSr hcr hsN)) ?_
 refine f_stillP rfl rfl rfl (o_load Tryz.isAgg25 rfl (rdS hS1 (hc1 0 _ rfl))) ?_
 refine f_stillP rfl rfl rfl (o_field fa48_1 rfl) ?_
 refine f_stillP rfl rfl rfl (o_load Tryz.isAgg3 rfl (rdA rfl)) ?_
 refine f_stillP rfl rfl rfl (o_idx sl25 rfl rfl (or + a.dst.toNat) ⟨by omega, by omega, by first | omega | (simp; done) | (simp; omega)⟩) ?_
 refine f_stillP rfl rfl rfl (o_load Tryz.isAgg3 rfl (roOne (enc := (.int .i64 ·)) hSr hcr hdN)) ?_
 refine f_stillP rfl rfl rfl (o_neq rfl rfl) ?_
 refine f_stillD (f_tail ?_)
 refine f_stepP rfl rfl rfl (o_assign rfl) ?_
 refine f_done ?_
 refine f_tn (kh2 _ _ ?_)
 clear kh2
 refine f_ret ?_
 exact f_fin1 [] Tryz.results37 rfl Sub.nil ⟨by unfold unP; rw [getD_at hsN, getD_at hdN], rfl⟩

set_option maxRecDepth 100000 in
set_option maxHeartbeats 4000000 in
theorem Between1_spec (a : Arc) (b1 b2 b3 : Nat) (B : Option Addr) (L : List Int) (cb : Nat) (B2 : Option Addr) (L2 : List Int) (cb2 : Nat) (c : Int) (w : World) (h1 : Ro (Fr w []) w (some ⟨b1, 0, none⟩) [.slice B L.length cb]) (h2 : Ro (Fr w []) w (some ⟨b2, 0, none⟩) [.int .i64 c]) (h3 : Ro (Fr w []) w (some ⟨b3, 0, none⟩) [.slice B2 L2.length cb2]) (hL : Ro (Fr w []) w B (ints L)) (hL2 : Ro (Fr w []) w B2 (ints L2)) (hLL : L2.length = L.length) (hs : 0 ≤ a.src ∧ a.src < (L.length : Int)) (hd : 0 ≤ a.dst ∧ a.dst < (L.length : Int)) :
    Meets Tryz.prog 33 ([.agg (arcCs a).toArray] ++ [.pointer (some ⟨b1, 0, none⟩), .pointer (some ⟨b2, 0, none⟩), .pointer (some ⟨b3, 0, none⟩)]) w [] (fun u m => u = .bool (btP L L2 c a) ∧ m = []) := by
 have hsN : a.src.toNat < L.length := by omega
 have hdN : a.dst.toNat < L.length := by omega
 have hsN2 : a.src.toNat < L2.length := by omega
 have hdN2 : a.dst.toNat < L2.length := by omega
 obtain ⟨b1', o1', e1', hS1, hc1⟩ := h1 (by simp)
 obtain ⟨rfl, rfl⟩ : b1 = b1' ∧ 0 = o1' := by cases e1'; exact ⟨rfl, rfl⟩
 obtain ⟨b2', o2', e2', hS2, hc2⟩ := h2 (by simp)
 obtain ⟨rfl, rfl⟩ : b2 = b2' ∧ 0 = o2' := by cases e2'; exact ⟨rfl, rfl⟩
 obtain ⟨b3', o3', e3', hS3, hc3⟩ := h3 (by simp)
 obtain ⟨rfl, rfl⟩ : b3 = b3' ∧ 0 = o3' := by cases e3'; exact ⟨rfl, rfl⟩
 obtain ⟨br, or, rfl, hSr, hcr⟩ := hL (fun e => by have := ints_length L; rw [e] at this; simp at this; omega)
 obtain ⟨br2, or2, rfl, hSr2, hcr2⟩ := hL2 (fun e => by have := ints_length L2; rw [e] at this; simp at this; omega)
 refine f_enter Tryz.func33 rfl Tryz.ntmps33 rfl Owns.nil ?_
 refine f_seq fun K1 kh1 => ?_
 refine f_region ?_
 refine f_step rfl rfl rfl (o_box rfl rfl fun b4 => ?_)
 refine f_stepP rfl rfl rfl (o_assign rfl) ?_
 refine f_done ?_
 refine f_tn (kh1 _ _ ?_)
 clear kh1
 refine f_seq fun K2 kh2 => ?_
 refine f_regionT 29 rfl (by decide +kernel) ?_
 refine f_stillP rfl rfl rfl (o_load Tryz.isAgg25 rfl (rdS hS1 (hc1 0 _ rfl))) ?_
 refine f_stillP rfl rfl rfl (o_field fa48_0 rfl) ?_
 refine f_stillP rfl rfl rfl (o_load Tryz.isAgg3 rfl (rdA rfl)) ?_
 refine f_stillP rfl rfl rfl (o_idx sl25 rfl rfl (or + a.src.toNat) ⟨by omega, by omega, by first | omega | (simp; done) | (simp; omega)⟩) ?_
 refine f_stillP rfl rfl rfl (o_load Tryz.isAgg3 rfl (roOne (enc := (.int .i64 ·)) hSr hcr hsN)) ?_
 refine f_stillP rfl rfl rfl (o_load Tryz.isAgg3 rfl (rdS hS2 (hc2 0 _ rfl))) ?_
 refine f_stillP rfl rfl rfl (o_eql rfl rfl) ?_
 refine f_stillP rfl rfl rfl (o_move rfl) ?_
 refine f_splitS 13 rfl (fun g13 => ?_) (fun g13 => ?_)
 ·
  refine f_stillPY rfl rfl rfl rfl rfl (o_load Tryz.isAgg25 rfl (rdS hS1 (hc1 0 _ rfl))) ?_
  refine f_stillPY rfl rfl rfl rfl rfl (o_field fa48_1 rfl) ?_
  refine f_stillPY rfl rfl rfl rfl rfl (o_load Tryz.isAgg3 rfl (rdA rfl)) ?_
  refine f_stillPY rfl rfl rfl rfl rfl (o_idx sl25 rfl rfl (or + a.dst.toNat) ⟨by omega, by omega, by first | omega | (simp; done) | (simp; omega)⟩) ?_
  refine f_stillPY rfl rfl rfl rfl rfl (o_load Tryz.isAgg3 rfl (roOne (enc := (.int .i64 ·)) hSr hcr hdN)) ?_
  refine f_stillPY rfl rfl rfl rfl rfl (o_load Tryz.isAgg3 rfl (rdS hS2 (hc2 0 _ rfl))) ?_
  refine f_stillPY rfl rfl rfl rfl rfl (o_eql rfl rfl) ?_
  refine f_stillP rfl rfl rfl (o_pickT rfl rfl) ?_
  refine f_stillP rfl rfl rfl (o_move rfl) ?_
  refine f_splitS 22 rfl (fun g22 => ?_) (fun g22 => ?_)
  ·
   refine f_stillPY rfl rfl rfl rfl rfl (o_load Tryz.isAgg25 rfl (rdS hS3 (hc3 0 _ rfl))) ?_
   refine f_stillPY rfl rfl rfl rfl rfl (o_field fa48_0 rfl) ?_
   refine f_stillPY rfl rfl rfl rfl rfl (o_load Tryz.isAgg3 rfl (rdA rfl)) ?_
   refine f_stillPY rfl rfl rfl rfl rfl (o_idx sl25 rfl rfl (or2 + a.src.toNat) ⟨by omega, by omega, by first | omega | (simp; done) | (simp; omega)⟩) ?_
   refine f_stillPY rfl rfl rfl rfl rfl (o_load Tryz.isAgg3 rfl (roOne (enc := (.int .i64 ·)) hSr2 hcr2 hsN2)) ?_
   refine f_stillPY rfl rfl rfl rfl rfl (o_load Tryz.isAgg25 rfl (rdS hS3 (hc3 0 _ rfl))) ?_
   refine f_stillPY rfl rfl rfl rfl rfl (o_field fa48_1 rfl) ?_
   refine f_stillPY rfl rfl rfl rfl rfl (o_load Tryz.isAgg3 rfl (rdA rfl)) ?_
   refine f_stillPY rfl rfl rfl rfl rfl (o_idx sl25 rfl rfl (or2 + a.dst.toNat) ⟨by omega, by omega, by first | omega | (simp; done) | (simp; omega)⟩) ?_
   refine f_stillPY rfl rfl rfl rfl rfl (o_load Tryz.isAgg3 rfl (roOne (enc := (.int .i64 ·)) hSr2 hcr2 hdN2)) ?_
   refine f_stillPY rfl rfl rfl rfl rfl (o_neq rfl rfl) ?_
   refine f_stillP rfl rfl rfl (o_pickT rfl rfl) ?_
   refine f_stillD (f_tail ?_)
   refine f_stepP rfl rfl rfl (o_assign rfl) ?_
   refine f_done ?_
   refine f_tn (kh2 _ _ ?_)
   clear kh2
   refine f_ret ?_
   exact f_fin1 [] Tryz.results33 rfl Sub.nil ⟨by unfold btP inP unP; rw [getD_at hsN, getD_at hdN, getD_at hsN2, getD_at hdN2, decide_eq_true g13, decide_eq_true g22]; rfl, rfl⟩
  ·
   refine f_stillN rfl rfl rfl rfl rfl rfl ?_
   refine f_stillN rfl rfl rfl rfl rfl rfl ?_
   refine f_stillN rfl rfl rfl rfl rfl rfl ?_
   refine f_stillN rfl rfl rfl rfl rfl rfl ?_
   refine f_stillN rfl rfl rfl rfl rfl rfl ?_
   refine f_stillN rfl rfl rfl rfl rfl rfl ?_
   refine f_stillN rfl rfl rfl rfl rfl rfl ?_
   refine f_stillN rfl rfl rfl rfl rfl rfl ?_
   refine f_stillN rfl rfl rfl rfl rfl rfl ?_
   refine f_stillN rfl rfl rfl rfl rfl rfl ?_
   refine f_stillN rfl rfl rfl rfl rfl rfl ?_
   refine f_stillP rfl rfl rfl (o_pickF rfl rfl) ?_
   refine f_stillD (f_tail ?_)
   refine f_stepP rfl rfl rfl (o_assign rfl) ?_
   refine f_done ?_
   refine f_tn (kh2 _ _ ?_)
   clear kh2
   refine f_ret ?_
   exact f_fin1 [] Tryz.results33 rfl Sub.nil ⟨by unfold btP inP unP; rw [getD_at hsN, getD_at hdN, getD_at hsN2, getD_at hdN2, decide_eq_true g13, decide_eq_false g22]; rfl, rfl⟩
 ·
  refine f_stillN rfl rfl rfl rfl rfl rfl ?_
  refine f_stillN rfl rfl rfl rfl rfl rfl ?_
  refine f_stillN rfl rfl rfl rfl rfl rfl ?_
  refine f_stillN rfl rfl rfl rfl rfl rfl ?_
  refine f_stillN rfl rfl rfl rfl rfl rfl ?_
  refine f_stillN rfl rfl rfl rfl rfl rfl ?_
  refine f_stillN rfl rfl rfl rfl rfl rfl ?_
  refine f_stillP rfl rfl rfl (o_pickF rfl rfl) ?_
  refine f_stillP rfl rfl rfl (o_move rfl) ?_
  refine f_stillN rfl rfl rfl rfl rfl rfl ?_
  refine f_stillN rfl rfl rfl rfl rfl rfl ?_
  refine f_stillN rfl rfl rfl rfl rfl rfl ?_
  refine f_stillN rfl rfl rfl rfl rfl rfl ?_
  refine f_stillN rfl rfl rfl rfl rfl rfl ?_
  refine f_stillN rfl rfl rfl rfl rfl rfl ?_
  refine f_stillN rfl rfl rfl rfl rfl rfl ?_
  refine f_stillN rfl rfl rfl rfl rfl rfl ?_
  refine f_stillN rfl rfl rfl rfl rfl rfl ?_
  refine f_stillN rfl rfl rfl rfl rfl rfl ?_
  refine f_stillN rfl rfl rfl rfl rfl rfl ?_
  refine f_stillP rfl rfl rfl (o_pickF rfl rfl) ?_
  refine f_stillD (f_tail ?_)
  refine f_stepP rfl rfl rfl (o_assign rfl) ?_
  refine f_done ?_
  refine f_tn (kh2 _ _ ?_)
  clear kh2
  refine f_ret ?_
  exact f_fin1 [] Tryz.results33 rfl Sub.nil ⟨by unfold btP inP unP; rw [getD_at hsN, getD_at hdN, getD_at hsN2, getD_at hdN2, decide_eq_false g13]; rfl, rfl⟩

set_option maxRecDepth 100000 in
set_option maxHeartbeats 4000000 in
theorem COuter_spec (N : Int) (A : Option Addr) (l : List Arc) (cap : Nat) (Ab : Option Addr) (bs : List Int) (cb : Nat) (Ac : Option Addr) (R : List Row) (cc : Nat) (q : Int) (w : World) (hr : Ro (Fr w []) w A (l.flatMap arcCs)) (hl : l.length ≤ 9223372036854775807) (hN : I64 N) (hok : ∀ x ∈ l, ArcOk x) (hn : NestRo (Fr w []) w Ab bs Ac R) :
    Meets Tryz.prog 21 [.agg #[.int .i64 N, .slice A l.length cap], .agg #[.slice Ab bs.length cb, .slice Ac R.length cc], .int .i64 q] w [] (fun u own' => ∃ (M : List Int) (A' : Option Addr) (c2 : Nat) (m' : Seg), u = .tuple #[.slice A' M.length M.length, .int .i64 (lkE N l bs (rowsL R) q)] ∧ own' = [m'] ∧ Own 3 1 (.slice A' M.length c2) M.length (ints M) m' ∧ (lkE N l bs (rowsL R) q ≠ 0 → M = []) ∧ (lkE N l bs (rowsL R) q = 0 → M = idxs (unP ((rowsL R).getD (q.toNat - 1) [])) l)) := by
 refine f_enter Tryz.func21 rfl Tryz.ntmps21 rfl Owns.nil ?_
 refine f_seq fun K1 kh1 => ?_
 refine f_region ?_
 refine f_step rfl rfl rfl (o_box rfl rfl fun b3 => ?_)
 refine f_step rfl rfl rfl (o_box rfl rfl fun b4 => ?_)
 refine f_stepP rfl rfl rfl (o_assign rfl) ?_
 refine f_stepP rfl rfl rfl (o_assign rfl) ?_
 refine f_done ?_
 refine f_tn (kh1 _ _ ?_)
 clear kh1
 refine f_seq fun K2 kh2 => ?_
 refine f_seq fun K3 kh3 => ?_
 refine f_region ?_
 refine f_stepP rfl rfl rfl (o_loadA (vs := [_, _]) Tryz.isAgg24 Tryz.sizeOf24 rfl rfl ⟨(rdA rfl), (rdA rfl), trivial⟩) ?_
 refine f_stepP rfl rfl rfl (o_loadA (vs := [_, _]) Tryz.isAgg28 Tryz.sizeOf28 rfl rfl ⟨(rdA rfl), (rdA rfl), trivial⟩) ?_
 refine f_stepP rfl rfl rfl (o_move rfl) ?_
 refine f_step rfl rfl rfl (o_call Tryz.call36 rfl (fun w_ hp_ => NMany_spec N A l cap Ab bs cb Ac R cc q w_ (hr.up0 hp_) hl hN hok (hn.up0 hp_)) ?_)
 rintro _ _ ⟨rfl, rfl⟩
 dsimp only [List.cons_append, List.nil_append]
 refine f_stepP rfl rfl rfl (o_move rfl) ?_
 refine f_stepP rfl rfl rfl (o_extract rfl rfl) ?_
 refine f_stepP rfl rfl rfl (o_extract rfl rfl) ?_
 refine f_stepP rfl rfl rfl (o_assign rfl) ?_
 refine f_stepP rfl rfl rfl (o_assign rfl) ?_
 refine f_done ?_
 refine f_tn (kh3 _ _ ?_)
 clear kh3
 refine f_seq fun K4 kh4 => ?_
 refine f_region ?_
 refine f_stepP rfl rfl rfl (o_move rfl) ?_
 refine f_stepP rfl rfl rfl (o_neq rfl rfl) ?_
 refine f_done ?_
 refine f_tn (kh4 _ _ ?_)
 clear kh4
 refine f_cond rfl (fun c19 => ?_) (fun c19 => ?_)
 ·
  refine f_seq fun K5 kh5 => ?_
  refine f_region ?_
  refine f_stepP rfl rfl rfl (o_move rfl) ?_
  refine f_stepP rfl rfl rfl (o_assign rfl) ?_
  refine f_stepP rfl rfl rfl (o_assign rfl) ?_
  refine f_done ?_
  refine f_tn (kh5 _ _ ?_)
  clear kh5
  refine f_ret ?_
  refine f_tr ?_
  have e : lkE N l bs (rowsL R) q = lkE N l bs (rowsL R) q := rfl
  exact f_fin2 [[]] Tryz.results21 rfl rfl (show Fly.Sub _ [[]] from (by repeat (first | exact Sub.nil | refine Sub.pick ?_ | refine Sub.castO rfl ?_ | refine Sub.skip ?_))) ⟨[], none, 0, [], by rw [e]; rfl, rfl, Own.nil _ _, fun _ => rfl, fun h => absurd (e.symm.trans h) (by simpa using c19)⟩
 ·
  have hlz : lkE N l bs (rowsL R) q = 0 := by simpa using c19
  obtain ⟨n, k, hNn, hNo, hqk, hkb⟩ := lkE_zero hlz
  have hRl := hNo.len
  rw [rowsL_len] at hRl
  have hmany := hNo.many
  have hkR : k < R.length := by omega
  obtain ⟨hn1, hn2, hlen, hgd⟩ := gcheck_zero hNo.g
  have hrow := hn.rows _ (List.getElem_mem hkR)
  have hrk := rowsL_at hkR
  have hkl := hNo.rowlen (k := k) (by omega)
  rw [hrk] at hkl
  obtain ⟨b0, o0, hA0, hS0, hc0⟩ := hn.c (map_ne hkR)
  refine f_skip ?_
  refine f_tn (kh2 _ _ ?_)
  clear kh2
  refine f_seq fun K6 kh6 => ?_
  refine f_region ?_
  refine f_stepP rfl rfl rfl (o_field fa28_1 rfl) ?_
  refine f_stepP rfl rfl rfl (o_load Tryz.isAgg26 rfl (v := .slice (some ⟨b0, o0, none⟩) R.length cc) (rdA (by rw [← hA0]; rfl))) ?_
  refine f_stepP rfl rfl rfl (o_move rfl) ?_
  refine f_stepP rfl rfl rfl (o_sub rfl rfl _ (Eq.trans (wrap_i64 (by omega)) (show _ = (k : Int) by omega))) ?_
  refine f_stepP rfl rfl rfl (o_idx sl26 rfl rfl (o0 + k) ⟨by omega, by omega, by first | omega | (simp; done) | (simp; omega)⟩) ?_
  refine f_stepP rfl rfl rfl (o_load Tryz.isAgg25 rfl (roOne (enc := rowV) hS0 hc0 hkR)) ?_
  refine f_step rfl rfl rfl (o_alloc Tryz.zeroValue25 rfl fun b10 => ?_)
  refine f_step0 rfl rfl (o_store Tryz.sizeOf25 rfl rfl rfl rfl (by first | exact Nat.le_of_ble_eq_true rfl | (simp; done) | (simp; omega)) [rowV (R[k]'hkR)] rfl ?_)
  refine f_done ?_
  refine f_tn (kh6 _ _ ?_)
  clear kh6
  refine f_seq fun K7 kh7 => ?_
  refine f_region ?_
  refine f_stepP rfl rfl rfl (o_loadA (vs := [_, _]) Tryz.isAgg24 Tryz.sizeOf24 rfl rfl ⟨(rdA rfl), (rdA rfl), trivial⟩) ?_
  refine f_stepP rfl rfl rfl (o_func rfl rfl) ?_
  refine f_step rfl rfl rfl (o_call Tryz.call30 rfl (fun w_ hp_ => chosen_spec N A l cap (unP (R[k]'hkR).2.1) 37 [.pointer (some ⟨b10, 0, none⟩)] w_ (hr.up0 hp_) hlen Tryz.call37 (fun w' hs i hi => Outer1_spec l[i] b10 (R[k]'hkR).1 (R[k]'hkR).2.1 (R[k]'hkR).2.2 w' (heldRo hp_ hs) (Ro.held (hrow.1.up0 hp_) hs) (by have := hgd i hi; omega) (by have := hgd i hi; omega))) ?_)
  rintro _ _ ⟨Ao, co, mo, rfl, rfl, hO⟩
  dsimp only [List.cons_append, List.nil_append]
  refine f_stepP rfl rfl rfl (o_assign rfl) ?_
  refine f_stepP rfl rfl rfl (o_assign rfl) ?_
  refine f_done ?_
  refine f_tn (kh7 _ _ ?_)
  clear kh7
  refine f_ret ?_
  have e := hlz
  exact f_fin2 [mo] Tryz.results21 rfl rfl (by repeat (first | exact Sub.nil | refine Sub.pick ?_ | refine Sub.castO rfl ?_ | refine Sub.skip ?_)) ⟨_, Ao, co, mo, by rw [e], rfl, hO, fun h => absurd e h, fun _ => by rw [show q.toNat - 1 = k by omega, hrk]⟩

set_option maxRecDepth 100000 in
set_option maxHeartbeats 4000000 in
theorem CBetween_spec (N : Int) (A : Option Addr) (l : List Arc) (cap : Nat) (Ab : Option Addr) (bs : List Int) (cb : Nat) (Ac : Option Addr) (R : List Row) (cc : Nat) (q c : Int) (w : World) (hr : Ro (Fr w []) w A (l.flatMap arcCs)) (hl : l.length ≤ 9223372036854775807) (hN : I64 N) (hok : ∀ x ∈ l, ArcOk x) (hn : NestRo (Fr w []) w Ab bs Ac R) :
    Meets Tryz.prog 15 [.agg #[.int .i64 N, .slice A l.length cap], .agg #[.slice Ab bs.length cb, .slice Ac R.length cc], .int .i64 q, .int .i64 c] w [] (fun u own' => ∃ (M : List Int) (A' : Option Addr) (c2 : Nat) (m' : Seg), u = .tuple #[.slice A' M.length M.length, .int .i64 (bwE N l bs (rowsL R) q c)] ∧ own' = [m'] ∧ Own 3 1 (.slice A' M.length c2) M.length (ints M) m' ∧ (bwE N l bs (rowsL R) q c ≠ 0 → M = []) ∧ (bwE N l bs (rowsL R) q c = 0 → M = idxs (btP ((rowsL R).getD (q.toNat - 1) []) ((rowsL R).getD (q.toNat - 2) []) c) l)) := by
 refine f_enter Tryz.func15 rfl Tryz.ntmps15 rfl Owns.nil ?_
 refine f_seq fun K1 kh1 => ?_
 refine f_region ?_
 refine f_step rfl rfl rfl (o_box rfl rfl fun b4 => ?_)
 refine f_step rfl rfl rfl (o_box rfl rfl fun b5 => ?_)
 refine f_step rfl rfl rfl (o_box rfl rfl fun b7 => ?_)
 refine f_stepP rfl rfl rfl (o_assign rfl) ?_
 refine f_stepP rfl rfl rfl (o_assign rfl) ?_
 refine f_done ?_
 refine f_tn (kh1 _ _ ?_)
 clear kh1
 refine f_seq fun K2 kh2 => ?_
 refine f_region ?_
 refine f_stepP rfl rfl rfl (o_loadA (vs := [_, _]) Tryz.isAgg24 Tryz.sizeOf24 rfl rfl ⟨(rdA rfl), (rdA rfl), trivial⟩) ?_
 refine f_stepP rfl rfl rfl (o_loadA (vs := [_, _]) Tryz.isAgg28 Tryz.sizeOf28 rfl rfl ⟨(rdA rfl), (rdA rfl), trivial⟩) ?_
 refine f_stepP rfl rfl rfl (o_move rfl) ?_
 refine f_stepP rfl rfl rfl (o_load Tryz.isAgg3 rfl (rdA rfl)) ?_
 refine f_step rfl rfl rfl (o_call Tryz.call22 rfl (fun w_ hp_ => clooked_spec N A l cap Ab bs cb Ac R cc q c w_ (hr.up0 hp_) hl hN hok (hn.up0 hp_)) ?_)
 rintro _ _ ⟨r, rfl, rfl, hr1, hr0⟩
 dsimp only [List.cons_append, List.nil_append]
 refine f_stepP rfl rfl rfl (o_move rfl) ?_
 refine f_stepP rfl rfl rfl (o_extract rfl rfl) ?_
 refine f_stepP rfl rfl rfl (o_extract rfl rfl) ?_
 refine f_step rfl rfl rfl (o_alloc Tryz.zeroValue25 rfl fun b10 => ?_)
 refine f_step0 rfl rfl (o_store Tryz.sizeOf25 rfl rfl rfl rfl (by first | exact Nat.le_of_ble_eq_true rfl | (simp; done) | (simp; omega)) [rowV r] rfl ?_)
 refine f_stepP rfl rfl rfl (o_assign rfl) ?_
 refine f_done ?_
 refine f_tn (kh2 _ _ ?_)
 clear kh2
 refine f_seq fun K3 kh3 => ?_
 refine f_seq fun K4 kh4 => ?_
 refine f_region ?_
 refine f_stepP rfl rfl rfl (o_move rfl) ?_
 refine f_stepP rfl rfl rfl (o_neq rfl rfl) ?_
 refine f_done ?_
 refine f_tn (kh4 _ _ ?_)
 clear kh4
 refine f_cond rfl (fun c22 => ?_) (fun c22 => ?_)
 ·
  refine f_seq fun K5 kh5 => ?_
  refine f_region ?_
  refine f_stepP rfl rfl rfl (o_move rfl) ?_
  refine f_stepP rfl rfl rfl (o_assign rfl) ?_
  refine f_stepP rfl rfl rfl (o_assign rfl) ?_
  refine f_done ?_
  refine f_tn (kh5 _ _ ?_)
  clear kh5
  refine f_ret ?_
  refine f_tr ?_
  have e : bwE N l bs (rowsL R) q c = clE N l bs (rowsL R) q c := by unfold bwE; rw [if_pos (by simpa using c22)]
  exact f_fin2 [[]] Tryz.results15 rfl rfl (show Fly.Sub _ [[]] from (by repeat (first | exact Sub.nil | refine Sub.pick ?_ | refine Sub.castO rfl ?_ | refine Sub.skip ?_))) ⟨[], none, 0, [], by rw [e]; rfl, rfl, Own.nil _ _, fun _ => rfl, fun h => absurd (e.symm.trans h) (by simpa using c22)⟩
 ·
  have hcz : clE N l bs (rowsL R) q c = 0 := by simpa using c22
  obtain ⟨n, k, j, hNn, hNo, hqk, hkb, hcj, hjm⟩ := clE_zero hcz
  have hRl := hNo.len
  rw [rowsL_len] at hRl
  have hmany := hNo.many
  obtain ⟨hn1, hn2, hlen, hgd⟩ := gcheck_zero hNo.g
  have hrr := hr0 hcz
  have hrow := row_get hrr (by omega)
  rw [show q.toNat - 1 = k by omega] at hrow
  have hkl := hNo.rowlen (k := k) (by omega)
  rw [hrow] at hkl
  have hrm := hn.rows r (List.mem_of_getElem? hrr)
  refine f_skip ?_
  refine f_tn (kh3 _ _ ?_)
  clear kh3
  refine f_seq fun K6 kh6 => ?_
  refine f_seq fun K7 kh7 => ?_
  refine f_region ?_
  refine f_stepP rfl rfl rfl (o_move rfl) ?_
  refine f_stepP rfl rfl rfl (o_eql rfl rfl) ?_
  refine f_done ?_
  refine f_tn (kh7 _ _ ?_)
  clear kh7
  refine f_cond rfl (fun c25 => ?_) (fun c25 => ?_)
  ·
   refine f_seq fun K8 kh8 => ?_
   refine f_region ?_
   refine f_stepP rfl rfl rfl (o_assign rfl) ?_
   refine f_stepP rfl rfl rfl (o_assign rfl) ?_
   refine f_done ?_
   refine f_tn (kh8 _ _ ?_)
   clear kh8
   refine f_ret ?_
   refine f_tr ?_
   have e : bwE N l bs (rowsL R) q c = 111 := by unfold bwE; rw [if_neg (by rw [hcz]; simp), if_pos (by omega)]
   exact f_fin2 [[]] Tryz.results15 rfl rfl (show Fly.Sub _ [[]] from (by repeat (first | exact Sub.nil | refine Sub.pick ?_ | refine Sub.castO rfl ?_ | refine Sub.skip ?_))) ⟨[], none, 0, [], by rw [e]; rfl, rfl, Own.nil _ _, fun _ => rfl, fun h => absurd (e.symm.trans h) (by decide)⟩
  ·
   obtain ⟨k1, hk1⟩ : ∃ k1, k = k1 + 1 := ⟨k - 1, by omega⟩
   have hkR : k1 < R.length := by omega
   have hrow1 := hn.rows _ (List.getElem_mem hkR)
   have hrk := rowsL_at hkR
   have hkl1 := hNo.rowlen (k := k1) (by omega)
   rw [hrk] at hkl1
   obtain ⟨b0, o0, hA0, hS0, hc0⟩ := hn.c (map_ne hkR)
   refine f_skip ?_
   refine f_tn (kh6 _ _ ?_)
   clear kh6
   refine f_seq fun K9 kh9 => ?_
   refine f_region ?_
   refine f_stepP rfl rfl rfl (o_field fa28_1 rfl) ?_
   refine f_stepP rfl rfl rfl (o_load Tryz.isAgg26 rfl (v := .slice (some ⟨b0, o0, none⟩) R.length cc) (rdA (by rw [← hA0]; rfl))) ?_
   refine f_stepP rfl rfl rfl (o_move rfl) ?_
   refine f_stepP rfl rfl rfl (o_sub rfl rfl _ (Eq.trans (wrap_i64 (by omega)) (show _ = (k1 : Int) by omega))) ?_
   refine f_stepP rfl rfl rfl (o_idx sl26 rfl rfl (o0 + k1) ⟨by omega, by omega, by first | omega | (simp; done) | (simp; omega)⟩) ?_
   refine f_stepP rfl rfl rfl (o_load Tryz.isAgg25 rfl (roOne (enc := rowV) hS0 hc0 hkR)) ?_
   refine f_step rfl rfl rfl (o_alloc Tryz.zeroValue25 rfl fun b12 => ?_)
   refine f_step0 rfl rfl (o_store Tryz.sizeOf25 rfl rfl rfl rfl (by first | exact Nat.le_of_ble_eq_true rfl | (simp; done) | (simp; omega)) [rowV (R[k1]'hkR)] rfl ?_)
   refine f_done ?_
   refine f_tn (kh9 _ _ ?_)
   clear kh9
   refine f_seq fun K10 kh10 => ?_
   refine f_region ?_
   refine f_stepP rfl rfl rfl (o_loadA (vs := [_, _]) Tryz.isAgg24 Tryz.sizeOf24 rfl rfl ⟨(rdA rfl), (rdA rfl), trivial⟩) ?_
   refine f_stepP rfl rfl rfl (o_func rfl rfl) ?_
   refine f_step rfl rfl rfl (o_call Tryz.call30 rfl (fun w_ hp_ => chosen_spec N A l cap (btP r.2.1 (R[k1]'hkR).2.1 c) 33 [.pointer (some ⟨b10, 0, none⟩), .pointer (some ⟨b7, 0, none⟩), .pointer (some ⟨b12, 0, none⟩)] w_ (hr.up0 hp_) hlen Tryz.call33 (fun w' hs i hi => Between1_spec l[i] b10 b7 b12 r.1 r.2.1 r.2.2 (R[k1]'hkR).1 (R[k1]'hkR).2.1 (R[k1]'hkR).2.2 c w' (heldRo hp_ hs) (heldRo hp_ hs) (heldRo hp_ hs) (Ro.held (hrm.1.up0 hp_) hs) (Ro.held (hrow1.1.up0 hp_) hs) (by omega) (by have := hgd i hi; omega) (by have := hgd i hi; omega))) ?_)
   rintro _ _ ⟨Ao, co, mo, rfl, rfl, hO⟩
   dsimp only [List.cons_append, List.nil_append]
   refine f_stepP rfl rfl rfl (o_assign rfl) ?_
   refine f_stepP rfl rfl rfl (o_assign rfl) ?_
   refine f_done ?_
   refine f_tn (kh10 _ _ ?_)
   clear kh10
   refine f_ret ?_
   have e : bwE N l bs (rowsL R) q c = 0 := by unfold bwE; rw [if_neg (by rw [hcz]; simp), if_neg (by omega)]
   exact f_fin2 [mo] Tryz.results15 rfl rfl (by repeat (first | exact Sub.nil | refine Sub.pick ?_ | refine Sub.castO rfl ?_ | refine Sub.skip ?_)) ⟨_, Ao, co, mo, by rw [e], rfl, hO, fun h => absurd e h, fun _ => by rw [show q.toNat - 1 = k by omega, show q.toNat - 2 = k1 by omega, hrow, hrk]⟩

end Go.Proofs.YtkmkakpadgljeaaGreat
