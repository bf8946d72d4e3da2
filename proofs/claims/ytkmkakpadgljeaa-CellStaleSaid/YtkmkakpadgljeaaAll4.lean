import Derived.Test.YtkmkakpadgljeaaAll3
import Derived.Test.YtkmkakpadgljeaaAll1

/- package nest: many, Many, cellOf, members, Members, Children, Parent, Apart. -/
namespace Go.Proofs.Ytkmkakpadgljeaa
open Go Go.RowKit Fly
set_option linter.unusedVariables false
set_option linter.unusedSimpArgs false


theorem clE_row {N : Int} {l : List Arc} {bs : List Int} {R : List Row} {q c : Int} (h : clE N l bs (rowsL R) q c = 0) : lkE N l bs (rowsL R) q = 0 := by
  unfold clE at h
  by_cases h1 : lkE N l bs (rowsL R) q = 0
  · exact h1
  · rw [if_pos h1] at h; exact h
theorem row_get {R : List Row} {q : Int} {r : Row} (h : R[(q - 1).toNat]? = some r) (hq : 1 ≤ q) : (rowsL R).getD (q.toNat - 1) [] = r.2.1 := by
  have e : (q - 1).toNat = q.toNat - 1 := by omega
  rw [e] at h
  unfold rowsL
  rw [List.getD_eq_getElem?_getD, List.getElem?_map, h]; rfl
/-- The members of a right level's cell: there is one. -/
theorem mem_pos {n : Nat} {L : List Int} (hR : rightB (n : Int) L = true) (hn : 1 ≤ n) {j : Nat} (hj : (j : Int) < maxL L + 1) : 0 < (memTo L (j : Int) L.length).length := by
  have h := right_cntN hR hn (j := j) (by omega)
  unfold cnt at h
  obtain ⟨x, hx⟩ := List.exists_mem_of_length_pos (show 0 < (L.filter fun x => decide (x = Int.ofNat j)).length by omega)
  obtain ⟨h1, h2⟩ := List.mem_filter.1 hx
  obtain ⟨v, hv, e⟩ := List.mem_iff_getElem.1 h1
  have : (v : Int) ∈ memTo L (j : Int) L.length := by
    unfold memTo
    refine List.mem_map.2 ⟨v, List.mem_filter.2 ⟨by simpa using hv, ?_⟩, rfl⟩
    rw [decide_eq_true_eq, List.getD_eq_getElem?_getD, List.getElem?_eq_getElem hv, Option.getD_some, e]
    simpa using h2
  exact List.length_pos_of_mem this
theorem memTo_mem {L : List Int} {c : Int} {k : Nat} {x : Int} : x ∈ memTo L c k ↔ ∃ v : Nat, x = (v : Int) ∧ v < k ∧ L.getD v 0 = c := by
  unfold memTo
  simp only [List.mem_map, List.mem_filter, List.mem_range, decide_eq_true_eq]
  constructor
  · rintro ⟨v, ⟨h1, h2⟩, rfl⟩; exact ⟨v, rfl, h1, h2⟩
  · rintro ⟨v, rfl, h1, h2⟩; exact ⟨v, ⟨h1, h2⟩, rfl⟩
theorem headD_get {L : List Int} (h : 0 < L.length) : L.headD 0 = L[0] := by
  cases L with
  | nil => simp at h
  | cons a b => rfl
/-- The cells below of some vertices. -/
def lowL (B M : List Int) : List Int := M.map fun v => B.getD v.toNat 0
def chE (N : Int) (l : List Arc) (bs : List Int) (L : List (List Int)) (q c : Int) : Int := if clE N l bs L q c ≠ 0 then clE N l bs L q c else if q = 1 then 111 else 0
def chL (L : List (List Int)) (q c : Int) : List Int := cpt (sortI (lowL (L.getD (q.toNat - 2) []) (memTo (L.getD (q.toNat - 1) []) c (L.getD (q.toNat - 1) []).length)))
def paE (N : Int) (l : List Arc) (bs : List Int) (L : List (List Int)) (q c : Int) : Int := if clE N l bs L q c ≠ 0 then clE N l bs L q c else if q = (bs.length : Int) then 111 else 0
def paV (L : List (List Int)) (q c : Int) : Int := (L.getD q.toNat []).getD ((memTo (L.getD (q.toNat - 1) []) c (L.getD (q.toNat - 1) []).length).headD 0).toNat 0
def apE (N : Int) (l : List Arc) (bs : List Int) (L : List (List Int)) (u v : Int) : Int := if (nsE N l bs L).2 ≠ 0 then (nsE N l bs L).2 else if u < 0 ∨ N ≤ u ∨ v < 0 ∨ N ≤ v then 5 else 0
/-- The greatest of the first levels at which two vertices are apart. -/
def apV (L : List (List Int)) (u v : Nat) : Nat → Nat
  | 0 => 0
  | k + 1 => if (L.getD k []).getD u 0 ≠ (L.getD k []).getD v 0 then k + 1 else apV L u v k
theorem lowL_next {B M : List Int} {k : Nat} (h : k < M.length) : lowL B (M.take (k + 1)) = lowL B (M.take k) ++ [B.getD M[k].toNat 0] := by
  unfold lowL; rw [List.take_succ_eq_append_getElem h, List.map_append]; rfl
theorem lowL_len (B M : List Int) : (lowL B M).length = M.length := by simp [lowL]

set_option maxRecDepth 100000 in
set_option maxHeartbeats 4000000 in
theorem MaxN_spec (B : Option Addr) (L : List Int) (cb : Nat) (w : World) (hL : Ro (Fr w []) w B (ints L)) (h0 : 0 < L.length) (hm : L.length ≤ 9223372036854775807) :
    Meets Try.prog 51 [.slice B L.length cb] w [] (fun u m => u = .int .i64 (maxL L) ∧ m = []) := by
 obtain ⟨bb, ob, rfl, hSb, hcb⟩ := hL (fun e => by have := ints_length L; rw [e] at this; simp at this; omega)
 refine f_enter Try.func51 rfl Try.ntmps51 rfl Owns.nil ?_
 refine f_seq fun K1 kh1 => ?_
 refine f_region ?_
 refine f_stepP rfl rfl rfl (o_assign rfl) ?_
 refine f_done ?_
 refine f_tn (kh1 _ _ ?_)
 clear kh1
 refine f_seq fun K2 kh2 => ?_
 refine f_seq fun K3 kh3 => ?_
 refine f_region ?_
 refine f_stepP rfl rfl rfl (o_move rfl) ?_
 refine f_stepP rfl rfl rfl (o_len sl58 rfl) ?_
 refine f_stepP rfl rfl rfl (o_lss rfl rfl) ?_
 refine f_done ?_
 refine f_tn (kh3 _ _ ?_)
 clear kh3
 refine f_condN rfl (by omega) ?_
 refine f_skip ?_
 refine f_tn (kh2 _ _ ?_)
 clear kh2
 refine f_seq fun K4 kh4 => ?_
 refine f_region ?_
 refine f_stepP rfl rfl rfl (o_move rfl) ?_
 refine f_stepP rfl rfl rfl (o_idx sl58 rfl rfl (ob + 0) ⟨by omega, by omega, by first | omega | (simp; done) | (simp; omega)⟩) ?_
 refine f_stepP rfl rfl rfl (o_load Try.isAgg3 rfl (roOne (enc := (.int .i64 ·)) hSb hcb h0)) ?_
 refine f_stepP rfl rfl rfl (o_assign rfl) ?_
 refine f_done ?_
 refine f_tn (kh4 _ _ ?_)
 clear kh4
 refine f_seq fun K5 kh5 => ?_
 refine f_seq fun K6 kh6 => ?_
 refine f_reC 3 rfl (v := .int .i64 ((L.take 1).foldl max (L.headD 0))) (by rw [max_one h0]) ?_
 refine f_region ?_
 refine f_stepP rfl rfl rfl (o_assign rfl) ?_
 refine f_done ?_
 refine f_tn (kh6 _ _ ?_)
 clear kh6
 refine f_block ?_
 refine f_loopK (α := Nat) [0] (fun k => [(4, .int .i64 (k : Int)), (3, .int .i64 ((L.take k).foldl max (L.headD 0)))]) (fun k => 1 ≤ k ∧ k ≤ L.length) (fun k => L.length - k) (1) ?_ ?_ ?_
 · exact (by repeat (first | exact trivial | refine ⟨rfl, ?_⟩))
 · exact ⟨by omega, by omega⟩
 ·
  rintro k ⟨hk1, hkl⟩
  refine f_seq fun K7 kh7 => ?_
  refine f_seq fun K8 kh8 => ?_
  refine f_region ?_
  refine f_stepP rfl rfl rfl (o_move rfl) ?_
  refine f_stepP rfl rfl rfl (o_move rfl) ?_
  refine f_stepP rfl rfl rfl (o_len sl58 rfl) ?_
  refine f_stepP rfl rfl rfl (o_lss rfl rfl) ?_
  refine f_done ?_
  refine f_tn (kh8 _ _ ?_)
  clear kh8
  refine f_cond rfl (fun c15 => ?_) (fun c15 => ?_)
  ·
   have hk : k < L.length := by omega
   refine f_skip ?_
   refine f_tn (kh7 _ _ ?_)
   clear kh7
   refine f_seq fun K9 kh9 => ?_
   refine f_block ?_
   refine f_region ?_
   refine f_stepP rfl rfl rfl (o_move rfl) ?_
   refine f_stepP rfl rfl rfl (o_move rfl) ?_
   refine f_stepP rfl rfl rfl (o_move rfl) ?_
   refine f_stepP rfl rfl rfl (o_idx sl58 rfl rfl (ob + k) ⟨by omega, by omega, by first | omega | (simp; done) | (simp; omega)⟩) ?_
   refine f_stepP rfl rfl rfl (o_load Try.isAgg3 rfl (roOne (enc := (.int .i64 ·)) hSb hcb hk)) ?_
   refine f_stepP rfl rfl rfl (o_max rfl rfl) ?_
   refine f_stepP rfl rfl rfl (o_assign rfl) ?_
   refine f_done ?_
   refine f_bn ?_
   refine f_tn (kh9 _ _ ?_)
   clear kh9
   refine f_reC 3 rfl (v := .int .i64 ((L.take (k + 1)).foldl max (L.headD 0))) (by rw [max_next hk]) ?_
   refine f_region ?_
   refine f_stepP rfl rfl rfl (o_move rfl) ?_
   refine f_stepP rfl rfl rfl (o_add rfl rfl _ (wrap_i64 (by omega))) ?_
   refine f_stepP rfl rfl rfl (o_assign rfl) ?_
   refine f_done ?_
   refine f_tn (f_again (k + 1) (by first | omega | (dsimp only; omega) | (simp; omega)) ⟨by omega, by omega⟩ ?_ ?_ ?_)
   · exact (by repeat (first | exact trivial | refine ⟨rfl, ?_⟩))
   · exact (by repeat (first | exact trivial | refine ⟨rfl, ?_⟩))
   · repeat (first | exact Sub.nil | refine Sub.pick ?_ | refine Sub.castO rfl ?_ | refine Sub.skip ?_)
  ·
   refine f_exit ?_
   refine f_te ?_
   clear kh7
   refine f_te ?_
   refine f_be ?_
   refine f_tn (kh5 _ _ ?_)
   clear kh5
   refine f_seq fun K10 kh10 => ?_
   refine f_region ?_
   refine f_stepP rfl rfl rfl (o_move rfl) ?_
   refine f_stepP rfl rfl rfl (o_assign rfl) ?_
   refine f_done ?_
   refine f_tn (kh10 _ _ ?_)
   clear kh10
   refine f_ret ?_
   exact f_fin1 [] Try.results51 rfl Sub.nil ⟨by rw [List.take_of_length_le (by omega)]; rfl, rfl⟩

set_option maxRecDepth 100000 in
set_option maxHeartbeats 4000000 in
theorem lmany_spec (B : Option Addr) (L : List Int) (cb : Nat) (w : World) (hL : Ro (Fr w []) w B (ints L)) (h0 : 0 < L.length) (hm : L.length ≤ 9223372036854775807) (hx : maxL L ≤ 1000000 ∧ -1000000 ≤ maxL L) :
    Meets Try.prog 31 [.slice B L.length cb] w [] (fun u m => u = .int .i64 (maxL L + 1) ∧ m = []) := by
 refine f_enter Try.func31 rfl Try.ntmps31 rfl Owns.nil ?_
 refine f_seq fun K1 kh1 => ?_
 refine f_region ?_
 refine f_stepP rfl rfl rfl (o_assign rfl) ?_
 refine f_done ?_
 refine f_tn (kh1 _ _ ?_)
 clear kh1
 refine f_seq fun K2 kh2 => ?_
 refine f_region ?_
 refine f_stepP rfl rfl rfl (o_move rfl) ?_
 refine f_step rfl rfl rfl (o_call Try.call51 rfl (fun w_ hp_ => MaxN_spec B L cb w_ (hL.up0 hp_) h0 hm) ?_)
 rintro _ _ ⟨rfl, rfl⟩
 dsimp only [List.cons_append, List.nil_append]
 refine f_stepP rfl rfl rfl (o_add rfl rfl _ (wrap_i64 (by omega))) ?_
 refine f_stepP rfl rfl rfl (o_assign rfl) ?_
 refine f_done ?_
 refine f_tn (kh2 _ _ ?_)
 clear kh2
 refine f_ret ?_
 exact f_fin1 [] Try.results31 rfl Sub.nil ⟨rfl, rfl⟩

set_option maxRecDepth 100000 in
set_option maxHeartbeats 4000000 in
theorem lmem_spec (B : Option Addr) (L : List Int) (cb : Nat) (c : Int) (w : World) (hL : Ro (Fr w []) w B (ints L)) (hm : L.length ≤ 1024) :
    Meets Try.prog 49 [.slice B L.length cb, .int .i64 c] w [] (fun u own' => ∃ A' c' m', u = .slice A' (memTo L c L.length).length c' ∧ own' = [m'] ∧ Own 3 1 (.slice A' (memTo L c L.length).length c') (memTo L c L.length).length (ints (memTo L c L.length)) m') := by
 refine f_enter Try.func49 rfl Try.ntmps49 rfl Owns.nil ?_
 refine f_seq fun K1 kh1 => ?_
 refine f_region ?_
 refine f_stepP rfl rfl rfl (o_assign rfl) ?_
 refine f_done ?_
 refine f_tn (kh1 _ _ ?_)
 clear kh1
 refine f_seq fun K2 kh2 => ?_
 refine f_region ?_
 refine f_stepP rfl rfl rfl (o_assign rfl) ?_
 refine f_done ?_
 refine f_tn (kh2 _ _ ?_)
 clear kh2
 refine f_seq fun K3 kh3 => ?_
 refine f_seq fun K4 kh4 => ?_
 refine f_region ?_
 refine f_stepP rfl rfl rfl (o_move rfl) ?_
 refine f_stepP rfl rfl rfl (o_len sl58 rfl) ?_
 refine f_stepP rfl rfl rfl (o_move rfl) ?_
 refine f_done ?_
 refine f_tn (kh4 _ _ ?_)
 clear kh4
 refine f_block ?_
 refine f_loop (α := Nat × Value × Seg) [1, 8, 9] (fun ⟨k, ov, om⟩ => [(10, .int .i64 (k : Int)), (5, ov)]) (fun ⟨k, ov, om⟩ => [om]) (fun ⟨k, ov, om⟩ => k ≤ L.length ∧ Own 3 1 ov (memTo L c k).length (ints (memTo L c k)) om) (fun ⟨k, ov, om⟩ => L.length - k) (0, .slice none 0 0, []) ?_ ?_ ?_ ?_
 · exact (by repeat (first | exact trivial | refine ⟨rfl, ?_⟩))
 · repeat (first | exact Sub.nil | refine Sub.pick ?_ | refine Sub.castO rfl ?_ | refine Sub.skip ?_)
 · exact ⟨Nat.zero_le _, Own.nil _ _⟩
 ·
  rintro ⟨k, ov, om⟩ ⟨hkl, hO⟩
  have hml := memTo_len L c k
  obtain ⟨Ao, co, rfl, hco⟩ := hO.val
  refine f_seq fun K5 kh5 => ?_
  refine f_region ?_
  refine f_stepP rfl rfl rfl (o_lss rfl rfl) ?_
  refine f_done ?_
  refine f_tn (kh5 _ _ ?_)
  clear kh5
  refine f_seq fun K6 kh6 => ?_
  refine f_cond rfl (fun c11 => ?_) (fun c11 => ?_)
  ·
   have hk : k < L.length := by omega
   obtain ⟨bb, ob, rfl, hSb, hcb⟩ := hL (fun e => by have := ints_length L; rw [e] at this; simp at this; omega)
   have hgk : L.getD k 0 = L[k] := by simp [List.getD_eq_getElem?_getD, hk]
   refine f_skip ?_
   refine f_tn (kh6 _ _ ?_)
   clear kh6
   refine f_seq fun K7 kh7 => ?_
   refine f_block ?_
   refine f_seq fun K8 kh8 => ?_
   refine f_region ?_
   refine f_stepP rfl rfl rfl (o_move rfl) ?_
   refine f_stepP rfl rfl rfl (o_idx sl58 rfl rfl (ob + k) ⟨by omega, by omega, by first | omega | (simp; done) | (simp; omega)⟩) ?_
   refine f_stepP rfl rfl rfl (o_load Try.isAgg3 rfl (roOne (enc := (.int .i64 ·)) hSb hcb hk)) ?_
   refine f_stepP rfl rfl rfl (o_assign rfl) ?_
   refine f_stepP rfl rfl rfl (o_assign rfl) ?_
   refine f_done ?_
   refine f_tn (kh8 _ _ ?_)
   clear kh8
   refine f_seq fun K9 kh9 => ?_
   refine f_region ?_
   refine f_stepP rfl rfl rfl (o_move rfl) ?_
   refine f_stepP rfl rfl rfl (o_move rfl) ?_
   refine f_stepP rfl rfl rfl (o_eql rfl rfl) ?_
   refine f_done ?_
   refine f_tn (kh9 _ _ ?_)
   clear kh9
   refine f_cond rfl (fun c17 => ?_) (fun c17 => ?_)
   ·
    have hnx := memTo_yes (L := L) (c := c) (k := k) (by rw [hgk]; exact c17)
    refine f_region ?_
    refine f_stepP rfl rfl rfl (o_move rfl) ?_
    refine f_stepP rfl rfl rfl (o_move rfl) ?_
    refine f_step rfl rfl rfl (o_slice1 el25 (by omega) rfl rfl rfl fun b20 => ?_)
    refine f_step rfl rfl rfl (o_append el25 rfl rfl hO (ys := [.int .i64 (k : Int)]) ⟨(rdA rfl), trivial⟩ rfl rfl (by omega) (by omega) fun v21 m21 o21 => ?_)
    refine f_stepP rfl rfl rfl (o_assign rfl) ?_
    refine f_done ?_
    refine f_bn ?_
    refine f_tn (kh7 _ _ ?_)
    clear kh7
    refine f_region ?_
    refine f_stepP rfl rfl rfl (o_add rfl rfl _ (wrap_i64 (by omega))) ?_
    refine f_stepP rfl rfl rfl (o_move rfl) ?_
    refine f_done ?_
    refine f_tn (f_again (k + 1, v21, m21) (by first | omega | (dsimp only; omega) | (simp; omega)) ⟨by omega, by rw [hnx, List.length_append, ints_append]; exact o21⟩ ?_ ?_ ?_)
    · exact (by repeat (first | exact trivial | refine ⟨rfl, ?_⟩))
    · exact (by repeat (first | exact trivial | refine ⟨rfl, ?_⟩))
    · repeat (first | exact Sub.nil | refine Sub.pick ?_ | refine Sub.castO rfl ?_ | refine Sub.skip ?_)
   ·
    have hnx := memTo_no (L := L) (c := c) (k := k) (by rw [hgk]; exact c17)
    refine f_skip ?_
    refine f_bn ?_
    refine f_tn (kh7 _ _ ?_)
    clear kh7
    refine f_region ?_
    refine f_stepP rfl rfl rfl (o_add rfl rfl _ (wrap_i64 (by omega))) ?_
    refine f_stepP rfl rfl rfl (o_move rfl) ?_
    refine f_done ?_
    refine f_tn (f_again (k + 1, .slice Ao (memTo L c k).length co, om) (by first | omega | (dsimp only; omega) | (simp; omega)) ⟨by omega, by rw [hnx]; exact hO⟩ ?_ ?_ ?_)
    · exact (by repeat (first | exact trivial | refine ⟨rfl, ?_⟩))
    · exact (by repeat (first | exact trivial | refine ⟨rfl, ?_⟩))
    · repeat (first | exact Sub.nil | refine Sub.pick ?_ | refine Sub.castO rfl ?_ | refine Sub.skip ?_)
  ·
   obtain rfl : k = L.length := by omega
   refine f_exit ?_
   refine f_te ?_
   clear kh6
   refine f_te ?_
   refine f_be ?_
   refine f_tn (kh3 _ _ ?_)
   clear kh3
   refine f_seq fun K10 kh10 => ?_
   refine f_region ?_
   refine f_stepP rfl rfl rfl (o_move rfl) ?_
   refine f_stepP rfl rfl rfl (o_assign rfl) ?_
   refine f_done ?_
   refine f_tn (kh10 _ _ ?_)
   clear kh10
   refine f_ret ?_
   exact f_fin1 [om] Try.results49 rfl (by repeat (first | exact Sub.nil | refine Sub.pick ?_ | refine Sub.castO rfl ?_ | refine Sub.skip ?_)) ⟨Ao, co, om, rfl, rfl, hO⟩

set_option maxRecDepth 100000 in
set_option maxHeartbeats 4000000 in
theorem NMany_spec (N : Int) (A : Option Addr) (l : List Arc) (cap : Nat) (Ab : Option Addr) (bs : List Int) (cb : Nat) (Ac : Option Addr) (R : List Row) (cc : Nat) (q : Int) (w : World) (hr : Ro (Fr w []) w A (l.flatMap arcCs)) (hl : l.length ≤ 9223372036854775807) (hN : I64 N) (hok : ∀ x ∈ l, ArcOk x) (hn : NestRo (Fr w []) w Ab bs Ac R) :
    Meets Try.prog 10 [.agg #[.int .i64 N, .slice A l.length cap], .agg #[.slice Ab bs.length cb, .slice Ac R.length cc], .int .i64 q] w [] (fun u m => u = .tuple #[.int .i64 (if lkE N l bs (rowsL R) q ≠ 0 then 0 else maxL ((rowsL R).getD (q.toNat - 1) []) + 1), .int .i64 (lkE N l bs (rowsL R) q)] ∧ m = []) := by
 refine f_enter Try.func10 rfl Try.ntmps10 rfl Owns.nil ?_
 refine f_seq fun K1 kh1 => ?_
 refine f_region ?_
 refine f_step rfl rfl rfl (o_box rfl rfl fun b3 => ?_)
 refine f_step rfl rfl rfl (o_box rfl rfl fun b4 => ?_)
 refine f_stepP rfl rfl rfl (o_assign rfl) ?_
 refine f_stepP rfl rfl rfl (o_assign rfl) ?_
 refine f_done ?_
 refine f_tn (kh1 _ _ ?_)
 clear kh1
 refine f_seq fun K2 kh2 => ?_
 refine f_region ?_
 refine f_stepP rfl rfl rfl (o_loadA (vs := [_, _]) Try.isAgg24 Try.sizeOf24 rfl rfl ⟨(rdA rfl), (rdA rfl), trivial⟩) ?_
 refine f_stepP rfl rfl rfl (o_loadA (vs := [_, _]) Try.isAgg28 Try.sizeOf28 rfl rfl ⟨(rdA rfl), (rdA rfl), trivial⟩) ?_
 refine f_stepP rfl rfl rfl (o_move rfl) ?_
 refine f_step rfl rfl rfl (o_call Try.call30 rfl (fun w_ hp_ => nlooked_spec N A l cap Ab bs cb Ac R cc q w_ (hr.up0 hp_) hl hN hok (hn.up0 hp_)) ?_)
 rintro _ _ ⟨r, x, rfl, rfl, hrx⟩
 dsimp only [List.cons_append, List.nil_append]
 refine f_stepP rfl rfl rfl (o_move rfl) ?_
 refine f_stepP rfl rfl rfl (o_extract rfl rfl) ?_
 refine f_stepP rfl rfl rfl (o_extract rfl rfl) ?_
 refine f_step rfl rfl rfl (o_alloc Try.zeroValue60 rfl fun b8 => ?_)
 refine f_step0 rfl rfl (o_storeA Try.sizeOf60 rfl rfl rfl rfl (by first | exact Nat.le_of_ble_eq_true rfl | (simp; done) | (simp; omega)) [rowV r, .int .i64 x] rfl ?_)
 refine f_stepP rfl rfl rfl (o_assign rfl) ?_
 refine f_done ?_
 refine f_tn (kh2 _ _ ?_)
 clear kh2
 refine f_seq fun K3 kh3 => ?_
 refine f_seq fun K4 kh4 => ?_
 refine f_region ?_
 refine f_stepP rfl rfl rfl (o_move rfl) ?_
 refine f_stepP rfl rfl rfl (o_neq rfl rfl) ?_
 refine f_done ?_
 refine f_tn (kh4 _ _ ?_)
 clear kh4
 refine f_cond rfl (fun c18 => ?_) (fun c18 => ?_)
 ·
  refine f_seq fun K5 kh5 => ?_
  refine f_region ?_
  refine f_stepP rfl rfl rfl (o_move rfl) ?_
  refine f_stepP rfl rfl rfl (o_assign rfl) ?_
  refine f_stepP rfl rfl rfl (o_assign rfl) ?_
  refine f_done ?_
  refine f_tn (kh5 _ _ ?_)
  clear kh5
  refine f_ret ?_
  refine f_tr ?_
  exact f_fin2 [] Try.results10 rfl rfl (by repeat (first | exact Sub.nil | refine Sub.pick ?_ | refine Sub.castO rfl ?_ | refine Sub.skip ?_)) ⟨by rw [if_pos (by simpa using c18)], rfl⟩
 ·
  have hlz : lkE N l bs (rowsL R) q = 0 := by simpa using c18
  obtain ⟨hx, hrr⟩ := hrx hlz
  have hrm := List.mem_of_getElem? hrr
  have hrr2 := hn.rows r hrm
  obtain ⟨n, k, hNn, hNo, hqk, hkb⟩ := lkE_zero hlz
  have hRr := hNo.right hkb
  have hrow := row_get hrr (by omega)
  rw [show q.toNat - 1 = k by omega] at hrow
  rw [hrow] at hRr
  have hn1 := hNo.n1
  have hmany := hNo.many
  have hrlen := (right_parts hRr).2
  have hrng := right_range hRr (by omega)
  refine f_skip ?_
  refine f_tn (kh3 _ _ ?_)
  clear kh3
  refine f_seq fun K6 kh6 => ?_
  refine f_region ?_
  refine f_stepP rfl rfl rfl (o_field fa60_0 rfl) ?_
  refine f_stepP rfl rfl rfl (o_load Try.isAgg58 rfl (rdA rfl)) ?_
  refine f_step rfl rfl rfl (o_call Try.call31 rfl (fun w_ hp_ => lmany_spec r.1 r.2.1 r.2.2 w_ (hrr2.1.up0 hp_) (by omega) hrr2.2 (by have := hrng _ (List.getElem_mem (show 0 < r.2.1.length by omega)); have := maxL_le (L := r.2.1) (b := 2000) (by omega) (fun x hx => by have := hrng x hx; omega); omega)) ?_)
  rintro _ _ ⟨rfl, rfl⟩
  dsimp only [List.cons_append, List.nil_append]
  refine f_stepP rfl rfl rfl (o_assign rfl) ?_
  refine f_stepP rfl rfl rfl (o_assign rfl) ?_
  refine f_done ?_
  refine f_tn (kh6 _ _ ?_)
  clear kh6
  refine f_ret ?_
  exact f_fin2 [] Try.results10 rfl rfl (by repeat (first | exact Sub.nil | refine Sub.pick ?_ | refine Sub.castO rfl ?_ | refine Sub.skip ?_)) ⟨by rw [if_neg (by rw [hlz]; simp), hlz, show q.toNat - 1 = k by omega, hrow], rfl⟩

set_option maxRecDepth 100000 in
set_option maxHeartbeats 4000000 in
theorem cellOf_spec (N : Int) (A : Option Addr) (l : List Arc) (cap : Nat) (Ab : Option Addr) (bs : List Int) (cb : Nat) (Ac : Option Addr) (R : List Row) (cc : Nat) (q c : Int) (w : World) (hr : Ro (Fr w []) w A (l.flatMap arcCs)) (hl : l.length ≤ 9223372036854775807) (hN : I64 N) (hok : ∀ x ∈ l, ArcOk x) (hn : NestRo (Fr w []) w Ab bs Ac R) :
    Meets Try.prog 47 [.agg #[.int .i64 N, .slice A l.length cap], .agg #[.slice Ab bs.length cb, .slice Ac R.length cc], .int .i64 q, .int .i64 c] w [] (fun u m => ∃ (r : Row) (x : Int), u = .tuple #[.agg #[rowV r, .int .i64 x], .int .i64 (clE N l bs (rowsL R) q c)] ∧ m = [] ∧ (clE N l bs (rowsL R) q c = 0 → x = q ∧ R[(q - 1).toNat]? = some r)) := by
 refine f_enter Try.func47 rfl Try.ntmps47 rfl Owns.nil ?_
 refine f_seq fun K1 kh1 => ?_
 refine f_region ?_
 refine f_step rfl rfl rfl (o_box rfl rfl fun b4 => ?_)
 refine f_step rfl rfl rfl (o_box rfl rfl fun b5 => ?_)
 refine f_step rfl rfl rfl (o_alloc Try.zeroValue60 rfl fun b8 => ?_)
 refine f_stepP rfl rfl rfl (o_assign rfl) ?_
 refine f_done ?_
 refine f_tn (kh1 _ _ ?_)
 clear kh1
 refine f_seq fun K2 kh2 => ?_
 refine f_region ?_
 refine f_stepP rfl rfl rfl (o_loadA (vs := [_, _]) Try.isAgg24 Try.sizeOf24 rfl rfl ⟨(rdA rfl), (rdA rfl), trivial⟩) ?_
 refine f_stepP rfl rfl rfl (o_loadA (vs := [_, _]) Try.isAgg28 Try.sizeOf28 rfl rfl ⟨(rdA rfl), (rdA rfl), trivial⟩) ?_
 refine f_stepP rfl rfl rfl (o_move rfl) ?_
 refine f_step rfl rfl rfl (o_call Try.call30 rfl (fun w_ hp_ => nlooked_spec N A l cap Ab bs cb Ac R cc q w_ (hr.up0 hp_) hl hN hok (hn.up0 hp_)) ?_)
 rintro _ _ ⟨r, x, rfl, rfl, hrx⟩
 dsimp only [List.cons_append, List.nil_append]
 refine f_stepP rfl rfl rfl (o_move rfl) ?_
 refine f_stepP rfl rfl rfl (o_extract rfl rfl) ?_
 refine f_stepP rfl rfl rfl (o_extract rfl rfl) ?_
 refine f_step rfl rfl rfl (o_alloc Try.zeroValue60 rfl fun b10 => ?_)
 refine f_step0 rfl rfl (o_storeA Try.sizeOf60 rfl rfl rfl rfl (by first | exact Nat.le_of_ble_eq_true rfl | (simp; done) | (simp; omega)) [rowV r, .int .i64 x] rfl ?_)
 refine f_stepP rfl rfl rfl (o_assign rfl) ?_
 refine f_done ?_
 refine f_tn (kh2 _ _ ?_)
 clear kh2
 refine f_seq fun K3 kh3 => ?_
 refine f_seq fun K4 kh4 => ?_
 refine f_region ?_
 refine f_stepP rfl rfl rfl (o_move rfl) ?_
 refine f_stepP rfl rfl rfl (o_neq rfl rfl) ?_
 refine f_done ?_
 refine f_tn (kh4 _ _ ?_)
 clear kh4
 refine f_cond rfl (fun c20 => ?_) (fun c20 => ?_)
 ·
  refine f_seq fun K5 kh5 => ?_
  refine f_region ?_
  refine f_stepP rfl rfl rfl (o_build (cs := [rowV (none, [], 0), .int .i64 0]) st60 rfl rfl) ?_
  refine f_stepP rfl rfl rfl (o_move rfl) ?_
  refine f_step0 rfl rfl (o_storeA Try.sizeOf60 rfl rfl rfl rfl (by first | exact Nat.le_of_ble_eq_true rfl | (simp; done) | (simp; omega)) [rowV (none, [], 0), .int .i64 0] rfl ?_)
  refine f_stepP rfl rfl rfl (o_assign rfl) ?_
  refine f_done ?_
  refine f_tn (kh5 _ _ ?_)
  clear kh5
  refine f_ret ?_
  refine f_tr ?_
  have e : clE N l bs (rowsL R) q c = lkE N l bs (rowsL R) q := by unfold clE; rw [if_pos (by simpa using c20)]
  exact f_fin2c (vs := [rowV (none, [], 0), .int .i64 0]) [] Try.results47 rfl Try.isAgg60 Try.sizeOf60 rfl ⟨(rdA rfl), (rdA rfl), trivial⟩ rfl (by repeat (first | exact Sub.nil | refine Sub.pick ?_ | refine Sub.castO rfl ?_ | refine Sub.skip ?_)) ⟨(none, [], 0), 0, by rw [e], rfl, fun h => absurd (e.symm.trans h) (by simpa using c20)⟩
 ·
  have hlz : lkE N l bs (rowsL R) q = 0 := by simpa using c20
  obtain ⟨hx, hrr⟩ := hrx hlz
  have hrm := List.mem_of_getElem? hrr
  have hrr2 := hn.rows r hrm
  obtain ⟨n, k, hNn, hNo, hqk, hkb⟩ := lkE_zero hlz
  have hRr := hNo.right hkb
  have hrow := row_get hrr (by omega)
  rw [show q.toNat - 1 = k by omega] at hrow
  rw [hrow] at hRr
  have hn1 := hNo.n1
  have hmany := hNo.many
  have hrlen := (right_parts hRr).2
  have hrng := right_range hRr (by omega)
  have hmx : maxL r.2.1 ≤ 1000000 ∧ -1000000 ≤ maxL r.2.1 := by
    have := hrng _ (List.getElem_mem (show 0 < r.2.1.length by omega))
    have := maxL_le (L := r.2.1) (b := 2000) (by omega) (fun x hx => by have := hrng x hx; omega)
    omega
  have hce : clE N l bs (rowsL R) q c = if c < 0 ∨ maxL r.2.1 + 1 ≤ c then 120 else 0 := by unfold clE; rw [if_neg (by rw [hlz]; simp), show q.toNat - 1 = k by omega, hrow]
  refine f_skip ?_
  refine f_tn (kh3 _ _ ?_)
  clear kh3
  refine f_seq fun K6 kh6 => ?_
  refine f_seq fun K7 kh7 => ?_
  refine f_region ?_
  refine f_stepP rfl rfl rfl (o_move rfl) ?_
  refine f_stepP rfl rfl rfl (o_lss rfl rfl) ?_
  refine f_stepP rfl rfl rfl (o_move rfl) ?_
  refine f_splitL 25 rfl (fun g25 => ?_) (fun g25 => ?_)
  ·
   refine f_stepN rfl rfl rfl rfl rfl rfl ?_
   refine f_stepN rfl rfl rfl rfl rfl rfl ?_
   refine f_stepN rfl rfl rfl rfl rfl rfl ?_
   refine f_stepN rfl rfl rfl rfl rfl rfl ?_
   refine f_stepN rfl rfl rfl rfl rfl rfl ?_
   refine f_stepP rfl rfl rfl (o_pickT rfl rfl) ?_
   refine f_done ?_
   refine f_tn (kh7 _ _ ?_)
   clear kh7
   refine f_condT rfl ?_
   refine f_seq fun K8 kh8 => ?_
   refine f_region ?_
   refine f_stepP rfl rfl rfl (o_build (cs := [rowV (none, [], 0), .int .i64 0]) st60 rfl rfl) ?_
   refine f_step0 rfl rfl (o_storeA Try.sizeOf60 rfl rfl rfl rfl (by first | exact Nat.le_of_ble_eq_true rfl | (simp; done) | (simp; omega)) [rowV (none, [], 0), .int .i64 0] rfl ?_)
   refine f_stepP rfl rfl rfl (o_assign rfl) ?_
   refine f_done ?_
   refine f_tn (kh8 _ _ ?_)
   clear kh8
   refine f_ret ?_
   refine f_tr ?_
   have e := hce.trans (if_pos (by omega))
   exact f_fin2c (vs := [rowV (none, [], 0), .int .i64 0]) [] Try.results47 rfl Try.isAgg60 Try.sizeOf60 rfl ⟨(rdA rfl), (rdA rfl), trivial⟩ rfl (by repeat (first | exact Sub.nil | refine Sub.pick ?_ | refine Sub.castO rfl ?_ | refine Sub.skip ?_)) ⟨(none, [], 0), 0, by rw [e], rfl, fun h => absurd (e.symm.trans h) (by decide)⟩
  ·
   refine f_stepPY rfl rfl rfl rfl rfl (o_move rfl) ?_
   refine f_stepPY rfl rfl rfl rfl rfl (o_field fa60_0 rfl) ?_
   refine f_stepPY rfl rfl rfl rfl rfl (o_load Try.isAgg58 rfl (rdA rfl)) ?_
   refine f_stepY rfl rfl rfl rfl rfl (o_call Try.call31 rfl (fun w_ hp_ => lmany_spec r.1 r.2.1 r.2.2 w_ (hrr2.1.up0 hp_) (by omega) hrr2.2 hmx) ?_)
   rintro _ _ ⟨rfl, rfl⟩
   dsimp only [List.cons_append, List.nil_append]
   refine f_stepPY rfl rfl rfl rfl rfl (o_geq rfl rfl) ?_
   refine f_stepP rfl rfl rfl (o_pickF rfl rfl) ?_
   refine f_done ?_
   refine f_tn (kh7 _ _ ?_)
   clear kh7
   refine f_cond rfl (fun c31 => ?_) (fun c31 => ?_)
   ·
    refine f_seq fun K9 kh9 => ?_
    refine f_region ?_
    refine f_stepP rfl rfl rfl (o_build (cs := [rowV (none, [], 0), .int .i64 0]) st60 rfl rfl) ?_
    refine f_step0 rfl rfl (o_storeA Try.sizeOf60 rfl rfl rfl rfl (by first | exact Nat.le_of_ble_eq_true rfl | (simp; done) | (simp; omega)) [rowV (none, [], 0), .int .i64 0] rfl ?_)
    refine f_stepP rfl rfl rfl (o_assign rfl) ?_
    refine f_done ?_
    refine f_tn (kh9 _ _ ?_)
    clear kh9
    refine f_ret ?_
    refine f_tr ?_
    have e := hce.trans (if_pos (by omega))
    exact f_fin2c (vs := [rowV (none, [], 0), .int .i64 0]) [] Try.results47 rfl Try.isAgg60 Try.sizeOf60 rfl ⟨(rdA rfl), (rdA rfl), trivial⟩ rfl (by repeat (first | exact Sub.nil | refine Sub.pick ?_ | refine Sub.castO rfl ?_ | refine Sub.skip ?_)) ⟨(none, [], 0), 0, by rw [e], rfl, fun h => absurd (e.symm.trans h) (by decide)⟩
   ·
    refine f_skip ?_
    refine f_tn (kh6 _ _ ?_)
    clear kh6
    refine f_seq fun K10 kh10 => ?_
    refine f_region ?_
    refine f_stepP rfl rfl rfl (o_loadA (vs := [rowV r, .int .i64 x]) Try.isAgg60 Try.sizeOf60 rfl rfl ⟨(rdA rfl), (rdA rfl), trivial⟩) ?_
    refine f_step0 rfl rfl (o_storeA Try.sizeOf60 rfl rfl rfl rfl (by first | exact Nat.le_of_ble_eq_true rfl | (simp; done) | (simp; omega)) [rowV r, .int .i64 x] rfl ?_)
    refine f_stepP rfl rfl rfl (o_assign rfl) ?_
    refine f_done ?_
    refine f_tn (kh10 _ _ ?_)
    clear kh10
    refine f_ret ?_
    have e := hce.trans (if_neg (by omega))
    exact f_fin2c (vs := [rowV r, .int .i64 x]) [] Try.results47 rfl Try.isAgg60 Try.sizeOf60 rfl ⟨(rdA rfl), (rdA rfl), trivial⟩ rfl (by repeat (first | exact Sub.nil | refine Sub.pick ?_ | refine Sub.castO rfl ?_ | refine Sub.skip ?_)) ⟨r, x, by rw [e], rfl, fun _ => ⟨hx, hrr⟩⟩

set_option maxRecDepth 100000 in
set_option maxHeartbeats 4000000 in
theorem NMembers_spec (N : Int) (A : Option Addr) (l : List Arc) (cap : Nat) (Ab : Option Addr) (bs : List Int) (cb : Nat) (Ac : Option Addr) (R : List Row) (cc : Nat) (q c : Int) (w : World) (hr : Ro (Fr w []) w A (l.flatMap arcCs)) (hl : l.length ≤ 9223372036854775807) (hN : I64 N) (hok : ∀ x ∈ l, ArcOk x) (hn : NestRo (Fr w []) w Ab bs Ac R) :
    Meets Try.prog 52 [.agg #[.int .i64 N, .slice A l.length cap], .agg #[.slice Ab bs.length cb, .slice Ac R.length cc], .int .i64 q, .int .i64 c] w [] (fun u own' => ∃ (M : List Int) (A' : Option Addr) (c' : Nat) (m' : Seg), u = .tuple #[.slice A' M.length c', .int .i64 (clE N l bs (rowsL R) q c)] ∧ own' = [m'] ∧ Own 3 1 (.slice A' M.length c') M.length (ints M) m' ∧ (clE N l bs (rowsL R) q c ≠ 0 → M = []) ∧ (clE N l bs (rowsL R) q c = 0 → M = memTo ((rowsL R).getD (q.toNat - 1) []) c ((rowsL R).getD (q.toNat - 1) []).length)) := by
 refine f_enter Try.func52 rfl Try.ntmps52 rfl Owns.nil ?_
 refine f_seq fun K1 kh1 => ?_
 refine f_region ?_
 refine f_step rfl rfl rfl (o_box rfl rfl fun b4 => ?_)
 refine f_step rfl rfl rfl (o_box rfl rfl fun b5 => ?_)
 refine f_stepP rfl rfl rfl (o_assign rfl) ?_
 refine f_stepP rfl rfl rfl (o_assign rfl) ?_
 refine f_done ?_
 refine f_tn (kh1 _ _ ?_)
 clear kh1
 refine f_seq fun K2 kh2 => ?_
 refine f_region ?_
 refine f_stepP rfl rfl rfl (o_loadA (vs := [_, _]) Try.isAgg24 Try.sizeOf24 rfl rfl ⟨(rdA rfl), (rdA rfl), trivial⟩) ?_
 refine f_stepP rfl rfl rfl (o_loadA (vs := [_, _]) Try.isAgg28 Try.sizeOf28 rfl rfl ⟨(rdA rfl), (rdA rfl), trivial⟩) ?_
 refine f_stepP rfl rfl rfl (o_move rfl) ?_
 refine f_stepP rfl rfl rfl (o_move rfl) ?_
 refine f_step rfl rfl rfl (o_call Try.call47 rfl (fun w_ hp_ => cellOf_spec N A l cap Ab bs cb Ac R cc q c w_ (hr.up0 hp_) hl hN hok (hn.up0 hp_)) ?_)
 rintro _ _ ⟨r, x, rfl, rfl, hrx⟩
 dsimp only [List.cons_append, List.nil_append]
 refine f_stepP rfl rfl rfl (o_move rfl) ?_
 refine f_stepP rfl rfl rfl (o_extract rfl rfl) ?_
 refine f_stepP rfl rfl rfl (o_extract rfl rfl) ?_
 refine f_step rfl rfl rfl (o_alloc Try.zeroValue60 rfl fun b10 => ?_)
 refine f_step0 rfl rfl (o_storeA Try.sizeOf60 rfl rfl rfl rfl (by first | exact Nat.le_of_ble_eq_true rfl | (simp; done) | (simp; omega)) [rowV r, .int .i64 x] rfl ?_)
 refine f_stepP rfl rfl rfl (o_assign rfl) ?_
 refine f_done ?_
 refine f_tn (kh2 _ _ ?_)
 clear kh2
 refine f_seq fun K3 kh3 => ?_
 refine f_seq fun K4 kh4 => ?_
 refine f_region ?_
 refine f_stepP rfl rfl rfl (o_move rfl) ?_
 refine f_stepP rfl rfl rfl (o_neq rfl rfl) ?_
 refine f_done ?_
 refine f_tn (kh4 _ _ ?_)
 clear kh4
 refine f_cond rfl (fun c21 => ?_) (fun c21 => ?_)
 ·
  refine f_seq fun K5 kh5 => ?_
  refine f_region ?_
  refine f_stepP rfl rfl rfl (o_move rfl) ?_
  refine f_stepP rfl rfl rfl (o_assign rfl) ?_
  refine f_stepP rfl rfl rfl (o_assign rfl) ?_
  refine f_done ?_
  refine f_tn (kh5 _ _ ?_)
  clear kh5
  refine f_ret ?_
  refine f_tr ?_
  exact f_fin2 [[]] Try.results52 rfl rfl (show Fly.Sub _ [[]] from (by repeat (first | exact Sub.nil | refine Sub.pick ?_ | refine Sub.castO rfl ?_ | refine Sub.skip ?_))) ⟨[], none, 0, [], rfl, rfl, Own.nil _ _, fun _ => rfl, fun h => absurd h (by simpa using c21)⟩
 ·
  have hcz : clE N l bs (rowsL R) q c = 0 := by simpa using c21
  obtain ⟨hx, hrr⟩ := hrx hcz
  have hlz := clE_row hcz
  have hrm := List.mem_of_getElem? hrr
  have hrr2 := hn.rows r hrm
  obtain ⟨n, k, j, hNn, hNo, hqk, hkb, hcj, hjm⟩ := clE_zero hcz
  have hRr := hNo.right hkb
  have hrow := row_get hrr (by omega)
  rw [show q.toNat - 1 = k by omega] at hrow
  rw [hrow] at hRr hjm
  have hn1 := hNo.n1
  have hmany := hNo.many
  have hrlen := (right_parts hRr).2
  have hRl := hNo.len
  rw [rowsL_len] at hRl
  have hmpos := mem_pos hRr (by omega) hjm
  rw [← hcj] at hmpos
  refine f_skip ?_
  refine f_tn (kh3 _ _ ?_)
  clear kh3
  refine f_seq fun K6 kh6 => ?_
  refine f_region ?_
  refine f_stepP rfl rfl rfl (o_field fa60_0 rfl) ?_
  refine f_stepP rfl rfl rfl (o_load Try.isAgg58 rfl (rdA rfl)) ?_
  refine f_stepP rfl rfl rfl (o_move rfl) ?_
  refine f_step rfl rfl rfl (o_call Try.call49 rfl (fun w_ hp_ => lmem_spec r.1 r.2.1 r.2.2 c w_ (hrr2.1.up0 hp_) (by omega)) ?_)
  rintro _ _ ⟨Am, cm, mm, rfl, rfl, hOm⟩
  have hml := memTo_len r.2.1 c r.2.1.length
  dsimp only [List.cons_append, List.nil_append]
  refine f_stepP rfl rfl rfl (o_assign rfl) ?_
  refine f_stepP rfl rfl rfl (o_assign rfl) ?_
  refine f_done ?_
  refine f_tn (kh6 _ _ ?_)
  clear kh6
  refine f_ret ?_
  exact f_fin2 [mm] Try.results52 rfl rfl (by repeat (first | exact Sub.nil | refine Sub.pick ?_ | refine Sub.castO rfl ?_ | refine Sub.skip ?_)) ⟨_, Am, cm, mm, by rw [hcz], rfl, hOm, fun h => absurd hcz h, fun _ => by rw [show q.toNat - 1 = k by omega, hrow]⟩

set_option maxRecDepth 100000 in
set_option maxHeartbeats 4000000 in
theorem NChildren_spec (N : Int) (A : Option Addr) (l : List Arc) (cap : Nat) (Ab : Option Addr) (bs : List Int) (cb : Nat) (Ac : Option Addr) (R : List Row) (cc : Nat) (q c : Int) (w : World) (hr : Ro (Fr w []) w A (l.flatMap arcCs)) (hl : l.length ≤ 9223372036854775807) (hN : I64 N) (hok : ∀ x ∈ l, ArcOk x) (hn : NestRo (Fr w []) w Ab bs Ac R) :
    Meets Try.prog 26 [.agg #[.int .i64 N, .slice A l.length cap], .agg #[.slice Ab bs.length cb, .slice Ac R.length cc], .int .i64 q, .int .i64 c] w [] (fun u own' => ∃ (M : List Int) (A' : Option Addr) (c2 : Nat) (m' : Seg), u = .tuple #[.slice A' M.length M.length, .int .i64 (chE N l bs (rowsL R) q c)] ∧ own' = [m'] ∧ Own 3 1 (.slice A' M.length c2) M.length (ints M) m' ∧ (chE N l bs (rowsL R) q c ≠ 0 → M = []) ∧ (chE N l bs (rowsL R) q c = 0 → M = chL (rowsL R) q c)) := by
 refine f_enter Try.func26 rfl Try.ntmps26 rfl Owns.nil ?_
 refine f_seq fun K1 kh1 => ?_
 refine f_region ?_
 refine f_step rfl rfl rfl (o_box rfl rfl fun b4 => ?_)
 refine f_step rfl rfl rfl (o_box rfl rfl fun b5 => ?_)
 refine f_stepP rfl rfl rfl (o_assign rfl) ?_
 refine f_stepP rfl rfl rfl (o_assign rfl) ?_
 refine f_done ?_
 refine f_tn (kh1 _ _ ?_)
 clear kh1
 refine f_seq fun K2 kh2 => ?_
 refine f_region ?_
 refine f_stepP rfl rfl rfl (o_loadA (vs := [_, _]) Try.isAgg24 Try.sizeOf24 rfl rfl ⟨(rdA rfl), (rdA rfl), trivial⟩) ?_
 refine f_stepP rfl rfl rfl (o_loadA (vs := [_, _]) Try.isAgg28 Try.sizeOf28 rfl rfl ⟨(rdA rfl), (rdA rfl), trivial⟩) ?_
 refine f_stepP rfl rfl rfl (o_move rfl) ?_
 refine f_stepP rfl rfl rfl (o_move rfl) ?_
 refine f_step rfl rfl rfl (o_call Try.call47 rfl (fun w_ hp_ => cellOf_spec N A l cap Ab bs cb Ac R cc q c w_ (hr.up0 hp_) hl hN hok (hn.up0 hp_)) ?_)
 rintro _ _ ⟨r, x, rfl, rfl, hrx⟩
 dsimp only [List.cons_append, List.nil_append]
 refine f_stepP rfl rfl rfl (o_move rfl) ?_
 refine f_stepP rfl rfl rfl (o_extract rfl rfl) ?_
 refine f_stepP rfl rfl rfl (o_extract rfl rfl) ?_
 refine f_step rfl rfl rfl (o_alloc Try.zeroValue60 rfl fun b10 => ?_)
 refine f_step0 rfl rfl (o_storeA Try.sizeOf60 rfl rfl rfl rfl (by first | exact Nat.le_of_ble_eq_true rfl | (simp; done) | (simp; omega)) [rowV r, .int .i64 x] rfl ?_)
 refine f_stepP rfl rfl rfl (o_assign rfl) ?_
 refine f_done ?_
 refine f_tn (kh2 _ _ ?_)
 clear kh2
 refine f_seq fun K3 kh3 => ?_
 refine f_seq fun K4 kh4 => ?_
 refine f_region ?_
 refine f_stepP rfl rfl rfl (o_move rfl) ?_
 refine f_stepP rfl rfl rfl (o_neq rfl rfl) ?_
 refine f_done ?_
 refine f_tn (kh4 _ _ ?_)
 clear kh4
 refine f_cond rfl (fun c25 => ?_) (fun c25 => ?_)
 ·
  refine f_seq fun K5 kh5 => ?_
  refine f_region ?_
  refine f_stepP rfl rfl rfl (o_move rfl) ?_
  refine f_stepP rfl rfl rfl (o_assign rfl) ?_
  refine f_stepP rfl rfl rfl (o_assign rfl) ?_
  refine f_done ?_
  refine f_tn (kh5 _ _ ?_)
  clear kh5
  refine f_ret ?_
  refine f_tr ?_
  have e : chE N l bs (rowsL R) q c = clE N l bs (rowsL R) q c := by unfold chE; rw [if_pos (by simpa using c25)]
  exact f_fin2 [[]] Try.results26 rfl rfl (show Fly.Sub _ [[]] from (by repeat (first | exact Sub.nil | refine Sub.pick ?_ | refine Sub.castO rfl ?_ | refine Sub.skip ?_))) ⟨[], none, 0, [], by rw [e]; rfl, rfl, Own.nil _ _, fun _ => rfl, fun h => absurd (e.symm.trans h) (by simpa using c25)⟩
 ·
  have hcz : clE N l bs (rowsL R) q c = 0 := by simpa using c25
  obtain ⟨hx, hrr⟩ := hrx hcz
  have hlz := clE_row hcz
  have hrm := List.mem_of_getElem? hrr
  have hrr2 := hn.rows r hrm
  obtain ⟨n, k, j, hNn, hNo, hqk, hkb, hcj, hjm⟩ := clE_zero hcz
  have hRr := hNo.right hkb
  have hrow := row_get hrr (by omega)
  rw [show q.toNat - 1 = k by omega] at hrow
  rw [hrow] at hRr hjm
  have hn1 := hNo.n1
  have hmany := hNo.many
  have hrlen := (right_parts hRr).2
  have hRl := hNo.len
  rw [rowsL_len] at hRl
  have hmpos := mem_pos hRr (by omega) hjm
  rw [← hcj] at hmpos
  refine f_skip ?_
  refine f_tn (kh3 _ _ ?_)
  clear kh3
  refine f_seq fun K6 kh6 => ?_
  refine f_seq fun K7 kh7 => ?_
  refine f_region ?_
  refine f_stepP rfl rfl rfl (o_field fa60_1 rfl) ?_
  refine f_stepP rfl rfl rfl (o_load Try.isAgg3 rfl (rdA rfl)) ?_
  refine f_stepP rfl rfl rfl (o_eql rfl rfl) ?_
  refine f_done ?_
  refine f_tn (kh7 _ _ ?_)
  clear kh7
  refine f_cond rfl (fun c29 => ?_) (fun c29 => ?_)
  ·
   refine f_seq fun K8 kh8 => ?_
   refine f_region ?_
   refine f_stepP rfl rfl rfl (o_assign rfl) ?_
   refine f_stepP rfl rfl rfl (o_assign rfl) ?_
   refine f_done ?_
   refine f_tn (kh8 _ _ ?_)
   clear kh8
   refine f_ret ?_
   refine f_tr ?_
   have e : chE N l bs (rowsL R) q c = 111 := by unfold chE; rw [if_neg (by rw [hcz]; simp), if_pos (by omega)]
   exact f_fin2 [[]] Try.results26 rfl rfl (show Fly.Sub _ [[]] from (by repeat (first | exact Sub.nil | refine Sub.pick ?_ | refine Sub.castO rfl ?_ | refine Sub.skip ?_))) ⟨[], none, 0, [], by rw [e]; rfl, rfl, Own.nil _ _, fun _ => rfl, fun h => absurd (e.symm.trans h) (by decide)⟩
  ·
   have hk0 : 1 ≤ k := by omega
   have hk1 : k - 1 < R.length := by omega
   have hlow := hn.rows _ (List.getElem_mem hk1)
   have hRlow := hNo.right (k := k - 1) (by omega)
   rw [rowsL_at hk1] at hRlow
   have hlowl := (right_parts hRlow).2
   refine f_skip ?_
   refine f_tn (kh6 _ _ ?_)
   clear kh6
   refine f_seq fun K9 kh9 => ?_
   refine f_region ?_
   refine f_stepP rfl rfl rfl (o_loadA (vs := [_, _]) Try.isAgg28 Try.sizeOf28 rfl rfl ⟨(rdA rfl), (rdA rfl), trivial⟩) ?_
   refine f_stepP rfl rfl rfl (o_move rfl) ?_
   refine f_stepP rfl rfl rfl (o_sub rfl rfl _ (wrap_i64 (by omega))) ?_
   refine f_step rfl rfl rfl (o_call Try.call48 rfl (fun w_ hp_ => (by have h := at_spec Ab bs cb Ac R cc (k - 1) w_ (hn.up0 hp_) hk1; rw [show ((((k - 1 : Nat) : Int)) + 1) = q - 1 by omega] at h; exact h)) ?_)
   rintro _ _ ⟨rfl, rfl⟩
   dsimp only [List.cons_append, List.nil_append]
   refine f_step rfl rfl rfl (o_alloc Try.zeroValue60 rfl fun b12 => ?_)
   refine f_step0 rfl rfl (o_storeA Try.sizeOf60 rfl rfl rfl rfl (by first | exact Nat.le_of_ble_eq_true rfl | (simp; done) | (simp; omega)) [rowV (R[k - 1]'hk1), .int .i64 (q - 1)] rfl ?_)
   refine f_done ?_
   refine f_tn (kh9 _ _ ?_)
   clear kh9
   refine f_seq fun K10 kh10 => ?_
   refine f_region ?_
   refine f_stepP rfl rfl rfl (o_assign rfl) ?_
   refine f_done ?_
   refine f_tn (kh10 _ _ ?_)
   clear kh10
   refine f_seq fun K11 kh11 => ?_
   refine f_seq fun K12 kh12 => ?_
   refine f_region ?_
   refine f_stepP rfl rfl rfl (o_field fa60_0 rfl) ?_
   refine f_stepP rfl rfl rfl (o_load Try.isAgg58 rfl (rdA rfl)) ?_
   refine f_stepP rfl rfl rfl (o_move rfl) ?_
   refine f_step rfl rfl rfl (o_call Try.call49 rfl (fun w_ hp_ => lmem_spec r.1 r.2.1 r.2.2 c w_ (hrr2.1.up0 hp_) (by omega)) ?_)
   rintro _ _ ⟨Am, cm, mm, rfl, rfl, hOm⟩
   have hml := memTo_len r.2.1 c r.2.1.length
   dsimp only [List.cons_append, List.nil_append]
   refine f_stepP rfl rfl rfl (o_len sl25 rfl) ?_
   refine f_stepP rfl rfl rfl (o_move rfl) ?_
   refine f_done ?_
   refine f_tn (kh12 _ _ ?_)
   clear kh12
   refine f_block ?_
   refine f_loop (α := Nat × Value × Seg) [12, 37, 38] (fun ⟨i, ov, om⟩ => [(39, .int .i64 (i : Int)), (13, ov)]) (fun ⟨i, ov, om⟩ => [om, mm, [(b12, blk [rowV (R[k - 1]'hk1), .int .i64 (q - 1)] 60)]]) (fun ⟨i, ov, om⟩ => i ≤ (memTo r.2.1 c r.2.1.length).length ∧ Own 3 1 ov (lowL (R[k - 1]'hk1).2.1 ((memTo r.2.1 c r.2.1.length).take i)).length (ints (lowL (R[k - 1]'hk1).2.1 ((memTo r.2.1 c r.2.1.length).take i))) om) (fun ⟨i, ov, om⟩ => (memTo r.2.1 c r.2.1.length).length - i) (0, .slice none 0 0, []) ?_ ?_ ?_ ?_
   · exact (by repeat (first | exact trivial | refine ⟨rfl, ?_⟩))
   · repeat (first | exact Sub.nil | refine Sub.pick ?_ | refine Sub.castO rfl ?_ | refine Sub.skip ?_)
   · exact ⟨Nat.zero_le _, Own.nil _ _⟩
   ·
    rintro ⟨i, ov, om⟩ ⟨hil, hO⟩
    have hll := lowL_len (R[k - 1]'hk1).2.1 ((memTo r.2.1 c r.2.1.length).take i)
    rw [List.length_take] at hll
    obtain ⟨Ao, co, rfl, hco⟩ := hO.val
    refine f_seq fun K13 kh13 => ?_
    refine f_region ?_
    refine f_stepP rfl rfl rfl (o_lss rfl rfl) ?_
    refine f_done ?_
    refine f_tn (kh13 _ _ ?_)
    clear kh13
    refine f_seq fun K14 kh14 => ?_
    refine f_cond rfl (fun c40 => ?_) (fun c40 => ?_)
    ·
     have hi : i < (memTo r.2.1 c r.2.1.length).length := by omega
     obtain ⟨bM, spM, rfl, rfl⟩ := hOm.at_ (by omega)
     obtain ⟨v, hv, hvl, hvc⟩ := memTo_mem.1 (List.getElem_mem hi)
     obtain ⟨bl, ol, hAl, hSl, hcl⟩ := hlow.1 (fun e => by have := ints_length (R[k - 1]'hk1).2.1; rw [e] at this; simp at this; omega)
     have hvl2 : v < (R[k - 1]'hk1).2.1.length := by omega
     have hlx := lowL_next (B := (R[k - 1]'hk1).2.1) hi
     have hgv : (R[k - 1]'hk1).2.1.getD (memTo r.2.1 c r.2.1.length)[i].toNat 0 = (R[k - 1]'hk1).2.1[v] := by rw [hv, Int.toNat_natCast]; simp [List.getD_eq_getElem?_getD, hvl2]
     refine f_skip ?_
     refine f_tn (kh14 _ _ ?_)
     clear kh14
     refine f_seq fun K15 kh15 => ?_
     refine f_block ?_
     refine f_seq fun K16 kh16 => ?_
     refine f_region ?_
     refine f_stepP rfl rfl rfl (o_idx sl25 rfl rfl (i) ⟨by omega, by omega, by first | omega | (simp; done) | (simp; omega)⟩) ?_
     refine f_stepP rfl rfl rfl (o_load Try.isAgg3 rfl (rdA (v := .int .i64 (v : Int)) (app_get (by rw [ints_get hi, hv])))) ?_
     refine f_stepP rfl rfl rfl (o_assign rfl) ?_
     refine f_done ?_
     refine f_tn (kh16 _ _ ?_)
     clear kh16
     refine f_region ?_
     refine f_stepP rfl rfl rfl (o_move rfl) ?_
     refine f_stepP rfl rfl rfl (o_field fa60_0 rfl) ?_
     refine f_stepP rfl rfl rfl (o_load Try.isAgg58 rfl (v := .slice (some ⟨bl, ol, none⟩) (R[k - 1]'hk1).2.1.length (R[k - 1]'hk1).2.2) (rdA (by rw [← hAl]; rfl))) ?_
     refine f_stepP rfl rfl rfl (o_move rfl) ?_
     refine f_stepP rfl rfl rfl (o_idx sl58 rfl rfl (ol + v) ⟨by omega, by omega, by first | omega | (simp; done) | (simp; omega)⟩) ?_
     refine f_stepP rfl rfl rfl (o_load Try.isAgg3 rfl (roOne (enc := (.int .i64 ·)) hSl hcl hvl2)) ?_
     refine f_step rfl rfl rfl (o_slice1 el25 (by omega) rfl rfl rfl fun b49 => ?_)
     refine f_step rfl rfl rfl (o_append el25 rfl rfl hO (ys := [.int .i64 (R[k - 1]'hk1).2.1[v]]) ⟨(rdA rfl), trivial⟩ rfl rfl (by omega) (by omega) fun v50 m50 o50 => ?_)
     refine f_stepP rfl rfl rfl (o_assign rfl) ?_
     refine f_done ?_
     refine f_bn ?_
     refine f_tn (kh15 _ _ ?_)
     clear kh15
     refine f_region ?_
     refine f_stepP rfl rfl rfl (o_add rfl rfl _ (wrap_i64 (by omega))) ?_
     refine f_stepP rfl rfl rfl (o_move rfl) ?_
     refine f_done ?_
     refine f_tn (f_again (i + 1, v50, m50) (by first | omega | (dsimp only; omega) | (simp; omega)) ⟨by omega, by rw [hlx, hgv, List.length_append, ints_append]; exact o50⟩ ?_ ?_ ?_)
     · exact (by repeat (first | exact trivial | refine ⟨rfl, ?_⟩))
     · exact (by repeat (first | exact trivial | refine ⟨rfl, ?_⟩))
     · repeat (first | exact Sub.nil | refine Sub.pick ?_ | refine Sub.castO rfl ?_ | refine Sub.skip ?_)
    ·
     obtain rfl : i = (memTo r.2.1 c r.2.1.length).length := by omega
     rw [List.take_length] at hO
     obtain ⟨LO, hLO⟩ : ∃ LO, lowL (R[k - 1]'hk1).2.1 (memTo r.2.1 c r.2.1.length) = LO := ⟨_, rfl⟩
     have hLOl : LO.length = (memTo r.2.1 c r.2.1.length).length := by rw [← hLO, lowL_len]
     rw [hLO] at hO
     refine f_reC 13 rfl (v := .slice Ao LO.length co) (by rw [List.take_length, hLO]) ?_
     refine f_exit ?_
     refine f_te ?_
     clear kh14
     refine f_te ?_
     refine f_be ?_
     refine f_tn (kh11 _ _ ?_)
     clear kh11
     refine f_seq fun K17 kh17 => ?_
     refine f_region ?_
     refine f_stepP rfl rfl rfl (o_move rfl) ?_
     refine f_step rfl rfl rfl (o_callM [om] _ Try.call33 rfl (by repeat (first | exact Sub.refl | refine Sub.pick ?_)) (fun w_ hp_ => SortInts_spec Ao co LO om w_ hO (by omega) hp_.owns) ?_)
     rintro _ _ ⟨rfl, m2, rfl, ho2⟩
     dsimp only [List.cons_append, List.nil_append]
     refine f_done ?_
     refine f_tn (kh17 _ _ ?_)
     clear kh17
     refine f_seq fun K18 kh18 => ?_
     refine f_region ?_
     refine f_stepP rfl rfl rfl (o_move rfl) ?_
     refine f_step rfl rfl rfl (o_callM [m2] _ Try.call35 rfl (by repeat (first | exact Sub.refl | refine Sub.pick ?_)) (fun w_ hp_ => (by have h := Compact_spec Ao co (sortI LO) m2 w_ (by rw [sortI_len]; exact ho2) (by rw [sortI_len]; omega) hp_.owns; rw [sortI_len] at h; exact h)) ?_)
     rintro v55 _ ⟨m3, rfl, ho3⟩
     obtain ⟨A3, c3, rfl, hc3⟩ := ho3.val
     dsimp only [List.cons_append, List.nil_append]
     refine f_step rfl rfl rfl (o_call Try.call50 rfl (fun w_ hp_ => Clip_spec A3 (cpt (sortI LO)).length c3 w_ hc3.1 hc3.2 (own_none ho3)) ?_)
     rintro _ _ ⟨rfl, rfl⟩
     dsimp only [List.cons_append, List.nil_append]
     refine f_stepP rfl rfl rfl (o_assign rfl) ?_
     refine f_stepP rfl rfl rfl (o_assign rfl) ?_
     refine f_done ?_
     refine f_tn (kh18 _ _ ?_)
     clear kh18
     refine f_ret ?_
     have e : chE N l bs (rowsL R) q c = 0 := by unfold chE; rw [if_neg (by rw [hcz]; simp), if_neg (by omega)]
     exact f_fin2 [m3] Try.results26 rfl rfl (by repeat (first | exact Sub.nil | refine Sub.pick ?_ | refine Sub.castO rfl ?_ | refine Sub.skip ?_)) ⟨_, A3, c3, m3, by rw [e], rfl, ho3, fun h => absurd e h, fun _ => by unfold chL; rw [show q.toNat - 1 = k by omega, show q.toNat - 2 = k - 1 by omega, hrow, rowsL_at hk1, hLO]⟩

end Go.Proofs.Ytkmkakpadgljeaa
