import Derived.Test.YtkmkakpadgljeaaGreatAll4
import Derived.Test.YtkmkakpadgljeaaGreatAll3
import Derived.Test.YtkmkakpadgljeaaGreatFlyR
import Derived.Test.YtkmkakpadgljeaaGreatFlyT
import Derived.Test.YtkmkakpadgljeaaGreatAll0

/- package cell: Boundary, Index; slices.BinarySearch. -/
namespace Go.Proofs.YtkmkakpadgljeaaGreat
open Go Go.RowKit Fly
set_option linter.unusedVariables false
set_option linter.unusedSimpArgs false


/-- What an arc gives to a cell's boundary. -/
def bdOf (L : List Int) (c : Int) (a : Arc) : List Int := if L.getD a.src.toNat 0 = L.getD a.dst.toNat 0 then [] else (if L.getD a.src.toNat 0 = c then [a.src] else []) ++ (if L.getD a.dst.toNat 0 = c then [a.dst] else [])
def bdR (L : List Int) (c : Int) (l : List Arc) : List Int := l.flatMap (bdOf L c)
/-- A cell's boundary vertices. -/
def bdL (L : List Int) (c : Int) (l : List Arc) : List Int := cpt (sortI (bdR L c l))
theorem bdOf_len (L : List Int) (c : Int) (a : Arc) : (bdOf L c a).length ≤ 2 := by
  unfold bdOf
  by_cases h : L.getD a.src.toNat 0 = L.getD a.dst.toNat 0
  · rw [if_pos h]; simp
  · rw [if_neg h, List.length_append]
    have e (p : Prop) [Decidable p] (x : Int) : (if p then [x] else ([] : List Int)).length ≤ 1 := by split <;> simp
    have := e (L.getD a.src.toNat 0 = c) a.src
    have := e (L.getD a.dst.toNat 0 = c) a.dst
    omega
theorem bdR_next {L : List Int} {c : Int} {l : List Arc} {k : Nat} (hk : k < l.length) : bdR L c (l.take (k + 1)) = bdR L c (l.take k) ++ bdOf L c l[k] := by
  unfold bdR; rw [List.take_succ_eq_append_getElem hk, List.flatMap_append]; simp
theorem bdR_len (L : List Int) (c : Int) : ∀ l : List Arc, (bdR L c l).length ≤ 2 * l.length
  | [] => by simp [bdR]
  | a :: l => by
    have := bdR_len L c l
    have := bdOf_len L c a
    unfold bdR at *
    rw [List.flatMap_cons, List.length_append, List.length_cons]; omega
theorem bdL_rising (L : List Int) (c : Int) (l : List Arc) : (bdL L c l).Pairwise (· < ·) := cpt_int (sortI_sorted _)
theorem bdOf_mem {L : List Int} {c : Int} {a : Arc} {v : Int} : v ∈ bdOf L c a ↔ L.getD a.src.toNat 0 ≠ L.getD a.dst.toNat 0 ∧ ((L.getD a.src.toNat 0 = c ∧ v = a.src) ∨ (L.getD a.dst.toNat 0 = c ∧ v = a.dst)) := by
  unfold bdOf
  split
  · rename_i h; exact ⟨fun h2 => absurd h2 (by simp), fun h2 => absurd h h2.1⟩
  · rename_i h
    rw [List.mem_append]
    constructor
    · rintro (h1 | h1)
      · split at h1
        · rename_i h2; exact ⟨h, .inl ⟨h2, by simpa using h1⟩⟩
        · simp at h1
      · split at h1
        · rename_i h2; exact ⟨h, .inr ⟨h2, by simpa using h1⟩⟩
        · simp at h1
    · rintro ⟨_, ⟨h2, rfl⟩ | ⟨h2, rfl⟩⟩
      · rw [if_pos h2]; exact .inl (by simp)
      · rw [if_pos h2]; exact .inr (by simp)
theorem bdL_mem {L : List Int} {c : Int} {l : List Arc} {v : Int} : v ∈ bdL L c l ↔ ∃ a ∈ l, v ∈ bdOf L c a := by
  unfold bdL; rw [cpt_mem, (sortI_perm _).mem_iff]; unfold bdR; rw [List.mem_flatMap]
/-- The place of a number in a list that rises. -/
theorem rise_lt {l : List Int} (h : l.Pairwise (· < ·)) {i j : Nat} (hij : i < j) (hj : j < l.length) : l[i]'(by omega) < l[j] := List.pairwise_iff_getElem.1 h i j (by omega) hj hij
theorem rise_mem {l : List Int} (h : l.Pairwise (· < ·)) {x : Int} {i : Nat} (hi : i ≤ l.length) (h1 : ∀ j (hj : j < l.length), j < i → l[j] < x) (h2 : ∀ j (hj : j < l.length), i ≤ j → x ≤ l[j]) : x ∈ l ↔ ∃ hi : i < l.length, l[i] = x := by
  constructor
  · intro hm
    obtain ⟨j, hj, rfl⟩ := List.mem_iff_getElem.1 hm
    rcases Nat.lt_trichotomy j i with e | e | e
    · have := h1 j hj e; omega
    · subst e; exact ⟨hj, rfl⟩
    · have := h2 i (by omega) (Nat.le_refl _)
      have := rise_lt h e hj
      omega
  · rintro ⟨hi, rfl⟩; exact List.getElem_mem hi
theorem le_rise {l : List Int} (h : l.Pairwise (· < ·)) {i j : Nat} (hij : i ≤ j) (hj : j < l.length) : l[i]'(by omega) ≤ l[j] := by
  rcases Nat.lt_or_ge i j with e | e
  · have := rise_lt h e hj; omega
  · obtain rfl : i = j := by omega
    exact Int.le_refl _

theorem shr1 {y : Nat} (h : y < 18446744073709551616) : ((y : Nat) : Int).fdiv (2 ^ (min ((1 : Int).toNat) IntKind.u64.bits)) = ((y / 2 : Nat) : Int) := by
  show (y : Int).fdiv 2 = _
  rw [Int.fdiv_eq_ediv_of_nonneg _ (by decide)]
  omega

set_option maxRecDepth 100000 in
set_option maxHeartbeats 4000000 in
theorem cmpNaN_spec (x : Int) (w : World) : Meets Tryz.prog 62 [.int .i64 x] w [] (fun u m => u = .bool false ∧ m = []) := by
 refine f_enter Tryz.func62 rfl Tryz.ntmps62 rfl Owns.nil ?_
 refine f_seq fun K1 kh1 => ?_
 refine f_region ?_
 refine f_stepP rfl rfl rfl (o_assign rfl) ?_
 refine f_done ?_
 refine f_tn (kh1 _ _ ?_)
 clear kh1
 refine f_seq fun K2 kh2 => ?_
 refine f_region ?_
 refine f_stepP rfl rfl rfl (o_move rfl) ?_
 refine f_stepP rfl rfl rfl (o_move rfl) ?_
 refine f_stepP rfl rfl rfl (o_neq rfl rfl) ?_
 refine f_stepP rfl rfl rfl (o_assign rfl) ?_
 refine f_done ?_
 refine f_tn (kh2 _ _ ?_)
 clear kh2
 refine f_ret ?_
 exact f_fin1 [] Tryz.results62 rfl Sub.nil ⟨by simp, rfl⟩

set_option maxRecDepth 100000 in
set_option maxHeartbeats 4000000 in
theorem slNaN_spec (x : Int) (w : World) : Meets Tryz.prog 45 [.int .i64 x] w [] (fun u m => u = .bool false ∧ m = []) := by
 refine f_enter Tryz.func45 rfl Tryz.ntmps45 rfl Owns.nil ?_
 refine f_seq fun K1 kh1 => ?_
 refine f_region ?_
 refine f_stepP rfl rfl rfl (o_assign rfl) ?_
 refine f_done ?_
 refine f_tn (kh1 _ _ ?_)
 clear kh1
 refine f_seq fun K2 kh2 => ?_
 refine f_region ?_
 refine f_stepP rfl rfl rfl (o_move rfl) ?_
 refine f_stepP rfl rfl rfl (o_move rfl) ?_
 refine f_stepP rfl rfl rfl (o_neq rfl rfl) ?_
 refine f_stepP rfl rfl rfl (o_assign rfl) ?_
 refine f_done ?_
 refine f_tn (kh2 _ _ ?_)
 clear kh2
 refine f_ret ?_
 exact f_fin1 [] Tryz.results45 rfl Sub.nil ⟨by simp, rfl⟩

set_option maxRecDepth 100000 in
set_option maxHeartbeats 4000000 in
theorem cmpLess_spec (x y : Int) (w : World) : Meets Tryz.prog 44 [.int .i64 x, .int .i64 y] w [] (fun u m => u = .bool (decide (x < y)) ∧ m = []) := by
 refine f_enter Tryz.func44 rfl Tryz.ntmps44 rfl Owns.nil ?_
 refine f_seq fun K1 kh1 => ?_
 refine f_region ?_
 refine f_stepP rfl rfl rfl (o_assign rfl) ?_
 refine f_done ?_
 refine f_tn (kh1 _ _ ?_)
 clear kh1
 refine f_seq fun K2 kh2 => ?_
 refine f_region ?_
 refine f_stepP rfl rfl rfl (o_move rfl) ?_
 refine f_step rfl rfl rfl (o_call Tryz.call62 rfl (fun w_ hp_ => cmpNaN_spec x w_) ?_)
 rintro _ _ ⟨rfl, rfl⟩
 dsimp only [List.cons_append, List.nil_append]
 refine f_stepP rfl rfl rfl (o_move rfl) ?_
 refine f_stepN rfl rfl rfl rfl rfl rfl ?_
 refine f_stepN rfl rfl rfl rfl rfl rfl ?_
 refine f_stepN rfl rfl rfl rfl rfl rfl ?_
 refine f_stepP rfl rfl rfl (o_pickF rfl rfl) ?_
 refine f_stepP rfl rfl rfl (o_move rfl) ?_
 refine f_stepPY rfl rfl rfl rfl rfl (o_move rfl) ?_
 refine f_stepPY rfl rfl rfl rfl rfl (o_move rfl) ?_
 refine f_stepPY rfl rfl rfl rfl rfl (o_lss rfl rfl) ?_
 refine f_stepP rfl rfl rfl (o_pickF rfl rfl) ?_
 refine f_stepP rfl rfl rfl (o_assign rfl) ?_
 refine f_done ?_
 refine f_tn (kh2 _ _ ?_)
 clear kh2
 refine f_ret ?_
 exact f_fin1 [] Tryz.results44 rfl Sub.nil ⟨rfl, rfl⟩

set_option maxRecDepth 100000 in
set_option maxHeartbeats 4000000 in
theorem BSearch_spec (A : Option Addr) (l : List Int) (cap : Nat) (x : Int) (w : World) (hr : Ro (Fr w []) w A (ints l)) (hm : l.length ≤ 1000000) (hs : l.Pairwise (· < ·)) :
    Meets Tryz.prog 28 [.slice A l.length cap, .int .i64 x] w [] (fun u m => ∃ i : Nat, u = .tuple #[.int .i64 (i : Int), .bool (decide (x ∈ l))] ∧ m = [] ∧ (x ∈ l → l[i]? = some x)) := by
 refine f_enter Tryz.func28 rfl Tryz.ntmps28 rfl Owns.nil ?_
 refine f_seq fun K1 kh1 => ?_
 refine f_region ?_
 refine f_stepP rfl rfl rfl (o_assign rfl) ?_
 refine f_stepP rfl rfl rfl (o_assign rfl) ?_
 refine f_done ?_
 refine f_tn (kh1 _ _ ?_)
 clear kh1
 refine f_seq fun K2 kh2 => ?_
 refine f_region ?_
 refine f_stepP rfl rfl rfl (o_move rfl) ?_
 refine f_stepP rfl rfl rfl (o_len sl25 rfl) ?_
 refine f_stepP rfl rfl rfl (o_assign rfl) ?_
 refine f_done ?_
 refine f_tn (kh2 _ _ ?_)
 clear kh2
 refine f_seq fun K3 kh3 => ?_
 refine f_region ?_
 refine f_stepP rfl rfl rfl (o_move rfl) ?_
 refine f_stepP rfl rfl rfl (o_assign rfl) ?_
 refine f_stepP rfl rfl rfl (o_assign rfl) ?_
 refine f_done ?_
 refine f_tn (kh3 _ _ ?_)
 clear kh3
 refine f_seq fun K4 kh4 => ?_
 refine f_block ?_
 refine f_loop (α := Nat × Nat) [0, 1, 6] (fun ⟨i, j⟩ => [(7, .int .i64 (i : Int)), (8, .int .i64 (j : Int))]) (fun ⟨i, j⟩ => []) (fun ⟨i, j⟩ => i ≤ j ∧ j ≤ l.length ∧ (∀ k (hk : k < l.length), k < i → l[k] < x) ∧ (∀ k (hk : k < l.length), j ≤ k → x ≤ l[k])) (fun ⟨i, j⟩ => j - i) (0, l.length) ?_ ?_ ?_ ?_
 · exact (by repeat (first | exact trivial | refine ⟨rfl, ?_⟩))
 · repeat (first | exact Sub.nil | refine Sub.pick ?_ | refine Sub.castO rfl ?_ | refine Sub.skip ?_)
 · exact ⟨Nat.zero_le _, Nat.le_refl _, fun k _ h => by omega, fun k hk h => by omega⟩
 ·
  rintro ⟨i, j⟩ ⟨hij, hjl, hlo, hhi⟩
  refine f_seq fun K5 kh5 => ?_
  refine f_seq fun K6 kh6 => ?_
  refine f_region ?_
  refine f_stepP rfl rfl rfl (o_move rfl) ?_
  refine f_stepP rfl rfl rfl (o_move rfl) ?_
  refine f_stepP rfl rfl rfl (o_lss rfl rfl) ?_
  refine f_done ?_
  refine f_tn (kh6 _ _ ?_)
  clear kh6
  refine f_cond rfl (fun c15 => ?_) (fun c15 => ?_)
  ·
   have hh : (i + j) / 2 < l.length := by omega
   obtain ⟨b, o, rfl, hS, hc⟩ := hr (map_ne hh)
   refine f_skip ?_
   refine f_tn (kh5 _ _ ?_)
   clear kh5
   refine f_block ?_
   refine f_seq fun K7 kh7 => ?_
   refine f_region ?_
   refine f_stepP rfl rfl rfl (o_move rfl) ?_
   refine f_stepP rfl rfl rfl (o_move rfl) ?_
   refine f_stepP rfl rfl rfl (o_add rfl rfl _ (wrap_i64 (by omega))) ?_
   refine f_stepP rfl rfl rfl (o_conv Tryz.runUnderlying3 Tryz.runUnderlying63 rfl _ (show _ = ((i + j : Nat) : Int) from by rw [wrap_u64 (by omega)]; omega)) ?_
   refine f_stepP rfl rfl rfl (o_shr rfl rfl (by decide) (((i + j) / 2 : Nat) : Int) (shr1 (by omega))) ?_
   refine f_stepP rfl rfl rfl (o_conv Tryz.runUnderlying63 Tryz.runUnderlying3 rfl _ (wrap_i64 (by omega))) ?_
   refine f_stepP rfl rfl rfl (o_assign rfl) ?_
   refine f_done ?_
   refine f_tn (kh7 _ _ ?_)
   clear kh7
   refine f_seq fun K8 kh8 => ?_
   refine f_region ?_
   refine f_stepP rfl rfl rfl (o_move rfl) ?_
   refine f_stepP rfl rfl rfl (o_move rfl) ?_
   refine f_stepP rfl rfl rfl (o_idx sl25 rfl rfl (o + (i + j) / 2) ⟨by omega, by omega, by first | omega | (simp; done) | (simp; omega)⟩) ?_
   refine f_stepP rfl rfl rfl (o_load Tryz.isAgg3 rfl (roOne (enc := (.int .i64 ·)) hS hc hh)) ?_
   refine f_stepP rfl rfl rfl (o_move rfl) ?_
   refine f_step rfl rfl rfl (o_call Tryz.call44 rfl (fun w_ hp_ => cmpLess_spec l[(i + j) / 2] x w_) ?_)
   rintro _ _ ⟨rfl, rfl⟩
   dsimp only [List.cons_append, List.nil_append]
   refine f_done ?_
   refine f_tn (kh8 _ _ ?_)
   clear kh8
   refine f_condB rfl (fun c27 => ?_) (fun c27 => ?_)
   ·
    have c27 : l[(i + j) / 2] < x := by simpa using c27
    refine f_region ?_
    refine f_stepP rfl rfl rfl (o_move rfl) ?_
    refine f_stepP rfl rfl rfl (o_add rfl rfl _ (wrap_i64 (by omega))) ?_
    refine f_stepP rfl rfl rfl (o_assign rfl) ?_
    refine f_done ?_
    refine f_bn ?_
    refine f_tn (f_again ((i + j) / 2 + 1, j) (by first | omega | (dsimp only; omega) | (simp; omega)) ⟨by omega, hjl, fun k hk h => Int.lt_of_le_of_lt (le_rise hs (show k ≤ (i + j) / 2 by omega) hh) c27, hhi⟩ ?_ ?_ ?_)
    · exact (by repeat (first | exact trivial | refine ⟨rfl, ?_⟩))
    · exact (by repeat (first | exact trivial | refine ⟨rfl, ?_⟩))
    · repeat (first | exact Sub.nil | refine Sub.pick ?_ | refine Sub.castO rfl ?_ | refine Sub.skip ?_)
   ·
    have c27 : ¬ l[(i + j) / 2] < x := by simpa using c27
    refine f_region ?_
    refine f_stepP rfl rfl rfl (o_move rfl) ?_
    refine f_stepP rfl rfl rfl (o_assign rfl) ?_
    refine f_done ?_
    refine f_bn ?_
    refine f_tn (f_again (i, (i + j) / 2) (by first | omega | (dsimp only; omega) | (simp; omega)) ⟨by omega, by omega, hlo, fun k hk h => Int.le_trans (by omega) (le_rise hs h hk)⟩ ?_ ?_ ?_)
    · exact (by repeat (first | exact trivial | refine ⟨rfl, ?_⟩))
    · exact (by repeat (first | exact trivial | refine ⟨rfl, ?_⟩))
    · repeat (first | exact Sub.nil | refine Sub.pick ?_ | refine Sub.castO rfl ?_ | refine Sub.skip ?_)
  ·
   obtain rfl : i = j := by omega
   have hmem := rise_mem hs hjl hlo hhi
   refine f_exit ?_
   refine f_te ?_
   clear kh5
   refine f_te ?_
   refine f_be ?_
   refine f_tn (kh4 _ _ ?_)
   clear kh4
   refine f_seq fun K9 kh9 => ?_
   refine f_region ?_
   refine f_stepP rfl rfl rfl (o_move rfl) ?_
   refine f_stepP rfl rfl rfl (o_move rfl) ?_
   refine f_stepP rfl rfl rfl (o_move rfl) ?_
   refine f_stepP rfl rfl rfl (o_lss rfl rfl) ?_
   refine f_stepP rfl rfl rfl (o_move rfl) ?_
   refine f_splitL 35 rfl (fun g35 => ?_) (fun g35 => ?_)
   ·
    have hi : i < l.length := by omega
    obtain ⟨b, o, rfl, hS, hc⟩ := hr (map_ne hi)
    refine f_stepPY rfl rfl rfl rfl rfl (o_move rfl) ?_
    refine f_stepPY rfl rfl rfl rfl rfl (o_move rfl) ?_
    refine f_stepPY rfl rfl rfl rfl rfl (o_idx sl25 rfl rfl (o + i) ⟨by omega, by omega, by first | omega | (simp; done) | (simp; omega)⟩) ?_
    refine f_stepPY rfl rfl rfl rfl rfl (o_load Tryz.isAgg3 rfl (roOne (enc := (.int .i64 ·)) hS hc hi)) ?_
    refine f_stepPY rfl rfl rfl rfl rfl (o_move rfl) ?_
    refine f_stepPY rfl rfl rfl rfl rfl (o_eql rfl rfl) ?_
    refine f_stepPY rfl rfl rfl rfl rfl (o_move rfl) ?_
    refine f_splitL 42 rfl (fun g42 => ?_) (fun g42 => ?_)
    ·
     refine f_stepN rfl rfl rfl rfl rfl rfl ?_
     refine f_stepN rfl rfl rfl rfl rfl rfl ?_
     refine f_stepN rfl rfl rfl rfl rfl rfl ?_
     refine f_stepN rfl rfl rfl rfl rfl rfl ?_
     refine f_stepN rfl rfl rfl rfl rfl rfl ?_
     refine f_stepN rfl rfl rfl rfl rfl rfl ?_
     refine f_stepU rfl rfl rfl rfl rfl ?_
     refine f_stepU rfl rfl rfl rfl rfl ?_
     refine f_stepN rfl rfl rfl rfl rfl rfl ?_
     refine f_stepPY rfl rfl rfl rfl rfl (o_pickT rfl rfl) ?_
     refine f_stepP rfl rfl rfl (o_pickT rfl rfl) ?_
     refine f_stepP rfl rfl rfl (o_assign rfl) ?_
     refine f_stepP rfl rfl rfl (o_assign rfl) ?_
     refine f_done ?_
     refine f_tn (kh9 _ _ ?_)
     clear kh9
     refine f_ret ?_
     exact f_fin2 [] Tryz.results28 rfl rfl Sub.nil ⟨i, by rw [decide_eq_true (hmem.2 ⟨hi, g42⟩)], rfl, fun _ => by rw [List.getElem?_eq_getElem hi, g42]⟩
    ·
     refine f_stepPY rfl rfl rfl rfl rfl (o_move rfl) ?_
     refine f_stepPY rfl rfl rfl rfl rfl (o_move rfl) ?_
     refine f_stepPY rfl rfl rfl rfl rfl (o_idx sl25 rfl rfl (o + i) ⟨by omega, by omega, by first | omega | (simp; done) | (simp; omega)⟩) ?_
     refine f_stepPY rfl rfl rfl rfl rfl (o_load Tryz.isAgg3 rfl (roOne (enc := (.int .i64 ·)) hS hc hi)) ?_
     refine f_stepY rfl rfl rfl rfl rfl (o_call Tryz.call45 rfl (fun w_ hp_ => slNaN_spec l[i] w_) ?_)
     rintro _ _ ⟨rfl, rfl⟩
     dsimp only [List.cons_append, List.nil_append]
     refine f_stepPY rfl rfl rfl rfl rfl (o_move rfl) ?_
     refine f_stepN rfl rfl rfl rfl rfl rfl ?_
     refine f_stepN rfl rfl rfl rfl rfl rfl ?_
     refine f_stepPY rfl rfl rfl rfl rfl (o_pickF rfl rfl) ?_
     refine f_stepPY rfl rfl rfl rfl rfl (o_pickF rfl rfl) ?_
     refine f_stepP rfl rfl rfl (o_pickT rfl rfl) ?_
     refine f_stepP rfl rfl rfl (o_assign rfl) ?_
     refine f_stepP rfl rfl rfl (o_assign rfl) ?_
     refine f_done ?_
     refine f_tn (kh9 _ _ ?_)
     clear kh9
     refine f_ret ?_
     exact f_fin2 [] Tryz.results28 rfl rfl Sub.nil ⟨i, by rw [decide_eq_false (fun h => g42 (hmem.1 h).2)], rfl, fun h => absurd (hmem.1 h).2 g42⟩
   ·
    refine f_stepN rfl rfl rfl rfl rfl rfl ?_
    refine f_stepN rfl rfl rfl rfl rfl rfl ?_
    refine f_stepN rfl rfl rfl rfl rfl rfl ?_
    refine f_stepN rfl rfl rfl rfl rfl rfl ?_
    refine f_stepN rfl rfl rfl rfl rfl rfl ?_
    refine f_stepN rfl rfl rfl rfl rfl rfl ?_
    refine f_stepN rfl rfl rfl rfl rfl rfl ?_
    refine f_stepU rfl rfl rfl rfl rfl ?_
    refine f_stepU rfl rfl rfl rfl rfl ?_
    refine f_stepU rfl rfl rfl rfl rfl ?_
    refine f_stepU rfl rfl rfl rfl rfl ?_
    refine f_stepU rfl rfl rfl rfl rfl ?_
    refine f_stepU rfl rfl rfl rfl rfl ?_
    refine f_stepU rfl rfl rfl rfl rfl ?_
    refine f_stepU rfl rfl rfl rfl rfl ?_
    refine f_stepU rfl rfl rfl rfl rfl ?_
    refine f_stepN rfl rfl rfl rfl rfl rfl ?_
    refine f_stepP rfl rfl rfl (o_pickF rfl rfl) ?_
    refine f_stepP rfl rfl rfl (o_assign rfl) ?_
    refine f_stepP rfl rfl rfl (o_assign rfl) ?_
    refine f_done ?_
    refine f_tn (kh9 _ _ ?_)
    clear kh9
    refine f_ret ?_
    exact f_fin2 [] Tryz.results28 rfl rfl Sub.nil ⟨i, by rw [decide_eq_false (fun h => g35 (by have := (hmem.1 h).1; omega))], rfl, fun h => absurd (hmem.1 h).1 (by omega)⟩

set_option maxRecDepth 100000 in
set_option maxHeartbeats 4000000 in
theorem CBoundary_spec (N : Int) (A : Option Addr) (l : List Arc) (cap : Nat) (Ab : Option Addr) (bs : List Int) (cb : Nat) (Ac : Option Addr) (R : List Row) (cc : Nat) (q c : Int) (w : World) (hr : Ro (Fr w []) w A (l.flatMap arcCs)) (hl : l.length ≤ 9223372036854775807) (hN : I64 N) (hok : ∀ x ∈ l, ArcOk x) (hn : NestRo (Fr w []) w Ab bs Ac R) :
    Meets Tryz.prog 8 [.agg #[.int .i64 N, .slice A l.length cap], .agg #[.slice Ab bs.length cb, .slice Ac R.length cc], .int .i64 q, .int .i64 c] w [] (fun u own' => ∃ (M : List Int) (A' : Option Addr) (c2 : Nat) (m' : Seg), u = .tuple #[.slice A' M.length M.length, .int .i64 (clE N l bs (rowsL R) q c)] ∧ own' = [m'] ∧ Own 3 1 (.slice A' M.length c2) M.length (ints M) m' ∧ (clE N l bs (rowsL R) q c ≠ 0 → M = []) ∧ (clE N l bs (rowsL R) q c = 0 → M = bdL ((rowsL R).getD (q.toNat - 1) []) c l)) := by
 refine f_enter Tryz.func8 rfl Tryz.ntmps8 rfl Owns.nil ?_
 refine f_seq fun K1 kh1 => ?_
 refine f_region ?_
 refine f_step rfl rfl rfl (o_box rfl rfl fun b4 => ?_)
 refine f_step rfl rfl rfl (o_box rfl rfl fun b5 => ?_)
 refine f_stepP rfl rfl rfl (o_assign rfl) ?_
 refine f_stepP rfl rfl rfl (o_assign rfl) ?_
 refine f_done ?_
 refine f_tn (kh1 _ _ ?_)
 clear kh1
 refine f_seq fun K2 kh2 => ?_
 refine f_region ?_
 refine f_stepP rfl rfl rfl (o_loadA (vs := [_, _]) Tryz.isAgg24 Tryz.sizeOf24 rfl rfl ⟨(rdA rfl), (rdA rfl), trivial⟩) ?_
 refine f_stepP rfl rfl rfl (o_loadA (vs := [_, _]) Tryz.isAgg28 Tryz.sizeOf28 rfl rfl ⟨(rdA rfl), (rdA rfl), trivial⟩) ?_
 refine f_stepP rfl rfl rfl (o_move rfl) ?_
 refine f_stepP rfl rfl rfl (o_move rfl) ?_
 refine f_step rfl rfl rfl (o_call Tryz.call22 rfl (fun w_ hp_ => clooked_spec N A l cap Ab bs cb Ac R cc q c w_ (hr.up0 hp_) hl hN hok (hn.up0 hp_)) ?_)
 rintro _ _ ⟨⟨Ar, L, cr⟩, rfl, rfl, hr1, hr0⟩
 dsimp only [List.cons_append, List.nil_append]
 refine f_stepP rfl rfl rfl (o_move rfl) ?_
 refine f_stepP rfl rfl rfl (o_extract rfl rfl) ?_
 refine f_stepP rfl rfl rfl (o_extract rfl rfl) ?_
 refine f_stepP rfl rfl rfl (o_assign rfl) ?_
 refine f_stepP rfl rfl rfl (o_assign rfl) ?_
 refine f_done ?_
 refine f_tn (kh2 _ _ ?_)
 clear kh2
 refine f_seq fun K3 kh3 => ?_
 refine f_seq fun K4 kh4 => ?_
 refine f_region ?_
 refine f_stepP rfl rfl rfl (o_move rfl) ?_
 refine f_stepP rfl rfl rfl (o_neq rfl rfl) ?_
 refine f_done ?_
 refine f_tn (kh4 _ _ ?_)
 clear kh4
 refine f_cond rfl (fun c24 => ?_) (fun c24 => ?_)
 ·
  refine f_seq fun K5 kh5 => ?_
  refine f_region ?_
  refine f_stepP rfl rfl rfl (o_move rfl) ?_
  refine f_stepP rfl rfl rfl (o_assign rfl) ?_
  refine f_stepP rfl rfl rfl (o_assign rfl) ?_
  refine f_done ?_
  refine f_tn (kh5 _ _ ?_)
  clear kh5
  refine f_ret ?_
  refine f_tr ?_
  have e : clE N l bs (rowsL R) q c = clE N l bs (rowsL R) q c := rfl
  exact f_fin2 [[]] Tryz.results8 rfl rfl (show Fly.Sub _ [[]] from (by repeat (first | exact Sub.nil | refine Sub.pick ?_ | refine Sub.castO rfl ?_ | refine Sub.skip ?_))) ⟨[], none, 0, [], by rw [e]; rfl, rfl, Own.nil _ _, fun _ => rfl, fun h => absurd (e.symm.trans h) (by simpa using c24)⟩
 ·
  have hcz : clE N l bs (rowsL R) q c = 0 := by simpa using c24
  obtain ⟨n, k, j, hNn, hNo, hqk, hkb, hcj, hjm⟩ := clE_zero hcz
  have hRl := hNo.len
  rw [rowsL_len] at hRl
  have hmany := hNo.many
  obtain ⟨hn1, hn2, hlen, hgd⟩ := gcheck_zero hNo.g
  have hrr := hr0 hcz
  have hrow : _ = L := row_get hrr (by omega)
  rw [show q.toNat - 1 = k by omega] at hrow
  have hkl := hNo.rowlen (k := k) (by omega)
  rw [hrow] at hkl
  have hrm := hn.rows (Ar, L, cr) (List.mem_of_getElem? hrr)
  dsimp only at hrm
  refine f_reC 10 rfl (v := .slice Ar L.length cr) rfl ?_
  refine f_skip ?_
  refine f_tn (kh3 _ _ ?_)
  clear kh3
  refine f_seq fun K6 kh6 => ?_
  refine f_region ?_
  refine f_stepP rfl rfl rfl (o_assign rfl) ?_
  refine f_done ?_
  refine f_tn (kh6 _ _ ?_)
  clear kh6
  refine f_seq fun K7 kh7 => ?_
  refine f_seq fun K8 kh8 => ?_
  refine f_region ?_
  refine f_stepP rfl rfl rfl (o_field fa24_1 rfl) ?_
  refine f_stepP rfl rfl rfl (o_load Tryz.isAgg22 rfl (rdA rfl)) ?_
  refine f_stepP rfl rfl rfl (o_len sl22 rfl) ?_
  refine f_stepP rfl rfl rfl (o_move rfl) ?_
  refine f_done ?_
  refine f_tn (kh8 _ _ ?_)
  clear kh8
  refine f_block ?_
  refine f_loop (α := Nat × Value × Seg) [3, 10, 27, 28] (fun ⟨i, ov, om⟩ => [(29, .int .i64 (i : Int)), (12, ov)]) (fun ⟨i, ov, om⟩ => [om]) (fun ⟨i, ov, om⟩ => i ≤ l.length ∧ Own 3 1 ov (bdR L c (l.take i)).length (ints (bdR L c (l.take i))) om) (fun ⟨i, ov, om⟩ => l.length - i) (0, .slice none 0 0, []) ?_ ?_ ?_ ?_
  · exact (by repeat (first | exact trivial | refine ⟨rfl, ?_⟩))
  · repeat (first | exact Sub.nil | refine Sub.pick ?_ | refine Sub.castO rfl ?_ | refine Sub.skip ?_)
  · exact ⟨Nat.zero_le _, Own.nil _ _⟩
  ·
   rintro ⟨i, ov, om⟩ ⟨hil, hO⟩
   have hbl := bdR_len L c (l.take i)
   rw [List.length_take, Nat.min_eq_left hil] at hbl
   obtain ⟨Ao, co, rfl, hco⟩ := hO.val
   refine f_seq fun K9 kh9 => ?_
   refine f_region ?_
   refine f_stepP rfl rfl rfl (o_lss rfl rfl) ?_
   refine f_done ?_
   refine f_tn (kh9 _ _ ?_)
   clear kh9
   refine f_seq fun K10 kh10 => ?_
   refine f_cond rfl (fun c30 => ?_) (fun c30 => ?_)
   ·
    have hi : i < l.length := by omega
    obtain ⟨bl, off, rfl, hS, hc⟩ := hr (flat_ne arcCs arcCs_len (by omega) hi)
    have hgi := hgd i hi
    have hsN : l[i].src.toNat < L.length := by omega
    have hdN : l[i].dst.toNat < L.length := by omega
    obtain ⟨br, or, rfl, hSr, hcr⟩ := hrm.1 (fun e => by have := ints_length L; rw [e] at this; simp at this; omega)
    have hnx := bdR_next (L := L) (c := c) hi
    refine f_skip ?_
    refine f_tn (kh10 _ _ ?_)
    clear kh10
    refine f_seq fun K11 kh11 => ?_
    refine f_block ?_
    refine f_seq fun K12 kh12 => ?_
    refine f_region ?_
    refine f_stepP rfl rfl rfl (o_idx sl22 rfl rfl (off + i * 3) ⟨by omega, by omega, by first | omega | (simp; done) | (simp; omega)⟩) ?_
    refine f_stepP rfl rfl rfl (o_loadA (vs := arcCs l[i]) Tryz.isAgg48 Tryz.sizeOf48 rfl rfl (roElem arcCs_len hS hc hi)) ?_
    refine f_step rfl rfl rfl (o_alloc Tryz.zeroValue48 rfl fun b14 => ?_)
    refine f_step0 rfl rfl (o_storeA Tryz.sizeOf48 rfl rfl rfl rfl (by first | exact Nat.le_of_ble_eq_true rfl | (simp; done) | (simp; omega)) (arcCs l[i]) rfl ?_)
    refine f_done ?_
    refine f_tn (kh12 _ _ ?_)
    clear kh12
    refine f_seq fun K13 kh13 => ?_
    refine f_seq fun K14 kh14 => ?_
    refine f_regionS rfl (by decide +kernel) ?_
    refine f_stillP rfl rfl rfl (o_move rfl) ?_
    refine f_stillP rfl rfl rfl (o_field fa48_0 rfl) ?_
    refine f_stillP rfl rfl rfl (o_load Tryz.isAgg3 rfl (rdA rfl)) ?_
    refine f_stillP rfl rfl rfl (o_idx sl25 rfl rfl (or + l[i].src.toNat) ⟨by omega, by omega, by first | omega | (simp; done) | (simp; omega)⟩) ?_
    refine f_stillP rfl rfl rfl (o_load Tryz.isAgg3 rfl (roOne (enc := (.int .i64 ·)) hSr hcr hsN)) ?_
    refine f_stillP rfl rfl rfl (o_move rfl) ?_
    refine f_stillP rfl rfl rfl (o_field fa48_1 rfl) ?_
    refine f_stillP rfl rfl rfl (o_load Tryz.isAgg3 rfl (rdA rfl)) ?_
    refine f_stillP rfl rfl rfl (o_idx sl25 rfl rfl (or + l[i].dst.toNat) ⟨by omega, by omega, by first | omega | (simp; done) | (simp; omega)⟩) ?_
    refine f_stillP rfl rfl rfl (o_load Tryz.isAgg3 rfl (roOne (enc := (.int .i64 ·)) hSr hcr hdN)) ?_
    refine f_stillP rfl rfl rfl (o_eql rfl rfl) ?_
    refine f_stillD ?_
    refine f_tn (kh14 _ _ ?_)
    clear kh14
    refine f_cond rfl (fun c43 => ?_) (fun c43 => ?_)
    ·
     have hb : bdOf L c l[i] = [] := by unfold bdOf; rw [getD_at hsN, getD_at hdN, if_pos c43]
     rw [hb, List.append_nil] at hnx
     refine f_exit ?_
     refine f_te ?_
     clear kh13
     refine f_be ?_
     refine f_tn (kh11 _ _ ?_)
     clear kh11
     refine f_region ?_
     refine f_stepP rfl rfl rfl (o_add rfl rfl _ (wrap_i64 (by omega))) ?_
     refine f_stepP rfl rfl rfl (o_move rfl) ?_
     refine f_done ?_
     refine f_tn (f_again (i + 1, .slice Ao (bdR L c (l.take i)).length co, om) (by first | omega | (dsimp only; omega) | (simp; omega)) ⟨by omega, by rw [hnx]; exact hO⟩ ?_ ?_ ?_)
     · exact (by repeat (first | exact trivial | refine ⟨rfl, ?_⟩))
     · exact (by repeat (first | exact trivial | refine ⟨rfl, ?_⟩))
     · repeat (first | exact Sub.nil | refine Sub.pick ?_ | refine Sub.castO rfl ?_ | refine Sub.skip ?_)
    ·
     have hb : bdOf L c l[i] = (if L[l[i].src.toNat] = c then [l[i].src] else []) ++ (if L[l[i].dst.toNat] = c then [l[i].dst] else []) := by unfold bdOf; rw [getD_at hsN, getD_at hdN, if_neg c43]
     refine f_skip ?_
     refine f_tn (kh13 _ _ ?_)
     clear kh13
     refine f_seq fun K15 kh15 => ?_
     refine f_seq fun K16 kh16 => ?_
     refine f_region ?_
     refine f_stepP rfl rfl rfl (o_move rfl) ?_
     refine f_stepP rfl rfl rfl (o_field fa48_0 rfl) ?_
     refine f_stepP rfl rfl rfl (o_load Tryz.isAgg3 rfl (rdA rfl)) ?_
     refine f_stepP rfl rfl rfl (o_idx sl25 rfl rfl (or + l[i].src.toNat) ⟨by omega, by omega, by first | omega | (simp; done) | (simp; omega)⟩) ?_
     refine f_stepP rfl rfl rfl (o_load Tryz.isAgg3 rfl (roOne (enc := (.int .i64 ·)) hSr hcr hsN)) ?_
     refine f_stepP rfl rfl rfl (o_move rfl) ?_
     refine f_stepP rfl rfl rfl (o_eql rfl rfl) ?_
     refine f_done ?_
     refine f_tn (kh16 _ _ ?_)
     clear kh16
     refine f_cond rfl (fun c50 => ?_) (fun c50 => ?_)
     ·
      rw [if_pos c50] at hb
      refine f_region ?_
      refine f_stepP rfl rfl rfl (o_move rfl) ?_
      refine f_stepP rfl rfl rfl (o_field fa48_0 rfl) ?_
      refine f_stepP rfl rfl rfl (o_load Tryz.isAgg3 rfl (rdA rfl)) ?_
      refine f_step rfl rfl rfl (o_slice1 el25 (by omega) rfl rfl rfl fun b54 => ?_)
      refine f_step rfl rfl rfl (o_append el25 rfl rfl hO (ys := [.int .i64 l[i].src]) ⟨(rdA rfl), trivial⟩ rfl rfl (by omega) (by omega) fun v55 m55 o55 => ?_)
      obtain ⟨X1, hX1⟩ : ∃ X1, X1 = bdR L c (l.take i) ++ [l[i].src] := ⟨_, rfl⟩
      have hO1 : Own 3 1 v55 X1.length (ints X1) m55 := by rw [hX1, List.length_append, ints_append]; exact o55
      have hX1l : X1.length ≤ 2 * i + 1 := by rw [hX1, List.length_append, List.length_singleton]; omega
      refine f_stepP rfl rfl rfl (o_assign rfl) ?_
      refine f_done ?_
      refine f_tn (kh15 _ _ ?_)
      clear kh15
      refine f_seq fun K17 kh17 => ?_
      refine f_region ?_
      refine f_stepP rfl rfl rfl (o_move rfl) ?_
      refine f_stepP rfl rfl rfl (o_field fa48_1 rfl) ?_
      refine f_stepP rfl rfl rfl (o_load Tryz.isAgg3 rfl (rdA rfl)) ?_
      refine f_stepP rfl rfl rfl (o_idx sl25 rfl rfl (or + l[i].dst.toNat) ⟨by omega, by omega, by first | omega | (simp; done) | (simp; omega)⟩) ?_
      refine f_stepP rfl rfl rfl (o_load Tryz.isAgg3 rfl (roOne (enc := (.int .i64 ·)) hSr hcr hdN)) ?_
      refine f_stepP rfl rfl rfl (o_move rfl) ?_
      refine f_stepP rfl rfl rfl (o_eql rfl rfl) ?_
      refine f_done ?_
      refine f_tn (kh17 _ _ ?_)
      clear kh17
      refine f_cond rfl (fun c62 => ?_) (fun c62 => ?_)
      ·
       rw [if_pos c62] at hb
       rw [hb, ← List.append_assoc, ← hX1] at hnx
       refine f_region ?_
       refine f_stepP rfl rfl rfl (o_move rfl) ?_
       refine f_stepP rfl rfl rfl (o_field fa48_1 rfl) ?_
       refine f_stepP rfl rfl rfl (o_load Tryz.isAgg3 rfl (rdA rfl)) ?_
       refine f_step rfl rfl rfl (o_slice1 el25 (by omega) rfl rfl rfl fun b66 => ?_)
       refine f_step rfl rfl rfl (o_append el25 rfl rfl hO1 (ys := [.int .i64 l[i].dst]) ⟨(rdA rfl), trivial⟩ rfl rfl (by omega) (by omega) fun v67 m67 o67 => ?_)
       refine f_stepP rfl rfl rfl (o_assign rfl) ?_
       refine f_done ?_
       refine f_bn ?_
       refine f_tn (kh11 _ _ ?_)
       clear kh11
       refine f_region ?_
       refine f_stepP rfl rfl rfl (o_add rfl rfl _ (wrap_i64 (by omega))) ?_
       refine f_stepP rfl rfl rfl (o_move rfl) ?_
       refine f_done ?_
       refine f_tn (f_again (i + 1, v67, m67) (by first | omega | (dsimp only; omega) | (simp; omega)) ⟨by omega, by rw [hnx, List.length_append, ints_append]; exact o67⟩ ?_ ?_ ?_)
       · exact (by repeat (first | exact trivial | refine ⟨rfl, ?_⟩))
       · exact (by repeat (first | exact trivial | refine ⟨rfl, ?_⟩))
       · repeat (first | exact Sub.nil | refine Sub.pick ?_ | refine Sub.castO rfl ?_ | refine Sub.skip ?_)
      ·
       rw [if_neg c62, List.append_nil] at hb
       rw [hb, ← hX1] at hnx
       refine f_skip ?_
       refine f_bn ?_
       refine f_tn (kh11 _ _ ?_)
       clear kh11
       refine f_region ?_
       refine f_stepP rfl rfl rfl (o_add rfl rfl _ (wrap_i64 (by omega))) ?_
       refine f_stepP rfl rfl rfl (o_move rfl) ?_
       refine f_done ?_
       refine f_tn (f_again (i + 1, v55, m55) (by first | omega | (dsimp only; omega) | (simp; omega)) ⟨by omega, by rw [hnx]; exact hO1⟩ ?_ ?_ ?_)
       · exact (by repeat (first | exact trivial | refine ⟨rfl, ?_⟩))
       · exact (by repeat (first | exact trivial | refine ⟨rfl, ?_⟩))
       · repeat (first | exact Sub.nil | refine Sub.pick ?_ | refine Sub.castO rfl ?_ | refine Sub.skip ?_)
     ·
      rw [if_neg c50] at hb
      obtain ⟨X1, hX1⟩ : ∃ X1, X1 = bdR L c (l.take i) ++ [] := ⟨_, rfl⟩
      have hO1 : Own 3 1 (.slice Ao (bdR L c (l.take i)).length co) X1.length (ints X1) om := by rw [hX1, List.append_nil]; exact hO
      have hX1l : X1.length ≤ 2 * i + 1 := by rw [hX1, List.append_nil]; omega
      refine f_skip ?_
      refine f_tn (kh15 _ _ ?_)
      clear kh15
      refine f_seq fun K18 kh18 => ?_
      refine f_region ?_
      refine f_stepP rfl rfl rfl (o_move rfl) ?_
      refine f_stepP rfl rfl rfl (o_field fa48_1 rfl) ?_
      refine f_stepP rfl rfl rfl (o_load Tryz.isAgg3 rfl (rdA rfl)) ?_
      refine f_stepP rfl rfl rfl (o_idx sl25 rfl rfl (or + l[i].dst.toNat) ⟨by omega, by omega, by first | omega | (simp; done) | (simp; omega)⟩) ?_
      refine f_stepP rfl rfl rfl (o_load Tryz.isAgg3 rfl (roOne (enc := (.int .i64 ·)) hSr hcr hdN)) ?_
      refine f_stepP rfl rfl rfl (o_move rfl) ?_
      refine f_stepP rfl rfl rfl (o_eql rfl rfl) ?_
      refine f_done ?_
      refine f_tn (kh18 _ _ ?_)
      clear kh18
      refine f_cond rfl (fun c62 => ?_) (fun c62 => ?_)
      ·
       rw [if_pos c62] at hb
       rw [hb, ← List.append_assoc, ← hX1] at hnx
       refine f_region ?_
       refine f_stepP rfl rfl rfl (o_move rfl) ?_
       refine f_stepP rfl rfl rfl (o_field fa48_1 rfl) ?_
       refine f_stepP rfl rfl rfl (o_load Tryz.isAgg3 rfl (rdA rfl)) ?_
       refine f_step rfl rfl rfl (o_slice1 el25 (by omega) rfl rfl rfl fun b66 => ?_)
       refine f_step rfl rfl rfl (o_append el25 rfl rfl hO1 (ys := [.int .i64 l[i].dst]) ⟨(rdA rfl), trivial⟩ rfl rfl (by omega) (by omega) fun v67 m67 o67 => ?_)
       refine f_stepP rfl rfl rfl (o_assign rfl) ?_
       refine f_done ?_
       refine f_bn ?_
       refine f_tn (kh11 _ _ ?_)
       clear kh11
       refine f_region ?_
       refine f_stepP rfl rfl rfl (o_add rfl rfl _ (wrap_i64 (by omega))) ?_
       refine f_stepP rfl rfl rfl (o_move rfl) ?_
       refine f_done ?_
       refine f_tn (f_again (i + 1, v67, m67) (by first | omega | (dsimp only; omega) | (simp; omega)) ⟨by omega, by rw [hnx, List.length_append, ints_append]; exact o67⟩ ?_ ?_ ?_)
       · exact (by repeat (first | exact trivial | refine ⟨rfl, ?_⟩))
       · exact (by repeat (first | exact trivial | refine ⟨rfl, ?_⟩))
       · repeat (first | exact Sub.nil | refine Sub.pick ?_ | refine Sub.castO rfl ?_ | refine Sub.skip ?_)
      ·
       rw [if_neg c62, List.append_nil] at hb
       rw [hb, ← hX1] at hnx
       refine f_skip ?_
       refine f_bn ?_
       refine f_tn (kh11 _ _ ?_)
       clear kh11
       refine f_region ?_
       refine f_stepP rfl rfl rfl (o_add rfl rfl _ (wrap_i64 (by omega))) ?_
       refine f_stepP rfl rfl rfl (o_move rfl) ?_
       refine f_done ?_
       refine f_tn (f_again (i + 1, .slice Ao (bdR L c (l.take i)).length co, om) (by first | omega | (dsimp only; omega) | (simp; omega)) ⟨by omega, by rw [hnx]; exact hO1⟩ ?_ ?_ ?_)
       · exact (by repeat (first | exact trivial | refine ⟨rfl, ?_⟩))
       · exact (by repeat (first | exact trivial | refine ⟨rfl, ?_⟩))
       · repeat (first | exact Sub.nil | refine Sub.pick ?_ | refine Sub.castO rfl ?_ | refine Sub.skip ?_)
   ·
    obtain rfl : i = l.length := by omega
    rw [List.take_length] at hO hbl hco
    obtain ⟨LO, hLO⟩ : ∃ LO, bdR L c l = LO := ⟨_, rfl⟩
    rw [hLO] at hO hbl hco
    refine f_reC 12 rfl (v := .slice Ao LO.length co) (by rw [List.take_length, hLO]) ?_
    refine f_exit ?_
    refine f_te ?_
    clear kh10
    refine f_te ?_
    refine f_be ?_
    refine f_tn (kh7 _ _ ?_)
    clear kh7
    refine f_seq fun K19 kh19 => ?_
    refine f_region ?_
    refine f_stepP rfl rfl rfl (o_move rfl) ?_
    refine f_step rfl rfl rfl (o_callM [om] _ Tryz.call23 rfl (by repeat (first | exact Sub.refl | refine Sub.pick ?_)) (fun w_ hp_ => SortInts_spec Ao co LO om w_ hO (by omega) hp_.owns) ?_)
    rintro _ _ ⟨rfl, m2, rfl, ho2⟩
    dsimp only [List.cons_append, List.nil_append]
    refine f_done ?_
    refine f_tn (kh19 _ _ ?_)
    clear kh19
    refine f_seq fun K20 kh20 => ?_
    refine f_region ?_
    refine f_stepP rfl rfl rfl (o_move rfl) ?_
    refine f_step rfl rfl rfl (o_callM [m2] _ Tryz.call25 rfl (by repeat (first | exact Sub.refl | refine Sub.pick ?_)) (fun w_ hp_ => (by have h := Compact_spec Ao co (sortI LO) m2 w_ (by rw [sortI_len]; exact ho2) (by rw [sortI_len]; omega) hp_.owns; rw [sortI_len] at h; exact h)) ?_)
    rintro v72 _ ⟨m3, rfl, ho3⟩
    obtain ⟨A3, c3, rfl, hc3⟩ := ho3.val
    dsimp only [List.cons_append, List.nil_append]
    refine f_step rfl rfl rfl (o_call Tryz.call24 rfl (fun w_ hp_ => cut_spec A3 (cpt (sortI LO)).length c3 w_ hc3.1 hc3.2 (own_none ho3)) ?_)
    rintro _ _ ⟨rfl, rfl⟩
    dsimp only [List.cons_append, List.nil_append]
    refine f_stepP rfl rfl rfl (o_assign rfl) ?_
    refine f_stepP rfl rfl rfl (o_assign rfl) ?_
    refine f_done ?_
    refine f_tn (kh20 _ _ ?_)
    clear kh20
    refine f_ret ?_
    have e := hcz
    exact f_fin2 [m3] Tryz.results8 rfl rfl (by repeat (first | exact Sub.nil | refine Sub.pick ?_ | refine Sub.castO rfl ?_ | refine Sub.skip ?_)) ⟨_, A3, c3, m3, by rw [e], rfl, ho3, fun h => absurd e h, fun _ => by unfold bdL; rw [show q.toNat - 1 = k by omega, hrow, hLO]⟩

end Go.Proofs.YtkmkakpadgljeaaGreat

/- Rows that are owned: how they are read. -/
namespace Go.Proofs.YtkmkakpadgljeaaGreat
open Go Go.RowKit Fly
set_option linter.unusedVariables false
set_option linter.unusedSimpArgs false


theorem RowsI.snoc {E : TypeId} {ls : List (List Int)} {vs : List Value} {ms : List Seg} (h : RowsI E ls vs ms) {l : List Int} {v : Value} {m : Seg} (ho : Own E 1 v l.length (ints l) m) : RowsI E (ls ++ [l]) (vs ++ [v]) (ms ++ [m]) :=
  ⟨by simp [h.lv], by simp [h.lm], fun i hi => by
    rw [List.length_append, List.length_singleton] at hi
    have hlv := h.lv
    have hlm := h.lm
    by_cases e : i < ls.length
    · have e1 : (ls ++ [l])[i]'(by simp; omega) = ls[i] := List.getElem_append_left e
      have e2 : (vs ++ [v])[i]'(by simp; omega) = vs[i]'(by omega) := List.getElem_append_left (by omega)
      have e3 : (ms ++ [m])[i]'(by simp; omega) = ms[i]'(by omega) := List.getElem_append_left (by omega)
      rw [e1, e2, e3]; exact h.own i e
    · have hie : i = ls.length := by omega
      have e1 : (ls ++ [l])[i]'(by simp; omega) = l := by subst hie; simp
      have e2 : (vs ++ [v])[i]'(by simp; omega) = v := by
        rw [List.getElem_append_right (by omega)]; simp
      have e3 : (ms ++ [m])[i]'(by simp; omega) = m := by
        rw [List.getElem_append_right (by omega)]; simp
      rw [e1, e2, e3]; exact ho⟩
theorem RowsI.one {E : TypeId} {l : List Int} {v : Value} {m : Seg} (ho : Own E 1 v l.length (ints l) m) : RowsI E [l] [v] [m] :=
  ⟨rfl, rfl, fun i hi => by
    have : i = 0 := by simpa using hi
    subst this; exact ho⟩
/-- The rows as they are read. -/
theorem RowsI.rows {E : TypeId} {ls : List (List Int)} {vs : List Value} {ms : List Seg} (h : RowsI E ls vs ms) : ∃ R : List Row, vs = R.map rowV ∧ rowsL R = ls := by
  have hlv := h.lv
  have key : ∀ i, i < ls.length → ∃ r : Row, (∀ hv : i < vs.length, vs[i] = rowV r) ∧ ∀ hi : i < ls.length, ls[i] = r.2.1 := fun i hi => by
    obtain ⟨A, c, e, _⟩ := (h.own i hi).val
    exact ⟨(A, ls[i], c), fun _ => e, fun _ => rfl⟩
  obtain ⟨R, hRl, hR⟩ := list_of (R := fun i r => (∀ hv : i < vs.length, vs[i] = rowV r) ∧ ∀ hi : i < ls.length, ls[i] = r.2.1) key
  refine ⟨R, List.ext_getElem (by simp; omega) fun i h1 h2 => ?_, List.ext_getElem (by simp [rowsL]; omega) fun i h1 h2 => ?_⟩
  · rw [List.getElem_map]; exact (hR i (by simpa using h2)).1 h1
  · simp only [rowsL, List.getElem_map]
    exact ((hR i (by omega)).2 h2).symm
/-- Rows behind which nothing can be put: each in memory of its own. -/
structure RowsC (E : TypeId) (R : List Row) (ms : List Seg) : Prop where
  lm : ms.length = R.length
  own : ∀ (i : Nat) (h : i < R.length), ∃ c, Own E 1 (.slice R[i].1 R[i].2.1.length c) R[i].2.1.length (ints R[i].2.1) (ms[i]'(lm ▸ h))
def cutVR : Value → Value
  | .slice A n _ => .slice A n n
  | v => v
/-- A row of rows of which the first k have been cut. -/
def ctoR (vs : List Value) (k : Nat) : List Value := vs.mapIdx fun i v => if i < k then cutVR v else v
theorem ctoR_len (vs : List Value) (k : Nat) : (ctoR vs k).length = vs.length := by simp [ctoR]
theorem ctoR_zero (vs : List Value) : ctoR vs 0 = vs := by
  refine List.ext_getElem (by simp [ctoR]) fun i h1 h2 => ?_
  simp [ctoR]
theorem ctoR_get {vs : List Value} {k i : Nat} (h : k ≤ i) : (ctoR vs k)[i]? = vs[i]? := by
  unfold ctoR
  rw [List.getElem?_mapIdx]
  cases vs[i]? with
  | none => rfl
  | some v => simp [show ¬ i < k by omega]
theorem ctoR_set {vs : List Value} {k i : Nat} (h : k ≤ i) (v : Value) : (ctoR vs k).set i v = ctoR (vs.set i v) k := by
  refine List.ext_getElem (by simp [ctoR]) fun j h1 h2 => ?_
  simp only [ctoR, List.getElem_mapIdx, List.getElem_set]
  by_cases e : i = j
  · subst e; simp [show ¬ i < k by omega]
  · simp [e]
theorem ctoR_next {vs : List Value} {k : Nat} (v : Value) : (ctoR vs k).set k (cutVR v) = ctoR (vs.set k v) (k + 1) := by
  refine List.ext_getElem (by simp [ctoR]) fun j h1 h2 => ?_
  simp only [ctoR, List.getElem_mapIdx, List.getElem_set]
  by_cases e : k = j
  · subst e; simp
  · by_cases e2 : j < k
    · simp [e, e2, show j < k + 1 by omega]
    · simp [e, e2, show ¬ j < k + 1 by omega]
theorem ctoR_all {vs : List Value} {k : Nat} (h : vs.length ≤ k) : ctoR vs k = vs.map cutVR := by
  refine List.ext_getElem (by simp [ctoR]) fun j h1 h2 => ?_
  simp only [ctoR, List.getElem_mapIdx, List.getElem_map]
  rw [if_pos (by have := h2; simp at this; omega)]
theorem RowsI.cut {E : TypeId} {ls : List (List Int)} {vs : List Value} {ms : List Seg} (h : RowsI E ls vs ms) : ∃ R : List Row, vs.map cutVR = R.map rowV ∧ rowsL R = ls ∧ RowsC E R ms := by
  have hlv := h.lv
  have hlm := h.lm
  have key : ∀ i, i < ls.length → ∃ r : Row, (∀ hv : i < vs.length, cutVR vs[i] = rowV r) ∧ (∀ hi : i < ls.length, ls[i] = r.2.1) ∧ ∀ hm : i < ms.length, ∃ c, Own E 1 (.slice r.1 r.2.1.length c) r.2.1.length (ints r.2.1) ms[i] := fun i hi => by
    have ho := h.own i hi
    obtain ⟨A, c, e, _⟩ := ho.val
    refine ⟨(A, ls[i], ls[i].length), fun _ => by rw [e]; rfl, fun _ => rfl, fun _ => ⟨c, ?_⟩⟩
    rw [e] at ho; exact ho
  obtain ⟨R, hRl, hR⟩ := list_of (R := fun i r => (∀ hv : i < vs.length, cutVR vs[i] = rowV r) ∧ (∀ hi : i < ls.length, ls[i] = r.2.1) ∧ ∀ hm : i < ms.length, ∃ c, Own E 1 (.slice r.1 r.2.1.length c) r.2.1.length (ints r.2.1) ms[i]) key
  refine ⟨R, List.ext_getElem (by simp; omega) fun i h1 h2 => ?_, List.ext_getElem (by simp [rowsL]; omega) fun i h1 h2 => ?_, by omega, fun i hi => (hR i (by omega)).2.2 (by omega)⟩
  · rw [List.getElem_map, List.getElem_map]; exact (hR i (by simpa using h2)).1 (by simpa using h1)
  · simp only [rowsL, List.getElem_map]
    exact ((hR i (by omega)).2.1 h2).symm
theorem RowsC.nil (E : TypeId) : RowsC E [] [] := ⟨rfl, fun i h => by simp at h⟩
theorem RowsC.ro {S : Nat → Prop} {w0 w : World} {segs o3 : List Seg} {E : TypeId} {R : List Row} {ms : List Seg} (hR : RowsC E R ms) (hp : Hp S w0 segs.flatten w) [p3 : Pick segs ms.flatten o3] : ∀ r ∈ R, Ro (Fr w []) w r.1 (ints r.2.1) ∧ r.2.1.length ≤ 9223372036854775807 := fun r hr => by
  obtain ⟨i, hi, rfl⟩ := List.mem_iff_getElem.1 hr
  obtain ⟨c, ho⟩ := hR.own i hi
  refine ⟨?_, by have := ho.val; obtain ⟨_, _, e, h⟩ := this; cases e; omega⟩
  have hmi : i < ms.length := by rw [hR.lm]; exact hi
  have hsub : Fly.Sub segs (ms[i] :: [(ms.eraseIdx i).flatten]) := ⟨o3.flatten, by
    have := p3.perm.trans ((flat_erase ms i hmi).append_right o3.flatten)
    simpa using this⟩
  have hp2 := hp.sub hsub
  exact seen_ro (ho.seen (segs := ms[i] :: [(ms.eraseIdx i).flatten]) hp2)
/-- An owned nest is read. -/
theorem nest_ro {S : Nat → Prop} {w0 w : World} {segs o1 o2 o3 : List Seg} {Ab Ac : Option Addr} {bs : List Int} {cb cc lc : Nat} {mb mc : Seg} {R : List Row} {ls : List (List Int)} {ms : List Seg} {E E2 : TypeId} (hp : Hp S w0 segs.flatten w) (hb : Own E 1 (.slice Ab bs.length cb) bs.length (ints bs) mb)
    (hc : Own E2 1 (.slice Ac lc cc) lc (R.map rowV) mc) (hR : RowsI E ls (R.map rowV) ms) (hRL : rowsL R = ls) [p1 : Pick segs mb o1] [p2 : Pick segs mc o2] [p3 : Pick segs ms.flatten o3] (hcl : R.length ≤ 9223372036854775807) : NestRo (Fr w []) w Ab bs Ac R where
  b := seen_ro (hb.seen hp)
  bl := by have := hb.val; obtain ⟨_, _, e, h⟩ := this; cases e; omega
  c := seen_ro (hc.seen hp)
  cl := hcl
  rows := fun r hr => by
    obtain ⟨i, hi, rfl⟩ := List.mem_iff_getElem.1 hr
    subst hRL
    have hi2 : i < (rowsL R).length := by rw [rowsL_len]; exact hi
    have ho := hR.own i hi2
    have e1 : (R.map rowV)[i]'(by simpa using hi) = rowV R[i] := by simp
    have e2 : (rowsL R)[i] = R[i].2.1 := by simp [rowsL]
    rw [e1, e2] at ho
    refine ⟨?_, by have := ho.val; obtain ⟨_, _, e, h⟩ := this; cases e; omega⟩
    have hmi : i < ms.length := by rw [hR.lm]; exact hi2
    have hsub : Fly.Sub segs (ms[i] :: [(ms.eraseIdx i).flatten]) := ⟨o3.flatten, by
      have := p3.perm.trans ((flat_erase ms i hmi).append_right o3.flatten)
      simpa using this⟩
    have hp2 := hp.sub hsub
    exact seen_ro (ho.seen (segs := ms[i] :: [(ms.eraseIdx i).flatten]) hp2)
theorem RowsI.ro {S : Nat → Prop} {w0 w : World} {segs o3 : List Seg} {E : TypeId} {R : List Row} {ms : List Seg} (hR : RowsI E (rowsL R) (R.map rowV) ms) (hp : Hp S w0 segs.flatten w) [p3 : Pick segs ms.flatten o3] : ∀ r ∈ R, Ro (Fr w []) w r.1 (ints r.2.1) ∧ r.2.1.length ≤ 9223372036854775807 := fun r hr => by
  obtain ⟨i, hi, rfl⟩ := List.mem_iff_getElem.1 hr
  have hi2 : i < (rowsL R).length := by rw [rowsL_len]; exact hi
  have ho := hR.own i hi2
  have e1 : (R.map rowV)[i]'(by simpa using hi) = rowV R[i] := by simp
  have e2 : (rowsL R)[i] = R[i].2.1 := by simp [rowsL]
  rw [e1, e2] at ho
  refine ⟨?_, by have := ho.val; obtain ⟨_, _, e, h⟩ := this; cases e; omega⟩
  have hmi : i < ms.length := by rw [hR.lm]; exact hi2
  have hsub : Fly.Sub segs (ms[i] :: [(ms.eraseIdx i).flatten]) := ⟨o3.flatten, by
    have := p3.perm.trans ((flat_erase ms i hmi).append_right o3.flatten)
    simpa using this⟩
  have hp2 := hp.sub hsub
  exact seen_ro (ho.seen (segs := ms[i] :: [(ms.eraseIdx i).flatten]) hp2)
theorem sub_snocU {segs o1 o2 : List Seg} {f m : Seg} [p1 : Pick segs f o1] [p2 : Pick o1 m o2] {out : List Seg} (hs : Fly.Sub o2 out) : Fly.Sub segs ((f ++ [m].flatten) :: out) := by
  obtain ⟨rest, hr⟩ := hs
  refine ⟨rest, ?_⟩
  have h2 := p1.perm.trans (List.Perm.append_left f p2.perm)
  simp only [List.flatten_cons, List.flatten_nil, List.append_nil, List.append_assoc] at h2 ⊢
  exact h2.trans (List.Perm.append_left f (List.Perm.append_left m hr))

end Go.Proofs.YtkmkakpadgljeaaGreat

/- package cell: Index, Stale. -/
namespace Go.Proofs.YtkmkakpadgljeaaGreat
open Go Go.RowKit Fly
set_option linter.unusedVariables false
set_option linter.unusedSimpArgs false


def ixE (N : Int) (l : List Arc) (bs : List Int) (L : List (List Int)) (q c v : Int) : Int := if clE N l bs L q c ≠ 0 then clE N l bs L q c else if v ∈ bdL (L.getD (q.toNat - 1) []) c l then 0 else 5
theorem bdL_len (L : List Int) (c : Int) (l : List Arc) : (bdL L c l).length ≤ 2 * l.length := by
  unfold bdL
  refine Nat.le_trans (cpt_len_le _) ?_
  rw [sortI_len]; exact bdR_len L c l
/-- Is it no number of an arc? -/
def offA (m : Nat) (i : Int) : Bool := decide (i < 0) || decide ((m : Int) ≤ i)
def snE (N : Int) (l : List Arc) (bs : List Int) (L : List (List Int)) (arcs : List Int) : Int :=
  if (nsE N l bs L).2 ≠ 0 then (nsE N l bs L).2 else if 16384 < arcs.length then 2 else if arcs.any (offA l.length) then 5 else 0
/-- The cell that an arc lies in. -/
def stOf (row : List Int) (l : List Arc) (i : Int) : List Int := (l[i.toNat]?).elim [] fun a => if row.getD a.src.toNat 0 = row.getD a.dst.toNat 0 then [row.getD a.src.toNat 0] else []
def stR (row : List Int) (l : List Arc) (arcs : List Int) : List Int := arcs.flatMap (stOf row l)
def stRow (row : List Int) (l : List Arc) (arcs : List Int) : List Int := cpt (sortI (stR row l arcs))
def stL (L : List (List Int)) (l : List Arc) (arcs : List Int) : List (List Int) := L.map fun row => stRow row l arcs
/-- Rows of which the first k are done, and one is under way. -/
def stM (L : List (List Int)) (l : List Arc) (arcs : List Int) (k j : Nat) : List (List Int) := L.mapIdx fun i row => if i < k then stRow row l arcs else if i = k then stR row l (arcs.take j) else []
theorem stM_len (L : List (List Int)) (l : List Arc) (arcs : List Int) (k j : Nat) : (stM L l arcs k j).length = L.length := by simp [stM]
theorem stM_zero (L : List (List Int)) (l : List Arc) (arcs : List Int) : stM L l arcs 0 0 = List.replicate L.length [] := by
  refine List.ext_getElem (by simp [stM]) fun i h1 h2 => ?_
  simp [stM, stR]
theorem stM_at {L : List (List Int)} {l : List Arc} {arcs : List Int} {k j : Nat} (h : k < (stM L l arcs k j).length) : (stM L l arcs k j)[k] = stR (L.getD k []) l (arcs.take j) := by
  have h' : k < L.length := by simpa [stM] using h
  simp [stM, List.getD_eq_getElem?_getD, h']
theorem stM_next {L : List (List Int)} {l : List Arc} {arcs : List Int} {k j : Nat} {X : List Int} (hX : X = stR (L.getD k []) l (arcs.take (j + 1))) : (stM L l arcs k j).set k X = stM L l arcs k (j + 1) := by
  refine List.ext_getElem (by simp [stM]) fun i h1 h2 => ?_
  have h' : i < L.length := by simpa [stM] using h2
  rw [List.getElem_set]
  by_cases e : k = i
  · subst e
    rw [if_pos rfl, hX]; simp [stM, List.getD_eq_getElem?_getD, h']
  · rw [if_neg e]
    simp only [stM, List.getElem_mapIdx]
    by_cases e2 : i < k
    · rw [if_pos e2, if_pos e2]
    · rw [if_neg e2, if_neg e2, if_neg (by omega), if_neg (by omega)]
theorem stM_same {L : List (List Int)} {l : List Arc} {arcs : List Int} {k j : Nat} (h : stR (L.getD k []) l (arcs.take (j + 1)) = stR (L.getD k []) l (arcs.take j)) : stM L l arcs k j = stM L l arcs k (j + 1) := by
  refine List.ext_getElem (by simp [stM]) fun i h1 h2 => ?_
  have h' : i < L.length := by simpa [stM] using h2
  simp only [stM, List.getElem_mapIdx]
  by_cases e2 : i < k
  · rw [if_pos e2, if_pos e2]
  · rw [if_neg e2, if_neg e2]
    by_cases e : i = k
    · subst e
      rw [if_pos rfl, if_pos rfl]
      have e3 : L.getD i [] = L[i] := by simp [List.getD_eq_getElem?_getD, h']
      rw [e3] at h; exact h.symm
    · rw [if_neg e, if_neg e]
theorem stM_row {L : List (List Int)} {l : List Arc} {arcs : List Int} {k : Nat} {X : List Int} (hX : X = stRow (L.getD k []) l arcs) : (stM L l arcs k arcs.length).set k X = stM L l arcs (k + 1) 0 := by
  refine List.ext_getElem (by simp [stM]) fun i h1 h2 => ?_
  have h' : i < L.length := by simpa [stM] using h2
  rw [List.getElem_set]
  by_cases e : k = i
  · subst e
    rw [if_pos rfl, hX]; simp [stM, List.getD_eq_getElem?_getD, h']
  · rw [if_neg e]
    simp only [stM, List.getElem_mapIdx]
    by_cases e2 : i < k
    · rw [if_pos e2, if_pos (by omega)]
    · rw [if_neg e2, if_neg (by omega), if_neg (by omega)]
      by_cases e3 : i = k + 1
      · rw [if_pos e3]; simp [stR]
      · rw [if_neg e3]
theorem stM_all {L : List (List Int)} {l : List Arc} {arcs : List Int} {k j : Nat} (h : L.length ≤ k) : stM L l arcs k j = stL L l arcs := by
  refine List.ext_getElem (by simp [stM, stL]) fun i h1 h2 => ?_
  have h' : i < L.length := by simpa [stL] using h2
  simp only [stM, stL, List.getElem_mapIdx, List.getElem_map]
  rw [if_pos (by omega)]
theorem stR_next {row : List Int} {l : List Arc} {arcs : List Int} {j : Nat} (hj : j < arcs.length) : stR row l (arcs.take (j + 1)) = stR row l (arcs.take j) ++ stOf row l arcs[j] := by
  unfold stR; rw [List.take_succ_eq_append_getElem hj, List.flatMap_append]; simp
theorem stOf_len (row : List Int) (l : List Arc) (i : Int) : (stOf row l i).length ≤ 1 := by
  unfold stOf
  cases l[i.toNat]? with
  | none => simp
  | some a => simp only [Option.elim]; split <;> simp
theorem stR_len (row : List Int) (l : List Arc) : ∀ arcs : List Int, (stR row l arcs).length ≤ arcs.length
  | [] => by simp [stR]
  | i :: arcs => by
    have h1 := stR_len row l arcs
    have h2 := stOf_len row l i
    unfold stR at *
    rw [List.flatMap_cons, List.length_append, List.length_cons]; omega
theorem stOf_at {row : List Int} {l : List Arc} {i : Int} {u : Nat} (hi : i = (u : Int)) (hu : u < l.length) : stOf row l i = if row.getD l[u].src.toNat 0 = row.getD l[u].dst.toNat 0 then [row.getD l[u].src.toNat 0] else [] := by
  unfold stOf; rw [hi, Int.toNat_natCast, List.getElem?_eq_getElem hu]; rfl

theorem ints_len1C {E : TypeId} {v : Value} {l : List Int} {x : Int} {m : Seg} : Own E 1 v (l.length + 1) (ints l ++ [.int .i64 x]) m = Own E 1 v (l ++ [x]).length (ints (l ++ [x])) m := by rw [ints_append, List.length_append]; rfl
theorem rep_flatC (n : Nat) (v : Value) : List.replicate n v = (List.replicate n [v]).flatten := by
  induction n with
  | zero => rfl
  | succ n ih => rw [List.replicate_succ, List.replicate_succ, List.flatten_cons, ← ih]; rfl

set_option maxRecDepth 100000 in
set_option maxHeartbeats 4000000 in
theorem CIndex_spec (N : Int) (A : Option Addr) (l : List Arc) (cap : Nat) (Ab : Option Addr) (bs : List Int) (cb : Nat) (Ac : Option Addr) (R : List Row) (cc : Nat) (q c v : Int) (w : World) (hr : Ro (Fr w []) w A (l.flatMap arcCs)) (hl : l.length ≤ 9223372036854775807) (hN : I64 N) (hok : ∀ x ∈ l, ArcOk x) (hn : NestRo (Fr w []) w Ab bs Ac R) :
    Meets Tryz.prog 10 [.agg #[.int .i64 N, .slice A l.length cap], .agg #[.slice Ab bs.length cb, .slice Ac R.length cc], .int .i64 q, .int .i64 c, .int .i64 v] w [] (fun u m => ∃ i : Nat, u = .tuple #[.int .i64 (i : Int), .int .i64 (ixE N l bs (rowsL R) q c v)] ∧ m = [] ∧ (ixE N l bs (rowsL R) q c v ≠ 0 → i = 0) ∧ (ixE N l bs (rowsL R) q c v = 0 → (bdL ((rowsL R).getD (q.toNat - 1) []) c l)[i]? = some v)) := by
 refine f_enter Tryz.func10 rfl Tryz.ntmps10 rfl Owns.nil ?_
 refine f_seq fun K1 kh1 => ?_
 refine f_region ?_
 refine f_step rfl rfl rfl (o_box rfl rfl fun b5 => ?_)
 refine f_step rfl rfl rfl (o_box rfl rfl fun b6 => ?_)
 refine f_stepP rfl rfl rfl (o_assign rfl) ?_
 refine f_stepP rfl rfl rfl (o_assign rfl) ?_
 refine f_done ?_
 refine f_tn (kh1 _ _ ?_)
 clear kh1
 refine f_seq fun K2 kh2 => ?_
 refine f_region ?_
 refine f_stepP rfl rfl rfl (o_loadA (vs := [_, _]) Tryz.isAgg24 Tryz.sizeOf24 rfl rfl ⟨(rdA rfl), (rdA rfl), trivial⟩) ?_
 refine f_stepP rfl rfl rfl (o_loadA (vs := [_, _]) Tryz.isAgg28 Tryz.sizeOf28 rfl rfl ⟨(rdA rfl), (rdA rfl), trivial⟩) ?_
 refine f_stepP rfl rfl rfl (o_move rfl) ?_
 refine f_stepP rfl rfl rfl (o_move rfl) ?_
 refine f_step rfl rfl rfl (o_call Tryz.call8 rfl (fun w_ hp_ => CBoundary_spec N A l cap Ab bs cb Ac R cc q c w_ (hr.up0 hp_) hl hN hok (hn.up0 hp_)) ?_)
 rintro _ _ ⟨M_, AM, cM, mM, rfl, rfl, hoM, hM1, hM0⟩
 dsimp only [List.cons_append, List.nil_append]
 refine f_stepP rfl rfl rfl (o_move rfl) ?_
 refine f_stepP rfl rfl rfl (o_extract rfl rfl) ?_
 refine f_stepP rfl rfl rfl (o_extract rfl rfl) ?_
 refine f_stepP rfl rfl rfl (o_assign rfl) ?_
 refine f_stepP rfl rfl rfl (o_assign rfl) ?_
 refine f_done ?_
 refine f_tn (kh2 _ _ ?_)
 clear kh2
 refine f_seq fun K3 kh3 => ?_
 refine f_seq fun K4 kh4 => ?_
 refine f_region ?_
 refine f_stepP rfl rfl rfl (o_move rfl) ?_
 refine f_stepP rfl rfl rfl (o_neq rfl rfl) ?_
 refine f_done ?_
 refine f_tn (kh4 _ _ ?_)
 clear kh4
 refine f_cond rfl (fun c25 => ?_) (fun c25 => ?_)
 ·
  refine f_seq fun K5 kh5 => ?_
  refine f_region ?_
  refine f_stepP rfl rfl rfl (o_move rfl) ?_
  refine f_stepP rfl rfl rfl (o_assign rfl) ?_
  refine f_stepP rfl rfl rfl (o_assign rfl) ?_
  refine f_done ?_
  refine f_tn (kh5 _ _ ?_)
  clear kh5
  refine f_ret ?_
  refine f_tr ?_
  have e : ixE N l bs (rowsL R) q c v = clE N l bs (rowsL R) q c := by unfold ixE; rw [if_pos (by simpa using c25)]
  exact f_fin2 [] Tryz.results10 rfl rfl Sub.nil ⟨0, by rw [e]; rfl, rfl, fun _ => rfl, fun h => absurd (e.symm.trans h) (by simpa using c25)⟩
 ·
  have hcz : clE N l bs (rowsL R) q c = 0 := by simpa using c25
  obtain ⟨n, k, j, hNn, hNo, hqk, hkb, hcj, hjm⟩ := clE_zero hcz
  obtain ⟨hn1, hn2, hlen, hgd⟩ := gcheck_zero hNo.g
  obtain rfl := hM0 hcz
  have hbl := bdL_len ((rowsL R).getD (q.toNat - 1) []) c l
  refine f_skip ?_
  refine f_tn (kh3 _ _ ?_)
  clear kh3
  refine f_seq fun K6 kh6 => ?_
  refine f_region ?_
  refine f_stepP rfl rfl rfl (o_move rfl) ?_
  refine f_stepP rfl rfl rfl (o_move rfl) ?_
  refine f_step rfl rfl rfl (o_call Tryz.call28 rfl (fun w_ hp_ => BSearch_spec AM (bdL ((rowsL R).getD (q.toNat - 1) []) c l) (bdL ((rowsL R).getD (q.toNat - 1) []) c l).length v w_ (seen_ro (hoM.seen hp_)) (by omega) (bdL_rising _ _ _)) ?_)
  rintro _ _ ⟨i, rfl, rfl, hi⟩
  dsimp only [List.cons_append, List.nil_append]
  refine f_stepP rfl rfl rfl (o_move rfl) ?_
  refine f_stepP rfl rfl rfl (o_extract rfl rfl) ?_
  refine f_stepP rfl rfl rfl (o_extract rfl rfl) ?_
  refine f_stepP rfl rfl rfl (o_assign rfl) ?_
  refine f_stepP rfl rfl rfl (o_assign rfl) ?_
  refine f_done ?_
  refine f_tn (kh6 _ _ ?_)
  clear kh6
  refine f_seq fun K7 kh7 => ?_
  refine f_seq fun K8 kh8 => ?_
  refine f_region ?_
  refine f_stepP rfl rfl rfl (o_move rfl) ?_
  refine f_stepP rfl rfl rfl (o_not rfl) ?_
  refine f_done ?_
  refine f_tn (kh8 _ _ ?_)
  clear kh8
  refine f_condB rfl (fun c34 => ?_) (fun c34 => ?_)
  ·
   refine f_seq fun K9 kh9 => ?_
   refine f_region ?_
   refine f_stepP rfl rfl rfl (o_assign rfl) ?_
   refine f_stepP rfl rfl rfl (o_assign rfl) ?_
   refine f_done ?_
   refine f_tn (kh9 _ _ ?_)
   clear kh9
   refine f_ret ?_
   refine f_tr ?_
   have e : ixE N l bs (rowsL R) q c v = 5 := by unfold ixE; rw [if_neg (by rw [hcz]; simp), if_neg (by simpa using c34)]
   exact f_fin2 [] Tryz.results10 rfl rfl Sub.nil ⟨0, by rw [e]; rfl, rfl, fun _ => rfl, fun h => absurd (e.symm.trans h) (by decide)⟩
  ·
   refine f_skip ?_
   refine f_tn (kh7 _ _ ?_)
   clear kh7
   refine f_seq fun K10 kh10 => ?_
   refine f_region ?_
   refine f_stepP rfl rfl rfl (o_move rfl) ?_
   refine f_stepP rfl rfl rfl (o_assign rfl) ?_
   refine f_stepP rfl rfl rfl (o_assign rfl) ?_
   refine f_done ?_
   refine f_tn (kh10 _ _ ?_)
   clear kh10
   refine f_ret ?_
   have hv : v ∈ bdL ((rowsL R).getD (q.toNat - 1) []) c l := by simpa using c34
   have e : ixE N l bs (rowsL R) q c v = 0 := by unfold ixE; rw [if_neg (by rw [hcz]; simp), if_pos hv]
   exact f_fin2 [] Tryz.results10 rfl rfl Sub.nil ⟨i, by rw [e], rfl, fun h => absurd e h, fun _ => hi hv⟩

end Go.Proofs.YtkmkakpadgljeaaGreat

/- flyoverbook: whether lists and graphs are the same. -/
namespace Go.Proofs.YtkmkakpadgljeaaGreat
open Go Go.RowKit Fly
set_option linter.unusedVariables false
set_option linter.unusedSimpArgs false


theorem prefix_next {α : Type} {l r : List α} {k : Nat} (hl : l.length = r.length) (hk : k < l.length) (h : ∀ j (a : j < l.length) (b : j < r.length), j < k → l[j] = r[j]) (e : l[k] = r[k]'(hl ▸ hk)) :
    ∀ j (a : j < l.length) (b : j < r.length), j < k + 1 → l[j] = r[j] := fun j a b hj => by
  by_cases hjk : j = k
  · subst hjk; exact e
  · exact h j a b (by omega)
theorem prefix_all {α : Type} {l r : List α} {k : Nat} (hl : l.length = r.length) (hk : l.length ≤ k) (h : ∀ j (a : j < l.length) (b : j < r.length), j < k → l[j] = r[j]) : l = r :=
  List.ext_getElem hl fun j a b => h j a b (by omega)
theorem ne_at {α : Type} {l r : List α} {k : Nat} (hk : k < l.length) (hk' : k < r.length) (e : l[k] ≠ r[k]) : l ≠ r := fun h => by subst h; exact e rfl

set_option maxRecDepth 100000 in
set_option maxHeartbeats 4000000 in
theorem SameInts_spec (A B : Option Addr) (l r : List Int) (ca cb : Nat) (w : World) (hl : Ro (Fr w []) w A (ints l)) (hr : Ro (Fr w []) w B (ints r)) (hm : l.length ≤ 9223372036854775807) :
    Meets Tryz.prog 12 [.slice A l.length ca, .slice B r.length cb] w [] (fun u m => u = .bool (decide (l = r)) ∧ m = []) := by
 refine f_enter Tryz.func12 rfl Tryz.ntmps12 rfl Owns.nil ?_
 refine f_seq fun K1 kh1 => ?_
 refine f_region ?_
 refine f_stepP rfl rfl rfl (o_assign rfl) ?_
 refine f_done ?_
 refine f_tn (kh1 _ _ ?_)
 clear kh1
 refine f_seq fun K2 kh2 => ?_
 refine f_seq fun K3 kh3 => ?_
 refine f_region ?_
 refine f_stepP rfl rfl rfl (o_move rfl) ?_
 refine f_stepP rfl rfl rfl (o_len sl25 rfl) ?_
 refine f_stepP rfl rfl rfl (o_move rfl) ?_
 refine f_stepP rfl rfl rfl (o_len sl25 rfl) ?_
 refine f_stepP rfl rfl rfl (o_neq rfl rfl) ?_
 refine f_done ?_
 refine f_tn (kh3 _ _ ?_)
 clear kh3
 refine f_cond rfl (fun c10 => ?_) (fun c10 => ?_)
 ·
  refine f_seq fun K4 kh4 => ?_
  refine f_region ?_
  refine f_stepP rfl rfl rfl (o_assign rfl) ?_
  refine f_done ?_
  refine f_tn (kh4 _ _ ?_)
  clear kh4
  refine f_ret ?_
  refine f_tr ?_
  exact f_fin1 [] Tryz.results12 rfl Sub.nil ⟨by rw [decide_eq_false]; intro e; subst e; omega, rfl⟩
 ·
  have hlr : l.length = r.length := by omega
  refine f_skip ?_
  refine f_tn (kh2 _ _ ?_)
  clear kh2
  refine f_seq fun K5 kh5 => ?_
  refine f_seq fun K6 kh6 => ?_
  refine f_region ?_
  refine f_stepP rfl rfl rfl (o_assign rfl) ?_
  refine f_done ?_
  refine f_tn (kh6 _ _ ?_)
  clear kh6
  refine f_block ?_
  refine f_loopK (α := Nat) [0, 1] (fun k => [(5, .int .i64 (k : Int))]) (fun k => k ≤ l.length ∧ ∀ j (a : j < l.length) (b : j < r.length), j < k → l[j] = r[j]) (fun k => l.length - k) (0) ?_ ?_ ?_
  · exact (by repeat (first | exact trivial | refine ⟨rfl, ?_⟩))
  · exact ⟨by omega, fun j _ _ hj => by omega⟩
  ·
   rintro k ⟨hkl, hpre⟩
   refine f_seq fun K7 kh7 => ?_
   refine f_seq fun K8 kh8 => ?_
   refine f_region ?_
   refine f_stepP rfl rfl rfl (o_move rfl) ?_
   refine f_stepP rfl rfl rfl (o_move rfl) ?_
   refine f_stepP rfl rfl rfl (o_len sl25 rfl) ?_
   refine f_stepP rfl rfl rfl (o_lss rfl rfl) ?_
   refine f_done ?_
   refine f_tn (kh8 _ _ ?_)
   clear kh8
   refine f_cond rfl (fun c14 => ?_) (fun c14 => ?_)
   ·
    refine f_skip ?_
    refine f_tn (kh7 _ _ ?_)
    clear kh7
    refine f_seq fun K9 kh9 => ?_
    refine f_block ?_
    refine f_seq fun K10 kh10 => ?_
    refine f_regionS rfl (by decide +kernel) ?_
    have hk : k < l.length := by omega
    have hk' : k < r.length := by omega
    obtain ⟨b1, o1, rfl, hS1, hc1⟩ := hl (fun e => by have := ints_length l; rw [e] at this; simp at this; omega)
    obtain ⟨b2, o2, rfl, hS2, hc2⟩ := hr (fun e => by have := ints_length r; rw [e] at this; simp at this; omega)
    refine f_stillP rfl rfl rfl (o_move rfl) ?_
    refine f_stillP rfl rfl rfl (o_move rfl) ?_
    refine f_stillP rfl rfl rfl (o_idx sl25 rfl rfl (o1 + k) ⟨by omega, by omega, by first | omega | (simp; done) | (simp; omega)⟩) ?_
    refine f_stillP rfl rfl rfl (o_load Tryz.isAgg3 rfl (roOne (enc := (.int .i64 ·)) hS1 hc1 hk)) ?_
    refine f_stillP rfl rfl rfl (o_move rfl) ?_
    refine f_stillP rfl rfl rfl (o_move rfl) ?_
    refine f_stillP rfl rfl rfl (o_idx sl25 rfl rfl (o2 + k) ⟨by omega, by omega, by first | omega | (simp; done) | (simp; omega)⟩) ?_
    refine f_stillP rfl rfl rfl (o_load Tryz.isAgg3 rfl (roOne (enc := (.int .i64 ·)) hS2 hc2 hk')) ?_
    refine f_stillP rfl rfl rfl (o_neq rfl rfl) ?_
    refine f_stillD ?_
    refine f_tn (kh10 _ _ ?_)
    clear kh10
    refine f_cond rfl (fun c25 => ?_) (fun c25 => ?_)
    ·
     refine f_seq fun K11 kh11 => ?_
     refine f_region ?_
     refine f_stepP rfl rfl rfl (o_assign rfl) ?_
     refine f_done ?_
     refine f_tn (kh11 _ _ ?_)
     clear kh11
     refine f_ret ?_
     refine f_br ?_
     refine f_tr ?_
     refine f_tr ?_
     refine f_br ?_
     refine f_tr ?_
     exact f_fin1 [] Tryz.results12 rfl Sub.nil ⟨by rw [decide_eq_false]; exact ne_at hk hk' c25, rfl⟩
    ·
     refine f_skip ?_
     refine f_bn ?_
     refine f_tn (kh9 _ _ ?_)
     clear kh9
     refine f_region ?_
     refine f_stepP rfl rfl rfl (o_move rfl) ?_
     refine f_stepP rfl rfl rfl (o_add rfl rfl _ (wrap_i64 (by omega))) ?_
     refine f_stepP rfl rfl rfl (o_assign rfl) ?_
     refine f_done ?_
     refine f_tn (f_again (k + 1) (by first | omega | (dsimp only; omega) | (simp; omega)) ⟨by omega, prefix_next hlr hk hpre (by omega)⟩ ?_ ?_ ?_)
     · exact (by repeat (first | exact trivial | refine ⟨rfl, ?_⟩))
     · exact (by repeat (first | exact trivial | refine ⟨rfl, ?_⟩))
     · repeat (first | exact Sub.nil | refine Sub.pick ?_ | refine Sub.castO rfl ?_ | refine Sub.skip ?_)
   ·
    refine f_exit ?_
    refine f_te ?_
    clear kh7
    refine f_te ?_
    refine f_be ?_
    refine f_tn (kh5 _ _ ?_)
    clear kh5
    refine f_seq fun K12 kh12 => ?_
    refine f_region ?_
    refine f_stepP rfl rfl rfl (o_assign rfl) ?_
    refine f_done ?_
    refine f_tn (kh12 _ _ ?_)
    clear kh12
    refine f_ret ?_
    exact f_fin1 [] Tryz.results12 rfl Sub.nil ⟨by rw [decide_eq_true]; exact prefix_all hlr (by omega) hpre, rfl⟩


set_option maxRecDepth 100000 in
theorem eqArc (x y : Arc) (w : World) : (Op.equalIn 10000 48 (.agg (arcCs x).toArray) (.agg (arcCs y).toArray)).run Tryz.prog w = .ok (decide (x = y)) w := by
  have hf : Tryz.prog.fieldsOf 48 = (match Tryz.prog.underlying 48 with | some (.struct fs) => fs | _ => #[]) := rfl
  rw [Tryz.underlying48] at hf
  rw [run_equalIn_struct (P := Tryz.prog) w 9999 48 _ _ (by rw [hf]; exact Tryz.underlying48) Tryz.stoodInHeld48, hf]
  obtain ⟨a, b, c⟩ := x
  obtain ⟨a', b', c'⟩ := y
  have ii : ∀ (k k' : IntKind) (p q : Int) (T : TypeId) (v : World), Tryz.prog.underlying T = some (.int k') → (Op.equalIn 9999 T (.int k p) (.int k q)).run Tryz.prog v = .ok (p == q) v := fun k k' p q T v h => run_equalIn_int v 9998 T k k' p q h
  simp only [Op.eqFields, arcCs, part, Sem.run_bind, Sem.run_ite, Tryz.isAgg3, Tryz.isAgg46, Result.andThen_ok, Sem.run_pure, ne_eq, Bool.false_eq_true, if_false]
  simp [ii _ _ _ _ _ _ Tryz.underlying3, ii _ _ _ _ _ _ Tryz.underlying46]
  by_cases h1 : a = a' <;> by_cases h2 : b = b' <;> by_cases h3 : c = c' <;> simp [h1, h2, h3]

set_option maxRecDepth 100000 in
set_option maxHeartbeats 4000000 in
theorem SameGraph_spec (N M : Int) (A B : Option Addr) (l r : List Arc) (ca cb : Nat) (w : World) (hl : Ro (Fr w []) w A (l.flatMap arcCs)) (hr : Ro (Fr w []) w B (r.flatMap arcCs)) (hm : l.length ≤ 9223372036854775807) :
    Meets Tryz.prog 35 [.agg #[.int .i64 N, .slice A l.length ca], .agg #[.int .i64 M, .slice B r.length cb]] w [] (fun u m => u = .bool (decide (N = M ∧ l = r)) ∧ m = []) := by
 refine f_enter Tryz.func35 rfl Tryz.ntmps35 rfl Owns.nil ?_
 refine f_seq fun K1 kh1 => ?_
 refine f_region ?_
 refine f_step rfl rfl rfl (o_box rfl rfl fun b2 => ?_)
 refine f_step rfl rfl rfl (o_box rfl rfl fun b3 => ?_)
 refine f_stepP rfl rfl rfl (o_assign rfl) ?_
 refine f_done ?_
 refine f_tn (kh1 _ _ ?_)
 clear kh1
 refine f_seq fun K2 kh2 => ?_
 refine f_seq fun K3 kh3 => ?_
 refine f_region ?_
 refine f_stepP rfl rfl rfl (o_field fa24_0 rfl) ?_
 refine f_stepP rfl rfl rfl (o_load Tryz.isAgg3 rfl (rdA rfl)) ?_
 refine f_stepP rfl rfl rfl (o_field fa24_0 rfl) ?_
 refine f_stepP rfl rfl rfl (o_load Tryz.isAgg3 rfl (rdA rfl)) ?_
 refine f_stepP rfl rfl rfl (o_neq rfl rfl) ?_
 refine f_stepP rfl rfl rfl (o_move rfl) ?_
 refine f_splitL 11 rfl (fun g11 => ?_) (fun g11 => ?_)
 ·
  refine f_stepN rfl rfl rfl rfl rfl rfl ?_
  refine f_stepN rfl rfl rfl rfl rfl rfl ?_
  refine f_stepN rfl rfl rfl rfl rfl rfl ?_
  refine f_stepN rfl rfl rfl rfl rfl rfl ?_
  refine f_stepN rfl rfl rfl rfl rfl rfl ?_
  refine f_stepN rfl rfl rfl rfl rfl rfl ?_
  refine f_stepN rfl rfl rfl rfl rfl rfl ?_
  refine f_stepP rfl rfl rfl (o_pickT rfl rfl) ?_
  refine f_done ?_
  refine f_tn (kh3 _ _ ?_)
  clear kh3
  refine f_condT rfl ?_
  refine f_seq fun K4 kh4 => ?_
  refine f_region ?_
  refine f_stepP rfl rfl rfl (o_assign rfl) ?_
  refine f_done ?_
  refine f_tn (kh4 _ _ ?_)
  clear kh4
  refine f_ret ?_
  refine f_tr ?_
  exact f_fin1 [] Tryz.results35 rfl Sub.nil ⟨by rw [decide_eq_false]; intro e; omega, rfl⟩
 ·
  refine f_stepPY rfl rfl rfl rfl rfl (o_field fa24_1 rfl) ?_
  refine f_stepPY rfl rfl rfl rfl rfl (o_load Tryz.isAgg22 rfl (rdA rfl)) ?_
  refine f_stepPY rfl rfl rfl rfl rfl (o_len sl22 rfl) ?_
  refine f_stepPY rfl rfl rfl rfl rfl (o_field fa24_1 rfl) ?_
  refine f_stepPY rfl rfl rfl rfl rfl (o_load Tryz.isAgg22 rfl (rdA rfl)) ?_
  refine f_stepPY rfl rfl rfl rfl rfl (o_len sl22 rfl) ?_
  refine f_stepPY rfl rfl rfl rfl rfl (o_neq rfl rfl) ?_
  refine f_stepP rfl rfl rfl (o_pickF rfl rfl) ?_
  refine f_done ?_
  refine f_tn (kh3 _ _ ?_)
  clear kh3
  refine f_cond rfl (fun c19 => ?_) (fun c19 => ?_)
  ·
   refine f_seq fun K5 kh5 => ?_
   refine f_region ?_
   refine f_stepP rfl rfl rfl (o_assign rfl) ?_
   refine f_done ?_
   refine f_tn (kh5 _ _ ?_)
   clear kh5
   refine f_ret ?_
   refine f_tr ?_
   exact f_fin1 [] Tryz.results35 rfl Sub.nil ⟨by rw [decide_eq_false]; rintro ⟨_, e⟩; subst e; omega, rfl⟩
  ·
   have hNM : N = M := by omega
   have hlr : l.length = r.length := by omega
   refine f_skip ?_
   refine f_tn (kh2 _ _ ?_)
   clear kh2
   refine f_seq fun K6 kh6 => ?_
   refine f_seq fun K7 kh7 => ?_
   refine f_region ?_
   refine f_stepP rfl rfl rfl (o_assign rfl) ?_
   refine f_done ?_
   refine f_tn (kh7 _ _ ?_)
   clear kh7
   refine f_block ?_
   refine f_loopK (α := Nat) [2, 3] (fun k => [(5, .int .i64 (k : Int))]) (fun k => k ≤ l.length ∧ ∀ j (a : j < l.length) (b : j < r.length), j < k → l[j] = r[j]) (fun k => l.length - k) (0) ?_ ?_ ?_
   · exact (by repeat (first | exact trivial | refine ⟨rfl, ?_⟩))
   · exact ⟨by omega, fun j _ _ hj => by omega⟩
   ·
    rintro k ⟨hkl, hpre⟩
    refine f_seq fun K8 kh8 => ?_
    refine f_seq fun K9 kh9 => ?_
    refine f_region ?_
    refine f_stepP rfl rfl rfl (o_move rfl) ?_
    refine f_stepP rfl rfl rfl (o_field fa24_1 rfl) ?_
    refine f_stepP rfl rfl rfl (o_load Tryz.isAgg22 rfl (rdA rfl)) ?_
    refine f_stepP rfl rfl rfl (o_len sl22 rfl) ?_
    refine f_stepP rfl rfl rfl (o_lss rfl rfl) ?_
    refine f_done ?_
    refine f_tn (kh9 _ _ ?_)
    clear kh9
    refine f_cond rfl (fun c24 => ?_) (fun c24 => ?_)
    ·
     refine f_skip ?_
     refine f_tn (kh8 _ _ ?_)
     clear kh8
     refine f_seq fun K10 kh10 => ?_
     refine f_block ?_
     refine f_seq fun K11 kh11 => ?_
     refine f_regionS rfl (by decide +kernel) ?_
     have hk : k < l.length := by omega
     have hk' : k < r.length := by omega
     obtain ⟨b1, o1, rfl, hS1, hc1⟩ := hl (flat_ne arcCs arcCs_len (by omega) hk)
     obtain ⟨b2, o2, rfl, hS2, hc2⟩ := hr (flat_ne arcCs arcCs_len (by omega) hk')
     refine f_stillP rfl rfl rfl (o_field fa24_1 rfl) ?_
     refine f_stillP rfl rfl rfl (o_load Tryz.isAgg22 rfl (rdA rfl)) ?_
     refine f_stillP rfl rfl rfl (o_move rfl) ?_
     refine f_stillP rfl rfl rfl (o_idx sl22 rfl rfl (o1 + k * 3) ⟨by omega, by omega, by first | omega | (simp; done) | (simp; omega)⟩) ?_
     refine f_stillP rfl rfl rfl (o_loadA (vs := arcCs l[k]) Tryz.isAgg48 Tryz.sizeOf48 rfl rfl (roElem arcCs_len hS1 hc1 hk)) ?_
     refine f_stillP rfl rfl rfl (o_field fa24_1 rfl) ?_
     refine f_stillP rfl rfl rfl (o_load Tryz.isAgg22 rfl (rdA rfl)) ?_
     refine f_stillP rfl rfl rfl (o_move rfl) ?_
     refine f_stillP rfl rfl rfl (o_idx sl22 rfl rfl (o2 + k * 3) ⟨by omega, by omega, by first | omega | (simp; done) | (simp; omega)⟩) ?_
     refine f_stillP rfl rfl rfl (o_loadA (vs := arcCs r[k]) Tryz.isAgg48 Tryz.sizeOf48 rfl rfl (roElem arcCs_len hS2 hc2 hk')) ?_
     refine f_stillP rfl rfl rfl (o_neqA Tryz.eqGuardType48 (eqArc l[k] r[k]) rfl rfl) ?_
     refine f_stillD ?_
     refine f_tn (kh11 _ _ ?_)
     clear kh11
     refine f_cond rfl (fun c37 => ?_) (fun c37 => ?_)
     ·
      refine f_seq fun K12 kh12 => ?_
      refine f_region ?_
      refine f_stepP rfl rfl rfl (o_assign rfl) ?_
      refine f_done ?_
      refine f_tn (kh12 _ _ ?_)
      clear kh12
      refine f_ret ?_
      refine f_br ?_
      refine f_tr ?_
      refine f_tr ?_
      refine f_br ?_
      refine f_tr ?_
      exact f_fin1 [] Tryz.results35 rfl Sub.nil ⟨by rw [decide_eq_false]; rintro ⟨_, e⟩; exact ne_at hk hk' c37 e, rfl⟩
     ·
      refine f_skip ?_
      refine f_bn ?_
      refine f_tn (kh10 _ _ ?_)
      clear kh10
      refine f_region ?_
      refine f_stepP rfl rfl rfl (o_move rfl) ?_
      refine f_stepP rfl rfl rfl (o_add rfl rfl _ (wrap_i64 (by omega))) ?_
      refine f_stepP rfl rfl rfl (o_assign rfl) ?_
      refine f_done ?_
      refine f_tn (f_again (k + 1) (by first | omega | (dsimp only; omega) | (simp; omega)) ⟨by omega, prefix_next hlr hk hpre (by simpa using c37)⟩ ?_ ?_ ?_)
      · exact (by repeat (first | exact trivial | refine ⟨rfl, ?_⟩))
      · exact (by repeat (first | exact trivial | refine ⟨rfl, ?_⟩))
      · repeat (first | exact Sub.nil | refine Sub.pick ?_ | refine Sub.castO rfl ?_ | refine Sub.skip ?_)
    ·
     refine f_exit ?_
     refine f_te ?_
     clear kh8
     refine f_te ?_
     refine f_be ?_
     refine f_tn (kh6 _ _ ?_)
     clear kh6
     refine f_seq fun K13 kh13 => ?_
     refine f_region ?_
     refine f_stepP rfl rfl rfl (o_assign rfl) ?_
     refine f_done ?_
     refine f_tn (kh13 _ _ ?_)
     clear kh13
     refine f_ret ?_
     exact f_fin1 [] Tryz.results35 rfl Sub.nil ⟨by rw [decide_eq_true]; exact ⟨hNM, prefix_all hlr (by omega) hpre⟩, rfl⟩

end Go.Proofs.YtkmkakpadgljeaaGreat
