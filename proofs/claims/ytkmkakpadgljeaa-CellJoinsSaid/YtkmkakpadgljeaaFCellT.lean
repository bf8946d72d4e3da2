/- flyoverlaw12.CellTouched. -/
import Derived.Test.YtkmkakpadgljeaaFCellL
namespace Go.Proofs.Ytkmkakpadgljeaa
open Go Go.RowKit Fly
set_option linter.unusedVariables false
set_option linter.unusedSimpArgs false


theorem idxs_memC {α : Type} {p : α → Bool} {l : List α} {x : Int} : x ∈ idxs p l ↔ ∃ (u : Nat) (hu : u < l.length), x = (u : Int) ∧ p l[u] = true := by
  have key : ∀ k, k ≤ l.length → (x ∈ idxs p (l.take k) ↔ ∃ (u : Nat) (hu : u < l.length), u < k ∧ x = (u : Int) ∧ p l[u] = true) := fun k => by
    induction k with
    | zero => intro _; simp [idxs]
    | succ k ih =>
      intro hk
      rw [idxs_succ (by omega), List.mem_append, ih (by omega)]
      constructor
      · rintro (⟨u, hu, h1, h2, h3⟩ | h)
        · exact ⟨u, hu, by omega, h2, h3⟩
        · split at h
          · rename_i h4; exact ⟨k, by omega, by omega, by simpa using h, h4⟩
          · cases h
      · rintro ⟨u, hu, h1, h2, h3⟩
        by_cases e : u = k
        · subst e; rw [if_pos h3]; exact .inr (by simpa using h2)
        · exact .inl ⟨u, hu, by omega, h2, h3⟩
  have := key l.length (Nat.le_refl _)
  rw [List.take_length] at this
  rw [this]
  constructor
  · rintro ⟨u, hu, _, h⟩; exact ⟨u, hu, h⟩
  · rintro ⟨u, hu, h⟩; exact ⟨u, hu, hu, h⟩

theorem snE_zero {N : Int} {l : List Arc} {bs : List Int} {L : List (List Int)} {arcs : List Int} (h : snE N l bs L arcs = 0) : (nsE N l bs L).2 = 0 ∧ arcs.length ≤ 16384 ∧ ∀ i ∈ arcs, 0 ≤ i ∧ i < (l.length : Int) := by
  unfold snE at h
  by_cases h1 : (nsE N l bs L).2 = 0
  · rw [if_neg (by rw [h1]; simp)] at h
    by_cases h2 : 16384 < arcs.length
    · rw [if_pos h2] at h; cases h
    · rw [if_neg h2] at h
      by_cases h3 : arcs.any (offA l.length) = true
      · rw [if_pos h3] at h; cases h
      · refine ⟨h1, by omega, fun i hi => ?_⟩
        have := List.any_eq_false.1 (by simpa using h3) i hi
        unfold offA at this
        simp at this; omega
  · rw [if_pos h1] at h; exact absurd h h1
theorem stOf_mem {row : List Int} {l : List Arc} {i c : Int} (hi : 0 ≤ i ∧ i < (l.length : Int)) : c ∈ stOf row l i ↔ i ∈ idxs (inP row c) l := by
  obtain ⟨u, rfl⟩ : ∃ u : Nat, i = (u : Int) := ⟨i.toNat, by omega⟩
  have hu : u < l.length := by omega
  rw [stOf_at rfl hu, idxs_memC]
  constructor
  · intro h
    split at h
    · rename_i e
      have h : c = row.getD l[u].src.toNat 0 := by simpa using h
      refine ⟨u, hu, rfl, ?_⟩
      unfold inP; rw [← e, ← h]; simp
    · cases h
  · rintro ⟨v, hv, e, h⟩
    obtain rfl : u = v := by omega
    unfold inP at h
    rw [Bool.and_eq_true, decide_eq_true_eq, decide_eq_true_eq] at h
    rw [if_pos (by rw [h.1, h.2]), h.1]; simp
theorem stRow_mem {row : List Int} {l : List Arc} {arcs : List Int} {c : Int} : c ∈ stRow row l arcs ↔ ∃ i ∈ arcs, c ∈ stOf row l i := by
  unfold stRow; rw [cpt_mem, (sortI_perm _).mem_iff]; unfold stR; rw [List.mem_flatMap]
theorem touched_is {row : List Int} {l : List Arc} {arcs : List Int} {c : Int} (ha : ∀ i ∈ arcs, 0 ≤ i ∧ i < (l.length : Int)) : (arcs.any fun x => decide (x ∈ idxs (inP row c) l)) = decide (c ∈ stRow row l arcs) := by
  rw [Bool.eq_iff_iff, decide_eq_true_eq, stRow_mem, List.any_eq_true]
  constructor
  · rintro ⟨i, hi, h⟩; exact ⟨i, hi, (stOf_mem (ha i hi)).2 (by simpa using h)⟩
  · rintro ⟨i, hi, h⟩; exact ⟨i, hi, by simpa using (stOf_mem (ha i hi)).1 h⟩
theorem any_take {α : Type} {p : α → Bool} {l : List α} {j : Nat} (hj : j < l.length) : (l.take (j + 1)).any p = ((l.take j).any p || p l[j]) := by
  rw [List.take_succ_eq_append_getElem hj, List.any_append]; simp

set_option maxRecDepth 100000 in
set_option maxHeartbeats 4000000 in
theorem CellTouched_spec (N : Int) (A : Option Addr) (l : List Arc) (cap : Nat) (Ab : Option Addr) (bs : List Int) (cb : Nat) (Ac : Option Addr) (R : List Row) (cc : Nat) (lv : Int) (D : Option Addr) (arcs : List Int) (cd : Nat) (w : World) (hr : Ro (Fr w []) w A (l.flatMap arcCs)) (hl : l.length ≤ 9223372036854775807) (hN : I64 N) (hok : ∀ x ∈ l, ArcOk x) (hn : NestRo (Fr w []) w Ab bs Ac R) (hD : Ro (Fr w []) w D (ints arcs)) (hm : arcs.length ≤ 9223372036854775807) :
    Meets Try.prog 6 [.agg #[.int .i64 N, .slice A l.length cap], .agg #[.slice Ab bs.length cb, .slice Ac R.length cc], .agg #[.int .i64 lv, .slice D arcs.length cd]] w [] (fun u m => u = .bool true ∧ m = []) := by
 refine f_enter Try.func6 rfl Try.ntmps6 rfl Owns.nil ?_
 refine f_seq fun K1 kh1 => ?_
 refine f_region ?_
 refine f_step rfl rfl rfl (o_box rfl rfl fun b3 => ?_)
 refine f_step rfl rfl rfl (o_box rfl rfl fun b4 => ?_)
 refine f_step rfl rfl rfl (o_box rfl rfl fun b5 => ?_)
 refine f_stepP rfl rfl rfl (o_assign rfl) ?_
 refine f_done ?_
 refine f_tn (kh1 _ _ ?_)
 clear kh1
 refine f_seq fun K2 kh2 => ?_
 refine f_seq fun K3 kh3 => ?_
 refine f_region ?_
 refine f_step rfl rfl rfl (o_call Try.call7 rfl (fun w_ hp_ => works_spec w_) ?_)
 rintro _ _ ⟨rfl, rfl⟩
 dsimp only [List.cons_append, List.nil_append]
 refine f_stepP rfl rfl rfl (o_not rfl) ?_
 refine f_done ?_
 refine f_tn (kh3 _ _ ?_)
 clear kh3
 refine f_condF rfl ?_
 refine f_skip ?_
 refine f_tn (kh2 _ _ ?_)
 clear kh2
 refine f_seq fun K4 kh4 => ?_
 refine f_seq fun K5 kh5 => ?_
 refine f_region ?_
 refine f_stepP rfl rfl rfl (o_loadA (vs := [_, _]) Try.isAgg24 Try.sizeOf24 rfl rfl ⟨(rdA rfl), (rdA rfl), trivial⟩) ?_
 refine f_step rfl rfl rfl (o_call Try.call8 rfl (fun w_ hp_ => large_spec N A l cap w_ (hr.up0 hp_) hl hN hok) ?_)
 rintro _ _ ⟨bL, rfl, rfl⟩
 dsimp only [List.cons_append, List.nil_append]
 refine f_done ?_
 refine f_tn (kh5 _ _ ?_)
 clear kh5
 refine f_condB rfl (fun c21 => ?_) (fun c21 => ?_)
 ·
  refine f_seq fun K6 kh6 => ?_
  refine f_region ?_
  refine f_stepP rfl rfl rfl (o_assign rfl) ?_
  refine f_done ?_
  refine f_tn (kh6 _ _ ?_)
  clear kh6
  refine f_ret ?_
  refine f_tr ?_
  exact f_fin1 [] Try.results6 rfl Sub.nil ⟨rfl, rfl⟩
 ·
  refine f_skip ?_
  refine f_tn (kh4 _ _ ?_)
  clear kh4
  refine f_seq fun K7 kh7 => ?_
  refine f_region ?_
  refine f_stepP rfl rfl rfl (o_loadA (vs := [_, _]) Try.isAgg24 Try.sizeOf24 rfl rfl ⟨(rdA rfl), (rdA rfl), trivial⟩) ?_
  refine f_stepP rfl rfl rfl (o_loadA (vs := [_, _]) Try.isAgg28 Try.sizeOf28 rfl rfl ⟨(rdA rfl), (rdA rfl), trivial⟩) ?_
  refine f_stepP rfl rfl rfl (o_field fa45_1 rfl) ?_
  refine f_stepP rfl rfl rfl (o_load Try.isAgg25 rfl (rdA rfl)) ?_
  refine f_step rfl rfl rfl (o_call Try.call17 rfl (fun w_ hp_ => CStale_spec N A l cap Ab bs cb Ac R cc D arcs cd w_ (hr.up0 hp_) hl hN hok (hn.up0 hp_) (hD.up0 hp_) hm) ?_)
  rintro _ _ ⟨R', A', c', mc, ms, rfl, rfl, hoc, hRC, hE1, hE0⟩
  dsimp only [List.cons_append, List.nil_append]
  refine f_stepP rfl rfl rfl (o_move rfl) ?_
  refine f_stepP rfl rfl rfl (o_extract rfl rfl) ?_
  refine f_stepP rfl rfl rfl (o_extract rfl rfl) ?_
  refine f_stepP rfl rfl rfl (o_assign rfl) ?_
  refine f_stepP rfl rfl rfl (o_assign rfl) ?_
  refine f_done ?_
  refine f_tn (kh7 _ _ ?_)
  clear kh7
  refine f_seq fun K8 kh8 => ?_
  refine f_seq fun K9 kh9 => ?_
  refine f_region ?_
  refine f_stepP rfl rfl rfl (o_move rfl) ?_
  refine f_stepP rfl rfl rfl (o_neq rfl rfl) ?_
  refine f_done ?_
  refine f_tn (kh9 _ _ ?_)
  clear kh9
  refine f_cond rfl (fun c31 => ?_) (fun c31 => ?_)
  ·
   obtain rfl := hE1 (by simpa using c31)
   refine f_seq fun K10 kh10 => ?_
   refine f_region ?_
   refine f_stepP rfl rfl rfl (o_move rfl) ?_
   refine f_stepP rfl rfl rfl (o_len sl26 rfl) ?_
   refine f_stepP rfl rfl rfl (o_eql rfl rfl) ?_
   refine f_stepP rfl rfl rfl (o_assign rfl) ?_
   refine f_done ?_
   refine f_tn (kh10 _ _ ?_)
   clear kh10
   refine f_ret ?_
   refine f_tr ?_
   exact f_fin1 [] Try.results6 rfl Sub.nil ⟨by rfl, rfl⟩
  ·
   have hs0 : snE N l bs (rowsL R) arcs = 0 := by simpa using c31
   obtain ⟨hz, hal, hav⟩ := snE_zero hs0
   obtain ⟨n, rfl, hNo⟩ := nsE_zero hz
   obtain ⟨hn1, hn2, hlen, hgd⟩ := gcheck_zero hNo.g
   have hRl := hNo.len
   rw [rowsL_len] at hRl
   have hmany := hNo.many
   have hRs := hE0 hs0
   have hRl' : R'.length = R.length := by have := congrArg List.length hRs; rw [rowsL_len] at this; rw [this]; unfold stL; rw [List.length_map, rowsL_len]
   refine f_skip ?_
   refine f_tn (kh8 _ _ ?_)
   clear kh8
   refine f_seq fun K11 kh11 => ?_
   refine f_seq fun K12 kh12 => ?_
   refine f_region ?_
   refine f_stepP rfl rfl rfl (o_field fa28_0 rfl) ?_
   refine f_stepP rfl rfl rfl (o_load Try.isAgg25 rfl (rdA rfl)) ?_
   refine f_stepP rfl rfl rfl (o_len sl25 rfl) ?_
   refine f_stepP rfl rfl rfl (o_move rfl) ?_
   refine f_done ?_
   refine f_tn (kh12 _ _ ?_)
   clear kh12
   refine f_block ?_
   refine f_loop (α := Nat) [3, 4, 5, 7, 37] (fun k => [(38, .int .i64 (k : Int))]) (fun k => [mc, ms.flatten, [(b3, blk [.int .i64 (n : Int), .slice A l.length cap] 24)], [(b4, blk [.slice Ab bs.length cb, .slice Ac R.length cc] 28)], [(b5, blk [.int .i64 lv, .slice D arcs.length cd] 45)]]) (fun k => k ≤ bs.length) (fun k => bs.length - k) (0) ?_ ?_ ?_ ?_
   · exact (by repeat (first | exact trivial | refine ⟨rfl, ?_⟩))
   · repeat (first | exact Sub.nil | refine Sub.pick ?_ | refine Sub.castO rfl ?_ | refine Sub.skip ?_)
   · exact Nat.zero_le _
   ·
    rintro k hkl
    refine f_seq fun K13 kh13 => ?_
    refine f_region ?_
    refine f_stepP rfl rfl rfl (o_lss rfl rfl) ?_
    refine f_done ?_
    refine f_tn (kh13 _ _ ?_)
    clear kh13
    refine f_seq fun K14 kh14 => ?_
    refine f_cond rfl (fun c39 => ?_) (fun c39 => ?_)
    ·
     have hk : k < bs.length := by omega
     have hlenk := hNo.rowlen hk
     have hRk := hNo.right hk
     have hrng := right_range hRk (by omega)
     obtain ⟨m, hm⟩ : ∃ m : Nat, maxL ((rowsL R).getD k []) + 1 = (m : Int) := ⟨(maxL ((rowsL R).getD k []) + 1).toNat, by have := hrng _ (List.getElem_mem (show 0 < ((rowsL R).getD k []).length by omega)); have := le_maxL (List.getElem_mem (show 0 < ((rowsL R).getD k []).length by omega)); omega⟩
     have hmn : m ≤ n := by have := (hrng _ (List.getElem_mem (show 0 < ((rowsL R).getD k []).length by omega))).2.2; omega
     have hkR' : k < R'.length := by omega
     have hrow' : (R'[k]'hkR').2.1 = stRow ((rowsL R).getD k []) l arcs := by
       rw [← rowsL_at hkR', hRs]
       have hkL : k < (rowsL R).length := by rw [rowsL_len]; omega
       simp [stL, List.getD_eq_getElem?_getD, hkL]
     obtain ⟨bc, spc, rfl, rfl⟩ := hoc.at_ (by omega)
     refine f_skip ?_
     refine f_tn (kh14 _ _ ?_)
     clear kh14
     refine f_seq fun K15 kh15 => ?_
     refine f_block ?_
     refine f_seq fun K16 kh16 => ?_
     refine f_region ?_
     refine f_stepP rfl rfl rfl (o_move rfl) ?_
     refine f_stepP rfl rfl rfl (o_assign rfl) ?_
     refine f_done ?_
     refine f_tn (kh16 _ _ ?_)
     clear kh16
     refine f_seq fun K17 kh17 => ?_
     refine f_region ?_
     refine f_stepP rfl rfl rfl (o_loadA (vs := [_, _]) Try.isAgg24 Try.sizeOf24 rfl rfl ⟨(rdA rfl), (rdA rfl), trivial⟩) ?_
     refine f_stepP rfl rfl rfl (o_loadA (vs := [_, _]) Try.isAgg28 Try.sizeOf28 rfl rfl ⟨(rdA rfl), (rdA rfl), trivial⟩) ?_
     refine f_stepP rfl rfl rfl (o_move rfl) ?_
     refine f_stepP rfl rfl rfl (o_add rfl rfl _ (wrap_i64 (by omega))) ?_
     refine f_step rfl rfl rfl (o_call Try.call10 rfl (fun w_ hp_ => (by have h := NMany_spec (n : Int) A l cap Ab bs cb Ac R cc ((k : Int) + 1) w_ (hr.up0 hp_) hl hN hok (hn.up0 hp_); rw [lkE_ok hNo hk, if_neg (by simp), show ((k : Int) + 1).toNat - 1 = k by omega, hm] at h; exact h)) ?_)
     rintro _ _ ⟨rfl, rfl⟩
     dsimp only [List.cons_append, List.nil_append]
     refine f_stepP rfl rfl rfl (o_move rfl) ?_
     refine f_stepP rfl rfl rfl (o_extract rfl rfl) ?_
     refine f_stepP rfl rfl rfl (o_extract rfl rfl) ?_
     refine f_stepP rfl rfl rfl (o_assign rfl) ?_
     refine f_stepP rfl rfl rfl (o_assign rfl) ?_
     refine f_done ?_
     refine f_tn (kh17 _ _ ?_)
     clear kh17
     refine f_seq fun K18 kh18 => ?_
     refine f_seq fun K19 kh19 => ?_
     refine f_region ?_
     refine f_stepP rfl rfl rfl (o_move rfl) ?_
     refine f_stepP rfl rfl rfl (o_neq rfl rfl) ?_
     refine f_done ?_
     refine f_tn (kh19 _ _ ?_)
     clear kh19
     refine f_condN rfl (by simp) ?_
     refine f_skip ?_
     refine f_tn (kh18 _ _ ?_)
     clear kh18
     refine f_seq fun K20 kh20 => ?_
     refine f_region ?_
     refine f_stepP rfl rfl rfl (o_move rfl) ?_
     refine f_stepP rfl rfl rfl (o_move rfl) ?_
     refine f_done ?_
     refine f_tn (kh20 _ _ ?_)
     clear kh20
     refine f_block ?_
     refine f_loop (α := Nat) [3, 4, 5, 7, 9, 37, 38, 51] (fun c => [(52, .int .i64 (c : Int))]) (fun c => [[(bc, blk (R'.map rowV ++ spc) 25)], ms.flatten, [(b3, blk [.int .i64 (n : Int), .slice A l.length cap] 24)], [(b4, blk [.slice Ab bs.length cb, .slice Ac R.length cc] 28)], [(b5, blk [.int .i64 lv, .slice D arcs.length cd] 45)]]) (fun c => c ≤ m) (fun c => m - c) (0) ?_ ?_ ?_ ?_
     · exact (by repeat (first | exact trivial | refine ⟨rfl, ?_⟩))
     · repeat (first | exact Sub.nil | refine Sub.pick ?_ | refine Sub.castO rfl ?_ | refine Sub.skip ?_)
     · exact Nat.zero_le _
     ·
      rintro c hcm
      refine f_envC (e := [(52, _), (3, _), (4, _), (5, _), (7, _), (9, _), (37, _), (38, _), (51, _)]) (by repeat (first | exact trivial | refine ⟨rfl, ?_⟩)) ?_
      refine f_seq fun K21 kh21 => ?_
      refine f_region ?_
      refine f_stepP rfl rfl rfl (o_lss rfl rfl) ?_
      refine f_done ?_
      refine f_tn (kh21 _ _ ?_)
      clear kh21
      refine f_seq fun K22 kh22 => ?_
      refine f_cond rfl (fun c53 => ?_) (fun c53 => ?_)
      ·
       have hce := clE_ok hNo hk (c := (c : Int)) ⟨by omega, by omega⟩
       refine f_skip ?_
       refine f_tn (kh22 _ _ ?_)
       clear kh22
       refine f_seq fun K23 kh23 => ?_
       refine f_block ?_
       refine f_seq fun K24 kh24 => ?_
       refine f_region ?_
       refine f_stepP rfl rfl rfl (o_move rfl) ?_
       refine f_stepP rfl rfl rfl (o_assign rfl) ?_
       refine f_done ?_
       refine f_tn (kh24 _ _ ?_)
       clear kh24
       refine f_seq fun K25 kh25 => ?_
       refine f_region ?_
       refine f_stepP rfl rfl rfl (o_loadA (vs := [_, _]) Try.isAgg24 Try.sizeOf24 rfl rfl ⟨(rdA rfl), (rdA rfl), trivial⟩) ?_
       refine f_stepP rfl rfl rfl (o_loadA (vs := [_, _]) Try.isAgg28 Try.sizeOf28 rfl rfl ⟨(rdA rfl), (rdA rfl), trivial⟩) ?_
       refine f_stepP rfl rfl rfl (o_move rfl) ?_
       refine f_stepP rfl rfl rfl (o_add rfl rfl _ (wrap_i64 (by omega))) ?_
       refine f_stepP rfl rfl rfl (o_move rfl) ?_
       refine f_step rfl rfl rfl (o_call Try.call24 rfl (fun w_ hp_ => (by have h := CInner_spec (n : Int) A l cap Ab bs cb Ac R cc ((k : Int) + 1) (c : Int) w_ (hr.up0 hp_) hl hN hok (hn.up0 hp_); rw [hce, show ((k : Int) + 1).toNat - 1 = k by omega] at h; exact h)) ?_)
       rintro _ _ ⟨I_, AI, cI, mI, rfl, rfl, hoI, _, hI0⟩
       obtain rfl := hI0 rfl
       have hIl := idxs_len_leC (inP ((rowsL R).getD k []) (c : Int)) l
       dsimp only [List.cons_append, List.nil_append]
       refine f_stepP rfl rfl rfl (o_move rfl) ?_
       refine f_stepP rfl rfl rfl (o_extract rfl rfl) ?_
       refine f_stepP rfl rfl rfl (o_extract rfl rfl) ?_
       refine f_stepP rfl rfl rfl (o_assign rfl) ?_
       refine f_stepP rfl rfl rfl (o_assign rfl) ?_
       refine f_done ?_
       refine f_tn (kh25 _ _ ?_)
       clear kh25
       refine f_seq fun K26 kh26 => ?_
       refine f_region ?_
       refine f_stepP rfl rfl rfl (o_assign rfl) ?_
       refine f_done ?_
       refine f_tn (kh26 _ _ ?_)
       clear kh26
       refine f_seq fun K27 kh27 => ?_
       refine f_seq fun K28 kh28 => ?_
       refine f_region ?_
       refine f_stepP rfl rfl rfl (o_field fa45_1 rfl) ?_
       refine f_stepP rfl rfl rfl (o_load Try.isAgg25 rfl (rdA rfl)) ?_
       refine f_stepP rfl rfl rfl (o_len sl25 rfl) ?_
       refine f_stepP rfl rfl rfl (o_move rfl) ?_
       refine f_done ?_
       refine f_tn (kh28 _ _ ?_)
       clear kh28
       refine f_block ?_
       refine f_loop (α := Nat × Bool) [3, 4, 5, 7, 9, 12, 13, 14, 37, 38, 51, 52, 65, 66] (fun ⟨j, b⟩ => [(67, .int .i64 (j : Int)), (15, .bool b)]) (fun ⟨j, b⟩ => [mI, [(bc, blk (R'.map rowV ++ spc) 25)], ms.flatten, [(b3, blk [.int .i64 (n : Int), .slice A l.length cap] 24)], [(b4, blk [.slice Ab bs.length cb, .slice Ac R.length cc] 28)], [(b5, blk [.int .i64 lv, .slice D arcs.length cd] 45)]]) (fun ⟨j, b⟩ => j ≤ arcs.length ∧ b = (arcs.take j).any (fun x => decide (x ∈ (idxs (inP ((rowsL R).getD k []) (c : Int)) l)))) (fun ⟨j, b⟩ => arcs.length - j) (0, false) ?_ ?_ ?_ ?_
       · exact (by repeat (first | exact trivial | refine ⟨rfl, ?_⟩))
       · repeat (first | exact Sub.nil | refine Sub.pick ?_ | refine Sub.castO rfl ?_ | refine Sub.skip ?_)
       · exact ⟨Nat.zero_le _, by simp⟩
       ·
        rintro ⟨j, b⟩ ⟨hjl, hb⟩
        refine f_envC (e := [(67, _), (15, _), (3, _), (4, _), (5, _), (7, _), (9, _), (12, _), (13, _), (14, _), (37, _), (38, _), (51, _), (52, _), (65, _), (66, _)]) (by repeat (first | exact trivial | refine ⟨rfl, ?_⟩)) ?_
        refine f_seq fun K29 kh29 => ?_
        refine f_region ?_
        refine f_stepP rfl rfl rfl (o_lss rfl rfl) ?_
        refine f_done ?_
        refine f_tn (kh29 _ _ ?_)
        clear kh29
        refine f_seq fun K30 kh30 => ?_
        refine f_cond rfl (fun c68 => ?_) (fun c68 => ?_)
        ·
         have hj : j < arcs.length := by omega
         obtain ⟨bd, od, rfl, hSd, hcd⟩ := hD (map_ne hj)
         have hnx := any_take (p := fun x => decide (x ∈ (idxs (inP ((rowsL R).getD k []) (c : Int)) l))) hj
         rw [← hb] at hnx
         refine f_skip ?_
         refine f_tn (kh30 _ _ ?_)
         clear kh30
         refine f_seq fun K31 kh31 => ?_
         refine f_block ?_
         refine f_seq fun K32 kh32 => ?_
         refine f_region ?_
         refine f_stepP rfl rfl rfl (o_idx sl25 rfl rfl (od + j) ⟨by omega, by omega, by first | omega | (simp; done) | (simp; omega)⟩) ?_
         refine f_stepP rfl rfl rfl (o_load Try.isAgg3 rfl (roOne (enc := (.int .i64 ·)) hSd hcd hj)) ?_
         refine f_stepP rfl rfl rfl (o_assign rfl) ?_
         refine f_done ?_
         refine f_tn (kh32 _ _ ?_)
         clear kh32
         refine f_region ?_
         refine f_stepP rfl rfl rfl (o_move rfl) ?_
         refine f_stepP rfl rfl rfl (o_move rfl) ?_
         refine f_splitLB 72 rfl (fun g72 => ?_) (fun g72 => ?_)
         ·
          refine f_stepN rfl rfl rfl rfl rfl rfl ?_
          refine f_stepN rfl rfl rfl rfl rfl rfl ?_
          refine f_stepN rfl rfl rfl rfl rfl rfl ?_
          refine f_stepP rfl rfl rfl (o_pickT rfl rfl) ?_
          refine f_stepP rfl rfl rfl (o_assign rfl) ?_
          refine f_done ?_
          refine f_bn ?_
          refine f_tn (kh31 _ _ ?_)
          clear kh31
          refine f_region ?_
          refine f_stepP rfl rfl rfl (o_add rfl rfl _ (wrap_i64 (by omega))) ?_
          refine f_stepP rfl rfl rfl (o_move rfl) ?_
          refine f_done ?_
          refine f_tn (f_again (j + 1, true) (by first | omega | (dsimp only; omega) | (simp; omega)) ⟨by omega, by rw [hnx, g72]; rfl⟩ ?_ ?_ ?_)
          · exact (by repeat (first | exact trivial | refine ⟨rfl, ?_⟩))
          · exact (by repeat (first | exact trivial | refine ⟨rfl, ?_⟩))
          · repeat (first | exact Sub.nil | refine Sub.pick ?_ | refine Sub.castO rfl ?_ | refine Sub.skip ?_)
         ·
          refine f_stepPY rfl rfl rfl rfl rfl (o_move rfl) ?_
          refine f_stepPY rfl rfl rfl rfl rfl (o_move rfl) ?_
          refine f_stepY rfl rfl rfl rfl rfl (o_call Try.call13 rfl (fun w_ hp_ => has_spec AI (idxs (inP ((rowsL R).getD k []) (c : Int)) l) (idxs (inP ((rowsL R).getD k []) (c : Int)) l).length arcs[j] w_ (seen_ro (hoI.seen hp_)) (by omega)) ?_)
          rintro _ _ ⟨rfl, rfl⟩
          dsimp only [List.cons_append, List.nil_append]
          refine f_stepP rfl rfl rfl (o_pickF rfl rfl) ?_
          refine f_stepP rfl rfl rfl (o_assign rfl) ?_
          refine f_done ?_
          refine f_bn ?_
          refine f_tn (kh31 _ _ ?_)
          clear kh31
          refine f_region ?_
          refine f_stepP rfl rfl rfl (o_add rfl rfl _ (wrap_i64 (by omega))) ?_
          refine f_stepP rfl rfl rfl (o_move rfl) ?_
          refine f_done ?_
          refine f_tn (f_again (j + 1, decide (arcs[j] ∈ (idxs (inP ((rowsL R).getD k []) (c : Int)) l))) (by first | omega | (dsimp only; omega) | (simp; omega)) ⟨by omega, by rw [hnx, g72]; rfl⟩ ?_ ?_ ?_)
          · exact (by repeat (first | exact trivial | refine ⟨rfl, ?_⟩))
          · exact (by repeat (first | exact trivial | refine ⟨rfl, ?_⟩))
          · repeat (first | exact Sub.nil | refine Sub.pick ?_ | refine Sub.castO rfl ?_ | refine Sub.skip ?_)
        ·
         obtain rfl : j = arcs.length := by omega
         rw [List.take_length] at hb
         have hts := touched_is (row := ((rowsL R).getD k [])) (c := (c : Int)) hav
         rw [← hb] at hts
         refine f_exit ?_
         refine f_te ?_
         clear kh30
         refine f_te ?_
         refine f_be ?_
         refine f_tn (kh27 _ _ ?_)
         clear kh27
         refine f_seq fun K33 kh33 => ?_
         refine f_region ?_
         refine f_stepP rfl rfl rfl (o_move rfl) ?_
         refine f_stepP rfl rfl rfl (o_neq rfl rfl) ?_
         refine f_stepP rfl rfl rfl (o_move rfl) ?_
         refine f_falseL 80 rfl (by simp) ?_
         refine f_stepPY rfl rfl rfl rfl rfl (o_move rfl) ?_
         refine f_stepPY rfl rfl rfl rfl rfl (o_move rfl) ?_
         refine f_stepPY rfl rfl rfl rfl rfl (o_move rfl) ?_
         refine f_stepPY rfl rfl rfl rfl rfl (o_idx sl26 rfl rfl (k) ⟨by omega, by omega, by first | omega | (simp; done) | (simp; omega)⟩) ?_
         refine f_stepPY rfl rfl rfl rfl rfl (o_load Try.isAgg25 rfl (rdA (v := rowV (R'[k]'hkR')) (app_get (by rw [List.getElem?_map, List.getElem?_eq_getElem hkR']; rfl)))) ?_
         refine f_stepPY rfl rfl rfl rfl rfl (o_move rfl) ?_
         refine f_stepY rfl rfl rfl rfl rfl (o_call Try.call13 rfl (fun w_ hp_ => has_spec (R'[k]'hkR').1 (R'[k]'hkR').2.1 (R'[k]'hkR').2.2 (c : Int) w_ ((hRC.ro hp_) _ (List.getElem_mem hkR')).1 ((hRC.ro hp_) _ (List.getElem_mem hkR')).2) ?_)
         rintro _ _ ⟨rfl, rfl⟩
         rw [hrow']
         dsimp only [List.cons_append, List.nil_append]
         refine f_stepPY rfl rfl rfl rfl rfl (o_neqB Try.underlying4 rfl rfl) ?_
         refine f_stepP rfl rfl rfl (o_pickF rfl rfl) ?_
         refine f_done ?_
         refine f_tn (kh33 _ _ ?_)
         clear kh33
         refine f_condN rfl (by rw [hts]; simp) ?_
         refine f_skip ?_
         refine f_bn ?_
         refine f_tn (kh23 _ _ ?_)
         clear kh23
         refine f_region ?_
         refine f_stepP rfl rfl rfl (o_add rfl rfl _ (wrap_i64 (by omega))) ?_
         refine f_stepP rfl rfl rfl (o_move rfl) ?_
         refine f_done ?_
         refine f_tn (f_again (c + 1) (by first | omega | (dsimp only; omega) | (simp; omega)) (by omega) ?_ ?_ ?_)
         · exact (by repeat (first | exact trivial | refine ⟨rfl, ?_⟩))
         · exact (by repeat (first | exact trivial | refine ⟨rfl, ?_⟩))
         · repeat (first | exact Sub.nil | refine Sub.pick ?_ | refine Sub.castO rfl ?_ | refine Sub.skip ?_)
      ·
       refine f_exit ?_
       refine f_te ?_
       clear kh22
       refine f_te ?_
       refine f_be ?_
       refine f_bn ?_
       refine f_tn (kh15 _ _ ?_)
       clear kh15
       refine f_region ?_
       refine f_stepP rfl rfl rfl (o_add rfl rfl _ (wrap_i64 (by omega))) ?_
       refine f_stepP rfl rfl rfl (o_move rfl) ?_
       refine f_done ?_
       refine f_tn (f_again (k + 1) (by first | omega | (dsimp only; omega) | (simp; omega)) (by omega) ?_ ?_ ?_)
       · exact (by repeat (first | exact trivial | refine ⟨rfl, ?_⟩))
       · exact (by repeat (first | exact trivial | refine ⟨rfl, ?_⟩))
       · repeat (first | exact Sub.nil | refine Sub.pick ?_ | refine Sub.castO rfl ?_ | refine Sub.skip ?_)
    ·
     refine f_exit ?_
     refine f_te ?_
     clear kh14
     refine f_te ?_
     refine f_be ?_
     refine f_tn (kh11 _ _ ?_)
     clear kh11
     refine f_seq fun K34 kh34 => ?_
     refine f_region ?_
     refine f_stepP rfl rfl rfl (o_move rfl) ?_
     refine f_stepP rfl rfl rfl (o_len sl26 rfl) ?_
     refine f_stepP rfl rfl rfl (o_field fa28_0 rfl) ?_
     refine f_stepP rfl rfl rfl (o_load Try.isAgg25 rfl (rdA rfl)) ?_
     refine f_stepP rfl rfl rfl (o_len sl25 rfl) ?_
     refine f_stepP rfl rfl rfl (o_eql rfl rfl) ?_
     refine f_stepP rfl rfl rfl (o_assign rfl) ?_
     refine f_done ?_
     refine f_tn (kh34 _ _ ?_)
     clear kh34
     refine f_ret ?_
     exact f_fin1 [] Try.results6 rfl Sub.nil ⟨by rw [decide_eq_true (by omega)], rfl⟩

end Go.Proofs.Ytkmkakpadgljeaa
