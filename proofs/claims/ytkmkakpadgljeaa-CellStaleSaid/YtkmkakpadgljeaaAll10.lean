import Derived.Test.YtkmkakpadgljeaaAll9
import Derived.Test.YtkmkakpadgljeaaAll6

/- flyoverbook: a nest copied; whether nests are the same. -/
namespace Go.Proofs.Ytkmkakpadgljeaa
open Go Go.RowKit Fly
set_option linter.unusedVariables false
set_option linter.unusedSimpArgs false

set_option maxRecDepth 100000 in
set_option maxHeartbeats 4000000 in
theorem CopyNest_spec (Ab : Option Addr) (bs : List Int) (cb : Nat) (Ac : Option Addr) (R : List Row) (cc : Nat) (w : World) (hn : NestRo (Fr w []) w Ab bs Ac R) (hzb : bs.length * 8 ≤ 140737488351232) (hzc : R.length * 24 ≤ 140737488351232) (hzr : ∀ r ∈ R, r.2.1.length * 8 ≤ 140737488351232) :
    Meets Try.prog 15 [.agg #[.slice Ab bs.length cb, .slice Ac R.length cc]] w [] (fun u own' => ∃ (R' : List Row) (A1 : Option Addr) (c1 : Nat) (A2 : Option Addr) (c2 : Nat) (mb mc : Seg) (ms : List Seg), u = .agg #[.slice A1 bs.length c1, .slice A2 R'.length c2] ∧ own' = [mb, mc, ms.flatten] ∧ Own 3 1 (.slice A1 bs.length c1) bs.length (ints bs) mb ∧ Own 25 1 (.slice A2 R'.length c2) R'.length (R'.map rowV) mc ∧ RowsI 3 (rowsL R') (R'.map rowV) ms ∧ rowsL R' = rowsL R) := by
 refine f_enter Try.func15 rfl Try.ntmps15 rfl Owns.nil ?_
 refine f_seq fun K1 kh1 => ?_
 refine f_region ?_
 refine f_step rfl rfl rfl (o_box rfl rfl fun b1 => ?_)
 refine f_step rfl rfl rfl (o_alloc Try.zeroValue28 rfl fun b2 => ?_)
 refine f_done ?_
 refine f_tn (kh1 _ _ ?_)
 clear kh1
 refine f_seq fun K2 kh2 => ?_
 refine f_region ?_
 refine f_step rfl rfl rfl (o_slice0 el25 fun b5 => ?_)
 refine f_stepP rfl rfl rfl (o_field fa28_0 rfl) ?_
 refine f_stepP rfl rfl rfl (o_load Try.isAgg25 rfl (rdA rfl)) ?_
 refine f_step rfl rfl rfl (o_appendQ el25 rfl rfl (Own.mk (b := b5) (cs := []) (len := 0) rfl (by omega)) (ys := ints bs) (rds_ro' hn.b) (by rw [ints_length, Nat.mul_one]) (ints_one' bs) (by omega) (by omega) fun v8 m8 o8 => ?_)
 rw [Nat.zero_add, List.nil_append] at o8
 obtain ⟨A8, c8, rfl, _⟩ := o8.val
 refine f_stepP rfl rfl rfl (o_build (cs := [.slice A8 bs.length c8, .slice none 0 0]) st28 rfl rfl) ?_
 refine f_step rfl rfl rfl (o_alloc Try.zeroValue28 rfl fun b3 => ?_)
 refine f_step0 rfl rfl (o_storeA Try.sizeOf28 rfl rfl rfl rfl (by first | exact Nat.le_of_ble_eq_true rfl | (simp; done) | (simp; omega)) [.slice A8 bs.length c8, .slice none 0 0] rfl ?_)
 refine f_done ?_
 refine f_tn (kh2 _ _ ?_)
 clear kh2
 refine f_seq fun K3 kh3 => ?_
 refine f_seq fun K4 kh4 => ?_
 refine f_region ?_
 refine f_stepP rfl rfl rfl (o_assign rfl) ?_
 refine f_done ?_
 refine f_tn (kh4 _ _ ?_)
 clear kh4
 refine f_block ?_
 refine f_loop (α := Nat × Value × Seg × List Value × List Seg) [1, 2, 3] (fun ⟨i, cv, mc, vs, ms⟩ => [(4, .int .i64 (i : Int))]) (fun ⟨i, cv, mc, vs, ms⟩ => [[(b3, blk [.slice A8 bs.length c8, cv] 28)], m8, mc, ms.flatten, [(b1, blk [.slice Ab bs.length cb, .slice Ac R.length cc] 28)], [(b2, blk [.slice none 0 0, .slice none 0 0] 28)]]) (fun ⟨i, cv, mc, vs, ms⟩ => i ≤ R.length ∧ Own 25 1 cv i vs mc ∧ RowsI 3 ((rowsL R).take i) vs ms) (fun ⟨i, cv, mc, vs, ms⟩ => R.length - i) (0, .slice none 0 0, [], [], []) ?_ ?_ ?_ ?_
 · exact (by repeat (first | exact trivial | refine ⟨rfl, ?_⟩))
 · repeat (first | exact Sub.nil | refine Sub.pick ?_ | refine Sub.castO rfl ?_ | refine Sub.skip ?_)
 · exact ⟨Nat.zero_le _, Own.nil _ _, by rw [List.take_zero]; exact RowsI.start _ 0⟩
 ·
  rintro ⟨i, cv, mc, vs, ms⟩ ⟨hil0, hO, hRI⟩
  have hcl := hn.cl
  obtain ⟨Ax, cx, rfl, hcx⟩ := hO.val
  refine f_seq fun K5 kh5 => ?_
  refine f_seq fun K6 kh6 => ?_
  refine f_region ?_
  refine f_stepP rfl rfl rfl (o_move rfl) ?_
  refine f_stepP rfl rfl rfl (o_field fa28_1 rfl) ?_
  refine f_stepP rfl rfl rfl (o_load Try.isAgg26 rfl (rdA rfl)) ?_
  refine f_stepP rfl rfl rfl (o_len sl26 rfl) ?_
  refine f_stepP rfl rfl rfl (o_lss rfl rfl) ?_
  refine f_done ?_
  refine f_tn (kh6 _ _ ?_)
  clear kh6
  refine f_cond rfl (fun c14 => ?_) (fun c14 => ?_)
  ·
   have hiR : i < R.length := by omega
   obtain ⟨b0, o0, rfl, hS0, hc0⟩ := hn.c (map_ne hiR)
   have hrow := hn.rows _ (List.getElem_mem hiR)
   have hzri := hzr _ (List.getElem_mem hiR)
   have hil : i < (rowsL R).length := by rw [rowsL_len]; exact hiR
   have htk : (rowsL R).take (i + 1) = (rowsL R).take i ++ [(R[i]'hiR).2.1] := by rw [List.take_succ_eq_append_getElem hil]; simp [rowsL]
   refine f_skip ?_
   refine f_tn (kh5 _ _ ?_)
   clear kh5
   refine f_seq fun K7 kh7 => ?_
   refine f_block ?_
   refine f_regionH [m8, ms.flatten, [(b1, blk [.slice Ab bs.length cb, .slice (some ⟨b0, o0, none⟩) R.length cc] 28)], [(b2, blk [.slice none 0 0, .slice none 0 0] 28)]] rfl ?_
   refine f_take 0 rfl (by decide +kernel) rfl rfl rfl (by repeat (first | exact Sub.nil | refine Sub.pick ?_ | refine Sub.castO rfl ?_ | refine Sub.skip ?_)) (o_field fa28_1 rfl) ?_
   refine f_take 3 rfl (by decide +kernel) rfl rfl rfl (by repeat (first | exact Sub.nil | refine Sub.pick ?_ | refine Sub.castO rfl ?_ | refine Sub.skip ?_)) (o_field fa28_1 rfl) ?_
   refine f_take 4 rfl (by decide +kernel) rfl rfl rfl (by repeat (first | exact Sub.nil | refine Sub.pick ?_ | refine Sub.castO rfl ?_ | refine Sub.skip ?_)) (o_load Try.isAgg26 rfl (rdA rfl)) ?_
   refine f_take 5 rfl (by decide +kernel) rfl rfl rfl (by repeat (first | exact Sub.nil | refine Sub.pick ?_ | refine Sub.castO rfl ?_ | refine Sub.skip ?_)) (o_move rfl) ?_
   refine f_take 6 rfl (by decide +kernel) rfl rfl rfl (by repeat (first | exact Sub.nil | refine Sub.pick ?_ | refine Sub.castO rfl ?_ | refine Sub.skip ?_)) (o_idx sl26 rfl rfl (o0 + i) ⟨by omega, by omega, by first | omega | (simp; done) | (simp; omega)⟩) ?_
   refine f_take 7 rfl (by decide +kernel) rfl rfl rfl (by repeat (first | exact Sub.nil | refine Sub.pick ?_ | refine Sub.castO rfl ?_ | refine Sub.skip ?_)) (o_load Try.isAgg25 rfl (roOne (enc := rowV) hS0 hc0 hiR)) ?_
   refine f_two 1 2 rfl rfl (by decide +kernel) rfl rfl rfl rfl rfl rfl ?_ ?_
   ·
    refine (o_load Try.isAgg26 rfl (rdA rfl)).does ⟨(by repeat (first | exact Sub.nil | refine Sub.pick ?_ | refine Sub.castO rfl ?_ | refine Sub.skip ?_)), ?_⟩
    refine f_only 2 rfl (by decide +kernel) rfl rfl rfl (o_slice0 el25 fun b19 => ⟨(by repeat (first | exact Sub.nil | refine Sub.pick ?_ | refine Sub.castO rfl ?_ | refine Sub.skip ?_)), ?_⟩)
    refine f_only 8 rfl (by decide +kernel) rfl rfl rfl (o_appendQ el25 rfl rfl (Own.mk (b := b19) (cs := []) (len := 0) rfl (by omega)) (ys := ints (R[i]'hiR).2.1) (rds_ro' hrow.1) (by rw [ints_length, Nat.mul_one]) (ints_one' _) (by omega) (by omega) fun v25 m25 o25 => ⟨(by repeat (first | exact Sub.nil | refine Sub.pick ?_ | refine Sub.castO rfl ?_ | refine Sub.skip ?_)), ?_⟩)
    rw [Nat.zero_add, List.nil_append] at o25
    obtain ⟨A25, c25, rfl, _⟩ := o25.val
    refine f_only 9 rfl (by decide +kernel) rfl rfl rfl (o_slice1 el26 (by omega) rfl rfl rfl fun b26 => ⟨(by repeat (first | exact Sub.nil | refine Sub.pick ?_ | refine Sub.castO rfl ?_ | refine Sub.skip ?_)), ?_⟩)
    refine f_only 10 rfl (by decide +kernel) rfl rfl rfl (o_append el26 rfl rfl hO (ys := [.slice A25 (R[i]'hiR).2.1.length c25]) ⟨(rdA rfl), trivial⟩ rfl rfl (by omega) (by omega) fun v27 m27 o27 => ⟨(by repeat (first | exact Sub.nil | refine Sub.pick ?_ | refine Sub.castO rfl ?_ | refine Sub.skip ?_)), ?_⟩)
    obtain ⟨A27, c27, rfl, _⟩ := o27.val
    refine f_take 11 rfl (by decide +kernel) rfl rfl rfl (by repeat (first | exact Sub.nil | refine Sub.pick ?_ | refine Sub.castO rfl ?_ | refine Sub.skip ?_)) (o_field fa28_1 rfl) ?_
    refine f_only0 12 rfl (by decide +kernel) rfl rfl (o_store Try.sizeOf26 rfl rfl rfl rfl (by first | exact Nat.le_of_ble_eq_true rfl | (simp; done) | (simp; omega)) [.slice A8 bs.length c8, .slice A27 (i + 1) c27] rfl ⟨(by repeat (first | exact Sub.nil | refine Sub.pick ?_ | refine Sub.castO rfl ?_ | refine Sub.skip ?_)), ?_⟩)
    refine f_over (by decide +kernel) ?_
    refine f_bn ?_
    refine f_tn (kh7 _ _ ?_)
    clear kh7
    refine f_region ?_
    refine f_stepP rfl rfl rfl (o_move rfl) ?_
    refine f_stepP rfl rfl rfl (o_add rfl rfl _ (wrap_i64 (by omega))) ?_
    refine f_stepP rfl rfl rfl (o_assign rfl) ?_
    refine f_done ?_
    refine f_subQ (out := [[(b3, blk [.slice A8 bs.length c8, .slice A27 (i + 1) c27] 28)], m8, m27, (ms ++ [m25]).flatten, [(b1, blk [.slice Ab bs.length cb, .slice (some ⟨b0, o0, none⟩) R.length cc] 28)], [(b2, blk [.slice none 0 0, .slice none 0 0] 28)]]) (by rw [List.flatten_append]; refine Sub.pick ?_; refine Sub.pick ?_; refine Sub.pick ?_; refine sub_snocU ?_; repeat (first | exact Sub.nil | refine Sub.pick ?_ | refine Sub.castO rfl ?_ | refine Sub.skip ?_)) ?_
    refine f_tn (f_again (i + 1, .slice A27 (i + 1) c27, m27, vs ++ [.slice A25 (R[i]'hiR).2.1.length c25], ms ++ [m25]) (by first | omega | (dsimp only; omega) | (simp; omega)) ⟨by omega, o27, by rw [htk]; exact RowsI.snoc hRI o25⟩ ?_ ?_ ?_)
    · exact (by repeat (first | exact trivial | refine ⟨rfl, ?_⟩))
    · exact (by repeat (first | exact trivial | refine ⟨rfl, ?_⟩))
    · repeat (first | exact Sub.nil | refine Sub.pick ?_ | refine Sub.castO rfl ?_ | refine Sub.skip ?_)
   ·
    refine (o_slice0 el25 fun b19 => ⟨(by repeat (first | exact Sub.nil | refine Sub.pick ?_ | refine Sub.castO rfl ?_ | refine Sub.skip ?_)), ?_⟩)
    refine f_two 1 8 rfl rfl (by decide +kernel) rfl rfl rfl rfl rfl rfl ?_ ?_
    ·
     refine (o_load Try.isAgg26 rfl (rdA rfl)).does ⟨(by repeat (first | exact Sub.nil | refine Sub.pick ?_ | refine Sub.castO rfl ?_ | refine Sub.skip ?_)), ?_⟩
     refine f_only 8 rfl (by decide +kernel) rfl rfl rfl (o_appendQ el25 rfl rfl (Own.mk (b := b19) (cs := []) (len := 0) rfl (by omega)) (ys := ints (R[i]'hiR).2.1) (rds_ro' hrow.1) (by rw [ints_length, Nat.mul_one]) (ints_one' _) (by omega) (by omega) fun v25 m25 o25 => ⟨(by repeat (first | exact Sub.nil | refine Sub.pick ?_ | refine Sub.castO rfl ?_ | refine Sub.skip ?_)), ?_⟩)
     rw [Nat.zero_add, List.nil_append] at o25
     obtain ⟨A25, c25, rfl, _⟩ := o25.val
     refine f_only 9 rfl (by decide +kernel) rfl rfl rfl (o_slice1 el26 (by omega) rfl rfl rfl fun b26 => ⟨(by repeat (first | exact Sub.nil | refine Sub.pick ?_ | refine Sub.castO rfl ?_ | refine Sub.skip ?_)), ?_⟩)
     refine f_only 10 rfl (by decide +kernel) rfl rfl rfl (o_append el26 rfl rfl hO (ys := [.slice A25 (R[i]'hiR).2.1.length c25]) ⟨(rdA rfl), trivial⟩ rfl rfl (by omega) (by omega) fun v27 m27 o27 => ⟨(by repeat (first | exact Sub.nil | refine Sub.pick ?_ | refine Sub.castO rfl ?_ | refine Sub.skip ?_)), ?_⟩)
     obtain ⟨A27, c27, rfl, _⟩ := o27.val
     refine f_take 11 rfl (by decide +kernel) rfl rfl rfl (by repeat (first | exact Sub.nil | refine Sub.pick ?_ | refine Sub.castO rfl ?_ | refine Sub.skip ?_)) (o_field fa28_1 rfl) ?_
     refine f_only0 12 rfl (by decide +kernel) rfl rfl (o_store Try.sizeOf26 rfl rfl rfl rfl (by first | exact Nat.le_of_ble_eq_true rfl | (simp; done) | (simp; omega)) [.slice A8 bs.length c8, .slice A27 (i + 1) c27] rfl ⟨(by repeat (first | exact Sub.nil | refine Sub.pick ?_ | refine Sub.castO rfl ?_ | refine Sub.skip ?_)), ?_⟩)
     refine f_over (by decide +kernel) ?_
     refine f_bn ?_
     refine f_tn (kh7 _ _ ?_)
     clear kh7
     refine f_region ?_
     refine f_stepP rfl rfl rfl (o_move rfl) ?_
     refine f_stepP rfl rfl rfl (o_add rfl rfl _ (wrap_i64 (by omega))) ?_
     refine f_stepP rfl rfl rfl (o_assign rfl) ?_
     refine f_done ?_
     refine f_subQ (out := [[(b3, blk [.slice A8 bs.length c8, .slice A27 (i + 1) c27] 28)], m8, m27, (ms ++ [m25]).flatten, [(b1, blk [.slice Ab bs.length cb, .slice (some ⟨b0, o0, none⟩) R.length cc] 28)], [(b2, blk [.slice none 0 0, .slice none 0 0] 28)]]) (by rw [List.flatten_append]; refine Sub.pick ?_; refine Sub.pick ?_; refine Sub.pick ?_; refine sub_snocU ?_; repeat (first | exact Sub.nil | refine Sub.pick ?_ | refine Sub.castO rfl ?_ | refine Sub.skip ?_)) ?_
     refine f_tn (f_again (i + 1, .slice A27 (i + 1) c27, m27, vs ++ [.slice A25 (R[i]'hiR).2.1.length c25], ms ++ [m25]) (by first | omega | (dsimp only; omega) | (simp; omega)) ⟨by omega, o27, by rw [htk]; exact RowsI.snoc hRI o25⟩ ?_ ?_ ?_)
     · exact (by repeat (first | exact trivial | refine ⟨rfl, ?_⟩))
     · exact (by repeat (first | exact trivial | refine ⟨rfl, ?_⟩))
     · repeat (first | exact Sub.nil | refine Sub.pick ?_ | refine Sub.castO rfl ?_ | refine Sub.skip ?_)
    ·
     refine (o_appendQ el25 rfl rfl (Own.mk (b := b19) (cs := []) (len := 0) rfl (by omega)) (ys := ints (R[i]'hiR).2.1) (rds_ro' hrow.1) (by rw [ints_length, Nat.mul_one]) (ints_one' _) (by omega) (by omega) fun v25 m25 o25 => ⟨(by repeat (first | exact Sub.nil | refine Sub.pick ?_ | refine Sub.castO rfl ?_ | refine Sub.skip ?_)), ?_⟩)
     rw [Nat.zero_add, List.nil_append] at o25
     obtain ⟨A25, c25, rfl, _⟩ := o25.val
     refine f_two 1 9 rfl rfl (by decide +kernel) rfl rfl rfl rfl rfl rfl ?_ ?_
     ·
      refine (o_load Try.isAgg26 rfl (rdA rfl)).does ⟨(by repeat (first | exact Sub.nil | refine Sub.pick ?_ | refine Sub.castO rfl ?_ | refine Sub.skip ?_)), ?_⟩
      refine f_only 9 rfl (by decide +kernel) rfl rfl rfl (o_slice1 el26 (by omega) rfl rfl rfl fun b26 => ⟨(by repeat (first | exact Sub.nil | refine Sub.pick ?_ | refine Sub.castO rfl ?_ | refine Sub.skip ?_)), ?_⟩)
      refine f_only 10 rfl (by decide +kernel) rfl rfl rfl (o_append el26 rfl rfl hO (ys := [.slice A25 (R[i]'hiR).2.1.length c25]) ⟨(rdA rfl), trivial⟩ rfl rfl (by omega) (by omega) fun v27 m27 o27 => ⟨(by repeat (first | exact Sub.nil | refine Sub.pick ?_ | refine Sub.castO rfl ?_ | refine Sub.skip ?_)), ?_⟩)
      obtain ⟨A27, c27, rfl, _⟩ := o27.val
      refine f_take 11 rfl (by decide +kernel) rfl rfl rfl (by repeat (first | exact Sub.nil | refine Sub.pick ?_ | refine Sub.castO rfl ?_ | refine Sub.skip ?_)) (o_field fa28_1 rfl) ?_
      refine f_only0 12 rfl (by decide +kernel) rfl rfl (o_store Try.sizeOf26 rfl rfl rfl rfl (by first | exact Nat.le_of_ble_eq_true rfl | (simp; done) | (simp; omega)) [.slice A8 bs.length c8, .slice A27 (i + 1) c27] rfl ⟨(by repeat (first | exact Sub.nil | refine Sub.pick ?_ | refine Sub.castO rfl ?_ | refine Sub.skip ?_)), ?_⟩)
      refine f_over (by decide +kernel) ?_
      refine f_bn ?_
      refine f_tn (kh7 _ _ ?_)
      clear kh7
      refine f_region ?_
      refine f_stepP rfl rfl rfl (o_move rfl) ?_
      refine f_stepP rfl rfl rfl (o_add rfl rfl _ (wrap_i64 (by omega))) ?_
      refine f_stepP rfl rfl rfl (o_assign rfl) ?_
      refine f_done ?_
      refine f_subQ (out := [[(b3, blk [.slice A8 bs.length c8, .slice A27 (i + 1) c27] 28)], m8, m27, (ms ++ [m25]).flatten, [(b1, blk [.slice Ab bs.length cb, .slice (some ⟨b0, o0, none⟩) R.length cc] 28)], [(b2, blk [.slice none 0 0, .slice none 0 0] 28)]]) (by rw [List.flatten_append]; refine Sub.pick ?_; refine Sub.pick ?_; refine Sub.pick ?_; refine sub_snocU ?_; repeat (first | exact Sub.nil | refine Sub.pick ?_ | refine Sub.castO rfl ?_ | refine Sub.skip ?_)) ?_
      refine f_tn (f_again (i + 1, .slice A27 (i + 1) c27, m27, vs ++ [.slice A25 (R[i]'hiR).2.1.length c25], ms ++ [m25]) (by first | omega | (dsimp only; omega) | (simp; omega)) ⟨by omega, o27, by rw [htk]; exact RowsI.snoc hRI o25⟩ ?_ ?_ ?_)
      · exact (by repeat (first | exact trivial | refine ⟨rfl, ?_⟩))
      · exact (by repeat (first | exact trivial | refine ⟨rfl, ?_⟩))
      · repeat (first | exact Sub.nil | refine Sub.pick ?_ | refine Sub.castO rfl ?_ | refine Sub.skip ?_)
     ·
      refine (o_slice1 el26 (by omega) rfl rfl rfl fun b26 => ⟨(by repeat (first | exact Sub.nil | refine Sub.pick ?_ | refine Sub.castO rfl ?_ | refine Sub.skip ?_)), ?_⟩)
      refine f_only 1 rfl (by decide +kernel) rfl rfl rfl ((o_load Try.isAgg26 rfl (rdA rfl)).does ⟨(by repeat (first | exact Sub.nil | refine Sub.pick ?_ | refine Sub.castO rfl ?_ | refine Sub.skip ?_)), ?_⟩)
      refine f_only 10 rfl (by decide +kernel) rfl rfl rfl (o_append el26 rfl rfl hO (ys := [.slice A25 (R[i]'hiR).2.1.length c25]) ⟨(rdA rfl), trivial⟩ rfl rfl (by omega) (by omega) fun v27 m27 o27 => ⟨(by repeat (first | exact Sub.nil | refine Sub.pick ?_ | refine Sub.castO rfl ?_ | refine Sub.skip ?_)), ?_⟩)
      obtain ⟨A27, c27, rfl, _⟩ := o27.val
      refine f_take 11 rfl (by decide +kernel) rfl rfl rfl (by repeat (first | exact Sub.nil | refine Sub.pick ?_ | refine Sub.castO rfl ?_ | refine Sub.skip ?_)) (o_field fa28_1 rfl) ?_
      refine f_only0 12 rfl (by decide +kernel) rfl rfl (o_store Try.sizeOf26 rfl rfl rfl rfl (by first | exact Nat.le_of_ble_eq_true rfl | (simp; done) | (simp; omega)) [.slice A8 bs.length c8, .slice A27 (i + 1) c27] rfl ⟨(by repeat (first | exact Sub.nil | refine Sub.pick ?_ | refine Sub.castO rfl ?_ | refine Sub.skip ?_)), ?_⟩)
      refine f_over (by decide +kernel) ?_
      refine f_bn ?_
      refine f_tn (kh7 _ _ ?_)
      clear kh7
      refine f_region ?_
      refine f_stepP rfl rfl rfl (o_move rfl) ?_
      refine f_stepP rfl rfl rfl (o_add rfl rfl _ (wrap_i64 (by omega))) ?_
      refine f_stepP rfl rfl rfl (o_assign rfl) ?_
      refine f_done ?_
      refine f_subQ (out := [[(b3, blk [.slice A8 bs.length c8, .slice A27 (i + 1) c27] 28)], m8, m27, (ms ++ [m25]).flatten, [(b1, blk [.slice Ab bs.length cb, .slice (some ⟨b0, o0, none⟩) R.length cc] 28)], [(b2, blk [.slice none 0 0, .slice none 0 0] 28)]]) (by rw [List.flatten_append]; refine Sub.pick ?_; refine Sub.pick ?_; refine Sub.pick ?_; refine sub_snocU ?_; repeat (first | exact Sub.nil | refine Sub.pick ?_ | refine Sub.castO rfl ?_ | refine Sub.skip ?_)) ?_
      refine f_tn (f_again (i + 1, .slice A27 (i + 1) c27, m27, vs ++ [.slice A25 (R[i]'hiR).2.1.length c25], ms ++ [m25]) (by first | omega | (dsimp only; omega) | (simp; omega)) ⟨by omega, o27, by rw [htk]; exact RowsI.snoc hRI o25⟩ ?_ ?_ ?_)
      · exact (by repeat (first | exact trivial | refine ⟨rfl, ?_⟩))
      · exact (by repeat (first | exact trivial | refine ⟨rfl, ?_⟩))
      · repeat (first | exact Sub.nil | refine Sub.pick ?_ | refine Sub.castO rfl ?_ | refine Sub.skip ?_)
  ·
   obtain rfl : i = R.length := by omega
   refine f_exit ?_
   refine f_te ?_
   clear kh5
   refine f_te ?_
   refine f_be ?_
   refine f_tn (kh3 _ _ ?_)
   clear kh3
   refine f_seq fun K8 kh8 => ?_
   refine f_region ?_
   refine f_stepP rfl rfl rfl (o_loadA (vs := [_, _]) Try.isAgg28 Try.sizeOf28 rfl rfl ⟨(rdA rfl), (rdA rfl), trivial⟩) ?_
   refine f_step0 rfl rfl (o_storeA Try.sizeOf28 rfl rfl rfl rfl (by first | exact Nat.le_of_ble_eq_true rfl | (simp; done) | (simp; omega)) [.slice A8 bs.length c8, .slice Ax R.length cx] rfl ?_)
   refine f_done ?_
   refine f_tn (kh8 _ _ ?_)
   clear kh8
   refine f_ret ?_
   obtain ⟨R', rfl, hRL⟩ := RowsI.rows hRI
   rw [List.take_of_length_le (by rw [rowsL_len]; exact Nat.le_refl _)] at hRI hRL
   have hRlen : R'.length = R.length := by rw [← rowsL_len R', hRL, rowsL_len]
   exact f_finR1 [m8, mc, ms.flatten] Try.results15 (rvA (vs := [.slice A8 bs.length c8, .slice Ax R.length cx]) Try.isAgg28 Try.sizeOf28 rfl rfl ⟨(rdA rfl), (rdA rfl), trivial⟩) (by repeat (first | exact Sub.nil | refine Sub.pick ?_ | refine Sub.castO rfl ?_ | refine Sub.skip ?_)) ⟨R', A8, c8, Ax, cx, m8, mc, ms, by rw [hRlen], rfl, o8, by rw [hRlen]; exact hO, by rw [hRL]; exact hRI, hRL⟩

set_option maxRecDepth 100000 in
set_option maxHeartbeats 4000000 in
theorem SameNest_spec (Ab : Option Addr) (bs : List Int) (cb : Nat) (Ac : Option Addr) (R : List Row) (cc : Nat) (Ab2 : Option Addr) (cb2 : Nat) (Ac2 : Option Addr) (R2 : List Row) (cc2 : Nat) (w : World) (hn : NestRo (Fr w []) w Ab bs Ac R) (hn2 : NestRo (Fr w []) w Ab2 bs Ac2 R2) (he : rowsL R = rowsL R2) :
    Meets Try.prog 22 [.agg #[.slice Ab bs.length cb, .slice Ac R.length cc], .agg #[.slice Ab2 bs.length cb2, .slice Ac2 R2.length cc2]] w [] (fun u m => u = .bool true ∧ m = []) := by
 have hlen : R.length = R2.length := by rw [← rowsL_len R, he, rowsL_len]
 have hcl := hn.cl
 refine f_enter Try.func22 rfl Try.ntmps22 rfl Owns.nil ?_
 refine f_seq fun K1 kh1 => ?_
 refine f_region ?_
 refine f_step rfl rfl rfl (o_box rfl rfl fun b2 => ?_)
 refine f_step rfl rfl rfl (o_box rfl rfl fun b3 => ?_)
 refine f_stepP rfl rfl rfl (o_assign rfl) ?_
 refine f_done ?_
 refine f_tn (kh1 _ _ ?_)
 clear kh1
 refine f_seq fun K2 kh2 => ?_
 refine f_seq fun K3 kh3 => ?_
 refine f_region ?_
 refine f_stepP rfl rfl rfl (o_field fa28_0 rfl) ?_
 refine f_stepP rfl rfl rfl (o_load Try.isAgg25 rfl (rdA rfl)) ?_
 refine f_stepP rfl rfl rfl (o_field fa28_0 rfl) ?_
 refine f_stepP rfl rfl rfl (o_load Try.isAgg25 rfl (rdA rfl)) ?_
 refine f_step rfl rfl rfl (o_call Try.call20 rfl (fun w_ hp_ => SameInts_spec Ab Ab2 bs bs cb cb2 w_ (hn.b.up0 hp_) (hn2.b.up0 hp_) hn.bl) ?_)
 rintro _ _ ⟨rfl, rfl⟩
 rw [decide_eq_true rfl]
 dsimp only [List.cons_append, List.nil_append]
 refine f_stepP rfl rfl rfl (o_not rfl) ?_
 refine f_stepP rfl rfl rfl (o_move rfl) ?_
 refine f_stepPY rfl rfl rfl rfl rfl (o_field fa28_1 rfl) ?_
 refine f_stepPY rfl rfl rfl rfl rfl (o_load Try.isAgg26 rfl (rdA rfl)) ?_
 refine f_stepPY rfl rfl rfl rfl rfl (o_len sl26 rfl) ?_
 refine f_stepPY rfl rfl rfl rfl rfl (o_field fa28_1 rfl) ?_
 refine f_stepPY rfl rfl rfl rfl rfl (o_load Try.isAgg26 rfl (rdA rfl)) ?_
 refine f_stepPY rfl rfl rfl rfl rfl (o_len sl26 rfl) ?_
 refine f_stepPY rfl rfl rfl rfl rfl (o_neq rfl rfl) ?_
 refine f_stepP rfl rfl rfl (o_pickF rfl rfl) ?_
 refine f_done ?_
 refine f_tn (kh3 _ _ ?_)
 clear kh3
 refine f_condN rfl (by omega) ?_
 refine f_skip ?_
 refine f_tn (kh2 _ _ ?_)
 clear kh2
 refine f_seq fun K4 kh4 => ?_
 refine f_seq fun K5 kh5 => ?_
 refine f_region ?_
 refine f_stepP rfl rfl rfl (o_assign rfl) ?_
 refine f_done ?_
 refine f_tn (kh5 _ _ ?_)
 clear kh5
 refine f_block ?_
 refine f_loop (α := Nat) [2, 3] (fun i => [(5, .int .i64 (i : Int))]) (fun i => [[(b2, blk [.slice Ab bs.length cb, .slice Ac R.length cc] 28)], [(b3, blk [.slice Ab2 bs.length cb2, .slice Ac2 R2.length cc2] 28)]]) (fun i => i ≤ R.length) (fun i => R.length - i) (0) ?_ ?_ ?_ ?_
 · exact (by repeat (first | exact trivial | refine ⟨rfl, ?_⟩))
 · repeat (first | exact Sub.nil | refine Sub.pick ?_ | refine Sub.castO rfl ?_ | refine Sub.skip ?_)
 · exact Nat.zero_le _
 ·
  rintro i hil
  refine f_seq fun K6 kh6 => ?_
  refine f_seq fun K7 kh7 => ?_
  refine f_region ?_
  refine f_stepP rfl rfl rfl (o_move rfl) ?_
  refine f_stepP rfl rfl rfl (o_field fa28_1 rfl) ?_
  refine f_stepP rfl rfl rfl (o_load Try.isAgg26 rfl (rdA rfl)) ?_
  refine f_stepP rfl rfl rfl (o_len sl26 rfl) ?_
  refine f_stepP rfl rfl rfl (o_lss rfl rfl) ?_
  refine f_done ?_
  refine f_tn (kh7 _ _ ?_)
  clear kh7
  refine f_cond rfl (fun c25 => ?_) (fun c25 => ?_)
  ·
   have hi : i < R.length := by omega
   have hi2 : i < R2.length := by omega
   obtain ⟨b0, o0, rfl, hS0, hc0⟩ := hn.c (map_ne hi)
   obtain ⟨b9, o9, rfl, hS9, hc9⟩ := hn2.c (map_ne hi2)
   have hrw : (R[i]'hi).2.1 = (R2[i]'hi2).2.1 := by rw [← rowsL_at hi, ← rowsL_at hi2, he]
   refine f_skip ?_
   refine f_tn (kh6 _ _ ?_)
   clear kh6
   refine f_seq fun K8 kh8 => ?_
   refine f_block ?_
   refine f_seq fun K9 kh9 => ?_
   refine f_regionH [[(b2, blk [.slice Ab bs.length cb, .slice (some ⟨b0, o0, none⟩) R.length cc] 28)], [(b3, blk [.slice Ab2 bs.length cb2, .slice (some ⟨b9, o9, none⟩) R2.length cc2] 28)]] rfl ?_
   refine f_take 0 rfl (by decide +kernel) rfl rfl rfl (by repeat (first | exact Sub.nil | refine Sub.pick ?_ | refine Sub.castO rfl ?_ | refine Sub.skip ?_)) (o_field fa28_1 rfl) ?_
   refine f_take 1 rfl (by decide +kernel) rfl rfl rfl (by repeat (first | exact Sub.nil | refine Sub.pick ?_ | refine Sub.castO rfl ?_ | refine Sub.skip ?_)) (o_load Try.isAgg26 rfl (rdA rfl)) ?_
   refine f_take 2 rfl (by decide +kernel) rfl rfl rfl (by repeat (first | exact Sub.nil | refine Sub.pick ?_ | refine Sub.castO rfl ?_ | refine Sub.skip ?_)) (o_move rfl) ?_
   refine f_take 3 rfl (by decide +kernel) rfl rfl rfl (by repeat (first | exact Sub.nil | refine Sub.pick ?_ | refine Sub.castO rfl ?_ | refine Sub.skip ?_)) (o_idx sl26 rfl rfl (o0 + i) ⟨by omega, by omega, by first | omega | (simp; done) | (simp; omega)⟩) ?_
   refine f_take 4 rfl (by decide +kernel) rfl rfl rfl (by repeat (first | exact Sub.nil | refine Sub.pick ?_ | refine Sub.castO rfl ?_ | refine Sub.skip ?_)) (o_load Try.isAgg25 rfl (roOne (enc := rowV) hS0 hc0 hi)) ?_
   refine f_take 5 rfl (by decide +kernel) rfl rfl rfl (by repeat (first | exact Sub.nil | refine Sub.pick ?_ | refine Sub.castO rfl ?_ | refine Sub.skip ?_)) (o_field fa28_1 rfl) ?_
   refine f_take 6 rfl (by decide +kernel) rfl rfl rfl (by repeat (first | exact Sub.nil | refine Sub.pick ?_ | refine Sub.castO rfl ?_ | refine Sub.skip ?_)) (o_load Try.isAgg26 rfl (rdA rfl)) ?_
   refine f_take 7 rfl (by decide +kernel) rfl rfl rfl (by repeat (first | exact Sub.nil | refine Sub.pick ?_ | refine Sub.castO rfl ?_ | refine Sub.skip ?_)) (o_move rfl) ?_
   refine f_take 8 rfl (by decide +kernel) rfl rfl rfl (by repeat (first | exact Sub.nil | refine Sub.pick ?_ | refine Sub.castO rfl ?_ | refine Sub.skip ?_)) (o_idx sl26 rfl rfl (o9 + i) ⟨by omega, by omega, by first | omega | (simp; done) | (simp; omega)⟩) ?_
   refine f_take 9 rfl (by decide +kernel) rfl rfl rfl (by repeat (first | exact Sub.nil | refine Sub.pick ?_ | refine Sub.castO rfl ?_ | refine Sub.skip ?_)) (o_load Try.isAgg25 rfl (roOne (enc := rowV) hS9 hc9 hi2)) ?_
   refine f_only 10 rfl (by decide +kernel) rfl rfl rfl (o_call Try.call20 rfl (fun w_ hp_ => SameInts_spec (R[i]'hi).1 (R2[i]'hi2).1 (R[i]'hi).2.1 (R2[i]'hi2).2.1 (R[i]'hi).2.2 (R2[i]'hi2).2.2 w_ ((hn.rows _ (List.getElem_mem hi)).1.up0 hp_) ((hn2.rows _ (List.getElem_mem hi2)).1.up0 hp_) (hn.rows _ (List.getElem_mem hi)).2) ?_)
   rintro _ _ ⟨rfl, rfl⟩
   rw [decide_eq_true hrw]
   dsimp only [List.cons_append, List.nil_append]
   refine ⟨(by repeat (first | exact Sub.nil | refine Sub.pick ?_ | refine Sub.castO rfl ?_ | refine Sub.skip ?_)), ?_⟩
   refine f_take 11 rfl (by decide +kernel) rfl rfl rfl (by repeat (first | exact Sub.nil | refine Sub.pick ?_ | refine Sub.castO rfl ?_ | refine Sub.skip ?_)) (o_not rfl) ?_
   refine f_over (by decide +kernel) ?_
   refine f_tn (kh9 _ _ ?_)
   clear kh9
   refine f_condF rfl ?_
   refine f_skip ?_
   refine f_bn ?_
   refine f_tn (kh8 _ _ ?_)
   clear kh8
   refine f_region ?_
   refine f_stepP rfl rfl rfl (o_move rfl) ?_
   refine f_stepP rfl rfl rfl (o_add rfl rfl _ (wrap_i64 (by omega))) ?_
   refine f_stepP rfl rfl rfl (o_assign rfl) ?_
   refine f_done ?_
   refine f_tn (f_again (i + 1) (by first | omega | (dsimp only; omega) | (simp; omega)) (by omega) ?_ ?_ ?_)
   · exact (by repeat (first | exact trivial | refine ⟨rfl, ?_⟩))
   · exact (by repeat (first | exact trivial | refine ⟨rfl, ?_⟩))
   · repeat (first | exact Sub.nil | refine Sub.pick ?_ | refine Sub.castO rfl ?_ | refine Sub.skip ?_)
  ·
   refine f_exit ?_
   refine f_te ?_
   clear kh6
   refine f_te ?_
   refine f_be ?_
   refine f_tn (kh4 _ _ ?_)
   clear kh4
   refine f_seq fun K10 kh10 => ?_
   refine f_region ?_
   refine f_stepP rfl rfl rfl (o_assign rfl) ?_
   refine f_done ?_
   refine f_tn (kh10 _ _ ?_)
   clear kh10
   refine f_ret ?_
   exact f_fin1 [] Try.results22 rfl Sub.nil ⟨rfl, rfl⟩

end Go.Proofs.Ytkmkakpadgljeaa
