import Derived.Test.YtkmkakpadgljeaaGreatAll9
import Derived.Test.YtkmkakpadgljeaaGreatAll5
import Derived.Test.YtkmkakpadgljeaaGreatFlyT
import Derived.Test.YtkmkakpadgljeaaGreatFlyR
import Derived.Test.YtkmkakpadgljeaaGreatAll3

/- flyoverbook: a nest copied; whether nests are the same. -/
namespace Go.Proofs.YtkmkakpadgljeaaGreat
open Go Go.RowKit Fly
set_option linter.unusedVariables false
set_option linter.unusedSimpArgs false

set_option maxRecDepth 100000 in
set_option maxHeartbeats 4000000 in
theorem CopyNest_spec (Ab : Option Addr) (bs : List Int) (cb : Nat) (Ac : Option Addr) (R : List Row) (cc : Nat) (w : World) (hn : NestRo (Fr w []) w Ab bs Ac R) (hzb : bs.length * 8 ≤ 140737488351232) (hzc : R.length * 24 ≤ 140737488351232) (hzr : ∀ r ∈ R, r.2.1.length * 8 ≤ 140737488351232) :
    Meets Tryz.prog 7 [.agg #[.slice Ab bs.length cb, .slice Ac R.length cc]] w [] (fun u own' => ∃ (R' : List Row) (A1 : Option Addr) (c1 : Nat) (A2 : Option Addr) (c2 : Nat) (mb mc : Seg) (ms : List Seg), u = .agg #[.slice A1 bs.length c1, .slice A2 R'.length c2] ∧ own' = [mb, mc, ms.flatten] ∧ Own 3 1 (.slice A1 bs.length c1) bs.length (ints bs) mb ∧ Own 25 1 (.slice A2 R'.length c2) R'.length (R'.map rowV) mc ∧ RowsI 3 (rowsL R') (R'.map rowV) ms ∧ rowsL R' = rowsL R) := by
 refine f_enter Tryz.func7 rfl Tryz.ntmps7 rfl Owns.nil ?_
 refine f_seq fun K1 kh1 => ?_
 refine f_region ?_
 refine f_step rfl rfl rfl (o_box rfl rfl fun b1 => ?_)
 refine f_step rfl rfl rfl (o_alloc Tryz.zeroValue28 rfl fun b2 => ?_)
 refine f_done ?_
 refine f_tn (kh1 _ _ ?_)
 clear kh1
 refine f_seq fun K2 kh2 => ?_
 refine f_region ?_
 refine f_step rfl rfl rfl (o_slice0 el25 fun b5 => ?_)
 refine f_stepP rfl rfl rfl (o_field fa28_0 rfl) ?_
 refine f_stepP rfl rfl rfl (o_load Tryz.isAgg25 rfl (rdA rfl)) ?_
 refine f_step rfl rfl rfl (o_appendQ el25 rfl rfl (Own.mk (b := b5) (cs := []) (len := 0) rfl (by omega)) (ys := ints bs) (rds_ro' hn.b) (by rw [ints_length, Nat.mul_one]) (ints_one' bs) (by omega) (by omega) fun v8 m8 o8 => ?_)
 rw [Nat.zero_add, List.nil_append] at o8
 obtain ⟨A8, c8, rfl, _⟩ := o8.val
 refine f_stepP rfl rfl rfl (o_build (cs := [.slice A8 bs.length c8, .slice none 0 0]) st28 rfl rfl) ?_
 refine f_step rfl rfl rfl (o_alloc Tryz.zeroValue28 rfl fun b3 => ?_)
 refine f_step0 rfl rfl (o_storeA Tryz.sizeOf28 rfl rfl rfl rfl (by first | exact Nat.le_of_ble_eq_true rfl | (simp; done) | (simp; omega)) [.slice A8 bs.length c8, .slice none 0 0] rfl ?_)
 refine f_done ?_
 refine f_tn (kh2 _ _ ?_)
 clear kh2
 refine f_seq fun K3 kh3 => ?_
 refine f_seq fun K4 kh4 => ?_
 refine f_region ?_
 refine f_stepP rfl rfl rfl (o_assign rfl) ?_
 refine f_done ?_
 refine f_tn (kh4 _ _ ?_)
 clear kh4
 refine f_block ?_
 refine f_loop (α := Nat × Value × Seg × List Value × List Seg) [1, 2, 3] (fun ⟨i, cv, mc, vs, ms⟩ => [(4, .int .i64 (i : Int))]) (fun ⟨i, cv, mc, vs, ms⟩ => [[(b3, blk [.slice A8 bs.length c8, cv] 28)], m8, mc, ms.flatten, [(b1, blk [.slice Ab bs.length cb, .slice Ac R.length cc] 28)], [(b2, blk [.slice none 0 0, .slice none 0 0] 28)]]) (fun ⟨i, cv, mc, vs, ms⟩ => i ≤ R.length ∧ Own 25 1 cv i vs mc ∧ RowsI 3 ((rowsL R).take i) vs ms) (fun ⟨i, cv, mc, vs, ms⟩ => R.length - i) (0, .slice none 0 0, [], [], []) ?_ ?_ ?_ ?_
 · exact (by repeat (first | exact trivial | refine ⟨rfl, ?_⟩))
 · repeat (first | exact Sub.nil | refine Sub.pick ?_ | refine Sub.castO rfl ?_ | refine Sub.skip ?_)
 · exact ⟨Nat.zero_le _, Own.nil _ _, by rw [List.take_zero]; exact RowsI.start _ 0⟩
 ·
  rintro ⟨i, cv, mc, vs, ms⟩ ⟨hil0, hO, hRI⟩
  have hcl := hn.cl
  obtain ⟨Ax, cx, rfl, hcx⟩ := hO.val
  refine f_seq fun K5 kh5 => ?_
  refine f_seq fun K6 kh6 => ?_
  refine f_region ?_
  refine f_stepP rfl rfl rfl (o_move rfl) ?_
  refine f_stepP rfl rfl rfl (o_field fa28_1 rfl) ?_
  refine f_stepP rfl rfl rfl (o_load Tryz.isAgg26 rfl (rdA rfl)) ?_
  refine f_stepP rfl rfl rfl (o_len sl26 rfl) ?_
  refine f_stepP rfl rfl rfl (o_lss rfl rfl) ?_
  refine f_done ?_
  refine f_tn (kh6 _ _ ?_)
  clear kh6
  refine f_cond rfl (fun c14 => ?_) (fun c14 => ?_)
  ·
   have hiR : i < R.length := by omega
   obtain ⟨b0, o0, rfl, hS0, hc0⟩ := hn.c (map_ne hiR)
   have hrow := hn.rows _ (List.getElem_mem hiR)
   have hzri := hzr _ (List.getElem_mem hiR)
   have hil : i < (rowsL R).length := by rw [rowsL_len]; exact hiR
   have htk : (rowsL R).take (i + 1) = (rowsL R).take i ++ [(R[i]'hiR).2.1] := by rw [List.take_succ_eq_append_getElem hil]; simp [rowsL]
   refine f_skip ?_
   refine f_tn (kh5 _ _ ?_)
   clear kh5
   refine f_seq fun K7 kh7 => ?_
   refine f_block ?_
   refine f_regionH [m8, ms.flatten, [(b1, blk [.slice Ab bs.length cb, .slice (some ⟨b0, o0, none⟩) R.length cc] 28)], [(b2, blk [.slice none 0 0, .slice none 0 0] 28)]] rfl ?_
   refine f_take 0 rfl (by decide +kernel) rfl rfl rfl (by repeat (first | exact Sub.nil | refine Sub.pick ?_ | refine Sub.castO rfl ?_ | refine Sub.skip ?_)) (o_field fa28_1 rfl) ?_
   refine f_take 3 rfl (by decide +kernel) rfl rfl rfl (by repeat (first | exact Sub.nil | refine Sub.pick ?_ | refine Sub.castO rfl ?_ | refine Sub.skip ?_)) (o_field fa28_1 rfl) ?_
   refine f_take 4 rfl (by decide +kernel) rfl rfl rfl (by repeat (first | exact Sub.nil | refine Sub.pick ?_ | refine Sub.castO rfl ?_ | refine Sub.skip ?_)) (o_load Tryz.isAgg26 rfl (rdA rfl)) ?_
   refine f_take 5 rfl (by decide +kernel) rfl rfl rfl (by repeat (first | exact Sub.nil | refine Sub.pick ?_ | refine Sub.castO rfl ?_ | refine Sub.skip ?_)) (o_move rfl) ?_
   refine f_take 6 rfl (by decide +kernel) rfl rfl rfl (by repeat (first | exact Sub.nil | refine Sub.pick ?_ | refine Sub.castO rfl ?_ | refine Sub.skip ?_)) (o_idx sl26 rfl rfl (o0 + i) ⟨by omega, by omega, by first | omega | (simp; done) | (simp; omega)⟩) ?_
   refine f_take 7 rfl (by decide +kernel) rfl rfl rfl (by repeat (first | exact Sub.nil | refine Sub.pick ?_ | refine Sub.castO rfl ?_ | refine Sub.skip ?_)) (o_load Tryz.isAgg25 rfl (roOne (enc := rowV) hS0 hc0 hiR)) ?_
   refine f_two 1 2 rfl rfl (by decide +kernel) rfl rfl rfl rfl rfl rfl ?_ ?_
   ·
    refine (o_load Tryz.isAgg26 rfl (rdA rfl)).does ⟨(by repeat (first | exact Sub.nil | refine Sub.pick ?_ | refine Sub.castO rfl ?_ | refine Sub.skip ?_)), ?_⟩
    refine f_only 2 rfl (by decide +kernel) rfl rfl rfl (o_slice0 el25 fun b19 => ⟨(by repeat (first | exact Sub.nil | refine Sub.pick ?_ | refine Sub.castO rfl ?_ | refine Sub.skip ?_)), ?_⟩)
    refine f_only 8 rfl (by decide +kernel) rfl rfl rfl (o_appendQ el25 rfl rfl (Own.mk (b := b19) (cs := []) (len := 0) rfl (by omega)) (ys := ints (R[i]'hiR).2.1) (rds_ro' hrow.1) (by rw [ints_length, Nat.mul_one]) (ints_one' _) (by omega) (by omega) fun v25 m25 o25 => ⟨(by repeat (first | exact Sub.nil | refine Sub.pick ?_ | refine Sub.castO rfl ?_ | refine Sub.skip ?_)), ?_⟩)
    rw [Nat.zero_add, List.nil_append] at o25
    obtain ⟨A25, c25, rfl, _⟩ := o25.val
    refine f_only 9 rfl (by decide +kernel) rfl rfl rfl (o_slice1 el26 (by omega) rfl rfl rfl fun b26 => ⟨(by repeat (first | exact Sub.nil | refine Sub.pick ?_ | refine Sub.castO rfl ?_ | refine Sub.skip ?_)), ?_⟩)
    refine f_only 10 rfl (by decide +kernel) rfl rfl rfl (o_append el26 rfl rfl hO (ys := [.slice A25 (R[i]'hiR).2.1.length c25]) ⟨(rdA rfl), trivial⟩ rfl rfl (by omega) (by omega) fun v27 m27 o27 => ⟨(by repeat (first | exact Sub.nil | refine Sub.pick ?_ | refine Sub.castO rfl ?_ | refine Sub.skip ?_)), ?_⟩)
    obtain ⟨A27, c27, rfl, _⟩ := o27.val
    refine f_take 11 rfl (by decide +kernel) rfl rfl rfl (by repeat (first | exact Sub.nil | refine Sub.pick ?_ | refine Sub.castO rfl ?_ | refine Sub.skip ?_)) (o_field fa28_1 rfl) ?_
    refine f_only0 12 rfl (by decide +kernel) rfl rfl (o_store Tryz.sizeOf26 rfl rfl rfl rfl (by first | exact Nat.le_of_ble_eq_true rfl | (simp; done) | (simp; omega)) [.slice A8 bs.length c8, .slice A27 (i + 1) c27] rfl ⟨(by repeat (first | exact Sub.nil | refine Sub.pick ?_ | refine Sub.castO rfl ?_ | refine Sub.skip ?_)), ?_⟩)
    refine f_over (by decide +kernel) ?_
    refine f_bn ?_
    refine f_tn (kh7 _ _ ?_)
    clear kh7
    refine f_region ?_
    refine f_stepP rfl rfl rfl (o_move rfl) ?_
    refine f_stepP rfl rfl rfl (o_add rfl rfl _ (wrap_i64 (by omega))) ?_
    refine f_stepP rfl rfl rfl (o_assign rfl) ?_
    refine f_done ?_
    refine f_subQ (out := [[(b3, blk [.slice A8 bs.length c8, .slice A27 (i + 1) c27] 28)], m8, m27, (ms ++ [m25]).flatten, [(b1, blk [.slice Ab bs.length cb, .slice (some ⟨b0, o0, none⟩) R.length cc] 28)], [(b2, blk [.slice none 0 0, .slice none 0 0] 28)]]) (by rw [List.flatten_append]; refine Sub.pick ?_; refine Sub.pick ?_; refine Sub.pick ?_; refine sub_snocU ?_; repeat (first | exact Sub.nil | refine Sub.pick ?_ | refine Sub.castO rfl ?_ | refine Sub.skip ?_)) ?_
    refine f_tn (f_again (i + 1, .slice A27 (i + 1) c27, m27, vs ++ [.slice A25 (R[i]'hiR).2.1.length c25], ms ++ [m25]) (by first | omega | (dsimp only; omega) | (simp; omega)) ⟨by omega, o27, by rw [htk]; exact RowsI.snoc hRI o25⟩ ?_ ?_ ?_)
    · exact (by repeat (first | exact trivial | refine ⟨rfl, ?_⟩))
    · exact (by repeat (first | exact trivial | refine ⟨rfl, ?_⟩))
    · repeat (first | exact Sub.nil | refine Sub.pick ?_ | refine Sub.castO rfl ?_ | refine Sub.skip ?_)
   ·
    refine (o_slice0 el25 fun b19 => ⟨(by repeat (first | exact Sub.nil | refine Sub.pick ?_ | refine Sub.castO rfl ?_ | refine Sub.skip ?_)), ?_⟩)
    refine f_two 1 8 rfl rfl (by decide +kernel) rfl rfl rfl rfl rfl rfl ?_ ?_
    ·
     refine (o_load Tryz.isAgg26 rfl (rdA rfl)).does ⟨(by repeat (first | exact Sub.nil | refine Sub.pick ?_ | refine Sub.castO rfl ?_ | refine Sub.skip ?_)), ?_⟩
     refine f_only 8 rfl (by decide +kernel) rfl rfl rfl (o_appendQ el25 rfl rfl (Own.mk (b := b19) (cs := []) (len := 0) rfl (by omega)) (ys := ints (R[i]'hiR).2.1) (rds_ro' hrow.1) (by rw [ints_length, Nat.mul_one]) (ints_one' _) (by omega) (by omega) fun v25 m25 o25 => ⟨(by repeat (first | exact Sub.nil | refine Sub.pick ?_ | refine Sub.castO rfl ?_ | refine Sub.skip ?_)), ?_⟩)
     rw [Nat.zero_add, List.nil_append] at o25
     obtain ⟨A25, c25, rfl, _⟩ := o25.val
     refine f_only 9 rfl (by decide +kernel) rfl rfl rfl (o_slice1 el26 (by omega) rfl rfl rfl fun b26 => ⟨(by repeat (first | exact Sub.nil | refine Sub.pick ?_ | refine Sub.castO rfl ?_ | refine Sub.skip ?_)), ?_⟩)
     refine f_only 10 rfl (by decide +kernel) rfl rfl rfl (o_append el26 rfl rfl hO (ys := [.slice A25 (R[i]'hiR).2.1.length c25]) ⟨(rdA rfl), trivial⟩ rfl rfl (by omega) (by omega) fun v27 m27 o27 => ⟨(by repeat (first | exact Sub.nil | refine Sub.pick ?_ | refine Sub.castO rfl ?_ | refine Sub.skip ?_)), ?_⟩)
     obtain ⟨A27, c27, rfl, _⟩ := o27.val
     refine f_take 11 rfl (by decide +kernel) rfl rfl rfl (by repeat (first | exact Sub.nil | refine Sub.pick ?_ | refine Sub.castO rfl ?_ | refine Sub.skip ?_)) (o_field fa28_1 rfl) ?_
     refine f_only0 12 rfl (by decide +kernel) rfl rfl (o_store Tryz.sizeOf26 rfl rfl rfl rfl (by first | exact Nat.le_of_ble_eq_true rfl | (simp; done) | (simp; omega)) [.slice A8 bs.length c8, .slice A27 (i + 1) c27] rfl ⟨(by repeat (first | exact Sub.nil | refine Sub.pick ?_ | refine Sub.castO rfl ?_ | refine Sub.skip ?_)), ?_⟩)
     refine f_over (by decide +kernel) ?_
     refine f_bn ?_
     refine f_tn (kh7 _ _ ?_)
     clear kh7
     refine f_region ?_
     refine f_stepP rfl rfl rfl (o_move rfl) ?_
     refine f_stepP rfl rfl rfl (o_add rfl rfl _ (wrap_i64 (by omega))) ?_
     refine f_stepP rfl rfl rfl (o_assign rfl) ?_
     refine f_done ?_
     refine f_subQ (out := [[(b3, blk [.slice A8 bs.length c8, .slice A27 (i + 1) c27] 28)], m8, m27, (ms ++ [m25]).flatten, [(b1, blk [.slice Ab bs.length cb, .slice (some ⟨b0, o0, none⟩) R.length cc] 28)], [(b2, blk [.slice none 0 0, .slice none 0 0] 28)]]) (by rw [List.flatten_append]; refine Sub.pick ?_; refine Sub.pick ?_; refine Sub.pick ?_; refine sub_snocU ?_; repeat (first | exact Sub.nil | refine Sub.pick ?_ | refine Sub.castO rfl ?_ | refine Sub.skip ?_)) ?_
     refine f_tn (f_again (i + 1, .slice A27 (i + 1) c27, m27, vs ++ [.slice A25 (R[i]'hiR).2.1.length c25], ms ++ [m25]) (by first | omega | (dsimp only; omega) | (simp; omega)) ⟨by omega, o27, by rw [htk]; exact RowsI.snoc hRI o25⟩ ?_ ?_ ?_)
     · exact (by repeat (first | exact trivial | refine ⟨rfl, ?_⟩))
     · exact (by repeat (first | exact trivial | refine ⟨rfl, ?_⟩))
     · repeat (first | exact Sub.nil | refine Sub.pick ?_ | refine Sub.castO rfl ?_ | refine Sub.skip ?_)
    ·
     refine (o_appendQ el25 rfl rfl (Own.mk (b := b19) (cs := []) (len := 0) rfl (by omega)) (ys := ints (R[i]'hiR).2.1) (rds_ro' hrow.1) (by rw [ints_length, Nat.mul_one]) (ints_one' _) (by omega) (by omega) fun v25 m25 o25 => ⟨(by repeat (first | exact Sub.nil | refine Sub.pick ?_ | refine Sub.castO rfl ?_ | refine Sub.skip ?_)), ?_⟩)
     rw [Nat.zero_add, List.nil_append] at o25
     obtain ⟨A25, c25, rfl, _⟩ := o25.val
     refine f_two 1 9 rfl rfl (by decide +kernel) rfl rfl rfl rfl rfl rfl ?_ ?_
     ·
      refine (o_load Tryz.isAgg26 rfl (rdA rfl)).does ⟨(by repeat (first | exact Sub.nil | refine Sub.pick ?_ | refine Sub.castO rfl ?_ | refine Sub.skip ?_)), ?_⟩
      refine f_only 9 rfl (by decide +kernel) rfl rfl rfl (o_slice1 el26 (by omega) rfl rfl rfl fun b26 => ⟨(by repeat (first | exact Sub.nil | refine Sub.pick ?_ | refine Sub.castO rfl ?_ | refine Sub.skip ?_)), ?_⟩)
      refine f_only 10 rfl (by decide +kernel) rfl rfl rfl (o_append el26 rfl rfl hO (ys := [.slice A25 (R[i]'hiR).2.1.length c25]) ⟨(rdA rfl), trivial⟩ rfl rfl (by omega) (by omega) fun v27 m27 o27 => ⟨(by repeat (first | exact Sub.nil | refine Sub.pick ?_ | refine Sub.castO rfl ?_ | refine Sub.skip ?_)), ?_⟩)
      obtain ⟨A27, c27, rfl, _⟩ := o27.val
      refine f_take 11 rfl (by decide +kernel) rfl rfl rfl (by repeat (first | exact Sub.nil | refine Sub.pick ?_ | refine Sub.castO rfl ?_ | refine Sub.skip ?_)) (o_field fa28_1 rfl) ?_
      refine f_only0 12 rfl (by decide +kernel) rfl rfl (o_store Tryz.sizeOf26 rfl rfl rfl rfl (by first | exact Nat.le_of_ble_eq_true rfl | (simp; done) | (simp; omega)) [.slice A8 bs.length c8, .slice A27 (i + 1) c27] rfl ⟨(by repeat (first | exact Sub.nil | refine Sub.pick ?_ | refine Sub.castO rfl ?_ | refine Sub.skip ?_)), ?_⟩)
      refine f_over (by decide +kernel) ?_
      refine f_bn ?_
      refine f_tn (kh7 _ _ ?_)
      clear kh7
      refine f_region ?_
      refine f_stepP rfl rfl rfl (o_move rfl) ?_
      refine f_stepP rfl rfl rfl (o_add rfl rfl _ (wrap_i64 (by omega))) ?_
      refine f_stepP rfl rfl rfl (o_assign rfl) ?_
      refine f_done ?_
      refine f_subQ (out := [[(b3, blk [.slice A8 bs.length c8, .slice A27 (i + 1) c27] 28)], m8, m27, (ms ++ [m25]).flatten, [(b1, blk [.slice Ab bs.length cb, .slice (some ⟨b0, o0, none⟩) R.length cc] 28)], [(b2, blk [.slice none 0 0, .slice none 0 0] 28)]]) (by rw [List.flatten_append]; refine Sub.pick ?_; refine Sub.pick ?_; refine Sub.pick ?_; refine sub_snocU ?_; repeat (first | exact Sub.nil | refine Sub.pick ?_ | refine Sub.castO rfl ?_ | refine Sub.skip ?_)) ?_
      refine f_tn (f_again (i + 1, .slice A27 (i + 1) c27, m27, vs ++ [.slice A25 (R[i]'hiR).2.1.length c25], ms ++ [m25]) (by first | omega | (dsimp only; omega) | (simp; omega)) ⟨by omega, o27, by rw [htk]; exact RowsI.snoc hRI o25⟩ ?_ ?_ ?_)
      · exact (by repeat (first | exact trivial | refine ⟨rfl, ?_⟩))
      · exact (by repeat (first | exact trivial | refine ⟨rfl, ?_⟩))
      · repeat (first | exact Sub.nil | refine Sub.pick ?_ | refine Sub.castO rfl ?_ | refine Sub.skip ?_)
     ·
      refine (o_slice1 el26 (by omega) rfl rfl rfl fun b26 => ⟨(by repeat (first | exact Sub.nil | refine Sub.pick ?_ | refine Sub.castO rfl ?_ | refine Sub.skip ?_)), ?_⟩)
      refine f_only 1 rfl (by decide +kernel) rfl rfl rfl ((o_load Tryz.isAgg26 rfl (rdA rfl)).does ⟨(by repeat (first | exact Sub.nil | refine Sub.pick ?_ | refine Sub.castO rfl ?_ | refine Sub.skip ?_)), ?_⟩)
      refine f_only 10 rfl (by decide +kernel) rfl rfl rfl (o_append el26 rfl rfl hO (ys := [.slice A25 (R[i]'hiR).2.1.length c25]) ⟨(rdA rfl), trivial⟩ rfl rfl (by omega) (by omega) fun v27 m27 o27 => ⟨(by repeat (first | exact Sub.nil | refine Sub.pick ?_ | refine Sub.castO rfl ?_ | refine Sub.skip ?_)), ?_⟩)
      obtain ⟨A27, c27, rfl, _⟩ := o27.val
      refine f_take 11 rfl (by decide +kernel) rfl rfl rfl (by repeat (first | exact Sub.nil | refine Sub.pick ?_ | refine Sub.castO rfl ?_ | refine Sub.skip ?_)) (o_field fa28_1 rfl) ?_
      refine f_only0 12 rfl (by decide +kernel) rfl rfl (o_store Tryz.sizeOf26 rfl rfl rfl rfl (by first | exact Nat.le_of_ble_eq_true rfl | (simp; done) | (simp; omega)) [.slice A8 bs.length c8, .slice A27 (i + 1) c27] rfl ⟨(by repeat (first | exact Sub.nil | refine Sub.pick ?_ | refine Sub.castO rfl ?_ | refine Sub.skip ?_)), ?_⟩)
      refine f_over (by decide +kernel) ?_
      refine f_bn ?_
      refine f_tn (kh7 _ _ ?_)
      clear kh7
      refine f_region ?_
      refine f_stepP rfl rfl rfl (o_move rfl) ?_
      refine f_stepP rfl rfl rfl (o_add rfl rfl _ (wrap_i64 (by omega))) ?_
      refine f_stepP rfl rfl rfl (o_assign rfl) ?_
      refine f_done ?_
      refine f_subQ (out := [[(b3, blk [.slice A8 bs.length c8, .slice A27 (i + 1) c27] 28)], m8, m27, (ms ++ [m25]).flatten, [(b1, blk [.slice Ab bs.length cb, .slice (some ⟨b0, o0, none⟩) R.length cc] 28)], [(b2, blk [.slice none 0 0, .slice none 0 0] 28)]]) (by rw [List.flatten_append]; refine Sub.pick ?_; refine Sub.pick ?_; refine Sub.pick ?_; refine sub_snocU ?_; repeat (first | exact Sub.nil | refine Sub.pick ?_ | refine Sub.castO rfl ?_ | refine Sub.skip ?_)) ?_
      refine f_tn (f_again (i + 1, .slice A27 (i + 1) c27, m27, vs ++ [.slice A25 (R[i]'hiR).2.1.length c25], ms ++ [m25]) (by first | omega | (dsimp only; omega) | (simp; omega)) ⟨by omega, o27, by rw [htk]; exact RowsI.snoc hRI o25⟩ ?_ ?_ ?_)
      · exact (by repeat (first | exact trivial | refine ⟨rfl, ?_⟩))
      · exact (by repeat (first | exact trivial | refine ⟨rfl, ?_⟩))
      · repeat (first | exact Sub.nil | refine Sub.pick ?_ | refine Sub.castO rfl ?_ | refine Sub.skip ?_)
  ·
   obtain rfl : i = R.length := by omega
   refine f_exit ?_
   refine f_te ?_
   clear kh5
   refine f_te ?_
   refine f_be ?_
   refine f_tn (kh3 _ _ ?_)
   clear kh3
   refine f_seq fun K8 kh8 => ?_
   refine f_region ?_
   refine f_stepP rfl rfl rfl (o_loadA (vs := [_, _]) Tryz.isAgg28 Tryz.sizeOf28 rfl rfl ⟨(rdA rfl), (rdA rfl), trivial⟩) ?_
   refine f_step0 rfl rfl (o_storeA Tryz.sizeOf28 rfl rfl rfl rfl (by first | exact Nat.le_of_ble_eq_true rfl | (simp; done) | (simp; omega)) [.slice A8 bs.length c8, .slice Ax R.length cx] rfl ?_)
   refine f_done ?_
   refine f_tn (kh8 _ _ ?_)
   clear kh8
   refine f_ret ?_
   obtain ⟨R', rfl, hRL⟩ := RowsI.rows hRI
   rw [List.take_of_length_le (by rw [rowsL_len]; exact Nat.le_refl _)] at hRI hRL
   have hRlen : R'.length = R.length := by rw [← rowsL_len R', hRL, rowsL_len]
   exact f_finR1 [m8, mc, ms.flatten] Tryz.results7 (rvA (vs := [.slice A8 bs.length c8, .slice Ax R.length cx]) Tryz.isAgg28 Tryz.sizeOf28 rfl rfl ⟨(rdA rfl), (rdA rfl), trivial⟩) (by repeat (first | exact Sub.nil | refine Sub.pick ?_ | refine Sub.castO rfl ?_ | refine Sub.skip ?_)) ⟨R', A8, c8, Ax, cx, m8, mc, ms, by rw [hRlen], rfl, o8, by rw [hRlen]; exact hO, by rw [hRL]; exact hRI, hRL⟩

set_option maxRecDepth 100000 in
set_option maxHeartbeats 4000000 in
theorem SameNest_spec (Ab : Option Addr) (bs : List Int) (cb : Nat) (Ac : Option Addr) (R : List Row) (cc : Nat) (Ab2 : Option Addr) (cb2 : Nat) (Ac2 : Option Addr) (R2 : List Row) (cc2 : Nat) (w : World) (hn : NestRo (Fr w []) w Ab bs Ac R) (hn2 : NestRo (Fr w []) w Ab2 bs Ac2 R2) (he : rowsL R = rowsL R2) :
    Meets Tryz.prog 19 [.agg #[.slice Ab bs.length cb, .slice Ac R.length cc], .agg #[.slice Ab2 bs.length cb2, .slice Ac2 R2.length cc2]] w [] (fun u m => u = .bool true ∧ m = []) := by
 have hlen : R.length = R2.length := by rw [← rowsL_len R, he, rowsL_len]
 have hcl := hn.cl
 refine f_enter Tryz.func19 rfl Tryz.ntmps19 rfl Owns.nil ?_
 refine f_seq fun K1 kh1 => ?_
 refine f_region ?_
 refine f_step rfl rfl rfl (o_box rfl rfl fun b2 => ?_)
 refine f_step rfl rfl rfl (o_box rfl rfl fun b3 => ?_)
 refine f_stepP rfl rfl rfl (o_assign rfl) ?_
 refine f_done ?_
 refine f_tn (kh1 _ _ ?_)
 clear kh1
 refine f_seq fun K2 kh2 => ?_
 refine f_seq fun K3 kh3 => ?_
 refine f_region ?_
 refine f_stepP rfl rfl rfl (o_field fa28_0 rfl) ?_
 refine f_stepP rfl rfl rfl (o_load Tryz.isAgg25 rfl (rdA rfl)) ?_
 refine f_stepP rfl rfl rfl (o_field fa28_0 rfl) ?_
 refine f_stepP rfl rfl rfl (o_load Tryz.isAgg25 rfl (rdA rfl)) ?_
 refine f_step rfl rfl rfl (o_call Tryz.call12 rfl (fun w_ hp_ => SameInts_spec Ab Ab2 bs bs cb cb2 w_ (hn.b.up0 hp_) (hn2.b.up0 hp_) hn.bl) ?_)
 rintro _ _ ⟨rfl, rfl⟩
 rw [decide_eq_true rfl]
 dsimp only [List.cons_append, List.nil_append]
 refine f_stepP rfl rfl rfl (o_not rfl) ?_
 refine f_stepP rfl rfl rfl (o_move rfl) ?_
 refine f_stepPY rfl rfl rfl rfl rfl (o_field fa28_1 rfl) ?_
 refine f_stepPY rfl rfl rfl rfl rfl (o_load Tryz.isAgg26 rfl (rdA rfl)) ?_
 refine f_stepPY rfl rfl rfl rfl rfl (o_len sl26 rfl) ?_
 refine f_stepPY rfl rfl rfl rfl rfl (o_field fa28_1 rfl) ?_
 refine f_stepPY rfl rfl rfl rfl rfl (o_load Tryz.isAgg26 rfl (rdA rfl)) ?_
 refine f_stepPY rfl rfl rfl rfl rfl (o_len sl26 rfl) ?_
 refine f_stepPY rfl rfl rfl rfl rfl (o_neq rfl rfl) ?_
 refine f_stepP rfl rfl rfl (o_pickF rfl rfl) ?_
 refine f_done ?_
 refine f_tn (kh3 _ _ ?_)
 clear kh3
 refine f_condN rfl (by omega) ?_
 refine f_skip ?_
 refine f_tn (kh2 _ _ ?_)
 clear kh2
 refine f_seq fun K4 kh4 => ?_
 refine f_seq fun K5 kh5 => ?_
 refine f_region ?_
 refine f_stepP rfl rfl rfl (o_assign rfl) ?_
 refine f_done ?_
 refine f_tn (kh5 _ _ ?_)
 clear kh5
 refine f_block ?_
 refine f_loop (α := Nat) [2, 3] (fun i => [(5, .int .i64 (i : Int))]) (fun i => [[(b2, blk [.slice Ab bs.length cb, .slice Ac R.length cc] 28)], [(b3, blk [.slice Ab2 bs.length cb2, .slice Ac2 R2.length cc2] 28)]]) (fun i => i ≤ R.length) (fun i => R.length - i) (0) ?_ ?_ ?_ ?_
 · exact (by repeat (first | exact trivial | refine ⟨rfl, ?_⟩))
 · repeat (first | exact Sub.nil | refine Sub.pick ?_ | refine Sub.castO rfl ?_ | refine Sub.skip ?_)
 · exact Nat.zero_le _
 ·
  rintro i hil
  refine f_seq fun K6 kh6 => ?_
  refine f_seq fun K7 kh7 => ?_
  refine f_region ?_
  refine f_stepP rfl rfl rfl (o_move rfl) ?_
  refine f_stepP rfl rfl rfl (o_field fa28_1 rfl) ?_
  refine f_stepP rfl rfl rfl (o_load Tryz.isAgg26 rfl (rdA rfl)) ?_
  refine f_stepP rfl rfl rfl (o_len sl26 rfl) ?_
  refine f_stepP rfl rfl rfl (o_lss rfl rfl) ?_
  refine f_done ?_
  refine f_tn (kh7 _ _ ?_)
  clear kh7
  refine f_cond rfl (fun c25 => ?_) (fun c25 => ?_)
  ·
   have hi : i < R.length := by omega
   have hi2 : i < R2.length := by omega
   obtain ⟨b0, o0, rfl, hS0, hc0⟩ := hn.c (map_ne hi)
   obtain ⟨b9, o9, rfl, hS9, hc9⟩ := hn2.c (map_ne hi2)
   have hrw : (R[i]'hi).2.1 = (R2[i]'hi2).2.1 := by rw [← rowsL_at hi, ← rowsL_at hi2, he]
   refine f_skip ?_
   refine f_tn (kh6 _ _ ?_)
   clear kh6
   refine f_seq fun K8 kh8 => ?_
   refine f_block ?_
   refine f_seq fun K9 kh9 => ?_
   refine f_regionH [[(b2, blk [.slice Ab bs.length cb, .slice (some ⟨b0, o0, none⟩) R.length cc] 28)], [(b3, blk [.slice Ab2 bs.length cb2, .slice (some ⟨b9, o9, none⟩) R2.length cc2] 28)]] rfl ?_
   refine f_take 0 rfl (by decide +kernel) rfl rfl rfl (by repeat (first | exact Sub.nil | refine Sub.pick ?_ | refine Sub.castO rfl ?_ | refine Sub.skip ?_)) (o_field fa28_1 rfl) ?_
   refine f_take 1 rfl (by decide +kernel) rfl rfl rfl (by repeat (first | exact Sub.nil | refine Sub.pick ?_ | refine Sub.castO rfl ?_ | refine Sub.skip ?_)) (o_load Tryz.isAgg26 rfl (rdA rfl)) ?_
   refine f_take 2 rfl (by decide +kernel) rfl rfl rfl (by repeat (first | exact Sub.nil | refine Sub.pick ?_ | refine Sub.castO rfl ?_ | refine Sub.skip ?_)) (o_move rfl) ?_
   refine f_take 3 rfl (by decide +kernel) rfl rfl rfl (by repeat (first | exact Sub.nil | refine Sub.pick ?_ | refine Sub.castO rfl ?_ | refine Sub.skip ?_)) (o_idx sl26 rfl rfl (o0 + i) ⟨by omega, by omega, by first | omega | (simp; done) | (simp; omega)⟩) ?_
   refine f_take 4 rfl (by decide +kernel) rfl rfl rfl (by repeat (first | exact Sub.nil | refine Sub.pick ?_ | refine Sub.castO rfl ?_ | refine Sub.skip ?_)) (o_load Tryz.isAgg25 rfl (roOne (enc := rowV) hS0 hc0 hi)) ?_
   refine f_take 5 rfl (by decide +kernel) rfl rfl rfl (by repeat (first | exact Sub.nil | refine Sub.pick ?_ | refine Sub.castO rfl ?_ | refine Sub.skip ?_)) (o_field fa28_1 rfl) ?_
   refine f_take 6 rfl (by decide +kernel) rfl rfl rfl (by repeat (first | exact Sub.nil | refine Sub.pick ?_ | refine Sub.castO rfl ?_ | refine Sub.skip ?_)) (o_load Tryz.isAgg26 rfl (rdA rfl)) ?_
   refine f_take 7 rfl (by decide +kernel) rfl rfl rfl (by repeat (first | exact Sub.nil | refine Sub.pick ?_ | refine Sub.castO rfl ?_ | refine Sub.skip ?_)) (o_move rfl) ?_
   refine f_take 8 rfl (by decide +kernel) rfl rfl rfl (by repeat (first | exact Sub.nil | refine Sub.pick ?_ | refine Sub.castO rfl ?_ | refine Sub.skip ?_)) (o_idx sl26 rfl rfl (o9 + i) ⟨by omega, by omega, by first | omega | (simp; done) | (simp; omega)⟩) ?_
   refine f_take 9 rfl (by decide +kernel) rfl rfl rfl (by repeat (first | exact Sub.nil | refine Sub.pick ?_ | refine Sub.castO rfl ?_ | refine Sub.skip ?_)) (o_load Tryz.isAgg25 rfl (roOne (enc := rowV) hS9 hc9 hi2)) ?_
   refine f_only 10 rfl (by decide +kernel) rfl rfl rfl (o_call Tryz.call12 rfl (fun w_ hp_ => SameInts_spec (R[i]'hi).1 (R2[i]'hi2).1 (R[i]'hi).2.1 (R2[i]'hi2).2.1 (R[i]'hi).2.2 (R2[i]'hi2).2.2 w_ ((hn.rows _ (List.getElem_mem hi)).1.up0 hp_) ((hn2.rows _ (List.getElem_mem hi2)).1.up0 hp_) (hn.rows _ (List.getElem_mem hi)).2) ?_)
   rintro _ _ ⟨rfl, rfl⟩
   rw [decide_eq_true hrw]
   dsimp only [List.cons_append, List.nil_append]
   refine ⟨(by repeat (first | exact Sub.nil | refine Sub.pick ?_ | refine Sub.castO rfl ?_ | refine Sub.skip ?_)), ?_⟩
   refine f_take 11 rfl (by decide +kernel) rfl rfl rfl (by repeat (first | exact Sub.nil | refine Sub.pick ?_ | refine Sub.castO rfl ?_ | refine Sub.skip ?_)) (o_not rfl) ?_
   refine f_over (by decide +kernel) ?_
   refine f_tn (kh9 _ _ ?_)
   clear kh9
   refine f_condF rfl ?_
   refine f_skip ?_
   refine f_bn ?_
   refine f_tn (kh8 _ _ ?_)
   clear kh8
   refine f_region ?_
   refine f_stepP rfl rfl rfl (o_move rfl) ?_
   refine f_stepP rfl rfl rfl (o_add rfl rfl _ (wrap_i64 (by omega))) ?_
   refine f_stepP rfl rfl rfl (o_assign rfl) ?_
   refine f_done ?_
   refine f_tn (f_again (i + 1) (by first | omega | (dsimp only; omega) | (simp; omega)) (by omega) ?_ ?_ ?_)
   · exact (by repeat (first | exact trivial | refine ⟨rfl, ?_⟩))
   · exact (by repeat (first | exact trivial | refine ⟨rfl, ?_⟩))
   · repeat (first | exact Sub.nil | refine Sub.pick ?_ | refine Sub.castO rfl ?_ | refine Sub.skip ?_)
  ·
   refine f_exit ?_
   refine f_te ?_
   clear kh6
   refine f_te ?_
   refine f_be ?_
   refine f_tn (kh4 _ _ ?_)
   clear kh4
   refine f_seq fun K10 kh10 => ?_
   refine f_region ?_
   refine f_stepP rfl rfl rfl (o_assign rfl) ?_
   refine f_done ?_
   refine f_tn (kh10 _ _ ?_)
   clear kh10
   refine f_ret ?_
   exact f_fin1 [] Tryz.results19 rfl Sub.nil ⟨rfl, rfl⟩

end Go.Proofs.YtkmkakpadgljeaaGreat

/- flyoverlaw12.CellTells. -/
namespace Go.Proofs.YtkmkakpadgljeaaGreat
open Go Go.RowKit Fly
set_option linter.unusedVariables false
set_option linter.unusedSimpArgs false


theorem ix_same {L : List Int} {c v : Int} {l : List Arc} {i j : Nat} {e : Int} (hi1 : e ≠ 0 → i = 0) (hi0 : e = 0 → (bdL L c l)[i]? = some v) (hj1 : e ≠ 0 → j = 0) (hj0 : e = 0 → (bdL L c l)[j]? = some v) : i = j := by
  by_cases h : e = 0
  · have h1 := hi0 h
    have h2 := hj0 h
    obtain ⟨hj, h3⟩ := List.getElem?_eq_some_iff.1 h2
    have hr := bdL_rising L c l
    obtain ⟨hi, h4⟩ := List.getElem?_eq_some_iff.1 h1
    rcases Nat.lt_trichotomy i j with h5 | h5 | h5
    · have := rise_lt hr h5 hj; omega
    · exact h5
    · have := rise_lt hr h5 hi; omega
  · rw [hi1 h, hj1 h]

set_option maxRecDepth 100000 in
set_option maxHeartbeats 4000000 in
theorem CellTells_spec (N : Int) (A : Option Addr) (l : List Arc) (cap : Nat) (Ab : Option Addr) (bs : List Int) (cb : Nat) (Ac : Option Addr) (R : List Row) (cc : Nat) (q c v : Int) (w : World) (hr : Ro (Fr w []) w A (l.flatMap arcCs)) (hl : l.length ≤ 9223372036854775807) (hN : I64 N) (hok : ∀ x ∈ l, ArcOk x) (hn : NestRo (Fr w []) w Ab bs Ac R) (hz : l.length * 24 ≤ 140737488351232) (hzb : bs.length * 8 ≤ 140737488351232) (hzc : R.length * 24 ≤ 140737488351232) (hzr : ∀ r ∈ R, r.2.1.length * 8 ≤ 140737488351232) :
    Meets Tryz.prog 3 [.agg #[.int .i64 N, .slice A l.length cap], .agg #[.slice Ab bs.length cb, .slice Ac R.length cc], .agg #[.int .i64 q, .int .i64 c, .int .i64 v]] w [] (fun u m => u = .bool true ∧ m = []) := by
 refine f_enter Tryz.func3 rfl Tryz.ntmps3 rfl Owns.nil ?_
 refine f_seq fun K1 kh1 => ?_
 refine f_region ?_
 refine f_step rfl rfl rfl (o_box rfl rfl fun b3 => ?_)
 refine f_step rfl rfl rfl (o_box rfl rfl fun b4 => ?_)
 refine f_step rfl rfl rfl (o_box rfl rfl fun b5 => ?_)
 refine f_stepP rfl rfl rfl (o_assign rfl) ?_
 refine f_done ?_
 refine f_tn (kh1 _ _ ?_)
 clear kh1
 refine f_seq fun K2 kh2 => ?_
 refine f_seq fun K3 kh3 => ?_
 refine f_region ?_
 refine f_stepP rfl rfl rfl (o_loadA (vs := [_, _]) Tryz.isAgg24 Tryz.sizeOf24 rfl rfl ⟨(rdA rfl), (rdA rfl), trivial⟩) ?_
 refine f_step rfl rfl rfl (o_call Tryz.call4 rfl (fun w_ hp_ => large_spec N A l cap w_ (hr.up0 hp_) hl hN hok) ?_)
 rintro _ _ ⟨bL, rfl, rfl⟩
 dsimp only [List.cons_append, List.nil_append]
 refine f_done ?_
 refine f_tn (kh3 _ _ ?_)
 clear kh3
 refine f_condB rfl (fun c22 => ?_) (fun c22 => ?_)
 ·
  refine f_seq fun K4 kh4 => ?_
  refine f_region ?_
  refine f_step rfl rfl rfl (o_call Tryz.call5 rfl (fun w_ hp_ => works_spec w_) ?_)
  rintro _ _ ⟨rfl, rfl⟩
  dsimp only [List.cons_append, List.nil_append]
  refine f_stepP rfl rfl rfl (o_assign rfl) ?_
  refine f_done ?_
  refine f_tn (kh4 _ _ ?_)
  clear kh4
  refine f_ret ?_
  refine f_tr ?_
  exact f_fin1 [] Tryz.results3 rfl Sub.nil ⟨rfl, rfl⟩
 ·
  refine f_skip ?_
  refine f_tn (kh2 _ _ ?_)
  clear kh2
  refine f_meet (α := (Nat × Nat) × (Nat × Nat × List Value) × (List Row × Option Addr × Nat × Option Addr × Nat × Seg × Seg × List Seg)) [3, 4, 5] (fun ⟨⟨b7, b8⟩, ⟨bg, cg, rg⟩, ⟨R1, A1, c1, A2, c2, mb, mc, ms⟩⟩ => [(7, .pointer (some ⟨b7, 0, none⟩)), (8, .pointer (some ⟨b8, 0, none⟩))]) (fun ⟨⟨b7, b8⟩, ⟨bg, cg, rg⟩, ⟨R1, A1, c1, A2, c2, mb, mc, ms⟩⟩ => [[(b7, blk [.int .i64 N, .slice (some ⟨bg, 0, none⟩) l.length cg] 24)], [(b8, blk [.slice A1 bs.length c1, .slice A2 R1.length c2] 28)], [(bg, blk (l.flatMap arcCs ++ (arcCs mark ++ rg)) 48)], mb, mc, ms.flatten, [(b3, blk [.int .i64 N, .slice A l.length cap] 24)], [(b4, blk [.slice Ab bs.length cb, .slice Ac R.length cc] 28)], [(b5, blk [.int .i64 q, .int .i64 c, .int .i64 v] 30)]]) (fun ⟨⟨b7, b8⟩, ⟨bg, cg, rg⟩, ⟨R1, A1, c1, A2, c2, mb, mc, ms⟩⟩ => (l.length + 1 ≤ cg ∧ cg ≤ 9223372036854775807) ∧ Own 3 1 (.slice A1 bs.length c1) bs.length (ints bs) mb ∧ Own 25 1 (.slice A2 R1.length c2) R1.length (R1.map rowV) mc ∧ RowsI 3 (rowsL R1) (R1.map rowV) ms ∧ rowsL R1 = rowsL R) ?_ ?_
  ·
   intro K5 kh5
   refine f_regionH [[(b3, blk [.int .i64 N, .slice A l.length cap] 24)], [(b4, blk [.slice Ab bs.length cb, .slice Ac R.length cc] 28)], [(b5, blk [.int .i64 q, .int .i64 c, .int .i64 v] 30)]] rfl ?_
   refine f_take 0 rfl (by decide +kernel) rfl rfl rfl (by repeat (first | exact Sub.nil | refine Sub.pick ?_ | refine Sub.castO rfl ?_ | refine Sub.skip ?_)) (o_loadA (vs := [_, _]) Tryz.isAgg24 Tryz.sizeOf24 rfl rfl ⟨(rdA rfl), (rdA rfl), trivial⟩) ?_
   refine f_take 2 rfl (by decide +kernel) rfl rfl rfl (by repeat (first | exact Sub.nil | refine Sub.pick ?_ | refine Sub.castO rfl ?_ | refine Sub.skip ?_)) (o_loadA (vs := [_, _]) Tryz.isAgg28 Tryz.sizeOf28 rfl rfl ⟨(rdA rfl), (rdA rfl), trivial⟩) ?_
   refine f_three 1 4 5 rfl rfl rfl (by decide +kernel) rfl rfl rfl rfl rfl rfl rfl rfl rfl ?_ ?_ ?_
   ·
    refine (o_call Tryz.call6 rfl (fun w_ hp_ => LendGraph_spec N A l cap w_ (hr.up0 hp_) hz) ?_)
    rintro _ _ ⟨bg, cg, rg, rfl, rfl, hg1, hg2⟩
    dsimp only [List.cons_append, List.nil_append]
    refine ⟨(by repeat (first | exact Sub.nil | refine Sub.pick ?_ | refine Sub.castO rfl ?_ | refine Sub.skip ?_)), ?_⟩
    refine f_three 3 4 5 rfl rfl rfl (by decide +kernel) rfl rfl rfl rfl rfl rfl rfl rfl rfl ?_ ?_ ?_
    ·
     refine (o_call Tryz.call7 rfl (fun w_ hp_ => CopyNest_spec Ab bs cb Ac R cc w_ (hn.up0 hp_) hzb hzc hzr) ?_)
     rintro _ _ ⟨R1, A1, c1, A2, c2, mb, mc, ms, rfl, rfl, hob, hoc, hRI, hRL⟩
     dsimp only [List.cons_append, List.nil_append]
     refine ⟨(by repeat (first | exact Sub.nil | refine Sub.pick ?_ | refine Sub.castO rfl ?_ | refine Sub.skip ?_)), ?_⟩
     refine f_two 4 5 rfl rfl (by decide +kernel) rfl rfl rfl rfl rfl rfl ?_ ?_
     ·
      refine (o_alloc Tryz.zeroValue24 rfl fun b7 => ⟨(by repeat (first | exact Sub.nil | refine Sub.pick ?_ | refine Sub.castO rfl ?_ | refine Sub.skip ?_)), ?_⟩)
      refine f_only 5 rfl (by decide +kernel) rfl rfl rfl (o_alloc Tryz.zeroValue28 rfl fun b8 => ⟨(by repeat (first | exact Sub.nil | refine Sub.pick ?_ | refine Sub.castO rfl ?_ | refine Sub.skip ?_)), ?_⟩)
      refine f_only0 6 rfl (by decide +kernel) rfl rfl (o_storeA Tryz.sizeOf24 rfl rfl rfl rfl (by first | exact Nat.le_of_ble_eq_true rfl | (simp; done) | (simp; omega)) [.int .i64 N, .slice (some ⟨bg, 0, none⟩) l.length cg] rfl ⟨(by repeat (first | exact Sub.nil | refine Sub.pick ?_ | refine Sub.castO rfl ?_ | refine Sub.skip ?_)), ?_⟩)
      refine f_only0 7 rfl (by decide +kernel) rfl rfl (o_storeA Tryz.sizeOf28 rfl rfl rfl rfl (by first | exact Nat.le_of_ble_eq_true rfl | (simp; done) | (simp; omega)) [.slice A1 bs.length c1, .slice A2 R1.length c2] rfl ⟨(by repeat (first | exact Sub.nil | refine Sub.pick ?_ | refine Sub.castO rfl ?_ | refine Sub.skip ?_)), ?_⟩)
      refine f_over (by decide +kernel) ?_
      refine f_tn (kh5 _ _ ((b7, b8), (bg, cg, rg), (R1, A1, c1, A2, c2, mb, mc, ms)) ⟨⟨hg1, hg2⟩, hob, hoc, hRI, hRL⟩ ?_ ?_ ?_)
      · exact (by repeat (first | exact trivial | refine ⟨rfl, ?_⟩))
      · exact (by repeat (first | exact trivial | refine ⟨rfl, ?_⟩))
      · repeat (first | exact Sub.nil | refine Sub.pick ?_ | refine Sub.castO rfl ?_ | refine Sub.skip ?_)
     ·
      refine (o_alloc Tryz.zeroValue28 rfl fun b8 => ⟨(by repeat (first | exact Sub.nil | refine Sub.pick ?_ | refine Sub.castO rfl ?_ | refine Sub.skip ?_)), ?_⟩)
      refine f_only 4 rfl (by decide +kernel) rfl rfl rfl (o_alloc Tryz.zeroValue24 rfl fun b7 => ⟨(by repeat (first | exact Sub.nil | refine Sub.pick ?_ | refine Sub.castO rfl ?_ | refine Sub.skip ?_)), ?_⟩)
      refine f_only0 6 rfl (by decide +kernel) rfl rfl (o_storeA Tryz.sizeOf24 rfl rfl rfl rfl (by first | exact Nat.le_of_ble_eq_true rfl | (simp; done) | (simp; omega)) [.int .i64 N, .slice (some ⟨bg, 0, none⟩) l.length cg] rfl ⟨(by repeat (first | exact Sub.nil | refine Sub.pick ?_ | refine Sub.castO rfl ?_ | refine Sub.skip ?_)), ?_⟩)
      refine f_only0 7 rfl (by decide +kernel) rfl rfl (o_storeA Tryz.sizeOf28 rfl rfl rfl rfl (by first | exact Nat.le_of_ble_eq_true rfl | (simp; done) | (simp; omega)) [.slice A1 bs.length c1, .slice A2 R1.length c2] rfl ⟨(by repeat (first | exact Sub.nil | refine Sub.pick ?_ | refine Sub.castO rfl ?_ | refine Sub.skip ?_)), ?_⟩)
      refine f_over (by decide +kernel) ?_
      refine f_tn (kh5 _ _ ((b7, b8), (bg, cg, rg), (R1, A1, c1, A2, c2, mb, mc, ms)) ⟨⟨hg1, hg2⟩, hob, hoc, hRI, hRL⟩ ?_ ?_ ?_)
      · exact (by repeat (first | exact trivial | refine ⟨rfl, ?_⟩))
      · exact (by repeat (first | exact trivial | refine ⟨rfl, ?_⟩))
      · repeat (first | exact Sub.nil | refine Sub.pick ?_ | refine Sub.castO rfl ?_ | refine Sub.skip ?_)
    ·
     refine (o_alloc Tryz.zeroValue24 rfl fun b7 => ⟨(by repeat (first | exact Sub.nil | refine Sub.pick ?_ | refine Sub.castO rfl ?_ | refine Sub.skip ?_)), ?_⟩)
     refine f_two 3 5 rfl rfl (by decide +kernel) rfl rfl rfl rfl rfl rfl ?_ ?_
     ·
      refine (o_call Tryz.call7 rfl (fun w_ hp_ => CopyNest_spec Ab bs cb Ac R cc w_ (hn.up0 hp_) hzb hzc hzr) ?_)
      rintro _ _ ⟨R1, A1, c1, A2, c2, mb, mc, ms, rfl, rfl, hob, hoc, hRI, hRL⟩
      dsimp only [List.cons_append, List.nil_append]
      refine ⟨(by repeat (first | exact Sub.nil | refine Sub.pick ?_ | refine Sub.castO rfl ?_ | refine Sub.skip ?_)), ?_⟩
      refine f_only 5 rfl (by decide +kernel) rfl rfl rfl (o_alloc Tryz.zeroValue28 rfl fun b8 => ⟨(by repeat (first | exact Sub.nil | refine Sub.pick ?_ | refine Sub.castO rfl ?_ | refine Sub.skip ?_)), ?_⟩)
      refine f_only0 6 rfl (by decide +kernel) rfl rfl (o_storeA Tryz.sizeOf24 rfl rfl rfl rfl (by first | exact Nat.le_of_ble_eq_true rfl | (simp; done) | (simp; omega)) [.int .i64 N, .slice (some ⟨bg, 0, none⟩) l.length cg] rfl ⟨(by repeat (first | exact Sub.nil | refine Sub.pick ?_ | refine Sub.castO rfl ?_ | refine Sub.skip ?_)), ?_⟩)
      refine f_only0 7 rfl (by decide +kernel) rfl rfl (o_storeA Tryz.sizeOf28 rfl rfl rfl rfl (by first | exact Nat.le_of_ble_eq_true rfl | (simp; done) | (simp; omega)) [.slice A1 bs.length c1, .slice A2 R1.length c2] rfl ⟨(by repeat (first | exact Sub.nil | refine Sub.pick ?_ | refine Sub.castO rfl ?_ | refine Sub.skip ?_)), ?_⟩)
      refine f_over (by decide +kernel) ?_
      refine f_tn (kh5 _ _ ((b7, b8), (bg, cg, rg), (R1, A1, c1, A2, c2, mb, mc, ms)) ⟨⟨hg1, hg2⟩, hob, hoc, hRI, hRL⟩ ?_ ?_ ?_)
      · exact (by repeat (first | exact trivial | refine ⟨rfl, ?_⟩))
      · exact (by repeat (first | exact trivial | refine ⟨rfl, ?_⟩))
      · repeat (first | exact Sub.nil | refine Sub.pick ?_ | refine Sub.castO rfl ?_ | refine Sub.skip ?_)
     ·
      refine (o_alloc Tryz.zeroValue28 rfl fun b8 => ⟨(by repeat (first | exact Sub.nil | refine Sub.pick ?_ | refine Sub.castO rfl ?_ | refine Sub.skip ?_)), ?_⟩)
      refine f_only 3 rfl (by decide +kernel) rfl rfl rfl (o_call Tryz.call7 rfl (fun w_ hp_ => CopyNest_spec Ab bs cb Ac R cc w_ (hn.up0 hp_) hzb hzc hzr) ?_)
      rintro _ _ ⟨R1, A1, c1, A2, c2, mb, mc, ms, rfl, rfl, hob, hoc, hRI, hRL⟩
      dsimp only [List.cons_append, List.nil_append]
      refine ⟨(by repeat (first | exact Sub.nil | refine Sub.pick ?_ | refine Sub.castO rfl ?_ | refine Sub.skip ?_)), ?_⟩
      refine f_only0 6 rfl (by decide +kernel) rfl rfl (o_storeA Tryz.sizeOf24 rfl rfl rfl rfl (by first | exact Nat.le_of_ble_eq_true rfl | (simp; done) | (simp; omega)) [.int .i64 N, .slice (some ⟨bg, 0, none⟩) l.length cg] rfl ⟨(by repeat (first | exact Sub.nil | refine Sub.pick ?_ | refine Sub.castO rfl ?_ | refine Sub.skip ?_)), ?_⟩)
      refine f_only0 7 rfl (by decide +kernel) rfl rfl (o_storeA Tryz.sizeOf28 rfl rfl rfl rfl (by first | exact Nat.le_of_ble_eq_true rfl | (simp; done) | (simp; omega)) [.slice A1 bs.length c1, .slice A2 R1.length c2] rfl ⟨(by repeat (first | exact Sub.nil | refine Sub.pick ?_ | refine Sub.castO rfl ?_ | refine Sub.skip ?_)), ?_⟩)
      refine f_over (by decide +kernel) ?_
      refine f_tn (kh5 _ _ ((b7, b8), (bg, cg, rg), (R1, A1, c1, A2, c2, mb, mc, ms)) ⟨⟨hg1, hg2⟩, hob, hoc, hRI, hRL⟩ ?_ ?_ ?_)
      · exact (by repeat (first | exact trivial | refine ⟨rfl, ?_⟩))
      · exact (by repeat (first | exact trivial | refine ⟨rfl, ?_⟩))
      · repeat (first | exact Sub.nil | refine Sub.pick ?_ | refine Sub.castO rfl ?_ | refine Sub.skip ?_)
    ·
     refine (o_alloc Tryz.zeroValue28 rfl fun b8 => ⟨(by repeat (first | exact Sub.nil | refine Sub.pick ?_ | refine Sub.castO rfl ?_ | refine Sub.skip ?_)), ?_⟩)
     refine f_two 3 4 rfl rfl (by decide +kernel) rfl rfl rfl rfl rfl rfl ?_ ?_
     ·
      refine (o_call Tryz.call7 rfl (fun w_ hp_ => CopyNest_spec Ab bs cb Ac R cc w_ (hn.up0 hp_) hzb hzc hzr) ?_)
      rintro _ _ ⟨R1, A1, c1, A2, c2, mb, mc, ms, rfl, rfl, hob, hoc, hRI, hRL⟩
      dsimp only [List.cons_append, List.nil_append]
      refine ⟨(by repeat (first | exact Sub.nil | refine Sub.pick ?_ | refine Sub.castO rfl ?_ | refine Sub.skip ?_)), ?_⟩
      refine f_only 4 rfl (by decide +kernel) rfl rfl rfl (o_alloc Tryz.zeroValue24 rfl fun b7 => ⟨(by repeat (first | exact Sub.nil | refine Sub.pick ?_ | refine Sub.castO rfl ?_ | refine Sub.skip ?_)), ?_⟩)
      refine f_only0 6 rfl (by decide +kernel) rfl rfl (o_storeA Tryz.sizeOf24 rfl rfl rfl rfl (by first | exact Nat.le_of_ble_eq_true rfl | (simp; done) | (simp; omega)) [.int .i64 N, .slice (some ⟨bg, 0, none⟩) l.length cg] rfl ⟨(by repeat (first | exact Sub.nil | refine Sub.pick ?_ | refine Sub.castO rfl ?_ | refine Sub.skip ?_)), ?_⟩)
      refine f_only0 7 rfl (by decide +kernel) rfl rfl (o_storeA Tryz.sizeOf28 rfl rfl rfl rfl (by first | exact Nat.le_of_ble_eq_true rfl | (simp; done) | (simp; omega)) [.slice A1 bs.length c1, .slice A2 R1.length c2] rfl ⟨(by repeat (first | exact Sub.nil | refine Sub.pick ?_ | refine Sub.castO rfl ?_ | refine Sub.skip ?_)), ?_⟩)
      refine f_over (by decide +kernel) ?_
      refine f_tn (kh5 _ _ ((b7, b8), (bg, cg, rg), (R1, A1, c1, A2, c2, mb, mc, ms)) ⟨⟨hg1, hg2⟩, hob, hoc, hRI, hRL⟩ ?_ ?_ ?_)
      · exact (by repeat (first | exact trivial | refine ⟨rfl, ?_⟩))
      · exact (by repeat (first | exact trivial | refine ⟨rfl, ?_⟩))
      · repeat (first | exact Sub.nil | refine Sub.pick ?_ | refine Sub.castO rfl ?_ | refine Sub.skip ?_)
     ·
      refine (o_alloc Tryz.zeroValue24 rfl fun b7 => ⟨(by repeat (first | exact Sub.nil | refine Sub.pick ?_ | refine Sub.castO rfl ?_ | refine Sub.skip ?_)), ?_⟩)
      refine f_only 3 rfl (by decide +kernel) rfl rfl rfl (o_call Tryz.call7 rfl (fun w_ hp_ => CopyNest_spec Ab bs cb Ac R cc w_ (hn.up0 hp_) hzb hzc hzr) ?_)
      rintro _ _ ⟨R1, A1, c1, A2, c2, mb, mc, ms, rfl, rfl, hob, hoc, hRI, hRL⟩
      dsimp only [List.cons_append, List.nil_append]
      refine ⟨(by repeat (first | exact Sub.nil | refine Sub.pick ?_ | refine Sub.castO rfl ?_ | refine Sub.skip ?_)), ?_⟩
      refine f_only0 6 rfl (by decide +kernel) rfl rfl (o_storeA Tryz.sizeOf24 rfl rfl rfl rfl (by first | exact Nat.le_of_ble_eq_true rfl | (simp; done) | (simp; omega)) [.int .i64 N, .slice (some ⟨bg, 0, none⟩) l.length cg] rfl ⟨(by repeat (first | exact Sub.nil | refine Sub.pick ?_ | refine Sub.castO rfl ?_ | refine Sub.skip ?_)), ?_⟩)
      refine f_only0 7 rfl (by decide +kernel) rfl rfl (o_storeA Tryz.sizeOf28 rfl rfl rfl rfl (by first | exact Nat.le_of_ble_eq_true rfl | (simp; done) | (simp; omega)) [.slice A1 bs.length c1, .slice A2 R1.length c2] rfl ⟨(by repeat (first | exact Sub.nil | refine Sub.pick ?_ | refine Sub.castO rfl ?_ | refine Sub.skip ?_)), ?_⟩)
      refine f_over (by decide +kernel) ?_
      refine f_tn (kh5 _ _ ((b7, b8), (bg, cg, rg), (R1, A1, c1, A2, c2, mb, mc, ms)) ⟨⟨hg1, hg2⟩, hob, hoc, hRI, hRL⟩ ?_ ?_ ?_)
      · exact (by repeat (first | exact trivial | refine ⟨rfl, ?_⟩))
      · exact (by repeat (first | exact trivial | refine ⟨rfl, ?_⟩))
      · repeat (first | exact Sub.nil | refine Sub.pick ?_ | refine Sub.castO rfl ?_ | refine Sub.skip ?_)
   ·
    refine (o_alloc Tryz.zeroValue24 rfl fun b7 => ⟨(by repeat (first | exact Sub.nil | refine Sub.pick ?_ | refine Sub.castO rfl ?_ | refine Sub.skip ?_)), ?_⟩)
    refine f_two 1 5 rfl rfl (by decide +kernel) rfl rfl rfl rfl rfl rfl ?_ ?_
    ·
     refine (o_call Tryz.call6 rfl (fun w_ hp_ => LendGraph_spec N A l cap w_ (hr.up0 hp_) hz) ?_)
     rintro _ _ ⟨bg, cg, rg, rfl, rfl, hg1, hg2⟩
     dsimp only [List.cons_append, List.nil_append]
     refine ⟨(by repeat (first | exact Sub.nil | refine Sub.pick ?_ | refine Sub.castO rfl ?_ | refine Sub.skip ?_)), ?_⟩
     refine f_two 3 5 rfl rfl (by decide +kernel) rfl rfl rfl rfl rfl rfl ?_ ?_
     ·
      refine (o_call Tryz.call7 rfl (fun w_ hp_ => CopyNest_spec Ab bs cb Ac R cc w_ (hn.up0 hp_) hzb hzc hzr) ?_)
      rintro _ _ ⟨R1, A1, c1, A2, c2, mb, mc, ms, rfl, rfl, hob, hoc, hRI, hRL⟩
      dsimp only [List.cons_append, List.nil_append]
      refine ⟨(by repeat (first | exact Sub.nil | refine Sub.pick ?_ | refine Sub.castO rfl ?_ | refine Sub.skip ?_)), ?_⟩
      refine f_only 5 rfl (by decide +kernel) rfl rfl rfl (o_alloc Tryz.zeroValue28 rfl fun b8 => ⟨(by repeat (first | exact Sub.nil | refine Sub.pick ?_ | refine Sub.castO rfl ?_ | refine Sub.skip ?_)), ?_⟩)
      refine f_only0 6 rfl (by decide +kernel) rfl rfl (o_storeA Tryz.sizeOf24 rfl rfl rfl rfl (by first | exact Nat.le_of_ble_eq_true rfl | (simp; done) | (simp; omega)) [.int .i64 N, .slice (some ⟨bg, 0, none⟩) l.length cg] rfl ⟨(by repeat (first | exact Sub.nil | refine Sub.pick ?_ | refine Sub.castO rfl ?_ | refine Sub.skip ?_)), ?_⟩)
      refine f_only0 7 rfl (by decide +kernel) rfl rfl (o_storeA Tryz.sizeOf28 rfl rfl rfl rfl (by first | exact Nat.le_of_ble_eq_true rfl | (simp; done) | (simp; omega)) [.slice A1 bs.length c1, .slice A2 R1.length c2] rfl ⟨(by repeat (first | exact Sub.nil | refine Sub.pick ?_ | refine Sub.castO rfl ?_ | refine Sub.skip ?_)), ?_⟩)
      refine f_over (by decide +kernel) ?_
      refine f_tn (kh5 _ _ ((b7, b8), (bg, cg, rg), (R1, A1, c1, A2, c2, mb, mc, ms)) ⟨⟨hg1, hg2⟩, hob, hoc, hRI, hRL⟩ ?_ ?_ ?_)
      · exact (by repeat (first | exact trivial | refine ⟨rfl, ?_⟩))
      · exact (by repeat (first | exact trivial | refine ⟨rfl, ?_⟩))
      · repeat (first | exact Sub.nil | refine Sub.pick ?_ | refine Sub.castO rfl ?_ | refine Sub.skip ?_)
     ·
      refine (o_alloc Tryz.zeroValue28 rfl fun b8 => ⟨(by repeat (first | exact Sub.nil | refine Sub.pick ?_ | refine Sub.castO rfl ?_ | refine Sub.skip ?_)), ?_⟩)
      refine f_only 3 rfl (by decide +kernel) rfl rfl rfl (o_call Tryz.call7 rfl (fun w_ hp_ => CopyNest_spec Ab bs cb Ac R cc w_ (hn.up0 hp_) hzb hzc hzr) ?_)
      rintro _ _ ⟨R1, A1, c1, A2, c2, mb, mc, ms, rfl, rfl, hob, hoc, hRI, hRL⟩
      dsimp only [List.cons_append, List.nil_append]
      refine ⟨(by repeat (first | exact Sub.nil | refine Sub.pick ?_ | refine Sub.castO rfl ?_ | refine Sub.skip ?_)), ?_⟩
      refine f_only0 6 rfl (by decide +kernel) rfl rfl (o_storeA Tryz.sizeOf24 rfl rfl rfl rfl (by first | exact Nat.le_of_ble_eq_true rfl | (simp; done) | (simp; omega)) [.int .i64 N, .slice (some ⟨bg, 0, none⟩) l.length cg] rfl ⟨(by repeat (first | exact Sub.nil | refine Sub.pick ?_ | refine Sub.castO rfl ?_ | refine Sub.skip ?_)), ?_⟩)
      refine f_only0 7 rfl (by decide +kernel) rfl rfl (o_storeA Tryz.sizeOf28 rfl rfl rfl rfl (by first | exact Nat.le_of_ble_eq_true rfl | (simp; done) | (simp; omega)) [.slice A1 bs.length c1, .slice A2 R1.length c2] rfl ⟨(by repeat (first | exact Sub.nil | refine Sub.pick ?_ | refine Sub.castO rfl ?_ | refine Sub.skip ?_)), ?_⟩)
      refine f_over (by decide +kernel) ?_
      refine f_tn (kh5 _ _ ((b7, b8), (bg, cg, rg), (R1, A1, c1, A2, c2, mb, mc, ms)) ⟨⟨hg1, hg2⟩, hob, hoc, hRI, hRL⟩ ?_ ?_ ?_)
      · exact (by repeat (first | exact trivial | refine ⟨rfl, ?_⟩))
      · exact (by repeat (first | exact trivial | refine ⟨rfl, ?_⟩))
      · repeat (first | exact Sub.nil | refine Sub.pick ?_ | refine Sub.castO rfl ?_ | refine Sub.skip ?_)
    ·
     refine (o_alloc Tryz.zeroValue28 rfl fun b8 => ⟨(by repeat (first | exact Sub.nil | refine Sub.pick ?_ | refine Sub.castO rfl ?_ | refine Sub.skip ?_)), ?_⟩)
     refine f_only 1 rfl (by decide +kernel) rfl rfl rfl (o_call Tryz.call6 rfl (fun w_ hp_ => LendGraph_spec N A l cap w_ (hr.up0 hp_) hz) ?_)
     rintro _ _ ⟨bg, cg, rg, rfl, rfl, hg1, hg2⟩
     dsimp only [List.cons_append, List.nil_append]
     refine ⟨(by repeat (first | exact Sub.nil | refine Sub.pick ?_ | refine Sub.castO rfl ?_ | refine Sub.skip ?_)), ?_⟩
     refine f_only 3 rfl (by decide +kernel) rfl rfl rfl (o_call Tryz.call7 rfl (fun w_ hp_ => CopyNest_spec Ab bs cb Ac R cc w_ (hn.up0 hp_) hzb hzc hzr) ?_)
     rintro _ _ ⟨R1, A1, c1, A2, c2, mb, mc, ms, rfl, rfl, hob, hoc, hRI, hRL⟩
     dsimp only [List.cons_append, List.nil_append]
     refine ⟨(by repeat (first | exact Sub.nil | refine Sub.pick ?_ | refine Sub.castO rfl ?_ | refine Sub.skip ?_)), ?_⟩
     refine f_only0 6 rfl (by decide +kernel) rfl rfl (o_storeA Tryz.sizeOf24 rfl rfl rfl rfl (by first | exact Nat.le_of_ble_eq_true rfl | (simp; done) | (simp; omega)) [.int .i64 N, .slice (some ⟨bg, 0, none⟩) l.length cg] rfl ⟨(by repeat (first | exact Sub.nil | refine Sub.pick ?_ | refine Sub.castO rfl ?_ | refine Sub.skip ?_)), ?_⟩)
     refine f_only0 7 rfl (by decide +kernel) rfl rfl (o_storeA Tryz.sizeOf28 rfl rfl rfl rfl (by first | exact Nat.le_of_ble_eq_true rfl | (simp; done) | (simp; omega)) [.slice A1 bs.length c1, .slice A2 R1.length c2] rfl ⟨(by repeat (first | exact Sub.nil | refine Sub.pick ?_ | refine Sub.castO rfl ?_ | refine Sub.skip ?_)), ?_⟩)
     refine f_over (by decide +kernel) ?_
     refine f_tn (kh5 _ _ ((b7, b8), (bg, cg, rg), (R1, A1, c1, A2, c2, mb, mc, ms)) ⟨⟨hg1, hg2⟩, hob, hoc, hRI, hRL⟩ ?_ ?_ ?_)
     · exact (by repeat (first | exact trivial | refine ⟨rfl, ?_⟩))
     · exact (by repeat (first | exact trivial | refine ⟨rfl, ?_⟩))
     · repeat (first | exact Sub.nil | refine Sub.pick ?_ | refine Sub.castO rfl ?_ | refine Sub.skip ?_)
   ·
    refine (o_alloc Tryz.zeroValue28 rfl fun b8 => ⟨(by repeat (first | exact Sub.nil | refine Sub.pick ?_ | refine Sub.castO rfl ?_ | refine Sub.skip ?_)), ?_⟩)
    refine f_two 1 4 rfl rfl (by decide +kernel) rfl rfl rfl rfl rfl rfl ?_ ?_
    ·
     refine (o_call Tryz.call6 rfl (fun w_ hp_ => LendGraph_spec N A l cap w_ (hr.up0 hp_) hz) ?_)
     rintro _ _ ⟨bg, cg, rg, rfl, rfl, hg1, hg2⟩
     dsimp only [List.cons_append, List.nil_append]
     refine ⟨(by repeat (first | exact Sub.nil | refine Sub.pick ?_ | refine Sub.castO rfl ?_ | refine Sub.skip ?_)), ?_⟩
     refine f_two 3 4 rfl rfl (by decide +kernel) rfl rfl rfl rfl rfl rfl ?_ ?_
     ·
      refine (o_call Tryz.call7 rfl (fun w_ hp_ => CopyNest_spec Ab bs cb Ac R cc w_ (hn.up0 hp_) hzb hzc hzr) ?_)
      rintro _ _ ⟨R1, A1, c1, A2, c2, mb, mc, ms, rfl, rfl, hob, hoc, hRI, hRL⟩
      dsimp only [List.cons_append, List.nil_append]
      refine ⟨(by repeat (first | exact Sub.nil | refine Sub.pick ?_ | refine Sub.castO rfl ?_ | refine Sub.skip ?_)), ?_⟩
      refine f_only 4 rfl (by decide +kernel) rfl rfl rfl (o_alloc Tryz.zeroValue24 rfl fun b7 => ⟨(by repeat (first | exact Sub.nil | refine Sub.pick ?_ | refine Sub.castO rfl ?_ | refine Sub.skip ?_)), ?_⟩)
      refine f_only0 6 rfl (by decide +kernel) rfl rfl (o_storeA Tryz.sizeOf24 rfl rfl rfl rfl (by first | exact Nat.le_of_ble_eq_true rfl | (simp; done) | (simp; omega)) [.int .i64 N, .slice (some ⟨bg, 0, none⟩) l.length cg] rfl ⟨(by repeat (first | exact Sub.nil | refine Sub.pick ?_ | refine Sub.castO rfl ?_ | refine Sub.skip ?_)), ?_⟩)
      refine f_only0 7 rfl (by decide +kernel) rfl rfl (o_storeA Tryz.sizeOf28 rfl rfl rfl rfl (by first | exact Nat.le_of_ble_eq_true rfl | (simp; done) | (simp; omega)) [.slice A1 bs.length c1, .slice A2 R1.length c2] rfl ⟨(by repeat (first | exact Sub.nil | refine Sub.pick ?_ | refine Sub.castO rfl ?_ | refine Sub.skip ?_)), ?_⟩)
      refine f_over (by decide +kernel) ?_
      refine f_tn (kh5 _ _ ((b7, b8), (bg, cg, rg), (R1, A1, c1, A2, c2, mb, mc, ms)) ⟨⟨hg1, hg2⟩, hob, hoc, hRI, hRL⟩ ?_ ?_ ?_)
      · exact (by repeat (first | exact trivial | refine ⟨rfl, ?_⟩))
      · exact (by repeat (first | exact trivial | refine ⟨rfl, ?_⟩))
      · repeat (first | exact Sub.nil | refine Sub.pick ?_ | refine Sub.castO rfl ?_ | refine Sub.skip ?_)
     ·
      refine (o_alloc Tryz.zeroValue24 rfl fun b7 => ⟨(by repeat (first | exact Sub.nil | refine Sub.pick ?_ | refine Sub.castO rfl ?_ | refine Sub.skip ?_)), ?_⟩)
      refine f_only 3 rfl (by decide +kernel) rfl rfl rfl (o_call Tryz.call7 rfl (fun w_ hp_ => CopyNest_spec Ab bs cb Ac R cc w_ (hn.up0 hp_) hzb hzc hzr) ?_)
      rintro _ _ ⟨R1, A1, c1, A2, c2, mb, mc, ms, rfl, rfl, hob, hoc, hRI, hRL⟩
      dsimp only [List.cons_append, List.nil_append]
      refine ⟨(by repeat (first | exact Sub.nil | refine Sub.pick ?_ | refine Sub.castO rfl ?_ | refine Sub.skip ?_)), ?_⟩
      refine f_only0 6 rfl (by decide +kernel) rfl rfl (o_storeA Tryz.sizeOf24 rfl rfl rfl rfl (by first | exact Nat.le_of_ble_eq_true rfl | (simp; done) | (simp; omega)) [.int .i64 N, .slice (some ⟨bg, 0, none⟩) l.length cg] rfl ⟨(by repeat (first | exact Sub.nil | refine Sub.pick ?_ | refine Sub.castO rfl ?_ | refine Sub.skip ?_)), ?_⟩)
      refine f_only0 7 rfl (by decide +kernel) rfl rfl (o_storeA Tryz.sizeOf28 rfl rfl rfl rfl (by first | exact Nat.le_of_ble_eq_true rfl | (simp; done) | (simp; omega)) [.slice A1 bs.length c1, .slice A2 R1.length c2] rfl ⟨(by repeat (first | exact Sub.nil | refine Sub.pick ?_ | refine Sub.castO rfl ?_ | refine Sub.skip ?_)), ?_⟩)
      refine f_over (by decide +kernel) ?_
      refine f_tn (kh5 _ _ ((b7, b8), (bg, cg, rg), (R1, A1, c1, A2, c2, mb, mc, ms)) ⟨⟨hg1, hg2⟩, hob, hoc, hRI, hRL⟩ ?_ ?_ ?_)
      · exact (by repeat (first | exact trivial | refine ⟨rfl, ?_⟩))
      · exact (by repeat (first | exact trivial | refine ⟨rfl, ?_⟩))
      · repeat (first | exact Sub.nil | refine Sub.pick ?_ | refine Sub.castO rfl ?_ | refine Sub.skip ?_)
    ·
     refine (o_alloc Tryz.zeroValue24 rfl fun b7 => ⟨(by repeat (first | exact Sub.nil | refine Sub.pick ?_ | refine Sub.castO rfl ?_ | refine Sub.skip ?_)), ?_⟩)
     refine f_only 1 rfl (by decide +kernel) rfl rfl rfl (o_call Tryz.call6 rfl (fun w_ hp_ => LendGraph_spec N A l cap w_ (hr.up0 hp_) hz) ?_)
     rintro _ _ ⟨bg, cg, rg, rfl, rfl, hg1, hg2⟩
     dsimp only [List.cons_append, List.nil_append]
     refine ⟨(by repeat (first | exact Sub.nil | refine Sub.pick ?_ | refine Sub.castO rfl ?_ | refine Sub.skip ?_)), ?_⟩
     refine f_only 3 rfl (by decide +kernel) rfl rfl rfl (o_call Tryz.call7 rfl (fun w_ hp_ => CopyNest_spec Ab bs cb Ac R cc w_ (hn.up0 hp_) hzb hzc hzr) ?_)
     rintro _ _ ⟨R1, A1, c1, A2, c2, mb, mc, ms, rfl, rfl, hob, hoc, hRI, hRL⟩
     dsimp only [List.cons_append, List.nil_append]
     refine ⟨(by repeat (first | exact Sub.nil | refine Sub.pick ?_ | refine Sub.castO rfl ?_ | refine Sub.skip ?_)), ?_⟩
     refine f_only0 6 rfl (by decide +kernel) rfl rfl (o_storeA Tryz.sizeOf24 rfl rfl rfl rfl (by first | exact Nat.le_of_ble_eq_true rfl | (simp; done) | (simp; omega)) [.int .i64 N, .slice (some ⟨bg, 0, none⟩) l.length cg] rfl ⟨(by repeat (first | exact Sub.nil | refine Sub.pick ?_ | refine Sub.castO rfl ?_ | refine Sub.skip ?_)), ?_⟩)
     refine f_only0 7 rfl (by decide +kernel) rfl rfl (o_storeA Tryz.sizeOf28 rfl rfl rfl rfl (by first | exact Nat.le_of_ble_eq_true rfl | (simp; done) | (simp; omega)) [.slice A1 bs.length c1, .slice A2 R1.length c2] rfl ⟨(by repeat (first | exact Sub.nil | refine Sub.pick ?_ | refine Sub.castO rfl ?_ | refine Sub.skip ?_)), ?_⟩)
     refine f_over (by decide +kernel) ?_
     refine f_tn (kh5 _ _ ((b7, b8), (bg, cg, rg), (R1, A1, c1, A2, c2, mb, mc, ms)) ⟨⟨hg1, hg2⟩, hob, hoc, hRI, hRL⟩ ?_ ?_ ?_)
     · exact (by repeat (first | exact trivial | refine ⟨rfl, ?_⟩))
     · exact (by repeat (first | exact trivial | refine ⟨rfl, ?_⟩))
     · repeat (first | exact Sub.nil | refine Sub.pick ?_ | refine Sub.castO rfl ?_ | refine Sub.skip ?_)
  ·
   rintro ⟨⟨b7, b8⟩, ⟨bg, cg, rg⟩, ⟨R1, A1, c1, A2, c2, mb, mc, ms⟩⟩ ⟨⟨hg1, hg2⟩, hob, hoc, hRI, hRL⟩
   have hR1l : R1.length = R.length := by rw [← rowsL_len R1, hRL, rowsL_len]
   have hcl := hn.cl
   refine f_seq fun K6 kh6 => ?_
   refine f_region ?_
   refine f_stepP rfl rfl rfl (o_loadA (vs := [_, _]) Tryz.isAgg24 Tryz.sizeOf24 rfl rfl ⟨(rdA rfl), (rdA rfl), trivial⟩) ?_
   refine f_stepP rfl rfl rfl (o_loadA (vs := [_, _]) Tryz.isAgg28 Tryz.sizeOf28 rfl rfl ⟨(rdA rfl), (rdA rfl), trivial⟩) ?_
   refine f_stepP rfl rfl rfl (o_field fa30_0 rfl) ?_
   refine f_stepP rfl rfl rfl (o_load Tryz.isAgg3 rfl (rdA rfl)) ?_
   refine f_stepP rfl rfl rfl (o_field fa30_1 rfl) ?_
   refine f_stepP rfl rfl rfl (o_load Tryz.isAgg3 rfl (rdA rfl)) ?_
   refine f_step rfl rfl rfl (o_call Tryz.call8 rfl (fun w_ hp_ => CBoundary_spec N (some ⟨bg, 0, none⟩) l cg A1 bs c1 A2 R1 c2 q c w_ (roOwn (b := bg) hp_ (fun j v hj => app_get hj)) hl hN hok (nest_ro hp_ hob hoc hRI rfl (by omega))) ?_)
   rintro _ _ ⟨Ma, Aa, ca, ma, rfl, rfl, hoa, ha1, ha0⟩
   rw [hRL] at ha1 ha0 ⊢
   dsimp only [List.cons_append, List.nil_append]
   refine f_stepP rfl rfl rfl (o_move rfl) ?_
   refine f_stepP rfl rfl rfl (o_extract rfl rfl) ?_
   refine f_stepP rfl rfl rfl (o_extract rfl rfl) ?_
   refine f_stepP rfl rfl rfl (o_assign rfl) ?_
   refine f_stepP rfl rfl rfl (o_assign rfl) ?_
   refine f_done ?_
   refine f_tn (kh6 _ _ ?_)
   clear kh6
   refine f_seq fun K7 kh7 => ?_
   refine f_region ?_
   refine f_stepP rfl rfl rfl (o_loadA (vs := [_, _]) Tryz.isAgg24 Tryz.sizeOf24 rfl rfl ⟨(rdA rfl), (rdA rfl), trivial⟩) ?_
   refine f_stepP rfl rfl rfl (o_loadA (vs := [_, _]) Tryz.isAgg28 Tryz.sizeOf28 rfl rfl ⟨(rdA rfl), (rdA rfl), trivial⟩) ?_
   refine f_stepP rfl rfl rfl (o_field fa30_0 rfl) ?_
   refine f_stepP rfl rfl rfl (o_load Tryz.isAgg3 rfl (rdA rfl)) ?_
   refine f_stepP rfl rfl rfl (o_field fa30_1 rfl) ?_
   refine f_stepP rfl rfl rfl (o_load Tryz.isAgg3 rfl (rdA rfl)) ?_
   refine f_step rfl rfl rfl (o_call Tryz.call9 rfl (fun w_ hp_ => RBoundary_spec N A l cap Ab bs cb Ac R cc q c w_ (hr.up0 hp_) hl hN hok (hn.up0 hp_)) ?_)
   rintro _ _ ⟨Me, Ae, ce, me, rfl, rfl, hoe, he1, he0⟩
   have hMa : Ma = Me := by
     by_cases e : clE N l bs (rowsL R) q c = 0
     · rw [ha0 e, he0 e]
     · rw [ha1 e, he1 e]
   subst hMa
   dsimp only [List.cons_append, List.nil_append]
   refine f_stepP rfl rfl rfl (o_move rfl) ?_
   refine f_stepP rfl rfl rfl (o_extract rfl rfl) ?_
   refine f_stepP rfl rfl rfl (o_extract rfl rfl) ?_
   refine f_stepP rfl rfl rfl (o_assign rfl) ?_
   refine f_stepP rfl rfl rfl (o_assign rfl) ?_
   refine f_done ?_
   refine f_tn (kh7 _ _ ?_)
   clear kh7
   refine f_seq fun K8 kh8 => ?_
   refine f_region ?_
   refine f_stepP rfl rfl rfl (o_loadA (vs := [_, _]) Tryz.isAgg24 Tryz.sizeOf24 rfl rfl ⟨(rdA rfl), (rdA rfl), trivial⟩) ?_
   refine f_stepP rfl rfl rfl (o_loadA (vs := [_, _]) Tryz.isAgg28 Tryz.sizeOf28 rfl rfl ⟨(rdA rfl), (rdA rfl), trivial⟩) ?_
   refine f_stepP rfl rfl rfl (o_field fa30_0 rfl) ?_
   refine f_stepP rfl rfl rfl (o_load Tryz.isAgg3 rfl (rdA rfl)) ?_
   refine f_stepP rfl rfl rfl (o_field fa30_1 rfl) ?_
   refine f_stepP rfl rfl rfl (o_load Tryz.isAgg3 rfl (rdA rfl)) ?_
   refine f_stepP rfl rfl rfl (o_field fa30_2 rfl) ?_
   refine f_stepP rfl rfl rfl (o_load Tryz.isAgg3 rfl (rdA rfl)) ?_
   refine f_step rfl rfl rfl (o_call Tryz.call10 rfl (fun w_ hp_ => CIndex_spec N (some ⟨bg, 0, none⟩) l cg A1 bs c1 A2 R1 c2 q c v w_ (roOwn (b := bg) hp_ (fun j v hj => app_get hj)) hl hN hok (nest_ro hp_ hob hoc hRI rfl (by omega))) ?_)
   rintro _ _ ⟨i, rfl, rfl, hi1, hi0⟩
   rw [hRL] at hi1 hi0 ⊢
   dsimp only [List.cons_append, List.nil_append]
   refine f_stepP rfl rfl rfl (o_move rfl) ?_
   refine f_stepP rfl rfl rfl (o_extract rfl rfl) ?_
   refine f_stepP rfl rfl rfl (o_extract rfl rfl) ?_
   refine f_stepP rfl rfl rfl (o_assign rfl) ?_
   refine f_stepP rfl rfl rfl (o_assign rfl) ?_
   refine f_done ?_
   refine f_tn (kh8 _ _ ?_)
   clear kh8
   refine f_seq fun K9 kh9 => ?_
   refine f_region ?_
   refine f_stepP rfl rfl rfl (o_loadA (vs := [_, _]) Tryz.isAgg24 Tryz.sizeOf24 rfl rfl ⟨(rdA rfl), (rdA rfl), trivial⟩) ?_
   refine f_stepP rfl rfl rfl (o_loadA (vs := [_, _]) Tryz.isAgg28 Tryz.sizeOf28 rfl rfl ⟨(rdA rfl), (rdA rfl), trivial⟩) ?_
   refine f_stepP rfl rfl rfl (o_field fa30_0 rfl) ?_
   refine f_stepP rfl rfl rfl (o_load Tryz.isAgg3 rfl (rdA rfl)) ?_
   refine f_stepP rfl rfl rfl (o_field fa30_1 rfl) ?_
   refine f_stepP rfl rfl rfl (o_load Tryz.isAgg3 rfl (rdA rfl)) ?_
   refine f_stepP rfl rfl rfl (o_field fa30_2 rfl) ?_
   refine f_stepP rfl rfl rfl (o_load Tryz.isAgg3 rfl (rdA rfl)) ?_
   refine f_step rfl rfl rfl (o_call Tryz.call11 rfl (fun w_ hp_ => RIndex_spec N A l cap Ab bs cb Ac R cc q c v w_ (hr.up0 hp_) hl hN hok (hn.up0 hp_)) ?_)
   rintro _ _ ⟨j, rfl, rfl, hj1, hj0⟩
   obtain rfl := ix_same hi1 hi0 hj1 hj0
   dsimp only [List.cons_append, List.nil_append]
   refine f_stepP rfl rfl rfl (o_move rfl) ?_
   refine f_stepP rfl rfl rfl (o_extract rfl rfl) ?_
   refine f_stepP rfl rfl rfl (o_extract rfl rfl) ?_
   refine f_stepP rfl rfl rfl (o_assign rfl) ?_
   refine f_stepP rfl rfl rfl (o_assign rfl) ?_
   refine f_done ?_
   refine f_tn (kh9 _ _ ?_)
   clear kh9
   refine f_seq fun K10 kh10 => ?_
   refine f_seq fun K11 kh11 => ?_
   refine f_region ?_
   refine f_stepP rfl rfl rfl (o_move rfl) ?_
   refine f_stepP rfl rfl rfl (o_move rfl) ?_
   refine f_step rfl rfl rfl (o_call Tryz.call12 rfl (fun w_ hp_ => SameInts_spec Aa Ae Ma Ma Ma.length ce w_ (seen_ro (hoa.seen hp_)) (seen_ro (hoe.seen hp_)) (by obtain ⟨_, _, e, h⟩ := hoa.val; cases e; omega)) ?_)
   rintro _ _ ⟨rfl, rfl⟩
   rw [decide_eq_true rfl]
   dsimp only [List.cons_append, List.nil_append]
   refine f_stepP rfl rfl rfl (o_not rfl) ?_
   refine f_stepP rfl rfl rfl (o_move rfl) ?_
   refine f_stepPY rfl rfl rfl rfl rfl (o_move rfl) ?_
   refine f_stepPY rfl rfl rfl rfl rfl (o_move rfl) ?_
   refine f_stepPY rfl rfl rfl rfl rfl (o_neq rfl rfl) ?_
   refine f_stepP rfl rfl rfl (o_pickF rfl rfl) ?_
   refine f_stepP rfl rfl rfl (o_move rfl) ?_
   refine f_falseL 81 rfl (by simp) ?_
   refine f_stepPY rfl rfl rfl rfl rfl (o_move rfl) ?_
   refine f_stepPY rfl rfl rfl rfl rfl (o_move rfl) ?_
   refine f_stepPY rfl rfl rfl rfl rfl (o_neq rfl rfl) ?_
   refine f_stepP rfl rfl rfl (o_pickF rfl rfl) ?_
   refine f_stepP rfl rfl rfl (o_move rfl) ?_
   refine f_falseL 86 rfl (by simp) ?_
   refine f_stepPY rfl rfl rfl rfl rfl (o_move rfl) ?_
   refine f_stepPY rfl rfl rfl rfl rfl (o_move rfl) ?_
   refine f_stepPY rfl rfl rfl rfl rfl (o_neq rfl rfl) ?_
   refine f_stepP rfl rfl rfl (o_pickF rfl rfl) ?_
   refine f_done ?_
   refine f_tn (kh11 _ _ ?_)
   clear kh11
   refine f_condN rfl (by simp) ?_
   refine f_skip ?_
   refine f_tn (kh10 _ _ ?_)
   clear kh10
   refine f_seq fun K12 kh12 => ?_
   refine f_region ?_
   refine f_stepP rfl rfl rfl (o_loadA (vs := [_, _]) Tryz.isAgg24 Tryz.sizeOf24 rfl rfl ⟨(rdA rfl), (rdA rfl), trivial⟩) ?_
   refine f_stepP rfl rfl rfl (o_loadA (vs := [_, _]) Tryz.isAgg28 Tryz.sizeOf28 rfl rfl ⟨(rdA rfl), (rdA rfl), trivial⟩) ?_
   refine f_stepP rfl rfl rfl (o_field fa30_0 rfl) ?_
   refine f_stepP rfl rfl rfl (o_load Tryz.isAgg3 rfl (rdA rfl)) ?_
   refine f_stepP rfl rfl rfl (o_field fa30_1 rfl) ?_
   refine f_stepP rfl rfl rfl (o_load Tryz.isAgg3 rfl (rdA rfl)) ?_
   refine f_step rfl rfl rfl (o_call Tryz.call13 rfl (fun w_ hp_ => CInner_spec N (some ⟨bg, 0, none⟩) l cg A1 bs c1 A2 R1 c2 q c w_ (roOwn (b := bg) hp_ (fun j v hj => app_get hj)) hl hN hok (nest_ro hp_ hob hoc hRI rfl (by omega))) ?_)
   rintro _ _ ⟨Md, Ad, cd, md, rfl, rfl, hod, hd1, hd0⟩
   rw [hRL] at hd1 hd0 ⊢
   dsimp only [List.cons_append, List.nil_append]
   refine f_stepP rfl rfl rfl (o_move rfl) ?_
   refine f_stepP rfl rfl rfl (o_extract rfl rfl) ?_
   refine f_stepP rfl rfl rfl (o_extract rfl rfl) ?_
   refine f_stepP rfl rfl rfl (o_assign rfl) ?_
   refine f_stepP rfl rfl rfl (o_assign rfl) ?_
   refine f_done ?_
   refine f_tn (kh12 _ _ ?_)
   clear kh12
   refine f_seq fun K13 kh13 => ?_
   refine f_region ?_
   refine f_stepP rfl rfl rfl (o_loadA (vs := [_, _]) Tryz.isAgg24 Tryz.sizeOf24 rfl rfl ⟨(rdA rfl), (rdA rfl), trivial⟩) ?_
   refine f_stepP rfl rfl rfl (o_loadA (vs := [_, _]) Tryz.isAgg28 Tryz.sizeOf28 rfl rfl ⟨(rdA rfl), (rdA rfl), trivial⟩) ?_
   refine f_stepP rfl rfl rfl (o_field fa30_0 rfl) ?_
   refine f_stepP rfl rfl rfl (o_load Tryz.isAgg3 rfl (rdA rfl)) ?_
   refine f_stepP rfl rfl rfl (o_field fa30_1 rfl) ?_
   refine f_stepP rfl rfl rfl (o_load Tryz.isAgg3 rfl (rdA rfl)) ?_
   refine f_step rfl rfl rfl (o_call Tryz.call14 rfl (fun w_ hp_ => RInner_spec N A l cap Ab bs cb Ac R cc q c w_ (hr.up0 hp_) hl hN hok (hn.up0 hp_)) ?_)
   rintro _ _ ⟨Mf, Af, cf, mf, rfl, rfl, hof, hf1, hf0⟩
   have hMd : Md = Mf := by
     by_cases e : clE N l bs (rowsL R) q c = 0
     · rw [hd0 e, hf0 e]
     · rw [hd1 e, hf1 e]
   subst hMd
   dsimp only [List.cons_append, List.nil_append]
   refine f_stepP rfl rfl rfl (o_move rfl) ?_
   refine f_stepP rfl rfl rfl (o_extract rfl rfl) ?_
   refine f_stepP rfl rfl rfl (o_extract rfl rfl) ?_
   refine f_stepP rfl rfl rfl (o_assign rfl) ?_
   refine f_stepP rfl rfl rfl (o_assign rfl) ?_
   refine f_done ?_
   refine f_tn (kh13 _ _ ?_)
   clear kh13
   refine f_seq fun K14 kh14 => ?_
   refine f_region ?_
   refine f_stepP rfl rfl rfl (o_loadA (vs := [_, _]) Tryz.isAgg24 Tryz.sizeOf24 rfl rfl ⟨(rdA rfl), (rdA rfl), trivial⟩) ?_
   refine f_stepP rfl rfl rfl (o_loadA (vs := [_, _]) Tryz.isAgg28 Tryz.sizeOf28 rfl rfl ⟨(rdA rfl), (rdA rfl), trivial⟩) ?_
   refine f_stepP rfl rfl rfl (o_field fa30_0 rfl) ?_
   refine f_stepP rfl rfl rfl (o_load Tryz.isAgg3 rfl (rdA rfl)) ?_
   refine f_stepP rfl rfl rfl (o_field fa30_1 rfl) ?_
   refine f_stepP rfl rfl rfl (o_load Tryz.isAgg3 rfl (rdA rfl)) ?_
   refine f_step rfl rfl rfl (o_call Tryz.call15 rfl (fun w_ hp_ => CBetween_spec N (some ⟨bg, 0, none⟩) l cg A1 bs c1 A2 R1 c2 q c w_ (roOwn (b := bg) hp_ (fun j v hj => app_get hj)) hl hN hok (nest_ro hp_ hob hoc hRI rfl (by omega))) ?_)
   rintro _ _ ⟨Mp, Ap, cp, mp, rfl, rfl, hop, hp1, hp0⟩
   rw [hRL] at hp1 hp0 ⊢
   dsimp only [List.cons_append, List.nil_append]
   refine f_stepP rfl rfl rfl (o_move rfl) ?_
   refine f_stepP rfl rfl rfl (o_extract rfl rfl) ?_
   refine f_stepP rfl rfl rfl (o_extract rfl rfl) ?_
   refine f_stepP rfl rfl rfl (o_assign rfl) ?_
   refine f_stepP rfl rfl rfl (o_assign rfl) ?_
   refine f_done ?_
   refine f_tn (kh14 _ _ ?_)
   clear kh14
   refine f_seq fun K15 kh15 => ?_
   refine f_region ?_
   refine f_stepP rfl rfl rfl (o_loadA (vs := [_, _]) Tryz.isAgg24 Tryz.sizeOf24 rfl rfl ⟨(rdA rfl), (rdA rfl), trivial⟩) ?_
   refine f_stepP rfl rfl rfl (o_loadA (vs := [_, _]) Tryz.isAgg28 Tryz.sizeOf28 rfl rfl ⟨(rdA rfl), (rdA rfl), trivial⟩) ?_
   refine f_stepP rfl rfl rfl (o_field fa30_0 rfl) ?_
   refine f_stepP rfl rfl rfl (o_load Tryz.isAgg3 rfl (rdA rfl)) ?_
   refine f_stepP rfl rfl rfl (o_field fa30_1 rfl) ?_
   refine f_stepP rfl rfl rfl (o_load Tryz.isAgg3 rfl (rdA rfl)) ?_
   refine f_step rfl rfl rfl (o_call Tryz.call16 rfl (fun w_ hp_ => RBetween_spec N A l cap Ab bs cb Ac R cc q c w_ (hr.up0 hp_) hl hN hok (hn.up0 hp_)) ?_)
   rintro _ _ ⟨Mr, Ar, cr, mr, rfl, rfl, hor, hr1, hr0⟩
   have hMp : Mp = Mr := by
     by_cases e : bwE N l bs (rowsL R) q c = 0
     · rw [hp0 e, hr0 e]
     · rw [hp1 e, hr1 e]
   subst hMp
   dsimp only [List.cons_append, List.nil_append]
   refine f_stepP rfl rfl rfl (o_move rfl) ?_
   refine f_stepP rfl rfl rfl (o_extract rfl rfl) ?_
   refine f_stepP rfl rfl rfl (o_extract rfl rfl) ?_
   refine f_stepP rfl rfl rfl (o_assign rfl) ?_
   refine f_stepP rfl rfl rfl (o_assign rfl) ?_
   refine f_done ?_
   refine f_tn (kh15 _ _ ?_)
   clear kh15
   refine f_seq fun K16 kh16 => ?_
   refine f_seq fun K17 kh17 => ?_
   refine f_region ?_
   refine f_stepP rfl rfl rfl (o_move rfl) ?_
   refine f_stepP rfl rfl rfl (o_move rfl) ?_
   refine f_step rfl rfl rfl (o_call Tryz.call12 rfl (fun w_ hp_ => SameInts_spec Ad Af Md Md Md.length cf w_ (seen_ro (hod.seen hp_)) (seen_ro (hof.seen hp_)) (by obtain ⟨_, _, e, h⟩ := hod.val; cases e; omega)) ?_)
   rintro _ _ ⟨rfl, rfl⟩
   rw [decide_eq_true rfl]
   dsimp only [List.cons_append, List.nil_append]
   refine f_stepP rfl rfl rfl (o_not rfl) ?_
   refine f_stepP rfl rfl rfl (o_move rfl) ?_
   refine f_stepPY rfl rfl rfl rfl rfl (o_move rfl) ?_
   refine f_stepPY rfl rfl rfl rfl rfl (o_move rfl) ?_
   refine f_stepPY rfl rfl rfl rfl rfl (o_neq rfl rfl) ?_
   refine f_stepP rfl rfl rfl (o_pickF rfl rfl) ?_
   refine f_stepP rfl rfl rfl (o_move rfl) ?_
   refine f_falseL 140 rfl (by simp) ?_
   refine f_stepPY rfl rfl rfl rfl rfl (o_move rfl) ?_
   refine f_stepPY rfl rfl rfl rfl rfl (o_move rfl) ?_
   refine f_stepY rfl rfl rfl rfl rfl (o_call Tryz.call12 rfl (fun w_ hp_ => SameInts_spec Ap Ar Mp Mp Mp.length cr w_ (seen_ro (hop.seen hp_)) (seen_ro (hor.seen hp_)) (by obtain ⟨_, _, e, h⟩ := hop.val; cases e; omega)) ?_)
   rintro _ _ ⟨rfl, rfl⟩
   rw [decide_eq_true rfl]
   dsimp only [List.cons_append, List.nil_append]
   refine f_stepPY rfl rfl rfl rfl rfl (o_not rfl) ?_
   refine f_stepP rfl rfl rfl (o_pickF rfl rfl) ?_
   refine f_stepP rfl rfl rfl (o_move rfl) ?_
   refine f_stepPY rfl rfl rfl rfl rfl (o_move rfl) ?_
   refine f_stepPY rfl rfl rfl rfl rfl (o_move rfl) ?_
   refine f_stepPY rfl rfl rfl rfl rfl (o_neq rfl rfl) ?_
   refine f_stepP rfl rfl rfl (o_pickF rfl rfl) ?_
   refine f_done ?_
   refine f_tn (kh17 _ _ ?_)
   clear kh17
   refine f_condN rfl (by simp) ?_
   refine f_skip ?_
   refine f_tn (kh16 _ _ ?_)
   clear kh16
   refine f_seq fun K18 kh18 => ?_
   refine f_region ?_
   refine f_stepP rfl rfl rfl (o_move rfl) ?_
   refine f_step rfl rfl rfl (o_callM [ma] _ Tryz.call17 rfl (by repeat (first | exact Sub.refl | refine Sub.pick ?_)) (fun w_ hp_ => SpoilIntsD_spec Aa Ma.length Ma.length ca (ints Ma) ma (-7) w_ hoa (Nat.le_refl _) (by obtain ⟨_, _, e, h⟩ := hoa.val; cases e; omega) hp_.owns) ?_)
   rintro _ _ ⟨rfl, rfl⟩
   dsimp only [List.cons_append, List.nil_append]
   refine f_done ?_
   refine f_tn (kh18 _ _ ?_)
   clear kh18
   refine f_seq fun K19 kh19 => ?_
   refine f_region ?_
   refine f_stepP rfl rfl rfl (o_move rfl) ?_
   refine f_step rfl rfl rfl (o_callM [md] _ Tryz.call17 rfl (by repeat (first | exact Sub.refl | refine Sub.pick ?_)) (fun w_ hp_ => SpoilIntsD_spec Ad Md.length Md.length cd (ints Md) md (-8) w_ hod (Nat.le_refl _) (by obtain ⟨_, _, e, h⟩ := hod.val; cases e; omega) hp_.owns) ?_)
   rintro _ _ ⟨rfl, rfl⟩
   dsimp only [List.cons_append, List.nil_append]
   refine f_done ?_
   refine f_tn (kh19 _ _ ?_)
   clear kh19
   refine f_seq fun K20 kh20 => ?_
   refine f_region ?_
   refine f_stepP rfl rfl rfl (o_move rfl) ?_
   refine f_step rfl rfl rfl (o_callM [mp] _ Tryz.call17 rfl (by repeat (first | exact Sub.refl | refine Sub.pick ?_)) (fun w_ hp_ => SpoilIntsD_spec Ap Mp.length Mp.length cp (ints Mp) mp (-9) w_ hop (Nat.le_refl _) (by obtain ⟨_, _, e, h⟩ := hop.val; cases e; omega) hp_.owns) ?_)
   rintro _ _ ⟨rfl, rfl⟩
   dsimp only [List.cons_append, List.nil_append]
   refine f_done ?_
   refine f_tn (kh20 _ _ ?_)
   clear kh20
   refine f_seq fun K21 kh21 => ?_
   refine f_region ?_
   refine f_stepP rfl rfl rfl (o_loadA (vs := [_, _]) Tryz.isAgg24 Tryz.sizeOf24 rfl rfl ⟨(rdA rfl), (rdA rfl), trivial⟩) ?_
   refine f_stepP rfl rfl rfl (o_loadA (vs := [_, _]) Tryz.isAgg24 Tryz.sizeOf24 rfl rfl ⟨(rdA rfl), (rdA rfl), trivial⟩) ?_
   refine f_step rfl rfl rfl (o_call Tryz.call18 rfl (fun w_ hp_ => KeptGraph_spec N bg cg A l cap rg w_ (roOwn (b := bg) hp_ (fun j v hj => hj)) (hr.up0 hp_) hg1 hg2) ?_)
   rintro _ _ ⟨rfl, rfl⟩
   dsimp only [List.cons_append, List.nil_append]
   refine f_stepP rfl rfl rfl (o_move rfl) ?_
   refine f_stepPY rfl rfl rfl rfl rfl (o_loadA (vs := [_, _]) Tryz.isAgg28 Tryz.sizeOf28 rfl rfl ⟨(rdA rfl), (rdA rfl), trivial⟩) ?_
   refine f_stepPY rfl rfl rfl rfl rfl (o_loadA (vs := [_, _]) Tryz.isAgg28 Tryz.sizeOf28 rfl rfl ⟨(rdA rfl), (rdA rfl), trivial⟩) ?_
   refine f_stepY rfl rfl rfl rfl rfl (o_call Tryz.call19 rfl (fun w_ hp_ => SameNest_spec A1 bs c1 A2 R1 c2 Ab cb Ac R cc w_ (nest_ro hp_ hob hoc hRI rfl (by omega)) (hn.up0 hp_) hRL) ?_)
   rintro _ _ ⟨rfl, rfl⟩
   dsimp only [List.cons_append, List.nil_append]
   refine f_stepP rfl rfl rfl (o_pickT rfl rfl) ?_
   refine f_stepP rfl rfl rfl (o_move rfl) ?_
   refine f_stepY rfl rfl rfl rfl rfl (o_call Tryz.call5 rfl (fun w_ hp_ => works_spec w_) ?_)
   rintro _ _ ⟨rfl, rfl⟩
   dsimp only [List.cons_append, List.nil_append]
   refine f_stepP rfl rfl rfl (o_pickT rfl rfl) ?_
   refine f_stepP rfl rfl rfl (o_assign rfl) ?_
   refine f_done ?_
   refine f_tn (kh21 _ _ ?_)
   clear kh21
   refine f_ret ?_
   exact f_fin1 [] Tryz.results3 rfl Sub.nil ⟨rfl, rfl⟩

end Go.Proofs.YtkmkakpadgljeaaGreat

/- How graphs of this program read. -/
namespace Go.Proofs.YtkmkakpadgljeaaGreat
open Go Go.RowKit Fly
set_option linter.unusedVariables false
set_option linter.unusedSimpArgs false


theorem rdArc {H : Type} {enc : TypeId × Value → H} (W : World) : Reads enc Tryz.prog W 48 arcCs ArcOk :=
  reads_arc Tryz.underlying48 (by kernel_rfl) ⟨rfl, by kernel_rfl⟩ ⟨rfl, by kernel_rfl⟩ ⟨rfl, by kernel_rfl⟩ Tryz.underlying3 Tryz.underlying3 Tryz.underlying46
theorem rdGraph {H : Type} {enc : TypeId × Value → H} (W : World) : Reads enc Tryz.prog W 24 (fun x : Int × Option Addr × List Arc × Nat => [.int .i64 x.1, .slice x.2.1 x.2.2.1.length x.2.2.2]) (fun x => GrIn W x.1 x.2.1 x.2.2.1 x.2.2.2) :=
  reads_graph Tryz.underlying24 (by kernel_rfl) ⟨rfl, by kernel_rfl⟩ ⟨rfl, by kernel_rfl⟩ Tryz.underlying3 Tryz.underlying22 (by kernel_rfl) (rdArc W)

end Go.Proofs.YtkmkakpadgljeaaGreat

/- How nests and plans read. -/
namespace Go.Proofs.YtkmkakpadgljeaaGreat
open Go Go.RowKit Fly
set_option linter.unusedVariables false
set_option linter.unusedSimpArgs false


abbrev RowIn (W : World) (r : Row) : Prop := SlIn W (fun n : Int => [.int .i64 n]) I64 r.1 r.2.1 r.2.2
abbrev NestIn (W : World) (x : Option Addr × List Int × Nat × Option Addr × List Row × Nat) : Prop := SlIn W (fun n : Int => [.int .i64 n]) I64 x.1 x.2.1 x.2.2.1 ∧ SlIn W (fun r : Row => [rowV r]) (RowIn W) x.2.2.2.1 x.2.2.2.2.1 x.2.2.2.2.2
theorem rdRow {H : Type} {enc : TypeId × Value → H} (W : World) : Reads enc Tryz.prog W 25 (fun r : Row => [rowV r]) (RowIn W) :=
  reads_slice (cells := fun n : Int => [.int .i64 n]) (sz := 1) Tryz.underlying25 (by kernel_rfl) (fun _ => rfl) (by omega) (reads_i64 Tryz.underlying3)
theorem rdNest {H : Type} {enc : TypeId × Value → H} (W : World) : Reads enc Tryz.prog W 28 (fun x : Option Addr × List Int × Nat × Option Addr × List Row × Nat => [.slice x.1 x.2.1.length x.2.2.1, .slice x.2.2.2.1 x.2.2.2.2.1.length x.2.2.2.2.2]) (NestIn W) :=
  (reads2 (ca := fun x : Row => rowV x) (cb := fun x : Option Addr × List Row × Nat => .slice x.1 x.2.1.length x.2.2) Tryz.underlying28 (by kernel_rfl) ⟨rfl, by kernel_rfl⟩ ⟨rfl, by kernel_rfl⟩
    (rdRow W) (reads_slice (cells := fun r : Row => [rowV r]) (sz := 1) Tryz.underlying26 (by kernel_rfl) (fun _ => rfl) (by omega) (rdRow W))).map
    (fun x => ((x.1.1, x.1.2.1, x.1.2.2, x.2.1, x.2.2.1, x.2.2.2) : Option Addr × List Int × Nat × Option Addr × List Row × Nat)) (fun x => rfl) fun x hx => hx
theorem nest_in {W : World} {x : Option Addr × List Int × Nat × Option Addr × List Row × Nat} (h : NestIn W x) : NestRo (Fr W []) W x.1 x.2.1 x.2.2.2.1 x.2.2.2.2.1 where
  b := by have := h.1.ro; rwa [flat_one] at this
  bl := Nat.le_trans h.1.le h.1.max
  c := by have := h.2.ro; rwa [flat_one] at this
  cl := Nat.le_trans h.2.le h.2.max
  rows := fun r hr => ⟨by have := (h.2.ok r hr).ro; rwa [flat_one] at this, Nat.le_trans (h.2.ok r hr).le (h.2.ok r hr).max⟩

end Go.Proofs.YtkmkakpadgljeaaGreat

/- How a question about a cell reads. -/
namespace Go.Proofs.YtkmkakpadgljeaaGreat
open Go Go.RowKit Fly
set_option linter.unusedVariables false
set_option linter.unusedSimpArgs false


theorem rdAskC {H : Type} {enc : TypeId × Value → H} (W : World) : Reads enc Tryz.prog W 30 (fun x : Int × Int × Int => [.int .i64 x.1, .int .i64 x.2.1, .int .i64 x.2.2]) (fun x => I64 x.1 ∧ I64 x.2.1 ∧ I64 x.2.2) :=
  reads3 (ca := fun n => .int .i64 n) (cb := fun n => .int .i64 n) (cc := fun n => .int .i64 n) Tryz.underlying30 (by kernel_rfl) ⟨rfl, by kernel_rfl⟩ ⟨rfl, by kernel_rfl⟩ ⟨rfl, by kernel_rfl⟩
    (reads_i64 Tryz.underlying3) (reads_i64 Tryz.underlying3) (reads_i64 Tryz.underlying3)

end Go.Proofs.YtkmkakpadgljeaaGreat

/- How much room a nest takes up. -/
namespace Go.Proofs.YtkmkakpadgljeaaGreat
open Go Go.RowKit Fly
set_option linter.unusedVariables false
set_option linter.unusedSimpArgs false


section
open Go.ChangeShapes Go.WideShapes Go.Deep
variable {H : Type} {enc : TypeId × Value → H} {P : Program} {w : World}
theorem weightsAll_mem {e : TypeId} {d : DataW H} {n : Nat} (hn : n ∈ d.weights P e) : ∀ {l : List (DataW H)}, d ∈ l → n ∈ DataW.weightsAll P e l
  | x :: l, h => by
    simp only [DataW.weightsAll, List.mem_append]
    rcases List.mem_cons.1 h with rfl | h
    · exact .inl hn
    · exact .inr (weightsAll_mem hn h)
theorem rows_weight {t e e2 : TypeId} {A : Option Addr} {len cap fuel : Nat} {x : DataW H × List MemPlace} (ht : P.underlying t = some (.slice e)) (he : P.underlying e = some (.slice e2)) (hc : P.cellsOf e = 1) (hf : DataW.trod enc P w 0 (fun _ => true) true fuel t [.slice A len cap] = some x) :
    ∀ i, i < len → ∀ a, A = some a → ∀ A' n' c', w.cell? (a.add i) = some (.slice A' n' c') → c' * P.bytesOf e2 = 0 ∨ c' * P.bytesOf e2 ∈ x.1.weights P t := fun i hi a ha A' n' c' hcell => by
  rcases open_slice ht hf with ⟨e1, _⟩ | ⟨a2, l', c2, m, n, D, Pl, e1, _, hl, _, hm, hx, hev⟩
  · simp only [List.cons.injEq, Value.slice.injEq, and_true] at e1
    rw [e1.1] at ha; cases ha
  · simp only [List.cons.injEq, Value.slice.injEq, and_true] at e1
    obtain ⟨rfl, rfl, rfl⟩ := e1
    cases ha
    simp only [if_true] at hm
    subst hm
    obtain ⟨cs', hcs, htr⟩ := hev i (by omega)
    obtain ⟨_, hcl, hat⟩ := World.cells?_some hcs
    rw [hc] at hcl
    have h0 := hat 0 (by rw [hc]; omega)
    rw [add_add, hc, Nat.mul_one, Nat.add_zero, hcell] at h0
    obtain ⟨v, rfl⟩ : ∃ v, cs' = [v] := List.length_eq_one_iff.1 hcl
    have hv : v = .slice A' n' c' := by simpa using h0.symm
    subst hv
    rcases slice_weight he htr with h | h
    · exact .inl h
    · right
      rw [hx]
      simp only [DataW.weights, ht]
      refine List.mem_cons_of_mem _ (List.mem_append_left _ (weightsAll_mem h ?_))
      exact List.mem_map.2 ⟨i, List.mem_range.2 hi, rfl⟩
theorem arg_roomN {ts : List TypeId} {ds : List (DataW H)} {t e0 e1 e2 : TypeId} {f0 f1 : Field} {A0 A1 : Option Addr} {l0 c0 l1 c1 j : Nat} {d : DataW H} {p : List MemPlace} (ht : P.underlying t = some (.struct #[f0, f1])) (h0 : f0.offset = 0 ∧ P.cellsOf f0.type = 1) (h1 : f1.offset = 1 ∧ P.cellsOf f1.type = 1) (u0 : P.underlying f0.type = some (.slice e0)) (u1 : P.underlying f1.type = some (.slice e1)) (ue : P.underlying e1 = some (.slice e2)) (hc : P.cellsOf e1 = 1)
    (h : DataW.Trod enc P w 0 (fun _ => true) true t (.agg #[.slice A0 l0 c0, .slice A1 l1 c1]) d p) (hs : (DataW.weightsEach P ts ds).all (· ≤ reachBytes) = true) (hj : ts[j]? = some t) (hd : ds[j]? = some d) :
    c0 * P.bytesOf e0 ≤ 140737488351232 ∧ c1 * P.bytesOf e1 ≤ 140737488351232 ∧ ∀ i, i < l1 → ∀ a, A1 = some a → ∀ A' n' c', w.cell? (a.add i) = some (.slice A' n' c') → c' * P.bytesOf e2 ≤ 140737488351232 := by
  obtain ⟨fuel, hf⟩ := h
  obtain ⟨y0, y1, n, hx, _, g0, g1⟩ := trod_struct2 ht hf
  rw [h0.1, h0.2] at g0
  rw [h1.1, h1.2] at g1
  have g0' : DataW.trod enc P w 0 (fun _ => true) true n f0.type [.slice A0 l0 c0] = some y0 := g0
  have g1' : DataW.trod enc P w 0 (fun _ => true) true n f1.type [.slice A1 l1 c1] = some y1 := g1
  have hdd : d = .agg [y0.1, y1.1] := (Prod.mk.inj hx).1
  have key0 : ∀ k, k ∈ y0.1.weights P f0.type → k ≤ 140737488351232 := fun k hm => by
    have := List.all_eq_true.1 hs _ (DataW.weights_mem_each hj hd k (by rw [hdd]; simp only [DataW.weights, ht, DataW.weightsEach, List.toList_toArray, List.map_cons]; exact List.mem_append_left _ hm))
    exact Nat.le_trans (of_decide_eq_true this) (by decide)
  have key1 : ∀ k, k ∈ y1.1.weights P f1.type → k ≤ 140737488351232 := fun k hm => by
    have := List.all_eq_true.1 hs _ (DataW.weights_mem_each hj hd k (by rw [hdd]; simp only [DataW.weights, ht, DataW.weightsEach, List.toList_toArray, List.map_cons]; exact List.mem_append_right _ (List.mem_append_left _ hm)))
    exact Nat.le_trans (of_decide_eq_true this) (by decide)
  refine ⟨?_, ?_, fun i hi a ha A' n' c' hcell => ?_⟩
  · rcases slice_weight u0 g0' with h | h
    · omega
    · exact key0 _ h
  · rcases slice_weight u1 g1' with h | h
    · omega
    · exact key1 _ h
  · rcases rows_weight u1 ue hc g1' i hi a ha A' n' c' hcell with h | h
    · omega
    · exact key1 _ h
theorem rows_room {S : Nat → Prop} {A : Option Addr} {R : List Row} {k : Nat} (hro : Ro S w A (R.map rowV)) (h : ∀ i, i < R.length → ∀ a, A = some a → ∀ A' n' c', w.cell? (a.add i) = some (.slice A' n' c') → c' * k ≤ 140737488351232) : ∀ r ∈ R, r.2.2 * k ≤ 140737488351232 := fun r hr => by
  obtain ⟨i, hi, rfl⟩ := List.mem_iff_getElem.1 hr
  obtain ⟨b, o, rfl, _, hc⟩ := hro (map_ne hi)
  exact h i hi _ rfl R[i].1 R[i].2.1.length R[i].2.2 (by rw [add_at]; exact hc i _ (by simp [hi]))
end
theorem bytesRow : Tryz.prog.bytesOf 25 = 24 := by kernel_rfl
theorem bytesIntN : Tryz.prog.bytesOf 3 = 8 := by kernel_rfl
theorem bytesArcN : Tryz.prog.bytesOf 48 = 24 := by kernel_rfl

end Go.Proofs.YtkmkakpadgljeaaGreat
