import Derived.Test.YtkmkakpadgljeaaAll9
import Derived.Test.YtkmkakpadgljeaaAll10
import Derived.Test.YtkmkakpadgljeaaFlyT
import Derived.Test.YtkmkakpadgljeaaFlyR
import Derived.Test.YtkmkakpadgljeaaAll3

/- flyoverlaw12.CellStale. -/
namespace Go.Proofs.Ytkmkakpadgljeaa
open Go Go.RowKit Fly
set_option linter.unusedVariables false
set_option linter.unusedSimpArgs false

set_option maxRecDepth 100000 in
set_option maxHeartbeats 4000000 in
theorem CellStale_spec (N : Int) (A : Option Addr) (l : List Arc) (cap : Nat) (Ab : Option Addr) (bs : List Int) (cb : Nat) (Ac : Option Addr) (R : List Row) (cc : Nat) (lv : Int) (D : Option Addr) (arcs : List Int) (cd : Nat) (w : World) (hr : Ro (Fr w []) w A (l.flatMap arcCs)) (hl : l.length ≤ 9223372036854775807) (hN : I64 N) (hok : ∀ x ∈ l, ArcOk x) (hn : NestRo (Fr w []) w Ab bs Ac R) (hD : Ro (Fr w []) w D (ints arcs)) (hm : arcs.length ≤ 9223372036854775807) (hz : l.length * 24 ≤ 140737488351232) (hzb : bs.length * 8 ≤ 140737488351232) (hzc : R.length * 24 ≤ 140737488351232) (hzr : ∀ r ∈ R, r.2.1.length * 8 ≤ 140737488351232) (hza : arcs.length * 8 ≤ 140737488351232) :
    Meets Try.prog 4 [.agg #[.int .i64 N, .slice A l.length cap], .agg #[.slice Ab bs.length cb, .slice Ac R.length cc], .agg #[.int .i64 lv, .slice D arcs.length cd]] w [] (fun u m => u = .bool true ∧ m = []) := by
 refine f_enter Try.func4 rfl Try.ntmps4 rfl Owns.nil ?_
 refine f_seq fun K1 kh1 => ?_
 refine f_region ?_
 refine f_step rfl rfl rfl (o_box rfl rfl fun b3 => ?_)
 refine f_step rfl rfl rfl (o_box rfl rfl fun b4 => ?_)
 refine f_step rfl rfl rfl (o_box rfl rfl fun b5 => ?_)
 refine f_stepP rfl rfl rfl (o_assign rfl) ?_
 refine f_done ?_
 refine f_tn (kh1 _ _ ?_)
 clear kh1
 refine f_seq fun K2 kh2 => ?_
 refine f_seq fun K3 kh3 => ?_
 refine f_region ?_
 refine f_stepP rfl rfl rfl (o_loadA (vs := [_, _]) Try.isAgg24 Try.sizeOf24 rfl rfl ⟨(rdA rfl), (rdA rfl), trivial⟩) ?_
 refine f_step rfl rfl rfl (o_call Try.call8 rfl (fun w_ hp_ => large_spec N A l cap w_ (hr.up0 hp_) hl hN hok) ?_)
 rintro _ _ ⟨bL, rfl, rfl⟩
 dsimp only [List.cons_append, List.nil_append]
 refine f_done ?_
 refine f_tn (kh3 _ _ ?_)
 clear kh3
 refine f_condB rfl (fun c20 => ?_) (fun c20 => ?_)
 ·
  refine f_seq fun K4 kh4 => ?_
  refine f_region ?_
  refine f_step rfl rfl rfl (o_call Try.call7 rfl (fun w_ hp_ => works_spec w_) ?_)
  rintro _ _ ⟨rfl, rfl⟩
  dsimp only [List.cons_append, List.nil_append]
  refine f_stepP rfl rfl rfl (o_assign rfl) ?_
  refine f_done ?_
  refine f_tn (kh4 _ _ ?_)
  clear kh4
  refine f_ret ?_
  refine f_tr ?_
  exact f_fin1 [] Try.results4 rfl Sub.nil ⟨rfl, rfl⟩
 ·
  refine f_skip ?_
  refine f_tn (kh2 _ _ ?_)
  clear kh2
  refine f_meet (α := (Nat × Nat) × (Nat × Nat × List Value) × (Nat × Nat × List Value) × (List Row × Option Addr × Nat × Option Addr × Nat × Seg × Seg × List Seg)) [3, 4, 5] (fun ⟨⟨b7, b8⟩, ⟨bg, cg, rg⟩, ⟨bi, ci, ri⟩, ⟨R1, A1, c1, A2, c2, mb, mc, ms⟩⟩ => [(7, .pointer (some ⟨b7, 0, none⟩)), (8, .pointer (some ⟨b8, 0, none⟩)), (9, .slice (some ⟨bi, 0, none⟩) arcs.length ci)]) (fun ⟨⟨b7, b8⟩, ⟨bg, cg, rg⟩, ⟨bi, ci, ri⟩, ⟨R1, A1, c1, A2, c2, mb, mc, ms⟩⟩ => [[(b7, blk [.int .i64 N, .slice (some ⟨bg, 0, none⟩) l.length cg] 24)], [(b8, blk [.slice A1 bs.length c1, .slice A2 R1.length c2] 28)], [(bg, blk (l.flatMap arcCs ++ (arcCs mark ++ rg)) 39)], [(bi, blk (ints arcs ++ ([.int .i64 (-77)] ++ ri)) 3)], mb, mc, ms.flatten, [(b3, blk [.int .i64 N, .slice A l.length cap] 24)], [(b4, blk [.slice Ab bs.length cb, .slice Ac R.length cc] 28)], [(b5, blk [.int .i64 lv, .slice D arcs.length cd] 45)]]) (fun ⟨⟨b7, b8⟩, ⟨bg, cg, rg⟩, ⟨bi, ci, ri⟩, ⟨R1, A1, c1, A2, c2, mb, mc, ms⟩⟩ => (l.length + 1 ≤ cg ∧ cg ≤ 9223372036854775807 ∧ arcs.length + 1 ≤ ci ∧ ci ≤ 9223372036854775807) ∧ Own 3 1 (.slice A1 bs.length c1) bs.length (ints bs) mb ∧ Own 25 1 (.slice A2 R1.length c2) R1.length (R1.map rowV) mc ∧ RowsI 3 (rowsL R1) (R1.map rowV) ms ∧ rowsL R1 = rowsL R) ?_ ?_
  ·
   intro K5 kh5
   refine f_regionH [[(b3, blk [.int .i64 N, .slice A l.length cap] 24)], [(b4, blk [.slice Ab bs.length cb, .slice Ac R.length cc] 28)], [(b5, blk [.int .i64 lv, .slice D arcs.length cd] 45)]] rfl ?_
   refine f_take 0 rfl (by decide +kernel) rfl rfl rfl (by repeat (first | exact Sub.nil | refine Sub.pick ?_ | refine Sub.castO rfl ?_ | refine Sub.skip ?_)) (o_loadA (vs := [_, _]) Try.isAgg24 Try.sizeOf24 rfl rfl ⟨(rdA rfl), (rdA rfl), trivial⟩) ?_
   refine f_take 2 rfl (by decide +kernel) rfl rfl rfl (by repeat (first | exact Sub.nil | refine Sub.pick ?_ | refine Sub.castO rfl ?_ | refine Sub.skip ?_)) (o_loadA (vs := [_, _]) Try.isAgg28 Try.sizeOf28 rfl rfl ⟨(rdA rfl), (rdA rfl), trivial⟩) ?_
   refine f_take 4 rfl (by decide +kernel) rfl rfl rfl (by repeat (first | exact Sub.nil | refine Sub.pick ?_ | refine Sub.castO rfl ?_ | refine Sub.skip ?_)) (o_field fa45_1 rfl) ?_
   refine f_take 5 rfl (by decide +kernel) rfl rfl rfl (by repeat (first | exact Sub.nil | refine Sub.pick ?_ | refine Sub.castO rfl ?_ | refine Sub.skip ?_)) (o_load Try.isAgg25 rfl (rdA rfl)) ?_
   refine f_three 1 7 8 rfl rfl rfl (by decide +kernel) rfl rfl rfl rfl rfl rfl rfl rfl rfl ?_ ?_ ?_
   ·
    refine (o_call Try.call14 rfl (fun w_ hp_ => LendGraph_spec N A l cap w_ (hr.up0 hp_) hz) ?_)
    rintro _ _ ⟨bg, cg, rg, rfl, rfl, hg1, hg2⟩
    dsimp only [List.cons_append, List.nil_append]
    refine ⟨(by repeat (first | exact Sub.nil | refine Sub.pick ?_ | refine Sub.castO rfl ?_ | refine Sub.skip ?_)), ?_⟩
    refine f_three 3 7 8 rfl rfl rfl (by decide +kernel) rfl rfl rfl rfl rfl rfl rfl rfl rfl ?_ ?_ ?_
    ·
     refine (o_call Try.call15 rfl (fun w_ hp_ => CopyNest_spec Ab bs cb Ac R cc w_ (hn.up0 hp_) hzb hzc hzr) ?_)
     rintro _ _ ⟨R1, A1, c1, A2, c2, mb, mc, ms, rfl, rfl, hob, hoc, hRI, hRL⟩
     dsimp only [List.cons_append, List.nil_append]
     refine ⟨(by repeat (first | exact Sub.nil | refine Sub.pick ?_ | refine Sub.castO rfl ?_ | refine Sub.skip ?_)), ?_⟩
     refine f_three 6 7 8 rfl rfl rfl (by decide +kernel) rfl rfl rfl rfl rfl rfl rfl rfl rfl ?_ ?_ ?_
     ·
      refine (o_call Try.call16 rfl (fun w_ hp_ => LendInts_spec D arcs cd w_ (hD.up0 hp_) hza) ?_)
      rintro _ _ ⟨bi, ci, ri, rfl, rfl, hi1, hi2⟩
      dsimp only [List.cons_append, List.nil_append]
      refine ⟨(by repeat (first | exact Sub.nil | refine Sub.pick ?_ | refine Sub.castO rfl ?_ | refine Sub.skip ?_)), ?_⟩
      refine f_two 7 8 rfl rfl (by decide +kernel) rfl rfl rfl rfl rfl rfl ?_ ?_
      ·
       refine (o_alloc Try.zeroValue24 rfl fun b7 => ⟨(by repeat (first | exact Sub.nil | refine Sub.pick ?_ | refine Sub.castO rfl ?_ | refine Sub.skip ?_)), ?_⟩)
       refine f_only 8 rfl (by decide +kernel) rfl rfl rfl (o_alloc Try.zeroValue28 rfl fun b8 => ⟨(by repeat (first | exact Sub.nil | refine Sub.pick ?_ | refine Sub.castO rfl ?_ | refine Sub.skip ?_)), ?_⟩)
       refine f_only0 9 rfl (by decide +kernel) rfl rfl (o_storeA Try.sizeOf24 rfl rfl rfl rfl (by first | exact Nat.le_of_ble_eq_true rfl | (simp; done) | (simp; omega)) [.int .i64 N, .slice (some ⟨bg, 0, none⟩) l.length cg] rfl ⟨(by repeat (first | exact Sub.nil | refine Sub.pick ?_ | refine Sub.castO rfl ?_ | refine Sub.skip ?_)), ?_⟩)
       refine f_only0 10 rfl (by decide +kernel) rfl rfl (o_storeA Try.sizeOf28 rfl rfl rfl rfl (by first | exact Nat.le_of_ble_eq_true rfl | (simp; done) | (simp; omega)) [.slice A1 bs.length c1, .slice A2 R1.length c2] rfl ⟨(by repeat (first | exact Sub.nil | refine Sub.pick ?_ | refine Sub.castO rfl ?_ | refine Sub.skip ?_)), ?_⟩)
       refine f_only 11 rfl (by decide +kernel) rfl rfl rfl ((o_assign rfl).does ⟨(by repeat (first | exact Sub.nil | refine Sub.pick ?_ | refine Sub.castO rfl ?_ | refine Sub.skip ?_)), ?_⟩)
       refine f_over (by decide +kernel) ?_
       refine f_tn (kh5 _ _ ((b7, b8), (bg, cg, rg), (bi, ci, ri), (R1, A1, c1, A2, c2, mb, mc, ms)) ⟨⟨hg1, hg2, hi1, hi2⟩, hob, hoc, hRI, hRL⟩ ?_ ?_ ?_)
       · exact (by repeat (first | exact trivial | refine ⟨rfl, ?_⟩))
       · exact (by repeat (first | exact trivial | refine ⟨rfl, ?_⟩))
       · repeat (first | exact Sub.nil | refine Sub.pick ?_ | refine Sub.castO rfl ?_ | refine Sub.skip ?_)
      ·
       refine (o_alloc Try.zeroValue28 rfl fun b8 => ⟨(by repeat (first | exact Sub.nil | refine Sub.pick ?_ | refine Sub.castO rfl ?_ | refine Sub.skip ?_)), ?_⟩)
       refine f_only 7 rfl (by decide +kernel) rfl rfl rfl (o_alloc Try.zeroValue24 rfl fun b7 => ⟨(by repeat (first | exact Sub.nil | refine Sub.pick ?_ | refine Sub.castO rfl ?_ | refine Sub.skip ?_)), ?_⟩)
       refine f_only0 9 rfl (by decide +kernel) rfl rfl (o_storeA Try.sizeOf24 rfl rfl rfl rfl (by first | exact Nat.le_of_ble_eq_true rfl | (simp; done) | (simp; omega)) [.int .i64 N, .slice (some ⟨bg, 0, none⟩) l.length cg] rfl ⟨(by repeat (first | exact Sub.nil | refine Sub.pick ?_ | refine Sub.castO rfl ?_ | refine Sub.skip ?_)), ?_⟩)
       refine f_only0 10 rfl (by decide +kernel) rfl rfl (o_storeA Try.sizeOf28 rfl rfl rfl rfl (by first | exact Nat.le_of_ble_eq_true rfl | (simp; done) | (simp; omega)) [.slice A1 bs.length c1, .slice A2 R1.length c2] rfl ⟨(by repeat (first | exact Sub.nil | refine Sub.pick ?_ | refine Sub.castO rfl ?_ | refine Sub.skip ?_)), ?_⟩)
       refine f_only 11 rfl (by decide +kernel) rfl rfl rfl ((o_assign rfl).does ⟨(by repeat (first | exact Sub.nil | refine Sub.pick ?_ | refine Sub.castO rfl ?_ | refine Sub.skip ?_)), ?_⟩)
       refine f_over (by decide +kernel) ?_
       refine f_tn (kh5 _ _ ((b7, b8), (bg, cg, rg), (bi, ci, ri), (R1, A1, c1, A2, c2, mb, mc, ms)) ⟨⟨hg1, hg2, hi1, hi2⟩, hob, hoc, hRI, hRL⟩ ?_ ?_ ?_)
       · exact (by repeat (first | exact trivial | refine ⟨rfl, ?_⟩))
       · exact (by repeat (first | exact trivial | refine ⟨rfl, ?_⟩))
       · repeat (first | exact Sub.nil | refine Sub.pick ?_ | refine Sub.castO rfl ?_ | refine Sub.skip ?_)
     ·
      refine (o_alloc Try.zeroValue24 rfl fun b7 => ⟨(by repeat (first | exact Sub.nil | refine Sub.pick ?_ | refine Sub.castO rfl ?_ | refine Sub.skip ?_)), ?_⟩)
      refine f_two 6 8 rfl rfl (by decide +kernel) rfl rfl rfl rfl rfl rfl ?_ ?_
      ·
       refine (o_call Try.call16 rfl (fun w_ hp_ => LendInts_spec D arcs cd w_ (hD.up0 hp_) hza) ?_)
       rintro _ _ ⟨bi, ci, ri, rfl, rfl, hi1, hi2⟩
       dsimp only [List.cons_append, List.nil_append]
       refine ⟨(by repeat (first | exact Sub.nil | refine Sub.pick ?_ | refine Sub.castO rfl ?_ | refine Sub.skip ?_)), ?_⟩
       refine f_only 8 rfl (by decide +kernel) rfl rfl rfl (o_alloc Try.zeroValue28 rfl fun b8 => ⟨(by repeat (first | exact Sub.nil | refine Sub.pick ?_ | refine Sub.castO rfl ?_ | refine Sub.skip ?_)), ?_⟩)
       refine f_only0 9 rfl (by decide +kernel) rfl rfl (o_storeA Try.sizeOf24 rfl rfl rfl rfl (by first | exact Nat.le_of_ble_eq_true rfl | (simp; done) | (simp; omega)) [.int .i64 N, .slice (some ⟨bg, 0, none⟩) l.length cg] rfl ⟨(by repeat (first | exact Sub.nil | refine Sub.pick ?_ | refine Sub.castO rfl ?_ | refine Sub.skip ?_)), ?_⟩)
       refine f_only0 10 rfl (by decide +kernel) rfl rfl (o_storeA Try.sizeOf28 rfl rfl rfl rfl (by first | exact Nat.le_of_ble_eq_true rfl | (simp; done) | (simp; omega)) [.slice A1 bs.length c1, .slice A2 R1.length c2] rfl ⟨(by repeat (first | exact Sub.nil | refine Sub.pick ?_ | refine Sub.castO rfl ?_ | refine Sub.skip ?_)), ?_⟩)
       refine f_only 11 rfl (by decide +kernel) rfl rfl rfl ((o_assign rfl).does ⟨(by repeat (first | exact Sub.nil | refine Sub.pick ?_ | refine Sub.castO rfl ?_ | refine Sub.skip ?_)), ?_⟩)
       refine f_over (by decide +kernel) ?_
       refine f_tn (kh5 _ _ ((b7, b8), (bg, cg, rg), (bi, ci, ri), (R1, A1, c1, A2, c2, mb, mc, ms)) ⟨⟨hg1, hg2, hi1, hi2⟩, hob, hoc, hRI, hRL⟩ ?_ ?_ ?_)
       · exact (by repeat (first | exact trivial | refine ⟨rfl, ?_⟩))
       · exact (by repeat (first | exact trivial | refine ⟨rfl, ?_⟩))
       · repeat (first | exact Sub.nil | refine Sub.pick ?_ | refine Sub.castO rfl ?_ | refine Sub.skip ?_)
      ·
       refine (o_alloc Try.zeroValue28 rfl fun b8 => ⟨(by repeat (first | exact Sub.nil | refine Sub.pick ?_ | refine Sub.castO rfl ?_ | refine Sub.skip ?_)), ?_⟩)
       refine f_only 6 rfl (by decide +kernel) rfl rfl rfl (o_call Try.call16 rfl (fun w_ hp_ => LendInts_spec D arcs cd w_ (hD.up0 hp_) hza) ?_)
       rintro _ _ ⟨bi, ci, ri, rfl, rfl, hi1, hi2⟩
       dsimp only [List.cons_append, List.nil_append]
       refine ⟨(by repeat (first | exact Sub.nil | refine Sub.pick ?_ | refine Sub.castO rfl ?_ | refine Sub.skip ?_)), ?_⟩
       refine f_only0 9 rfl (by decide +kernel) rfl rfl (o_storeA Try.sizeOf24 rfl rfl rfl rfl (by first | exact Nat.le_of_ble_eq_true rfl | (simp; done) | (simp; omega)) [.int .i64 N, .slice (some ⟨bg, 0, none⟩) l.length cg] rfl ⟨(by repeat (first | exact Sub.nil | refine Sub.pick ?_ | refine Sub.castO rfl ?_ | refine Sub.skip ?_)), ?_⟩)
       refine f_only0 10 rfl (by decide +kernel) rfl rfl (o_storeA Try.sizeOf28 rfl rfl rfl rfl (by first | exact Nat.le_of_ble_eq_true rfl | (simp; done) | (simp; omega)) [.slice A1 bs.length c1, .slice A2 R1.length c2] rfl ⟨(by repeat (first | exact Sub.nil | refine Sub.pick ?_ | refine Sub.castO rfl ?_ | refine Sub.skip ?_)), ?_⟩)
       refine f_only 11 rfl (by decide +kernel) rfl rfl rfl ((o_assign rfl).does ⟨(by repeat (first | exact Sub.nil | refine Sub.pick ?_ | refine Sub.castO rfl ?_ | refine Sub.skip ?_)), ?_⟩)
       refine f_over (by decide +kernel) ?_
       refine f_tn (kh5 _ _ ((b7, b8), (bg, cg, rg), (bi, ci, ri), (R1, A1, c1, A2, c2, mb, mc, ms)) ⟨⟨hg1, hg2, hi1, hi2⟩, hob, hoc, hRI, hRL⟩ ?_ ?_ ?_)
       · exact (by repeat (first | exact trivial | refine ⟨rfl, ?_⟩))
       · exact (by repeat (first | exact trivial | refine ⟨rfl, ?_⟩))
       · repeat (first | exact Sub.nil | refine Sub.pick ?_ | refine Sub.castO rfl ?_ | refine Sub.skip ?_)
     ·
      refine (o_alloc Try.zeroValue28 rfl fun b8 => ⟨(by repeat (first | exact Sub.nil | refine Sub.pick ?_ | refine Sub.castO rfl ?_ | refine Sub.skip ?_)), ?_⟩)
      refine f_two 6 7 rfl rfl (by decide +kernel) rfl rfl rfl rfl rfl rfl ?_ ?_
      ·
       refine (o_call Try.call16 rfl (fun w_ hp_ => LendInts_spec D arcs cd w_ (hD.up0 hp_) hza) ?_)
       rintro _ _ ⟨bi, ci, ri, rfl, rfl, hi1, hi2⟩
       dsimp only [List.cons_append, List.nil_append]
       refine ⟨(by repeat (first | exact Sub.nil | refine Sub.pick ?_ | refine Sub.castO rfl ?_ | refine Sub.skip ?_)), ?_⟩
       refine f_only 7 rfl (by decide +kernel) rfl rfl rfl (o_alloc Try.zeroValue24 rfl fun b7 => ⟨(by repeat (first | exact Sub.nil | refine Sub.pick ?_ | refine Sub.castO rfl ?_ | refine Sub.skip ?_)), ?_⟩)
       refine f_only0 9 rfl (by decide +kernel) rfl rfl (o_storeA Try.sizeOf24 rfl rfl rfl rfl (by first | exact Nat.le_of_ble_eq_true rfl | (simp; done) | (simp; omega)) [.int .i64 N, .slice (some ⟨bg, 0, none⟩) l.length cg] rfl ⟨(by repeat (first | exact Sub.nil | refine Sub.pick ?_ | refine Sub.castO rfl ?_ | refine Sub.skip ?_)), ?_⟩)
       refine f_only0 10 rfl (by decide +kernel) rfl rfl (o_storeA Try.sizeOf28 rfl rfl rfl rfl (by first | exact Nat.le_of_ble_eq_true rfl | (simp; done) | (simp; omega)) [.slice A1 bs.length c1, .slice A2 R1.length c2] rfl ⟨(by repeat (first | exact Sub.nil | refine Sub.pick ?_ | refine Sub.castO rfl ?_ | refine Sub.skip ?_)), ?_⟩)
       refine f_only 11 rfl (by decide +kernel) rfl rfl rfl ((o_assign rfl).does ⟨(by repeat (first | exact Sub.nil | refine Sub.pick ?_ | refine Sub.castO rfl ?_ | refine Sub.skip ?_)), ?_⟩)
       refine f_over (by decide +kernel) ?_
       refine f_tn (kh5 _ _ ((b7, b8), (bg, cg, rg), (bi, ci, ri), (R1, A1, c1, A2, c2, mb, mc, ms)) ⟨⟨hg1, hg2, hi1, hi2⟩, hob, hoc, hRI, hRL⟩ ?_ ?_ ?_)
       · exact (by repeat (first | exact trivial | refine ⟨rfl, ?_⟩))
       · exact (by repeat (first | exact trivial | refine ⟨rfl, ?_⟩))
       · repeat (first | exact Sub.nil | refine Sub.pick ?_ | refine Sub.castO rfl ?_ | refine Sub.skip ?_)
      ·
       refine (o_alloc Try.zeroValue24 rfl fun b7 => ⟨(by repeat (first | exact Sub.nil | refine Sub.pick ?_ | refine Sub.castO rfl ?_ | refine Sub.skip ?_)), ?_⟩)
       refine f_only 6 rfl (by decide +kernel) rfl rfl rfl (o_call Try.call16 rfl (fun w_ hp_ => LendInts_spec D arcs cd w_ (hD.up0 hp_) hza) ?_)
       rintro _ _ ⟨bi, ci, ri, rfl, rfl, hi1, hi2⟩
       dsimp only [List.cons_append, List.nil_append]
       refine ⟨(by repeat (first | exact Sub.nil | refine Sub.pick ?_ | refine Sub.castO rfl ?_ | refine Sub.skip ?_)), ?_⟩
       refine f_only0 9 rfl (by decide +kernel) rfl rfl (o_storeA Try.sizeOf24 rfl rfl rfl rfl (by first | exact Nat.le_of_ble_eq_true rfl | (simp; done) | (simp; omega)) [.int .i64 N, .slice (some ⟨bg, 0, none⟩) l.length cg] rfl ⟨(by repeat (first | exact Sub.nil | refine Sub.pick ?_ | refine Sub.castO rfl ?_ | refine Sub.skip ?_)), ?_⟩)
       refine f_only0 10 rfl (by decide +kernel) rfl rfl (o_storeA Try.sizeOf28 rfl rfl rfl rfl (by first | exact Nat.le_of_ble_eq_true rfl | (simp; done) | (simp; omega)) [.slice A1 bs.length c1, .slice A2 R1.length c2] rfl ⟨(by repeat (first | exact Sub.nil | refine Sub.pick ?_ | refine Sub.castO rfl ?_ | refine Sub.skip ?_)), ?_⟩)
       refine f_only 11 rfl (by decide +kernel) rfl rfl rfl ((o_assign rfl).does ⟨(by repeat (first | exact Sub.nil | refine Sub.pick ?_ | refine Sub.castO rfl ?_ | refine Sub.skip ?_)), ?_⟩)
       refine f_over (by decide +kernel) ?_
       refine f_tn (kh5 _ _ ((b7, b8), (bg, cg, rg), (bi, ci, ri), (R1, A1, c1, A2, c2, mb, mc, ms)) ⟨⟨hg1, hg2, hi1, hi2⟩, hob, hoc, hRI, hRL⟩ ?_ ?_ ?_)
       · exact (by repeat (first | exact trivial | refine ⟨rfl, ?_⟩))
       · exact (by repeat (first | exact trivial | refine ⟨rfl, ?_⟩))
       · repeat (first | exact Sub.nil | refine Sub.pick ?_ | refine Sub.castO rfl ?_ | refine Sub.skip ?_)
    ·
     refine (o_alloc Try.zeroValue24 rfl fun b7 => ⟨(by repeat (first | exact Sub.nil | refine Sub.pick ?_ | refine Sub.castO rfl ?_ | refine Sub.skip ?_)), ?_⟩)
     refine f_two 3 8 rfl rfl (by decide +kernel) rfl rfl rfl rfl rfl rfl ?_ ?_
     ·
      refine (o_call Try.call15 rfl (fun w_ hp_ => CopyNest_spec Ab bs cb Ac R cc w_ (hn.up0 hp_) hzb hzc hzr) ?_)
      rintro _ _ ⟨R1, A1, c1, A2, c2, mb, mc, ms, rfl, rfl, hob, hoc, hRI, hRL⟩
      dsimp only [List.cons_append, List.nil_append]
      refine ⟨(by repeat (first | exact Sub.nil | refine Sub.pick ?_ | refine Sub.castO rfl ?_ | refine Sub.skip ?_)), ?_⟩
      refine f_two 6 8 rfl rfl (by decide +kernel) rfl rfl rfl rfl rfl rfl ?_ ?_
      ·
       refine (o_call Try.call16 rfl (fun w_ hp_ => LendInts_spec D arcs cd w_ (hD.up0 hp_) hza) ?_)
       rintro _ _ ⟨bi, ci, ri, rfl, rfl, hi1, hi2⟩
       dsimp only [List.cons_append, List.nil_append]
       refine ⟨(by repeat (first | exact Sub.nil | refine Sub.pick ?_ | refine Sub.castO rfl ?_ | refine Sub.skip ?_)), ?_⟩
       refine f_only 8 rfl (by decide +kernel) rfl rfl rfl (o_alloc Try.zeroValue28 rfl fun b8 => ⟨(by repeat (first | exact Sub.nil | refine Sub.pick ?_ | refine Sub.castO rfl ?_ | refine Sub.skip ?_)), ?_⟩)
       refine f_only0 9 rfl (by decide +kernel) rfl rfl (o_storeA Try.sizeOf24 rfl rfl rfl rfl (by first | exact Nat.le_of_ble_eq_true rfl | (simp; done) | (simp; omega)) [.int .i64 N, .slice (some ⟨bg, 0, none⟩) l.length cg] rfl ⟨(by repeat (first | exact Sub.nil | refine Sub.pick ?_ | refine Sub.castO rfl ?_ | refine Sub.skip ?_)), ?_⟩)
       refine f_only0 10 rfl (by decide +kernel) rfl rfl (o_storeA Try.sizeOf28 rfl rfl rfl rfl (by first | exact Nat.le_of_ble_eq_true rfl | (simp; done) | (simp; omega)) [.slice A1 bs.length c1, .slice A2 R1.length c2] rfl ⟨(by repeat (first | exact Sub.nil | refine Sub.pick ?_ | refine Sub.castO rfl ?_ | refine Sub.skip ?_)), ?_⟩)
       refine f_only 11 rfl (by decide +kernel) rfl rfl rfl ((o_assign rfl).does ⟨(by repeat (first | exact Sub.nil | refine Sub.pick ?_ | refine Sub.castO rfl ?_ | refine Sub.skip ?_)), ?_⟩)
       refine f_over (by decide +kernel) ?_
       refine f_tn (kh5 _ _ ((b7, b8), (bg, cg, rg), (bi, ci, ri), (R1, A1, c1, A2, c2, mb, mc, ms)) ⟨⟨hg1, hg2, hi1, hi2⟩, hob, hoc, hRI, hRL⟩ ?_ ?_ ?_)
       · exact (by repeat (first | exact trivial | refine ⟨rfl, ?_⟩))
       · exact (by repeat (first | exact trivial | refine ⟨rfl, ?_⟩))
       · repeat (first | exact Sub.nil | refine Sub.pick ?_ | refine Sub.castO rfl ?_ | refine Sub.skip ?_)
      ·
       refine (o_alloc Try.zeroValue28 rfl fun b8 => ⟨(by repeat (first | exact Sub.nil | refine Sub.pick ?_ | refine Sub.castO rfl ?_ | refine Sub.skip ?_)), ?_⟩)
       refine f_only 6 rfl (by decide +kernel) rfl rfl rfl (o_call Try.call16 rfl (fun w_ hp_ => LendInts_spec D arcs cd w_ (hD.up0 hp_) hza) ?_)
       rintro _ _ ⟨bi, ci, ri, rfl, rfl, hi1, hi2⟩
       dsimp only [List.cons_append, List.nil_append]
       refine ⟨(by repeat (first | exact Sub.nil | refine Sub.pick ?_ | refine Sub.castO rfl ?_ | refine Sub.skip ?_)), ?_⟩
       refine f_only0 9 rfl (by decide +kernel) rfl rfl (o_storeA Try.sizeOf24 rfl rfl rfl rfl (by first | exact Nat.le_of_ble_eq_true rfl | (simp; done) | (simp; omega)) [.int .i64 N, .slice (some ⟨bg, 0, none⟩) l.length cg] rfl ⟨(by repeat (first | exact Sub.nil | refine Sub.pick ?_ | refine Sub.castO rfl ?_ | refine Sub.skip ?_)), ?_⟩)
       refine f_only0 10 rfl (by decide +kernel) rfl rfl (o_storeA Try.sizeOf28 rfl rfl rfl rfl (by first | exact Nat.le_of_ble_eq_true rfl | (simp; done) | (simp; omega)) [.slice A1 bs.length c1, .slice A2 R1.length c2] rfl ⟨(by repeat (first | exact Sub.nil | refine Sub.pick ?_ | refine Sub.castO rfl ?_ | refine Sub.skip ?_)), ?_⟩)
       refine f_only 11 rfl (by decide +kernel) rfl rfl rfl ((o_assign rfl).does ⟨(by repeat (first | exact Sub.nil | refine Sub.pick ?_ | refine Sub.castO rfl ?_ | refine Sub.skip ?_)), ?_⟩)
       refine f_over (by decide +kernel) ?_
       refine f_tn (kh5 _ _ ((b7, b8), (bg, cg, rg), (bi, ci, ri), (R1, A1, c1, A2, c2, mb, mc, ms)) ⟨⟨hg1, hg2, hi1, hi2⟩, hob, hoc, hRI, hRL⟩ ?_ ?_ ?_)
       · exact (by repeat (first | exact trivial | refine ⟨rfl, ?_⟩))
       · exact (by repeat (first | exact trivial | refine ⟨rfl, ?_⟩))
       · repeat (first | exact Sub.nil | refine Sub.pick ?_ | refine Sub.castO rfl ?_ | refine Sub.skip ?_)
     ·
      refine (o_alloc Try.zeroValue28 rfl fun b8 => ⟨(by repeat (first | exact Sub.nil | refine Sub.pick ?_ | refine Sub.castO rfl ?_ | refine Sub.skip ?_)), ?_⟩)
      refine f_only 3 rfl (by decide +kernel) rfl rfl rfl (o_call Try.call15 rfl (fun w_ hp_ => CopyNest_spec Ab bs cb Ac R cc w_ (hn.up0 hp_) hzb hzc hzr) ?_)
      rintro _ _ ⟨R1, A1, c1, A2, c2, mb, mc, ms, rfl, rfl, hob, hoc, hRI, hRL⟩
      dsimp only [List.cons_append, List.nil_append]
      refine ⟨(by repeat (first | exact Sub.nil | refine Sub.pick ?_ | refine Sub.castO rfl ?_ | refine Sub.skip ?_)), ?_⟩
      refine f_only 6 rfl (by decide +kernel) rfl rfl rfl (o_call Try.call16 rfl (fun w_ hp_ => LendInts_spec D arcs cd w_ (hD.up0 hp_) hza) ?_)
      rintro _ _ ⟨bi, ci, ri, rfl, rfl, hi1, hi2⟩
      dsimp only [List.cons_append, List.nil_append]
      refine ⟨(by repeat (first | exact Sub.nil | refine Sub.pick ?_ | refine Sub.castO rfl ?_ | refine Sub.skip ?_)), ?_⟩
      refine f_only0 9 rfl (by decide +kernel) rfl rfl (o_storeA Try.sizeOf24 rfl rfl rfl rfl (by first | exact Nat.le_of_ble_eq_true rfl | (simp; done) | (simp; omega)) [.int .i64 N, .slice (some ⟨bg, 0, none⟩) l.length cg] rfl ⟨(by repeat (first | exact Sub.nil | refine Sub.pick ?_ | refine Sub.castO rfl ?_ | refine Sub.skip ?_)), ?_⟩)
      refine f_only0 10 rfl (by decide +kernel) rfl rfl (o_storeA Try.sizeOf28 rfl rfl rfl rfl (by first | exact Nat.le_of_ble_eq_true rfl | (simp; done) | (simp; omega)) [.slice A1 bs.length c1, .slice A2 R1.length c2] rfl ⟨(by repeat (first | exact Sub.nil | refine Sub.pick ?_ | refine Sub.castO rfl ?_ | refine Sub.skip ?_)), ?_⟩)
      refine f_only 11 rfl (by decide +kernel) rfl rfl rfl ((o_assign rfl).does ⟨(by repeat (first | exact Sub.nil | refine Sub.pick ?_ | refine Sub.castO rfl ?_ | refine Sub.skip ?_)), ?_⟩)
      refine f_over (by decide +kernel) ?_
      refine f_tn (kh5 _ _ ((b7, b8), (bg, cg, rg), (bi, ci, ri), (R1, A1, c1, A2, c2, mb, mc, ms)) ⟨⟨hg1, hg2, hi1, hi2⟩, hob, hoc, hRI, hRL⟩ ?_ ?_ ?_)
      · exact (by repeat (first | exact trivial | refine ⟨rfl, ?_⟩))
      · exact (by repeat (first | exact trivial | refine ⟨rfl, ?_⟩))
      · repeat (first | exact Sub.nil | refine Sub.pick ?_ | refine Sub.castO rfl ?_ | refine Sub.skip ?_)
    ·
     refine (o_alloc Try.zeroValue28 rfl fun b8 => ⟨(by repeat (first | exact Sub.nil | refine Sub.pick ?_ | refine Sub.castO rfl ?_ | refine Sub.skip ?_)), ?_⟩)
     refine f_two 3 7 rfl rfl (by decide +kernel) rfl rfl rfl rfl rfl rfl ?_ ?_
     ·
      refine (o_call Try.call15 rfl (fun w_ hp_ => CopyNest_spec Ab bs cb Ac R cc w_ (hn.up0 hp_) hzb hzc hzr) ?_)
      rintro _ _ ⟨R1, A1, c1, A2, c2, mb, mc, ms, rfl, rfl, hob, hoc, hRI, hRL⟩
      dsimp only [List.cons_append, List.nil_append]
      refine ⟨(by repeat (first | exact Sub.nil | refine Sub.pick ?_ | refine Sub.castO rfl ?_ | refine Sub.skip ?_)), ?_⟩
      refine f_two 6 7 rfl rfl (by decide +kernel) rfl rfl rfl rfl rfl rfl ?_ ?_
      ·
       refine (o_call Try.call16 rfl (fun w_ hp_ => LendInts_spec D arcs cd w_ (hD.up0 hp_) hza) ?_)
       rintro _ _ ⟨bi, ci, ri, rfl, rfl, hi1, hi2⟩
       dsimp only [List.cons_append, List.nil_append]
       refine ⟨(by repeat (first | exact Sub.nil | refine Sub.pick ?_ | refine Sub.castO rfl ?_ | refine Sub.skip ?_)), ?_⟩
       refine f_only 7 rfl (by decide +kernel) rfl rfl rfl (o_alloc Try.zeroValue24 rfl fun b7 => ⟨(by repeat (first | exact Sub.nil | refine Sub.pick ?_ | refine Sub.castO rfl ?_ | refine Sub.skip ?_)), ?_⟩)
       refine f_only0 9 rfl (by decide +kernel) rfl rfl (o_storeA Try.sizeOf24 rfl rfl rfl rfl (by first | exact Nat.le_of_ble_eq_true rfl | (simp; done) | (simp; omega)) [.int .i64 N, .slice (some ⟨bg, 0, none⟩) l.length cg] rfl ⟨(by repeat (first | exact Sub.nil | refine Sub.pick ?_ | refine Sub.castO rfl ?_ | refine Sub.skip ?_)), ?_⟩)
       refine f_only0 10 rfl (by decide +kernel) rfl rfl (o_storeA Try.sizeOf28 rfl rfl rfl rfl (by first | exact Nat.le_of_ble_eq_true rfl | (simp; done) | (simp; omega)) [.slice A1 bs.length c1, .slice A2 R1.length c2] rfl ⟨(by repeat (first | exact Sub.nil | refine Sub.pick ?_ | refine Sub.castO rfl ?_ | refine Sub.skip ?_)), ?_⟩)
       refine f_only 11 rfl (by decide +kernel) rfl rfl rfl ((o_assign rfl).does ⟨(by repeat (first | exact Sub.nil | refine Sub.pick ?_ | refine Sub.castO rfl ?_ | refine Sub.skip ?_)), ?_⟩)
       refine f_over (by decide +kernel) ?_
       refine f_tn (kh5 _ _ ((b7, b8), (bg, cg, rg), (bi, ci, ri), (R1, A1, c1, A2, c2, mb, mc, ms)) ⟨⟨hg1, hg2, hi1, hi2⟩, hob, hoc, hRI, hRL⟩ ?_ ?_ ?_)
       · exact (by repeat (first | exact trivial | refine ⟨rfl, ?_⟩))
       · exact (by repeat (first | exact trivial | refine ⟨rfl, ?_⟩))
       · repeat (first | exact Sub.nil | refine Sub.pick ?_ | refine Sub.castO rfl ?_ | refine Sub.skip ?_)
      ·
       refine (o_alloc Try.zeroValue24 rfl fun b7 => ⟨(by repeat (first | exact Sub.nil | refine Sub.pick ?_ | refine Sub.castO rfl ?_ | refine Sub.skip ?_)), ?_⟩)
       refine f_only 6 rfl (by decide +kernel) rfl rfl rfl (o_call Try.call16 rfl (fun w_ hp_ => LendInts_spec D arcs cd w_ (hD.up0 hp_) hza) ?_)
       rintro _ _ ⟨bi, ci, ri, rfl, rfl, hi1, hi2⟩
       dsimp only [List.cons_append, List.nil_append]
       refine ⟨(by repeat (first | exact Sub.nil | refine Sub.pick ?_ | refine Sub.castO rfl ?_ | refine Sub.skip ?_)), ?_⟩
       refine f_only0 9 rfl (by decide +kernel) rfl rfl (o_storeA Try.sizeOf24 rfl rfl rfl rfl (by first | exact Nat.le_of_ble_eq_true rfl | (simp; done) | (simp; omega)) [.int .i64 N, .slice (some ⟨bg, 0, none⟩) l.length cg] rfl ⟨(by repeat (first | exact Sub.nil | refine Sub.pick ?_ | refine Sub.castO rfl ?_ | refine Sub.skip ?_)), ?_⟩)
       refine f_only0 10 rfl (by decide +kernel) rfl rfl (o_storeA Try.sizeOf28 rfl rfl rfl rfl (by first | exact Nat.le_of_ble_eq_true rfl | (simp; done) | (simp; omega)) [.slice A1 bs.length c1, .slice A2 R1.length c2] rfl ⟨(by repeat (first | exact Sub.nil | refine Sub.pick ?_ | refine Sub.castO rfl ?_ | refine Sub.skip ?_)), ?_⟩)
       refine f_only 11 rfl (by decide +kernel) rfl rfl rfl ((o_assign rfl).does ⟨(by repeat (first | exact Sub.nil | refine Sub.pick ?_ | refine Sub.castO rfl ?_ | refine Sub.skip ?_)), ?_⟩)
       refine f_over (by decide +kernel) ?_
       refine f_tn (kh5 _ _ ((b7, b8), (bg, cg, rg), (bi, ci, ri), (R1, A1, c1, A2, c2, mb, mc, ms)) ⟨⟨hg1, hg2, hi1, hi2⟩, hob, hoc, hRI, hRL⟩ ?_ ?_ ?_)
       · exact (by repeat (first | exact trivial | refine ⟨rfl, ?_⟩))
       · exact (by repeat (first | exact trivial | refine ⟨rfl, ?_⟩))
       · repeat (first | exact Sub.nil | refine Sub.pick ?_ | refine Sub.castO rfl ?_ | refine Sub.skip ?_)
     ·
      refine (o_alloc Try.zeroValue24 rfl fun b7 => ⟨(by repeat (first | exact Sub.nil | refine Sub.pick ?_ | refine Sub.castO rfl ?_ | refine Sub.skip ?_)), ?_⟩)
      refine f_only 3 rfl (by decide +kernel) rfl rfl rfl (o_call Try.call15 rfl (fun w_ hp_ => CopyNest_spec Ab bs cb Ac R cc w_ (hn.up0 hp_) hzb hzc hzr) ?_)
      rintro _ _ ⟨R1, A1, c1, A2, c2, mb, mc, ms, rfl, rfl, hob, hoc, hRI, hRL⟩
      dsimp only [List.cons_append, List.nil_append]
      refine ⟨(by repeat (first | exact Sub.nil | refine Sub.pick ?_ | refine Sub.castO rfl ?_ | refine Sub.skip ?_)), ?_⟩
      refine f_only 6 rfl (by decide +kernel) rfl rfl rfl (o_call Try.call16 rfl (fun w_ hp_ => LendInts_spec D arcs cd w_ (hD.up0 hp_) hza) ?_)
      rintro _ _ ⟨bi, ci, ri, rfl, rfl, hi1, hi2⟩
      dsimp only [List.cons_append, List.nil_append]
      refine ⟨(by repeat (first | exact Sub.nil | refine Sub.pick ?_ | refine Sub.castO rfl ?_ | refine Sub.skip ?_)), ?_⟩
      refine f_only0 9 rfl (by decide +kernel) rfl rfl (o_storeA Try.sizeOf24 rfl rfl rfl rfl (by first | exact Nat.le_of_ble_eq_true rfl | (simp; done) | (simp; omega)) [.int .i64 N, .slice (some ⟨bg, 0, none⟩) l.length cg] rfl ⟨(by repeat (first | exact Sub.nil | refine Sub.pick ?_ | refine Sub.castO rfl ?_ | refine Sub.skip ?_)), ?_⟩)
      refine f_only0 10 rfl (by decide +kernel) rfl rfl (o_storeA Try.sizeOf28 rfl rfl rfl rfl (by first | exact Nat.le_of_ble_eq_true rfl | (simp; done) | (simp; omega)) [.slice A1 bs.length c1, .slice A2 R1.length c2] rfl ⟨(by repeat (first | exact Sub.nil | refine Sub.pick ?_ | refine Sub.castO rfl ?_ | refine Sub.skip ?_)), ?_⟩)
      refine f_only 11 rfl (by decide +kernel) rfl rfl rfl ((o_assign rfl).does ⟨(by repeat (first | exact Sub.nil | refine Sub.pick ?_ | refine Sub.castO rfl ?_ | refine Sub.skip ?_)), ?_⟩)
      refine f_over (by decide +kernel) ?_
      refine f_tn (kh5 _ _ ((b7, b8), (bg, cg, rg), (bi, ci, ri), (R1, A1, c1, A2, c2, mb, mc, ms)) ⟨⟨hg1, hg2, hi1, hi2⟩, hob, hoc, hRI, hRL⟩ ?_ ?_ ?_)
      · exact (by repeat (first | exact trivial | refine ⟨rfl, ?_⟩))
      · exact (by repeat (first | exact trivial | refine ⟨rfl, ?_⟩))
      · repeat (first | exact Sub.nil | refine Sub.pick ?_ | refine Sub.castO rfl ?_ | refine Sub.skip ?_)
   ·
    refine (o_alloc Try.zeroValue24 rfl fun b7 => ⟨(by repeat (first | exact Sub.nil | refine Sub.pick ?_ | refine Sub.castO rfl ?_ | refine Sub.skip ?_)), ?_⟩)
    refine f_two 1 8 rfl rfl (by decide +kernel) rfl rfl rfl rfl rfl rfl ?_ ?_
    ·
     refine (o_call Try.call14 rfl (fun w_ hp_ => LendGraph_spec N A l cap w_ (hr.up0 hp_) hz) ?_)
     rintro _ _ ⟨bg, cg, rg, rfl, rfl, hg1, hg2⟩
     dsimp only [List.cons_append, List.nil_append]
     refine ⟨(by repeat (first | exact Sub.nil | refine Sub.pick ?_ | refine Sub.castO rfl ?_ | refine Sub.skip ?_)), ?_⟩
     refine f_two 3 8 rfl rfl (by decide +kernel) rfl rfl rfl rfl rfl rfl ?_ ?_
     ·
      refine (o_call Try.call15 rfl (fun w_ hp_ => CopyNest_spec Ab bs cb Ac R cc w_ (hn.up0 hp_) hzb hzc hzr) ?_)
      rintro _ _ ⟨R1, A1, c1, A2, c2, mb, mc, ms, rfl, rfl, hob, hoc, hRI, hRL⟩
      dsimp only [List.cons_append, List.nil_append]
      refine ⟨(by repeat (first | exact Sub.nil | refine Sub.pick ?_ | refine Sub.castO rfl ?_ | refine Sub.skip ?_)), ?_⟩
      refine f_two 6 8 rfl rfl (by decide +kernel) rfl rfl rfl rfl rfl rfl ?_ ?_
      ·
       refine (o_call Try.call16 rfl (fun w_ hp_ => LendInts_spec D arcs cd w_ (hD.up0 hp_) hza) ?_)
       rintro _ _ ⟨bi, ci, ri, rfl, rfl, hi1, hi2⟩
       dsimp only [List.cons_append, List.nil_append]
       refine ⟨(by repeat (first | exact Sub.nil | refine Sub.pick ?_ | refine Sub.castO rfl ?_ | refine Sub.skip ?_)), ?_⟩
       refine f_only 8 rfl (by decide +kernel) rfl rfl rfl (o_alloc Try.zeroValue28 rfl fun b8 => ⟨(by repeat (first | exact Sub.nil | refine Sub.pick ?_ | refine Sub.castO rfl ?_ | refine Sub.skip ?_)), ?_⟩)
       refine f_only0 9 rfl (by decide +kernel) rfl rfl (o_storeA Try.sizeOf24 rfl rfl rfl rfl (by first | exact Nat.le_of_ble_eq_true rfl | (simp; done) | (simp; omega)) [.int .i64 N, .slice (some ⟨bg, 0, none⟩) l.length cg] rfl ⟨(by repeat (first | exact Sub.nil | refine Sub.pick ?_ | refine Sub.castO rfl ?_ | refine Sub.skip ?_)), ?_⟩)
       refine f_only0 10 rfl (by decide +kernel) rfl rfl (o_storeA Try.sizeOf28 rfl rfl rfl rfl (by first | exact Nat.le_of_ble_eq_true rfl | (simp; done) | (simp; omega)) [.slice A1 bs.length c1, .slice A2 R1.length c2] rfl ⟨(by repeat (first | exact Sub.nil | refine Sub.pick ?_ | refine Sub.castO rfl ?_ | refine Sub.skip ?_)), ?_⟩)
       refine f_only 11 rfl (by decide +kernel) rfl rfl rfl ((o_assign rfl).does ⟨(by repeat (first | exact Sub.nil | refine Sub.pick ?_ | refine Sub.castO rfl ?_ | refine Sub.skip ?_)), ?_⟩)
       refine f_over (by decide +kernel) ?_
       refine f_tn (kh5 _ _ ((b7, b8), (bg, cg, rg), (bi, ci, ri), (R1, A1, c1, A2, c2, mb, mc, ms)) ⟨⟨hg1, hg2, hi1, hi2⟩, hob, hoc, hRI, hRL⟩ ?_ ?_ ?_)
       · exact (by repeat (first | exact trivial | refine ⟨rfl, ?_⟩))
       · exact (by repeat (first | exact trivial | refine ⟨rfl, ?_⟩))
       · repeat (first | exact Sub.nil | refine Sub.pick ?_ | refine Sub.castO rfl ?_ | refine Sub.skip ?_)
      ·
       refine (o_alloc Try.zeroValue28 rfl fun b8 => ⟨(by repeat (first | exact Sub.nil | refine Sub.pick ?_ | refine Sub.castO rfl ?_ | refine Sub.skip ?_)), ?_⟩)
       refine f_only 6 rfl (by decide +kernel) rfl rfl rfl (o_call Try.call16 rfl (fun w_ hp_ => LendInts_spec D arcs cd w_ (hD.up0 hp_) hza) ?_)
       rintro _ _ ⟨bi, ci, ri, rfl, rfl, hi1, hi2⟩
       dsimp only [List.cons_append, List.nil_append]
       refine ⟨(by repeat (first | exact Sub.nil | refine Sub.pick ?_ | refine Sub.castO rfl ?_ | refine Sub.skip ?_)), ?_⟩
       refine f_only0 9 rfl (by decide +kernel) rfl rfl (o_storeA Try.sizeOf24 rfl rfl rfl rfl (by first | exact Nat.le_of_ble_eq_true rfl | (simp; done) | (simp; omega)) [.int .i64 N, .slice (some ⟨bg, 0, none⟩) l.length cg] rfl ⟨(by repeat (first | exact Sub.nil | refine Sub.pick ?_ | refine Sub.castO rfl ?_ | refine Sub.skip ?_)), ?_⟩)
       refine f_only0 10 rfl (by decide +kernel) rfl rfl (o_storeA Try.sizeOf28 rfl rfl rfl rfl (by first | exact Nat.le_of_ble_eq_true rfl | (simp; done) | (simp; omega)) [.slice A1 bs.length c1, .slice A2 R1.length c2] rfl ⟨(by repeat (first | exact Sub.nil | refine Sub.pick ?_ | refine Sub.castO rfl ?_ | refine Sub.skip ?_)), ?_⟩)
       refine f_only 11 rfl (by decide +kernel) rfl rfl rfl ((o_assign rfl).does ⟨(by repeat (first | exact Sub.nil | refine Sub.pick ?_ | refine Sub.castO rfl ?_ | refine Sub.skip ?_)), ?_⟩)
       refine f_over (by decide +kernel) ?_
       refine f_tn (kh5 _ _ ((b7, b8), (bg, cg, rg), (bi, ci, ri), (R1, A1, c1, A2, c2, mb, mc, ms)) ⟨⟨hg1, hg2, hi1, hi2⟩, hob, hoc, hRI, hRL⟩ ?_ ?_ ?_)
       · exact (by repeat (first | exact trivial | refine ⟨rfl, ?_⟩))
       · exact (by repeat (first | exact trivial | refine ⟨rfl, ?_⟩))
       · repeat (first | exact Sub.nil | refine Sub.pick ?_ | refine Sub.castO rfl ?_ | refine Sub.skip ?_)
     ·
      refine (o_alloc Try.zeroValue28 rfl fun b8 => ⟨(by repeat (first | exact Sub.nil | refine Sub.pick ?_ | refine Sub.castO rfl ?_ | refine Sub.skip ?_)), ?_⟩)
      refine f_only 3 rfl (by decide +kernel) rfl rfl rfl (o_call Try.call15 rfl (fun w_ hp_ => CopyNest_spec Ab bs cb Ac R cc w_ (hn.up0 hp_) hzb hzc hzr) ?_)
      rintro _ _ ⟨R1, A1, c1, A2, c2, mb, mc, ms, rfl, rfl, hob, hoc, hRI, hRL⟩
      dsimp only [List.cons_append, List.nil_append]
      refine ⟨(by repeat (first | exact Sub.nil | refine Sub.pick ?_ | refine Sub.castO rfl ?_ | refine Sub.skip ?_)), ?_⟩
      refine f_only 6 rfl (by decide +kernel) rfl rfl rfl (o_call Try.call16 rfl (fun w_ hp_ => LendInts_spec D arcs cd w_ (hD.up0 hp_) hza) ?_)
      rintro _ _ ⟨bi, ci, ri, rfl, rfl, hi1, hi2⟩
      dsimp only [List.cons_append, List.nil_append]
      refine ⟨(by repeat (first | exact Sub.nil | refine Sub.pick ?_ | refine Sub.castO rfl ?_ | refine Sub.skip ?_)), ?_⟩
      refine f_only0 9 rfl (by decide +kernel) rfl rfl (o_storeA Try.sizeOf24 rfl rfl rfl rfl (by first | exact Nat.le_of_ble_eq_true rfl | (simp; done) | (simp; omega)) [.int .i64 N, .slice (some ⟨bg, 0, none⟩) l.length cg] rfl ⟨(by repeat (first | exact Sub.nil | refine Sub.pick ?_ | refine Sub.castO rfl ?_ | refine Sub.skip ?_)), ?_⟩)
      refine f_only0 10 rfl (by decide +kernel) rfl rfl (o_storeA Try.sizeOf28 rfl rfl rfl rfl (by first | exact Nat.le_of_ble_eq_true rfl | (simp; done) | (simp; omega)) [.slice A1 bs.length c1, .slice A2 R1.length c2] rfl ⟨(by repeat (first | exact Sub.nil | refine Sub.pick ?_ | refine Sub.castO rfl ?_ | refine Sub.skip ?_)), ?_⟩)
      refine f_only 11 rfl (by decide +kernel) rfl rfl rfl ((o_assign rfl).does ⟨(by repeat (first | exact Sub.nil | refine Sub.pick ?_ | refine Sub.castO rfl ?_ | refine Sub.skip ?_)), ?_⟩)
      refine f_over (by decide +kernel) ?_
      refine f_tn (kh5 _ _ ((b7, b8), (bg, cg, rg), (bi, ci, ri), (R1, A1, c1, A2, c2, mb, mc, ms)) ⟨⟨hg1, hg2, hi1, hi2⟩, hob, hoc, hRI, hRL⟩ ?_ ?_ ?_)
      · exact (by repeat (first | exact trivial | refine ⟨rfl, ?_⟩))
      · exact (by repeat (first | exact trivial | refine ⟨rfl, ?_⟩))
      · repeat (first | exact Sub.nil | refine Sub.pick ?_ | refine Sub.castO rfl ?_ | refine Sub.skip ?_)
    ·
     refine (o_alloc Try.zeroValue28 rfl fun b8 => ⟨(by repeat (first | exact Sub.nil | refine Sub.pick ?_ | refine Sub.castO rfl ?_ | refine Sub.skip ?_)), ?_⟩)
     refine f_only 1 rfl (by decide +kernel) rfl rfl rfl (o_call Try.call14 rfl (fun w_ hp_ => LendGraph_spec N A l cap w_ (hr.up0 hp_) hz) ?_)
     rintro _ _ ⟨bg, cg, rg, rfl, rfl, hg1, hg2⟩
     dsimp only [List.cons_append, List.nil_append]
     refine ⟨(by repeat (first | exact Sub.nil | refine Sub.pick ?_ | refine Sub.castO rfl ?_ | refine Sub.skip ?_)), ?_⟩
     refine f_only 3 rfl (by decide +kernel) rfl rfl rfl (o_call Try.call15 rfl (fun w_ hp_ => CopyNest_spec Ab bs cb Ac R cc w_ (hn.up0 hp_) hzb hzc hzr) ?_)
     rintro _ _ ⟨R1, A1, c1, A2, c2, mb, mc, ms, rfl, rfl, hob, hoc, hRI, hRL⟩
     dsimp only [List.cons_append, List.nil_append]
     refine ⟨(by repeat (first | exact Sub.nil | refine Sub.pick ?_ | refine Sub.castO rfl ?_ | refine Sub.skip ?_)), ?_⟩
     refine f_only 6 rfl (by decide +kernel) rfl rfl rfl (o_call Try.call16 rfl (fun w_ hp_ => LendInts_spec D arcs cd w_ (hD.up0 hp_) hza) ?_)
     rintro _ _ ⟨bi, ci, ri, rfl, rfl, hi1, hi2⟩
     dsimp only [List.cons_append, List.nil_append]
     refine ⟨(by repeat (first | exact Sub.nil | refine Sub.pick ?_ | refine Sub.castO rfl ?_ | refine Sub.skip ?_)), ?_⟩
     refine f_only0 9 rfl (by decide +kernel) rfl rfl (o_storeA Try.sizeOf24 rfl rfl rfl rfl (by first | exact Nat.le_of_ble_eq_true rfl | (simp; done) | (simp; omega)) [.int .i64 N, .slice (some ⟨bg, 0, none⟩) l.length cg] rfl ⟨(by repeat (first | exact Sub.nil | refine Sub.pick ?_ | refine Sub.castO rfl ?_ | refine Sub.skip ?_)), ?_⟩)
     refine f_only0 10 rfl (by decide +kernel) rfl rfl (o_storeA Try.sizeOf28 rfl rfl rfl rfl (by first | exact Nat.le_of_ble_eq_true rfl | (simp; done) | (simp; omega)) [.slice A1 bs.length c1, .slice A2 R1.length c2] rfl ⟨(by repeat (first | exact Sub.nil | refine Sub.pick ?_ | refine Sub.castO rfl ?_ | refine Sub.skip ?_)), ?_⟩)
     refine f_only 11 rfl (by decide +kernel) rfl rfl rfl ((o_assign rfl).does ⟨(by repeat (first | exact Sub.nil | refine Sub.pick ?_ | refine Sub.castO rfl ?_ | refine Sub.skip ?_)), ?_⟩)
     refine f_over (by decide +kernel) ?_
     refine f_tn (kh5 _ _ ((b7, b8), (bg, cg, rg), (bi, ci, ri), (R1, A1, c1, A2, c2, mb, mc, ms)) ⟨⟨hg1, hg2, hi1, hi2⟩, hob, hoc, hRI, hRL⟩ ?_ ?_ ?_)
     · exact (by repeat (first | exact trivial | refine ⟨rfl, ?_⟩))
     · exact (by repeat (first | exact trivial | refine ⟨rfl, ?_⟩))
     · repeat (first | exact Sub.nil | refine Sub.pick ?_ | refine Sub.castO rfl ?_ | refine Sub.skip ?_)
   ·
    refine (o_alloc Try.zeroValue28 rfl fun b8 => ⟨(by repeat (first | exact Sub.nil | refine Sub.pick ?_ | refine Sub.castO rfl ?_ | refine Sub.skip ?_)), ?_⟩)
    refine f_two 1 7 rfl rfl (by decide +kernel) rfl rfl rfl rfl rfl rfl ?_ ?_
    ·
     refine (o_call Try.call14 rfl (fun w_ hp_ => LendGraph_spec N A l cap w_ (hr.up0 hp_) hz) ?_)
     rintro _ _ ⟨bg, cg, rg, rfl, rfl, hg1, hg2⟩
     dsimp only [List.cons_append, List.nil_append]
     refine ⟨(by repeat (first | exact Sub.nil | refine Sub.pick ?_ | refine Sub.castO rfl ?_ | refine Sub.skip ?_)), ?_⟩
     refine f_two 3 7 rfl rfl (by decide +kernel) rfl rfl rfl rfl rfl rfl ?_ ?_
     ·
      refine (o_call Try.call15 rfl (fun w_ hp_ => CopyNest_spec Ab bs cb Ac R cc w_ (hn.up0 hp_) hzb hzc hzr) ?_)
      rintro _ _ ⟨R1, A1, c1, A2, c2, mb, mc, ms, rfl, rfl, hob, hoc, hRI, hRL⟩
      dsimp only [List.cons_append, List.nil_append]
      refine ⟨(by repeat (first | exact Sub.nil | refine Sub.pick ?_ | refine Sub.castO rfl ?_ | refine Sub.skip ?_)), ?_⟩
      refine f_two 6 7 rfl rfl (by decide +kernel) rfl rfl rfl rfl rfl rfl ?_ ?_
      ·
       refine (o_call Try.call16 rfl (fun w_ hp_ => LendInts_spec D arcs cd w_ (hD.up0 hp_) hza) ?_)
       rintro _ _ ⟨bi, ci, ri, rfl, rfl, hi1, hi2⟩
       dsimp only [List.cons_append, List.nil_append]
       refine ⟨(by repeat (first | exact Sub.nil | refine Sub.pick ?_ | refine Sub.castO rfl ?_ | refine Sub.skip ?_)), ?_⟩
       refine f_only 7 rfl (by decide +kernel) rfl rfl rfl (o_alloc Try.zeroValue24 rfl fun b7 => ⟨(by repeat (first | exact Sub.nil | refine Sub.pick ?_ | refine Sub.castO rfl ?_ | refine Sub.skip ?_)), ?_⟩)
       refine f_only0 9 rfl (by decide +kernel) rfl rfl (o_storeA Try.sizeOf24 rfl rfl rfl rfl (by first | exact Nat.le_of_ble_eq_true rfl | (simp; done) | (simp; omega)) [.int .i64 N, .slice (some ⟨bg, 0, none⟩) l.length cg] rfl ⟨(by repeat (first | exact Sub.nil | refine Sub.pick ?_ | refine Sub.castO rfl ?_ | refine Sub.skip ?_)), ?_⟩)
       refine f_only0 10 rfl (by decide +kernel) rfl rfl (o_storeA Try.sizeOf28 rfl rfl rfl rfl (by first | exact Nat.le_of_ble_eq_true rfl | (simp; done) | (simp; omega)) [.slice A1 bs.length c1, .slice A2 R1.length c2] rfl ⟨(by repeat (first | exact Sub.nil | refine Sub.pick ?_ | refine Sub.castO rfl ?_ | refine Sub.skip ?_)), ?_⟩)
       refine f_only 11 rfl (by decide +kernel) rfl rfl rfl ((o_assign rfl).does ⟨(by repeat (first | exact Sub.nil | refine Sub.pick ?_ | refine Sub.castO rfl ?_ | refine Sub.skip ?_)), ?_⟩)
       refine f_over (by decide +kernel) ?_
       refine f_tn (kh5 _ _ ((b7, b8), (bg, cg, rg), (bi, ci, ri), (R1, A1, c1, A2, c2, mb, mc, ms)) ⟨⟨hg1, hg2, hi1, hi2⟩, hob, hoc, hRI, hRL⟩ ?_ ?_ ?_)
       · exact (by repeat (first | exact trivial | refine ⟨rfl, ?_⟩))
       · exact (by repeat (first | exact trivial | refine ⟨rfl, ?_⟩))
       · repeat (first | exact Sub.nil | refine Sub.pick ?_ | refine Sub.castO rfl ?_ | refine Sub.skip ?_)
      ·
       refine (o_alloc Try.zeroValue24 rfl fun b7 => ⟨(by repeat (first | exact Sub.nil | refine Sub.pick ?_ | refine Sub.castO rfl ?_ | refine Sub.skip ?_)), ?_⟩)
       refine f_only 6 rfl (by decide +kernel) rfl rfl rfl (o_call Try.call16 rfl (fun w_ hp_ => LendInts_spec D arcs cd w_ (hD.up0 hp_) hza) ?_)
       rintro _ _ ⟨bi, ci, ri, rfl, rfl, hi1, hi2⟩
       dsimp only [List.cons_append, List.nil_append]
       refine ⟨(by repeat (first | exact Sub.nil | refine Sub.pick ?_ | refine Sub.castO rfl ?_ | refine Sub.skip ?_)), ?_⟩
       refine f_only0 9 rfl (by decide +kernel) rfl rfl (o_storeA Try.sizeOf24 rfl rfl rfl rfl (by first | exact Nat.le_of_ble_eq_true rfl | (simp; done) | (simp; omega)) [.int .i64 N, .slice (some ⟨bg, 0, none⟩) l.length cg] rfl ⟨(by repeat (first | exact Sub.nil | refine Sub.pick ?_ | refine Sub.castO rfl ?_ | refine Sub.skip ?_)), ?_⟩)
       refine f_only0 10 rfl (by decide +kernel) rfl rfl (o_storeA Try.sizeOf28 rfl rfl rfl rfl (by first | exact Nat.le_of_ble_eq_true rfl | (simp; done) | (simp; omega)) [.slice A1 bs.length c1, .slice A2 R1.length c2] rfl ⟨(by repeat (first | exact Sub.nil | refine Sub.pick ?_ | refine Sub.castO rfl ?_ | refine Sub.skip ?_)), ?_⟩)
       refine f_only 11 rfl (by decide +kernel) rfl rfl rfl ((o_assign rfl).does ⟨(by repeat (first | exact Sub.nil | refine Sub.pick ?_ | refine Sub.castO rfl ?_ | refine Sub.skip ?_)), ?_⟩)
       refine f_over (by decide +kernel) ?_
       refine f_tn (kh5 _ _ ((b7, b8), (bg, cg, rg), (bi, ci, ri), (R1, A1, c1, A2, c2, mb, mc, ms)) ⟨⟨hg1, hg2, hi1, hi2⟩, hob, hoc, hRI, hRL⟩ ?_ ?_ ?_)
       · exact (by repeat (first | exact trivial | refine ⟨rfl, ?_⟩))
       · exact (by repeat (first | exact trivial | refine ⟨rfl, ?_⟩))
       · repeat (first | exact Sub.nil | refine Sub.pick ?_ | refine Sub.castO rfl ?_ | refine Sub.skip ?_)
     ·
      refine (o_alloc Try.zeroValue24 rfl fun b7 => ⟨(by repeat (first | exact Sub.nil | refine Sub.pick ?_ | refine Sub.castO rfl ?_ | refine Sub.skip ?_)), ?_⟩)
      refine f_only 3 rfl (by decide +kernel) rfl rfl rfl (o_call Try.call15 rfl (fun w_ hp_ => CopyNest_spec Ab bs cb Ac R cc w_ (hn.up0 hp_) hzb hzc hzr) ?_)
      rintro _ _ ⟨R1, A1, c1, A2, c2, mb, mc, ms, rfl, rfl, hob, hoc, hRI, hRL⟩
      dsimp only [List.cons_append, List.nil_append]
      refine ⟨(by repeat (first | exact Sub.nil | refine Sub.pick ?_ | refine Sub.castO rfl ?_ | refine Sub.skip ?_)), ?_⟩
      refine f_only 6 rfl (by decide +kernel) rfl rfl rfl (o_call Try.call16 rfl (fun w_ hp_ => LendInts_spec D arcs cd w_ (hD.up0 hp_) hza) ?_)
      rintro _ _ ⟨bi, ci, ri, rfl, rfl, hi1, hi2⟩
      dsimp only [List.cons_append, List.nil_append]
      refine ⟨(by repeat (first | exact Sub.nil | refine Sub.pick ?_ | refine Sub.castO rfl ?_ | refine Sub.skip ?_)), ?_⟩
      refine f_only0 9 rfl (by decide +kernel) rfl rfl (o_storeA Try.sizeOf24 rfl rfl rfl rfl (by first | exact Nat.le_of_ble_eq_true rfl | (simp; done) | (simp; omega)) [.int .i64 N, .slice (some ⟨bg, 0, none⟩) l.length cg] rfl ⟨(by repeat (first | exact Sub.nil | refine Sub.pick ?_ | refine Sub.castO rfl ?_ | refine Sub.skip ?_)), ?_⟩)
      refine f_only0 10 rfl (by decide +kernel) rfl rfl (o_storeA Try.sizeOf28 rfl rfl rfl rfl (by first | exact Nat.le_of_ble_eq_true rfl | (simp; done) | (simp; omega)) [.slice A1 bs.length c1, .slice A2 R1.length c2] rfl ⟨(by repeat (first | exact Sub.nil | refine Sub.pick ?_ | refine Sub.castO rfl ?_ | refine Sub.skip ?_)), ?_⟩)
      refine f_only 11 rfl (by decide +kernel) rfl rfl rfl ((o_assign rfl).does ⟨(by repeat (first | exact Sub.nil | refine Sub.pick ?_ | refine Sub.castO rfl ?_ | refine Sub.skip ?_)), ?_⟩)
      refine f_over (by decide +kernel) ?_
      refine f_tn (kh5 _ _ ((b7, b8), (bg, cg, rg), (bi, ci, ri), (R1, A1, c1, A2, c2, mb, mc, ms)) ⟨⟨hg1, hg2, hi1, hi2⟩, hob, hoc, hRI, hRL⟩ ?_ ?_ ?_)
      · exact (by repeat (first | exact trivial | refine ⟨rfl, ?_⟩))
      · exact (by repeat (first | exact trivial | refine ⟨rfl, ?_⟩))
      · repeat (first | exact Sub.nil | refine Sub.pick ?_ | refine Sub.castO rfl ?_ | refine Sub.skip ?_)
    ·
     refine (o_alloc Try.zeroValue24 rfl fun b7 => ⟨(by repeat (first | exact Sub.nil | refine Sub.pick ?_ | refine Sub.castO rfl ?_ | refine Sub.skip ?_)), ?_⟩)
     refine f_only 1 rfl (by decide +kernel) rfl rfl rfl (o_call Try.call14 rfl (fun w_ hp_ => LendGraph_spec N A l cap w_ (hr.up0 hp_) hz) ?_)
     rintro _ _ ⟨bg, cg, rg, rfl, rfl, hg1, hg2⟩
     dsimp only [List.cons_append, List.nil_append]
     refine ⟨(by repeat (first | exact Sub.nil | refine Sub.pick ?_ | refine Sub.castO rfl ?_ | refine Sub.skip ?_)), ?_⟩
     refine f_only 3 rfl (by decide +kernel) rfl rfl rfl (o_call Try.call15 rfl (fun w_ hp_ => CopyNest_spec Ab bs cb Ac R cc w_ (hn.up0 hp_) hzb hzc hzr) ?_)
     rintro _ _ ⟨R1, A1, c1, A2, c2, mb, mc, ms, rfl, rfl, hob, hoc, hRI, hRL⟩
     dsimp only [List.cons_append, List.nil_append]
     refine ⟨(by repeat (first | exact Sub.nil | refine Sub.pick ?_ | refine Sub.castO rfl ?_ | refine Sub.skip ?_)), ?_⟩
     refine f_only 6 rfl (by decide +kernel) rfl rfl rfl (o_call Try.call16 rfl (fun w_ hp_ => LendInts_spec D arcs cd w_ (hD.up0 hp_) hza) ?_)
     rintro _ _ ⟨bi, ci, ri, rfl, rfl, hi1, hi2⟩
     dsimp only [List.cons_append, List.nil_append]
     refine ⟨(by repeat (first | exact Sub.nil | refine Sub.pick ?_ | refine Sub.castO rfl ?_ | refine Sub.skip ?_)), ?_⟩
     refine f_only0 9 rfl (by decide +kernel) rfl rfl (o_storeA Try.sizeOf24 rfl rfl rfl rfl (by first | exact Nat.le_of_ble_eq_true rfl | (simp; done) | (simp; omega)) [.int .i64 N, .slice (some ⟨bg, 0, none⟩) l.length cg] rfl ⟨(by repeat (first | exact Sub.nil | refine Sub.pick ?_ | refine Sub.castO rfl ?_ | refine Sub.skip ?_)), ?_⟩)
     refine f_only0 10 rfl (by decide +kernel) rfl rfl (o_storeA Try.sizeOf28 rfl rfl rfl rfl (by first | exact Nat.le_of_ble_eq_true rfl | (simp; done) | (simp; omega)) [.slice A1 bs.length c1, .slice A2 R1.length c2] rfl ⟨(by repeat (first | exact Sub.nil | refine Sub.pick ?_ | refine Sub.castO rfl ?_ | refine Sub.skip ?_)), ?_⟩)
     refine f_only 11 rfl (by decide +kernel) rfl rfl rfl ((o_assign rfl).does ⟨(by repeat (first | exact Sub.nil | refine Sub.pick ?_ | refine Sub.castO rfl ?_ | refine Sub.skip ?_)), ?_⟩)
     refine f_over (by decide +kernel) ?_
     refine f_tn (kh5 _ _ ((b7, b8), (bg, cg, rg), (bi, ci, ri), (R1, A1, c1, A2, c2, mb, mc, ms)) ⟨⟨hg1, hg2, hi1, hi2⟩, hob, hoc, hRI, hRL⟩ ?_ ?_ ?_)
     · exact (by repeat (first | exact trivial | refine ⟨rfl, ?_⟩))
     · exact (by repeat (first | exact trivial | refine ⟨rfl, ?_⟩))
     · repeat (first | exact Sub.nil | refine Sub.pick ?_ | refine Sub.castO rfl ?_ | refine Sub.skip ?_)
  ·
   rintro ⟨⟨b7, b8⟩, ⟨bg, cg, rg⟩, ⟨bi, ci, ri⟩, ⟨R1, A1, c1, A2, c2, mb, mc, ms⟩⟩ ⟨⟨hg1, hg2, hi1, hi2⟩, hob, hoc, hRI, hRL⟩
   have hR1l : R1.length = R.length := by rw [← rowsL_len R1, hRL, rowsL_len]
   have hcl := hn.cl
   refine f_seq fun K6 kh6 => ?_
   refine f_region ?_
   refine f_stepP rfl rfl rfl (o_loadA (vs := [_, _]) Try.isAgg24 Try.sizeOf24 rfl rfl ⟨(rdA rfl), (rdA rfl), trivial⟩) ?_
   refine f_stepP rfl rfl rfl (o_loadA (vs := [_, _]) Try.isAgg28 Try.sizeOf28 rfl rfl ⟨(rdA rfl), (rdA rfl), trivial⟩) ?_
   refine f_stepP rfl rfl rfl (o_move rfl) ?_
   refine f_step rfl rfl rfl (o_call Try.call17 rfl (fun w_ hp_ => CStale_spec N (some ⟨bg, 0, none⟩) l cg A1 bs c1 A2 R1 c2 (some ⟨bi, 0, none⟩) arcs ci w_ (roOwn (b := bg) hp_ (fun j v hj => app_get hj)) hl hN hok (nest_ro hp_ hob hoc hRI rfl (by omega)) (roOwn (b := bi) hp_ (fun j v hj => app_get hj)) hm) ?_)
   rintro _ _ ⟨Ra, Aa, ca, mca, msa, rfl, rfl, hoa, hRa, hEa1, hEa0⟩
   rw [hRL] at hEa1 hEa0 ⊢
   obtain ⟨_, _, _, hal1, hal2⟩ := hoa.val
   dsimp only [List.cons_append, List.nil_append]
   refine f_stepP rfl rfl rfl (o_move rfl) ?_
   refine f_stepP rfl rfl rfl (o_extract rfl rfl) ?_
   refine f_stepP rfl rfl rfl (o_extract rfl rfl) ?_
   refine f_stepP rfl rfl rfl (o_assign rfl) ?_
   refine f_stepP rfl rfl rfl (o_assign rfl) ?_
   refine f_done ?_
   refine f_tn (kh6 _ _ ?_)
   clear kh6
   refine f_seq fun K7 kh7 => ?_
   refine f_region ?_
   refine f_stepP rfl rfl rfl (o_loadA (vs := [_, _]) Try.isAgg24 Try.sizeOf24 rfl rfl ⟨(rdA rfl), (rdA rfl), trivial⟩) ?_
   refine f_stepP rfl rfl rfl (o_loadA (vs := [_, _]) Try.isAgg28 Try.sizeOf28 rfl rfl ⟨(rdA rfl), (rdA rfl), trivial⟩) ?_
   refine f_stepP rfl rfl rfl (o_field fa45_1 rfl) ?_
   refine f_stepP rfl rfl rfl (o_load Try.isAgg25 rfl (rdA rfl)) ?_
   refine f_step rfl rfl rfl (o_call Try.call18 rfl (fun w_ hp_ => RStale_spec N A l cap Ab bs cb Ac R cc D arcs cd w_ (hr.up0 hp_) hl hN hok (hn.up0 hp_) (hD.up0 hp_) hm) ?_)
   rintro _ _ ⟨Rb, Ab', cb', mcb, msb, rfl, rfl, hobb, hRb, hEb1, hEb0⟩
   have hRab : rowsL Ra = rowsL Rb := by
     by_cases e : snE N l bs (rowsL R) arcs = 0
     · rw [hEa0 e, hEb0 e]
     · rw [hEa1 e, hEb1 e]
   have hlab : Ra.length = Rb.length := by rw [← rowsL_len Ra, hRab, rowsL_len]
   dsimp only [List.cons_append, List.nil_append]
   refine f_stepP rfl rfl rfl (o_move rfl) ?_
   refine f_stepP rfl rfl rfl (o_extract rfl rfl) ?_
   refine f_stepP rfl rfl rfl (o_extract rfl rfl) ?_
   refine f_stepP rfl rfl rfl (o_assign rfl) ?_
   refine f_stepP rfl rfl rfl (o_assign rfl) ?_
   refine f_done ?_
   refine f_tn (kh7 _ _ ?_)
   clear kh7
   refine f_seq fun K8 kh8 => ?_
   refine f_region ?_
   refine f_stepP rfl rfl rfl (o_loadA (vs := [_, _]) Try.isAgg24 Try.sizeOf24 rfl rfl ⟨(rdA rfl), (rdA rfl), trivial⟩) ?_
   refine f_stepP rfl rfl rfl (o_loadA (vs := [_, _]) Try.isAgg28 Try.sizeOf28 rfl rfl ⟨(rdA rfl), (rdA rfl), trivial⟩) ?_
   refine f_stepP rfl rfl rfl (o_field fa45_0 rfl) ?_
   refine f_stepP rfl rfl rfl (o_load Try.isAgg3 rfl (rdA rfl)) ?_
   refine f_step rfl rfl rfl (o_call Try.call9 rfl (fun w_ hp_ => COuter_spec N (some ⟨bg, 0, none⟩) l cg A1 bs c1 A2 R1 c2 lv w_ (roOwn (b := bg) hp_ (fun j v hj => app_get hj)) hl hN hok (nest_ro hp_ hob hoc hRI rfl (by omega))) ?_)
   rintro _ _ ⟨Oa, AOa, cOa, mOa, rfl, rfl, hoOa, hO1a, hO0a⟩
   rw [hRL] at hO1a hO0a ⊢
   dsimp only [List.cons_append, List.nil_append]
   refine f_stepP rfl rfl rfl (o_move rfl) ?_
   refine f_stepP rfl rfl rfl (o_extract rfl rfl) ?_
   refine f_stepP rfl rfl rfl (o_extract rfl rfl) ?_
   refine f_stepP rfl rfl rfl (o_assign rfl) ?_
   refine f_stepP rfl rfl rfl (o_assign rfl) ?_
   refine f_done ?_
   refine f_tn (kh8 _ _ ?_)
   clear kh8
   refine f_seq fun K9 kh9 => ?_
   refine f_region ?_
   refine f_stepP rfl rfl rfl (o_loadA (vs := [_, _]) Try.isAgg24 Try.sizeOf24 rfl rfl ⟨(rdA rfl), (rdA rfl), trivial⟩) ?_
   refine f_stepP rfl rfl rfl (o_loadA (vs := [_, _]) Try.isAgg28 Try.sizeOf28 rfl rfl ⟨(rdA rfl), (rdA rfl), trivial⟩) ?_
   refine f_stepP rfl rfl rfl (o_field fa45_0 rfl) ?_
   refine f_stepP rfl rfl rfl (o_load Try.isAgg3 rfl (rdA rfl)) ?_
   refine f_step rfl rfl rfl (o_call Try.call19 rfl (fun w_ hp_ => ROuter_spec N A l cap Ab bs cb Ac R cc lv w_ (hr.up0 hp_) hl hN hok (hn.up0 hp_)) ?_)
   rintro _ _ ⟨Ob, AOb, cOb, mOb, rfl, rfl, hoOb, hO1b, hO0b⟩
   have hOab : Oa = Ob := by
     by_cases e : lkE N l bs (rowsL R) lv = 0
     · rw [hO0a e, hO0b e]
     · rw [hO1a e, hO1b e]
   subst hOab
   have hOl := hoOa.val
   dsimp only [List.cons_append, List.nil_append]
   refine f_stepP rfl rfl rfl (o_move rfl) ?_
   refine f_stepP rfl rfl rfl (o_extract rfl rfl) ?_
   refine f_stepP rfl rfl rfl (o_extract rfl rfl) ?_
   refine f_stepP rfl rfl rfl (o_assign rfl) ?_
   refine f_stepP rfl rfl rfl (o_assign rfl) ?_
   refine f_done ?_
   refine f_tn (kh9 _ _ ?_)
   clear kh9
   refine f_seq fun K10 kh10 => ?_
   refine f_seq fun K11 kh11 => ?_
   refine f_region ?_
   refine f_stepP rfl rfl rfl (o_move rfl) ?_
   refine f_stepP rfl rfl rfl (o_len sl26 rfl) ?_
   refine f_stepP rfl rfl rfl (o_move rfl) ?_
   refine f_stepP rfl rfl rfl (o_len sl26 rfl) ?_
   refine f_stepP rfl rfl rfl (o_neq rfl rfl) ?_
   refine f_stepP rfl rfl rfl (o_move rfl) ?_
   refine f_falseL 65 rfl (by omega) ?_
   refine f_stepPY rfl rfl rfl rfl rfl (o_move rfl) ?_
   refine f_stepPY rfl rfl rfl rfl rfl (o_move rfl) ?_
   refine f_stepPY rfl rfl rfl rfl rfl (o_neq rfl rfl) ?_
   refine f_stepP rfl rfl rfl (o_pickF rfl rfl) ?_
   refine f_stepP rfl rfl rfl (o_move rfl) ?_
   refine f_falseL 70 rfl (by simp) ?_
   refine f_stepPY rfl rfl rfl rfl rfl (o_move rfl) ?_
   refine f_stepPY rfl rfl rfl rfl rfl (o_move rfl) ?_
   refine f_stepY rfl rfl rfl rfl rfl (o_call Try.call20 rfl (fun w_ hp_ => SameInts_spec AOa AOb Oa Oa Oa.length cOb w_ (seen_ro (hoOa.seen hp_)) (seen_ro (hoOb.seen hp_)) (by obtain ⟨_, _, e, h⟩ := hOl; cases e; omega)) ?_)
   rintro _ _ ⟨rfl, rfl⟩
   rw [decide_eq_true rfl]
   dsimp only [List.cons_append, List.nil_append]
   refine f_stepPY rfl rfl rfl rfl rfl (o_not rfl) ?_
   refine f_stepP rfl rfl rfl (o_pickF rfl rfl) ?_
   refine f_stepP rfl rfl rfl (o_move rfl) ?_
   refine f_stepPY rfl rfl rfl rfl rfl (o_move rfl) ?_
   refine f_stepPY rfl rfl rfl rfl rfl (o_move rfl) ?_
   refine f_stepPY rfl rfl rfl rfl rfl (o_neq rfl rfl) ?_
   refine f_stepP rfl rfl rfl (o_pickF rfl rfl) ?_
   refine f_done ?_
   refine f_tn (kh11 _ _ ?_)
   clear kh11
   refine f_condN rfl (by simp) ?_
   refine f_skip ?_
   refine f_tn (kh10 _ _ ?_)
   clear kh10
   refine f_seq fun K12 kh12 => ?_
   refine f_seq fun K13 kh13 => ?_
   refine f_region ?_
   refine f_stepP rfl rfl rfl (o_assign rfl) ?_
   refine f_done ?_
   refine f_tn (kh13 _ _ ?_)
   clear kh13
   refine f_block ?_
   refine f_loop (α := Nat) [3, 4, 5, 7, 8, 9, 10, 12] (fun i => [(18, .int .i64 (i : Int))]) (fun i => [mca, msa.flatten, mcb, msb.flatten, [(b7, blk [.int .i64 N, .slice (some ⟨bg, 0, none⟩) l.length cg] 24)], [(b8, blk [.slice A1 bs.length c1, .slice A2 R1.length c2] 28)], [(bg, blk (l.flatMap arcCs ++ (arcCs mark ++ rg)) 39)], [(bi, blk (ints arcs ++ ([.int .i64 (-77)] ++ ri)) 3)], mb, mc, ms.flatten, [(b3, blk [.int .i64 N, .slice A l.length cap] 24)], [(b4, blk [.slice Ab bs.length cb, .slice Ac R.length cc] 28)], [(b5, blk [.int .i64 lv, .slice D arcs.length cd] 45)]]) (fun i => i ≤ Ra.length) (fun i => Ra.length - i) (0) ?_ ?_ ?_ ?_
   · exact (by repeat (first | exact trivial | refine ⟨rfl, ?_⟩))
   · repeat (first | exact Sub.nil | refine Sub.pick ?_ | refine Sub.castO rfl ?_ | refine Sub.skip ?_)
   · exact Nat.zero_le _
   ·
    rintro i hil
    refine f_envC (e := [(18, _), (3, _), (4, _), (5, _), (7, _), (8, _), (9, _), (10, _), (12, _)]) (by repeat (first | exact trivial | refine ⟨rfl, ?_⟩)) ?_
    refine f_seq fun K14 kh14 => ?_
    refine f_seq fun K15 kh15 => ?_
    refine f_region ?_
    refine f_stepP rfl rfl rfl (o_move rfl) ?_
    refine f_stepP rfl rfl rfl (o_move rfl) ?_
    refine f_stepP rfl rfl rfl (o_len sl26 rfl) ?_
    refine f_stepP rfl rfl rfl (o_lss rfl rfl) ?_
    refine f_done ?_
    refine f_tn (kh15 _ _ ?_)
    clear kh15
    refine f_cond rfl (fun c84 => ?_) (fun c84 => ?_)
    ·
     have hia : i < Ra.length := by omega
     have hib : i < Rb.length := by omega
     obtain ⟨ba, spa, rfl, rfl⟩ := hoa.at_ (by omega)
     obtain ⟨bb, spb, rfl, rfl⟩ := hobb.at_ (by omega)
     have hrw : (Ra[i]'hia).2.1 = (Rb[i]'hib).2.1 := by rw [← rowsL_at hia, ← rowsL_at hib, hRab]
     refine f_skip ?_
     refine f_tn (kh14 _ _ ?_)
     clear kh14
     refine f_seq fun K16 kh16 => ?_
     refine f_block ?_
     refine f_seq fun K17 kh17 => ?_
     refine f_regionH [[(ba, blk (Ra.map rowV ++ spa) 25)], msa.flatten, [(bb, blk (Rb.map rowV ++ spb) 25)], msb.flatten, [(b7, blk [.int .i64 N, .slice (some ⟨bg, 0, none⟩) l.length cg] 24)], [(b8, blk [.slice A1 bs.length c1, .slice A2 R1.length c2] 28)], [(bg, blk (l.flatMap arcCs ++ (arcCs mark ++ rg)) 39)], [(bi, blk (ints arcs ++ ([.int .i64 (-77)] ++ ri)) 3)], mb, mc, ms.flatten, [(b3, blk [.int .i64 N, .slice A l.length cap] 24)], [(b4, blk [.slice Ab bs.length cb, .slice Ac R.length cc] 28)], [(b5, blk [.int .i64 lv, .slice D arcs.length cd] 45)]] rfl ?_
     refine f_take 0 rfl (by decide +kernel) rfl rfl rfl (by repeat (first | exact Sub.nil | refine Sub.pick ?_ | refine Sub.castO rfl ?_ | refine Sub.skip ?_)) (o_move rfl) ?_
     refine f_take 1 rfl (by decide +kernel) rfl rfl rfl (by repeat (first | exact Sub.nil | refine Sub.pick ?_ | refine Sub.castO rfl ?_ | refine Sub.skip ?_)) (o_move rfl) ?_
     refine f_take 2 rfl (by decide +kernel) rfl rfl rfl (by repeat (first | exact Sub.nil | refine Sub.pick ?_ | refine Sub.castO rfl ?_ | refine Sub.skip ?_)) (o_idx sl26 rfl rfl (i) ⟨by omega, by omega, by first | omega | (simp; done) | (simp; omega)⟩) ?_
     refine f_take 3 rfl (by decide +kernel) rfl rfl rfl (by repeat (first | exact Sub.nil | refine Sub.pick ?_ | refine Sub.castO rfl ?_ | refine Sub.skip ?_)) (o_load Try.isAgg25 rfl (rdA (v := rowV (Ra[i]'hia)) (app_get (by rw [List.getElem?_map, List.getElem?_eq_getElem hia]; rfl)))) ?_
     refine f_take 4 rfl (by decide +kernel) rfl rfl rfl (by repeat (first | exact Sub.nil | refine Sub.pick ?_ | refine Sub.castO rfl ?_ | refine Sub.skip ?_)) (o_move rfl) ?_
     refine f_take 5 rfl (by decide +kernel) rfl rfl rfl (by repeat (first | exact Sub.nil | refine Sub.pick ?_ | refine Sub.castO rfl ?_ | refine Sub.skip ?_)) (o_move rfl) ?_
     refine f_take 6 rfl (by decide +kernel) rfl rfl rfl (by repeat (first | exact Sub.nil | refine Sub.pick ?_ | refine Sub.castO rfl ?_ | refine Sub.skip ?_)) (o_idx sl26 rfl rfl (i) ⟨by omega, by omega, by first | omega | (simp; done) | (simp; omega)⟩) ?_
     refine f_take 7 rfl (by decide +kernel) rfl rfl rfl (by repeat (first | exact Sub.nil | refine Sub.pick ?_ | refine Sub.castO rfl ?_ | refine Sub.skip ?_)) (o_load Try.isAgg25 rfl (rdA (v := rowV (Rb[i]'hib)) (app_get (by rw [List.getElem?_map, List.getElem?_eq_getElem hib]; rfl)))) ?_
     refine f_only 8 rfl (by decide +kernel) rfl rfl rfl (o_call Try.call20 rfl (fun w_ hp_ => SameInts_spec (Ra[i]'hia).1 (Rb[i]'hib).1 (Ra[i]'hia).2.1 (Rb[i]'hib).2.1 (Ra[i]'hia).2.2 (Rb[i]'hib).2.2 w_ (hRa.ro hp_ _ (List.getElem_mem hia)).1 (RowsI.ro hRb hp_ _ (List.getElem_mem hib)).1 (hRa.ro hp_ _ (List.getElem_mem hia)).2) ?_)
     rintro _ _ ⟨rfl, rfl⟩
     rw [decide_eq_true hrw]
     dsimp only [List.cons_append, List.nil_append]
     refine ⟨(by repeat (first | exact Sub.nil | refine Sub.pick ?_ | refine Sub.castO rfl ?_ | refine Sub.skip ?_)), ?_⟩
     refine f_take 9 rfl (by decide +kernel) rfl rfl rfl (by repeat (first | exact Sub.nil | refine Sub.pick ?_ | refine Sub.castO rfl ?_ | refine Sub.skip ?_)) (o_not rfl) ?_
     refine f_over (by decide +kernel) ?_
     refine f_tn (kh17 _ _ ?_)
     clear kh17
     refine f_condF rfl ?_
     refine f_skip ?_
     refine f_bn ?_
     refine f_tn (kh16 _ _ ?_)
     clear kh16
     refine f_region ?_
     refine f_stepP rfl rfl rfl (o_move rfl) ?_
     refine f_stepP rfl rfl rfl (o_add rfl rfl _ (wrap_i64 (by omega))) ?_
     refine f_stepP rfl rfl rfl (o_assign rfl) ?_
     refine f_done ?_
     refine f_tn (f_again (i + 1) (by first | omega | (dsimp only; omega) | (simp; omega)) (by omega) ?_ ?_ ?_)
     · exact (by repeat (first | exact trivial | refine ⟨rfl, ?_⟩))
     · exact (by repeat (first | exact trivial | refine ⟨rfl, ?_⟩))
     · repeat (first | exact Sub.nil | refine Sub.pick ?_ | refine Sub.castO rfl ?_ | refine Sub.skip ?_)
    ·
     refine f_exit ?_
     refine f_te ?_
     clear kh14
     refine f_te ?_
     refine f_be ?_
     refine f_tn (kh12 _ _ ?_)
     clear kh12
     refine f_seq fun K18 kh18 => ?_
     refine f_region ?_
     refine f_stepP rfl rfl rfl (o_loadA (vs := [_, _]) Try.isAgg24 Try.sizeOf24 rfl rfl ⟨(rdA rfl), (rdA rfl), trivial⟩) ?_
     refine f_stepP rfl rfl rfl (o_loadA (vs := [_, _]) Try.isAgg24 Try.sizeOf24 rfl rfl ⟨(rdA rfl), (rdA rfl), trivial⟩) ?_
     refine f_step rfl rfl rfl (o_call Try.call21 rfl (fun w_ hp_ => KeptGraph_spec N bg cg A l cap rg w_ (roOwn (b := bg) hp_ (fun j v hj => hj)) (hr.up0 hp_) hg1 hg2) ?_)
     rintro _ _ ⟨rfl, rfl⟩
     dsimp only [List.cons_append, List.nil_append]
     refine f_stepP rfl rfl rfl (o_move rfl) ?_
     refine f_stepPY rfl rfl rfl rfl rfl (o_loadA (vs := [_, _]) Try.isAgg28 Try.sizeOf28 rfl rfl ⟨(rdA rfl), (rdA rfl), trivial⟩) ?_
     refine f_stepPY rfl rfl rfl rfl rfl (o_loadA (vs := [_, _]) Try.isAgg28 Try.sizeOf28 rfl rfl ⟨(rdA rfl), (rdA rfl), trivial⟩) ?_
     refine f_stepY rfl rfl rfl rfl rfl (o_call Try.call22 rfl (fun w_ hp_ => SameNest_spec A1 bs c1 A2 R1 c2 Ab cb Ac R cc w_ (nest_ro hp_ hob hoc hRI rfl (by omega)) (hn.up0 hp_) hRL) ?_)
     rintro _ _ ⟨rfl, rfl⟩
     dsimp only [List.cons_append, List.nil_append]
     refine f_stepP rfl rfl rfl (o_pickT rfl rfl) ?_
     refine f_stepP rfl rfl rfl (o_move rfl) ?_
     refine f_stepPY rfl rfl rfl rfl rfl (o_move rfl) ?_
     refine f_stepPY rfl rfl rfl rfl rfl (o_field fa45_1 rfl) ?_
     refine f_stepPY rfl rfl rfl rfl rfl (o_load Try.isAgg25 rfl (rdA rfl)) ?_
     refine f_stepY rfl rfl rfl rfl rfl (o_call Try.call23 rfl (fun w_ hp_ => KeptInts_spec bi ci D arcs cd ri w_ (roOwn (b := bi) hp_ (fun j v hj => hj)) (hD.up0 hp_) hi1 hi2) ?_)
     rintro _ _ ⟨rfl, rfl⟩
     dsimp only [List.cons_append, List.nil_append]
     refine f_stepP rfl rfl rfl (o_pickT rfl rfl) ?_
     refine f_stepP rfl rfl rfl (o_move rfl) ?_
     refine f_stepY rfl rfl rfl rfl rfl (o_call Try.call7 rfl (fun w_ hp_ => works_spec w_) ?_)
     rintro _ _ ⟨rfl, rfl⟩
     dsimp only [List.cons_append, List.nil_append]
     refine f_stepP rfl rfl rfl (o_pickT rfl rfl) ?_
     refine f_stepP rfl rfl rfl (o_assign rfl) ?_
     refine f_done ?_
     refine f_tn (kh18 _ _ ?_)
     clear kh18
     refine f_ret ?_
     exact f_fin1 [] Try.results4 rfl Sub.nil ⟨rfl, rfl⟩

end Go.Proofs.Ytkmkakpadgljeaa

/- How graphs of this program read. -/
namespace Go.Proofs.Ytkmkakpadgljeaa
open Go Go.RowKit Fly
set_option linter.unusedVariables false
set_option linter.unusedSimpArgs false


theorem rdArc {H : Type} {enc : TypeId × Value → H} (W : World) : Reads enc Try.prog W 39 arcCs ArcOk :=
  reads_arc Try.underlying39 (by kernel_rfl) ⟨rfl, by kernel_rfl⟩ ⟨rfl, by kernel_rfl⟩ ⟨rfl, by kernel_rfl⟩ Try.underlying3 Try.underlying3 Try.underlying37
theorem rdGraph {H : Type} {enc : TypeId × Value → H} (W : World) : Reads enc Try.prog W 24 (fun x : Int × Option Addr × List Arc × Nat => [.int .i64 x.1, .slice x.2.1 x.2.2.1.length x.2.2.2]) (fun x => GrIn W x.1 x.2.1 x.2.2.1 x.2.2.2) :=
  reads_graph Try.underlying24 (by kernel_rfl) ⟨rfl, by kernel_rfl⟩ ⟨rfl, by kernel_rfl⟩ Try.underlying3 Try.underlying22 (by kernel_rfl) (rdArc W)

end Go.Proofs.Ytkmkakpadgljeaa

/- How nests and plans read. -/
namespace Go.Proofs.Ytkmkakpadgljeaa
open Go Go.RowKit Fly
set_option linter.unusedVariables false
set_option linter.unusedSimpArgs false


abbrev RowIn (W : World) (r : Row) : Prop := SlIn W (fun n : Int => [.int .i64 n]) I64 r.1 r.2.1 r.2.2
abbrev NestIn (W : World) (x : Option Addr × List Int × Nat × Option Addr × List Row × Nat) : Prop := SlIn W (fun n : Int => [.int .i64 n]) I64 x.1 x.2.1 x.2.2.1 ∧ SlIn W (fun r : Row => [rowV r]) (RowIn W) x.2.2.2.1 x.2.2.2.2.1 x.2.2.2.2.2
theorem rdRow {H : Type} {enc : TypeId × Value → H} (W : World) : Reads enc Try.prog W 25 (fun r : Row => [rowV r]) (RowIn W) :=
  reads_slice (cells := fun n : Int => [.int .i64 n]) (sz := 1) Try.underlying25 (by kernel_rfl) (fun _ => rfl) (by omega) (reads_i64 Try.underlying3)
theorem rdNest {H : Type} {enc : TypeId × Value → H} (W : World) : Reads enc Try.prog W 28 (fun x : Option Addr × List Int × Nat × Option Addr × List Row × Nat => [.slice x.1 x.2.1.length x.2.2.1, .slice x.2.2.2.1 x.2.2.2.2.1.length x.2.2.2.2.2]) (NestIn W) :=
  (reads2 (ca := fun x : Row => rowV x) (cb := fun x : Option Addr × List Row × Nat => .slice x.1 x.2.1.length x.2.2) Try.underlying28 (by kernel_rfl) ⟨rfl, by kernel_rfl⟩ ⟨rfl, by kernel_rfl⟩
    (rdRow W) (reads_slice (cells := fun r : Row => [rowV r]) (sz := 1) Try.underlying26 (by kernel_rfl) (fun _ => rfl) (by omega) (rdRow W))).map
    (fun x => ((x.1.1, x.1.2.1, x.1.2.2, x.2.1, x.2.2.1, x.2.2.2) : Option Addr × List Int × Nat × Option Addr × List Row × Nat)) (fun x => rfl) fun x hx => hx
theorem nest_in {W : World} {x : Option Addr × List Int × Nat × Option Addr × List Row × Nat} (h : NestIn W x) : NestRo (Fr W []) W x.1 x.2.1 x.2.2.2.1 x.2.2.2.2.1 where
  b := by have := h.1.ro; rwa [flat_one] at this
  bl := Nat.le_trans h.1.le h.1.max
  c := by have := h.2.ro; rwa [flat_one] at this
  cl := Nat.le_trans h.2.le h.2.max
  rows := fun r hr => ⟨by have := (h.2.ok r hr).ro; rwa [flat_one] at this, Nat.le_trans (h.2.ok r hr).le (h.2.ok r hr).max⟩

end Go.Proofs.Ytkmkakpadgljeaa

/- How a level and arcs read. -/
namespace Go.Proofs.Ytkmkakpadgljeaa
open Go Go.RowKit Fly
set_option linter.unusedVariables false
set_option linter.unusedSimpArgs false


theorem rdSome {H : Type} {enc : TypeId × Value → H} (W : World) : Reads enc Try.prog W 45 (fun x : Int × Option Addr × List Int × Nat => [.int .i64 x.1, .slice x.2.1 x.2.2.1.length x.2.2.2]) (fun x => I64 x.1 ∧ SlIn W (fun n : Int => [.int .i64 n]) I64 x.2.1 x.2.2.1 x.2.2.2) :=
  reads2 (ca := fun n => .int .i64 n) (cb := fun x : Option Addr × List Int × Nat => .slice x.1 x.2.1.length x.2.2) Try.underlying45 (by kernel_rfl) ⟨rfl, by kernel_rfl⟩ ⟨rfl, by kernel_rfl⟩
    (reads_i64 Try.underlying3) (reads_slice (cells := fun n : Int => [.int .i64 n]) (sz := 1) Try.underlying25 (by kernel_rfl) (fun _ => rfl) (by omega) (reads_i64 Try.underlying3))

end Go.Proofs.Ytkmkakpadgljeaa

/- How much room a nest takes up. -/
namespace Go.Proofs.Ytkmkakpadgljeaa
open Go Go.RowKit Fly
set_option linter.unusedVariables false
set_option linter.unusedSimpArgs false


section
open Go.ChangeShapes Go.WideShapes Go.Deep
variable {H : Type} {enc : TypeId × Value → H} {P : Program} {w : World}
theorem weightsAll_mem {e : TypeId} {d : DataW H} {n : Nat} (hn : n ∈ d.weights P e) : ∀ {l : List (DataW H)}, d ∈ l → n ∈ DataW.weightsAll P e l
  | x :: l, h => by
    simp only [DataW.weightsAll, List.mem_append]
    rcases List.mem_cons.1 h with rfl | h
    · exact .inl hn
    · exact .inr (weightsAll_mem hn h)
theorem rows_weight {t e e2 : TypeId} {A : Option Addr} {len cap fuel : Nat} {x : DataW H × List MemPlace} (ht : P.underlying t = some (.slice e)) (he : P.underlying e = some (.slice e2)) (hc : P.cellsOf e = 1) (hf : DataW.trod enc P w 0 (fun _ => true) true fuel t [.slice A len cap] = some x) :
    ∀ i, i < len → ∀ a, A = some a → ∀ A' n' c', w.cell? (a.add i) = some (.slice A' n' c') → c' * P.bytesOf e2 = 0 ∨ c' * P.bytesOf e2 ∈ x.1.weights P t := fun i hi a ha A' n' c' hcell => by
  rcases open_slice ht hf with ⟨e1, _⟩ | ⟨a2, l', c2, m, n, D, Pl, e1, _, hl, _, hm, hx, hev⟩
  · simp only [List.cons.injEq, Value.slice.injEq, and_true] at e1
    rw [e1.1] at ha; cases ha
  · simp only [List.cons.injEq, Value.slice.injEq, and_true] at e1
    obtain ⟨rfl, rfl, rfl⟩ := e1
    cases ha
    simp only [if_true] at hm
    subst hm
    obtain ⟨cs', hcs, htr⟩ := hev i (by omega)
    obtain ⟨_, hcl, hat⟩ := World.cells?_some hcs
    rw [hc] at hcl
    have h0 := hat 0 (by rw [hc]; omega)
    rw [add_add, hc, Nat.mul_one, Nat.add_zero, hcell] at h0
    obtain ⟨v, rfl⟩ : ∃ v, cs' = [v] := List.length_eq_one_iff.1 hcl
    have hv : v = .slice A' n' c' := by simpa using h0.symm
    subst hv
    rcases slice_weight he htr with h | h
    · exact .inl h
    · right
      rw [hx]
      simp only [DataW.weights, ht]
      refine List.mem_cons_of_mem _ (List.mem_append_left _ (weightsAll_mem h ?_))
      exact List.mem_map.2 ⟨i, List.mem_range.2 hi, rfl⟩
theorem arg_roomN {ts : List TypeId} {ds : List (DataW H)} {t e0 e1 e2 : TypeId} {f0 f1 : Field} {A0 A1 : Option Addr} {l0 c0 l1 c1 j : Nat} {d : DataW H} {p : List MemPlace} (ht : P.underlying t = some (.struct #[f0, f1])) (h0 : f0.offset = 0 ∧ P.cellsOf f0.type = 1) (h1 : f1.offset = 1 ∧ P.cellsOf f1.type = 1) (u0 : P.underlying f0.type = some (.slice e0)) (u1 : P.underlying f1.type = some (.slice e1)) (ue : P.underlying e1 = some (.slice e2)) (hc : P.cellsOf e1 = 1)
    (h : DataW.Trod enc P w 0 (fun _ => true) true t (.agg #[.slice A0 l0 c0, .slice A1 l1 c1]) d p) (hs : (DataW.weightsEach P ts ds).all (· ≤ reachBytes) = true) (hj : ts[j]? = some t) (hd : ds[j]? = some d) :
    c0 * P.bytesOf e0 ≤ 140737488351232 ∧ c1 * P.bytesOf e1 ≤ 140737488351232 ∧ ∀ i, i < l1 → ∀ a, A1 = some a → ∀ A' n' c', w.cell? (a.add i) = some (.slice A' n' c') → c' * P.bytesOf e2 ≤ 140737488351232 := by
  obtain ⟨fuel, hf⟩ := h
  obtain ⟨y0, y1, n, hx, _, g0, g1⟩ := trod_struct2 ht hf
  rw [h0.1, h0.2] at g0
  rw [h1.1, h1.2] at g1
  have g0' : DataW.trod enc P w 0 (fun _ => true) true n f0.type [.slice A0 l0 c0] = some y0 := g0
  have g1' : DataW.trod enc P w 0 (fun _ => true) true n f1.type [.slice A1 l1 c1] = some y1 := g1
  have hdd : d = .agg [y0.1, y1.1] := (Prod.mk.inj hx).1
  have key0 : ∀ k, k ∈ y0.1.weights P f0.type → k ≤ 140737488351232 := fun k hm => by
    have := List.all_eq_true.1 hs _ (DataW.weights_mem_each hj hd k (by rw [hdd]; simp only [DataW.weights, ht, DataW.weightsEach, List.toList_toArray, List.map_cons]; exact List.mem_append_left _ hm))
    exact Nat.le_trans (of_decide_eq_true this) (by decide)
  have key1 : ∀ k, k ∈ y1.1.weights P f1.type → k ≤ 140737488351232 := fun k hm => by
    have := List.all_eq_true.1 hs _ (DataW.weights_mem_each hj hd k (by rw [hdd]; simp only [DataW.weights, ht, DataW.weightsEach, List.toList_toArray, List.map_cons]; exact List.mem_append_right _ (List.mem_append_left _ hm)))
    exact Nat.le_trans (of_decide_eq_true this) (by decide)
  refine ⟨?_, ?_, fun i hi a ha A' n' c' hcell => ?_⟩
  · rcases slice_weight u0 g0' with h | h
    · omega
    · exact key0 _ h
  · rcases slice_weight u1 g1' with h | h
    · omega
    · exact key1 _ h
  · rcases rows_weight u1 ue hc g1' i hi a ha A' n' c' hcell with h | h
    · omega
    · exact key1 _ h
theorem rows_room {S : Nat → Prop} {A : Option Addr} {R : List Row} {k : Nat} (hro : Ro S w A (R.map rowV)) (h : ∀ i, i < R.length → ∀ a, A = some a → ∀ A' n' c', w.cell? (a.add i) = some (.slice A' n' c') → c' * k ≤ 140737488351232) : ∀ r ∈ R, r.2.2 * k ≤ 140737488351232 := fun r hr => by
  obtain ⟨i, hi, rfl⟩ := List.mem_iff_getElem.1 hr
  obtain ⟨b, o, rfl, _, hc⟩ := hro (map_ne hi)
  exact h i hi _ rfl R[i].1 R[i].2.1.length R[i].2.2 (by rw [add_at]; exact hc i _ (by simp [hi]))
end
theorem bytesRow : Try.prog.bytesOf 25 = 24 := by kernel_rfl
theorem bytesIntN : Try.prog.bytesOf 3 = 8 := by kernel_rfl
theorem bytesArcN : Try.prog.bytesOf 39 = 24 := by kernel_rfl

end Go.Proofs.Ytkmkakpadgljeaa
