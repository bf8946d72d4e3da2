/- graph.Induced: the graph of some vertices. -/
import Derived.Test.YtlllpmafhnfihaaFGraph
import Derived.Test.YtlllpmafhnfihaaFBook
import Derived.Test.YtlllpmafhnfihaaPParts
import Derived.Test.YtlllpmafhnfihaaPInd
namespace Go.Proofs.Ytlllpmafhnfihaa
open Go Go.RowKit Fly
set_option linter.unusedVariables false
set_option linter.unusedSimpArgs false


def InducedΦ (N : Int) (l : List Arc) (keep : List Bool) (u : Value) (own : List Seg) : Prop :=
  if (gcheck N l).2 ≠ 0 then u = .tuple #[.agg #[.int .i64 0, .slice none 0 0], .slice none 0 0, .slice none 0 0, .int .i64 (gcheck N l).2] ∧ own = []
  else if (keep.length : Int) ≠ N then u = .tuple #[.agg #[.int .i64 0, .slice none 0 0], .slice none 0 0, .slice none 0 0, .int .i64 4] ∧ own = []
  else if (verts keep).length = 0 then u = .tuple #[.agg #[.int .i64 0, .slice none 0 0], .slice none 0 0, .slice none 0 0, .int .i64 5] ∧ own = []
  else ∃ sa sv sl ma mv ml, u = .tuple #[.agg #[.int .i64 (verts keep).length, sa], sv, sl, .int .i64 0] ∧ own = [ma, mv, ml] ∧
    Own 44 3 sa (subArcs keep l).length ((subArcs keep l).flatMap arcCs) ma ∧ Own 3 1 sv (verts keep).length (ints (verts keep)) mv ∧ Own 3 1 sl (idxs (kin keep) l).length (ints (idxs (kin keep) l)) ml

set_option maxRecDepth 100000 in
set_option maxHeartbeats 4000000 in
theorem Induced_spec (N : Int) (A : Option Addr) (l : List Arc) (cap : Nat) (B : Option Addr) (keep : List Bool) (cb : Nat) (w : World) (hr : Ro (Fr w []) w A (l.flatMap arcCs)) (hk : Ro (Fr w []) w B (keep.map .bool)) (hl : l.length ≤ 9223372036854775807) (hN : I64 N) (hok : ∀ x ∈ l, ArcOk x) :
    Meets Try.prog 19 [.agg #[.int .i64 N, .slice A l.length cap], .slice B keep.length cb] w [] (InducedΦ N l keep) := by
  refine f_enter Try.func19 rfl Try.ntmps19 rfl Owns.nil ?_
  refine f_seq fun K1 kh1 => ?_
  refine f_region ?_
  refine f_step rfl rfl rfl (o_box rfl rfl fun b2 => ?_)
  refine f_step rfl rfl rfl (o_alloc Try.zeroValue24 rfl fun b4 => ?_)
  refine f_stepP rfl rfl rfl (o_assign rfl) ?_
  refine f_stepP rfl rfl rfl (o_assign rfl) ?_
  refine f_stepP rfl rfl rfl (o_assign rfl) ?_
  refine f_done ?_
  refine f_tn (kh1 _ _ ?_)
  clear kh1
  refine f_seq fun K2 kh2 => ?_
  refine f_seq fun K3 kh3 => ?_
  refine f_region ?_
  refine f_stepP rfl rfl rfl (o_loadA (vs := [_, _]) Try.isAgg24 Try.sizeOf24 rfl rfl ⟨(rdA rfl), (rdA rfl), trivial⟩) ?_
  refine f_step rfl rfl rfl (o_call Try.call23 rfl (fun w_ hp_ => Check_spec N A l cap w_ (hr.up0 hp_) hl hN hok) ?_)
  rintro _ _ ⟨rfl, rfl⟩
  dsimp only [List.cons_append, List.nil_append]
  refine f_stepP rfl rfl rfl (o_move rfl) ?_
  refine f_stepP rfl rfl rfl (o_extract rfl rfl) ?_
  refine f_stepP rfl rfl rfl (o_extract rfl rfl) ?_
  refine f_stepP rfl rfl rfl (o_assign rfl) ?_
  refine f_stepP rfl rfl rfl (o_assign rfl) ?_
  refine f_done ?_
  refine f_tn (kh3 _ _ ?_)
  clear kh3
  refine f_seq fun K4 kh4 => ?_
  refine f_region ?_
  refine f_stepP rfl rfl rfl (o_move rfl) ?_
  refine f_stepP rfl rfl rfl (o_neq rfl rfl) ?_
  refine f_done ?_
  refine f_tn (kh4 _ _ ?_)
  clear kh4
  refine f_cond rfl (fun c21 => ?_) (fun c21 => ?_)
  · skip
    refine f_seq fun K5 kh5 => ?_
    refine f_region ?_
    refine f_stepP rfl rfl rfl (o_build st24 rfl rfl) ?_
    refine f_stepP rfl rfl rfl (o_move rfl) ?_
    refine f_step0 rfl rfl (o_storeA Try.sizeOf24 rfl rfl rfl rfl (by first | exact Nat.le_of_ble_eq_true rfl | (simp; done) | (simp; omega)) _ rfl ?_)
    refine f_stepP rfl rfl rfl (o_assign rfl) ?_
    refine f_stepP rfl rfl rfl (o_assign rfl) ?_
    refine f_stepP rfl rfl rfl (o_assign rfl) ?_
    refine f_done ?_
    refine f_tn (kh5 _ _ ?_)
    clear kh5
    refine f_ret ?_
    refine f_tr ?_
    exact f_finR4 [] Try.results19 (rvA (vs := [.int .i64 0, .slice none 0 0]) Try.isAgg24 Try.sizeOf24 rfl rfl ⟨(rdA rfl), (rdA rfl), trivial⟩) (rv rfl) (rv rfl) (rv rfl) Sub.nil (by unfold InducedΦ; rw [if_pos (by simpa using c21)]; exact ⟨rfl, rfl⟩)
  · skip
    have hc0 : (gcheck N l).2 = 0 := by simpa using c21
    obtain ⟨hN1, hN2, hlen, hgood⟩ := gcheck_zero hc0
    refine f_skip ?_
    refine f_tn (kh2 _ _ ?_)
    clear kh2
    refine f_seq fun K6 kh6 => ?_
    refine f_seq fun K7 kh7 => ?_
    refine f_region ?_
    refine f_stepP rfl rfl rfl (o_move rfl) ?_
    refine f_stepP rfl rfl rfl (o_len sl37 rfl) ?_
    refine f_stepP rfl rfl rfl (o_field fa24_0 rfl) ?_
    refine f_stepP rfl rfl rfl (o_load Try.isAgg3 rfl (rdA rfl)) ?_
    refine f_stepP rfl rfl rfl (o_neq rfl rfl) ?_
    refine f_done ?_
    refine f_tn (kh7 _ _ ?_)
    clear kh7
    refine f_cond rfl (fun c28 => ?_) (fun c28 => ?_)
    · skip
      refine f_seq fun K8 kh8 => ?_
      refine f_region ?_
      refine f_stepP rfl rfl rfl (o_build st24 rfl rfl) ?_
      refine f_step0 rfl rfl (o_storeA Try.sizeOf24 rfl rfl rfl rfl (by first | exact Nat.le_of_ble_eq_true rfl | (simp; done) | (simp; omega)) _ rfl ?_)
      refine f_stepP rfl rfl rfl (o_assign rfl) ?_
      refine f_stepP rfl rfl rfl (o_assign rfl) ?_
      refine f_stepP rfl rfl rfl (o_assign rfl) ?_
      refine f_done ?_
      refine f_tn (kh8 _ _ ?_)
      clear kh8
      refine f_ret ?_
      refine f_tr ?_
      exact f_finR4 [] Try.results19 (rvA (vs := [.int .i64 0, .slice none 0 0]) Try.isAgg24 Try.sizeOf24 rfl rfl ⟨(rdA rfl), (rdA rfl), trivial⟩) (rv rfl) (rv rfl) (rv rfl) Sub.nil (by unfold InducedΦ; rw [if_neg (by simpa using c21), if_pos (by omega)]; exact ⟨rfl, rfl⟩)
    · skip
      have hkN : (keep.length : Int) = N := by omega
      refine f_skip ?_
      refine f_tn (kh6 _ _ ?_)
      clear kh6
      refine f_seq fun K9 kh9 => ?_
      refine f_region ?_
      refine f_step rfl rfl rfl (o_makeMap fun b30 => ?_)
      refine f_stepP rfl rfl rfl (o_assign rfl) ?_
      refine f_done ?_
      refine f_tn (kh9 _ _ ?_)
      clear kh9
      refine f_seq fun K10 kh10 => ?_
      refine f_seq fun K11 kh11 => ?_
      refine f_region ?_
      refine f_stepP rfl rfl rfl (o_move rfl) ?_
      refine f_stepP rfl rfl rfl (o_len sl37 rfl) ?_
      refine f_stepP rfl rfl rfl (o_move rfl) ?_
      refine f_done ?_
      refine f_tn (kh11 _ _ ?_)
      clear kh11
      refine f_block ?_
      refine f_loop (α := Nat × List (Int × Value × Nat) × Nat × Value × Seg) [1, 2, 4, 6, 10, 31, 32] (fun ⟨k, ents, clk, v5, m5⟩ => [(33, .int .i64 (k : Int)), (5, v5)]) (fun ⟨k, ents, clk, v5, m5⟩ => [[(b30, mobj (fun x : Int => .int .i64 x) ents clk)], m5, [(b2, blk [.int .i64 N, .slice A l.length cap] 24)], [(b4, blk [.int .i64 0, .slice none 0 0] 24)]]) (fun ⟨k, ents, clk, v5, m5⟩ => k ≤ keep.length ∧ Own 3 1 v5 (verts (keep.take k)).length (ints (verts (keep.take k))) m5 ∧ Numbers ents keep k) (fun ⟨k, ents, clk, v5, m5⟩ => keep.length - k) (0, [], 0, .slice none 0 0, []) ?_ ?_ ?_ ?_
      · exact (by repeat (first | exact trivial | refine ⟨rfl, ?_⟩))
      · repeat (first | exact Sub.nil | refine Sub.pick ?_ | refine Sub.castO rfl ?_ | refine Sub.skip ?_)
      · exact ⟨by omega, Own.nil _ _, numbers_start keep⟩
      · rintro ⟨k, ents, clk, v5, m5⟩ ⟨hk0, ho5, hnum⟩
        obtain ⟨A5, cap5, rfl, hc5⟩ := ho5.val
        have hvl := verts_take_le keep k
        refine f_seq fun K12 kh12 => ?_
        refine f_region ?_
        refine f_stepP rfl rfl rfl (o_lss rfl rfl) ?_
        refine f_done ?_
        refine f_tn (kh12 _ _ ?_)
        clear kh12
        refine f_seq fun K13 kh13 => ?_
        refine f_cond rfl (fun c34 => ?_) (fun c34 => ?_)
        · skip
          refine f_skip ?_
          refine f_tn (kh13 _ _ ?_)
          clear kh13
          refine f_seq fun K14 kh14 => ?_
          refine f_block ?_
          refine f_seq fun K15 kh15 => ?_
          refine f_region ?_
          refine f_stepP rfl rfl rfl (o_move rfl) ?_
          have hkk : k < keep.length := by omega
          obtain ⟨bk, ok, rfl, hSk, hck⟩ := hk (map_ne hkk)
          refine f_stepP rfl rfl rfl (o_idx sl37 rfl rfl (ok + k) ⟨by omega, by omega, by first | omega | (simp; done) | (simp; omega)⟩) ?_
          refine f_stepP rfl rfl rfl (o_load Try.isAgg4 rfl (roOne (enc := Value.bool) hSk hck hkk)) ?_
          refine f_stepP rfl rfl rfl (o_assign rfl) ?_
          refine f_stepP rfl rfl rfl (o_assign rfl) ?_
          refine f_done ?_
          refine f_tn (kh15 _ _ ?_)
          clear kh15
          refine f_seq fun K16 kh16 => ?_
          refine f_region ?_
          refine f_stepP rfl rfl rfl (o_move rfl) ?_
          refine f_done ?_
          refine f_tn (kh16 _ _ ?_)
          clear kh16
          refine f_condB rfl (fun c38 => ?_) (fun c38 => ?_)
          · skip
            refine f_seq fun K17 kh17 => ?_
            refine f_region ?_
            refine f_stepP rfl rfl rfl (o_move rfl) ?_
            refine f_stepP rfl rfl rfl (o_move rfl) ?_
            refine f_stepP rfl rfl rfl (o_move rfl) ?_
            refine f_stepP rfl rfl rfl (o_len sl28 rfl) ?_
            refine f_step0 rfl rfl (o_mapUpdate kt63 rfl rfl rfl rfl ?_)
            refine f_done ?_
            refine f_tn (kh17 _ _ ?_)
            clear kh17
            refine f_region ?_
            refine f_stepP rfl rfl rfl (o_move rfl) ?_
            refine f_stepP rfl rfl rfl (o_move rfl) ?_
            refine f_step rfl rfl rfl (o_slice1 el28 (by omega) rfl rfl rfl fun b45 => ?_)
            refine f_step rfl rfl rfl (o_append el28 rfl rfl ho5 (ys := [.int .i64 (k : Int)]) ⟨(rdA rfl), trivial⟩ rfl rfl (by omega) (by omega) fun v46 m46 o46 => ?_)
            refine f_stepP rfl rfl rfl (o_assign rfl) ?_
            refine f_done ?_
            refine f_bn ?_
            refine f_tn (kh14 _ _ ?_)
            clear kh14
            refine f_region ?_
            refine f_stepP rfl rfl rfl (o_add rfl rfl _ (wrap_i64 (by omega))) ?_
            refine f_stepP rfl rfl rfl (o_move rfl) ?_
            refine f_done ?_
            refine f_tn (f_again (k + 1, mput ents (k : Int) (.int .i64 ((verts (keep.take k)).length : Int)) clk, mclock ents (k : Int) clk, v46, m46) (by first | omega | (dsimp only; omega) | (simp; omega)) ⟨by omega, by rw [verts_yes hkk (by simpa using c38), ints_append, List.length_append]; exact o46, numbers_yes hkk hnum (by simpa using c38)⟩ ?_ ?_ ?_)
            · exact (by repeat (first | exact trivial | refine ⟨rfl, ?_⟩))
            · exact (by repeat (first | exact trivial | refine ⟨rfl, ?_⟩))
            · repeat (first | exact Sub.nil | refine Sub.pick ?_ | refine Sub.castO rfl ?_ | refine Sub.skip ?_)
          · skip
            refine f_skip ?_
            refine f_bn ?_
            refine f_tn (kh14 _ _ ?_)
            clear kh14
            refine f_region ?_
            refine f_stepP rfl rfl rfl (o_add rfl rfl _ (wrap_i64 (by omega))) ?_
            refine f_stepP rfl rfl rfl (o_move rfl) ?_
            refine f_done ?_
            refine f_tn (f_again (k + 1, ents, clk, _, m5) (by first | omega | (dsimp only; omega) | (simp; omega)) ⟨by omega, by rw [verts_no hkk (by simpa using c38)]; exact ho5, numbers_no hkk hnum (by simpa using c38)⟩ ?_ ?_ ?_)
            · exact (by repeat (first | exact trivial | refine ⟨rfl, ?_⟩))
            · exact (by repeat (first | exact trivial | refine ⟨rfl, ?_⟩))
            · repeat (first | exact Sub.nil | refine Sub.pick ?_ | refine Sub.castO rfl ?_ | refine Sub.skip ?_)
        · skip
          refine f_exit ?_
          refine f_te ?_
          clear kh13
          refine f_te ?_
          refine f_be ?_
          refine f_tn (kh10 _ _ ?_)
          clear kh10
          refine f_seq fun K18 kh18 => ?_
          refine f_seq fun K19 kh19 => ?_
          refine f_region ?_
          refine f_stepP rfl rfl rfl (o_move rfl) ?_
          refine f_stepP rfl rfl rfl (o_len sl28 rfl) ?_
          refine f_stepP rfl rfl rfl (o_eql rfl rfl) ?_
          refine f_done ?_
          refine f_tn (kh19 _ _ ?_)
          clear kh19
          refine f_cond rfl (fun c50 => ?_) (fun c50 => ?_)
          · skip
            refine f_seq fun K20 kh20 => ?_
            refine f_region ?_
            refine f_stepP rfl rfl rfl (o_build st24 rfl rfl) ?_
            refine f_step0 rfl rfl (o_storeA Try.sizeOf24 rfl rfl rfl rfl (by first | exact Nat.le_of_ble_eq_true rfl | (simp; done) | (simp; omega)) _ rfl ?_)
            refine f_stepP rfl rfl rfl (o_assign rfl) ?_
            refine f_stepP rfl rfl rfl (o_assign rfl) ?_
            refine f_stepP rfl rfl rfl (o_assign rfl) ?_
            refine f_done ?_
            refine f_tn (kh20 _ _ ?_)
            clear kh20
            refine f_ret ?_
            refine f_tr ?_
            exact f_finR4 [] Try.results19 (rvA (vs := [.int .i64 0, .slice none 0 0]) Try.isAgg24 Try.sizeOf24 rfl rfl ⟨(rdA rfl), (rdA rfl), trivial⟩) (rv rfl) (rv rfl) (rv rfl) Sub.nil (by unfold InducedΦ; rw [if_neg (by simpa using c21), if_neg (by omega), if_pos (by rw [verts_all (by omega)] at c50; omega)]; exact ⟨rfl, rfl⟩)
          · skip
            have hne : ¬ (verts keep).length = 0 := by rw [verts_all (by omega)] at c50; omega
            refine f_skip ?_
            refine f_tn (kh18 _ _ ?_)
            clear kh18
            refine f_seq fun K21 kh21 => ?_
            refine f_region ?_
            refine f_stepP rfl rfl rfl (o_move rfl) ?_
            refine f_stepP rfl rfl rfl (o_len sl28 rfl) ?_
            refine f_stepP rfl rfl rfl (o_field fa24_0 rfl) ?_
            refine f_step0 rfl rfl (o_store Try.sizeOf3 rfl rfl rfl rfl (by first | exact Nat.le_of_ble_eq_true rfl | (simp; done) | (simp; omega)) _ rfl ?_)
            refine f_done ?_
            refine f_tn (kh21 _ _ ?_)
            clear kh21
            refine f_seq fun K22 kh22 => ?_
            refine f_seq fun K23 kh23 => ?_
            have hnum2 : ∀ j (h : j < keep.length), keep[j] = true → mget ents (j : Int) = some (.int .i64 (vrank keep j : Int)) := fun j h hj => hnum j h (by omega) hj
            refine f_region ?_
            refine f_stepP rfl rfl rfl (o_field fa24_1 rfl) ?_
            refine f_stepP rfl rfl rfl (o_load Try.isAgg22 rfl (rdA rfl)) ?_
            refine f_stepP rfl rfl rfl (o_len sl22 rfl) ?_
            refine f_stepP rfl rfl rfl (o_move rfl) ?_
            refine f_done ?_
            refine f_tn (kh23 _ _ ?_)
            clear kh23
            refine f_block ?_
            refine f_loop (α := Nat × Value × Seg × Value × Seg) [1, 4, 5, 10, 56, 57] (fun ⟨i, sa, ma, v6, m6⟩ => [(58, .int .i64 (i : Int)), (6, v6)]) (fun ⟨i, sa, ma, v6, m6⟩ => [[(b4, blk [.int .i64 (verts (keep.take k)).length, sa] 24)], ma, m6, m5, [(b30, mobj (fun x : Int => .int .i64 x) ents clk)], [(b2, blk [.int .i64 N, .slice A l.length cap] 24)]]) (fun ⟨i, sa, ma, v6, m6⟩ => i ≤ l.length ∧ Own 44 3 sa (subArcs keep (l.take i)).length ((subArcs keep (l.take i)).flatMap arcCs) ma ∧ Own 3 1 v6 (idxs (kin keep) (l.take i)).length (ints (idxs (kin keep) (l.take i))) m6) (fun ⟨i, sa, ma, v6, m6⟩ => l.length - i) (0, .slice none 0 0, [], .slice none 0 0, []) ?_ ?_ ?_ ?_
            · exact (by repeat (first | exact trivial | refine ⟨rfl, ?_⟩))
            · repeat (first | exact Sub.nil | refine Sub.pick ?_ | refine Sub.castO rfl ?_ | refine Sub.skip ?_)
            · exact ⟨by omega, Own.nil _ _, Own.nil _ _⟩
            · rintro ⟨i, sa, ma, v6, m6⟩ ⟨hi0, hoa, ho6⟩
              have hl1 := sub_take_le keep l i
              have hl2 := idxs_take_le (kin keep) l i
              obtain ⟨Aa, capa, rfl, hca⟩ := hoa.val
              obtain ⟨A6, cap6, rfl, hc6⟩ := ho6.val
              refine f_envC (e := [(58, _), (6, _), (1, _), (4, _), (5, _), (10, _), (56, _), (57, _)]) (by repeat (first | exact trivial | refine ⟨rfl, ?_⟩)) ?_
              refine f_seq fun K24 kh24 => ?_
              refine f_region ?_
              refine f_stepP rfl rfl rfl (o_lss rfl rfl) ?_
              refine f_done ?_
              refine f_tn (kh24 _ _ ?_)
              clear kh24
              refine f_seq fun K25 kh25 => ?_
              refine f_cond rfl (fun c59 => ?_) (fun c59 => ?_)
              · skip
                refine f_skip ?_
                refine f_tn (kh25 _ _ ?_)
                clear kh25
                refine f_seq fun K26 kh26 => ?_
                refine f_block ?_
                refine f_seq fun K27 kh27 => ?_
                refine f_region ?_
                refine f_stepP rfl rfl rfl (o_move rfl) ?_
                have hii : i < l.length := by omega
                obtain ⟨bl, off, rfl, hS, hc⟩ := hr (flat_ne arcCs arcCs_len (by omega) hii)
                obtain ⟨hs0, hs1, hd0, hd1⟩ := hgood i hii
                have hsr : l[i].src.toNat < keep.length := by omega
                have hds : l[i].dst.toNat < keep.length := by omega
                obtain ⟨bk, ok, rfl, hSk, hck⟩ := hk (map_ne hsr)
                refine f_stepP rfl rfl rfl (o_idx sl22 rfl rfl (off + i * 3) ⟨by omega, by omega, by first | omega | (simp; done) | (simp; omega)⟩) ?_
                refine f_stepP rfl rfl rfl (o_loadA (vs := arcCs l[i]) Try.isAgg44 Try.sizeOf44 rfl rfl (roElem arcCs_len hS hc hii)) ?_
                refine f_step rfl rfl rfl (o_alloc Try.zeroValue44 rfl fun b14 => ?_)
                refine f_stepP rfl rfl rfl (o_assign rfl) ?_
                refine f_step0 rfl rfl (o_storeA Try.sizeOf44 rfl rfl rfl rfl (by first | exact Nat.le_of_ble_eq_true rfl | (simp; done) | (simp; omega)) _ rfl ?_)
                refine f_done ?_
                refine f_tn (kh27 _ _ ?_)
                clear kh27
                refine f_seq fun K28 kh28 => ?_
                refine f_region ?_
                refine f_stepP rfl rfl rfl (o_move rfl) ?_
                refine f_stepP rfl rfl rfl (o_field fa44_0 rfl) ?_
                refine f_stepP rfl rfl rfl (o_load Try.isAgg3 rfl (rdA rfl)) ?_
                refine f_stepP rfl rfl rfl (o_idx sl37 rfl rfl (ok + l[i].src.toNat) ⟨by omega, by omega, by first | omega | (simp; done) | (simp; omega)⟩) ?_
                refine f_stepP rfl rfl rfl (o_load Try.isAgg4 rfl (roOne (enc := Value.bool) hSk hck hsr)) ?_
                refine f_stepP rfl rfl rfl (o_move rfl) ?_
                refine f_splitLB 68 rfl (fun g68 => ?_) (fun g68 => ?_)
                · skip
                  refine f_stepPY rfl rfl rfl rfl rfl (o_move rfl) ?_
                  refine f_stepPY rfl rfl rfl rfl rfl (o_field fa44_1 rfl) ?_
                  refine f_stepPY rfl rfl rfl rfl rfl (o_load Try.isAgg3 rfl (rdA rfl)) ?_
                  refine f_stepPY rfl rfl rfl rfl rfl (o_idx sl37 rfl rfl (ok + l[i].dst.toNat) ⟨by omega, by omega, by first | omega | (simp; done) | (simp; omega)⟩) ?_
                  refine f_stepPY rfl rfl rfl rfl rfl (o_load Try.isAgg4 rfl (roOne (enc := Value.bool) hSk hck hds)) ?_
                  refine f_stepP rfl rfl rfl (o_pickT rfl rfl) ?_
                  refine f_done ?_
                  refine f_tn (kh28 _ _ ?_)
                  clear kh28
                  refine f_condB rfl (fun c74 => ?_) (fun c74 => ?_)
                  · skip
                    have hkin : kin keep l[i] = true := by rw [kin_get hsr hds, g68, c74]; rfl
                    refine f_seq fun K29 kh29 => ?_
                    refine f_region ?_
                    refine f_stepP rfl rfl rfl (o_field fa24_1 rfl) ?_
                    refine f_stepP rfl rfl rfl (o_load Try.isAgg22 rfl (rdA rfl)) ?_
                    refine f_stepP rfl rfl rfl (o_move rfl) ?_
                    refine f_stepP rfl rfl rfl (o_field fa44_0 rfl) ?_
                    refine f_stepP rfl rfl rfl (o_load Try.isAgg3 rfl (rdA rfl)) ?_
                    refine f_stepP rfl rfl rfl (o_lookup kt63 Try.zeroValue3 rfl rfl rfl (.int .i64 (vrank keep l[i].src.toNat : Int)) (by rw [look_num hnum2 hs0 hsr g68])) ?_
                    refine f_stepP rfl rfl rfl (o_move rfl) ?_
                    refine f_stepP rfl rfl rfl (o_field fa44_1 rfl) ?_
                    refine f_stepP rfl rfl rfl (o_load Try.isAgg3 rfl (rdA rfl)) ?_
                    refine f_stepP rfl rfl rfl (o_lookup kt63 Try.zeroValue3 rfl rfl rfl (.int .i64 (vrank keep l[i].dst.toNat : Int)) (by rw [look_num hnum2 hd0 hds (by simpa using c74)])) ?_
                    refine f_stepP rfl rfl rfl (o_field fa44_2 rfl) ?_
                    refine f_stepP rfl rfl rfl (o_load Try.isAgg42 rfl (rdA rfl)) ?_
                    refine f_stepP rfl rfl rfl (o_build (cs := arcCs (subArc keep l[i])) st44 rfl rfl) ?_
                    refine f_step rfl rfl rfl (o_slice1 el22 (by omega) rfl rfl rfl fun b88 => ?_)
                    refine f_step rfl rfl rfl (o_append el22 rfl rfl hoa (ys := arcCs (subArc keep l[i])) ⟨(rdA rfl), (rdA rfl), (rdA rfl), trivial⟩ rfl rfl (by omega) (by omega) fun v89 m89 o89 => ?_)
                    obtain ⟨A89, cap89, rfl, _⟩ := o89.val
                    refine f_stepP rfl rfl rfl (o_field fa24_1 rfl) ?_
                    refine f_step0 rfl rfl (o_store Try.sizeOf22 rfl rfl rfl rfl (by first | exact Nat.le_of_ble_eq_true rfl | (simp; done) | (simp; omega)) _ rfl ?_)
                    refine f_done ?_
                    refine f_tn (kh29 _ _ ?_)
                    clear kh29
                    refine f_region ?_
                    refine f_stepP rfl rfl rfl (o_move rfl) ?_
                    refine f_stepP rfl rfl rfl (o_move rfl) ?_
                    refine f_step rfl rfl rfl (o_slice1 el28 (by omega) rfl rfl rfl fun b93 => ?_)
                    refine f_step rfl rfl rfl (o_append el28 rfl rfl ho6 (ys := [.int .i64 (i : Int)]) ⟨(rdA rfl), trivial⟩ rfl rfl (by omega) (by omega) fun v94 m94 o94 => ?_)
                    refine f_stepP rfl rfl rfl (o_assign rfl) ?_
                    refine f_done ?_
                    refine f_bn ?_
                    refine f_tn (kh26 _ _ ?_)
                    clear kh26
                    refine f_region ?_
                    refine f_stepP rfl rfl rfl (o_add rfl rfl _ (wrap_i64 (by omega))) ?_
                    refine f_stepP rfl rfl rfl (o_move rfl) ?_
                    refine f_done ?_
                    refine f_tn (f_again (i + 1, _, m89, v94, m94) (by first | omega | (dsimp only; omega) | (simp; omega)) ⟨by omega, by rw [sub_yes hii hkin, List.flatMap_append, List.length_append]; simpa using o89, by rw [idxs_yes hii hkin, ints_append, List.length_append]; exact o94⟩ ?_ ?_ ?_)
                    · exact (by repeat (first | exact trivial | refine ⟨rfl, ?_⟩))
                    · exact (by repeat (first | exact trivial | refine ⟨rfl, ?_⟩))
                    · repeat (first | exact Sub.nil | refine Sub.pick ?_ | refine Sub.castO rfl ?_ | refine Sub.skip ?_)
                  · skip
                    have hkin : kin keep l[i] = false := by rw [kin_get hsr hds, g68, c74]; rfl
                    refine f_skip ?_
                    refine f_bn ?_
                    refine f_tn (kh26 _ _ ?_)
                    clear kh26
                    refine f_region ?_
                    refine f_stepP rfl rfl rfl (o_add rfl rfl _ (wrap_i64 (by omega))) ?_
                    refine f_stepP rfl rfl rfl (o_move rfl) ?_
                    refine f_done ?_
                    refine f_tn (f_again (i + 1, _, ma, _, m6) (by first | omega | (dsimp only; omega) | (simp; omega)) ⟨by omega, by rw [sub_no hii hkin]; exact hoa, by rw [idxs_no hii hkin]; exact ho6⟩ ?_ ?_ ?_)
                    · exact (by repeat (first | exact trivial | refine ⟨rfl, ?_⟩))
                    · exact (by repeat (first | exact trivial | refine ⟨rfl, ?_⟩))
                    · repeat (first | exact Sub.nil | refine Sub.pick ?_ | refine Sub.castO rfl ?_ | refine Sub.skip ?_)
                · skip
                  have hkin : kin keep l[i] = false := by rw [kin_get hsr hds, g68]; rfl
                  refine f_stepN rfl rfl rfl rfl rfl rfl ?_
                  refine f_stepN rfl rfl rfl rfl rfl rfl ?_
                  refine f_stepN rfl rfl rfl rfl rfl rfl ?_
                  refine f_stepN rfl rfl rfl rfl rfl rfl ?_
                  refine f_stepN rfl rfl rfl rfl rfl rfl ?_
                  refine f_stepP rfl rfl rfl (o_pickF rfl rfl) ?_
                  refine f_done ?_
                  refine f_tn (kh28 _ _ ?_)
                  clear kh28
                  refine f_condF rfl ?_
                  refine f_skip ?_
                  refine f_bn ?_
                  refine f_tn (kh26 _ _ ?_)
                  clear kh26
                  refine f_region ?_
                  refine f_stepP rfl rfl rfl (o_add rfl rfl _ (wrap_i64 (by omega))) ?_
                  refine f_stepP rfl rfl rfl (o_move rfl) ?_
                  refine f_done ?_
                  refine f_tn (f_again (i + 1, _, ma, _, m6) (by first | omega | (dsimp only; omega) | (simp; omega)) ⟨by omega, by rw [sub_no hii hkin]; exact hoa, by rw [idxs_no hii hkin]; exact ho6⟩ ?_ ?_ ?_)
                  · exact (by repeat (first | exact trivial | refine ⟨rfl, ?_⟩))
                  · exact (by repeat (first | exact trivial | refine ⟨rfl, ?_⟩))
                  · repeat (first | exact Sub.nil | refine Sub.pick ?_ | refine Sub.castO rfl ?_ | refine Sub.skip ?_)
              · skip
                refine f_exit ?_
                refine f_te ?_
                clear kh25
                refine f_te ?_
                refine f_be ?_
                refine f_tn (kh22 _ _ ?_)
                clear kh22
                refine f_seq fun K30 kh30 => ?_
                refine f_region ?_
                refine f_stepP rfl rfl rfl (o_loadA (vs := [_, _]) Try.isAgg24 Try.sizeOf24 rfl rfl ⟨(rdA rfl), (rdA rfl), trivial⟩) ?_
                refine f_stepP rfl rfl rfl (o_move rfl) ?_
                refine f_stepP rfl rfl rfl (o_move rfl) ?_
                refine f_step0 rfl rfl (o_storeA Try.sizeOf24 rfl rfl rfl rfl (by first | exact Nat.le_of_ble_eq_true rfl | (simp; done) | (simp; omega)) _ rfl ?_)
                refine f_stepP rfl rfl rfl (o_assign rfl) ?_
                refine f_stepP rfl rfl rfl (o_assign rfl) ?_
                refine f_stepP rfl rfl rfl (o_assign rfl) ?_
                refine f_done ?_
                refine f_tn (kh30 _ _ ?_)
                clear kh30
                refine f_ret ?_
                have et : l.take i = l := List.take_of_length_le (by omega)
                rw [et] at hoa ho6
                have ev := verts_all (keep := keep) (k := k) (by omega)
                rw [ev] at ho5
                exact f_finR4 [ma, m5, m6] Try.results19 (rvA (vs := [.int .i64 (verts (keep.take k)).length, .slice Aa (subArcs keep (l.take i)).length capa]) Try.isAgg24 Try.sizeOf24 rfl rfl ⟨(rdA rfl), (rdA rfl), trivial⟩) (rv rfl) (rv rfl) (rv rfl) (by repeat (first | exact Sub.nil | refine Sub.pick ?_)) (by unfold InducedΦ; rw [if_neg (by simpa using c21), if_neg (by omega), if_neg hne]; exact ⟨_, _, _, _, _, _, by rw [ev, et], rfl, hoa, ho5, ho6⟩)

end Go.Proofs.Ytlllpmafhnfihaa
