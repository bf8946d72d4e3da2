/- flyoverlaw03.GraphParts answers true. -/
import Derived.Test.YthbkeoejbendnaaFWorks3
import Derived.Test.YthbkeoejbendnaaFInd
import Derived.Test.YthbkeoejbendnaaPInd2
namespace Go.Proofs.Ythbkeoejbendnaa
open Go Go.RowKit Fly
set_option linter.unusedVariables false
set_option linter.unusedSimpArgs false


theorem seen_ro {S : Nat → Prop} {w : World} {A : Option Addr} {cs : List Value} (h : Seen S w A cs) : Ro S w A cs := fun hne => by
  rcases h with ⟨_, e⟩ | ⟨b, off, e, h⟩
  · exact absurd e hne
  · exact ⟨b, off, e, h hne⟩
theorem bools_rep (b : Bool) (n : Nat) : (List.replicate n [Value.bool b]).flatten = (List.replicate n b).map .bool := by
  induction n with
  | zero => rfl
  | succ n ih => simp only [List.replicate_succ, List.flatten_cons, List.map_cons, ih]; rfl
theorem bools_set (l : List Bool) (i : Nat) (b : Bool) : (l.map Value.bool).set i (.bool b) = (l.set i b).map .bool := by rw [List.map_set]

set_option maxRecDepth 100000 in
set_option maxHeartbeats 4000000 in
theorem GraphParts_spec (N : Int) (A : Option Addr) (l : List Arc) (cap : Nat) (w : World) (hr : Ro (Fr w []) w A (l.flatMap arcCs)) (hl : l.length ≤ 9223372036854775807) (hN : I64 N) (hok : ∀ x ∈ l, ArcOk x) :
    Meets Try.prog 5 [.agg #[.int .i64 N, .slice A l.length cap]] w [] (fun u m => u = .bool true ∧ m = []) := by
  refine f_enter Try.func5 rfl Try.ntmps5 rfl Owns.nil ?_
  refine f_seq fun K1 kh1 => ?_
  refine f_region ?_
  refine f_step rfl rfl rfl (o_box rfl rfl fun b1 => ?_)
  refine f_stepP rfl rfl rfl (o_assign rfl) ?_
  refine f_done ?_
  refine f_tn (kh1 _ _ ?_)
  clear kh1
  refine f_seq fun K2 kh2 => ?_
  refine f_seq fun K3 kh3 => ?_
  refine f_region ?_
  refine f_step rfl rfl rfl (o_call Try.call9 rfl (fun w_ hp_ => works_spec w_) ?_)
  rintro _ _ ⟨rfl, rfl⟩
  dsimp only [List.cons_append, List.nil_append]
  refine f_stepP rfl rfl rfl (o_not rfl) ?_
  refine f_done ?_
  refine f_tn (kh3 _ _ ?_)
  clear kh3
  refine f_condF rfl ?_
  refine f_skip ?_
  refine f_tn (kh2 _ _ ?_)
  clear kh2
  refine f_seq fun K4 kh4 => ?_
  refine f_region ?_
  refine f_stepP rfl rfl rfl (o_loadA (vs := [_, _]) Try.isAgg24 Try.sizeOf24 rfl rfl ⟨(rdA rfl), (rdA rfl), trivial⟩) ?_
  refine f_step rfl rfl rfl (o_call Try.call14 rfl (fun w_ hp_ => Parts_spec N A l cap w_ (hr.up0 hp_) hl hN hok) ?_)
  rintro v26 m26 hP
  by_cases hc0 : (gcheck N l).2 = 0
  rotate_left
  · rw [if_neg hc0] at hP
    obtain ⟨rfl, rfl⟩ := hP
    dsimp only [List.cons_append, List.nil_append]
    refine f_stepP rfl rfl rfl (o_move rfl) ?_
    refine f_stepP rfl rfl rfl (o_extract rfl rfl) ?_
    refine f_stepP rfl rfl rfl (o_extract rfl rfl) ?_
    refine f_stepP rfl rfl rfl (o_assign rfl) ?_
    refine f_stepP rfl rfl rfl (o_assign rfl) ?_
    refine f_done ?_
    refine f_tn (kh4 _ _ ?_)
    clear kh4
    refine f_seq fun K5 kh5 => ?_
    refine f_seq fun K6 kh6 => ?_
    refine f_region ?_
    refine f_stepP rfl rfl rfl (o_move rfl) ?_
    refine f_stepP rfl rfl rfl (o_neq rfl rfl) ?_
    refine f_done ?_
    refine f_tn (kh6 _ _ ?_)
    clear kh6
    refine f_condY rfl (hc0) ?_
    refine f_seq fun K7 kh7 => ?_
    refine f_region ?_
    refine f_stepP rfl rfl rfl (o_move rfl) ?_
    refine f_stepP rfl rfl rfl (o_len sl29 rfl) ?_
    refine f_stepP rfl rfl rfl (o_eql rfl rfl) ?_
    refine f_stepP rfl rfl rfl (o_assign rfl) ?_
    refine f_done ?_
    refine f_tn (kh7 _ _ ?_)
    clear kh7
    refine f_ret ?_
    refine f_tr ?_
    exact f_fin1 [] Try.results5 rfl Sub.nil ⟨rfl, rfl⟩
  rw [if_pos hc0] at hP
  obtain ⟨p, bp, rfl, rfl, hp⟩ := hP
  obtain ⟨hN1, hN2, hlen, hgood⟩ := gcheck_zero hc0
  obtain ⟨n, rfl⟩ : ∃ n : Nat, N = n := ⟨N.toNat, by omega⟩
  rw [Int.toNat_natCast] at hp ⊢
  have hpl := hp.len
  dsimp only [List.cons_append, List.nil_append]
  refine f_stepP rfl rfl rfl (o_move rfl) ?_
  refine f_stepP rfl rfl rfl (o_extract rfl rfl) ?_
  refine f_stepP rfl rfl rfl (o_extract rfl rfl) ?_
  refine f_stepP rfl rfl rfl (o_assign rfl) ?_
  refine f_stepP rfl rfl rfl (o_assign rfl) ?_
  refine f_done ?_
  refine f_tn (kh4 _ _ ?_)
  clear kh4
  refine f_seq fun K8 kh8 => ?_
  refine f_seq fun K9 kh9 => ?_
  refine f_region ?_
  refine f_stepP rfl rfl rfl (o_move rfl) ?_
  refine f_stepP rfl rfl rfl (o_neq rfl rfl) ?_
  refine f_done ?_
  refine f_tn (kh9 _ _ ?_)
  clear kh9
  refine f_condN rfl (by simp) ?_
  refine f_skip ?_
  refine f_tn (kh8 _ _ ?_)
  clear kh8
  refine f_seq fun K10 kh10 => ?_
  refine f_region ?_
  refine f_stepP rfl rfl rfl (o_assign rfl) ?_
  refine f_done ?_
  refine f_tn (kh10 _ _ ?_)
  clear kh10
  refine f_seq fun K11 kh11 => ?_
  refine f_seq fun K12 kh12 => ?_
  refine f_region ?_
  refine f_stepP rfl rfl rfl (o_move rfl) ?_
  refine f_stepP rfl rfl rfl (o_len sl29 rfl) ?_
  refine f_stepP rfl rfl rfl (o_move rfl) ?_
  refine f_done ?_
  refine f_tn (kh12 _ _ ?_)
  clear kh12
  refine f_block ?_
  refine f_loop (α := Nat × Nat) [1, 3, 34, 35] (fun ⟨k, nx⟩ => [(36, .int .i64 (k : Int)), (5, .int .i64 (nx : Int))]) (fun ⟨k, nx⟩ => [[(bp, blk (nats p) 3)], [(b1, blk [.int .i64 (n : Int), .slice A l.length cap] 24)]]) (fun ⟨k, nx⟩ => k ≤ n ∧ nxt p k = nx) (fun ⟨k, nx⟩ => n - k) (0, 0) ?_ ?_ ?_ ?_
  · exact (by repeat (first | exact trivial | refine ⟨rfl, ?_⟩))
  · repeat (first | exact Sub.nil | refine Sub.pick ?_ | refine Sub.castO rfl ?_ | refine Sub.skip ?_)
  · exact ⟨by omega, rfl⟩
  · rintro ⟨k, nx⟩ ⟨hkn, hnx⟩
    have hnl := nxt_le p k
    refine f_seq fun K13 kh13 => ?_
    refine f_region ?_
    refine f_stepP rfl rfl rfl (o_lss rfl rfl) ?_
    refine f_done ?_
    refine f_tn (kh13 _ _ ?_)
    clear kh13
    refine f_seq fun K14 kh14 => ?_
    refine f_cond rfl (fun c37 => ?_) (fun c37 => ?_)
    · skip
      refine f_skip ?_
      refine f_tn (kh14 _ _ ?_)
      clear kh14
      refine f_seq fun K15 kh15 => ?_
      refine f_block ?_
      refine f_seq fun K16 kh16 => ?_
      refine f_region ?_
      have hk : k < p.length := by omega
      refine f_stepP rfl rfl rfl (o_idx sl29 rfl rfl (k) ⟨by omega, by omega, by first | omega | (simp; done) | (simp; omega)⟩) ?_
      refine f_stepP rfl rfl rfl (o_load Try.isAgg3 rfl (rdA (nats_get hk))) ?_
      refine f_stepP rfl rfl rfl (o_assign rfl) ?_
      refine f_done ?_
      refine f_tn (kh16 _ _ ?_)
      clear kh16
      refine f_seq fun K17 kh17 => ?_
      refine f_seq fun K18 kh18 => ?_
      refine f_region ?_
      refine f_stepP rfl rfl rfl (o_move rfl) ?_
      refine f_stepP rfl rfl rfl (o_lss rfl rfl) ?_
      refine f_stepP rfl rfl rfl (o_move rfl) ?_
      refine f_falseL 42 rfl (by omega) ?_
      refine f_stepPY rfl rfl rfl rfl rfl (o_move rfl) ?_
      refine f_stepPY rfl rfl rfl rfl rfl (o_move rfl) ?_
      refine f_stepPY rfl rfl rfl rfl rfl (o_gtr rfl rfl) ?_
      refine f_stepP rfl rfl rfl (o_pickF rfl rfl) ?_
      refine f_done ?_
      refine f_tn (kh18 _ _ ?_)
      clear kh18
      refine f_condN rfl (by have := hp.tidy k hk; rw [hnx] at this; omega) ?_
      refine f_skip ?_
      refine f_tn (kh17 _ _ ?_)
      clear kh17
      refine f_seq fun K19 kh19 => ?_
      refine f_region ?_
      refine f_stepP rfl rfl rfl (o_move rfl) ?_
      refine f_stepP rfl rfl rfl (o_move rfl) ?_
      refine f_stepP rfl rfl rfl (o_eql rfl rfl) ?_
      refine f_done ?_
      refine f_tn (kh19 _ _ ?_)
      clear kh19
      refine f_cond rfl (fun c49 => ?_) (fun c49 => ?_)
      · skip
        refine f_region ?_
        refine f_stepP rfl rfl rfl (o_move rfl) ?_
        refine f_stepP rfl rfl rfl (o_add rfl rfl _ (wrap_i64 (by omega))) ?_
        refine f_stepP rfl rfl rfl (o_assign rfl) ?_
        refine f_done ?_
        refine f_bn ?_
        refine f_tn (kh15 _ _ ?_)
        clear kh15
        refine f_region ?_
        refine f_stepP rfl rfl rfl (o_add rfl rfl _ (wrap_i64 (by omega))) ?_
        refine f_stepP rfl rfl rfl (o_move rfl) ?_
        refine f_done ?_
        refine f_tn (f_again (k + 1, nx + 1) (by first | omega | (dsimp only; omega) | (simp; omega)) ⟨by omega, by rw [nxt, List.getElem?_eq_getElem hk, hnx, if_pos (by congr 1; omega)]⟩ ?_ ?_ ?_)
        · exact (by repeat (first | exact trivial | refine ⟨rfl, ?_⟩))
        · exact (by repeat (first | exact trivial | refine ⟨rfl, ?_⟩))
        · repeat (first | exact Sub.nil | refine Sub.pick ?_ | refine Sub.castO rfl ?_ | refine Sub.skip ?_)
      · skip
        refine f_skip ?_
        refine f_bn ?_
        refine f_tn (kh15 _ _ ?_)
        clear kh15
        refine f_region ?_
        refine f_stepP rfl rfl rfl (o_add rfl rfl _ (wrap_i64 (by omega))) ?_
        refine f_stepP rfl rfl rfl (o_move rfl) ?_
        refine f_done ?_
        refine f_tn (f_again (k + 1, nx) (by first | omega | (dsimp only; omega) | (simp; omega)) ⟨by omega, by rw [nxt, List.getElem?_eq_getElem hk, hnx, if_neg (fun e => by have := Option.some.inj e; omega)]⟩ ?_ ?_ ?_)
        · exact (by repeat (first | exact trivial | refine ⟨rfl, ?_⟩))
        · exact (by repeat (first | exact trivial | refine ⟨rfl, ?_⟩))
        · repeat (first | exact Sub.nil | refine Sub.pick ?_ | refine Sub.castO rfl ?_ | refine Sub.skip ?_)
    · skip
      refine f_exit ?_
      refine f_te ?_
      clear kh14
      refine f_te ?_
      refine f_be ?_
      refine f_tn (kh11 _ _ ?_)
      clear kh11
      refine f_seq fun K20 kh20 => ?_
      refine f_seq fun K21 kh21 => ?_
      refine f_region ?_
      refine f_stepP rfl rfl rfl (o_field fa24_1 rfl) ?_
      refine f_stepP rfl rfl rfl (o_load Try.isAgg22 rfl (rdA rfl)) ?_
      refine f_stepP rfl rfl rfl (o_len sl22 rfl) ?_
      refine f_stepP rfl rfl rfl (o_move rfl) ?_
      refine f_done ?_
      refine f_tn (kh21 _ _ ?_)
      clear kh21
      refine f_block ?_
      obtain rfl : n = k := by omega
      refine f_loop (α := Nat) [1, 3, 5, 54, 55] (fun j => [(56, .int .i64 (j : Int))]) (fun j => [[(bp, blk (nats p) 3)], [(b1, blk [.int .i64 (n : Int), .slice A l.length cap] 24)]]) (fun j => j ≤ l.length) (fun j => l.length - j) (0) ?_ ?_ ?_ ?_
      · exact (by repeat (first | exact trivial | refine ⟨rfl, ?_⟩))
      · repeat (first | exact Sub.nil | refine Sub.pick ?_ | refine Sub.castO rfl ?_ | refine Sub.skip ?_)
      · exact Nat.zero_le _
      · rintro j hj
        refine f_seq fun K22 kh22 => ?_
        refine f_region ?_
        refine f_stepP rfl rfl rfl (o_lss rfl rfl) ?_
        refine f_done ?_
        refine f_tn (kh22 _ _ ?_)
        clear kh22
        refine f_seq fun K23 kh23 => ?_
        refine f_cond rfl (fun c57 => ?_) (fun c57 => ?_)
        · skip
          refine f_skip ?_
          refine f_tn (kh23 _ _ ?_)
          clear kh23
          refine f_seq fun K24 kh24 => ?_
          refine f_block ?_
          refine f_seq fun K25 kh25 => ?_
          refine f_region ?_
          have hj' : j < l.length := by omega
          obtain ⟨bl, off, rfl, hS, hc⟩ := hr (flat_ne arcCs arcCs_len (by omega) hj')
          obtain ⟨hs0, hs1, hd0, hd1⟩ := hgood j hj'
          have hsr : l[j].src.toNat < p.length := by omega
          have hsd : l[j].dst.toNat < p.length := by omega
          refine f_stepP rfl rfl rfl (o_idx sl22 rfl rfl (off + j * 3) ⟨by omega, by omega, by first | omega | (simp; done) | (simp; omega)⟩) ?_
          refine f_stepP rfl rfl rfl (o_loadA (vs := arcCs l[j]) Try.isAgg34 Try.sizeOf34 rfl rfl (roElem arcCs_len hS hc hj')) ?_
          refine f_step rfl rfl rfl (o_alloc Try.zeroValue34 rfl fun b9 => ?_)
          refine f_step0 rfl rfl (o_storeA Try.sizeOf34 rfl rfl rfl rfl (by first | exact Nat.le_of_ble_eq_true rfl | (simp; done) | (simp; omega)) _ rfl ?_)
          refine f_done ?_
          refine f_tn (kh25 _ _ ?_)
          clear kh25
          refine f_seq fun K26 kh26 => ?_
          refine f_regionS rfl (by decide +kernel) ?_
          refine f_stillP rfl rfl rfl (o_move rfl) ?_
          refine f_stillP rfl rfl rfl (o_field fa34_0 rfl) ?_
          refine f_stillP rfl rfl rfl (o_load Try.isAgg3 rfl (rdA rfl)) ?_
          refine f_stillP rfl rfl rfl (o_idx sl29 rfl rfl (l[j].src.toNat) ⟨by omega, by omega, by first | omega | (simp; done) | (simp; omega)⟩) ?_
          refine f_stillP rfl rfl rfl (o_load Try.isAgg3 rfl (rdA (nats_get hsr))) ?_
          refine f_stillP rfl rfl rfl (o_move rfl) ?_
          refine f_stillP rfl rfl rfl (o_field fa34_1 rfl) ?_
          refine f_stillP rfl rfl rfl (o_load Try.isAgg3 rfl (rdA rfl)) ?_
          refine f_stillP rfl rfl rfl (o_idx sl29 rfl rfl (l[j].dst.toNat) ⟨by omega, by omega, by first | omega | (simp; done) | (simp; omega)⟩) ?_
          refine f_stillP rfl rfl rfl (o_load Try.isAgg3 rfl (rdA (nats_get hsd))) ?_
          refine f_stillP rfl rfl rfl (o_neq rfl rfl) ?_
          refine f_stillD ?_
          refine f_tn (kh26 _ _ ?_)
          clear kh26
          refine f_condN rfl (by have := parts_arc hp hj' hsr hsd; omega) ?_
          refine f_skip ?_
          refine f_bn ?_
          refine f_tn (kh24 _ _ ?_)
          clear kh24
          refine f_region ?_
          refine f_stepP rfl rfl rfl (o_add rfl rfl _ (wrap_i64 (by omega))) ?_
          refine f_stepP rfl rfl rfl (o_move rfl) ?_
          refine f_done ?_
          refine f_tn (f_again (j + 1) (by first | omega | (dsimp only; omega) | (simp; omega)) (by omega) ?_ ?_ ?_)
          · exact (by repeat (first | exact trivial | refine ⟨rfl, ?_⟩))
          · exact (by repeat (first | exact trivial | refine ⟨rfl, ?_⟩))
          · repeat (first | exact Sub.nil | refine Sub.pick ?_ | refine Sub.castO rfl ?_ | refine Sub.skip ?_)
        · skip
          refine f_exit ?_
          refine f_te ?_
          clear kh23
          refine f_te ?_
          refine f_be ?_
          refine f_tn (kh20 _ _ ?_)
          clear kh20
          refine f_seq fun K27 kh27 => ?_
          refine f_seq fun K28 kh28 => ?_
          refine f_region ?_
          refine f_stepP rfl rfl rfl (o_field fa24_0 rfl) ?_
          refine f_stepP rfl rfl rfl (o_load Try.isAgg3 rfl (rdA rfl)) ?_
          refine f_stepP rfl rfl rfl (o_gtr rfl rfl) ?_
          refine f_done ?_
          refine f_tn (kh28 _ _ ?_)
          clear kh28
          refine f_cond rfl (fun c74 => ?_) (fun c74 => ?_)
          · skip
            refine f_seq fun K29 kh29 => ?_
            refine f_region ?_
            refine f_stepP rfl rfl rfl (o_move rfl) ?_
            refine f_stepP rfl rfl rfl (o_len sl29 rfl) ?_
            refine f_stepP rfl rfl rfl (o_field fa24_0 rfl) ?_
            refine f_stepP rfl rfl rfl (o_load Try.isAgg3 rfl (rdA rfl)) ?_
            refine f_stepP rfl rfl rfl (o_eql rfl rfl) ?_
            refine f_stepP rfl rfl rfl (o_assign rfl) ?_
            refine f_done ?_
            refine f_tn (kh29 _ _ ?_)
            clear kh29
            refine f_ret ?_
            refine f_tr ?_
            exact f_fin1 [] Try.results5 rfl Sub.nil ⟨by simp, rfl⟩
          · skip
            refine f_skip ?_
            refine f_tn (kh27 _ _ ?_)
            clear kh27
            refine f_seq fun K30 kh30 => ?_
            refine f_seq fun K31 kh31 => ?_
            refine f_region ?_
            refine f_stepP rfl rfl rfl (o_assign rfl) ?_
            refine f_done ?_
            refine f_tn (kh31 _ _ ?_)
            clear kh31
            refine f_block ?_
            refine f_loop (α := Nat) [1, 3, 5] (fun part => [(10, .int .i64 (part : Int))]) (fun part => [[(bp, blk (nats p) 3)], [(b1, blk [.int .i64 (n : Int), .slice A l.length cap] 24)]]) (fun part => part ≤ nx) (fun part => nx - part) (0) ?_ ?_ ?_ ?_
            · exact (by repeat (first | exact trivial | refine ⟨rfl, ?_⟩))
            · repeat (first | exact Sub.nil | refine Sub.pick ?_ | refine Sub.castO rfl ?_ | refine Sub.skip ?_)
            · exact Nat.zero_le _
            · rintro part hpart
              refine f_seq fun K32 kh32 => ?_
              refine f_seq fun K33 kh33 => ?_
              refine f_region ?_
              refine f_stepP rfl rfl rfl (o_move rfl) ?_
              refine f_stepP rfl rfl rfl (o_move rfl) ?_
              refine f_stepP rfl rfl rfl (o_lss rfl rfl) ?_
              refine f_done ?_
              refine f_tn (kh33 _ _ ?_)
              clear kh33
              refine f_cond rfl (fun c82 => ?_) (fun c82 => ?_)
              · skip
                refine f_skip ?_
                refine f_tn (kh32 _ _ ?_)
                clear kh32
                refine f_seq fun K34 kh34 => ?_
                refine f_block ?_
                refine f_seq fun K35 kh35 => ?_
                refine f_region ?_
                refine f_stepP rfl rfl rfl (o_field fa24_0 rfl) ?_
                refine f_stepP rfl rfl rfl (o_load Try.isAgg3 rfl (rdA rfl)) ?_
                refine f_step rfl rfl rfl (o_make el41 rfl rfl n rfl (by omega) (by omega) ((List.replicate n false).map .bool) (bools_rep false n) fun b87 => ?_)
                refine f_stepP rfl rfl rfl (o_assign rfl) ?_
                refine f_done ?_
                refine f_tn (kh35 _ _ ?_)
                clear kh35
                refine f_seq fun K36 kh36 => ?_
                refine f_seq fun K37 kh37 => ?_
                refine f_region ?_
                refine f_stepP rfl rfl rfl (o_move rfl) ?_
                refine f_stepP rfl rfl rfl (o_len sl29 rfl) ?_
                refine f_stepP rfl rfl rfl (o_move rfl) ?_
                refine f_done ?_
                refine f_tn (kh37 _ _ ?_)
                clear kh37
                refine f_block ?_
                refine f_loop (α := Nat × List Bool) [1, 3, 5, 10, 11, 88, 89] (fun ⟨j, kp⟩ => [(90, .int .i64 (j : Int))]) (fun ⟨j, kp⟩ => [[(b87, blk (kp.map .bool) 4)], [(bp, blk (nats p) 3)], [(b1, blk [.int .i64 (n : Int), .slice A l.length cap] 24)]]) (fun ⟨j, kp⟩ => j ≤ n ∧ kp.length = n ∧ ∀ i (h : i < kp.length) (h' : i < p.length), i < j → kp[i] = decide (p[i] = part)) (fun ⟨j, kp⟩ => n - j) (0, List.replicate n false) ?_ ?_ ?_ ?_
                · exact (by repeat (first | exact trivial | refine ⟨rfl, ?_⟩))
                · repeat (first | exact Sub.nil | refine Sub.pick ?_ | refine Sub.castO rfl ?_ | refine Sub.skip ?_)
                · exact ⟨by omega, by simp, fun i _ _ h => by omega⟩
                · rintro ⟨j, kp⟩ ⟨hjk, hkl, hkp⟩
                  refine f_seq fun K38 kh38 => ?_
                  refine f_region ?_
                  refine f_stepP rfl rfl rfl (o_lss rfl rfl) ?_
                  refine f_done ?_
                  refine f_tn (kh38 _ _ ?_)
                  clear kh38
                  refine f_seq fun K39 kh39 => ?_
                  refine f_cond rfl (fun c91 => ?_) (fun c91 => ?_)
                  · skip
                    refine f_skip ?_
                    refine f_tn (kh39 _ _ ?_)
                    clear kh39
                    refine f_seq fun K40 kh40 => ?_
                    refine f_block ?_
                    refine f_seq fun K41 kh41 => ?_
                    refine f_region ?_
                    refine f_stepP rfl rfl rfl (o_move rfl) ?_
                    have hjp : j < p.length := by omega
                    refine f_stepP rfl rfl rfl (o_idx sl29 rfl rfl (j) ⟨by omega, by omega, by first | omega | (simp; done) | (simp; omega)⟩) ?_
                    refine f_stepP rfl rfl rfl (o_load Try.isAgg3 rfl (rdA (nats_get hjp))) ?_
                    refine f_stepP rfl rfl rfl (o_assign rfl) ?_
                    refine f_stepP rfl rfl rfl (o_assign rfl) ?_
                    refine f_done ?_
                    refine f_tn (kh41 _ _ ?_)
                    clear kh41
                    refine f_region ?_
                    refine f_stepP rfl rfl rfl (o_move rfl) ?_
                    refine f_stepP rfl rfl rfl (o_move rfl) ?_
                    refine f_stepP rfl rfl rfl (o_move rfl) ?_
                    refine f_stepP rfl rfl rfl (o_move rfl) ?_
                    refine f_stepP rfl rfl rfl (o_eql rfl rfl) ?_
                    refine f_stepP rfl rfl rfl (o_idx sl41 rfl rfl (j) ⟨by omega, by omega, by first | omega | (simp; done) | (simp; omega)⟩) ?_
                    refine f_step0 rfl rfl (o_store Try.sizeOf4 rfl rfl rfl rfl (by rw [List.length_map]; omega) ((kp.set j (decide ((p[j] : Int) = (part : Int)))).map .bool) (bools_set _ _ _) ?_)
                    refine f_done ?_
                    refine f_bn ?_
                    refine f_tn (kh40 _ _ ?_)
                    clear kh40
                    refine f_region ?_
                    refine f_stepP rfl rfl rfl (o_add rfl rfl _ (wrap_i64 (by omega))) ?_
                    refine f_stepP rfl rfl rfl (o_move rfl) ?_
                    refine f_done ?_
                    refine f_tn (f_again (j + 1, kp.set j (decide ((p[j] : Int) = (part : Int)))) (by first | omega | (dsimp only; omega) | (simp; omega)) ⟨by omega, by simp [hkl], fun i h h' hi => by rw [List.getElem_set]; split <;> first | (rename_i e; subst e; exact decide_eq_decide.2 Int.ofNat_inj) | exact hkp i (by simpa using h) h' (by omega)⟩ ?_ ?_ ?_)
                    · exact (by repeat (first | exact trivial | refine ⟨rfl, ?_⟩))
                    · exact (by repeat (first | exact trivial | refine ⟨rfl, ?_⟩))
                    · repeat (first | exact Sub.nil | refine Sub.pick ?_ | refine Sub.castO rfl ?_ | refine Sub.skip ?_)
                  · skip
                    refine f_exit ?_
                    refine f_te ?_
                    clear kh39
                    refine f_te ?_
                    refine f_be ?_
                    refine f_tn (kh36 _ _ ?_)
                    clear kh36
                    refine f_seq fun K42 kh42 => ?_
                    have hol : (ofPart p part).length = n := by rw [ofPart_len]; exact hpl
                    obtain rfl : kp = ofPart p part := List.ext_getElem (by omega) fun i h1 h2 => by rw [hkp i h1 (by omega) (by omega)]; simp [ofPart]
                    refine f_region ?_
                    refine f_stepP rfl rfl rfl (o_loadA (vs := [_, _]) Try.isAgg24 Try.sizeOf24 rfl rfl ⟨(rdA rfl), (rdA rfl), trivial⟩) ?_
                    refine f_stepP rfl rfl rfl (o_move rfl) ?_
                    refine f_step rfl rfl rfl (o_call Try.call17 rfl (fun w_ hp_ => (by have h := Induced_spec (n : Int) A l cap (some ⟨b87, 0, none⟩) (ofPart p part) n w_ (hr.up0 hp_) (roOwn (b := b87) hp_ (cs := (ofPart p part).map .bool) (fun j v hj => hj)) hl hN hok; rw [hol] at h; exact h)) ?_)
                    rintro v105 m105 hI
                    unfold InducedΦ at hI
                    rw [if_neg (by omega), if_neg (by omega), if_neg (ofPart_ne (by rw [hpl]; omega))] at hI
                    obtain ⟨sa, sv, sl, ma, mv, ml, rfl, rfl, hoa, hov, hosl⟩ := hI
                    obtain ⟨Aa, capa, rfl, hca⟩ := hoa.val
                    have hvl := verts_le (ofPart p part)
                    have hsl := sub_len (ofPart p part) l
                    dsimp only [List.cons_append, List.nil_append]
                    refine f_stepP rfl rfl rfl (o_move rfl) ?_
                    refine f_stepP rfl rfl rfl (o_extract rfl rfl) ?_
                    refine f_stepP rfl rfl rfl (o_extract rfl rfl) ?_
                    refine f_stepP rfl rfl rfl (o_extract rfl rfl) ?_
                    refine f_stepP rfl rfl rfl (o_extract rfl rfl) ?_
                    refine f_step rfl rfl rfl (o_alloc Try.zeroValue24 rfl fun b14 => ?_)
                    refine f_step0 rfl rfl (o_storeA Try.sizeOf24 rfl rfl rfl rfl (by first | exact Nat.le_of_ble_eq_true rfl | (simp; done) | (simp; omega)) _ rfl ?_)
                    refine f_stepP rfl rfl rfl (o_assign rfl) ?_
                    refine f_stepP rfl rfl rfl (o_assign rfl) ?_
                    refine f_stepP rfl rfl rfl (o_assign rfl) ?_
                    refine f_done ?_
                    refine f_tn (kh42 _ _ ?_)
                    clear kh42
                    refine f_seq fun K43 kh43 => ?_
                    refine f_region ?_
                    refine f_stepP rfl rfl rfl (o_loadA (vs := [_, _]) Try.isAgg24 Try.sizeOf24 rfl rfl ⟨(rdA rfl), (rdA rfl), trivial⟩) ?_
                    refine f_step rfl rfl rfl (o_call Try.call14 rfl (fun w_ hp_ => Parts_spec (verts (ofPart p part)).length Aa (subArcs (ofPart p part) l) capa w_ (seen_ro (hoa.seen hp_)) (by omega) ⟨by omega, by omega⟩ (sub_ok (by omega) hok)) ?_)
                    rintro v112 m112 hQ
                    rw [if_pos (by rw [sub_good (by omega) hlen (ofPart_ne (by rw [hpl]; omega))])] at hQ
                    obtain ⟨q, bq, rfl, rfl, hq⟩ := hQ
                    rw [Int.toNat_natCast] at hq ⊢
                    have hql := hq.len
                    have hone := part_one hgood hp hq
                    dsimp only [List.cons_append, List.nil_append]
                    refine f_stepP rfl rfl rfl (o_move rfl) ?_
                    refine f_stepP rfl rfl rfl (o_extract rfl rfl) ?_
                    refine f_stepP rfl rfl rfl (o_extract rfl rfl) ?_
                    refine f_stepP rfl rfl rfl (o_assign rfl) ?_
                    refine f_stepP rfl rfl rfl (o_assign rfl) ?_
                    refine f_done ?_
                    refine f_tn (kh43 _ _ ?_)
                    clear kh43
                    refine f_seq fun K44 kh44 => ?_
                    refine f_seq fun K45 kh45 => ?_
                    refine f_region ?_
                    refine f_stepP rfl rfl rfl (o_move rfl) ?_
                    refine f_stepP rfl rfl rfl (o_neq rfl rfl) ?_
                    refine f_stepP rfl rfl rfl (o_move rfl) ?_
                    refine f_falseL 117 rfl (by simp) ?_
                    refine f_stepPY rfl rfl rfl rfl rfl (o_move rfl) ?_
                    refine f_stepPY rfl rfl rfl rfl rfl (o_neq rfl rfl) ?_
                    refine f_stepP rfl rfl rfl (o_pickF rfl rfl) ?_
                    refine f_done ?_
                    refine f_tn (kh45 _ _ ?_)
                    clear kh45
                    refine f_condN rfl (by simp) ?_
                    refine f_skip ?_
                    refine f_tn (kh44 _ _ ?_)
                    clear kh44
                    refine f_seq fun K46 kh46 => ?_
                    refine f_region ?_
                    refine f_stepP rfl rfl rfl (o_move rfl) ?_
                    refine f_stepP rfl rfl rfl (o_len sl29 rfl) ?_
                    refine f_stepP rfl rfl rfl (o_move rfl) ?_
                    refine f_done ?_
                    refine f_tn (kh46 _ _ ?_)
                    clear kh46
                    refine f_block ?_
                    refine f_loop (α := Nat) [1, 3, 5, 10, 121, 122] (fun i => [(123, .int .i64 (i : Int))]) (fun i => [[(bq, blk (nats q) 3)], [(bp, blk (nats p) 3)], [(b1, blk [.int .i64 (n : Int), .slice A l.length cap] 24)]]) (fun i => i ≤ q.length) (fun i => q.length - i) (0) ?_ ?_ ?_ ?_
                    · exact (by repeat (first | exact trivial | refine ⟨rfl, ?_⟩))
                    · repeat (first | exact Sub.nil | refine Sub.pick ?_ | refine Sub.castO rfl ?_ | refine Sub.skip ?_)
                    · exact Nat.zero_le _
                    · rintro i hi
                      refine f_seq fun K47 kh47 => ?_
                      refine f_region ?_
                      refine f_stepP rfl rfl rfl (o_lss rfl rfl) ?_
                      refine f_done ?_
                      refine f_tn (kh47 _ _ ?_)
                      clear kh47
                      refine f_seq fun K48 kh48 => ?_
                      refine f_cond rfl (fun c124 => ?_) (fun c124 => ?_)
                      · skip
                        refine f_skip ?_
                        refine f_tn (kh48 _ _ ?_)
                        clear kh48
                        refine f_seq fun K49 kh49 => ?_
                        refine f_block ?_
                        refine f_seq fun K50 kh50 => ?_
                        refine f_region ?_
                        have hiq : i < q.length := by omega
                        refine f_stepP rfl rfl rfl (o_idx sl29 rfl rfl (i) ⟨by omega, by omega, by first | omega | (simp; done) | (simp; omega)⟩) ?_
                        refine f_stepP rfl rfl rfl (o_load Try.isAgg3 rfl (rdA (nats_get hiq))) ?_
                        refine f_stepP rfl rfl rfl (o_assign rfl) ?_
                        refine f_done ?_
                        refine f_tn (kh50 _ _ ?_)
                        clear kh50
                        refine f_seq fun K51 kh51 => ?_
                        refine f_region ?_
                        refine f_stepP rfl rfl rfl (o_move rfl) ?_
                        refine f_stepP rfl rfl rfl (o_neq rfl rfl) ?_
                        refine f_done ?_
                        refine f_tn (kh51 _ _ ?_)
                        clear kh51
                        refine f_condN rfl (by have := hone i hiq; omega) ?_
                        refine f_skip ?_
                        refine f_bn ?_
                        refine f_tn (kh49 _ _ ?_)
                        clear kh49
                        refine f_region ?_
                        refine f_stepP rfl rfl rfl (o_add rfl rfl _ (wrap_i64 (by omega))) ?_
                        refine f_stepP rfl rfl rfl (o_move rfl) ?_
                        refine f_done ?_
                        refine f_tn (f_again (i + 1) (by first | omega | (dsimp only; omega) | (simp; omega)) (by omega) ?_ ?_ ?_)
                        · exact (by repeat (first | exact trivial | refine ⟨rfl, ?_⟩))
                        · exact (by repeat (first | exact trivial | refine ⟨rfl, ?_⟩))
                        · repeat (first | exact Sub.nil | refine Sub.pick ?_ | refine Sub.castO rfl ?_ | refine Sub.skip ?_)
                      · skip
                        refine f_exit ?_
                        refine f_te ?_
                        clear kh48
                        refine f_te ?_
                        refine f_be ?_
                        refine f_bn ?_
                        refine f_tn (kh34 _ _ ?_)
                        clear kh34
                        refine f_region ?_
                        refine f_stepP rfl rfl rfl (o_move rfl) ?_
                        refine f_stepP rfl rfl rfl (o_add rfl rfl _ (wrap_i64 (by omega))) ?_
                        refine f_stepP rfl rfl rfl (o_assign rfl) ?_
                        refine f_done ?_
                        refine f_tn (f_again (part + 1) (by first | omega | (dsimp only; omega) | (simp; omega)) (by omega) ?_ ?_ ?_)
                        · exact (by repeat (first | exact trivial | refine ⟨rfl, ?_⟩))
                        · exact (by repeat (first | exact trivial | refine ⟨rfl, ?_⟩))
                        · repeat (first | exact Sub.nil | refine Sub.pick ?_ | refine Sub.castO rfl ?_ | refine Sub.skip ?_)
              · skip
                refine f_exit ?_
                refine f_te ?_
                clear kh32
                refine f_te ?_
                refine f_be ?_
                refine f_tn (kh30 _ _ ?_)
                clear kh30
                refine f_seq fun K52 kh52 => ?_
                refine f_region ?_
                refine f_stepP rfl rfl rfl (o_move rfl) ?_
                refine f_stepP rfl rfl rfl (o_len sl29 rfl) ?_
                refine f_stepP rfl rfl rfl (o_field fa24_0 rfl) ?_
                refine f_stepP rfl rfl rfl (o_load Try.isAgg3 rfl (rdA rfl)) ?_
                refine f_stepP rfl rfl rfl (o_eql rfl rfl) ?_
                refine f_stepP rfl rfl rfl (o_assign rfl) ?_
                refine f_done ?_
                refine f_tn (kh52 _ _ ?_)
                clear kh52
                refine f_ret ?_
                exact f_fin1 [] Try.results5 rfl Sub.nil ⟨by simp, rfl⟩

end Go.Proofs.Ythbkeoejbendnaa
