/- flyoverlaw03.GraphWhole answers true. -/
import Derived.Test.YthbkeoejbendnaaFPart3
namespace Go.Proofs.Ythbkeoejbendnaa
open Go Go.RowKit Fly
set_option linter.unusedVariables false
set_option linter.unusedSimpArgs false



set_option maxRecDepth 100000 in
set_option maxHeartbeats 4000000 in
theorem GraphWhole_spec (N : Int) (A : Option Addr) (l : List Arc) (cap : Nat) (B : Option Addr) (keep : List Bool) (cb : Nat) (w : World) (hr : Ro (Fr w []) w A (l.flatMap arcCs)) (hk : Ro (Fr w []) w B (keep.map .bool)) (hl : l.length ≤ 9223372036854775807) (hN : I64 N) (hok : ∀ x ∈ l, ArcOk x) :
    Meets Try.prog 6 [.agg #[.int .i64 N, .slice A l.length cap], .slice B keep.length cb] w [] (fun u m => u = .bool true ∧ m = []) := by
  refine f_enter Try.func6 rfl Try.ntmps6 rfl Owns.nil ?_
  refine f_seq fun K1 kh1 => ?_
  refine f_region ?_
  refine f_step rfl rfl rfl (o_box rfl rfl fun b2 => ?_)
  refine f_stepP rfl rfl rfl (o_assign rfl) ?_
  refine f_done ?_
  refine f_tn (kh1 _ _ ?_)
  clear kh1
  refine f_seq fun K2 kh2 => ?_
  refine f_seq fun K3 kh3 => ?_
  refine f_region ?_
  refine f_step rfl rfl rfl (o_call Try.call9 rfl (fun w_ hp_ => works_spec w_) ?_)
  rintro _ _ ⟨rfl, rfl⟩
  dsimp only [List.cons_append, List.nil_append]
  refine f_stepP rfl rfl rfl (o_not rfl) ?_
  refine f_done ?_
  refine f_tn (kh3 _ _ ?_)
  clear kh3
  refine f_condF rfl ?_
  refine f_skip ?_
  refine f_tn (kh2 _ _ ?_)
  clear kh2
  refine f_seq fun K4 kh4 => ?_
  refine f_seq fun K5 kh5 => ?_
  refine f_region ?_
  refine f_stepP rfl rfl rfl (o_loadA (vs := [_, _]) Try.isAgg24 Try.sizeOf24 rfl rfl ⟨(rdA rfl), (rdA rfl), trivial⟩) ?_
  refine f_step rfl rfl rfl (o_call Try.call10 rfl (fun w_ hp_ => Check_spec N A l cap w_ (hr.up0 hp_) hl hN hok) ?_)
  rintro _ _ ⟨rfl, rfl⟩
  dsimp only [List.cons_append, List.nil_append]
  refine f_stepP rfl rfl rfl (o_move rfl) ?_
  refine f_stepP rfl rfl rfl (o_extract rfl rfl) ?_
  refine f_stepP rfl rfl rfl (o_extract rfl rfl) ?_
  refine f_stepP rfl rfl rfl (o_assign rfl) ?_
  refine f_stepP rfl rfl rfl (o_assign rfl) ?_
  refine f_done ?_
  refine f_tn (kh5 _ _ ?_)
  clear kh5
  refine f_seq fun K6 kh6 => ?_
  refine f_region ?_
  refine f_stepP rfl rfl rfl (o_move rfl) ?_
  refine f_stepP rfl rfl rfl (o_neq rfl rfl) ?_
  refine f_stepP rfl rfl rfl (o_move rfl) ?_
  refine f_splitL 37 rfl (fun g37 => ?_) (fun g37 => ?_)
  · skip
    refine f_stepN rfl rfl rfl rfl rfl rfl ?_
    refine f_stepN rfl rfl rfl rfl rfl rfl ?_
    refine f_stepN rfl rfl rfl rfl rfl rfl ?_
    refine f_stepN rfl rfl rfl rfl rfl rfl ?_
    refine f_stepN rfl rfl rfl rfl rfl rfl ?_
    refine f_stepP rfl rfl rfl (o_pickT rfl rfl) ?_
    refine f_done ?_
    refine f_tn (kh6 _ _ ?_)
    clear kh6
    refine f_condT rfl ?_
    refine f_seq fun K7 kh7 => ?_
    refine f_region ?_
    refine f_stepP rfl rfl rfl (o_assign rfl) ?_
    refine f_done ?_
    refine f_tn (kh7 _ _ ?_)
    clear kh7
    refine f_ret ?_
    refine f_tr ?_
    exact f_fin1 [] Try.results6 rfl Sub.nil ⟨rfl, rfl⟩
  · skip
    have hc0 : (gcheck N l).2 = 0 := by simpa using g37
    obtain ⟨hN1, hN2, hlen, hgood⟩ := gcheck_zero hc0
    obtain ⟨n, rfl⟩ : ∃ n : Nat, N = n := ⟨N.toNat, by omega⟩
    refine f_stepPY rfl rfl rfl rfl rfl (o_move rfl) ?_
    refine f_stepPY rfl rfl rfl rfl rfl (o_len sl41 rfl) ?_
    refine f_stepPY rfl rfl rfl rfl rfl (o_field fa24_0 rfl) ?_
    refine f_stepPY rfl rfl rfl rfl rfl (o_load Try.isAgg3 rfl (rdA rfl)) ?_
    refine f_stepPY rfl rfl rfl rfl rfl (o_neq rfl rfl) ?_
    refine f_stepP rfl rfl rfl (o_pickF rfl rfl) ?_
    refine f_done ?_
    refine f_tn (kh6 _ _ ?_)
    clear kh6
    refine f_cond rfl (fun c43 => ?_) (fun c43 => ?_)
    · skip
      refine f_seq fun K8 kh8 => ?_
      refine f_region ?_
      refine f_stepP rfl rfl rfl (o_assign rfl) ?_
      refine f_done ?_
      refine f_tn (kh8 _ _ ?_)
      clear kh8
      refine f_ret ?_
      refine f_tr ?_
      exact f_fin1 [] Try.results6 rfl Sub.nil ⟨rfl, rfl⟩
    · skip
      have hkn : keep.length = n := by omega
      refine f_skip ?_
      refine f_tn (kh4 _ _ ?_)
      clear kh4
      refine f_seq fun K9 kh9 => ?_
      refine f_region ?_
      refine f_stepP rfl rfl rfl (o_field fa24_0 rfl) ?_
      refine f_stepP rfl rfl rfl (o_load Try.isAgg3 rfl (rdA rfl)) ?_
      refine f_step rfl rfl rfl (o_make el41 rfl rfl n rfl (by omega) (by omega) ((List.replicate n false).map .bool) (bools_rep false n) fun b46 => ?_)
      refine f_stepP rfl rfl rfl (o_assign rfl) ?_
      refine f_done ?_
      refine f_tn (kh9 _ _ ?_)
      clear kh9
      refine f_seq fun K10 kh10 => ?_
      refine f_seq fun K11 kh11 => ?_
      refine f_region ?_
      refine f_stepP rfl rfl rfl (o_move rfl) ?_
      refine f_stepP rfl rfl rfl (o_len sl41 rfl) ?_
      refine f_stepP rfl rfl rfl (o_move rfl) ?_
      refine f_done ?_
      refine f_tn (kh11 _ _ ?_)
      clear kh11
      refine f_block ?_
      refine f_loop (α := Nat × List Bool) [1, 2, 7, 48] (fun ⟨k, al⟩ => [(49, .int .i64 (k : Int))]) (fun ⟨k, al⟩ => [[(b46, blk (al.map .bool) 4)], [(b2, blk [.int .i64 (n : Int), .slice A l.length cap] 24)]]) (fun ⟨k, al⟩ => k ≤ n ∧ al.length = n ∧ ∀ i (h : i < al.length), i < k → al[i] = true) (fun ⟨k, al⟩ => n - k) (0, List.replicate n false) ?_ ?_ ?_ ?_
      · exact (by repeat (first | exact trivial | refine ⟨rfl, ?_⟩))
      · repeat (first | exact Sub.nil | refine Sub.pick ?_ | refine Sub.castO rfl ?_ | refine Sub.skip ?_)
      · exact ⟨by omega, by simp, fun i _ h => by omega⟩
      · rintro ⟨k, al⟩ ⟨hkl, hal, hat⟩
        refine f_seq fun K12 kh12 => ?_
        refine f_region ?_
        refine f_stepP rfl rfl rfl (o_lss rfl rfl) ?_
        refine f_done ?_
        refine f_tn (kh12 _ _ ?_)
        clear kh12
        refine f_seq fun K13 kh13 => ?_
        refine f_cond rfl (fun c50 => ?_) (fun c50 => ?_)
        · skip
          refine f_skip ?_
          refine f_tn (kh13 _ _ ?_)
          clear kh13
          refine f_seq fun K14 kh14 => ?_
          refine f_block ?_
          refine f_seq fun K15 kh15 => ?_
          refine f_region ?_
          refine f_stepP rfl rfl rfl (o_move rfl) ?_
          refine f_stepP rfl rfl rfl (o_assign rfl) ?_
          refine f_done ?_
          refine f_tn (kh15 _ _ ?_)
          clear kh15
          refine f_region ?_
          refine f_stepP rfl rfl rfl (o_move rfl) ?_
          refine f_stepP rfl rfl rfl (o_move rfl) ?_
          have hk' : k < n := by omega
          refine f_stepP rfl rfl rfl (o_idx sl41 rfl rfl (k) ⟨by omega, by omega, by first | omega | (simp; done) | (simp; omega)⟩) ?_
          refine f_step0 rfl rfl (o_store Try.sizeOf4 rfl rfl rfl rfl (by rw [List.length_map]; omega) ((al.set k true).map .bool) (bools_set _ _ _) ?_)
          refine f_done ?_
          refine f_bn ?_
          refine f_tn (kh14 _ _ ?_)
          clear kh14
          refine f_region ?_
          refine f_stepP rfl rfl rfl (o_add rfl rfl _ (wrap_i64 (by omega))) ?_
          refine f_stepP rfl rfl rfl (o_move rfl) ?_
          refine f_done ?_
          refine f_tn (f_again (k + 1, al.set k true) (by first | omega | (dsimp only; omega) | (simp; omega)) ⟨by omega, by simp [hal], fun i h hi => by rw [List.getElem_set]; split <;> first | rfl | exact hat i (by simpa using h) (by omega)⟩ ?_ ?_ ?_)
          · exact (by repeat (first | exact trivial | refine ⟨rfl, ?_⟩))
          · exact (by repeat (first | exact trivial | refine ⟨rfl, ?_⟩))
          · repeat (first | exact Sub.nil | refine Sub.pick ?_ | refine Sub.castO rfl ?_ | refine Sub.skip ?_)
        · skip
          refine f_exit ?_
          refine f_te ?_
          clear kh13
          refine f_te ?_
          refine f_be ?_
          refine f_tn (kh10 _ _ ?_)
          clear kh10
          refine f_seq fun K16 kh16 => ?_
          obtain rfl : al = List.replicate n true := List.ext_getElem (by simp [hal]) fun i h1 h2 => by rw [hat i h1 (by omega)]; simp
          refine f_region ?_
          refine f_stepP rfl rfl rfl (o_loadA (vs := [_, _]) Try.isAgg24 Try.sizeOf24 rfl rfl ⟨(rdA rfl), (rdA rfl), trivial⟩) ?_
          refine f_stepP rfl rfl rfl (o_move rfl) ?_
          refine f_step rfl rfl rfl (o_call Try.call17 rfl (fun w_ hp_ => (by have h := Induced_spec (n : Int) A l cap (some ⟨b46, 0, none⟩) (List.replicate n true) n w_ (hr.up0 hp_) (roOwn (b := b46) hp_ (cs := (List.replicate n true).map .bool) (fun j v hj => hj)) hl hN hok; rw [List.length_replicate] at h; exact h)) ?_)
          rintro v59 m59 hI
          unfold InducedΦ at hI
          rw [if_neg (by omega), if_neg (by rw [List.length_replicate]; omega), if_neg (by rw [verts_true]; omega)] at hI
          obtain ⟨s1, s2, s3, m1, m2, m3, rfl, rfl, o1, o2, o3⟩ := hI
          rw [verts_true] at o2 ⊢
          rw [sub_true hgood] at o1
          rw [idxs_all hgood] at o3
          obtain ⟨A1, cap1, rfl, hc1⟩ := o1.val
          obtain ⟨A2, cap2, rfl, hc2⟩ := o2.val
          obtain ⟨A3, cap3, rfl, hc3⟩ := o3.val
          dsimp only [List.cons_append, List.nil_append]
          refine f_stepP rfl rfl rfl (o_move rfl) ?_
          refine f_stepP rfl rfl rfl (o_extract rfl rfl) ?_
          refine f_stepP rfl rfl rfl (o_extract rfl rfl) ?_
          refine f_stepP rfl rfl rfl (o_extract rfl rfl) ?_
          refine f_stepP rfl rfl rfl (o_extract rfl rfl) ?_
          refine f_step rfl rfl rfl (o_alloc Try.zeroValue24 rfl fun b9 => ?_)
          refine f_step0 rfl rfl (o_storeA Try.sizeOf24 rfl rfl rfl rfl (by first | exact Nat.le_of_ble_eq_true rfl | (simp; done) | (simp; omega)) _ rfl ?_)
          refine f_stepP rfl rfl rfl (o_assign rfl) ?_
          refine f_stepP rfl rfl rfl (o_assign rfl) ?_
          refine f_stepP rfl rfl rfl (o_assign rfl) ?_
          refine f_done ?_
          refine f_tn (kh16 _ _ ?_)
          clear kh16
          refine f_seq fun K17 kh17 => ?_
          refine f_seq fun K18 kh18 => ?_
          refine f_region ?_
          refine f_stepP rfl rfl rfl (o_move rfl) ?_
          refine f_stepP rfl rfl rfl (o_neq rfl rfl) ?_
          refine f_stepP rfl rfl rfl (o_move rfl) ?_
          refine f_falseL 66 rfl (by simp) ?_
          refine f_stepPY rfl rfl rfl rfl rfl (o_loadA (vs := [_, _]) Try.isAgg24 Try.sizeOf24 rfl rfl ⟨(rdA rfl), (rdA rfl), trivial⟩) ?_
          refine f_stepPY rfl rfl rfl rfl rfl (o_loadA (vs := [_, _]) Try.isAgg24 Try.sizeOf24 rfl rfl ⟨(rdA rfl), (rdA rfl), trivial⟩) ?_
          refine f_stepY rfl rfl rfl rfl rfl (o_call Try.call15 rfl (fun w_ hp_ => SameGraph_spec n n A1 A l l cap1 cap w_ (seen_ro (o1.seen hp_)) (hr.up0 hp_) hl) ?_)
          rintro _ _ ⟨rfl, rfl⟩
          rw [decide_eq_true (show (n : Int) = n ∧ l = l from ⟨rfl, rfl⟩)]
          dsimp only [List.cons_append, List.nil_append]
          refine f_stepPY rfl rfl rfl rfl rfl (o_not rfl) ?_
          refine f_stepP rfl rfl rfl (o_pickF rfl rfl) ?_
          refine f_stepP rfl rfl rfl (o_move rfl) ?_
          refine f_stepPY rfl rfl rfl rfl rfl (o_move rfl) ?_
          refine f_stepPY rfl rfl rfl rfl rfl (o_len sl29 rfl) ?_
          refine f_stepPY rfl rfl rfl rfl rfl (o_field fa24_0 rfl) ?_
          refine f_stepPY rfl rfl rfl rfl rfl (o_load Try.isAgg3 rfl (rdA rfl)) ?_
          refine f_stepPY rfl rfl rfl rfl rfl (o_neq rfl rfl) ?_
          refine f_stepP rfl rfl rfl (o_pickF rfl rfl) ?_
          refine f_stepP rfl rfl rfl (o_move rfl) ?_
          refine f_falseL 79 rfl (by simp) ?_
          refine f_stepPY rfl rfl rfl rfl rfl (o_move rfl) ?_
          refine f_stepPY rfl rfl rfl rfl rfl (o_len sl29 rfl) ?_
          refine f_stepPY rfl rfl rfl rfl rfl (o_field fa24_1 rfl) ?_
          refine f_stepPY rfl rfl rfl rfl rfl (o_load Try.isAgg22 rfl (rdA rfl)) ?_
          refine f_stepPY rfl rfl rfl rfl rfl (o_len sl22 rfl) ?_
          refine f_stepPY rfl rfl rfl rfl rfl (o_neq rfl rfl) ?_
          refine f_stepP rfl rfl rfl (o_pickF rfl rfl) ?_
          refine f_done ?_
          refine f_tn (kh18 _ _ ?_)
          clear kh18
          refine f_condN rfl (by simp) ?_
          refine f_skip ?_
          refine f_tn (kh17 _ _ ?_)
          clear kh17
          refine f_seq fun K19 kh19 => ?_
          refine f_region ?_
          refine f_stepP rfl rfl rfl (o_loadA (vs := [_, _]) Try.isAgg24 Try.sizeOf24 rfl rfl ⟨(rdA rfl), (rdA rfl), trivial⟩) ?_
          refine f_stepP rfl rfl rfl (o_move rfl) ?_
          refine f_step rfl rfl rfl (o_call Try.call17 rfl (fun w_ hp_ => Induced_spec n A l cap B keep cb w_ (hr.up0 hp_) (hk.up0 hp_) hl hN hok) ?_)
          rintro v90 m90 hI
          unfold InducedΦ at hI
          rw [if_neg (by omega), if_neg (by omega)] at hI
          by_cases hv0 : (verts keep).length = 0
          · rw [if_pos hv0] at hI
            obtain ⟨rfl, rfl⟩ := hI
            dsimp only [List.cons_append, List.nil_append]
            refine f_stepP rfl rfl rfl (o_move rfl) ?_
            refine f_stepP rfl rfl rfl (o_extract rfl rfl) ?_
            refine f_stepP rfl rfl rfl (o_extract rfl rfl) ?_
            refine f_stepP rfl rfl rfl (o_extract rfl rfl) ?_
            refine f_stepP rfl rfl rfl (o_extract rfl rfl) ?_
            refine f_step rfl rfl rfl (o_alloc Try.zeroValue24 rfl fun b13 => ?_)
            refine f_step0 rfl rfl (o_storeA Try.sizeOf24 rfl rfl rfl rfl (by first | exact Nat.le_of_ble_eq_true rfl | (simp; done) | (simp; omega)) _ rfl ?_)
            refine f_stepP rfl rfl rfl (o_assign rfl) ?_
            refine f_stepP rfl rfl rfl (o_assign rfl) ?_
            refine f_stepP rfl rfl rfl (o_assign rfl) ?_
            refine f_done ?_
            refine f_tn (kh19 _ _ ?_)
            clear kh19
            refine f_seq fun K20 kh20 => ?_
            refine f_seq fun K21 kh21 => ?_
            refine f_region ?_
            refine f_stepP rfl rfl rfl (o_move rfl) ?_
            refine f_stepP rfl rfl rfl (o_neq rfl rfl) ?_
            refine f_done ?_
            refine f_tn (kh21 _ _ ?_)
            clear kh21
            refine f_condY rfl (by simp) ?_
            refine f_seq fun K22 kh22 => ?_
            refine f_region ?_
            refine f_stepP rfl rfl rfl (o_move rfl) ?_
            refine f_stepP rfl rfl rfl (o_eql rfl rfl) ?_
            refine f_stepP rfl rfl rfl (o_assign rfl) ?_
            refine f_done ?_
            refine f_tn (kh22 _ _ ?_)
            clear kh22
            refine f_ret ?_
            refine f_tr ?_
            exact f_fin1 [] Try.results6 rfl Sub.nil ⟨rfl, rfl⟩
          rw [if_neg hv0] at hI
          obtain ⟨s4, s5, s6, m4, m5, m6, rfl, rfl, o4, o5, o6⟩ := hI
          have hvl := verts_le keep
          have hsl := sub_len keep l
          obtain ⟨nv, hnv⟩ : ∃ nv, nv = (verts keep).length := ⟨_, rfl⟩
          rw [← hnv] at o5 hv0 hvl ⊢
          obtain ⟨A4, cap4, rfl, hc4⟩ := o4.val
          obtain ⟨A5, cap5, rfl, hc5⟩ := o5.val
          obtain ⟨b5, sp5, rfl, rfl⟩ := o5.at_ (by omega)
          have hgs : gcheck (nv : Int) (subArcs keep l) = (0, 0) := by rw [hnv]; exact sub_good (by omega) hlen (by omega)
          dsimp only [List.cons_append, List.nil_append]
          refine f_stepP rfl rfl rfl (o_move rfl) ?_
          refine f_stepP rfl rfl rfl (o_extract rfl rfl) ?_
          refine f_stepP rfl rfl rfl (o_extract rfl rfl) ?_
          refine f_stepP rfl rfl rfl (o_extract rfl rfl) ?_
          refine f_stepP rfl rfl rfl (o_extract rfl rfl) ?_
          refine f_step rfl rfl rfl (o_alloc Try.zeroValue24 rfl fun b13 => ?_)
          refine f_step0 rfl rfl (o_storeA Try.sizeOf24 rfl rfl rfl rfl (by first | exact Nat.le_of_ble_eq_true rfl | (simp; done) | (simp; omega)) _ rfl ?_)
          refine f_stepP rfl rfl rfl (o_assign rfl) ?_
          refine f_stepP rfl rfl rfl (o_assign rfl) ?_
          refine f_stepP rfl rfl rfl (o_assign rfl) ?_
          refine f_done ?_
          refine f_tn (kh19 _ _ ?_)
          clear kh19
          refine f_seq fun K23 kh23 => ?_
          refine f_seq fun K24 kh24 => ?_
          refine f_region ?_
          refine f_stepP rfl rfl rfl (o_move rfl) ?_
          refine f_stepP rfl rfl rfl (o_neq rfl rfl) ?_
          refine f_done ?_
          refine f_tn (kh24 _ _ ?_)
          clear kh24
          refine f_condN rfl (by simp) ?_
          refine f_skip ?_
          refine f_tn (kh23 _ _ ?_)
          clear kh23
          refine f_seq fun K25 kh25 => ?_
          refine f_region ?_
          refine f_stepP rfl rfl rfl (o_field fa24_0 rfl) ?_
          refine f_stepP rfl rfl rfl (o_load Try.isAgg3 rfl (rdA rfl)) ?_
          refine f_step rfl rfl rfl (o_make el41 rfl rfl nv rfl (by omega) (by omega) ((halfTo nv 0).map .bool) (by rw [halfTo_zero]; exact bools_rep false nv) fun b101 => ?_)
          refine f_stepP rfl rfl rfl (o_assign rfl) ?_
          refine f_done ?_
          refine f_tn (kh25 _ _ ?_)
          clear kh25
          refine f_seq fun K26 kh26 => ?_
          refine f_region ?_
          refine f_stepP rfl rfl rfl (o_field fa24_0 rfl) ?_
          refine f_stepP rfl rfl rfl (o_load Try.isAgg3 rfl (rdA rfl)) ?_
          refine f_step rfl rfl rfl (o_make el41 rfl rfl n rfl (by omega) (by omega) ((bothTo keep 0).map .bool) (by rw [bothTo_zero, hkn]; exact bools_rep false n) fun b104 => ?_)
          refine f_stepP rfl rfl rfl (o_assign rfl) ?_
          refine f_done ?_
          refine f_tn (kh26 _ _ ?_)
          clear kh26
          refine f_seq fun K27 kh27 => ?_
          refine f_seq fun K28 kh28 => ?_
          refine f_region ?_
          refine f_stepP rfl rfl rfl (o_move rfl) ?_
          refine f_stepP rfl rfl rfl (o_len sl41 rfl) ?_
          refine f_stepP rfl rfl rfl (o_move rfl) ?_
          refine f_done ?_
          refine f_tn (kh28 _ _ ?_)
          clear kh28
          refine f_block ?_
          refine f_loop (α := Nat) [2, 13, 14, 17, 18, 106] (fun i => [(107, .int .i64 (i : Int))]) (fun i => [[(b104, blk ((bothTo keep i).map .bool) 4)], [(b101, blk ((halfTo nv i).map .bool) 4)], [(b13, blk [.int .i64 (nv : Int), .slice A4 (subArcs keep l).length cap4] 24)], m4, [(b5, blk (ints (verts keep) ++ sp5) 3)], [(b2, blk [.int .i64 (n : Int), .slice A l.length cap] 24)]]) (fun i => i ≤ nv) (fun i => nv - i) (0) ?_ ?_ ?_ ?_
          · exact (by repeat (first | exact trivial | refine ⟨rfl, ?_⟩))
          · repeat (first | exact Sub.nil | refine Sub.pick ?_ | refine Sub.castO rfl ?_ | refine Sub.skip ?_)
          · exact Nat.zero_le _
          · rintro i hi
            refine f_seq fun K29 kh29 => ?_
            refine f_region ?_
            refine f_stepP rfl rfl rfl (o_lss rfl rfl) ?_
            refine f_done ?_
            refine f_tn (kh29 _ _ ?_)
            clear kh29
            refine f_seq fun K30 kh30 => ?_
            refine f_cond rfl (fun c108 => ?_) (fun c108 => ?_)
            · skip
              refine f_skip ?_
              refine f_tn (kh30 _ _ ?_)
              clear kh30
              refine f_seq fun K31 kh31 => ?_
              refine f_block ?_
              refine f_seq fun K32 kh32 => ?_
              refine f_region ?_
              refine f_stepP rfl rfl rfl (o_move rfl) ?_
              refine f_stepP rfl rfl rfl (o_assign rfl) ?_
              refine f_done ?_
              refine f_tn (kh32 _ _ ?_)
              clear kh32
              refine f_seq fun K33 kh33 => ?_
              refine f_region ?_
              refine f_stepP rfl rfl rfl (o_move rfl) ?_
              refine f_stepP rfl rfl rfl (o_move rfl) ?_
              refine f_stepP rfl rfl rfl (o_move rfl) ?_
              have hiv : i < nv := by omega
              obtain ⟨u, hu, eu, ku, ru⟩ := verts_get (keep := keep) (i := i) (by omega)
              refine f_stepP rfl rfl rfl (o_rem rfl rfl (by decide) ((i % 2 : Nat) : Int) rfl) ?_
              refine f_stepP rfl rfl rfl (o_eql rfl rfl) ?_
              refine f_stepP rfl rfl rfl (o_idx sl41 rfl rfl (i) ⟨by omega, by omega, by first | omega | (simp; done) | (simp; omega)⟩) ?_
              refine f_step0 rfl rfl (o_store Try.sizeOf4 rfl rfl rfl rfl (by rw [List.length_map, halfTo_len]; omega) ((halfTo nv (i + 1)).map .bool) (by rw [← halfTo_next hiv, ← bools_set]; congr 2; exact decide_eq_decide.2 (by omega)) ?_)
              refine f_done ?_
              refine f_tn (kh33 _ _ ?_)
              clear kh33
              refine f_regionT 10 rfl (by decide +kernel) ?_
              refine f_stillP rfl rfl rfl (o_move rfl) ?_
              refine f_stillP rfl rfl rfl (o_move rfl) ?_
              refine f_stillP rfl rfl rfl (o_move rfl) ?_
              refine f_stillP rfl rfl rfl (o_idx sl29 rfl rfl (i) ⟨by omega, by omega, by first | omega | (simp; done) | (simp; omega)⟩) ?_
              refine f_stillP rfl rfl rfl (o_load Try.isAgg3 rfl (rdA (v := .int .i64 (u : Int)) (app_get (by simp [ints, eu])))) ?_
              refine f_stillP rfl rfl rfl (o_move rfl) ?_
              refine f_stillP rfl rfl rfl (o_move rfl) ?_
              refine f_stillP rfl rfl rfl (o_idx sl41 rfl rfl (i) ⟨by omega, by omega, by first | omega | (simp; done) | (simp; omega)⟩) ?_
              refine f_stillP rfl rfl rfl (o_load Try.isAgg4 rfl (rdA (v := .bool (decide (i % 2 = 0))) (by simp [halfTo, hiv]))) ?_
              refine f_stillP rfl rfl rfl (o_idx sl41 rfl rfl (u) ⟨by omega, by omega, by first | omega | (simp; done) | (simp; omega)⟩) ?_
              refine f_stillD (f_tail ?_)
              refine f_step0 rfl rfl (o_store Try.sizeOf4 rfl rfl rfl rfl (by rw [List.length_map, bothTo_len]; omega) ((bothTo keep (i + 1)).map .bool) (by rw [← bothTo_next hu ku ru, ← bools_set]) ?_)
              refine f_done ?_
              refine f_bn ?_
              refine f_tn (kh31 _ _ ?_)
              clear kh31
              refine f_region ?_
              refine f_stepP rfl rfl rfl (o_add rfl rfl _ (wrap_i64 (by omega))) ?_
              refine f_stepP rfl rfl rfl (o_move rfl) ?_
              refine f_done ?_
              refine f_tn (f_again (i + 1) (by first | omega | (dsimp only; omega) | (simp; omega)) (by omega) ?_ ?_ ?_)
              · exact (by repeat (first | exact trivial | refine ⟨rfl, ?_⟩))
              · exact (by repeat (first | exact trivial | refine ⟨rfl, ?_⟩))
              · repeat (first | exact Sub.nil | refine Sub.pick ?_ | refine Sub.castO rfl ?_ | refine Sub.skip ?_)
            · skip
              refine f_exit ?_
              refine f_te ?_
              clear kh30
              refine f_te ?_
              refine f_be ?_
              refine f_tn (kh27 _ _ ?_)
              clear kh27
              refine f_seq fun K34 kh34 => ?_
              obtain rfl : nv = i := by omega
              refine f_region ?_
              refine f_stepP rfl rfl rfl (o_loadA (vs := [_, _]) Try.isAgg24 Try.sizeOf24 rfl rfl ⟨(rdA rfl), (rdA rfl), trivial⟩) ?_
              refine f_stepP rfl rfl rfl (o_move rfl) ?_
              refine f_step rfl rfl rfl (o_call Try.call17 rfl (fun w_ hp_ => (by have h := Induced_spec (nv : Int) A4 (subArcs keep l) cap4 (some ⟨b101, 0, none⟩) (halfTo nv nv) nv w_ (seen_ro (o4.seen hp_)) (roOwn (b := b101) hp_ (cs := (halfTo nv nv).map .bool) (fun j v hj => hj)) (by omega) ⟨by omega, by omega⟩ (sub_ok (by omega) hok); rw [halfTo_len] at h; exact h)) ?_)
              rintro v130 m130 hI
              unfold InducedΦ at hI
              rw [if_neg (by rw [hgs]; simp), if_neg (by rw [halfTo_len]; simp), if_neg (verts_half hv0)] at hI
              obtain ⟨s7, s8, s9, m7, m8, m9, rfl, rfl, o7, o8, o9⟩ := hI
              obtain ⟨A7, cap7, rfl, hc7⟩ := o7.val
              dsimp only [List.cons_append, List.nil_append]
              refine f_stepP rfl rfl rfl (o_move rfl) ?_
              refine f_stepP rfl rfl rfl (o_extract rfl rfl) ?_
              refine f_stepP rfl rfl rfl (o_extract rfl rfl) ?_
              refine f_stepP rfl rfl rfl (o_extract rfl rfl) ?_
              refine f_stepP rfl rfl rfl (o_extract rfl rfl) ?_
              refine f_step rfl rfl rfl (o_alloc Try.zeroValue24 rfl fun b20 => ?_)
              refine f_step0 rfl rfl (o_storeA Try.sizeOf24 rfl rfl rfl rfl (by first | exact Nat.le_of_ble_eq_true rfl | (simp; done) | (simp; omega)) _ rfl ?_)
              refine f_stepP rfl rfl rfl (o_assign rfl) ?_
              refine f_stepP rfl rfl rfl (o_assign rfl) ?_
              refine f_stepP rfl rfl rfl (o_assign rfl) ?_
              refine f_done ?_
              refine f_tn (kh34 _ _ ?_)
              clear kh34
              refine f_seq fun K35 kh35 => ?_
              refine f_region ?_
              refine f_stepP rfl rfl rfl (o_loadA (vs := [_, _]) Try.isAgg24 Try.sizeOf24 rfl rfl ⟨(rdA rfl), (rdA rfl), trivial⟩) ?_
              refine f_stepP rfl rfl rfl (o_move rfl) ?_
              refine f_step rfl rfl rfl (o_call Try.call17 rfl (fun w_ hp_ => (by have h := Induced_spec (n : Int) A l cap (some ⟨b104, 0, none⟩) (bothTo keep nv) n w_ (hr.up0 hp_) (roOwn (b := b104) hp_ (cs := (bothTo keep nv).map .bool) (fun j v hj => hj)) hl hN hok; rw [bothTo_len, hkn] at h; exact h)) ?_)
              rintro v138 m138 hI
              unfold InducedΦ at hI
              rw [if_neg (by omega), if_neg (by rw [bothTo_len]; omega), if_neg (by rw [verts_both hnv]; exact verts_half hv0)] at hI
              obtain ⟨s10, s11, s12, m10, m11, m12, rfl, rfl, o10, o11, o12⟩ := hI
              obtain ⟨A10, cap10, rfl, hc10⟩ := o10.val
              dsimp only [List.cons_append, List.nil_append]
              refine f_stepP rfl rfl rfl (o_move rfl) ?_
              refine f_stepP rfl rfl rfl (o_extract rfl rfl) ?_
              refine f_stepP rfl rfl rfl (o_extract rfl rfl) ?_
              refine f_stepP rfl rfl rfl (o_extract rfl rfl) ?_
              refine f_stepP rfl rfl rfl (o_extract rfl rfl) ?_
              refine f_step rfl rfl rfl (o_alloc Try.zeroValue24 rfl fun b24 => ?_)
              refine f_step0 rfl rfl (o_storeA Try.sizeOf24 rfl rfl rfl rfl (by first | exact Nat.le_of_ble_eq_true rfl | (simp; done) | (simp; omega)) _ rfl ?_)
              refine f_stepP rfl rfl rfl (o_assign rfl) ?_
              refine f_stepP rfl rfl rfl (o_assign rfl) ?_
              refine f_stepP rfl rfl rfl (o_assign rfl) ?_
              refine f_done ?_
              refine f_tn (kh35 _ _ ?_)
              clear kh35
              refine f_seq fun K36 kh36 => ?_
              refine f_region ?_
              refine f_stepP rfl rfl rfl (o_move rfl) ?_
              refine f_stepP rfl rfl rfl (o_eql rfl rfl) ?_
              refine f_stepP rfl rfl rfl (o_move rfl) ?_
              refine f_trueL 145 rfl (rfl) ?_
              refine f_stepPY rfl rfl rfl rfl rfl (o_move rfl) ?_
              refine f_stepPY rfl rfl rfl rfl rfl (o_eql rfl rfl) ?_
              refine f_stepP rfl rfl rfl (o_pickT rfl rfl) ?_
              refine f_stepP rfl rfl rfl (o_move rfl) ?_
              refine f_trueL 149 rfl (rfl) ?_
              refine f_stepPY rfl rfl rfl rfl rfl (o_loadA (vs := [_, _]) Try.isAgg24 Try.sizeOf24 rfl rfl ⟨(rdA rfl), (rdA rfl), trivial⟩) ?_
              refine f_stepPY rfl rfl rfl rfl rfl (o_loadA (vs := [_, _]) Try.isAgg24 Try.sizeOf24 rfl rfl ⟨(rdA rfl), (rdA rfl), trivial⟩) ?_
              refine f_stepY rfl rfl rfl rfl rfl (o_call Try.call15 rfl (fun w_ hp_ => SameGraph_spec _ _ A7 A10 _ _ cap7 cap10 w_ (seen_ro (o7.seen hp_)) (seen_ro (o10.seen hp_)) (by have := sub_len (halfTo nv nv) (subArcs keep l); omega)) ?_)
              rintro _ _ ⟨rfl, rfl⟩
              rw [decide_eq_true (show _ ∧ _ from ⟨by rw [verts_both hnv], (sub_both hnv (by rw [hkn]; exact hgood)).symm⟩)]
              dsimp only [List.cons_append, List.nil_append]
              refine f_stepP rfl rfl rfl (o_pickT rfl rfl) ?_
              refine f_stepP rfl rfl rfl (o_assign rfl) ?_
              refine f_done ?_
              refine f_tn (kh36 _ _ ?_)
              clear kh36
              refine f_ret ?_
              exact f_fin1 [] Try.results6 rfl Sub.nil ⟨rfl, rfl⟩

end Go.Proofs.Ythbkeoejbendnaa
