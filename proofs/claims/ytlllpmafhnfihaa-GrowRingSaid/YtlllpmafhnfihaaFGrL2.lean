/- flyoverlaw07.GrowRing. -/
import Derived.Test.YtlllpmafhnfihaaFGrL
import Derived.Test.YtlllpmafhnfihaaPGrow2
import Derived.Test.YtlllpmafhnfihaaFNbr3
namespace Go.Proofs.Ytlllpmafhnfihaa
open Go Go.RowKit Fly
set_option linter.unusedVariables false
set_option linter.unusedSimpArgs false

set_option maxRecDepth 100000 in
set_option maxHeartbeats 4000000 in
theorem GrowRing_spec (N : Int) (A : Option Addr) (l : List Arc) (cap : Nat) (c most : Int) (w : World) (hr : Ro (Fr w []) w A (l.flatMap arcCs)) (hl : l.length ≤ 9223372036854775807) (hN : I64 N) (hok : ∀ x ∈ l, ArcOk x) :
    Meets Try.prog 4 [.agg #[.int .i64 N, .slice A l.length cap], .int .i64 c, .int .i64 most] w [] (fun u m => u = .bool true ∧ m = []) := by
  refine f_enter Try.func4 rfl Try.ntmps4 rfl Owns.nil ?_
  refine f_seq fun K1 kh1 => ?_
  refine f_region ?_
  refine f_step rfl rfl rfl (o_box rfl rfl fun b3 => ?_)
  refine f_stepP rfl rfl rfl (o_assign rfl) ?_
  refine f_done ?_
  refine f_tn (kh1 _ _ ?_)
  clear kh1
  refine f_seq fun K2 kh2 => ?_
  refine f_seq fun K3 kh3 => ?_
  refine f_region ?_
  refine f_step rfl rfl rfl (o_call Try.call8 rfl (fun w_ hp_ => works_spec w_) ?_)
  rintro _ _ ⟨rfl, rfl⟩
  dsimp only [List.cons_append, List.nil_append]
  refine f_stepP rfl rfl rfl (o_not rfl) ?_
  refine f_done ?_
  refine f_tn (kh3 _ _ ?_)
  clear kh3
  refine f_condF rfl ?_
  refine f_skip ?_
  refine f_tn (kh2 _ _ ?_)
  clear kh2
  refine f_seq fun K4 kh4 => ?_
  refine f_seq fun K5 kh5 => ?_
  refine f_region ?_
  refine f_stepP rfl rfl rfl (o_loadA (vs := [_, _]) Try.isAgg24 Try.sizeOf24 rfl rfl ⟨(rdA rfl), (rdA rfl), trivial⟩) ?_
  refine f_step rfl rfl rfl (o_call Try.call7 rfl (fun w_ hp_ => large_spec N A l cap w_ hl) ?_)
  rintro _ _ ⟨bL, rfl, rfl⟩
  dsimp only [List.cons_append, List.nil_append]
  refine f_done ?_
  refine f_tn (kh5 _ _ ?_)
  clear kh5
  refine f_condB rfl (fun c26 => ?_) (fun c26 => ?_)
  · skip
    refine f_seq fun K6 kh6 => ?_
    refine f_region ?_
    refine f_stepP rfl rfl rfl (o_assign rfl) ?_
    refine f_done ?_
    refine f_tn (kh6 _ _ ?_)
    clear kh6
    refine f_ret ?_
    refine f_tr ?_
    exact f_fin1 [] Try.results4 rfl Sub.nil ⟨rfl, rfl⟩
  · skip
    refine f_skip ?_
    refine f_tn (kh4 _ _ ?_)
    clear kh4
    refine f_seq fun K7 kh7 => ?_
    refine f_region ?_
    refine f_stepP rfl rfl rfl (o_loadA (vs := [_, _]) Try.isAgg24 Try.sizeOf24 rfl rfl ⟨(rdA rfl), (rdA rfl), trivial⟩) ?_
    refine f_stepP rfl rfl rfl (o_move rfl) ?_
    refine f_stepP rfl rfl rfl (o_move rfl) ?_
    refine f_step rfl rfl rfl (o_call Try.call10 rfl (fun w_ hp_ => Region_spec N A l cap c most w_ (hr.up0 hp_) hl hN hok) ?_)
    rintro _ _ ⟨s31, m31, rfl, rfl, o31⟩
    have hrl := regR_len (N := N) (l := l) (c := c) (most := most)
    obtain ⟨A31, c31, rfl, _⟩ := o31.val
    dsimp only [List.cons_append, List.nil_append]
    refine f_stepP rfl rfl rfl (o_move rfl) ?_
    refine f_stepP rfl rfl rfl (o_extract rfl rfl) ?_
    refine f_stepP rfl rfl rfl (o_extract rfl rfl) ?_
    refine f_stepP rfl rfl rfl (o_assign rfl) ?_
    refine f_stepP rfl rfl rfl (o_assign rfl) ?_
    refine f_done ?_
    refine f_tn (kh7 _ _ ?_)
    clear kh7
    refine f_seq fun K8 kh8 => ?_
    refine f_seq fun K9 kh9 => ?_
    refine f_region ?_
    refine f_stepP rfl rfl rfl (o_move rfl) ?_
    refine f_stepP rfl rfl rfl (o_neq rfl rfl) ?_
    refine f_done ?_
    refine f_tn (kh9 _ _ ?_)
    clear kh9
    refine f_cond rfl (fun c35 => ?_) (fun c35 => ?_)
    · skip
      have he := regR_err c35
      have hl0 : (regR N l c most).1.length = 0 := by rw [he]; rfl
      refine f_seq fun K10 kh10 => ?_
      refine f_region ?_
      refine f_stepP rfl rfl rfl (o_move rfl) ?_
      refine f_stepP rfl rfl rfl (o_len sl28 rfl) ?_
      refine f_stepP rfl rfl rfl (o_eql rfl rfl) ?_
      refine f_stepP rfl rfl rfl (o_assign rfl) ?_
      refine f_done ?_
      refine f_tn (kh10 _ _ ?_)
      clear kh10
      refine f_ret ?_
      refine f_tr ?_
      exact f_fin1 [] Try.results4 rfl Sub.nil ⟨by rw [decide_eq_true (by omega)], rfl⟩
    · skip
      have h0 : (regR N l c most).2 = 0 := by simpa using c35
      obtain ⟨hg, n, cn, mn, rfl, rfl, rfl, hok1⟩ := reg_ok h0
      obtain ⟨L, hL⟩ : ∃ L, L = (regR (n : Int) l (cn : Int) (mn : Int)).1 := ⟨_, rfl⟩
      rw [← hL] at hok1 o31 hrl ⊢
      have hgz := gcheck_zero hg
      have hrr := ring_reg hg hok1.rng hok1.nd
      refine f_skip ?_
      refine f_tn (kh8 _ _ ?_)
      clear kh8
      refine f_seq fun K11 kh11 => ?_
      refine f_region ?_
      refine f_stepP rfl rfl rfl (o_loadA (vs := [_, _]) Try.isAgg24 Try.sizeOf24 rfl rfl ⟨(rdA rfl), (rdA rfl), trivial⟩) ?_
      refine f_stepP rfl rfl rfl (o_move rfl) ?_
      refine f_step rfl rfl rfl (o_call Try.call17 rfl (fun w_ hp_ => Ring_spec (n : Int) A l cap A31 L c31 w_ (hr.up0 hp_) hl hN hok (seen_ro (o31.seen hp_)) (by omega)) ?_)
      rintro _ _ ⟨s42, m42, rfl, rfl, o42⟩
      rw [hrr] at o42 ⊢
      obtain ⟨A42, c42, rfl, _⟩ := o42.val
      have hRl := ringL_len l L n
      dsimp only [List.cons_append, List.nil_append]
      refine f_stepP rfl rfl rfl (o_move rfl) ?_
      refine f_stepP rfl rfl rfl (o_extract rfl rfl) ?_
      refine f_stepP rfl rfl rfl (o_extract rfl rfl) ?_
      refine f_stepP rfl rfl rfl (o_assign rfl) ?_
      refine f_stepP rfl rfl rfl (o_assign rfl) ?_
      refine f_done ?_
      refine f_tn (kh11 _ _ ?_)
      clear kh11
      refine f_meet (α := Nat × Nat) [3, 7, 9, 10] (fun ⟨b47, b50⟩ => [(11, .slice (some ⟨b47, 0, none⟩) n n), (12, .slice (some ⟨b50, 0, none⟩) n n)]) (fun ⟨b47, b50⟩ => [m31, m42, [(b47, blk (boolsG (marksL n [])) 4)], [(b50, blk (boolsG (marksL n [])) 4)], [(b3, blk [.int .i64 (n : Int), .slice A l.length cap] 24)]]) (fun ⟨b47, b50⟩ => True) ?_ ?_
      · intro K12 kh12
        refine f_regionH [[(b3, blk [.int .i64 (n : Int), .slice A l.length cap] 24)]] rfl ?_
        refine f_take 0 rfl (by decide +kernel) rfl rfl rfl (by repeat (first | exact Sub.nil | refine Sub.pick ?_ | refine Sub.castO rfl ?_ | refine Sub.skip ?_)) (o_field fa24_0 rfl) ?_
        refine f_take 1 rfl (by decide +kernel) rfl rfl rfl (by repeat (first | exact Sub.nil | refine Sub.pick ?_ | refine Sub.castO rfl ?_ | refine Sub.skip ?_)) (o_load Try.isAgg3 rfl (rdA rfl)) ?_
        refine f_take 3 rfl (by decide +kernel) rfl rfl rfl (by repeat (first | exact Sub.nil | refine Sub.pick ?_ | refine Sub.castO rfl ?_ | refine Sub.skip ?_)) (o_field fa24_0 rfl) ?_
        refine f_take 4 rfl (by decide +kernel) rfl rfl rfl (by repeat (first | exact Sub.nil | refine Sub.pick ?_ | refine Sub.castO rfl ?_ | refine Sub.skip ?_)) (o_load Try.isAgg3 rfl (rdA rfl)) ?_
        refine f_two 2 5 rfl rfl (by decide +kernel) rfl rfl rfl rfl rfl rfl ?_ ?_
        · skip
          refine (o_make el37 rfl rfl n rfl (by omega) (by omega) (boolsG (marksL n [])) (by rw [marksL_nil]; exact reps_bool n false) fun b47 => ⟨(by repeat (first | exact Sub.nil | refine Sub.pick ?_ | refine Sub.castO rfl ?_ | refine Sub.skip ?_)), ?_⟩)
          refine f_two 5 6 rfl rfl (by decide +kernel) rfl rfl rfl rfl rfl rfl ?_ ?_
          · skip
            refine (o_make el37 rfl rfl n rfl (by omega) (by omega) (boolsG (marksL n [])) (by rw [marksL_nil]; exact reps_bool n false) fun b50 => ⟨(by repeat (first | exact Sub.nil | refine Sub.pick ?_ | refine Sub.castO rfl ?_ | refine Sub.skip ?_)), ?_⟩)
            refine f_only 6 rfl (by decide +kernel) rfl rfl rfl ((o_assign rfl).does ⟨(by repeat (first | exact Sub.nil | refine Sub.pick ?_ | refine Sub.castO rfl ?_ | refine Sub.skip ?_)), ?_⟩)
            refine f_only 7 rfl (by decide +kernel) rfl rfl rfl ((o_assign rfl).does ⟨(by repeat (first | exact Sub.nil | refine Sub.pick ?_ | refine Sub.castO rfl ?_ | refine Sub.skip ?_)), ?_⟩)
            refine f_over (by decide +kernel) ?_
            refine f_tn (kh12 _ _ (b47, b50) trivial ?_ ?_ ?_)
            · exact (by repeat (first | exact trivial | refine ⟨rfl, ?_⟩))
            · exact (by repeat (first | exact trivial | refine ⟨rfl, ?_⟩))
            · repeat (first | exact Sub.nil | refine Sub.pick ?_ | refine Sub.castO rfl ?_ | refine Sub.skip ?_)
          · skip
            refine (o_assign rfl).does ⟨(by repeat (first | exact Sub.nil | refine Sub.pick ?_ | refine Sub.castO rfl ?_ | refine Sub.skip ?_)), ?_⟩
            refine f_only 5 rfl (by decide +kernel) rfl rfl rfl (o_make el37 rfl rfl n rfl (by omega) (by omega) (boolsG (marksL n [])) (by rw [marksL_nil]; exact reps_bool n false) fun b50 => ⟨(by repeat (first | exact Sub.nil | refine Sub.pick ?_ | refine Sub.castO rfl ?_ | refine Sub.skip ?_)), ?_⟩)
            refine f_only 7 rfl (by decide +kernel) rfl rfl rfl ((o_assign rfl).does ⟨(by repeat (first | exact Sub.nil | refine Sub.pick ?_ | refine Sub.castO rfl ?_ | refine Sub.skip ?_)), ?_⟩)
            refine f_over (by decide +kernel) ?_
            refine f_tn (kh12 _ _ (b47, b50) trivial ?_ ?_ ?_)
            · exact (by repeat (first | exact trivial | refine ⟨rfl, ?_⟩))
            · exact (by repeat (first | exact trivial | refine ⟨rfl, ?_⟩))
            · repeat (first | exact Sub.nil | refine Sub.pick ?_ | refine Sub.castO rfl ?_ | refine Sub.skip ?_)
        · skip
          refine (o_make el37 rfl rfl n rfl (by omega) (by omega) (boolsG (marksL n [])) (by rw [marksL_nil]; exact reps_bool n false) fun b50 => ⟨(by repeat (first | exact Sub.nil | refine Sub.pick ?_ | refine Sub.castO rfl ?_ | refine Sub.skip ?_)), ?_⟩)
          refine f_only 2 rfl (by decide +kernel) rfl rfl rfl (o_make el37 rfl rfl n rfl (by omega) (by omega) (boolsG (marksL n [])) (by rw [marksL_nil]; exact reps_bool n false) fun b47 => ⟨(by repeat (first | exact Sub.nil | refine Sub.pick ?_ | refine Sub.castO rfl ?_ | refine Sub.skip ?_)), ?_⟩)
          refine f_only 6 rfl (by decide +kernel) rfl rfl rfl ((o_assign rfl).does ⟨(by repeat (first | exact Sub.nil | refine Sub.pick ?_ | refine Sub.castO rfl ?_ | refine Sub.skip ?_)), ?_⟩)
          refine f_only 7 rfl (by decide +kernel) rfl rfl rfl ((o_assign rfl).does ⟨(by repeat (first | exact Sub.nil | refine Sub.pick ?_ | refine Sub.castO rfl ?_ | refine Sub.skip ?_)), ?_⟩)
          refine f_over (by decide +kernel) ?_
          refine f_tn (kh12 _ _ (b47, b50) trivial ?_ ?_ ?_)
          · exact (by repeat (first | exact trivial | refine ⟨rfl, ?_⟩))
          · exact (by repeat (first | exact trivial | refine ⟨rfl, ?_⟩))
          · repeat (first | exact Sub.nil | refine Sub.pick ?_ | refine Sub.castO rfl ?_ | refine Sub.skip ?_)
      · rintro ⟨b47, b50⟩ _
        refine f_seq fun K13 kh13 => ?_
        refine f_seq fun K14 kh14 => ?_
        refine f_region ?_
        refine f_stepP rfl rfl rfl (o_move rfl) ?_
        refine f_stepP rfl rfl rfl (o_len sl28 rfl) ?_
        refine f_stepP rfl rfl rfl (o_move rfl) ?_
        refine f_done ?_
        refine f_tn (kh14 _ _ ?_)
        clear kh14
        refine f_block ?_
        refine f_loop (α := Nat) [3, 9, 10, 11, 12, 51, 52] (fun k => [(53, .int .i64 (k : Int))]) (fun k => [m31, m42, [(b47, blk (boolsG (marksL n (L.take k))) 4)], [(b50, blk (boolsG (marksL n [])) 4)], [(b3, blk [.int .i64 (n : Int), .slice A l.length cap] 24)]]) (fun k => k ≤ L.length) (fun k => L.length - k) (0) ?_ ?_ ?_ ?_
        · exact (by repeat (first | exact trivial | refine ⟨rfl, ?_⟩))
        · repeat (first | exact Sub.nil | refine Sub.pick ?_ | refine Sub.castO rfl ?_ | refine Sub.skip ?_)
        · exact Nat.zero_le _
        · rintro k hkl
          refine f_envC (e := [(53, _), (3, _), (9, _), (10, _), (11, _), (12, _), (51, _), (52, _)]) (by repeat (first | exact trivial | refine ⟨rfl, ?_⟩)) ?_
          refine f_seq fun K15 kh15 => ?_
          refine f_region ?_
          refine f_stepP rfl rfl rfl (o_lss rfl rfl) ?_
          refine f_done ?_
          refine f_tn (kh15 _ _ ?_)
          clear kh15
          refine f_seq fun K16 kh16 => ?_
          refine f_cond rfl (fun c54 => ?_) (fun c54 => ?_)
          · skip
            have hk : k < L.length := by omega
            obtain ⟨bl, sl, rfl, rfl⟩ := o31.at_ (by omega)
            obtain ⟨v, hv, hvn⟩ : ∃ v : Nat, L[k] = (v : Int) ∧ v < n := ⟨L[k].toNat, by have := hok1.rng _ (List.getElem_mem hk); omega, by have := hok1.rng _ (List.getElem_mem hk); omega⟩
            refine f_skip ?_
            refine f_tn (kh16 _ _ ?_)
            clear kh16
            refine f_seq fun K17 kh17 => ?_
            refine f_block ?_
            refine f_seq fun K18 kh18 => ?_
            refine f_region ?_
            refine f_stepP rfl rfl rfl (o_idx sl28 rfl rfl (k) ⟨by omega, by omega, by first | omega | (simp; done) | (simp; omega)⟩) ?_
            refine f_stepP rfl rfl rfl (o_load Try.isAgg3 rfl (rdA (v := .int .i64 (v : Int)) (app_get (by rw [ints_get hk, hv])))) ?_
            refine f_stepP rfl rfl rfl (o_assign rfl) ?_
            refine f_done ?_
            refine f_tn (kh18 _ _ ?_)
            clear kh18
            refine f_region ?_
            refine f_stepP rfl rfl rfl (o_move rfl) ?_
            refine f_stepP rfl rfl rfl (o_move rfl) ?_
            refine f_stepP rfl rfl rfl (o_idx sl37 rfl rfl (v) ⟨by omega, by omega, by first | omega | (simp; done) | (simp; omega)⟩) ?_
            refine f_step0 rfl rfl (o_store Try.sizeOf4 rfl rfl rfl rfl (by simp [boolsG, marksL_len]; omega) (boolsG (marksL n (L.take (k + 1)))) (by rw [boolsG_set, marksL_next hk hv]) ?_)
            refine f_done ?_
            refine f_bn ?_
            refine f_tn (kh17 _ _ ?_)
            clear kh17
            refine f_region ?_
            refine f_stepP rfl rfl rfl (o_add rfl rfl _ (wrap_i64 (by omega))) ?_
            refine f_stepP rfl rfl rfl (o_move rfl) ?_
            refine f_done ?_
            refine f_tn (f_again (k + 1) (by first | omega | (dsimp only; omega) | (simp; omega)) (by omega) ?_ ?_ ?_)
            · exact (by repeat (first | exact trivial | refine ⟨rfl, ?_⟩))
            · exact (by repeat (first | exact trivial | refine ⟨rfl, ?_⟩))
            · repeat (first | exact Sub.nil | refine Sub.pick ?_ | refine Sub.castO rfl ?_ | refine Sub.skip ?_)
          · skip
            obtain rfl : k = L.length := by omega
            rw [List.take_length]
            refine f_exit ?_
            refine f_te ?_
            clear kh16
            refine f_te ?_
            refine f_be ?_
            refine f_tn (kh13 _ _ ?_)
            clear kh13
            refine f_seq fun K19 kh19 => ?_
            refine f_seq fun K20 kh20 => ?_
            refine f_region ?_
            refine f_stepP rfl rfl rfl (o_move rfl) ?_
            refine f_stepP rfl rfl rfl (o_len sl28 rfl) ?_
            refine f_stepP rfl rfl rfl (o_move rfl) ?_
            refine f_done ?_
            refine f_tn (kh20 _ _ ?_)
            clear kh20
            refine f_block ?_
            refine f_loop (α := Nat) [3, 10, 11, 12, 61, 62] (fun k => [(63, .int .i64 (k : Int))]) (fun k => [m42, [(b47, blk (boolsG (marksL n L)) 4)], [(b50, blk (boolsG (marksL n ((ringL l L n).take k))) 4)], [(b3, blk [.int .i64 (n : Int), .slice A l.length cap] 24)]]) (fun k => k ≤ (ringL l L n).length) (fun k => (ringL l L n).length - k) (0) ?_ ?_ ?_ ?_
            · exact (by repeat (first | exact trivial | refine ⟨rfl, ?_⟩))
            · repeat (first | exact Sub.nil | refine Sub.pick ?_ | refine Sub.castO rfl ?_ | refine Sub.skip ?_)
            · exact Nat.zero_le _
            · rintro k hkl
              refine f_envC (e := [(63, _), (3, _), (10, _), (11, _), (12, _), (61, _), (62, _)]) (by repeat (first | exact trivial | refine ⟨rfl, ?_⟩)) ?_
              refine f_seq fun K21 kh21 => ?_
              refine f_region ?_
              refine f_stepP rfl rfl rfl (o_lss rfl rfl) ?_
              refine f_done ?_
              refine f_tn (kh21 _ _ ?_)
              clear kh21
              refine f_seq fun K22 kh22 => ?_
              refine f_cond rfl (fun c64 => ?_) (fun c64 => ?_)
              · skip
                have hk : k < (ringL l L n).length := by omega
                obtain ⟨bl, sl, rfl, rfl⟩ := o42.at_ (show 0 < (ringL l L n).length by omega)
                obtain ⟨v, hvn, hv, hrg⟩ := ringL_mem.1 (List.getElem_mem hk)
                have hnd := not_take_of_nodup hk (ringL_nodup l L n)
                rw [hv] at hnd
                have hnl : (v : Int) ∉ L := by unfold rgB at hrg; intro h; rw [decide_eq_true h] at hrg; simp at hrg
                refine f_skip ?_
                refine f_tn (kh22 _ _ ?_)
                clear kh22
                refine f_seq fun K23 kh23 => ?_
                refine f_block ?_
                refine f_seq fun K24 kh24 => ?_
                refine f_region ?_
                refine f_stepP rfl rfl rfl (o_idx sl28 rfl rfl (k) ⟨by omega, by omega, by first | omega | (simp; done) | (simp; omega)⟩) ?_
                refine f_stepP rfl rfl rfl (o_load Try.isAgg3 rfl (rdA (v := .int .i64 (v : Int)) (app_get (by rw [ints_get hk, hv])))) ?_
                refine f_stepP rfl rfl rfl (o_assign rfl) ?_
                refine f_done ?_
                refine f_tn (kh24 _ _ ?_)
                clear kh24
                refine f_seq fun K25 kh25 => ?_
                refine f_seq fun K26 kh26 => ?_
                refine f_region ?_
                refine f_stepP rfl rfl rfl (o_move rfl) ?_
                refine f_stepP rfl rfl rfl (o_lss rfl rfl) ?_
                refine f_stepP rfl rfl rfl (o_move rfl) ?_
                refine f_falseL 69 rfl (by omega) ?_
                refine f_stepPY rfl rfl rfl rfl rfl (o_move rfl) ?_
                refine f_stepPY rfl rfl rfl rfl rfl (o_field fa24_0 rfl) ?_
                refine f_stepPY rfl rfl rfl rfl rfl (o_load Try.isAgg3 rfl (rdA rfl)) ?_
                refine f_stepPY rfl rfl rfl rfl rfl (o_geq rfl rfl) ?_
                refine f_stepP rfl rfl rfl (o_pickF rfl rfl) ?_
                refine f_stepP rfl rfl rfl (o_move rfl) ?_
                refine f_falseL 75 rfl (by omega) ?_
                refine f_stepPY rfl rfl rfl rfl rfl (o_move rfl) ?_
                refine f_stepPY rfl rfl rfl rfl rfl (o_move rfl) ?_
                refine f_stepPY rfl rfl rfl rfl rfl (o_idx sl37 rfl rfl (v) ⟨by omega, by omega, by first | omega | (simp; done) | (simp; omega)⟩) ?_
                refine f_stepPY rfl rfl rfl rfl rfl (o_load Try.isAgg4 rfl (rdA (v := .bool false) (by rw [boolsG_at (by rw [marksL_len]; omega), marksL_at hvn, decide_eq_false hnl]))) ?_
                refine f_stepP rfl rfl rfl (o_pickF rfl rfl) ?_
                refine f_stepP rfl rfl rfl (o_move rfl) ?_
                refine f_stepPY rfl rfl rfl rfl rfl (o_move rfl) ?_
                refine f_stepPY rfl rfl rfl rfl rfl (o_move rfl) ?_
                refine f_stepPY rfl rfl rfl rfl rfl (o_idx sl37 rfl rfl (v) ⟨by omega, by omega, by first | omega | (simp; done) | (simp; omega)⟩) ?_
                refine f_stepPY rfl rfl rfl rfl rfl (o_load Try.isAgg4 rfl (rdA (v := .bool false) (by rw [boolsG_at (by rw [marksL_len]; omega), marksL_at hvn, decide_eq_false hnd]))) ?_
                refine f_stepP rfl rfl rfl (o_pickF rfl rfl) ?_
                refine f_done ?_
                refine f_tn (kh26 _ _ ?_)
                clear kh26
                refine f_condF rfl ?_
                refine f_skip ?_
                refine f_tn (kh25 _ _ ?_)
                clear kh25
                refine f_region ?_
                refine f_stepP rfl rfl rfl (o_move rfl) ?_
                refine f_stepP rfl rfl rfl (o_move rfl) ?_
                refine f_stepP rfl rfl rfl (o_idx sl37 rfl rfl (v) ⟨by omega, by omega, by first | omega | (simp; done) | (simp; omega)⟩) ?_
                refine f_step0 rfl rfl (o_store Try.sizeOf4 rfl rfl rfl rfl (by simp [boolsG, marksL_len]; omega) (boolsG (marksL n ((ringL l L n).take (k + 1)))) (by rw [boolsG_set, marksL_next hk hv]) ?_)
                refine f_done ?_
                refine f_bn ?_
                refine f_tn (kh23 _ _ ?_)
                clear kh23
                refine f_region ?_
                refine f_stepP rfl rfl rfl (o_add rfl rfl _ (wrap_i64 (by omega))) ?_
                refine f_stepP rfl rfl rfl (o_move rfl) ?_
                refine f_done ?_
                refine f_tn (f_again (k + 1) (by first | omega | (dsimp only; omega) | (simp; omega)) (by omega) ?_ ?_ ?_)
                · exact (by repeat (first | exact trivial | refine ⟨rfl, ?_⟩))
                · exact (by repeat (first | exact trivial | refine ⟨rfl, ?_⟩))
                · repeat (first | exact Sub.nil | refine Sub.pick ?_ | refine Sub.castO rfl ?_ | refine Sub.skip ?_)
              · skip
                obtain rfl : k = (ringL l L n).length := by omega
                rw [List.take_length]
                refine f_exit ?_
                refine f_te ?_
                clear kh22
                refine f_te ?_
                refine f_be ?_
                refine f_tn (kh19 _ _ ?_)
                clear kh19
                refine f_seq fun K27 kh27 => ?_
                refine f_seq fun K28 kh28 => ?_
                refine f_region ?_
                refine f_stepP rfl rfl rfl (o_field fa24_0 rfl) ?_
                refine f_stepP rfl rfl rfl (o_load Try.isAgg3 rfl (rdA rfl)) ?_
                refine f_stepP rfl rfl rfl (o_move rfl) ?_
                refine f_done ?_
                refine f_tn (kh28 _ _ ?_)
                clear kh28
                refine f_block ?_
                refine f_loop (α := Nat) [3, 10, 11, 12, 92] (fun v => [(93, .int .i64 (v : Int))]) (fun v => [[(b47, blk (boolsG (marksL n L)) 4)], [(b50, blk (boolsG (marksL n (ringL l L n))) 4)], [(b3, blk [.int .i64 (n : Int), .slice A l.length cap] 24)]]) (fun v => v ≤ n) (fun v => n - v) (0) ?_ ?_ ?_ ?_
                · exact (by repeat (first | exact trivial | refine ⟨rfl, ?_⟩))
                · repeat (first | exact Sub.nil | refine Sub.pick ?_ | refine Sub.castO rfl ?_ | refine Sub.skip ?_)
                · exact Nat.zero_le _
                · rintro v hvl
                  refine f_envC (e := [(93, _), (3, _), (10, _), (11, _), (12, _), (92, _)]) (by repeat (first | exact trivial | refine ⟨rfl, ?_⟩)) ?_
                  refine f_seq fun K29 kh29 => ?_
                  refine f_region ?_
                  refine f_stepP rfl rfl rfl (o_lss rfl rfl) ?_
                  refine f_done ?_
                  refine f_tn (kh29 _ _ ?_)
                  clear kh29
                  refine f_seq fun K30 kh30 => ?_
                  refine f_cond rfl (fun c94 => ?_) (fun c94 => ?_)
                  · skip
                    have hv : v < n := by omega
                    have hz : glooked (n : Int) l (v : Int) = 0 := by unfold glooked; rw [if_neg (by rw [hg]; simp), if_neg (by omega)]
                    obtain ⟨hrl1, hrng⟩ := nbrs_rngG hg
                    have hrlv := hrl1 v
                    refine f_skip ?_
                    refine f_tn (kh30 _ _ ?_)
                    clear kh30
                    refine f_seq fun K31 kh31 => ?_
                    refine f_block ?_
                    refine f_seq fun K32 kh32 => ?_
                    refine f_region ?_
                    refine f_stepP rfl rfl rfl (o_move rfl) ?_
                    refine f_stepP rfl rfl rfl (o_assign rfl) ?_
                    refine f_done ?_
                    refine f_tn (kh32 _ _ ?_)
                    clear kh32
                    refine f_seq fun K33 kh33 => ?_
                    refine f_region ?_
                    refine f_stepP rfl rfl rfl (o_loadA (vs := [_, _]) Try.isAgg24 Try.sizeOf24 rfl rfl ⟨(rdA rfl), (rdA rfl), trivial⟩) ?_
                    refine f_stepP rfl rfl rfl (o_move rfl) ?_
                    refine f_step rfl rfl rfl (o_call Try.call18 rfl (fun w_ hp_ => Neighbours_spec (n : Int) A l cap (v : Int) w_ (hr.up0 hp_) hl hN hok) ?_)
                    rintro _ _ ⟨Ar, W, cr, m99, rfl, rfl, o99, hW⟩
                    rw [if_pos hz] at hW
                    subst hW
                    rw [hz]
                    dsimp only [List.cons_append, List.nil_append]
                    refine f_stepP rfl rfl rfl (o_move rfl) ?_
                    refine f_stepP rfl rfl rfl (o_extract rfl rfl) ?_
                    refine f_stepP rfl rfl rfl (o_extract rfl rfl) ?_
                    refine f_stepP rfl rfl rfl (o_assign rfl) ?_
                    refine f_stepP rfl rfl rfl (o_assign rfl) ?_
                    refine f_done ?_
                    refine f_tn (kh33 _ _ ?_)
                    clear kh33
                    refine f_seq fun K34 kh34 => ?_
                    refine f_region ?_
                    refine f_stepP rfl rfl rfl (o_assign rfl) ?_
                    refine f_done ?_
                    refine f_tn (kh34 _ _ ?_)
                    clear kh34
                    refine f_seq fun K35 kh35 => ?_
                    refine f_seq fun K36 kh36 => ?_
                    refine f_region ?_
                    refine f_stepP rfl rfl rfl (o_move rfl) ?_
                    refine f_stepP rfl rfl rfl (o_len sl28 rfl) ?_
                    refine f_stepP rfl rfl rfl (o_move rfl) ?_
                    refine f_done ?_
                    refine f_tn (kh36 _ _ ?_)
                    clear kh36
                    refine f_block ?_
                    refine f_loop (α := Nat) [3, 10, 11, 12, 17, 19, 92, 93, 102, 103] (fun j => [(104, .int .i64 (j : Int)), (20, .bool (((nbrs (v : Int) l).take j).any fun u => decide (u ∈ L)))]) (fun j => [m99, [(b47, blk (boolsG (marksL n L)) 4)], [(b50, blk (boolsG (marksL n (ringL l L n))) 4)], [(b3, blk [.int .i64 (n : Int), .slice A l.length cap] 24)]]) (fun j => j ≤ (nbrs (v : Int) l).length) (fun j => (nbrs (v : Int) l).length - j) (0) ?_ ?_ ?_ ?_
                    · exact (by repeat (first | exact trivial | refine ⟨rfl, ?_⟩))
                    · repeat (first | exact Sub.nil | refine Sub.pick ?_ | refine Sub.castO rfl ?_ | refine Sub.skip ?_)
                    · exact Nat.zero_le _
                    · rintro j hjl
                      refine f_envC (e := [(104, _), (20, _), (3, _), (10, _), (11, _), (12, _), (17, _), (19, _), (92, _), (93, _), (102, _), (103, _)]) (by repeat (first | exact trivial | refine ⟨rfl, ?_⟩)) ?_
                      refine f_seq fun K37 kh37 => ?_
                      refine f_region ?_
                      refine f_stepP rfl rfl rfl (o_lss rfl rfl) ?_
                      refine f_done ?_
                      refine f_tn (kh37 _ _ ?_)
                      clear kh37
                      refine f_seq fun K38 kh38 => ?_
                      refine f_cond rfl (fun c105 => ?_) (fun c105 => ?_)
                      · skip
                        have hj : j < (nbrs (v : Int) l).length := by omega
                        obtain ⟨bl, sl, rfl, rfl⟩ := o99.at_ (by omega)
                        have hur := hrng v hv _ (List.getElem_mem hj)
                        obtain ⟨un, hue⟩ : ∃ un : Nat, (nbrs (v : Int) l)[j] = (un : Int) := ⟨((nbrs (v : Int) l)[j]).toNat, by omega⟩
                        refine f_skip ?_
                        refine f_tn (kh38 _ _ ?_)
                        clear kh38
                        refine f_seq fun K39 kh39 => ?_
                        refine f_block ?_
                        refine f_seq fun K40 kh40 => ?_
                        refine f_region ?_
                        refine f_stepP rfl rfl rfl (o_idx sl28 rfl rfl (j) ⟨by omega, by omega, by first | omega | (simp; done) | (simp; omega)⟩) ?_
                        refine f_stepP rfl rfl rfl (o_load Try.isAgg3 rfl (rdA (v := .int .i64 ((un : Nat) : Int)) (app_get (by rw [ints_get hj, hue])))) ?_
                        refine f_stepP rfl rfl rfl (o_assign rfl) ?_
                        refine f_done ?_
                        refine f_tn (kh40 _ _ ?_)
                        clear kh40
                        refine f_region ?_
                        refine f_stepP rfl rfl rfl (o_move rfl) ?_
                        refine f_stepP rfl rfl rfl (o_move rfl) ?_
                        refine f_splitLB 109 rfl (fun g109 => ?_) (fun g109 => ?_)
                        · skip
                          refine f_stepN rfl rfl rfl rfl rfl rfl ?_
                          refine f_stepN rfl rfl rfl rfl rfl rfl ?_
                          refine f_stepN rfl rfl rfl rfl rfl rfl ?_
                          refine f_stepN rfl rfl rfl rfl rfl rfl ?_
                          refine f_stepP rfl rfl rfl (o_pickT rfl rfl) ?_
                          refine f_stepP rfl rfl rfl (o_assign rfl) ?_
                          refine f_done ?_
                          refine f_bn ?_
                          refine f_tn (kh39 _ _ ?_)
                          clear kh39
                          refine f_region ?_
                          refine f_stepP rfl rfl rfl (o_add rfl rfl _ (wrap_i64 (by omega))) ?_
                          refine f_stepP rfl rfl rfl (o_move rfl) ?_
                          refine f_done ?_
                          refine f_reQ 20 rfl (v := .bool (((nbrs (v : Int) l).take (j + 1)).any fun u => decide (u ∈ L))) (by rw [List.take_succ_eq_append_getElem hj, List.any_append, g109]; rfl) ?_
                          refine f_tn (f_again (j + 1) (by first | omega | (dsimp only; omega) | (simp; omega)) (by omega) ?_ ?_ ?_)
                          · exact (by repeat (first | exact trivial | refine ⟨rfl, ?_⟩))
                          · exact (by repeat (first | exact trivial | refine ⟨rfl, ?_⟩))
                          · repeat (first | exact Sub.nil | refine Sub.pick ?_ | refine Sub.castO rfl ?_ | refine Sub.skip ?_)
                        · skip
                          refine f_stepPY rfl rfl rfl rfl rfl (o_move rfl) ?_
                          refine f_stepPY rfl rfl rfl rfl rfl (o_move rfl) ?_
                          refine f_stepPY rfl rfl rfl rfl rfl (o_idx sl37 rfl rfl (un) ⟨by omega, by omega, by first | omega | (simp; done) | (simp; omega)⟩) ?_
                          refine f_stepPY rfl rfl rfl rfl rfl (o_load Try.isAgg4 rfl (rdA (boolsG_at (by rw [marksL_len]; omega)))) ?_
                          refine f_stepP rfl rfl rfl (o_pickF rfl rfl) ?_
                          refine f_stepP rfl rfl rfl (o_assign rfl) ?_
                          refine f_done ?_
                          refine f_bn ?_
                          refine f_tn (kh39 _ _ ?_)
                          clear kh39
                          refine f_region ?_
                          refine f_stepP rfl rfl rfl (o_add rfl rfl _ (wrap_i64 (by omega))) ?_
                          refine f_stepP rfl rfl rfl (o_move rfl) ?_
                          refine f_done ?_
                          refine f_reQ 20 rfl (v := .bool (((nbrs (v : Int) l).take (j + 1)).any fun u => decide (u ∈ L))) (by rw [List.take_succ_eq_append_getElem hj, List.any_append, g109, marksL_at (by omega), hue]; simp) ?_
                          refine f_tn (f_again (j + 1) (by first | omega | (dsimp only; omega) | (simp; omega)) (by omega) ?_ ?_ ?_)
                          · exact (by repeat (first | exact trivial | refine ⟨rfl, ?_⟩))
                          · exact (by repeat (first | exact trivial | refine ⟨rfl, ?_⟩))
                          · repeat (first | exact Sub.nil | refine Sub.pick ?_ | refine Sub.castO rfl ?_ | refine Sub.skip ?_)
                      · skip
                        obtain rfl : j = (nbrs (v : Int) l).length := by omega
                        rw [List.take_length]
                        refine f_exit ?_
                        refine f_te ?_
                        clear kh38
                        refine f_te ?_
                        refine f_be ?_
                        refine f_tn (kh35 _ _ ?_)
                        clear kh35
                        refine f_seq fun K41 kh41 => ?_
                        refine f_region ?_
                        refine f_stepP rfl rfl rfl (o_move rfl) ?_
                        refine f_stepP rfl rfl rfl (o_neq rfl rfl) ?_
                        refine f_stepP rfl rfl rfl (o_move rfl) ?_
                        refine f_falseL 118 rfl (by simp) ?_
                        refine f_stepPY rfl rfl rfl rfl rfl (o_move rfl) ?_
                        refine f_stepPY rfl rfl rfl rfl rfl (o_move rfl) ?_
                        refine f_stepPY rfl rfl rfl rfl rfl (o_idx sl37 rfl rfl (v) ⟨by omega, by omega, by first | omega | (simp; done) | (simp; omega)⟩) ?_
                        refine f_stepPY rfl rfl rfl rfl rfl (o_load Try.isAgg4 rfl (rdA (boolsG_at (by rw [marksL_len]; omega)))) ?_
                        refine f_stepPY rfl rfl rfl rfl rfl (o_not rfl) ?_
                        refine f_stepPY rfl rfl rfl rfl rfl (o_move rfl) ?_
                        refine f_splitLB 124 rfl (fun g124 => ?_) (fun g124 => ?_)
                        · skip
                          refine f_stepPY rfl rfl rfl rfl rfl (o_move rfl) ?_
                          refine f_stepPY rfl rfl rfl rfl rfl (o_move rfl) ?_
                          refine f_stepPY rfl rfl rfl rfl rfl (o_move rfl) ?_
                          refine f_stepPY rfl rfl rfl rfl rfl (o_idx sl37 rfl rfl (v) ⟨by omega, by omega, by first | omega | (simp; done) | (simp; omega)⟩) ?_
                          refine f_stepPY rfl rfl rfl rfl rfl (o_load Try.isAgg4 rfl (rdA (boolsG_at (by rw [marksL_len]; omega)))) ?_
                          refine f_stepPY rfl rfl rfl rfl rfl (o_neqB Try.underlying4 rfl rfl) ?_
                          refine f_stepPY rfl rfl rfl rfl rfl (o_pickT rfl rfl) ?_
                          refine f_stepP rfl rfl rfl (o_pickF rfl rfl) ?_
                          refine f_done ?_
                          refine f_tn (kh41 _ _ ?_)
                          clear kh41
                          refine f_condN rfl (by
                            have hnl : decide ((v : Int) ∈ L) = false := by rw [marksL_at hv] at g124; simpa using g124
                            rw [marksL_at hv]
                            have e : decide ((v : Int) ∈ (ringL l L n)) = rgB l L v := by
                              rw [Bool.eq_iff_iff, decide_eq_true_eq, ringL_mem]
                              constructor
                              · rintro ⟨v', _, h2, h3⟩
                                obtain rfl : v = v' := by omega
                                exact h3
                              · exact fun h => ⟨v, hv, rfl, h⟩
                            rw [e]
                            unfold rgB
                            rw [hnl]; simp) ?_
                          refine f_skip ?_
                          refine f_bn ?_
                          refine f_tn (kh31 _ _ ?_)
                          clear kh31
                          refine f_region ?_
                          refine f_stepP rfl rfl rfl (o_add rfl rfl _ (wrap_i64 (by omega))) ?_
                          refine f_stepP rfl rfl rfl (o_move rfl) ?_
                          refine f_done ?_
                          refine f_tn (f_again (v + 1) (by first | omega | (dsimp only; omega) | (simp; omega)) (by omega) ?_ ?_ ?_)
                          · exact (by repeat (first | exact trivial | refine ⟨rfl, ?_⟩))
                          · exact (by repeat (first | exact trivial | refine ⟨rfl, ?_⟩))
                          · repeat (first | exact Sub.nil | refine Sub.pick ?_ | refine Sub.castO rfl ?_ | refine Sub.skip ?_)
                        · skip
                          refine f_stepN rfl rfl rfl rfl rfl rfl ?_
                          refine f_stepN rfl rfl rfl rfl rfl rfl ?_
                          refine f_stepN rfl rfl rfl rfl rfl rfl ?_
                          refine f_stepN rfl rfl rfl rfl rfl rfl ?_
                          refine f_stepN rfl rfl rfl rfl rfl rfl ?_
                          refine f_stepN rfl rfl rfl rfl rfl rfl ?_
                          refine f_stepPY rfl rfl rfl rfl rfl (o_pickF rfl rfl) ?_
                          refine f_stepP rfl rfl rfl (o_pickF rfl rfl) ?_
                          refine f_done ?_
                          refine f_tn (kh41 _ _ ?_)
                          clear kh41
                          refine f_condF rfl ?_
                          refine f_skip ?_
                          refine f_bn ?_
                          refine f_tn (kh31 _ _ ?_)
                          clear kh31
                          refine f_region ?_
                          refine f_stepP rfl rfl rfl (o_add rfl rfl _ (wrap_i64 (by omega))) ?_
                          refine f_stepP rfl rfl rfl (o_move rfl) ?_
                          refine f_done ?_
                          refine f_tn (f_again (v + 1) (by first | omega | (dsimp only; omega) | (simp; omega)) (by omega) ?_ ?_ ?_)
                          · exact (by repeat (first | exact trivial | refine ⟨rfl, ?_⟩))
                          · exact (by repeat (first | exact trivial | refine ⟨rfl, ?_⟩))
                          · repeat (first | exact Sub.nil | refine Sub.pick ?_ | refine Sub.castO rfl ?_ | refine Sub.skip ?_)
                  · skip
                    refine f_exit ?_
                    refine f_te ?_
                    clear kh30
                    refine f_te ?_
                    refine f_be ?_
                    refine f_tn (kh27 _ _ ?_)
                    clear kh27
                    refine f_seq fun K42 kh42 => ?_
                    refine f_region ?_
                    refine f_stepP rfl rfl rfl (o_move rfl) ?_
                    refine f_stepP rfl rfl rfl (o_eql rfl rfl) ?_
                    refine f_stepP rfl rfl rfl (o_assign rfl) ?_
                    refine f_done ?_
                    refine f_tn (kh42 _ _ ?_)
                    clear kh42
                    refine f_ret ?_
                    exact f_fin1 [] Try.results4 rfl Sub.nil ⟨rfl, rfl⟩

end Go.Proofs.Ytlllpmafhnfihaa
