/- flyoverlaw07.GrowConnects. -/
import Derived.Test.YtlllpmafhnfihaaFGrL
import Derived.Test.YtlllpmafhnfihaaPGrow4
import Derived.Test.YtlllpmafhnfihaaFInd
import Derived.Test.YtlllpmafhnfihaaFParts
namespace Go.Proofs.Ytlllpmafhnfihaa
open Go Go.RowKit Fly
set_option linter.unusedVariables false
set_option linter.unusedSimpArgs false


theorem reg_all {n : Nat} {l : List Arc} {cn : Nat} (hg : (gcheck (n : Int) l).2 = 0) (hc : cn < n) : regR (n : Int) l (cn : Int) 1024 = ((bfs n (fun v : Nat => nbrs (v : Int) l) cn (List.replicate n false)).1, 0) := by
  have hz := gcheck_zero hg
  have hI := bfs_inv (nbrs_rngG hg).2 (b := List.replicate n false) (by simp) hc
  rw [rreg_is (n := n) (cn := cn) rfl rfl hg (by omega) (by omega)]
  have := hI.out
  rw [List.take_of_length_le (by show _ ≤ 1024; omega)]

set_option maxRecDepth 100000 in
set_option maxHeartbeats 4000000 in
theorem GrowConnects_spec (N : Int) (A : Option Addr) (l : List Arc) (cap : Nat) (c most : Int) (w : World) (hr : Ro (Fr w []) w A (l.flatMap arcCs)) (hl : l.length ≤ 9223372036854775807) (hN : I64 N) (hok : ∀ x ∈ l, ArcOk x) :
    Meets Try.prog 5 [.agg #[.int .i64 N, .slice A l.length cap], .int .i64 c, .int .i64 most] w [] (fun u m => u = .bool true ∧ m = []) := by
  refine f_enter Try.func5 rfl Try.ntmps5 rfl Owns.nil ?_
  refine f_seq fun K1 kh1 => ?_
  refine f_region ?_
  refine f_step rfl rfl rfl (o_box rfl rfl fun b3 => ?_)
  refine f_stepP rfl rfl rfl (o_assign rfl) ?_
  refine f_done ?_
  refine f_tn (kh1 _ _ ?_)
  clear kh1
  refine f_seq fun K2 kh2 => ?_
  refine f_seq fun K3 kh3 => ?_
  refine f_region ?_
  refine f_step rfl rfl rfl (o_call Try.call8 rfl (fun w_ hp_ => works_spec w_) ?_)
  rintro _ _ ⟨rfl, rfl⟩
  dsimp only [List.cons_append, List.nil_append]
  refine f_stepP rfl rfl rfl (o_not rfl) ?_
  refine f_done ?_
  refine f_tn (kh3 _ _ ?_)
  clear kh3
  refine f_condF rfl ?_
  refine f_skip ?_
  refine f_tn (kh2 _ _ ?_)
  clear kh2
  refine f_seq fun K4 kh4 => ?_
  refine f_seq fun K5 kh5 => ?_
  refine f_region ?_
  refine f_stepP rfl rfl rfl (o_loadA (vs := [_, _]) Try.isAgg24 Try.sizeOf24 rfl rfl ⟨(rdA rfl), (rdA rfl), trivial⟩) ?_
  refine f_step rfl rfl rfl (o_call Try.call7 rfl (fun w_ hp_ => large_spec N A l cap w_ hl) ?_)
  rintro _ _ ⟨bL, rfl, rfl⟩
  dsimp only [List.cons_append, List.nil_append]
  refine f_done ?_
  refine f_tn (kh5 _ _ ?_)
  clear kh5
  refine f_condB rfl (fun c32 => ?_) (fun c32 => ?_)
  · skip
    refine f_seq fun K6 kh6 => ?_
    refine f_region ?_
    refine f_stepP rfl rfl rfl (o_assign rfl) ?_
    refine f_done ?_
    refine f_tn (kh6 _ _ ?_)
    clear kh6
    refine f_ret ?_
    refine f_tr ?_
    exact f_fin1 [] Try.results5 rfl Sub.nil ⟨rfl, rfl⟩
  · skip
    refine f_skip ?_
    refine f_tn (kh4 _ _ ?_)
    clear kh4
    refine f_seq fun K7 kh7 => ?_
    refine f_region ?_
    refine f_stepP rfl rfl rfl (o_loadA (vs := [_, _]) Try.isAgg24 Try.sizeOf24 rfl rfl ⟨(rdA rfl), (rdA rfl), trivial⟩) ?_
    refine f_stepP rfl rfl rfl (o_move rfl) ?_
    refine f_stepP rfl rfl rfl (o_move rfl) ?_
    refine f_step rfl rfl rfl (o_call Try.call10 rfl (fun w_ hp_ => Region_spec N A l cap c most w_ (hr.up0 hp_) hl hN hok) ?_)
    rintro _ _ ⟨s31, m31, rfl, rfl, o31⟩
    have hrl := regR_len (N := N) (l := l) (c := c) (most := most)
    obtain ⟨A31, c31, rfl, _⟩ := o31.val
    dsimp only [List.cons_append, List.nil_append]
    refine f_stepP rfl rfl rfl (o_move rfl) ?_
    refine f_stepP rfl rfl rfl (o_extract rfl rfl) ?_
    refine f_stepP rfl rfl rfl (o_extract rfl rfl) ?_
    refine f_stepP rfl rfl rfl (o_assign rfl) ?_
    refine f_stepP rfl rfl rfl (o_assign rfl) ?_
    refine f_done ?_
    refine f_tn (kh7 _ _ ?_)
    clear kh7
    refine f_seq fun K8 kh8 => ?_
    refine f_seq fun K9 kh9 => ?_
    refine f_region ?_
    refine f_stepP rfl rfl rfl (o_move rfl) ?_
    refine f_stepP rfl rfl rfl (o_neq rfl rfl) ?_
    refine f_done ?_
    refine f_tn (kh9 _ _ ?_)
    clear kh9
    refine f_cond rfl (fun c41 => ?_) (fun c41 => ?_)
    · skip
      have he := regR_err c41
      have hl0 : (regR N l c most).1.length = 0 := by rw [he]; rfl
      refine f_seq fun K10 kh10 => ?_
      refine f_region ?_
      refine f_stepP rfl rfl rfl (o_move rfl) ?_
      refine f_stepP rfl rfl rfl (o_len sl28 rfl) ?_
      refine f_stepP rfl rfl rfl (o_eql rfl rfl) ?_
      refine f_stepP rfl rfl rfl (o_assign rfl) ?_
      refine f_done ?_
      refine f_tn (kh10 _ _ ?_)
      clear kh10
      refine f_ret ?_
      refine f_tr ?_
      exact f_fin1 [] Try.results5 rfl Sub.nil ⟨by rw [decide_eq_true (by omega)], rfl⟩
    · skip
      have h0 : (regR N l c most).2 = 0 := by simpa using c41
      obtain ⟨hg, n, cn, mn, rfl, rfl, rfl, hok1⟩ := reg_ok h0
      obtain ⟨L, hL⟩ : ∃ L, L = (regR (n : Int) l (cn : Int) (mn : Int)).1 := ⟨_, rfl⟩
      rw [← hL] at hok1 o31 hrl ⊢
      obtain ⟨hN1, hN2, hlen, hgood⟩ := gcheck_zero hg
      obtain ⟨hrl1, hrng⟩ := nbrs_rngG hg
      have hoR : ordR (n : Int) l = ((ordGo n (fun v : Nat => nbrs (v : Int) l) n).1, 0) := by unfold ordR; rw [if_neg (by rw [hg]; simp), Int.toNat_natCast]
      have hOk := ord_ok hrng n (Nat.le_refl _)
      have hOl := hOk.full
      have hvne : (verts (marksL n L)).length ≠ 0 := by
        obtain ⟨h00, e00⟩ := reg_head hg hok1
        exact verts_ne (v := cn) (by rw [marksL_len]; exact hok1.c) (by rw [marksL_keep (by rw [marksL_len]; exact hok1.c), decide_eq_true_eq, ← e00]; exact List.getElem_mem h00)
      refine f_skip ?_
      refine f_tn (kh8 _ _ ?_)
      clear kh8
      refine f_seq fun K11 kh11 => ?_
      refine f_region ?_
      refine f_stepP rfl rfl rfl (o_field fa24_0 rfl) ?_
      refine f_stepP rfl rfl rfl (o_load Try.isAgg3 rfl (rdA rfl)) ?_
      refine f_step rfl rfl rfl (o_make el37 rfl rfl n rfl (by omega) (by omega) (boolsG (marksL n [])) (by rw [marksL_nil]; exact reps_bool n false) fun b47 => ?_)
      refine f_stepP rfl rfl rfl (o_assign rfl) ?_
      refine f_done ?_
      refine f_tn (kh11 _ _ ?_)
      clear kh11
      refine f_seq fun K12 kh12 => ?_
      refine f_seq fun K13 kh13 => ?_
      refine f_region ?_
      refine f_stepP rfl rfl rfl (o_move rfl) ?_
      refine f_stepP rfl rfl rfl (o_len sl28 rfl) ?_
      refine f_stepP rfl rfl rfl (o_move rfl) ?_
      refine f_done ?_
      refine f_tn (kh13 _ _ ?_)
      clear kh13
      refine f_block ?_
      refine f_loop (α := Nat) [1, 3, 9, 48, 49] (fun k => [(50, .int .i64 (k : Int))]) (fun k => [m31, [(b47, blk (boolsG (marksL n (L.take k))) 4)], [(b3, blk [.int .i64 (n : Int), .slice A l.length cap] 24)]]) (fun k => k ≤ L.length) (fun k => L.length - k) (0) ?_ ?_ ?_ ?_
      · exact (by repeat (first | exact trivial | refine ⟨rfl, ?_⟩))
      · repeat (first | exact Sub.nil | refine Sub.pick ?_ | refine Sub.castO rfl ?_ | refine Sub.skip ?_)
      · exact Nat.zero_le _
      · rintro k hkl
        refine f_seq fun K14 kh14 => ?_
        refine f_region ?_
        refine f_stepP rfl rfl rfl (o_lss rfl rfl) ?_
        refine f_done ?_
        refine f_tn (kh14 _ _ ?_)
        clear kh14
        refine f_seq fun K15 kh15 => ?_
        refine f_cond rfl (fun c51 => ?_) (fun c51 => ?_)
        · skip
          have hk : k < L.length := by omega
          obtain ⟨bl, sl, rfl, rfl⟩ := o31.at_ (by omega)
          obtain ⟨v, hv, hvn⟩ : ∃ v : Nat, L[k] = (v : Int) ∧ v < n := ⟨L[k].toNat, by have := hok1.rng _ (List.getElem_mem hk); omega, by have := hok1.rng _ (List.getElem_mem hk); omega⟩
          refine f_skip ?_
          refine f_tn (kh15 _ _ ?_)
          clear kh15
          refine f_seq fun K16 kh16 => ?_
          refine f_block ?_
          refine f_seq fun K17 kh17 => ?_
          refine f_region ?_
          refine f_stepP rfl rfl rfl (o_idx sl28 rfl rfl (k) ⟨by omega, by omega, by first | omega | (simp; done) | (simp; omega)⟩) ?_
          refine f_stepP rfl rfl rfl (o_load Try.isAgg3 rfl (rdA (v := .int .i64 (v : Int)) (app_get (by rw [ints_get hk, hv])))) ?_
          refine f_stepP rfl rfl rfl (o_assign rfl) ?_
          refine f_done ?_
          refine f_tn (kh17 _ _ ?_)
          clear kh17
          refine f_region ?_
          refine f_stepP rfl rfl rfl (o_move rfl) ?_
          refine f_stepP rfl rfl rfl (o_move rfl) ?_
          refine f_stepP rfl rfl rfl (o_idx sl37 rfl rfl (v) ⟨by omega, by omega, by first | omega | (simp; done) | (simp; omega)⟩) ?_
          refine f_step0 rfl rfl (o_store Try.sizeOf4 rfl rfl rfl rfl (by simp [boolsG, marksL_len]; omega) (boolsG (marksL n (L.take (k + 1)))) (by rw [boolsG_set, marksL_next hk hv]) ?_)
          refine f_done ?_
          refine f_bn ?_
          refine f_tn (kh16 _ _ ?_)
          clear kh16
          refine f_region ?_
          refine f_stepP rfl rfl rfl (o_add rfl rfl _ (wrap_i64 (by omega))) ?_
          refine f_stepP rfl rfl rfl (o_move rfl) ?_
          refine f_done ?_
          refine f_tn (f_again (k + 1) (by first | omega | (dsimp only; omega) | (simp; omega)) (by omega) ?_ ?_ ?_)
          · exact (by repeat (first | exact trivial | refine ⟨rfl, ?_⟩))
          · exact (by repeat (first | exact trivial | refine ⟨rfl, ?_⟩))
          · repeat (first | exact Sub.nil | refine Sub.pick ?_ | refine Sub.castO rfl ?_ | refine Sub.skip ?_)
        · skip
          obtain rfl : k = L.length := by omega
          rw [List.take_length]
          refine f_exit ?_
          refine f_te ?_
          clear kh15
          refine f_te ?_
          refine f_be ?_
          refine f_tn (kh12 _ _ ?_)
          clear kh12
          refine f_seq fun K18 kh18 => ?_
          refine f_region ?_
          refine f_stepP rfl rfl rfl (o_loadA (vs := [_, _]) Try.isAgg24 Try.sizeOf24 rfl rfl ⟨(rdA rfl), (rdA rfl), trivial⟩) ?_
          refine f_stepP rfl rfl rfl (o_move rfl) ?_
          refine f_step rfl rfl rfl (o_call Try.call19 rfl (fun w_ hp_ => (by have h := Induced_spec (n : Int) A l cap (some ⟨b47, 0, none⟩) (marksL n L) n w_ (hr.up0 hp_) (roOwn (b := b47) hp_ (cs := (marksL n L).map .bool) (fun j v hj => hj)) hl hN hok; rw [marksL_len] at h; exact h)) ?_)
          rintro v61 m61 hI
          unfold InducedΦ at hI
          rw [if_neg (by rw [hg]; simp), if_neg (by rw [marksL_len]; simp), if_neg hvne] at hI
          obtain ⟨sa, sv, sl, ma, mv, ml, rfl, rfl, hoa, hov, hosl⟩ := hI
          obtain ⟨Aa, capa, rfl, hca⟩ := hoa.val
          have hvl := verts_le (marksL n L)
          rw [marksL_len] at hvl
          have hsl := sub_len (marksL n L) l
          dsimp only [List.cons_append, List.nil_append]
          refine f_stepP rfl rfl rfl (o_move rfl) ?_
          refine f_stepP rfl rfl rfl (o_extract rfl rfl) ?_
          refine f_stepP rfl rfl rfl (o_extract rfl rfl) ?_
          refine f_stepP rfl rfl rfl (o_extract rfl rfl) ?_
          refine f_stepP rfl rfl rfl (o_extract rfl rfl) ?_
          refine f_step rfl rfl rfl (o_alloc Try.zeroValue24 rfl fun b12 => ?_)
          refine f_step0 rfl rfl (o_storeA Try.sizeOf24 rfl rfl rfl rfl (by first | exact Nat.le_of_ble_eq_true rfl | (simp; done) | (simp; omega)) [.int .i64 ((verts (marksL n L)).length : Int), .slice Aa (subArcs (marksL n L) l).length capa] rfl ?_)
          refine f_stepP rfl rfl rfl (o_assign rfl) ?_
          refine f_stepP rfl rfl rfl (o_assign rfl) ?_
          refine f_stepP rfl rfl rfl (o_assign rfl) ?_
          refine f_done ?_
          refine f_tn (kh18 _ _ ?_)
          clear kh18
          refine f_seq fun K19 kh19 => ?_
          refine f_region ?_
          refine f_stepP rfl rfl rfl (o_loadA (vs := [_, _]) Try.isAgg24 Try.sizeOf24 rfl rfl ⟨(rdA rfl), (rdA rfl), trivial⟩) ?_
          refine f_step rfl rfl rfl (o_call Try.call20 rfl (fun w_ hp_ => Parts_spec (verts (marksL n L)).length Aa (subArcs (marksL n L) l) capa w_ (seen_ro (hoa.seen hp_)) (by omega) ⟨by omega, by omega⟩ (sub_ok (by rw [marksL_len]; omega) hok)) ?_)
          rintro v68 m68 hQ
          rw [if_pos (by rw [sub_good (by rw [marksL_len]; omega) hlen hvne])] at hQ
          obtain ⟨q, bq, rfl, rfl, hq⟩ := hQ
          rw [Int.toNat_natCast] at hq ⊢
          have hql := hq.len
          have hone := reg_parts hg hok1 hq
          dsimp only [List.cons_append, List.nil_append]
          refine f_stepP rfl rfl rfl (o_move rfl) ?_
          refine f_stepP rfl rfl rfl (o_extract rfl rfl) ?_
          refine f_stepP rfl rfl rfl (o_extract rfl rfl) ?_
          refine f_stepP rfl rfl rfl (o_assign rfl) ?_
          refine f_stepP rfl rfl rfl (o_assign rfl) ?_
          refine f_done ?_
          refine f_tn (kh19 _ _ ?_)
          clear kh19
          refine f_seq fun K20 kh20 => ?_
          refine f_seq fun K21 kh21 => ?_
          refine f_region ?_
          refine f_stepP rfl rfl rfl (o_move rfl) ?_
          refine f_stepP rfl rfl rfl (o_neq rfl rfl) ?_
          refine f_stepP rfl rfl rfl (o_move rfl) ?_
          refine f_falseL 73 rfl (by simp) ?_
          refine f_stepPY rfl rfl rfl rfl rfl (o_move rfl) ?_
          refine f_stepPY rfl rfl rfl rfl rfl (o_neq rfl rfl) ?_
          refine f_stepP rfl rfl rfl (o_pickF rfl rfl) ?_
          refine f_done ?_
          refine f_tn (kh21 _ _ ?_)
          clear kh21
          refine f_condN rfl (by simp) ?_
          refine f_skip ?_
          refine f_tn (kh20 _ _ ?_)
          clear kh20
          refine f_seq fun K22 kh22 => ?_
          refine f_seq fun K23 kh23 => ?_
          refine f_region ?_
          refine f_stepP rfl rfl rfl (o_move rfl) ?_
          refine f_stepP rfl rfl rfl (o_len sl28 rfl) ?_
          refine f_stepP rfl rfl rfl (o_move rfl) ?_
          refine f_done ?_
          refine f_tn (kh23 _ _ ?_)
          clear kh23
          refine f_block ?_
          refine f_loop (α := Nat) [1, 3, 77, 78] (fun i => [(79, .int .i64 (i : Int))]) (fun i => [[(bq, blk (nats q) 3)], [(b3, blk [.int .i64 (n : Int), .slice A l.length cap] 24)]]) (fun i => i ≤ q.length) (fun i => q.length - i) (0) ?_ ?_ ?_ ?_
          · exact (by repeat (first | exact trivial | refine ⟨rfl, ?_⟩))
          · repeat (first | exact Sub.nil | refine Sub.pick ?_ | refine Sub.castO rfl ?_ | refine Sub.skip ?_)
          · exact Nat.zero_le _
          · rintro i hi
            refine f_envC (e := [(79, _), (1, _), (3, _), (77, _), (78, _)]) (by repeat (first | exact trivial | refine ⟨rfl, ?_⟩)) ?_
            refine f_seq fun K24 kh24 => ?_
            refine f_region ?_
            refine f_stepP rfl rfl rfl (o_lss rfl rfl) ?_
            refine f_done ?_
            refine f_tn (kh24 _ _ ?_)
            clear kh24
            refine f_seq fun K25 kh25 => ?_
            refine f_cond rfl (fun c80 => ?_) (fun c80 => ?_)
            · skip
              have hiq : i < q.length := by omega
              refine f_skip ?_
              refine f_tn (kh25 _ _ ?_)
              clear kh25
              refine f_seq fun K26 kh26 => ?_
              refine f_block ?_
              refine f_seq fun K27 kh27 => ?_
              refine f_region ?_
              refine f_stepP rfl rfl rfl (o_idx sl28 rfl rfl (i) ⟨by omega, by omega, by first | omega | (simp; done) | (simp; omega)⟩) ?_
              refine f_stepP rfl rfl rfl (o_load Try.isAgg3 rfl (rdA (nats_get hiq))) ?_
              refine f_stepP rfl rfl rfl (o_assign rfl) ?_
              refine f_done ?_
              refine f_tn (kh27 _ _ ?_)
              clear kh27
              refine f_seq fun K28 kh28 => ?_
              refine f_region ?_
              refine f_stepP rfl rfl rfl (o_move rfl) ?_
              refine f_stepP rfl rfl rfl (o_neq rfl rfl) ?_
              refine f_done ?_
              refine f_tn (kh28 _ _ ?_)
              clear kh28
              refine f_condN rfl (by have := hone i hiq; omega) ?_
              refine f_skip ?_
              refine f_bn ?_
              refine f_tn (kh26 _ _ ?_)
              clear kh26
              refine f_region ?_
              refine f_stepP rfl rfl rfl (o_add rfl rfl _ (wrap_i64 (by omega))) ?_
              refine f_stepP rfl rfl rfl (o_move rfl) ?_
              refine f_done ?_
              refine f_tn (f_again (i + 1) (by first | omega | (dsimp only; omega) | (simp; omega)) (by omega) ?_ ?_ ?_)
              · exact (by repeat (first | exact trivial | refine ⟨rfl, ?_⟩))
              · exact (by repeat (first | exact trivial | refine ⟨rfl, ?_⟩))
              · repeat (first | exact Sub.nil | refine Sub.pick ?_ | refine Sub.castO rfl ?_ | refine Sub.skip ?_)
            · skip
              refine f_exit ?_
              refine f_te ?_
              clear kh25
              refine f_te ?_
              refine f_be ?_
              refine f_tn (kh22 _ _ ?_)
              clear kh22
              refine f_seq fun K29 kh29 => ?_
              refine f_region ?_
              refine f_stepP rfl rfl rfl (o_loadA (vs := [_, _]) Try.isAgg24 Try.sizeOf24 rfl rfl ⟨(rdA rfl), (rdA rfl), trivial⟩) ?_
              refine f_stepP rfl rfl rfl (o_move rfl) ?_
              refine f_step rfl rfl rfl (o_call Try.call10 rfl (fun w_ hp_ => Region_spec (n : Int) A l cap (cn : Int) 1024 w_ (hr.up0 hp_) hl hN hok) ?_)
              rintro _ _ ⟨s89, m89, rfl, rfl, o89⟩
              rw [reg_all hg hok1.c] at o89 ⊢
              obtain ⟨A89, c89, rfl, _⟩ := o89.val
              have hFI := bfs_inv hrng (b := List.replicate n false) (by simp) hok1.c
              have hFo := hFI.out
              dsimp only [List.cons_append, List.nil_append]
              refine f_stepP rfl rfl rfl (o_move rfl) ?_
              refine f_stepP rfl rfl rfl (o_extract rfl rfl) ?_
              refine f_stepP rfl rfl rfl (o_extract rfl rfl) ?_
              refine f_stepP rfl rfl rfl (o_assign rfl) ?_
              refine f_stepP rfl rfl rfl (o_assign rfl) ?_
              refine f_done ?_
              refine f_tn (kh29 _ _ ?_)
              clear kh29
              refine f_seq fun K30 kh30 => ?_
              refine f_region ?_
              refine f_stepP rfl rfl rfl (o_loadA (vs := [_, _]) Try.isAgg24 Try.sizeOf24 rfl rfl ⟨(rdA rfl), (rdA rfl), trivial⟩) ?_
              refine f_stepP rfl rfl rfl (o_move rfl) ?_
              refine f_step rfl rfl rfl (o_call Try.call17 rfl (fun w_ hp_ => Ring_spec (n : Int) A l cap A89 (bfs n (fun v : Nat => nbrs (v : Int) l) cn (List.replicate n false)).1 c89 w_ (hr.up0 hp_) hl hN hok (seen_ro (o89.seen hp_)) (by omega)) ?_)
              rintro _ _ ⟨s95, m95, rfl, rfl, o95⟩
              rw [ring_reg hg hFI.rng hFI.nd, ring_none hg hok1.c] at o95 ⊢
              obtain ⟨A95, c95, rfl, _⟩ := o95.val
              dsimp only [List.cons_append, List.nil_append]
              refine f_stepP rfl rfl rfl (o_move rfl) ?_
              refine f_stepP rfl rfl rfl (o_extract rfl rfl) ?_
              refine f_stepP rfl rfl rfl (o_extract rfl rfl) ?_
              refine f_stepP rfl rfl rfl (o_assign rfl) ?_
              refine f_stepP rfl rfl rfl (o_assign rfl) ?_
              refine f_done ?_
              refine f_tn (kh30 _ _ ?_)
              clear kh30
              refine f_seq fun K31 kh31 => ?_
              refine f_region ?_
              refine f_stepP rfl rfl rfl (o_loadA (vs := [_, _]) Try.isAgg24 Try.sizeOf24 rfl rfl ⟨(rdA rfl), (rdA rfl), trivial⟩) ?_
              refine f_step rfl rfl rfl (o_call Try.call21 rfl (fun w_ hp_ => Order_spec (n : Int) A l cap w_ (hr.up0 hp_) hl hN hok) ?_)
              rintro _ _ ⟨s100, m100, rfl, rfl, o100⟩
              rw [hoR] at o100 ⊢
              obtain ⟨A100, c100, rfl, _⟩ := o100.val
              dsimp only [List.cons_append, List.nil_append]
              refine f_stepP rfl rfl rfl (o_move rfl) ?_
              refine f_stepP rfl rfl rfl (o_extract rfl rfl) ?_
              refine f_stepP rfl rfl rfl (o_extract rfl rfl) ?_
              refine f_stepP rfl rfl rfl (o_assign rfl) ?_
              refine f_stepP rfl rfl rfl (o_assign rfl) ?_
              refine f_done ?_
              refine f_tn (kh31 _ _ ?_)
              clear kh31
              refine f_seq fun K32 kh32 => ?_
              refine f_seq fun K33 kh33 => ?_
              refine f_region ?_
              refine f_stepP rfl rfl rfl (o_move rfl) ?_
              refine f_stepP rfl rfl rfl (o_neq rfl rfl) ?_
              refine f_stepP rfl rfl rfl (o_move rfl) ?_
              refine f_falseL 105 rfl (by simp) ?_
              refine f_stepPY rfl rfl rfl rfl rfl (o_move rfl) ?_
              refine f_stepPY rfl rfl rfl rfl rfl (o_neq rfl rfl) ?_
              refine f_stepP rfl rfl rfl (o_pickF rfl rfl) ?_
              refine f_stepP rfl rfl rfl (o_move rfl) ?_
              refine f_falseL 109 rfl (by simp) ?_
              refine f_stepPY rfl rfl rfl rfl rfl (o_move rfl) ?_
              refine f_stepPY rfl rfl rfl rfl rfl (o_neq rfl rfl) ?_
              refine f_stepP rfl rfl rfl (o_pickF rfl rfl) ?_
              refine f_stepP rfl rfl rfl (o_move rfl) ?_
              refine f_falseL 113 rfl (by simp) ?_
              refine f_stepPY rfl rfl rfl rfl rfl (o_move rfl) ?_
              refine f_stepPY rfl rfl rfl rfl rfl (o_len sl28 rfl) ?_
              refine f_stepPY rfl rfl rfl rfl rfl (o_gtr rfl rfl) ?_
              refine f_stepP rfl rfl rfl (o_pickF rfl rfl) ?_
              refine f_stepP rfl rfl rfl (o_move rfl) ?_
              refine f_falseL 118 rfl (by simp) ?_
              refine f_stepPY rfl rfl rfl rfl rfl (o_move rfl) ?_
              refine f_stepPY rfl rfl rfl rfl rfl (o_len sl28 rfl) ?_
              refine f_stepPY rfl rfl rfl rfl rfl (o_field fa24_0 rfl) ?_
              refine f_stepPY rfl rfl rfl rfl rfl (o_load Try.isAgg3 rfl (rdA rfl)) ?_
              refine f_stepPY rfl rfl rfl rfl rfl (o_neq rfl rfl) ?_
              refine f_stepP rfl rfl rfl (o_pickF rfl rfl) ?_
              refine f_done ?_
              refine f_tn (kh33 _ _ ?_)
              clear kh33
              refine f_condN rfl (by rw [hOl]; simp) ?_
              refine f_skip ?_
              refine f_tn (kh32 _ _ ?_)
              clear kh32
              refine f_seq fun K34 kh34 => ?_
              refine f_region ?_
              refine f_stepP rfl rfl rfl (o_field fa24_0 rfl) ?_
              refine f_stepP rfl rfl rfl (o_load Try.isAgg3 rfl (rdA rfl)) ?_
              refine f_step rfl rfl rfl (o_make el37 rfl rfl n rfl (by omega) (by omega) (boolsG (marksL n [])) (by rw [marksL_nil]; exact reps_bool n false) fun b127 => ?_)
              refine f_stepP rfl rfl rfl (o_assign rfl) ?_
              refine f_done ?_
              refine f_tn (kh34 _ _ ?_)
              clear kh34
              refine f_seq fun K35 kh35 => ?_
              refine f_seq fun K36 kh36 => ?_
              refine f_region ?_
              refine f_stepP rfl rfl rfl (o_move rfl) ?_
              refine f_stepP rfl rfl rfl (o_len sl28 rfl) ?_
              refine f_stepP rfl rfl rfl (o_move rfl) ?_
              refine f_done ?_
              refine f_tn (kh36 _ _ ?_)
              clear kh36
              refine f_block ?_
              refine f_loop (α := Nat) [3, 26, 128, 129] (fun k => [(130, .int .i64 (k : Int))]) (fun k => [m100, [(b127, blk (boolsG (marksL n ((ordGo n (fun v : Nat => nbrs (v : Int) l) n).1.take k))) 4)], [(b3, blk [.int .i64 (n : Int), .slice A l.length cap] 24)]]) (fun k => k ≤ (ordGo n (fun v : Nat => nbrs (v : Int) l) n).1.length) (fun k => (ordGo n (fun v : Nat => nbrs (v : Int) l) n).1.length - k) (0) ?_ ?_ ?_ ?_
              · exact (by repeat (first | exact trivial | refine ⟨rfl, ?_⟩))
              · repeat (first | exact Sub.nil | refine Sub.pick ?_ | refine Sub.castO rfl ?_ | refine Sub.skip ?_)
              · exact Nat.zero_le _
              · rintro k hkl
                refine f_envC (e := [(130, _), (3, _), (26, _), (128, _), (129, _)]) (by repeat (first | exact trivial | refine ⟨rfl, ?_⟩)) ?_
                refine f_seq fun K37 kh37 => ?_
                refine f_region ?_
                refine f_stepP rfl rfl rfl (o_lss rfl rfl) ?_
                refine f_done ?_
                refine f_tn (kh37 _ _ ?_)
                clear kh37
                refine f_seq fun K38 kh38 => ?_
                refine f_cond rfl (fun c131 => ?_) (fun c131 => ?_)
                · skip
                  have hk : k < (ordGo n (fun v : Nat => nbrs (v : Int) l) n).1.length := by omega
                  obtain ⟨bl, sl, rfl, rfl⟩ := o100.at_ (show 0 < (ordGo n (fun v : Nat => nbrs (v : Int) l) n).1.length by omega)
                  obtain ⟨v, hv, hvn⟩ : ∃ v : Nat, (ordGo n (fun v : Nat => nbrs (v : Int) l) n).1[k] = (v : Int) ∧ v < n := ⟨((ordGo n (fun v : Nat => nbrs (v : Int) l) n).1[k]).toNat, by have := hOk.rng _ (List.getElem_mem hk); omega, by have := hOk.rng _ (List.getElem_mem hk); omega⟩
                  have hnd := not_take_of_nodup hk hOk.nd
                  rw [hv] at hnd
                  refine f_skip ?_
                  refine f_tn (kh38 _ _ ?_)
                  clear kh38
                  refine f_seq fun K39 kh39 => ?_
                  refine f_block ?_
                  refine f_seq fun K40 kh40 => ?_
                  refine f_region ?_
                  refine f_stepP rfl rfl rfl (o_idx sl28 rfl rfl (k) ⟨by omega, by omega, by first | omega | (simp; done) | (simp; omega)⟩) ?_
                  refine f_stepP rfl rfl rfl (o_load Try.isAgg3 rfl (rdA (v := .int .i64 (v : Int)) (app_get (by rw [ints_get hk, hv])))) ?_
                  refine f_stepP rfl rfl rfl (o_assign rfl) ?_
                  refine f_done ?_
                  refine f_tn (kh40 _ _ ?_)
                  clear kh40
                  refine f_seq fun K41 kh41 => ?_
                  refine f_seq fun K42 kh42 => ?_
                  refine f_region ?_
                  refine f_stepP rfl rfl rfl (o_move rfl) ?_
                  refine f_stepP rfl rfl rfl (o_lss rfl rfl) ?_
                  refine f_stepP rfl rfl rfl (o_move rfl) ?_
                  refine f_falseL 136 rfl (by omega) ?_
                  refine f_stepPY rfl rfl rfl rfl rfl (o_move rfl) ?_
                  refine f_stepPY rfl rfl rfl rfl rfl (o_field fa24_0 rfl) ?_
                  refine f_stepPY rfl rfl rfl rfl rfl (o_load Try.isAgg3 rfl (rdA rfl)) ?_
                  refine f_stepPY rfl rfl rfl rfl rfl (o_geq rfl rfl) ?_
                  refine f_stepP rfl rfl rfl (o_pickF rfl rfl) ?_
                  refine f_stepP rfl rfl rfl (o_move rfl) ?_
                  refine f_falseL 142 rfl (by omega) ?_
                  refine f_stepPY rfl rfl rfl rfl rfl (o_move rfl) ?_
                  refine f_stepPY rfl rfl rfl rfl rfl (o_move rfl) ?_
                  refine f_stepPY rfl rfl rfl rfl rfl (o_idx sl37 rfl rfl (v) ⟨by omega, by omega, by first | omega | (simp; done) | (simp; omega)⟩) ?_
                  refine f_stepPY rfl rfl rfl rfl rfl (o_load Try.isAgg4 rfl (rdA (v := .bool false) (by rw [boolsG_at (by rw [marksL_len]; omega), marksL_at hvn, decide_eq_false hnd]))) ?_
                  refine f_stepP rfl rfl rfl (o_pickF rfl rfl) ?_
                  refine f_done ?_
                  refine f_tn (kh42 _ _ ?_)
                  clear kh42
                  refine f_condF rfl ?_
                  refine f_skip ?_
                  refine f_tn (kh41 _ _ ?_)
                  clear kh41
                  refine f_region ?_
                  refine f_stepP rfl rfl rfl (o_move rfl) ?_
                  refine f_stepP rfl rfl rfl (o_move rfl) ?_
                  refine f_stepP rfl rfl rfl (o_idx sl37 rfl rfl (v) ⟨by omega, by omega, by first | omega | (simp; done) | (simp; omega)⟩) ?_
                  refine f_step0 rfl rfl (o_store Try.sizeOf4 rfl rfl rfl rfl (by simp [boolsG, marksL_len]; omega) (boolsG (marksL n ((ordGo n (fun v : Nat => nbrs (v : Int) l) n).1.take (k + 1)))) (by rw [boolsG_set, marksL_next hk hv]) ?_)
                  refine f_done ?_
                  refine f_bn ?_
                  refine f_tn (kh39 _ _ ?_)
                  clear kh39
                  refine f_region ?_
                  refine f_stepP rfl rfl rfl (o_add rfl rfl _ (wrap_i64 (by omega))) ?_
                  refine f_stepP rfl rfl rfl (o_move rfl) ?_
                  refine f_done ?_
                  refine f_tn (f_again (k + 1) (by first | omega | (dsimp only; omega) | (simp; omega)) (by omega) ?_ ?_ ?_)
                  · exact (by repeat (first | exact trivial | refine ⟨rfl, ?_⟩))
                  · exact (by repeat (first | exact trivial | refine ⟨rfl, ?_⟩))
                  · repeat (first | exact Sub.nil | refine Sub.pick ?_ | refine Sub.castO rfl ?_ | refine Sub.skip ?_)
                · skip
                  refine f_exit ?_
                  refine f_te ?_
                  clear kh38
                  refine f_te ?_
                  refine f_be ?_
                  refine f_tn (kh35 _ _ ?_)
                  clear kh35
                  refine f_seq fun K43 kh43 => ?_
                  refine f_region ?_
                  refine f_stepP rfl rfl rfl (o_assign rfl) ?_
                  refine f_done ?_
                  refine f_tn (kh43 _ _ ?_)
                  clear kh43
                  refine f_ret ?_
                  exact f_fin1 [] Try.results5 rfl Sub.nil ⟨rfl, rfl⟩

end Go.Proofs.Ytlllpmafhnfihaa
