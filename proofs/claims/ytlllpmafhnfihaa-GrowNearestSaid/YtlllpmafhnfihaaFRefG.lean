/- The document's regions: Around, Region, Core. -/
import Derived.Test.YtlllpmafhnfihaaFRing
import Derived.Test.YtlllpmafhnfihaaFRef3
namespace Go.Proofs.Ytlllpmafhnfihaa
open Go Go.RowKit Fly
set_option linter.unusedVariables false
set_option linter.unusedSimpArgs false


theorem rreg_is {N : Int} {l : List Arc} {c most : Int} {n : Nat} (hN : N = (n : Int)) {cn : Nat} (hc : c = (cn : Int)) (h0 : (gcheck N l).2 = 0) (h1 : ¬ (c < 0 ∨ N ≤ c)) (h2 : ¬ (most < 1 ∨ 1024 < most)) :
    regR N l c most = ((bfs n (fun v : Nat => nbrs (v : Int) l) cn (List.replicate n false)).1.take most.toNat, 0) := by
  subst hN; subst hc
  unfold regR; rw [if_neg (by rw [h0]; simp), if_neg h1, if_neg h2, Int.toNat_natCast, Int.toNat_natCast]

set_option maxRecDepth 100000 in
set_option maxHeartbeats 4000000 in
theorem RAround_spec (n : Nat) (A : Option Addr) (l : List Arc) (cap cn : Nat) (w : World) (hr : Ro (Fr w []) w A (l.flatMap arcCs)) (hg : (gcheck (n : Int) l).2 = 0) (hc : cn < n) :
    Meets Try.prog 27 [.agg #[.int .i64 (n : Int), .slice A l.length cap], .int .i64 (cn : Int)] w [] (fun u own' => ∃ m, own' = [m] ∧ Own 3 1 u (bfs n (fun v : Nat => nbrs (v : Int) l) cn (List.replicate n false)).1.length (ints (bfs n (fun v : Nat => nbrs (v : Int) l) cn (List.replicate n false)).1) m) := by
  obtain ⟨hg1, hg2, hgl, hgd⟩ := gcheck_zero hg
  have hn : n ≤ 1024 := by omega
  obtain ⟨hrl, hrng⟩ := nbrs_rngG hg
  have hI0 : BInv n (bstart cn (List.replicate n false)) := BInv.start (by simp) hc
  refine f_enter Try.func27 rfl Try.ntmps27 rfl Owns.nil ?_
  refine f_seq fun K1 kh1 => ?_
  refine f_region ?_
  refine f_step rfl rfl rfl (o_box rfl rfl fun b2 => ?_)
  refine f_stepP rfl rfl rfl (o_assign rfl) ?_
  refine f_done ?_
  refine f_tn (kh1 _ _ ?_)
  clear kh1
  refine f_seq fun K2 kh2 => ?_
  refine f_region ?_
  refine f_stepP rfl rfl rfl (o_field fa24_0 rfl) ?_
  refine f_stepP rfl rfl rfl (o_load Try.isAgg3 rfl (rdA rfl)) ?_
  refine f_step rfl rfl rfl (o_make el37 rfl rfl n rfl (by omega) (by omega) (boolsG (List.replicate n false)) (reps_bool n false) fun b12 => ?_)
  refine f_stepP rfl rfl rfl (o_assign rfl) ?_
  refine f_done ?_
  refine f_tn (kh2 _ _ ?_)
  clear kh2
  refine f_seq fun K3 kh3 => ?_
  refine f_region ?_
  refine f_stepP rfl rfl rfl (o_move rfl) ?_
  refine f_stepP rfl rfl rfl (o_move rfl) ?_
  refine f_stepP rfl rfl rfl (o_idx sl37 rfl rfl (cn) ⟨by omega, by omega, by first | omega | (simp; done) | (simp; omega)⟩) ?_
  refine f_step0 rfl rfl (o_store Try.sizeOf4 rfl rfl rfl rfl (by simp [boolsG]; omega) (boolsG ((List.replicate n false).set cn true)) (boolsG_set ..) ?_)
  refine f_done ?_
  refine f_tn (kh3 _ _ ?_)
  clear kh3
  refine f_seq fun K4 kh4 => ?_
  refine f_region ?_
  refine f_stepP rfl rfl rfl (o_move rfl) ?_
  refine f_step rfl rfl rfl (o_slice1 el28 (by omega) rfl rfl rfl fun b17 => ?_)
  refine f_stepP rfl rfl rfl (o_assign rfl) ?_
  refine f_done ?_
  refine f_tn (kh4 _ _ ?_)
  clear kh4
  refine f_seq fun K5 kh5 => ?_
  refine f_seq fun K6 kh6 => ?_
  refine f_region ?_
  refine f_stepP rfl rfl rfl (o_assign rfl) ?_
  refine f_done ?_
  refine f_tn (kh6 _ _ ?_)
  clear kh6
  refine f_block ?_
  refine f_loop (α := Nat × Value × Seg) [2, 5] (fun ⟨k, ov, om⟩ => [(7, .int .i64 (k : Int)), (6, ov)]) (fun ⟨k, ov, om⟩ => [om, [(b12, blk (boolsG (bgo (fun v : Nat => nbrs (v : Int) l) (bstart cn (List.replicate n false)) k).2) 4)], [(b2, blk [.int .i64 (n : Int), .slice A l.length cap] 24)]]) (fun ⟨k, ov, om⟩ => k ≤ (bgo (fun v : Nat => nbrs (v : Int) l) (bstart cn (List.replicate n false)) k).1.length ∧ Own 3 1 ov (bgo (fun v : Nat => nbrs (v : Int) l) (bstart cn (List.replicate n false)) k).1.length (ints (bgo (fun v : Nat => nbrs (v : Int) l) (bstart cn (List.replicate n false)) k).1) om) (fun ⟨k, ov, om⟩ => n - k) (0, .slice (some ⟨b17, 0, none⟩) 1 1, [(b17, blk [.int .i64 (cn : Int)] 3)]) ?_ ?_ ?_ ?_
  · exact (by repeat (first | exact trivial | refine ⟨rfl, ?_⟩))
  · repeat (first | exact Sub.nil | refine Sub.pick ?_ | refine Sub.castO rfl ?_ | refine Sub.skip ?_)
  · exact ⟨Nat.zero_le _, Own.mk rfl (by omega)⟩
  · rintro ⟨k, ov, om⟩ ⟨hkl, hO⟩
    have hI := BInv.go hrng hI0 k
    have hIo := hI.out
    obtain ⟨st, hst⟩ : ∃ st, st = bgo (fun v : Nat => nbrs (v : Int) l) (bstart cn (List.replicate n false)) k := ⟨_, rfl⟩
    dsimp only
    rw [← hst] at hkl hO hI hIo ⊢
    obtain ⟨Ao, co, rfl, hco⟩ := hO.val
    refine f_seq fun K7 kh7 => ?_
    refine f_seq fun K8 kh8 => ?_
    refine f_region ?_
    refine f_stepP rfl rfl rfl (o_move rfl) ?_
    refine f_stepP rfl rfl rfl (o_move rfl) ?_
    refine f_stepP rfl rfl rfl (o_len sl28 rfl) ?_
    refine f_stepP rfl rfl rfl (o_lss rfl rfl) ?_
    refine f_done ?_
    refine f_tn (kh8 _ _ ?_)
    clear kh8
    refine f_cond rfl (fun c21 => ?_) (fun c21 => ?_)
    · skip
      have hkl2 : k < st.1.length := by omega
      obtain ⟨bq, sq, rfl, rfl⟩ := hO.at_ (by omega)
      obtain ⟨vn, hv⟩ : ∃ vn : Nat, st.1[k] = (vn : Int) := ⟨st.1[k].toNat, by have := hI.rng _ (List.getElem_mem hkl2); omega⟩
      have hvn : vn < n := by have := hI.rng _ (List.getElem_mem hkl2); omega
      refine f_skip ?_
      refine f_tn (kh7 _ _ ?_)
      clear kh7
      refine f_seq fun K9 kh9 => ?_
      refine f_block ?_
      refine f_seq fun K10 kh10 => ?_
      refine f_regionH [[(bq, blk (ints st.1 ++ sq) 3)], [(b2, blk [.int .i64 (n : Int), .slice A l.length cap] 24)]] rfl ?_
      refine f_take 0 rfl (by decide +kernel) rfl rfl rfl (by repeat (first | exact Sub.nil | refine Sub.pick ?_ | refine Sub.castO rfl ?_ | refine Sub.skip ?_)) (o_loadA (vs := [_, _]) Try.isAgg24 Try.sizeOf24 rfl rfl ⟨(rdA rfl), (rdA rfl), trivial⟩) ?_
      refine f_take 1 rfl (by decide +kernel) rfl rfl rfl (by repeat (first | exact Sub.nil | refine Sub.pick ?_ | refine Sub.castO rfl ?_ | refine Sub.skip ?_)) (o_move rfl) ?_
      refine f_take 2 rfl (by decide +kernel) rfl rfl rfl (by repeat (first | exact Sub.nil | refine Sub.pick ?_ | refine Sub.castO rfl ?_ | refine Sub.skip ?_)) (o_move rfl) ?_
      refine f_take 3 rfl (by decide +kernel) rfl rfl rfl (by repeat (first | exact Sub.nil | refine Sub.pick ?_ | refine Sub.castO rfl ?_ | refine Sub.skip ?_)) (o_idx sl28 rfl rfl (k) ⟨by omega, by omega, by first | omega | (simp; done) | (simp; omega)⟩) ?_
      refine f_take 4 rfl (by decide +kernel) rfl rfl rfl (by repeat (first | exact Sub.nil | refine Sub.pick ?_ | refine Sub.castO rfl ?_ | refine Sub.skip ?_)) (o_load Try.isAgg3 rfl (rdA (v := .int .i64 (vn : Int)) (app_get (by rw [ints_get hkl2, hv])))) ?_
      refine f_only 5 rfl (by decide +kernel) rfl rfl rfl (o_call Try.call44 rfl (fun w_ hp_ => RNear_spec n A l cap vn w_ (hr.up0 hp_) hgl hn hvn hgd) ?_)
      rintro _ _ ⟨bN, sd, rfl, rfl, hsl, hsu⟩
      dsimp only [List.cons_append, List.nil_append]
      refine ⟨(by repeat (first | exact Sub.nil | refine Sub.pick ?_ | refine Sub.castO rfl ?_ | refine Sub.skip ?_)), ?_⟩
      refine f_only 6 rfl (by decide +kernel) rfl rfl rfl (o_call Try.call43 rfl (fun w_ hp_ => (by have h := RAll_spec (some ⟨bN, 0, none⟩) sd n w_ (roOwn (b := bN) hp_ (fun j v hj => hj)) (by omega); rw [hsl, ← nbrs_trues hvn hgd hsl hsu] at h; exact h)) ?_)
      rintro s _ ⟨mr, rfl, hOr⟩
      obtain ⟨Ar, cr, rfl, hcr⟩ := hOr.val
      have hrll := hrl vn
      dsimp only [List.cons_append, List.nil_append]
      refine ⟨(by repeat (first | exact Sub.nil | refine Sub.pick ?_ | refine Sub.castO rfl ?_ | refine Sub.skip ?_)), ?_⟩
      refine f_only 7 rfl (by decide +kernel) rfl rfl rfl ((o_assign rfl).does ⟨(by repeat (first | exact Sub.nil | refine Sub.pick ?_ | refine Sub.castO rfl ?_ | refine Sub.skip ?_)), ?_⟩)
      refine f_over (by decide +kernel) ?_
      refine f_tn (kh10 _ _ ?_)
      clear kh10
      refine f_seq fun K11 kh11 => ?_
      refine f_region ?_
      refine f_stepP rfl rfl rfl (o_assign rfl) ?_
      refine f_done ?_
      refine f_tn (kh11 _ _ ?_)
      clear kh11
      refine f_block ?_
      refine f_loop (α := Nat × BSt × Value × Seg) [2, 5, 7, 8] (fun ⟨j, s2, ov2, om2⟩ => [(9, .int .i64 (j : Int)), (6, ov2)]) (fun ⟨j, s2, ov2, om2⟩ => [om2, [(b12, blk (boolsG s2.2) 4)], mr, [(b2, blk [.int .i64 (n : Int), .slice A l.length cap] 24)]]) (fun ⟨j, s2, ov2, om2⟩ => j ≤ (nbrs (vn : Int) l).length ∧ s2 = bpush ((nbrs (vn : Int) l).take j) st ∧ BInv n s2 ∧ st.1.length ≤ s2.1.length ∧ Own 3 1 ov2 s2.1.length (ints s2.1) om2) (fun ⟨j, s2, ov2, om2⟩ => (nbrs (vn : Int) l).length - j) (0, st, .slice (some ⟨bq, 0, none⟩) st.1.length co, [(bq, blk (ints st.1 ++ sq) 3)]) ?_ ?_ ?_ ?_
      · exact (by repeat (first | exact trivial | refine ⟨rfl, ?_⟩))
      · repeat (first | exact Sub.nil | refine Sub.pick ?_ | refine Sub.castO rfl ?_ | refine Sub.skip ?_)
      · exact ⟨Nat.zero_le _, rfl, hI, Nat.le_refl _, hO⟩
      · rintro ⟨j, s2, ov2, om2⟩ ⟨hjl, hs2, hI2, hl2, hO2⟩
        have hIo2 := hI2.out
        refine f_envC (e := [(9, _), (6, _), (2, _), (5, _), (7, _), (8, _)]) (by repeat (first | exact trivial | refine ⟨rfl, ?_⟩)) ?_
        refine f_seq fun K12 kh12 => ?_
        refine f_seq fun K13 kh13 => ?_
        refine f_region ?_
        refine f_stepP rfl rfl rfl (o_move rfl) ?_
        refine f_stepP rfl rfl rfl (o_move rfl) ?_
        refine f_stepP rfl rfl rfl (o_len sl28 rfl) ?_
        refine f_stepP rfl rfl rfl (o_lss rfl rfl) ?_
        refine f_done ?_
        refine f_tn (kh13 _ _ ?_)
        clear kh13
        refine f_cond rfl (fun c34 => ?_) (fun c34 => ?_)
        · skip
          have hj : j < (nbrs (vn : Int) l).length := by omega
          obtain ⟨br, spr, rfl, rfl⟩ := hOr.at_ (by omega)
          have hur := hrng vn hvn _ (List.getElem_mem hj)
          obtain ⟨un, hue⟩ : ∃ un : Nat, (nbrs (vn : Int) l)[j] = (un : Int) := ⟨((nbrs (vn : Int) l)[j]).toNat, by omega⟩
          refine f_skip ?_
          refine f_tn (kh12 _ _ ?_)
          clear kh12
          refine f_seq fun K14 kh14 => ?_
          refine f_block ?_
          refine f_seq fun K15 kh15 => ?_
          refine f_region ?_
          refine f_stepP rfl rfl rfl (o_move rfl) ?_
          refine f_stepP rfl rfl rfl (o_move rfl) ?_
          refine f_stepP rfl rfl rfl (o_move rfl) ?_
          refine f_stepP rfl rfl rfl (o_idx sl28 rfl rfl (j) ⟨by omega, by omega, by first | omega | (simp; done) | (simp; omega)⟩) ?_
          refine f_stepP rfl rfl rfl (o_load Try.isAgg3 rfl (rdA (v := .int .i64 ((un : Nat) : Int)) (app_get (by rw [ints_get hj, hue])))) ?_
          refine f_stepP rfl rfl rfl (o_idx sl37 rfl rfl (un) ⟨by omega, by omega, by first | omega | (simp; done) | (simp; omega)⟩) ?_
          refine f_stepP rfl rfl rfl (o_load Try.isAgg4 rfl (rdA (boolsG_at (by rw [hI2.len]; omega)))) ?_
          refine f_stepP rfl rfl rfl (o_not rfl) ?_
          refine f_done ?_
          refine f_tn (kh15 _ _ ?_)
          clear kh15
          refine f_condB rfl (fun c44 => ?_) (fun c44 => ?_)
          · skip
            have hbu : s2.2.getD un false = false := by simpa using c44
            have hpn : (s2.1 ++ [((un : Nat) : Int)], s2.2.set un true) = bpush ((nbrs (vn : Int) l).take (j + 1)) st := by rw [bpush_next hj, ← hs2, bpush1, hue, Int.toNat_natCast, if_neg (by rw [hbu]; simp)]
            refine f_seq fun K16 kh16 => ?_
            refine f_region ?_
            refine f_stepP rfl rfl rfl (o_move rfl) ?_
            refine f_stepP rfl rfl rfl (o_move rfl) ?_
            refine f_stepP rfl rfl rfl (o_move rfl) ?_
            refine f_stepP rfl rfl rfl (o_idx sl28 rfl rfl (j) ⟨by omega, by omega, by first | omega | (simp; done) | (simp; omega)⟩) ?_
            refine f_stepP rfl rfl rfl (o_load Try.isAgg3 rfl (rdA (v := .int .i64 ((un : Nat) : Int)) (app_get (by rw [ints_get hj, hue])))) ?_
            refine f_stepP rfl rfl rfl (o_idx sl37 rfl rfl (un) ⟨by omega, by omega, by first | omega | (simp; done) | (simp; omega)⟩) ?_
            refine f_step0 rfl rfl (o_store Try.sizeOf4 rfl rfl rfl rfl (by have := hI2.len; simp [boolsG]; omega) (boolsG (s2.2.set un true)) (boolsG_set ..) ?_)
            refine f_done ?_
            refine f_tn (kh16 _ _ ?_)
            clear kh16
            refine f_region ?_
            refine f_stepP rfl rfl rfl (o_move rfl) ?_
            refine f_stepP rfl rfl rfl (o_move rfl) ?_
            refine f_stepP rfl rfl rfl (o_move rfl) ?_
            refine f_stepP rfl rfl rfl (o_idx sl28 rfl rfl (j) ⟨by omega, by omega, by first | omega | (simp; done) | (simp; omega)⟩) ?_
            refine f_stepP rfl rfl rfl (o_load Try.isAgg3 rfl (rdA (v := .int .i64 ((un : Nat) : Int)) (app_get (by rw [ints_get hj, hue])))) ?_
            refine f_step rfl rfl rfl (o_slice1 el28 (by omega) rfl rfl rfl fun b56 => ?_)
            refine f_step rfl rfl rfl (o_append el28 rfl rfl hO2 (ys := [.int .i64 ((un : Nat) : Int)]) ⟨(rdA rfl), trivial⟩ rfl rfl (by omega) (by omega) fun v57 m57 o57 => ?_)
            refine f_stepP rfl rfl rfl (o_assign rfl) ?_
            refine f_done ?_
            refine f_bn ?_
            refine f_tn (kh14 _ _ ?_)
            clear kh14
            refine f_region ?_
            refine f_stepP rfl rfl rfl (o_move rfl) ?_
            refine f_stepP rfl rfl rfl (o_add rfl rfl _ (wrap_i64 (by omega))) ?_
            refine f_stepP rfl rfl rfl (o_assign rfl) ?_
            refine f_done ?_
            refine f_tn (f_again (j + 1, (s2.1 ++ [((un : Nat) : Int)], s2.2.set un true), v57, m57) (by first | omega | (dsimp only; omega) | (simp; omega)) ⟨by omega, hpn, by rw [hpn, bpush_next hj, ← hs2]; exact hI2.push1 hur, by simp; omega, by rw [List.length_append, ints_append]; exact o57⟩ ?_ ?_ ?_)
            · exact (by repeat (first | exact trivial | refine ⟨rfl, ?_⟩))
            · exact (by repeat (first | exact trivial | refine ⟨rfl, ?_⟩))
            · repeat (first | exact Sub.nil | refine Sub.pick ?_ | refine Sub.castO rfl ?_ | refine Sub.skip ?_)
          · skip
            have hbu : s2.2.getD un false = true := by simpa using c44
            refine f_skip ?_
            refine f_bn ?_
            refine f_tn (kh14 _ _ ?_)
            clear kh14
            refine f_region ?_
            refine f_stepP rfl rfl rfl (o_move rfl) ?_
            refine f_stepP rfl rfl rfl (o_add rfl rfl _ (wrap_i64 (by omega))) ?_
            refine f_stepP rfl rfl rfl (o_assign rfl) ?_
            refine f_done ?_
            refine f_tn (f_again (j + 1, s2, ov2, om2) (by first | omega | (dsimp only; omega) | (simp; omega)) ⟨by omega, by rw [bpush_next hj, ← hs2, bpush1, if_pos (by rw [hue] at *; simpa using hbu)], hI2, hl2, hO2⟩ ?_ ?_ ?_)
            · exact (by repeat (first | exact trivial | refine ⟨rfl, ?_⟩))
            · exact (by repeat (first | exact trivial | refine ⟨rfl, ?_⟩))
            · repeat (first | exact Sub.nil | refine Sub.pick ?_ | refine Sub.castO rfl ?_ | refine Sub.skip ?_)
        · skip
          have hst2 : s2 = bgo (fun v : Nat => nbrs (v : Int) l) (bstart cn (List.replicate n false)) (k + 1) := by
            rw [hs2, List.take_of_length_le (by omega)]
            show _ = bstep _ k (bgo (fun v : Nat => nbrs (v : Int) l) (bstart cn (List.replicate n false)) k)
            rw [← hst, bstep_at hkl2, hv, Int.toNat_natCast]
          refine f_exit ?_
          refine f_te ?_
          clear kh12
          refine f_te ?_
          refine f_be ?_
          refine f_bn ?_
          refine f_tn (kh9 _ _ ?_)
          clear kh9
          refine f_region ?_
          refine f_stepP rfl rfl rfl (o_move rfl) ?_
          refine f_stepP rfl rfl rfl (o_add rfl rfl _ (wrap_i64 (by omega))) ?_
          refine f_stepP rfl rfl rfl (o_assign rfl) ?_
          refine f_done ?_
          have hnx : bgo (fun v : Nat => nbrs (v : Int) l) (bstart cn (List.replicate n false)) (k + 1) = s2 := hst2.symm
          rw [← hnx]
          refine f_tn (f_again (k + 1, ov2, om2) (by first | omega | (dsimp only; omega) | (simp; omega)) ⟨by rw [hnx]; omega, by rw [hnx]; exact hO2⟩ ?_ ?_ ?_)
          · exact (by repeat (first | exact trivial | refine ⟨rfl, ?_⟩))
          · exact (by repeat (first | exact trivial | refine ⟨rfl, ?_⟩))
          · repeat (first | exact Sub.nil | refine Sub.pick ?_ | refine Sub.castO rfl ?_ | refine Sub.skip ?_)
    · skip
      have hke : st.1.length ≤ k := by omega
      have hfin : (bfs n (fun v : Nat => nbrs (v : Int) l) cn (List.replicate n false)) = st := by rw [hst]; exact bgo_fin (by omega) (by rw [← hst]; exact hke)
      refine f_exit ?_
      refine f_te ?_
      clear kh7
      refine f_te ?_
      refine f_be ?_
      refine f_tn (kh5 _ _ ?_)
      clear kh5
      refine f_seq fun K17 kh17 => ?_
      refine f_region ?_
      refine f_stepP rfl rfl rfl (o_move rfl) ?_
      refine f_stepP rfl rfl rfl (o_assign rfl) ?_
      refine f_done ?_
      refine f_tn (kh17 _ _ ?_)
      clear kh17
      refine f_ret ?_
      exact f_fin1 [om] Try.results27 rfl (by repeat (first | exact Sub.nil | refine Sub.pick ?_ | refine Sub.castO rfl ?_ | refine Sub.skip ?_)) ⟨om, rfl, by rw [hfin]; exact hO⟩

set_option maxRecDepth 100000 in
set_option maxHeartbeats 4000000 in
theorem RRegion_spec (N : Int) (A : Option Addr) (l : List Arc) (cap : Nat) (c most : Int) (w : World) (hr : Ro (Fr w []) w A (l.flatMap arcCs)) (hl : l.length ≤ 9223372036854775807) (hN : I64 N) (hok : ∀ x ∈ l, ArcOk x) :
    Meets Try.prog 11 [.agg #[.int .i64 N, .slice A l.length cap], .int .i64 c, .int .i64 most] w [] (fun u own' => ∃ s ms, u = .tuple #[s, .int .i64 (regR N l c most).2] ∧ own' = [ms] ∧ Own 3 1 s (regR N l c most).1.length (ints (regR N l c most).1) ms) := by
  refine f_enter Try.func11 rfl Try.ntmps11 rfl Owns.nil ?_
  refine f_seq fun K1 kh1 => ?_
  refine f_region ?_
  refine f_step rfl rfl rfl (o_box rfl rfl fun b3 => ?_)
  refine f_stepP rfl rfl rfl (o_assign rfl) ?_
  refine f_stepP rfl rfl rfl (o_assign rfl) ?_
  refine f_done ?_
  refine f_tn (kh1 _ _ ?_)
  clear kh1
  refine f_seq fun K2 kh2 => ?_
  refine f_seq fun K3 kh3 => ?_
  refine f_region ?_
  refine f_stepP rfl rfl rfl (o_loadA (vs := [_, _]) Try.isAgg24 Try.sizeOf24 rfl rfl ⟨(rdA rfl), (rdA rfl), trivial⟩) ?_
  refine f_step rfl rfl rfl (o_call Try.call26 rfl (fun w_ hp_ => RCheck3_spec N A l cap w_ (hr.up0 hp_) hl hN hok) ?_)
  rintro _ _ ⟨rfl, rfl⟩
  dsimp only [List.cons_append, List.nil_append]
  refine f_stepP rfl rfl rfl (o_move rfl) ?_
  refine f_stepP rfl rfl rfl (o_extract rfl rfl) ?_
  refine f_stepP rfl rfl rfl (o_extract rfl rfl) ?_
  refine f_stepP rfl rfl rfl (o_assign rfl) ?_
  refine f_stepP rfl rfl rfl (o_assign rfl) ?_
  refine f_done ?_
  refine f_tn (kh3 _ _ ?_)
  clear kh3
  refine f_seq fun K4 kh4 => ?_
  refine f_region ?_
  refine f_stepP rfl rfl rfl (o_move rfl) ?_
  refine f_stepP rfl rfl rfl (o_neq rfl rfl) ?_
  refine f_done ?_
  refine f_tn (kh4 _ _ ?_)
  clear kh4
  refine f_cond rfl (fun c17 => ?_) (fun c17 => ?_)
  · skip
    refine f_seq fun K5 kh5 => ?_
    refine f_region ?_
    refine f_stepP rfl rfl rfl (o_move rfl) ?_
    refine f_stepP rfl rfl rfl (o_assign rfl) ?_
    refine f_stepP rfl rfl rfl (o_assign rfl) ?_
    refine f_done ?_
    refine f_tn (kh5 _ _ ?_)
    clear kh5
    refine f_ret ?_
    refine f_tr ?_
    have e : regR N l c most = ([], (gcheck N l).2) := if_pos c17
    exact f_fin2 [[]] Try.results11 rfl rfl Sub.empty ⟨_, _, by rw [e], rfl, by rw [e]; exact Own.nil _ _⟩
  · skip
    refine f_skip ?_
    refine f_tn (kh2 _ _ ?_)
    clear kh2
    refine f_seq fun K6 kh6 => ?_
    refine f_seq fun K7 kh7 => ?_
    refine f_region ?_
    refine f_stepP rfl rfl rfl (o_move rfl) ?_
    refine f_stepP rfl rfl rfl (o_lss rfl rfl) ?_
    refine f_stepP rfl rfl rfl (o_move rfl) ?_
    refine f_splitL 21 rfl (fun g21 => ?_) (fun g21 => ?_)
    · skip
      refine f_stepN rfl rfl rfl rfl rfl rfl ?_
      refine f_stepN rfl rfl rfl rfl rfl rfl ?_
      refine f_stepN rfl rfl rfl rfl rfl rfl ?_
      refine f_stepN rfl rfl rfl rfl rfl rfl ?_
      refine f_stepP rfl rfl rfl (o_pickT rfl rfl) ?_
      refine f_done ?_
      refine f_tn (kh7 _ _ ?_)
      clear kh7
      refine f_condT rfl ?_
      refine f_seq fun K8 kh8 => ?_
      refine f_region ?_
      refine f_stepP rfl rfl rfl (o_assign rfl) ?_
      refine f_stepP rfl rfl rfl (o_assign rfl) ?_
      refine f_done ?_
      refine f_tn (kh8 _ _ ?_)
      clear kh8
      refine f_ret ?_
      refine f_tr ?_
      have e : regR N l c most = ([], 5) := by unfold regR; rw [if_neg c17, if_pos (by omega)]
      exact f_fin2 [[]] Try.results11 rfl rfl Sub.empty ⟨_, _, by rw [e], rfl, by rw [e]; exact Own.nil _ _⟩
    · skip
      refine f_stepPY rfl rfl rfl rfl rfl (o_move rfl) ?_
      refine f_stepPY rfl rfl rfl rfl rfl (o_field fa24_0 rfl) ?_
      refine f_stepPY rfl rfl rfl rfl rfl (o_load Try.isAgg3 rfl (rdA rfl)) ?_
      refine f_stepPY rfl rfl rfl rfl rfl (o_geq rfl rfl) ?_
      refine f_stepP rfl rfl rfl (o_pickF rfl rfl) ?_
      refine f_done ?_
      refine f_tn (kh7 _ _ ?_)
      clear kh7
      refine f_cond rfl (fun c26 => ?_) (fun c26 => ?_)
      · skip
        refine f_seq fun K9 kh9 => ?_
        refine f_region ?_
        refine f_stepP rfl rfl rfl (o_assign rfl) ?_
        refine f_stepP rfl rfl rfl (o_assign rfl) ?_
        refine f_done ?_
        refine f_tn (kh9 _ _ ?_)
        clear kh9
        refine f_ret ?_
        refine f_tr ?_
        have e : regR N l c most = ([], 5) := by unfold regR; rw [if_neg c17, if_pos (by omega)]
        exact f_fin2 [[]] Try.results11 rfl rfl Sub.empty ⟨_, _, by rw [e], rfl, by rw [e]; exact Own.nil _ _⟩
      · skip
        refine f_skip ?_
        refine f_tn (kh6 _ _ ?_)
        clear kh6
        refine f_seq fun K10 kh10 => ?_
        refine f_seq fun K11 kh11 => ?_
        refine f_region ?_
        refine f_stepP rfl rfl rfl (o_move rfl) ?_
        refine f_stepP rfl rfl rfl (o_lss rfl rfl) ?_
        refine f_stepP rfl rfl rfl (o_move rfl) ?_
        refine f_splitL 29 rfl (fun g29 => ?_) (fun g29 => ?_)
        · skip
          refine f_stepN rfl rfl rfl rfl rfl rfl ?_
          refine f_stepN rfl rfl rfl rfl rfl rfl ?_
          refine f_stepP rfl rfl rfl (o_pickT rfl rfl) ?_
          refine f_done ?_
          refine f_tn (kh11 _ _ ?_)
          clear kh11
          refine f_condT rfl ?_
          refine f_seq fun K12 kh12 => ?_
          refine f_region ?_
          refine f_stepP rfl rfl rfl (o_assign rfl) ?_
          refine f_stepP rfl rfl rfl (o_assign rfl) ?_
          refine f_done ?_
          refine f_tn (kh12 _ _ ?_)
          clear kh12
          refine f_ret ?_
          refine f_tr ?_
          have e : regR N l c most = ([], 1) := by unfold regR; rw [if_neg c17, if_neg (by omega), if_pos (by omega)]
          exact f_fin2 [[]] Try.results11 rfl rfl Sub.empty ⟨_, _, by rw [e], rfl, by rw [e]; exact Own.nil _ _⟩
        · skip
          refine f_stepPY rfl rfl rfl rfl rfl (o_move rfl) ?_
          refine f_stepPY rfl rfl rfl rfl rfl (o_gtr rfl rfl) ?_
          refine f_stepP rfl rfl rfl (o_pickF rfl rfl) ?_
          refine f_done ?_
          refine f_tn (kh11 _ _ ?_)
          clear kh11
          refine f_cond rfl (fun c32 => ?_) (fun c32 => ?_)
          · skip
            refine f_seq fun K13 kh13 => ?_
            refine f_region ?_
            refine f_stepP rfl rfl rfl (o_assign rfl) ?_
            refine f_stepP rfl rfl rfl (o_assign rfl) ?_
            refine f_done ?_
            refine f_tn (kh13 _ _ ?_)
            clear kh13
            refine f_ret ?_
            refine f_tr ?_
            have e : regR N l c most = ([], 1) := by unfold regR; rw [if_neg c17, if_neg (by omega), if_pos (by omega)]
            exact f_fin2 [[]] Try.results11 rfl rfl Sub.empty ⟨_, _, by rw [e], rfl, by rw [e]; exact Own.nil _ _⟩
          · skip
            refine f_skip ?_
            refine f_tn (kh10 _ _ ?_)
            clear kh10
            refine f_seq fun K14 kh14 => ?_
            have hg : (gcheck N l).2 = 0 := by simpa using c17
            have hgz := gcheck_zero hg
            obtain ⟨n, rfl⟩ : ∃ n : Nat, N = (n : Int) := ⟨N.toNat, by omega⟩
            obtain ⟨cn, rfl⟩ : ∃ cn : Nat, c = (cn : Int) := ⟨c.toNat, by omega⟩
            obtain ⟨mn, rfl⟩ : ∃ mn : Nat, most = (mn : Int) := ⟨most.toNat, by omega⟩
            have hres := rreg_is (l := l) (most := (mn : Int)) (N := (n : Int)) (c := (cn : Int)) rfl rfl hg (by omega) (by omega)
            rw [Int.toNat_natCast] at hres
            refine f_region ?_
            refine f_stepP rfl rfl rfl (o_loadA (vs := [_, _]) Try.isAgg24 Try.sizeOf24 rfl rfl ⟨(rdA rfl), (rdA rfl), trivial⟩) ?_
            refine f_stepP rfl rfl rfl (o_move rfl) ?_
            refine f_step rfl rfl rfl (o_call Try.call27 rfl (fun w_ hp_ => RAround_spec n A l cap cn w_ (hr.up0 hp_) hg (by omega)) ?_)
            rintro s _ ⟨mo, rfl, hO⟩
            obtain ⟨Ao, co, rfl, hco⟩ := hO.val
            dsimp only [List.cons_append, List.nil_append]
            refine f_stepP rfl rfl rfl (o_assign rfl) ?_
            refine f_done ?_
            refine f_tn (kh14 _ _ ?_)
            clear kh14
            refine f_seq fun K15 kh15 => ?_
            refine f_region ?_
            refine f_stepP rfl rfl rfl (o_move rfl) ?_
            refine f_stepP rfl rfl rfl (o_move rfl) ?_
            refine f_stepP rfl rfl rfl (o_move rfl) ?_
            refine f_stepP rfl rfl rfl (o_len sl28 rfl) ?_
            refine f_stepP rfl rfl rfl (o_min rfl rfl) ?_
            refine f_stepP rfl rfl rfl (o_slice sl28 rfl rfl rfl rfl (fun h => by cases h) 0 (min mn (bfs n (fun v : Nat => nbrs (v : Int) l) cn (List.replicate n false)).1.length) co (.inl ⟨rfl, rfl⟩) (.inr ⟨_, _, rfl, by omega⟩) (.inl ⟨rfl, rfl⟩) ⟨by omega, by omega, by omega⟩ (.slice Ao (min mn (bfs n (fun v : Nat => nbrs (v : Int) l) cn (List.replicate n false)).1.length) co) (by rw [Nat.sub_zero]; congr 1; split; rfl; cases Ao with | none => rfl | some x => obtain ⟨p, q, r⟩ := x; cases r <;> simp [Addr.add])) ?_
            refine f_stepP rfl rfl rfl (o_assign rfl) ?_
            refine f_stepP rfl rfl rfl (o_assign rfl) ?_
            refine f_done ?_
            refine f_tn (kh15 _ _ ?_)
            clear kh15
            refine f_ret ?_
            exact f_fin2 [mo] Try.results11 rfl rfl (by repeat (first | exact Sub.nil | refine Sub.pick ?_ | refine Sub.castO rfl ?_ | refine Sub.skip ?_)) ⟨.slice Ao (min mn (bfs n (fun v : Nat => nbrs (v : Int) l) cn (List.replicate n false)).1.length) co, mo, by rw [hres], rfl, by rw [hres]; simp only; rw [List.length_take]; have h := hO.head (n := min mn (bfs n (fun v : Nat => nbrs (v : Int) l) cn (List.replicate n false)).1.length) (by omega); rw [Nat.mul_one, show (ints (bfs n (fun v : Nat => nbrs (v : Int) l) cn (List.replicate n false)).1).take (min mn (bfs n (fun v : Nat => nbrs (v : Int) l) cn (List.replicate n false)).1.length) = ints ((bfs n (fun v : Nat => nbrs (v : Int) l) cn (List.replicate n false)).1.take mn) from by simp [ints, ← List.map_take, ← List.take_take]] at h; exact h⟩

set_option maxRecDepth 100000 in
set_option maxHeartbeats 4000000 in
theorem RCore_spec (N : Int) (A : Option Addr) (l : List Arc) (cap : Nat) (c most : Int) (w : World) (hr : Ro (Fr w []) w A (l.flatMap arcCs)) (hl : l.length ≤ 9223372036854775807) (hN : I64 N) (hok : ∀ x ∈ l, ArcOk x) :
    Meets Try.prog 13 [.agg #[.int .i64 N, .slice A l.length cap], .int .i64 c, .int .i64 most] w [] (fun u own' => ∃ s ms, u = .tuple #[s, .int .i64 (coreR N l c most).2] ∧ own' = [ms] ∧ Own 3 1 s (coreR N l c most).1.length (ints (coreR N l c most).1) ms) := by
  have hrl := regR_len (N := N) (l := l) (c := c) (most := most)
  refine f_enter Try.func13 rfl Try.ntmps13 rfl Owns.nil ?_
  refine f_seq fun K1 kh1 => ?_
  refine f_region ?_
  refine f_step rfl rfl rfl (o_box rfl rfl fun b3 => ?_)
  refine f_stepP rfl rfl rfl (o_assign rfl) ?_
  refine f_stepP rfl rfl rfl (o_assign rfl) ?_
  refine f_done ?_
  refine f_tn (kh1 _ _ ?_)
  clear kh1
  refine f_seq fun K2 kh2 => ?_
  refine f_region ?_
  refine f_stepP rfl rfl rfl (o_loadA (vs := [_, _]) Try.isAgg24 Try.sizeOf24 rfl rfl ⟨(rdA rfl), (rdA rfl), trivial⟩) ?_
  refine f_stepP rfl rfl rfl (o_move rfl) ?_
  refine f_stepP rfl rfl rfl (o_move rfl) ?_
  refine f_step rfl rfl rfl (o_call Try.call11 rfl (fun w_ hp_ => RRegion_spec N A l cap c most w_ (hr.up0 hp_) hl hN hok) ?_)
  rintro _ _ ⟨s, ms, rfl, rfl, ho⟩
  obtain ⟨Ao, co, rfl, hco⟩ := ho.val
  dsimp only [List.cons_append, List.nil_append]
  refine f_stepP rfl rfl rfl (o_move rfl) ?_
  refine f_stepP rfl rfl rfl (o_extract rfl rfl) ?_
  refine f_stepP rfl rfl rfl (o_extract rfl rfl) ?_
  refine f_stepP rfl rfl rfl (o_assign rfl) ?_
  refine f_stepP rfl rfl rfl (o_assign rfl) ?_
  refine f_done ?_
  refine f_tn (kh2 _ _ ?_)
  clear kh2
  refine f_seq fun K3 kh3 => ?_
  refine f_seq fun K4 kh4 => ?_
  refine f_region ?_
  refine f_stepP rfl rfl rfl (o_move rfl) ?_
  refine f_stepP rfl rfl rfl (o_neq rfl rfl) ?_
  refine f_done ?_
  refine f_tn (kh4 _ _ ?_)
  clear kh4
  refine f_cond rfl (fun c18 => ?_) (fun c18 => ?_)
  · skip
    refine f_seq fun K5 kh5 => ?_
    refine f_region ?_
    refine f_stepP rfl rfl rfl (o_move rfl) ?_
    refine f_stepP rfl rfl rfl (o_assign rfl) ?_
    refine f_stepP rfl rfl rfl (o_assign rfl) ?_
    refine f_done ?_
    refine f_tn (kh5 _ _ ?_)
    clear kh5
    refine f_ret ?_
    refine f_tr ?_
    have e1 := regR_err c18
    exact f_fin2 [[]] Try.results13 rfl rfl (show Fly.Sub _ [[]] from (by repeat (first | exact Sub.nil | refine Sub.pick ?_ | refine Sub.castO rfl ?_ | refine Sub.skip ?_))) ⟨_, _, rfl, rfl, by unfold coreR; rw [e1]; exact Own.nil _ _⟩
  · skip
    refine f_skip ?_
    refine f_tn (kh3 _ _ ?_)
    clear kh3
    refine f_seq fun K6 kh6 => ?_
    refine f_region ?_
    refine f_stepP rfl rfl rfl (o_move rfl) ?_
    refine f_stepP rfl rfl rfl (o_move rfl) ?_
    refine f_stepP rfl rfl rfl (o_len sl28 rfl) ?_
    refine f_stepP rfl rfl rfl (o_add rfl rfl _ (wrap_i64 (by omega))) ?_
    refine f_stepP rfl rfl rfl (o_quo rfl rfl (by decide) (((((regR N l c most).1.length + 3) / 4 : Nat)) : Int) (by rw [show ((((regR N l c most).1.length : Nat) : Int) + 3) = (((regR N l c most).1.length + 3 : Nat) : Int) by omega, show (4 : Int) = ((4 : Nat) : Int) from rfl, tdiv_nat]; exact wrap_i64 (by omega))) ?_
    refine f_stepP rfl rfl rfl (o_slice sl28 rfl rfl rfl rfl (fun h => by cases h) 0 (((regR N l c most).1.length + 3) / 4) co (.inl ⟨rfl, rfl⟩) (.inr ⟨_, _, rfl, by omega⟩) (.inl ⟨rfl, rfl⟩) ⟨by omega, by omega, by omega⟩ (.slice Ao (((regR N l c most).1.length + 3) / 4) co) (by rw [Nat.sub_zero]; congr 1; split; rfl; cases Ao with | none => rfl | some x => obtain ⟨p, q, r⟩ := x; cases r <;> simp [Addr.add])) ?_
    refine f_stepP rfl rfl rfl (o_assign rfl) ?_
    refine f_stepP rfl rfl rfl (o_assign rfl) ?_
    refine f_done ?_
    refine f_tn (kh6 _ _ ?_)
    clear kh6
    refine f_ret ?_
    have e0 : (regR N l c most).2 = 0 := by simpa using c18
    exact f_fin2 [ms] Try.results13 rfl rfl (by repeat (first | exact Sub.nil | refine Sub.pick ?_ | refine Sub.castO rfl ?_ | refine Sub.skip ?_)) ⟨.slice Ao (((regR N l c most).1.length + 3) / 4) co, ms, by unfold coreR; rw [e0], rfl, by unfold coreR; simp only; have h := ho.head (n := ((regR N l c most).1.length + 3) / 4) (by omega); rw [List.length_take, Nat.min_eq_left (by omega)]; rw [Nat.mul_one, show (ints (regR N l c most).1).take (((regR N l c most).1.length + 3) / 4) = ints ((regR N l c most).1.take (((regR N l c most).1.length + 3) / 4)) from by simp [ints, List.map_take]] at h; exact h⟩

end Go.Proofs.Ytlllpmafhnfihaa
