import Derived.Test.YtbjiejhdgkpjcaaAll6
import Derived.Test.YtbjiejhdgkpjcaaAll11
import Derived.Test.YtbjiejhdgkpjcaaAll3
import Derived.Test.YtbjiejhdgkpjcaaAll10

/- The document's regions: Around, Region, Core. -/
namespace Go.Proofs.Ytbjiejhdgkpjcaa
open Go Go.RowKit Fly
set_option linter.unusedVariables false
set_option linter.unusedSimpArgs false


theorem rreg_is {N : Int} {l : List Arc} {c most : Int} {n : Nat} (hN : N = (n : Int)) {cn : Nat} (hc : c = (cn : Int)) (h0 : (gcheck N l).2 = 0) (h1 : ¬ (c < 0 ∨ N ≤ c)) (h2 : ¬ (most < 1 ∨ 1024 < most)) :
    regR N l c most = ((bfs n (fun v : Nat => nbrs (v : Int) l) cn (List.replicate n false)).1.take most.toNat, 0) := by
  subst hN; subst hc
  unfold regR; rw [if_neg (by rw [h0]; simp), if_neg h1, if_neg h2, Int.toNat_natCast, Int.toNat_natCast]

set_option maxRecDepth 100000 in
set_option maxHeartbeats 4000000 in
theorem RAround_spec (n : Nat) (A : Option Addr) (l : List Arc) (cap cn : Nat) (w : World) (hr : Ro (Fr w []) w A (l.flatMap arcCs)) (hg : (gcheck (n : Int) l).2 = 0) (hc : cn < n) :
    Meets Try.prog 57 [.agg #[.int .i64 (n : Int), .slice A l.length cap], .int .i64 (cn : Int)] w [] (fun u own' => ∃ m, own' = [m] ∧ Own 3 1 u (bfs n (fun v : Nat => nbrs (v : Int) l) cn (List.replicate n false)).1.length (ints (bfs n (fun v : Nat => nbrs (v : Int) l) cn (List.replicate n false)).1) m) := by
 obtain ⟨hg1, hg2, hgl, hgd⟩ := gcheck_zero hg
 have hn : n ≤ 1024 := by omega
 obtain ⟨hrl, hrng⟩ := nbrs_rngG hg
 have hI0 : BInv n (bstart cn (List.replicate n false)) := BInv.start (by simp) hc
 refine f_enter Try.func57 rfl Try.ntmps57 rfl Owns.nil ?_
 refine f_seq fun K1 kh1 => ?_
 refine f_region ?_
 refine f_step rfl rfl rfl (o_box rfl rfl fun b2 => ?_)
 refine f_stepP rfl rfl rfl (o_assign rfl) ?_
 refine f_done ?_
 refine f_tn (kh1 _ _ ?_)
 clear kh1
 refine f_seq fun K2 kh2 => ?_
 refine f_region ?_
 refine f_stepP rfl rfl rfl (o_field fa24_0 rfl) ?_
 refine f_stepP rfl rfl rfl (o_load Try.isAgg3 rfl (rdA rfl)) ?_
 refine f_step rfl rfl rfl (o_make el42 rfl rfl n rfl (by omega) (by omega) (boolsG (List.replicate n false)) (reps_bool n false) fun b12 => ?_)
 refine f_stepP rfl rfl rfl (o_assign rfl) ?_
 refine f_done ?_
 refine f_tn (kh2 _ _ ?_)
 clear kh2
 refine f_seq fun K3 kh3 => ?_
 refine f_region ?_
 refine f_stepP rfl rfl rfl (o_move rfl) ?_
 refine f_stepP rfl rfl rfl (o_move rfl) ?_
 refine f_stepP rfl rfl rfl (o_idx sl42 rfl rfl (cn) ⟨by omega, by omega, by first | omega | (simp; done) | (simp; omega)⟩) ?_
 refine f_step0 rfl rfl (o_store Try.sizeOf4 rfl rfl rfl rfl (by simp [boolsG]; omega) (boolsG ((List.replicate n false).set cn true)) (boolsG_set ..) ?_)
 refine f_done ?_
 refine f_tn (kh3 _ _ ?_)
 clear kh3
 refine f_seq fun K4 kh4 => ?_
 refine f_region ?_
 refine f_stepP rfl rfl rfl (o_move rfl) ?_
 refine f_step rfl rfl rfl (o_slice1 el35 (by omega) rfl rfl rfl fun b17 => ?_)
 refine f_stepP rfl rfl rfl (o_assign rfl) ?_
 refine f_done ?_
 refine f_tn (kh4 _ _ ?_)
 clear kh4
 refine f_seq fun K5 kh5 => ?_
 refine f_seq fun K6 kh6 => ?_
 refine f_region ?_
 refine f_stepP rfl rfl rfl (o_assign rfl) ?_
 refine f_done ?_
 refine f_tn (kh6 _ _ ?_)
 clear kh6
 refine f_block ?_
 refine f_loop (α := Nat × Value × Seg) [2, 5] (fun ⟨k, ov, om⟩ => [(7, .int .i64 (k : Int)), (6, ov)]) (fun ⟨k, ov, om⟩ => [om, [(b12, blk (boolsG (bgo (fun v : Nat => nbrs (v : Int) l) (bstart cn (List.replicate n false)) k).2) 4)], [(b2, blk [.int .i64 (n : Int), .slice A l.length cap] 24)]]) (fun ⟨k, ov, om⟩ => k ≤ (bgo (fun v : Nat => nbrs (v : Int) l) (bstart cn (List.replicate n false)) k).1.length ∧ Own 3 1 ov (bgo (fun v : Nat => nbrs (v : Int) l) (bstart cn (List.replicate n false)) k).1.length (ints (bgo (fun v : Nat => nbrs (v : Int) l) (bstart cn (List.replicate n false)) k).1) om) (fun ⟨k, ov, om⟩ => n - k) (0, .slice (some ⟨b17, 0, none⟩) 1 1, [(b17, blk [.int .i64 (cn : Int)] 3)]) ?_ ?_ ?_ ?_
 · exact (by repeat (first | exact trivial | refine ⟨rfl, ?_⟩))
 · repeat (first | exact Sub.nil | refine Sub.pick ?_ | refine Sub.castO rfl ?_ | refine Sub.skip ?_)
 · exact ⟨Nat.zero_le _, Own.mk rfl (by omega)⟩
 ·
  rintro ⟨k, ov, om⟩ ⟨hkl, hO⟩
  have hI := BInv.go hrng hI0 k
  have hIo := hI.out
  obtain ⟨st, hst⟩ : ∃ st, st = bgo (fun v : Nat => nbrs (v : Int) l) (bstart cn (List.replicate n false)) k := ⟨_, rfl⟩
  dsimp only
  rw [← hst] at hkl hO hI hIo ⊢
  obtain ⟨Ao, co, rfl, hco⟩ := hO.val
  refine f_seq fun K7 kh7 => ?_
  refine f_seq fun K8 kh8 => ?_
  refine f_region ?_
  refine f_stepP rfl rfl rfl (o_move rfl) ?_
  refine f_stepP rfl rfl rfl (o_move rfl) ?_
  refine f_stepP rfl rfl rfl (o_len sl35 rfl) ?_
  refine f_stepP rfl rfl rfl (o_lss rfl rfl) ?_
  refine f_done ?_
  refine f_tn (kh8 _ _ ?_)
  clear kh8
  refine f_cond rfl (fun c21 => ?_) (fun c21 => ?_)
  ·
   have hkl2 : k < st.1.length := by omega
   obtain ⟨bq, sq, rfl, rfl⟩ := hO.at_ (by omega)
   obtain ⟨vn, hv⟩ : ∃ vn : Nat, st.1[k] = (vn : Int) := ⟨st.1[k].toNat, by have := hI.rng _ (List.getElem_mem hkl2); omega⟩
   have hvn : vn < n := by have := hI.rng _ (List.getElem_mem hkl2); omega
   refine f_skip ?_
   refine f_tn (kh7 _ _ ?_)
   clear kh7
   refine f_seq fun K9 kh9 => ?_
   refine f_block ?_
   refine f_seq fun K10 kh10 => ?_
   refine f_regionH [[(bq, blk (ints st.1 ++ sq) 3)], [(b2, blk [.int .i64 (n : Int), .slice A l.length cap] 24)]] rfl ?_
   refine f_take 0 rfl (by decide +kernel) rfl rfl rfl (by repeat (first | exact Sub.nil | refine Sub.pick ?_ | refine Sub.castO rfl ?_ | refine Sub.skip ?_)) (o_loadA (vs := [_, _]) Try.isAgg24 Try.sizeOf24 rfl rfl ⟨(rdA rfl), (rdA rfl), trivial⟩) ?_
   refine f_take 1 rfl (by decide +kernel) rfl rfl rfl (by repeat (first | exact Sub.nil | refine Sub.pick ?_ | refine Sub.castO rfl ?_ | refine Sub.skip ?_)) (o_move rfl) ?_
   refine f_take 2 rfl (by decide +kernel) rfl rfl rfl (by repeat (first | exact Sub.nil | refine Sub.pick ?_ | refine Sub.castO rfl ?_ | refine Sub.skip ?_)) (o_move rfl) ?_
   refine f_take 3 rfl (by decide +kernel) rfl rfl rfl (by repeat (first | exact Sub.nil | refine Sub.pick ?_ | refine Sub.castO rfl ?_ | refine Sub.skip ?_)) (o_idx sl35 rfl rfl (k) ⟨by omega, by omega, by first | omega | (simp; done) | (simp; omega)⟩) ?_
   refine f_take 4 rfl (by decide +kernel) rfl rfl rfl (by repeat (first | exact Sub.nil | refine Sub.pick ?_ | refine Sub.castO rfl ?_ | refine Sub.skip ?_)) (o_load Try.isAgg3 rfl (rdA (v := .int .i64 (vn : Int)) (app_get (by rw [ints_get hkl2, hv])))) ?_
   refine f_only 5 rfl (by decide +kernel) rfl rfl rfl (o_call Try.call68 rfl (fun w_ hp_ => RNear_spec n A l cap vn w_ (hr.up0 hp_) hgl hn hvn hgd) ?_)
   rintro _ _ ⟨bN, sd, rfl, rfl, hsl, hsu⟩
   dsimp only [List.cons_append, List.nil_append]
   refine ⟨(by repeat (first | exact Sub.nil | refine Sub.pick ?_ | refine Sub.castO rfl ?_ | refine Sub.skip ?_)), ?_⟩
   refine f_only 6 rfl (by decide +kernel) rfl rfl rfl (o_call Try.call67 rfl (fun w_ hp_ => (by have h := RAll_spec (some ⟨bN, 0, none⟩) sd n w_ (roOwn (b := bN) hp_ (fun j v hj => hj)) (by omega); rw [hsl, ← nbrs_trues hvn hgd hsl hsu] at h; exact h)) ?_)
   rintro s _ ⟨mr, rfl, hOr⟩
   obtain ⟨Ar, cr, rfl, hcr⟩ := hOr.val
   have hrll := hrl vn
   dsimp only [List.cons_append, List.nil_append]
   refine ⟨(by repeat (first | exact Sub.nil | refine Sub.pick ?_ | refine Sub.castO rfl ?_ | refine Sub.skip ?_)), ?_⟩
   refine f_only 7 rfl (by decide +kernel) rfl rfl rfl ((o_assign rfl).does ⟨(by repeat (first | exact Sub.nil | refine Sub.pick ?_ | refine Sub.castO rfl ?_ | refine Sub.skip ?_)), ?_⟩)
   refine f_over (by decide +kernel) ?_
   refine f_tn (kh10 _ _ ?_)
   clear kh10
   refine f_seq fun K11 kh11 => ?_
   refine f_region ?_
   refine f_stepP rfl rfl rfl (o_assign rfl) ?_
   refine f_done ?_
   refine f_tn (kh11 _ _ ?_)
   clear kh11
   refine f_block ?_
   refine f_loop (α := Nat × BSt × Value × Seg) [2, 5, 7, 8] (fun ⟨j, s2, ov2, om2⟩ => [(9, .int .i64 (j : Int)), (6, ov2)]) (fun ⟨j, s2, ov2, om2⟩ => [om2, [(b12, blk (boolsG s2.2) 4)], mr, [(b2, blk [.int .i64 (n : Int), .slice A l.length cap] 24)]]) (fun ⟨j, s2, ov2, om2⟩ => j ≤ (nbrs (vn : Int) l).length ∧ s2 = bpush ((nbrs (vn : Int) l).take j) st ∧ BInv n s2 ∧ st.1.length ≤ s2.1.length ∧ Own 3 1 ov2 s2.1.length (ints s2.1) om2) (fun ⟨j, s2, ov2, om2⟩ => (nbrs (vn : Int) l).length - j) (0, st, .slice (some ⟨bq, 0, none⟩) st.1.length co, [(bq, blk (ints st.1 ++ sq) 3)]) ?_ ?_ ?_ ?_
   · exact (by repeat (first | exact trivial | refine ⟨rfl, ?_⟩))
   · repeat (first | exact Sub.nil | refine Sub.pick ?_ | refine Sub.castO rfl ?_ | refine Sub.skip ?_)
   · exact ⟨Nat.zero_le _, rfl, hI, Nat.le_refl _, hO⟩
   ·
    rintro ⟨j, s2, ov2, om2⟩ ⟨hjl, hs2, hI2, hl2, hO2⟩
    have hIo2 := hI2.out
    refine f_envC (e := [(9, _), (6, _), (2, _), (5, _), (7, _), (8, _)]) (by repeat (first | exact trivial | refine ⟨rfl, ?_⟩)) ?_
    refine f_seq fun K12 kh12 => ?_
    refine f_seq fun K13 kh13 => ?_
    refine f_region ?_
    refine f_stepP rfl rfl rfl (o_move rfl) ?_
    refine f_stepP rfl rfl rfl (o_move rfl) ?_
    refine f_stepP rfl rfl rfl (o_len sl35 rfl) ?_
    refine f_stepP rfl rfl rfl (o_lss rfl rfl) ?_
    refine f_done ?_
    refine f_tn (kh13 _ _ ?_)
    clear kh13
    refine f_cond rfl (fun c34 => ?_) (fun c34 => ?_)
    ·
     have hj : j < (nbrs (vn : Int) l).length := by omega
     obtain ⟨br, spr, rfl, rfl⟩ := hOr.at_ (by omega)
     have hur := hrng vn hvn _ (List.getElem_mem hj)
     obtain ⟨un, hue⟩ : ∃ un : Nat, (nbrs (vn : Int) l)[j] = (un : Int) := ⟨((nbrs (vn : Int) l)[j]).toNat, by omega⟩
     refine f_skip ?_
     refine f_tn (kh12 _ _ ?_)
     clear kh12
     refine f_seq fun K14 kh14 => ?_
     refine f_block ?_
     refine f_seq fun K15 kh15 => ?_
     refine f_region ?_
     refine f_stepP rfl rfl rfl (o_move rfl) ?_
     refine f_stepP rfl rfl rfl (o_move rfl) ?_
     refine f_stepP rfl rfl rfl (o_move rfl) ?_
     refine f_stepP rfl rfl rfl (o_idx sl35 rfl rfl (j) ⟨by omega, by omega, by first | omega | (simp; done) | (simp; omega)⟩) ?_
     refine f_stepP rfl rfl rfl (o_load Try.isAgg3 rfl (rdA (v := .int .i64 ((un : Nat) : Int)) (app_get (by rw [ints_get hj, hue])))) ?_
     refine f_stepP rfl rfl rfl (o_idx sl42 rfl rfl (un) ⟨by omega, by omega, by first | omega | (simp; done) | (simp; omega)⟩) ?_
     refine f_stepP rfl rfl rfl (o_load Try.isAgg4 rfl (rdA (boolsG_at (by rw [hI2.len]; omega)))) ?_
     refine f_stepP rfl rfl rfl (o_not rfl) ?_
     refine f_done ?_
     refine f_tn (kh15 _ _ ?_)
     clear kh15
     refine f_condB rfl (fun c44 => ?_) (fun c44 => ?_)
     ·
      have hbu : s2.2.getD un false = false := by simpa using c44
      have hpn : (s2.1 ++ [((un : Nat) : Int)], s2.2.set un true) = bpush ((nbrs (vn : Int) l).take (j + 1)) st := by rw [bpush_next hj, ← hs2, bpush1, hue, Int.toNat_natCast, if_neg (by rw [hbu]; simp)]
      refine f_seq fun K16 kh16 => ?_
      refine f_region ?_
      refine f_stepP rfl rfl rfl (o_move rfl) ?_
      refine f_stepP rfl rfl rfl (o_move rfl) ?_
      refine f_stepP rfl rfl rfl (o_move rfl) ?_
      refine f_stepP rfl rfl rfl (o_idx sl35 rfl rfl (j) ⟨by omega, by omega, by first | omega | (simp; done) | (simp; omega)⟩) ?_
      refine f_stepP rfl rfl rfl (o_load Try.isAgg3 rfl (rdA (v := .int .i64 ((un : Nat) : Int)) (app_get (by rw [ints_get hj, hue])))) ?_
      refine f_stepP rfl rfl rfl (o_idx sl42 rfl rfl (un) ⟨by omega, by omega, by first | omega | (simp; done) | (simp; omega)⟩) ?_
      refine f_step0 rfl rfl (o_store Try.sizeOf4 rfl rfl rfl rfl (by have := hI2.len; simp [boolsG]; omega) (boolsG (s2.2.set un true)) (boolsG_set ..) ?_)
      refine f_done ?_
      refine f_tn (kh16 _ _ ?_)
      clear kh16
      refine f_region ?_
      refine f_stepP rfl rfl rfl (o_move rfl) ?_
      refine f_stepP rfl rfl rfl (o_move rfl) ?_
      refine f_stepP rfl rfl rfl (o_move rfl) ?_
      refine f_stepP rfl rfl rfl (o_idx sl35 rfl rfl (j) ⟨by omega, by omega, by first | omega | (simp; done) | (simp; omega)⟩) ?_
      refine f_stepP rfl rfl rfl (o_load Try.isAgg3 rfl (rdA (v := .int .i64 ((un : Nat) : Int)) (app_get (by rw [ints_get hj, hue])))) ?_
      refine f_step rfl rfl rfl (o_slice1 el35 (by omega) rfl rfl rfl fun b56 => ?_)
      refine f_step rfl rfl rfl (o_append el35 rfl rfl hO2 (ys := [.int .i64 ((un : Nat) : Int)]) ⟨(rdA rfl), trivial⟩ rfl rfl (by omega) (by omega) fun v57 m57 o57 => ?_)
      refine f_stepP rfl rfl rfl (o_assign rfl) ?_
      refine f_done ?_
      refine f_bn ?_
      refine f_tn (kh14 _ _ ?_)
      clear kh14
      refine f_region ?_
      refine f_stepP rfl rfl rfl (o_move rfl) ?_
      refine f_stepP rfl rfl rfl (o_add rfl rfl _ (wrap_i64 (by omega))) ?_
      refine f_stepP rfl rfl rfl (o_assign rfl) ?_
      refine f_done ?_
      refine f_tn (f_again (j + 1, (s2.1 ++ [((un : Nat) : Int)], s2.2.set un true), v57, m57) (by first | omega | (dsimp only; omega) | (simp; omega)) ⟨by omega, hpn, by rw [hpn, bpush_next hj, ← hs2]; exact hI2.push1 hur, by simp; omega, by rw [List.length_append, ints_append]; exact o57⟩ ?_ ?_ ?_)
      · exact (by repeat (first | exact trivial | refine ⟨rfl, ?_⟩))
      · exact (by repeat (first | exact trivial | refine ⟨rfl, ?_⟩))
      · repeat (first | exact Sub.nil | refine Sub.pick ?_ | refine Sub.castO rfl ?_ | refine Sub.skip ?_)
     ·
      have hbu : s2.2.getD un false = true := by simpa using c44
      refine f_skip ?_
      refine f_bn ?_
      refine f_tn (kh14 _ _ ?_)
      clear kh14
      refine f_region ?_
      refine f_stepP rfl rfl rfl (o_move rfl) ?_
      refine f_stepP rfl rfl rfl (o_add rfl rfl _ (wrap_i64 (by omega))) ?_
      refine f_stepP rfl rfl rfl (o_assign rfl) ?_
      refine f_done ?_
      refine f_tn (f_again (j + 1, s2, ov2, om2) (by first | omega | (dsimp only; omega) | (simp; omega)) ⟨by omega, by rw [bpush_next hj, ← hs2, bpush1, if_pos (by rw [hue] at *; simpa using hbu)], hI2, hl2, hO2⟩ ?_ ?_ ?_)
      · exact (by repeat (first | exact trivial | refine ⟨rfl, ?_⟩))
      · exact (by repeat (first | exact trivial | refine ⟨rfl, ?_⟩))
      · repeat (first | exact Sub.nil | refine Sub.pick ?_ | refine Sub.castO rfl ?_ | refine Sub.skip ?_)
    ·
     have hst2 : s2 = bgo (fun v : Nat => nbrs (v : Int) l) (bstart cn (List.replicate n false)) (k + 1) := by
       rw [hs2, List.take_of_length_le (by omega)]
       show _ = bstep _ k (bgo (fun v : Nat => nbrs (v : Int) l) (bstart cn (List.replicate n false)) k)
       rw [← hst, bstep_at hkl2, hv, Int.toNat_natCast]
     refine f_exit ?_
     refine f_te ?_
     clear kh12
     refine f_te ?_
     refine f_be ?_
     refine f_bn ?_
     refine f_tn (kh9 _ _ ?_)
     clear kh9
     refine f_region ?_
     refine f_stepP rfl rfl rfl (o_move rfl) ?_
     refine f_stepP rfl rfl rfl (o_add rfl rfl _ (wrap_i64 (by omega))) ?_
     refine f_stepP rfl rfl rfl (o_assign rfl) ?_
     refine f_done ?_
     have hnx : bgo (fun v : Nat => nbrs (v : Int) l) (bstart cn (List.replicate n false)) (k + 1) = s2 := hst2.symm
     rw [← hnx]
     refine f_tn (f_again (k + 1, ov2, om2) (by first | omega | (dsimp only; omega) | (simp; omega)) ⟨by rw [hnx]; omega, by rw [hnx]; exact hO2⟩ ?_ ?_ ?_)
     · exact (by repeat (first | exact trivial | refine ⟨rfl, ?_⟩))
     · exact (by repeat (first | exact trivial | refine ⟨rfl, ?_⟩))
     · repeat (first | exact Sub.nil | refine Sub.pick ?_ | refine Sub.castO rfl ?_ | refine Sub.skip ?_)
  ·
   have hke : st.1.length ≤ k := by omega
   have hfin : (bfs n (fun v : Nat => nbrs (v : Int) l) cn (List.replicate n false)) = st := by rw [hst]; exact bgo_fin (by omega) (by rw [← hst]; exact hke)
   refine f_exit ?_
   refine f_te ?_
   clear kh7
   refine f_te ?_
   refine f_be ?_
   refine f_tn (kh5 _ _ ?_)
   clear kh5
   refine f_seq fun K17 kh17 => ?_
   refine f_region ?_
   refine f_stepP rfl rfl rfl (o_move rfl) ?_
   refine f_stepP rfl rfl rfl (o_assign rfl) ?_
   refine f_done ?_
   refine f_tn (kh17 _ _ ?_)
   clear kh17
   refine f_ret ?_
   exact f_fin1 [om] Try.results57 rfl (by repeat (first | exact Sub.nil | refine Sub.pick ?_ | refine Sub.castO rfl ?_ | refine Sub.skip ?_)) ⟨om, rfl, by rw [hfin]; exact hO⟩

set_option maxRecDepth 100000 in
set_option maxHeartbeats 4000000 in
theorem RRegion_spec (N : Int) (A : Option Addr) (l : List Arc) (cap : Nat) (c most : Int) (w : World) (hr : Ro (Fr w []) w A (l.flatMap arcCs)) (hl : l.length ≤ 9223372036854775807) (hN : I64 N) (hok : ∀ x ∈ l, ArcOk x) :
    Meets Try.prog 34 [.agg #[.int .i64 N, .slice A l.length cap], .int .i64 c, .int .i64 most] w [] (fun u own' => ∃ s ms, u = .tuple #[s, .int .i64 (regR N l c most).2] ∧ own' = [ms] ∧ Own 3 1 s (regR N l c most).1.length (ints (regR N l c most).1) ms) := by
 refine f_enter Try.func34 rfl Try.ntmps34 rfl Owns.nil ?_
 refine f_seq fun K1 kh1 => ?_
 refine f_region ?_
 refine f_step rfl rfl rfl (o_box rfl rfl fun b3 => ?_)
 refine f_stepP rfl rfl rfl (o_assign rfl) ?_
 refine f_stepP rfl rfl rfl (o_assign rfl) ?_
 refine f_done ?_
 refine f_tn (kh1 _ _ ?_)
 clear kh1
 refine f_seq fun K2 kh2 => ?_
 refine f_seq fun K3 kh3 => ?_
 refine f_region ?_
 refine f_stepP rfl rfl rfl (o_loadA (vs := [_, _]) Try.isAgg24 Try.sizeOf24 rfl rfl ⟨(rdA rfl), (rdA rfl), trivial⟩) ?_
 refine f_step rfl rfl rfl (o_call Try.call38 rfl (fun w_ hp_ => RCheck3_spec N A l cap w_ (hr.up0 hp_) hl hN hok) ?_)
 rintro _ _ ⟨rfl, rfl⟩
 dsimp only [List.cons_append, List.nil_append]
 refine f_stepP rfl rfl rfl (o_move rfl) ?_
 refine f_stepP rfl rfl rfl (o_extract rfl rfl) ?_
 refine f_stepP rfl rfl rfl (o_extract rfl rfl) ?_
 refine f_stepP rfl rfl rfl (o_assign rfl) ?_
 refine f_stepP rfl rfl rfl (o_assign rfl) ?_
 refine f_done ?_
 refine f_tn (kh3 _ _ ?_)
 clear kh3
 refine f_seq fun K4 kh4 => ?_
 refine f_region ?_
 refine f_stepP rfl rfl rfl (o_move rfl) ?_
 refine f_stepP rfl rfl rfl (o_neq rfl rfl) ?_
 refine f_done ?_
 refine f_tn (kh4 _ _ ?_)
 clear kh4
 refine f_cond rfl (fun c17 => ?_) (fun c17 => ?_)
 ·
  refine f_seq fun K5 kh5 => ?_
  refine f_region ?_
  refine f_stepP rfl rfl rfl (o_move rfl) ?_
  refine f_stepP rfl rfl rfl (o_assign rfl) ?_
  refine f_stepP rfl rfl rfl (o_assign rfl) ?_
  refine f_done ?_
  refine f_tn (kh5 _ _ ?_)
  clear kh5
  refine f_ret ?_
  refine f_tr ?_
  have e : regR N l c most = ([], (gcheck N l).2) := if_pos c17
  exact f_fin2 [[]] Try.results34 rfl rfl Sub.empty ⟨_, _, by rw [e], rfl, by rw [e]; exact Own.nil _ _⟩
 ·
  refine f_skip ?_
  refine f_tn (kh2 _ _ ?_)
  clear kh2
  refine f_seq fun K6 kh6 => ?_
  refine f_seq fun K7 kh7 => ?_
  refine f_region ?_
  refine f_stepP rfl rfl rfl (o_move rfl) ?_
  refine f_stepP rfl rfl rfl (o_lss rfl rfl) ?_
  refine f_stepP rfl rfl rfl (o_move rfl) ?_
  refine f_splitL 21 rfl (fun g21 => ?_) (fun g21 => ?_)
  ·
   refine f_stepN rfl rfl rfl rfl rfl rfl ?_
   refine f_stepN rfl rfl rfl rfl rfl rfl ?_
   refine f_stepN rfl rfl rfl rfl rfl rfl ?_
   refine f_stepN rfl rfl rfl rfl rfl rfl ?_
   refine f_stepP rfl rfl rfl (o_pickT rfl rfl) ?_
   refine f_done ?_
   refine f_tn (kh7 _ _ ?_)
   clear kh7
   refine f_condT rfl ?_
   refine f_seq fun K8 kh8 => ?_
   refine f_region ?_
   refine f_stepP rfl rfl rfl (o_assign rfl) ?_
   refine f_stepP rfl rfl rfl (o_assign rfl) ?_
   refine f_done ?_
   refine f_tn (kh8 _ _ ?_)
   clear kh8
   refine f_ret ?_
   refine f_tr ?_
   have e : regR N l c most = ([], 5) := by unfold regR; rw [if_neg c17, if_pos (by omega)]
   exact f_fin2 [[]] Try.results34 rfl rfl Sub.empty ⟨_, _, by rw [e], rfl, by rw [e]; exact Own.nil _ _⟩
  ·
   refine f_stepPY rfl rfl rfl rfl rfl (o_move rfl) ?_
   refine f_stepPY rfl rfl rfl rfl rfl (o_field fa24_0 rfl) ?_
   refine f_stepPY rfl rfl rfl rfl rfl (o_load Try.isAgg3 rfl (rdA rfl)) ?_
   refine f_stepPY rfl rfl rfl rfl rfl (o_geq rfl rfl) ?_
   refine f_stepP rfl rfl rfl (o_pickF rfl rfl) ?_
   refine f_done ?_
   refine f_tn (kh7 _ _ ?_)
   clear kh7
   refine f_cond rfl (fun c26 => ?_) (fun c26 => ?_)
   ·
    refine f_seq fun K9 kh9 => ?_
    refine f_region ?_
    refine f_stepP rfl rfl rfl (o_assign rfl) ?_
    refine f_stepP rfl rfl rfl (o_assign rfl) ?_
    refine f_done ?_
    refine f_tn (kh9 _ _ ?_)
    clear kh9
    refine f_ret ?_
    refine f_tr ?_
    have e : regR N l c most = ([], 5) := by unfold regR; rw [if_neg c17, if_pos (by omega)]
    exact f_fin2 [[]] Try.results34 rfl rfl Sub.empty ⟨_, _, by rw [e], rfl, by rw [e]; exact Own.nil _ _⟩
   ·
    refine f_skip ?_
    refine f_tn (kh6 _ _ ?_)
    clear kh6
    refine f_seq fun K10 kh10 => ?_
    refine f_seq fun K11 kh11 => ?_
    refine f_region ?_
    refine f_stepP rfl rfl rfl (o_move rfl) ?_
    refine f_stepP rfl rfl rfl (o_lss rfl rfl) ?_
    refine f_stepP rfl rfl rfl (o_move rfl) ?_
    refine f_splitL 29 rfl (fun g29 => ?_) (fun g29 => ?_)
    ·
     refine f_stepN rfl rfl rfl rfl rfl rfl ?_
     refine f_stepN rfl rfl rfl rfl rfl rfl ?_
     refine f_stepP rfl rfl rfl (o_pickT rfl rfl) ?_
     refine f_done ?_
     refine f_tn (kh11 _ _ ?_)
     clear kh11
     refine f_condT rfl ?_
     refine f_seq fun K12 kh12 => ?_
     refine f_region ?_
     refine f_stepP rfl rfl rfl (o_assign rfl) ?_
     refine f_stepP rfl rfl rfl (o_assign rfl) ?_
     refine f_done ?_
     refine f_tn (kh12 _ _ ?_)
     clear kh12
     refine f_ret ?_
     refine f_tr ?_
     have e : regR N l c most = ([], 1) := by unfold regR; rw [if_neg c17, if_neg (by omega), if_pos (by omega)]
     exact f_fin2 [[]] Try.results34 rfl rfl Sub.empty ⟨_, _, by rw [e], rfl, by rw [e]; exact Own.nil _ _⟩
    ·
     refine f_stepPY rfl rfl rfl rfl rfl (o_move rfl) ?_
     refine f_stepPY rfl rfl rfl rfl rfl (o_gtr rfl rfl) ?_
     refine f_stepP rfl rfl rfl (o_pickF rfl rfl) ?_
     refine f_done ?_
     refine f_tn (kh11 _ _ ?_)
     clear kh11
     refine f_cond rfl (fun c32 => ?_) (fun c32 => ?_)
     ·
      refine f_seq fun K13 kh13 => ?_
      refine f_region ?_
      refine f_stepP rfl rfl rfl (o_assign rfl) ?_
      refine f_stepP rfl rfl rfl (o_assign rfl) ?_
      refine f_done ?_
      refine f_tn (kh13 _ _ ?_)
      clear kh13
      refine f_ret ?_
      refine f_tr ?_
      have e : regR N l c most = ([], 1) := by unfold regR; rw [if_neg c17, if_neg (by omega), if_pos (by omega)]
      exact f_fin2 [[]] Try.results34 rfl rfl Sub.empty ⟨_, _, by rw [e], rfl, by rw [e]; exact Own.nil _ _⟩
     ·
      refine f_skip ?_
      refine f_tn (kh10 _ _ ?_)
      clear kh10
      refine f_seq fun K14 kh14 => ?_
      have hg : (gcheck N l).2 = 0 := by simpa using c17
      have hgz := gcheck_zero hg
      obtain ⟨n, rfl⟩ : ∃ n : Nat, N = (n : Int) := ⟨N.toNat, by omega⟩
      obtain ⟨cn, rfl⟩ : ∃ cn : Nat, c = (cn : Int) := ⟨c.toNat, by omega⟩
      obtain ⟨mn, rfl⟩ : ∃ mn : Nat, most = (mn : Int) := ⟨most.toNat, by omega⟩
      have hres := rreg_is (l := l) (most := (mn : Int)) (N := (n : Int)) (c := (cn : Int)) rfl rfl hg (by omega) (by omega)
      rw [Int.toNat_natCast] at hres
      refine f_region ?_
      refine f_stepP rfl rfl rfl (o_loadA (vs := [_, _]) Try.isAgg24 Try.sizeOf24 rfl rfl ⟨(rdA rfl), (rdA rfl), trivial⟩) ?_
      refine f_stepP rfl rfl rfl (o_move rfl) ?_
      refine f_step rfl rfl rfl (o_call Try.call57 rfl (fun w_ hp_ => RAround_spec n A l cap cn w_ (hr.up0 hp_) hg (by omega)) ?_)
      rintro s _ ⟨mo, rfl, hO⟩
      obtain ⟨Ao, co, rfl, hco⟩ := hO.val
      dsimp only [List.cons_append, List.nil_append]
      refine f_stepP rfl rfl rfl (o_assign rfl) ?_
      refine f_done ?_
      refine f_tn (kh14 _ _ ?_)
      clear kh14
      refine f_seq fun K15 kh15 => ?_
      refine f_region ?_
      refine f_stepP rfl rfl rfl (o_move rfl) ?_
      refine f_stepP rfl rfl rfl (o_move rfl) ?_
      refine f_stepP rfl rfl rfl (o_move rfl) ?_
      refine f_stepP rfl rfl rfl (o_len sl35 rfl) ?_
      refine f_stepP rfl rfl rfl (o_min rfl rfl) ?_
      refine f_stepP rfl rfl rfl (o_slice sl35 rfl rfl rfl rfl (fun h => by cases h) 0 (min mn (bfs n (fun v : Nat => nbrs (v : Int) l) cn (List.replicate n false)).1.length) co (.inl ⟨rfl, rfl⟩) (.inr ⟨_, _, rfl, by omega⟩) (.inl ⟨rfl, rfl⟩) ⟨by omega, by omega, by omega⟩ (.slice Ao (min mn (bfs n (fun v : Nat => nbrs (v : Int) l) cn (List.replicate n false)).1.length) co) (by rw [Nat.sub_zero]; congr 1; split; rfl; cases Ao with | none => rfl | some x => obtain ⟨p, q, r⟩ := x; cases r <;> simp [Addr.add])) ?_
      refine f_stepP rfl rfl rfl (o_assign rfl) ?_
      refine f_stepP rfl rfl rfl (o_assign rfl) ?_
      refine f_done ?_
      refine f_tn (kh15 _ _ ?_)
      clear kh15
      refine f_ret ?_
      exact f_fin2 [mo] Try.results34 rfl rfl (by repeat (first | exact Sub.nil | refine Sub.pick ?_ | refine Sub.castO rfl ?_ | refine Sub.skip ?_)) ⟨.slice Ao (min mn (bfs n (fun v : Nat => nbrs (v : Int) l) cn (List.replicate n false)).1.length) co, mo, by rw [hres], rfl, by rw [hres]; simp only; rw [List.length_take]; have h := hO.head (n := min mn (bfs n (fun v : Nat => nbrs (v : Int) l) cn (List.replicate n false)).1.length) (by omega); rw [Nat.mul_one, show (ints (bfs n (fun v : Nat => nbrs (v : Int) l) cn (List.replicate n false)).1).take (min mn (bfs n (fun v : Nat => nbrs (v : Int) l) cn (List.replicate n false)).1.length) = ints ((bfs n (fun v : Nat => nbrs (v : Int) l) cn (List.replicate n false)).1.take mn) from by simp [ints, ← List.map_take, ← List.take_take]] at h; exact h⟩

end Go.Proofs.Ytbjiejhdgkpjcaa

/- flyoverlaw06: works, FlowIsCut, FlowFewer, FlowTurns. -/
namespace Go.Proofs.Ytbjiejhdgkpjcaa
open Go Go.RowKit Fly
set_option linter.unusedVariables false
set_option linter.unusedSimpArgs false


def wF : List Arc := [⟨0, 1, 3⟩, ⟨1, 2, 2⟩, ⟨0, 2, 1⟩]
theorem wFok : ∀ x ∈ wF, ArcOk x := by
  intro x hx
  simp only [wF, List.mem_cons, List.not_mem_nil, or_false] at hx
  rcases hx with rfl | rfl | rfl <;> exact ⟨⟨by decide, by decide⟩, ⟨by decide, by decide⟩, by decide⟩
theorem wF0 : flooked 3 wF 0 2 = 0 := by decide
theorem wFnet : NetOk 3 wF := by unfold NetOk; decide
theorem wFlow : Flow 3 wF 0 2 [2, 2, 1] 3 := ⟨⟨rfl, by decide⟩, by decide⟩
theorem wSide : Side 3 wF 0 2 [2, 2, 1] (fun v => decide (v < 2)) where
  src := rfl
  dst := rfl
  shut := by unfold Shut; decide
  reach := fun v hv h => by
    have : v = 0 ∨ v = 1 := by simp at h; omega
    rcases this with rfl | rfl
    · exact .refl
    · exact Reach.step (e := wF) (k := 0) .refl (by decide) (by decide)
theorem sat {n : Nat} {e : List Arc} {s t : Nat} {f g : List Int} {V W : Int} {A : Nat → Bool} (he : NetOk n e) (hs : s < n) (hf : Flow n e s t f V) (hB : ∃ B, Side n e s t f B) (hg : Flow n e s t g W) (hA : Side n e s t g A) :
    V = W ∧ W = capA A e ∧ ∀ i (hi : i < e.length), (A e[i].src.toNat = true → A e[i].dst.toNat = false → flAt f i = e[i].wt) ∧ (A e[i].src.toNat = false → A e[i].dst.toNat = true → flAt f i = 0) := by
  obtain ⟨B, hB⟩ := hB
  have e1 := (Side.same he hs hf hg hB hA).1
  have e2 := (hg.shut he hs hA.src hA.dst).2 hA.shut
  refine ⟨e1, e2, fun i hi => ?_⟩
  have h3 := (hf.shut he hs hA.src hA.dst).1 (by omega)
  have h4 := (slack_zero A e f hf.fits).1 ((slack_shut hf.fits).2 h3) i hi
  rwa [arcAt_eq hi] at h4
theorem idxs_prefix {α : Type} (p : α → Bool) (l : List α) (k : Nat) : ∃ r, idxs p l = idxs p (l.take k) ++ r := by
  conv => enter [1, r, 1]; rw [← List.take_append_drop k l]
  unfold idxs
  rw [List.zipIdx_append, List.filter_append, List.map_append]
  exact ⟨_, rfl⟩
theorem idxs_at {α : Type} {p : α → Bool} {l : List α} {k : Nat} (hk : k < l.length) (h : p l[k] = true) : ∃ h' : (idxs p (l.take k)).length < (idxs p l).length, (idxs p l)[(idxs p (l.take k)).length] = (k : Int) := by
  obtain ⟨r, hr⟩ := idxs_prefix p l (k + 1)
  rw [idxs_yes hk h] at hr
  have hlt : (idxs p (l.take k)).length < (idxs p l).length := by rw [hr]; simp
  refine ⟨hlt, ?_⟩
  have : (idxs p l)[(idxs p (l.take k)).length]? = some (k : Int) := by rw [hr, List.append_assoc, List.getElem?_append_right (Nat.le_refl _), Nat.sub_self]; rfl
  rw [List.getElem?_eq_getElem hlt] at this
  exact Option.some.inj this
theorem rds_roE {S : Nat → Prop} {w0 : World} {segs : List Seg} {A : Option Addr} {cs : List Value} (h : Ro S w0 A cs) : cs ≠ [] → ∃ b off, A = some ⟨b, off, none⟩ ∧ Rds S w0 segs b off cs := fun hne => by
  obtain ⟨b, off, e, hS, hc⟩ := h hne
  exact ⟨b, off, e, Seen.rds fun _ => ⟨hS, hc⟩⟩
theorem arcs_oneE (l : List Arc) : (l.flatMap arcCs).all (·.oneCell') = true := by
  induction l with
  | nil => rfl
  | cons x l ih => rw [List.flatMap_cons, List.all_append, ih]; rfl
theorem idxs_le {α : Type} (p : α → Bool) (l : List α) (i : Nat) : (idxs p (l.take i)).length ≤ i := by
  unfold idxs
  rw [List.length_map]
  refine Nat.le_trans (List.length_filter_le _ _) ?_
  rw [List.length_zipIdx, List.length_take]; omega
def LentΦ (N : Int) (l : List Arc) (u : Value) (own : List Seg) : Prop :=
  ∃ A c m, u = .agg #[.int .i64 N, .slice A l.length c] ∧ own = [m] ∧ Own 62 3 (.slice A l.length c) l.length (l.flatMap arcCs) m

end Go.Proofs.Ytbjiejhdgkpjcaa

/- flyoverlaw06: FlowFewer, FlowTurns. -/
namespace Go.Proofs.Ytbjiejhdgkpjcaa
open Go Go.RowKit Fly
set_option linter.unusedVariables false
set_option linter.unusedSimpArgs false


theorem getD_set6 (l : List Bool) (i : Nat) (b : Bool) (v : Nat) (h : i < l.length) : (l.set i b).getD v false = if i = v then b else l.getD v false := by
  rw [List.getD_eq_getElem?_getD, List.getElem?_set]
  by_cases e : i = v
  · rw [if_pos e, if_pos h, if_pos e]; rfl
  · rw [if_neg e, if_neg e, ← List.getD_eq_getElem?_getD]
theorem set_back (l : List Bool) (i : Nat) (b : Bool) : ((l.set i b).map Value.bool).set i (.bool (l.getD i false)) = l.map .bool := by
  rw [bools_set, List.set_set]
  congr 1
  refine List.ext_getElem (by simp) fun j h1 h2 => ?_
  rw [List.getElem_set]
  split
  · rename_i e; subst e; simp [List.getD_eq_getElem?_getD, h2]
  · rfl
theorem set_front {l : List Bool} {i : Nat} {b : Bool} {sp : List Value} (h : i < l.length) : (l.map Value.bool ++ sp).set i (.bool b) = (l.set i b).map .bool ++ sp := by
  rw [List.set_append_left _ _ (by simpa using h), bools_set]
theorem set_back2 {l : List Bool} {i : Nat} {b : Bool} {sp : List Value} (h : i < l.length) : ((l.set i b).map Value.bool ++ sp).set i (.bool (l.getD i false)) = l.map .bool ++ sp := by
  rw [List.set_append_left _ _ (by simpa using h), set_back]
/-- A side with one node moved. -/
theorem fewer {n : Nat} {e : List Arc} {s t : Nat} {f : List Int} {V : Int} {sd : List Bool} {v : Nat} (he : NetOk n e) (hs : s < n) (ht : t < n) (hf : Flow n e s t f V) (hA : Side n e s t f (fun v => sd.getD v false)) (hsl : sd.length = n) (hv : v < n) (h1 : v ≠ s) (h2 : v ≠ t) :
    V ≤ capA (fun u => (sd.set v (!sd.getD v false)).getD u false) e ∧ (sd.getD v false = true → V < capA (fun u => (sd.set v (!sd.getD v false)).getD u false) e) := by
  have G : ∀ u, (sd.set v (!sd.getD v false)).getD u false = if v = u then !sd.getD v false else sd.getD u false := fun u => getD_set6 sd v _ u (by omega)
  have bs : (sd.set v (!sd.getD v false)).getD s false = true := by rw [G, if_neg h1]; exact hA.src
  have bt : (sd.set v (!sd.getD v false)).getD t false = false := by rw [G, if_neg h2]; exact hA.dst
  refine ⟨hf.le_cut he (A := fun u => (sd.set v (!sd.getD v false)).getD u false) hs bs bt, fun h => hA.least he hs hf (B := fun u => (sd.set v (!sd.getD v false)).getD u false) bs bt hv h (by rw [G, if_pos rfl, h]; rfl)⟩
theorem bad_turn (N : Int) (x : Arc) : arcBad N (turnA x) = arcBad N x := by
  unfold arcBad turnA
  exact decide_eq_decide.2 (by simp only; omega)
theorem ncheck_turn (N : Int) (l : List Arc) : ncheck N (l.map turnA) = ncheck N l := by
  unfold ncheck
  rw [List.length_map, List.findIdx?_map]
  have : (arcBad N ∘ turnA) = arcBad N := by funext x; exact bad_turn N x
  rw [this]
theorem flooked_turn (N : Int) (l : List Arc) (s t : Int) : flooked N (l.map turnA) t s = flooked N l s t := by
  unfold flooked
  rw [ncheck_turn]
  split
  · rfl
  · by_cases h : s < 0 ∨ N ≤ s ∨ t < 0 ∨ N ≤ t
    · rw [if_pos h, if_pos (by omega)]
    · rw [if_neg h, if_neg (by omega)]
      by_cases h2 : s = t
      · rw [if_pos h2, if_pos h2.symm]
      · rw [if_neg h2, if_neg fun e => h2 e.symm]
theorem turn_ok {l : List Arc} (h : ∀ x ∈ l, ArcOk x) : ∀ x ∈ l.map turnA, ArcOk x := fun x hx => by
  obtain ⟨y, hy, rfl⟩ := List.mem_map.1 hx
  exact ⟨(h y hy).dst, (h y hy).src, (h y hy).wt⟩
theorem turn_next {l : List Arc} {i : Nat} (hi : i < l.length) : ((l.take (i + 1)).map turnA).flatMap arcCs = ((l.take i).map turnA).flatMap arcCs ++ [.int .i64 l[i].dst, .int .i64 l[i].src, .int .u32 l[i].wt] := by
  rw [List.take_succ_eq_append_getElem hi, List.map_append, List.flatMap_append]; rfl

end Go.Proofs.Ytbjiejhdgkpjcaa

/- The document's flows: what is reached, pushing back along it, values. Plain laws. -/

namespace Go.Proofs.Ytbjiejhdgkpjcaa
open Go Fly
set_option linter.unusedVariables false
set_option linter.unusedSimpArgs false

variable {n : Nat} {e : List Arc} {s t : Nat} {f : List Int} {V : Int}
/-- What is reached so far: the nodes seen, by which edge, and how late. -/
structure Rch (n : Nat) (e : List Arc) (s : Nat) (f : List Int) (sd : List Bool) (by_ : List Int) (q : List Nat) (P : Nat → Prop) : Prop where
  ls : sd.length = n
  lb : by_.length = n
  s0 : sd.getD s false = true
  nd : q.Nodup
  mem : ∀ v, v < n → (v ∈ q ↔ sd.getD v false = true)
  lt : ∀ v, v ∈ q → v < n
  prev : ∀ v, v < n → sd.getD v false = true → v ≠ s → ∃ (k : Nat) (a b : List Nat), k < 2 * e.length ∧ 0 < kleft e f k ∧ kto e k = v ∧ flAt by_ v = (k : Int) ∧ q = a ++ v :: b ∧ kfrom e k ∈ a
  cl : ∀ k, k < 2 * e.length → 0 < kleft e f k → P k → sd.getD (kto e k) false = true
theorem gd_set (l : List Bool) (i : Nat) (b : Bool) (v : Nat) (h : i < l.length) : (l.set i b).getD v false = if i = v then b else l.getD v false := by
  rw [List.getD_eq_getElem?_getD, List.getElem?_set]
  by_cases e : i = v
  · rw [if_pos e, if_pos h, if_pos e]; rfl
  · rw [if_neg e, if_neg e, ← List.getD_eq_getElem?_getD]
theorem gd_rep (n v : Nat) : (List.replicate n false).getD v false = false := by
  rw [List.getD_eq_getElem?_getD, List.getElem?_replicate]; split <;> rfl
theorem Rch.begin (hs : s < n) : Rch n e s f ((List.replicate n false).set s true) (List.replicate n (-1)) [s] (fun _ => False) := by
  have G : ∀ v, ((List.replicate n false).set s true).getD v false = decide (s = v) := fun v => by
    rw [gd_set _ _ _ _ (by simpa using hs), gd_rep]; split <;> simp_all
  refine ⟨by simp, by simp, by rw [G]; simp, by simp, fun v hv => by rw [G]; simp; exact eq_comm, fun v hv => by simp at hv; subst hv; exact hs, fun v hv h hne => ?_, fun k _ _ h => h.elim⟩
  rw [G] at h; simp at h; exact absurd h.symm hne
theorem Rch.weaken {sd : List Bool} {by_ : List Int} {q : List Nat} {P Q : Nat → Prop} (h : Rch n e s f sd by_ q P) (hq : ∀ k, k < 2 * e.length → Q k → P k) : Rch n e s f sd by_ q Q :=
  ⟨h.ls, h.lb, h.s0, h.nd, h.mem, h.lt, h.prev, fun k hk hl hQ => h.cl k hk hl (hq k hk hQ)⟩
theorem Rch.see {sd : List Bool} {by_ : List Int} {q : List Nat} {P : Nat → Prop} {k : Nat} (h : Rch n e s f sd by_ q P) (he : NetOk n e) (hk : k < 2 * e.length) (hf : kfrom e k ∈ q) (hu : sd.getD (kto e k) false = false) (hl : 0 < kleft e f k) :
    Rch n e s f (sd.set (kto e k) true) (by_.set (kto e k) (k : Int)) (q ++ [kto e k]) (fun j => P j ∨ j = k) := by
  have ht := kto_lt he hk
  have G : ∀ v, (sd.set (kto e k) true).getD v false = if kto e k = v then true else sd.getD v false := fun v => gd_set _ _ _ _ (by rw [h.ls]; exact ht)
  have hB : ∀ v, flAt (by_.set (kto e k) (k : Int)) v = if kto e k = v then (k : Int) else flAt by_ v := fun v => flAt_set (by rw [h.lb]; exact ht) _ v
  have hnq : kto e k ∉ q := fun hm => by rw [(h.mem _ ht).1 hm] at hu; cases hu
  refine ⟨by simpa using h.ls, by simpa using h.lb, ?_, ?_, fun v hv => ?_, fun v hv => ?_, fun v hv hs hne => ?_, fun j hj hjl hP => ?_⟩
  · rw [G]; split
    · rfl
    · exact h.s0
  · rw [List.nodup_append]
    exact ⟨h.nd, by simp, fun a ha b hb e' => by simp at hb; subst hb; subst e'; exact hnq ha⟩
  · rw [G, List.mem_append, List.mem_singleton]
    by_cases e' : kto e k = v
    · rw [if_pos e']; simp [e'.symm]
    · rw [if_neg e', h.mem v hv]; constructor
      · rintro (h1 | h1)
        · exact h1
        · exact absurd h1.symm e'
      · exact .inl
  · rcases List.mem_append.1 hv with hv | hv
    · exact h.lt v hv
    · simp at hv; subst hv; exact ht
  · rw [G] at hs
    by_cases e' : kto e k = v
    · exact ⟨k, q, [], hk, hl, e', by rw [hB, if_pos e'], by rw [e'], hf⟩
    · rw [if_neg e'] at hs
      obtain ⟨j, a, b, h1, h2, h3, h4, h5, h6⟩ := h.prev v hv hs hne
      exact ⟨j, a, b ++ [kto e k], h1, h2, h3, by rw [hB, if_neg e']; exact h4, by rw [h5]; simp, h6⟩
  · rw [G]
    by_cases e' : kto e k = kto e j
    · rw [if_pos e']
    · rw [if_neg e']
      rcases hP with hP | rfl
      · exact h.cl j hj hjl hP
      · exact absurd rfl e'
theorem Rch.skip {sd : List Bool} {by_ : List Int} {q : List Nat} {P : Nat → Prop} {k : Nat} (h : Rch n e s f sd by_ q P) (hn : sd.getD (kto e k) false = true ∨ ¬ 0 < kleft e f k) : Rch n e s f sd by_ q (fun j => P j ∨ j = k) :=
  ⟨h.ls, h.lb, h.s0, h.nd, h.mem, h.lt, h.prev, fun j hj hjl hP => by
    rcases hP with hP | rfl
    · exact h.cl j hj hjl hP
    · rcases hn with h1 | h1
      · exact h1
      · exact absurd hjl h1⟩
/-- All that can be reached is. -/
def Full (e : List Arc) (q : List Nat) : Nat → Prop := fun k => kfrom e k ∈ q
theorem Rch.reach {sd : List Bool} {by_ : List Int} {q : List Nat} {P : Nat → Prop} (h : Rch n e s f sd by_ q P) (he : NetOk n e) : ∀ (m : Nat) (v : Nat), v < n → sd.getD v false = true → (∀ a b, q = a ++ v :: b → a.length ≤ m) → Reach e f s v := by
  intro m
  induction m using Nat.strongRecOn with
  | _ m ih =>
    intro v hv hsd hm
    by_cases hvs : v = s
    · subst hvs; exact .refl
    · obtain ⟨k, a, b, h1, h2, h3, h4, h5, h6⟩ := h.prev v hv hsd hvs
      have hf := kfrom_lt he h1
      obtain ⟨c, d, hcd⟩ := List.append_of_mem h6
      have hmf : kfrom e k ∈ q := by rw [h5]; exact List.mem_append_left _ h6
      have hl : c.length < a.length := by rw [hcd]; simp
      have hu : ∀ a' b', q = a' ++ kfrom e k :: b' → a'.length ≤ c.length := fun a' b' hab => by
        have hnd := h.nd
        have e1 : q = c ++ kfrom e k :: (d ++ v :: b) := by rw [h5, hcd]; simp
        rw [e1] at hab hnd
        rcases Nat.lt_or_ge c.length a'.length with hlt | hge
        · have g1 : (c ++ kfrom e k :: (d ++ v :: b))[c.length]? = some (kfrom e k) := by simp
          have g2 : (c ++ kfrom e k :: (d ++ v :: b))[a'.length]? = some (kfrom e k) := by rw [hab]; simp
          have i1 := (List.getElem?_eq_some_iff.1 g1)
          have i2 := (List.getElem?_eq_some_iff.1 g2)
          obtain ⟨j1, j2⟩ := i1
          obtain ⟨j3, j4⟩ := i2
          exact absurd (j2.trans j4.symm) (List.pairwise_iff_getElem.1 hnd _ _ j1 j3 hlt)
        · exact hge
      have := ih c.length (Nat.lt_of_lt_of_le hl (hm a b h5)) (kfrom e k) hf ((h.mem _ hf).1 hmf) hu
      rw [← h3]; exact .step this h1 h2
theorem Rch.side {sd : List Bool} {by_ : List Int} {q : List Nat} (h : Rch n e s f sd by_ q (Full e q)) (he : NetOk n e) (ht : sd.getD t false = false) : Side n e s t f (fun v => sd.getD v false) where
  src := h.s0
  dst := ht
  shut := fun k hk hl hA => h.cl k hk hl ((h.mem _ (kfrom_lt he hk)).2 hA)
  reach := fun v hv hA => h.reach he q.length v hv hA fun a b hab => by rw [hab]; simp
/-- The way back: each edge is the one by which its end was reached. -/
structure Path (n : Nat) (e : List Arc) (s t : Nat) (f by_ : List Int) (W : List Nat) : Prop where
  way : Way e s t W
  good : ∀ k, k ∈ W → k < 2 * e.length ∧ 0 < kleft e f k ∧ flAt by_ (kto e k) = (k : Int) ∧ kto e k ≠ s
  nd : (W.map (· / 2)).Nodup
theorem Rch.path {sd : List Bool} {by_ : List Int} {q : List Nat} {P : Nat → Prop} (h : Rch n e s f sd by_ q P) (he : NetOk n e) (ht : t < n) (htd : sd.getD t false = true) : ∃ W, Path n e s t f by_ W := by
  -- the ends of the edges behind v come later among what was reached
  have key : ∀ (m : Nat) (v : Nat) (X : List Nat) (a b : List Nat), a.length = m → v < n → sd.getD v false = true → q = a ++ v :: b → Way e v t X → (∀ k, k ∈ X → k < 2 * e.length ∧ 0 < kleft e f k ∧ flAt by_ (kto e k) = (k : Int) ∧ kto e k ≠ s) → (X.map (· / 2)).Nodup → (∀ k, k ∈ X → kto e k ∈ b ∧ kfrom e k ∈ v :: b) → ∃ W, Path n e s t f by_ W := by
    intro m
    induction m using Nat.strongRecOn with
    | _ m ih =>
      intro v X a b ham hv hsd hq hw hg hn hb
      by_cases hvs : v = s
      · subst hvs; exact ⟨X, hw, hg, hn⟩
      · obtain ⟨k, a', b', h1, h2, h3, h4, h5, h6⟩ := h.prev v hv hsd hvs
        have hnd := h.nd
        obtain rfl : a' = a := by
          have e1 : a ++ v :: b = a' ++ v :: b' := hq ▸ h5
          rw [hq] at hnd
          rcases Nat.lt_trichotomy a.length a'.length with hlt | heq | hgt
          · have g1 : (a ++ v :: b)[a.length]? = some v := by simp
            have g2 : (a ++ v :: b)[a'.length]? = some v := by rw [e1]; simp
            obtain ⟨j1, j2⟩ := List.getElem?_eq_some_iff.1 g1
            obtain ⟨j3, j4⟩ := List.getElem?_eq_some_iff.1 g2
            exact absurd (j2.trans j4.symm) (List.pairwise_iff_getElem.1 hnd _ _ j1 j3 hlt)
          · exact ((List.append_inj e1 heq).1).symm
          · have g1 : (a ++ v :: b)[a.length]? = some v := by simp
            have g2 : (a ++ v :: b)[a'.length]? = some v := by rw [e1]; simp
            obtain ⟨j1, j2⟩ := List.getElem?_eq_some_iff.1 g1
            obtain ⟨j3, j4⟩ := List.getElem?_eq_some_iff.1 g2
            exact absurd (j4.trans j2.symm) (List.pairwise_iff_getElem.1 hnd _ _ j3 j1 hgt)
        have hf := kfrom_lt he h1
        obtain ⟨c, d, hcd⟩ := List.append_of_mem h6
        have e1 : q = c ++ kfrom e k :: (d ++ v :: b) := by rw [hq, hcd]; simp
        have hndq := h.nd
        have hvb : v ∉ b := fun hm => by
          rw [hq] at hndq
          exact (List.nodup_cons.1 (List.nodup_append.1 hndq).2.1).1 hm
        have hfb : ∀ x, x ∈ v :: b → x ≠ kfrom e k := fun x hx e' => by
          rw [e1] at hndq
          subst e'
          exact (List.nodup_cons.1 (List.nodup_append.1 hndq).2.1).1 (List.mem_append_right _ hx)
        refine ih c.length (by rw [← ham, hcd]; simp) (kfrom e k) (k :: X) c (d ++ v :: b) rfl hf ((h.mem _ hf).1 (by rw [e1]; simp)) e1 ⟨h1, rfl, by rw [h3]; exact hw⟩ (fun j hj => ?_) ?_ (fun j hj => ?_)
        · rcases List.mem_cons.1 hj with rfl | hj
          · exact ⟨h1, h2, by rw [h3]; exact h4, by rw [h3]; exact hvs⟩
          · exact hg j hj
        · rw [List.map_cons, List.nodup_cons]
          refine ⟨fun hm => ?_, hn⟩
          obtain ⟨j, hj, hjk⟩ := List.mem_map.1 hm
          rcases half_eq (e := e) hjk with rfl | ⟨d1, d2⟩
          · exact hvb (h3 ▸ (hb j hj).1)
          · exact hfb (kto e j) (List.mem_cons_of_mem _ (hb j hj).1) d2
        · rcases List.mem_cons.1 hj with rfl | hj
          · exact ⟨by rw [h3]; simp, by simp⟩
          · have := hb j hj
            refine ⟨by simp [this.1], ?_⟩
            have h2 := this.2
            simp only [List.mem_cons, List.mem_append] at h2 ⊢
            rcases h2 with h2 | h2
            · exact .inr (.inr (.inl h2))
            · exact .inr (.inr (.inr h2))
  obtain ⟨a, b, hab⟩ := List.append_of_mem ((h.mem t ht).2 htd)
  exact key a.length t [] a b rfl ht htd hab rfl (by simp) (by simp) (by simp)
/-- The least that is left along a way. -/
def minL (e : List Arc) (f : List Int) : List Nat → Int
  | [] => 4294967295
  | k :: W => min (minL e f W) (kleft e f k)
theorem minL_le {e : List Arc} {f : List Int} : ∀ {W : List Nat} {k : Nat}, k ∈ W → minL e f W ≤ kleft e f k
  | j :: W, k, h => by
    rcases List.mem_cons.1 h with rfl | h
    · exact Int.min_le_right _ _
    · exact Int.le_trans (Int.min_le_left _ _) (minL_le h)
theorem minL_pos {e : List Arc} {f : List Int} : ∀ {W : List Nat}, (∀ k, k ∈ W → 0 < kleft e f k) → 0 < minL e f W ∧ minL e f W ≤ 4294967295
  | [], _ => by simp [minL]
  | k :: W, h => by
    have := minL_pos (W := W) fun j hj => h j (List.mem_cons_of_mem _ hj)
    have := h k (List.mem_cons_self ..)
    simp only [minL]; omega
/-- Pushed from the back. -/
def pushR (f : List Int) (W : List Nat) (d : Int) : List Int := W.foldr (fun k g => fpush g k d) f
theorem pushR_len (f : List Int) (d : Int) : ∀ (W : List Nat), (pushR f W d).length = f.length
  | [] => rfl
  | k :: W => by show (fpush (pushR f W d) k d).length = _; rw [fpush_len, pushR_len f d W]
theorem flAt_pushR {f : List Int} {d : Int} : ∀ {W : List Nat} {i : Nat}, (∀ k, k ∈ W → k / 2 < f.length) → (∀ k, k ∈ W → k / 2 ≠ i) → flAt (pushR f W d) i = flAt f i
  | [], i, _, _ => rfl
  | k :: W, i, hl, hn => by
    show flAt (fpush (pushR f W d) k d) i = _
    rw [flAt_push (by rw [pushR_len]; exact hl k (List.mem_cons_self ..)), if_neg (hn k (List.mem_cons_self ..)), flAt_pushR (fun j hj => hl j (List.mem_cons_of_mem _ hj)) fun j hj => hn j (List.mem_cons_of_mem _ hj)]
theorem pushR_left {e : List Arc} {f : List Int} {d : Int} {k : Nat} {X : List Nat} (hl : ∀ j, j ∈ X → j / 2 < f.length) (hn : ∀ j, j ∈ X → j / 2 ≠ k / 2) : kleft e (pushR f X d) k = kleft e f k := by
  unfold kleft; rw [flAt_pushR hl hn]
theorem net_pushR {e : List Arc} {f : List Int} {d : Int} (h : e.length = f.length) : ∀ {W : List Nat} {u t : Nat}, Way e u t W → ∀ v, net e (pushR f W d) v = net e f v + ((if u = v then d else 0) - (if t = v then d else 0))
  | [], u, t, hw, v => by have : u = t := hw; subst this; simp [pushR]
  | k :: W, u, t, ⟨h1, h2, h3⟩, v => by
    show net e (fpush (pushR f W d) k d) v = _
    rw [net_push d v (by rw [pushR_len]; exact h) h1, net_pushR h h3 v, h2]; omega
theorem fits_pushR {e : List Arc} {f : List Int} {d : Int} (hf : Fits e f) (h0 : 0 ≤ d) : ∀ {W : List Nat}, (W.map (· / 2)).Nodup → (∀ k, k ∈ W → k < 2 * e.length ∧ d ≤ kleft e f k) → Fits e (pushR f W d)
  | [], _, _ => hf
  | k :: W, hn, hk => by
    rw [List.map_cons, List.nodup_cons] at hn
    have hkk := hk k (List.mem_cons_self ..)
    have ih := fits_pushR hf h0 hn.2 fun j hj => hk j (List.mem_cons_of_mem _ hj)
    show Fits e (fpush (pushR f W d) k d)
    refine ih.push hkk.1 h0 ?_
    rw [pushR_left (fun j hj => by have := (hk j (List.mem_cons_of_mem _ hj)).1; have := hf.len; omega) fun j hj e' => hn.1 (e' ▸ List.mem_map.2 ⟨j, hj, rfl⟩)]
    exact hkk.2
theorem Flow.pushR {W : List Nat} {by_ : List Int} (h : Flow n e s t f V) (hp : Path n e s t f by_ W) : Flow n e s t (pushR f W (minL e f W)) (V + minL e f W) := by
  have hm := minL_pos fun k hk => (hp.good k hk).2.1
  refine ⟨fits_pushR h.fits (by omega) hp.nd fun k hk => ⟨(hp.good k hk).1, minL_le hk⟩, fun v hv => ?_⟩
  rw [net_pushR h.fits.len.symm hp.way v, h.cons v hv]
  split <;> split <;> omega
/-- What flows out, what flows in. -/
def outS : List Arc → List Int → Nat → Int
  | x :: e, y :: f, v => (if x.src.toNat = v then y else 0) + outS e f v
  | _, _, _ => 0
def inS : List Arc → List Int → Nat → Int
  | x :: e, y :: f, v => (if x.dst.toNat = v then y else 0) + inS e f v
  | _, _, _ => 0
theorem net_eq : ∀ (e : List Arc) (f : List Int) (v : Nat), net e f v = outS e f v - inS e f v
  | [], _, _ => by simp [net, outS, inS]
  | x :: e, [], _ => by simp [net, outS, inS]
  | x :: e, y :: f, v => by simp only [net, outS, inS, net_eq e f v]; omega
theorem outS_next : ∀ {e : List Arc} {f : List Int} {i : Nat} (v : Nat), e.length = f.length → i < e.length → outS (e.take (i + 1)) (f.take (i + 1)) v = outS (e.take i) (f.take i) v + (if (arcAt e i).src.toNat = v then flAt f i else 0)
  | [], _, _, _, _, h => by simp at h
  | x :: e, [], _, _, h, _ => by simp at h
  | x :: e, y :: f, 0, v, _, _ => by simp [outS, arcAt, flAt]
  | x :: e, y :: f, i + 1, v, h, hi => by
    have := outS_next (e := e) (f := f) (i := i) v (by simpa using h) (by simpa using hi)
    simp only [List.take_succ_cons, outS] at this ⊢
    rw [this]
    have ea : arcAt (x :: e) (i + 1) = arcAt e i := by simp [arcAt]
    have ef : flAt (y :: f) (i + 1) = flAt f i := by simp [flAt]
    rw [ea, ef]; omega
theorem inS_next : ∀ {e : List Arc} {f : List Int} {i : Nat} (v : Nat), e.length = f.length → i < e.length → inS (e.take (i + 1)) (f.take (i + 1)) v = inS (e.take i) (f.take i) v + (if (arcAt e i).dst.toNat = v then flAt f i else 0)
  | [], _, _, _, _, h => by simp at h
  | x :: e, [], _, _, h, _ => by simp at h
  | x :: e, y :: f, 0, v, _, _ => by simp [inS, arcAt, flAt]
  | x :: e, y :: f, i + 1, v, h, hi => by
    have := inS_next (e := e) (f := f) (i := i) v (by simpa using h) (by simpa using hi)
    simp only [List.take_succ_cons, inS] at this ⊢
    rw [this]
    have ea : arcAt (x :: e) (i + 1) = arcAt e i := by simp [arcAt]
    have ef : flAt (y :: f) (i + 1) = flAt f i := by simp [flAt]
    rw [ea, ef]; omega
theorem sums_bound : ∀ (e : List Arc) (f : List Int) (v : Nat), (∀ i, i < f.length → 0 ≤ flAt f i ∧ flAt f i ≤ 4294967295) → 0 ≤ outS e f v ∧ outS e f v ≤ f.length * 4294967295 ∧ 0 ≤ inS e f v ∧ inS e f v ≤ f.length * 4294967295
  | [], f, v, _ => by simp [outS, inS]; omega
  | x :: e, [], v, _ => by simp [outS, inS]
  | x :: e, y :: f, v, h => by
    have ih := sums_bound e f v fun i hi => by have := h (i + 1) (by simpa using hi); simpa [flAt] using this
    have h0 := h 0 (by simp)
    simp [flAt] at h0
    simp only [outS, inS, List.length_cons]
    rw [show ((f.length + 1 : Nat) : Int) * 4294967295 = f.length * 4294967295 + 4294967295 by rw [Int.natCast_add, Int.add_mul]; simp]
    split <;> split <;> omega
end Go.Proofs.Ytbjiejhdgkpjcaa
