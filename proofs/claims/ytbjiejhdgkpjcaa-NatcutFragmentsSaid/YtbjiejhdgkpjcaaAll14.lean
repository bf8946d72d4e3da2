import Derived.Test.YtbjiejhdgkpjcaaAll10
import Derived.Test.YtbjiejhdgkpjcaaAll12
import Derived.Test.YtbjiejhdgkpjcaaAll13

/- The document's natural cuts: All, Pairs, has, Connected by some arcs, Parted, Fragments, Around, Cut. -/
namespace Go.Proofs.Ytbjiejhdgkpjcaa
open Go Go.RowKit Fly
set_option linter.unusedVariables false
set_option linter.unusedSimpArgs false


theorem region_take {n cn mn : Nat} {l : List Arc} (hg : (gcheck (n : Int) l).2 = 0) (hc : cn < n) (hm : 1 ≤ mn ∧ mn ≤ 1024) :
    regR (n : Int) l (cn : Int) (mn : Int) = ((bfs n (fun v : Nat => nbrs (v : Int) l) cn (List.replicate n false)).1.take mn, 0) := by
  have := rreg_is (l := l) (most := (mn : Int)) (N := (n : Int)) (c := (cn : Int)) rfl rfl hg (by omega) (by omega)
  rwa [Int.toNat_natCast] at this

set_option maxRecDepth 100000 in
set_option maxHeartbeats 4000000 in
theorem RAllP_spec (n : Nat) (A : Option Addr) (l : List Arc) (cap : Nat) (w : World) (hr : Ro (Fr w []) w A (l.flatMap arcCs)) (hg : (gcheck (n : Int) l).2 = 0) :
    Meets Try.prog 50 [.agg #[.int .i64 (n : Int), .slice A l.length cap]] w [] (fun u own' => ∃ A' c m', u = .slice A' (prs n l).length c ∧ own' = [m'] ∧ Own 47 2 (.slice A' (prs n l).length c) (prs n l).length ((prs n l).flatMap prCs) m') := by
 obtain ⟨hg1, hg2, hgl, hgd⟩ := gcheck_zero hg
 have hn : n ≤ 1024 := by omega
 obtain ⟨hrl, hrng⟩ := nbrs_rngG hg
 refine f_enter Try.func50 rfl Try.ntmps50 rfl Owns.nil ?_
 refine f_seq fun K1 kh1 => ?_
 refine f_region ?_
 refine f_step rfl rfl rfl (o_box rfl rfl fun b1 => ?_)
 refine f_stepP rfl rfl rfl (o_assign rfl) ?_
 refine f_done ?_
 refine f_tn (kh1 _ _ ?_)
 clear kh1
 refine f_seq fun K2 kh2 => ?_
 refine f_region ?_
 refine f_stepP rfl rfl rfl (o_assign rfl) ?_
 refine f_done ?_
 refine f_tn (kh2 _ _ ?_)
 clear kh2
 refine f_seq fun K3 kh3 => ?_
 refine f_seq fun K4 kh4 => ?_
 refine f_region ?_
 refine f_stepP rfl rfl rfl (o_assign rfl) ?_
 refine f_done ?_
 refine f_tn (kh4 _ _ ?_)
 clear kh4
 refine f_block ?_
 refine f_loop (α := Nat × Value × Seg) [1] (fun ⟨v, ov, om⟩ => [(4, .int .i64 (v : Int)), (3, ov)]) (fun ⟨v, ov, om⟩ => [om, [(b1, blk [.int .i64 (n : Int), .slice A l.length cap] 24)]]) (fun ⟨v, ov, om⟩ => v ≤ n ∧ Own 47 2 ov (allR l v).length ((allR l v).flatMap prCs) om) (fun ⟨v, ov, om⟩ => n - v) (0, .slice none 0 0, []) ?_ ?_ ?_ ?_
 · exact (by repeat (first | exact trivial | refine ⟨rfl, ?_⟩))
 · repeat (first | exact Sub.nil | refine Sub.pick ?_ | refine Sub.castO rfl ?_ | refine Sub.skip ?_)
 · exact ⟨Nat.zero_le _, Own.nil _ _⟩
 ·
  rintro ⟨v, ov, om⟩ ⟨hvn, hO⟩
  have hal := allR_le hg hvn
  obtain ⟨Ao, co, rfl, hco⟩ := hO.val
  refine f_seq fun K5 kh5 => ?_
  refine f_seq fun K6 kh6 => ?_
  refine f_region ?_
  refine f_stepP rfl rfl rfl (o_move rfl) ?_
  refine f_stepP rfl rfl rfl (o_field fa24_0 rfl) ?_
  refine f_stepP rfl rfl rfl (o_load Try.isAgg3 rfl (rdA rfl)) ?_
  refine f_stepP rfl rfl rfl (o_lss rfl rfl) ?_
  refine f_done ?_
  refine f_tn (kh6 _ _ ?_)
  clear kh6
  refine f_cond rfl (fun c10 => ?_) (fun c10 => ?_)
  ·
   have hv : v < n := by omega
   refine f_skip ?_
   refine f_tn (kh5 _ _ ?_)
   clear kh5
   refine f_seq fun K7 kh7 => ?_
   refine f_block ?_
   refine f_seq fun K8 kh8 => ?_
   refine f_region ?_
   refine f_stepP rfl rfl rfl (o_loadA (vs := [_, _]) Try.isAgg24 Try.sizeOf24 rfl rfl ⟨(rdA rfl), (rdA rfl), trivial⟩) ?_
   refine f_stepP rfl rfl rfl (o_move rfl) ?_
   refine f_step rfl rfl rfl (o_call Try.call68 rfl (fun w_ hp_ => RNear_spec n A l cap v w_ (hr.up0 hp_) hgl hn hv hgd) ?_)
   rintro _ _ ⟨bN, sd, rfl, rfl, hsl, hsu⟩
   dsimp only [List.cons_append, List.nil_append]
   refine f_step rfl rfl rfl (o_call Try.call67 rfl (fun w_ hp_ => (by have h := RAll_spec (some ⟨bN, 0, none⟩) sd n w_ (roOwn (b := bN) hp_ (fun j v hj => hj)) (by omega); rw [hsl, ← nbrs_trues hv hgd hsl hsu] at h; exact h)) ?_)
   rintro s _ ⟨mr, rfl, hOr⟩
   obtain ⟨Ar, cr, rfl, hcr⟩ := hOr.val
   have hrll := hrl v
   dsimp only [List.cons_append, List.nil_append]
   refine f_stepP rfl rfl rfl (o_assign rfl) ?_
   refine f_done ?_
   refine f_tn (kh8 _ _ ?_)
   clear kh8
   refine f_seq fun K9 kh9 => ?_
   refine f_region ?_
   refine f_stepP rfl rfl rfl (o_assign rfl) ?_
   refine f_done ?_
   refine f_tn (kh9 _ _ ?_)
   clear kh9
   refine f_block ?_
   refine f_loop (α := Nat × Value × Seg) [1, 4, 5] (fun ⟨j, ov2, om2⟩ => [(6, .int .i64 (j : Int)), (3, ov2)]) (fun ⟨j, ov2, om2⟩ => [om2, mr, [(b1, blk [.int .i64 (n : Int), .slice A l.length cap] 24)]]) (fun ⟨j, ov2, om2⟩ => j ≤ (nbrs (v : Int) l).length ∧ Own 47 2 ov2 (allR l v ++ rowP l v j).length ((allR l v ++ rowP l v j).flatMap prCs) om2) (fun ⟨j, ov2, om2⟩ => (nbrs (v : Int) l).length - j) (0, .slice Ao (allR l v).length co, om) ?_ ?_ ?_ ?_
   · exact (by repeat (first | exact trivial | refine ⟨rfl, ?_⟩))
   · repeat (first | exact Sub.nil | refine Sub.pick ?_ | refine Sub.castO rfl ?_ | refine Sub.skip ?_)
   · exact ⟨Nat.zero_le _, by rw [rowP_zero, List.append_nil]; exact hO⟩
   ·
    rintro ⟨j, ov2, om2⟩ ⟨hjl, hO2⟩
    have hrpl := rowP_len l v j
    have hall : (allR l v ++ rowP l v j).length = (allR l v).length + (rowP l v j).length := List.length_append
    refine f_envC (e := [(6, _), (3, _), (1, _), (4, _), (5, _)]) (by repeat (first | exact trivial | refine ⟨rfl, ?_⟩)) ?_
    refine f_seq fun K10 kh10 => ?_
    refine f_seq fun K11 kh11 => ?_
    refine f_region ?_
    refine f_stepP rfl rfl rfl (o_move rfl) ?_
    refine f_stepP rfl rfl rfl (o_move rfl) ?_
    refine f_stepP rfl rfl rfl (o_len sl35 rfl) ?_
    refine f_stepP rfl rfl rfl (o_lss rfl rfl) ?_
    refine f_done ?_
    refine f_tn (kh11 _ _ ?_)
    clear kh11
    refine f_cond rfl (fun c20 => ?_) (fun c20 => ?_)
    ·
     have hj : j < (nbrs (v : Int) l).length := by omega
     obtain ⟨br, spr, rfl, rfl⟩ := hOr.at_ (by omega)
     have hnx := rowP_next hj
     refine f_skip ?_
     refine f_tn (kh10 _ _ ?_)
     clear kh10
     refine f_seq fun K12 kh12 => ?_
     refine f_block ?_
     refine f_seq fun K13 kh13 => ?_
     refine f_region ?_
     refine f_stepP rfl rfl rfl (o_move rfl) ?_
     refine f_stepP rfl rfl rfl (o_move rfl) ?_
     refine f_stepP rfl rfl rfl (o_idx sl35 rfl rfl (j) ⟨by omega, by omega, by first | omega | (simp; done) | (simp; omega)⟩) ?_
     refine f_stepP rfl rfl rfl (o_load Try.isAgg3 rfl (rdA (app_get (ints_get hj)))) ?_
     refine f_stepP rfl rfl rfl (o_move rfl) ?_
     refine f_stepP rfl rfl rfl (o_gtr rfl rfl) ?_
     refine f_done ?_
     refine f_tn (kh13 _ _ ?_)
     clear kh13
     refine f_cond rfl (fun c28 => ?_) (fun c28 => ?_)
     ·
      rw [if_pos (by omega)] at hnx
      refine f_region ?_
      refine f_stepP rfl rfl rfl (o_move rfl) ?_
      refine f_stepP rfl rfl rfl (o_move rfl) ?_
      refine f_stepP rfl rfl rfl (o_move rfl) ?_
      refine f_stepP rfl rfl rfl (o_move rfl) ?_
      refine f_stepP rfl rfl rfl (o_idx sl35 rfl rfl (j) ⟨by omega, by omega, by first | omega | (simp; done) | (simp; omega)⟩) ?_
      refine f_stepP rfl rfl rfl (o_load Try.isAgg3 rfl (rdA (app_get (ints_get hj)))) ?_
      refine f_stepP rfl rfl rfl (o_build (cs := prCs ((v : Int), (nbrs (v : Int) l)[j])) st47 rfl rfl) ?_
      refine f_step rfl rfl rfl (o_slice1 el28 (by omega) rfl rfl rfl fun b36 => ?_)
      refine f_step rfl rfl rfl (o_append el28 rfl rfl hO2 (ys := prCs ((v : Int), (nbrs (v : Int) l)[j])) ⟨(rdA rfl), (rdA rfl), trivial⟩ rfl rfl (by omega) (by omega) fun v37 m37 o37 => ?_)
      refine f_stepP rfl rfl rfl (o_assign rfl) ?_
      refine f_done ?_
      refine f_bn ?_
      refine f_tn (kh12 _ _ ?_)
      clear kh12
      refine f_region ?_
      refine f_stepP rfl rfl rfl (o_move rfl) ?_
      refine f_stepP rfl rfl rfl (o_add rfl rfl _ (wrap_i64 (by omega))) ?_
      refine f_stepP rfl rfl rfl (o_assign rfl) ?_
      refine f_done ?_
      refine f_tn (f_again (j + 1, v37, m37) (by first | omega | (dsimp only; omega) | (simp; omega)) ⟨by omega, by rw [hnx, ← List.append_assoc, List.flatMap_append, List.length_append]; simpa using o37⟩ ?_ ?_ ?_)
      · exact (by repeat (first | exact trivial | refine ⟨rfl, ?_⟩))
      · exact (by repeat (first | exact trivial | refine ⟨rfl, ?_⟩))
      · repeat (first | exact Sub.nil | refine Sub.pick ?_ | refine Sub.castO rfl ?_ | refine Sub.skip ?_)
     ·
      rw [if_neg (by omega), List.append_nil] at hnx
      refine f_skip ?_
      refine f_bn ?_
      refine f_tn (kh12 _ _ ?_)
      clear kh12
      refine f_region ?_
      refine f_stepP rfl rfl rfl (o_move rfl) ?_
      refine f_stepP rfl rfl rfl (o_add rfl rfl _ (wrap_i64 (by omega))) ?_
      refine f_stepP rfl rfl rfl (o_assign rfl) ?_
      refine f_done ?_
      refine f_tn (f_again (j + 1, ov2, om2) (by first | omega | (dsimp only; omega) | (simp; omega)) ⟨by omega, by rw [hnx]; exact hO2⟩ ?_ ?_ ?_)
      · exact (by repeat (first | exact trivial | refine ⟨rfl, ?_⟩))
      · exact (by repeat (first | exact trivial | refine ⟨rfl, ?_⟩))
      · repeat (first | exact Sub.nil | refine Sub.pick ?_ | refine Sub.castO rfl ?_ | refine Sub.skip ?_)
    ·
     obtain rfl : j = (nbrs (v : Int) l).length := by omega
     refine f_exit ?_
     refine f_te ?_
     clear kh10
     refine f_te ?_
     refine f_be ?_
     refine f_bn ?_
     refine f_tn (kh7 _ _ ?_)
     clear kh7
     refine f_region ?_
     refine f_stepP rfl rfl rfl (o_move rfl) ?_
     refine f_stepP rfl rfl rfl (o_add rfl rfl _ (wrap_i64 (by omega))) ?_
     refine f_stepP rfl rfl rfl (o_assign rfl) ?_
     refine f_done ?_
     refine f_tn (f_again (v + 1, ov2, om2) (by first | omega | (dsimp only; omega) | (simp; omega)) ⟨by omega, hO2⟩ ?_ ?_ ?_)
     · exact (by repeat (first | exact trivial | refine ⟨rfl, ?_⟩))
     · exact (by repeat (first | exact trivial | refine ⟨rfl, ?_⟩))
     · repeat (first | exact Sub.nil | refine Sub.pick ?_ | refine Sub.castO rfl ?_ | refine Sub.skip ?_)
  ·
   obtain rfl : v = n := by omega
   rw [allR_is hg] at hO ⊢
   refine f_exit ?_
   refine f_te ?_
   clear kh5
   refine f_te ?_
   refine f_be ?_
   refine f_tn (kh3 _ _ ?_)
   clear kh3
   refine f_seq fun K14 kh14 => ?_
   refine f_region ?_
   refine f_stepP rfl rfl rfl (o_move rfl) ?_
   refine f_stepP rfl rfl rfl (o_assign rfl) ?_
   refine f_done ?_
   refine f_tn (kh14 _ _ ?_)
   clear kh14
   refine f_ret ?_
   exact f_fin1 [om] Try.results50 rfl (by repeat (first | exact Sub.nil | refine Sub.pick ?_ | refine Sub.castO rfl ?_ | refine Sub.skip ?_)) ⟨Ao, co, om, rfl, rfl, hO⟩

set_option maxRecDepth 100000 in
set_option maxHeartbeats 4000000 in
theorem RPairs_spec (N : Int) (A : Option Addr) (l : List Arc) (cap : Nat) (w : World) (hr : Ro (Fr w []) w A (l.flatMap arcCs)) (hl : l.length ≤ 9223372036854775807) (hN : I64 N) (hok : ∀ x ∈ l, ArcOk x) :
    Meets Try.prog 27 [.agg #[.int .i64 N, .slice A l.length cap]] w [] (fun u own' => ∃ s m', u = .tuple #[s, .int .i64 (gcheck N l).2] ∧ own' = [m']) := by
 refine f_enter Try.func27 rfl Try.ntmps27 rfl Owns.nil ?_
 refine f_seq fun K1 kh1 => ?_
 refine f_region ?_
 refine f_step rfl rfl rfl (o_box rfl rfl fun b1 => ?_)
 refine f_stepP rfl rfl rfl (o_assign rfl) ?_
 refine f_stepP rfl rfl rfl (o_assign rfl) ?_
 refine f_done ?_
 refine f_tn (kh1 _ _ ?_)
 clear kh1
 refine f_seq fun K2 kh2 => ?_
 refine f_seq fun K3 kh3 => ?_
 refine f_region ?_
 refine f_stepP rfl rfl rfl (o_loadA (vs := [_, _]) Try.isAgg24 Try.sizeOf24 rfl rfl ⟨(rdA rfl), (rdA rfl), trivial⟩) ?_
 refine f_step rfl rfl rfl (o_call Try.call38 rfl (fun w_ hp_ => RCheck3_spec N A l cap w_ (hr.up0 hp_) hl hN hok) ?_)
 rintro _ _ ⟨rfl, rfl⟩
 dsimp only [List.cons_append, List.nil_append]
 refine f_stepP rfl rfl rfl (o_move rfl) ?_
 refine f_stepP rfl rfl rfl (o_extract rfl rfl) ?_
 refine f_stepP rfl rfl rfl (o_extract rfl rfl) ?_
 refine f_stepP rfl rfl rfl (o_assign rfl) ?_
 refine f_stepP rfl rfl rfl (o_assign rfl) ?_
 refine f_done ?_
 refine f_tn (kh3 _ _ ?_)
 clear kh3
 refine f_seq fun K4 kh4 => ?_
 refine f_region ?_
 refine f_stepP rfl rfl rfl (o_move rfl) ?_
 refine f_stepP rfl rfl rfl (o_neq rfl rfl) ?_
 refine f_done ?_
 refine f_tn (kh4 _ _ ?_)
 clear kh4
 refine f_cond rfl (fun c12 => ?_) (fun c12 => ?_)
 ·
  refine f_seq fun K5 kh5 => ?_
  refine f_region ?_
  refine f_stepP rfl rfl rfl (o_move rfl) ?_
  refine f_stepP rfl rfl rfl (o_assign rfl) ?_
  refine f_stepP rfl rfl rfl (o_assign rfl) ?_
  refine f_done ?_
  refine f_tn (kh5 _ _ ?_)
  clear kh5
  refine f_ret ?_
  refine f_tr ?_
  exact f_fin2 [[]] Try.results27 rfl rfl (show Fly.Sub _ [[]] from (by repeat (first | exact Sub.nil | refine Sub.pick ?_ | refine Sub.castO rfl ?_ | refine Sub.skip ?_))) ⟨_, [], rfl, rfl⟩
 ·
  have hg : (gcheck N l).2 = 0 := by simpa using c12
  obtain ⟨n, rfl⟩ : ∃ n : Nat, N = (n : Int) := ⟨N.toNat, by have := gcheck_zero hg; omega⟩
  refine f_skip ?_
  refine f_tn (kh2 _ _ ?_)
  clear kh2
  refine f_seq fun K6 kh6 => ?_
  refine f_region ?_
  refine f_stepP rfl rfl rfl (o_loadA (vs := [_, _]) Try.isAgg24 Try.sizeOf24 rfl rfl ⟨(rdA rfl), (rdA rfl), trivial⟩) ?_
  refine f_step rfl rfl rfl (o_call Try.call50 rfl (fun w_ hp_ => RAllP_spec n A l cap w_ (hr.up0 hp_) hg) ?_)
  rintro _ _ ⟨A', c', m', rfl, rfl, hO⟩
  dsimp only [List.cons_append, List.nil_append]
  refine f_stepP rfl rfl rfl (o_assign rfl) ?_
  refine f_stepP rfl rfl rfl (o_assign rfl) ?_
  refine f_done ?_
  refine f_tn (kh6 _ _ ?_)
  clear kh6
  refine f_ret ?_
  exact f_fin2 [m'] Try.results27 rfl rfl (by repeat (first | exact Sub.nil | refine Sub.pick ?_ | refine Sub.castO rfl ?_ | refine Sub.skip ?_)) ⟨_, m', by rw [hg], rfl⟩

set_option maxRecDepth 100000 in
set_option maxHeartbeats 4000000 in
theorem Rhas_spec (B : Option Addr) (M : List Pr) (cb : Nat) (p : Pr) (w : World) (hM : Ro (Fr w []) w B (M.flatMap prCs)) (hm : M.length ≤ 9223372036854775807) :
    Meets Try.prog 59 [.slice B M.length cb, .agg (prCs p).toArray] w [] (fun u m => u = .bool (decide (p ∈ M)) ∧ m = []) := by
 refine f_enter Try.func59 rfl Try.ntmps59 rfl Owns.nil ?_
 refine f_seq fun K1 kh1 => ?_
 refine f_region ?_
 refine f_step rfl rfl rfl (o_box rfl rfl fun b3 => ?_)
 refine f_stepP rfl rfl rfl (o_assign rfl) ?_
 refine f_done ?_
 refine f_tn (kh1 _ _ ?_)
 clear kh1
 refine f_seq fun K2 kh2 => ?_
 refine f_seq fun K3 kh3 => ?_
 refine f_region ?_
 refine f_stepP rfl rfl rfl (o_assign rfl) ?_
 refine f_done ?_
 refine f_tn (kh3 _ _ ?_)
 clear kh3
 refine f_block ?_
 refine f_loop (α := Nat) [0, 3] (fun k => [(5, .int .i64 (k : Int))]) (fun k => [[(b3, blk (prCs p) 47)]]) (fun k => k ≤ M.length ∧ p ∉ M.take k) (fun k => M.length - k) (0) ?_ ?_ ?_ ?_
 · exact (by repeat (first | exact trivial | refine ⟨rfl, ?_⟩))
 · repeat (first | exact Sub.nil | refine Sub.pick ?_ | refine Sub.castO rfl ?_ | refine Sub.skip ?_)
 · exact ⟨Nat.zero_le _, by simp⟩
 ·
  rintro k ⟨hkl, hno⟩
  refine f_seq fun K4 kh4 => ?_
  refine f_seq fun K5 kh5 => ?_
  refine f_region ?_
  refine f_stepP rfl rfl rfl (o_move rfl) ?_
  refine f_stepP rfl rfl rfl (o_move rfl) ?_
  refine f_stepP rfl rfl rfl (o_len sl28 rfl) ?_
  refine f_stepP rfl rfl rfl (o_lss rfl rfl) ?_
  refine f_done ?_
  refine f_tn (kh5 _ _ ?_)
  clear kh5
  refine f_cond rfl (fun c9 => ?_) (fun c9 => ?_)
  ·
   refine f_skip ?_
   refine f_tn (kh4 _ _ ?_)
   clear kh4
   refine f_seq fun K6 kh6 => ?_
   refine f_block ?_
   refine f_seq fun K7 kh7 => ?_
   refine f_regionS rfl (by decide +kernel) ?_
   refine f_stillP rfl rfl rfl (o_move rfl) ?_
   refine f_stillP rfl rfl rfl (o_move rfl) ?_
   have hk : k < M.length := by omega
   obtain ⟨b1, o1, rfl, hS1, hc1⟩ := hM (flat_ne prCs prCs_len (by omega) hk)
   refine f_stillP rfl rfl rfl (o_idx sl28 rfl rfl (o1 + k * 2) ⟨by omega, by omega, by first | omega | (simp; done) | (simp; omega)⟩) ?_
   refine f_stillP rfl rfl rfl (o_loadA (vs := prCs M[k]) Try.isAgg47 Try.sizeOf47 rfl rfl (roElem prCs_len hS1 hc1 hk)) ?_
   refine f_stillP rfl rfl rfl (o_loadA (vs := prCs p) Try.isAgg47 Try.sizeOf47 rfl rfl ⟨(rdA rfl), (rdA rfl), trivial⟩) ?_
   refine f_stillP rfl rfl rfl (o_eqlA Try.eqGuardType47 (eqPr M[k] p) rfl rfl) ?_
   refine f_stillD ?_
   refine f_tn (kh7 _ _ ?_)
   clear kh7
   refine f_cond rfl (fun c17 => ?_) (fun c17 => ?_)
   ·
    refine f_seq fun K8 kh8 => ?_
    refine f_region ?_
    refine f_stepP rfl rfl rfl (o_assign rfl) ?_
    refine f_done ?_
    refine f_tn (kh8 _ _ ?_)
    clear kh8
    refine f_ret ?_
    refine f_br ?_
    refine f_tr ?_
    refine f_tr ?_
    refine f_br ?_
    refine f_tr ?_
    exact f_fin1 [] Try.results59 rfl Sub.nil ⟨by rw [decide_eq_true]; rw [← c17]; exact List.getElem_mem hk, rfl⟩
   ·
    refine f_skip ?_
    refine f_bn ?_
    refine f_tn (kh6 _ _ ?_)
    clear kh6
    refine f_region ?_
    refine f_stepP rfl rfl rfl (o_move rfl) ?_
    refine f_stepP rfl rfl rfl (o_add rfl rfl _ (wrap_i64 (by omega))) ?_
    refine f_stepP rfl rfl rfl (o_assign rfl) ?_
    refine f_done ?_
    refine f_tn (f_again (k + 1) (by first | omega | (dsimp only; omega) | (simp; omega)) ⟨by omega, by rw [List.take_succ_eq_append_getElem hk, List.mem_append, List.mem_singleton]; rintro (h | h); exact hno h; exact c17 h.symm⟩ ?_ ?_ ?_)
    · exact (by repeat (first | exact trivial | refine ⟨rfl, ?_⟩))
    · exact (by repeat (first | exact trivial | refine ⟨rfl, ?_⟩))
    · repeat (first | exact Sub.nil | refine Sub.pick ?_ | refine Sub.castO rfl ?_ | refine Sub.skip ?_)
  ·
   refine f_exit ?_
   refine f_te ?_
   clear kh4
   refine f_te ?_
   refine f_be ?_
   refine f_tn (kh2 _ _ ?_)
   clear kh2
   refine f_seq fun K9 kh9 => ?_
   refine f_region ?_
   refine f_stepP rfl rfl rfl (o_assign rfl) ?_
   refine f_done ?_
   refine f_tn (kh9 _ _ ?_)
   clear kh9
   refine f_ret ?_
   obtain rfl : k = M.length := by omega
   rw [List.take_length] at hno
   exact f_fin1 [] Try.results59 rfl Sub.nil ⟨by rw [decide_eq_false hno], rfl⟩

set_option maxRecDepth 100000 in
set_option maxHeartbeats 4000000 in
theorem RConnBy_spec (n : Nat) (A : Option Addr) (l : List Arc) (cap : Nat) (q : Arc → Bool) (C : Option Addr) (bl cb : Nat) (w : World) (hr : Ro (Fr w []) w A (l.flatMap arcCs)) (hl : l.length ≤ 8192) (hn : 1 ≤ n ∧ n ≤ 1024) (hgood : ∀ k (hk : k < l.length), 0 ≤ l[k].src ∧ l[k].src < (n : Int) ∧ 0 ≤ l[k].dst ∧ l[k].dst < (n : Int)) (hb : Ro (Fr w []) w C ((l.map q).map .bool)) (hbl : bl = l.length) :
    Meets Try.prog 60 [.agg #[.int .i64 (n : Int), .slice A l.length cap], .slice C bl cb] w [] (fun u own' => ∃ p b, u = .slice (some ⟨b, 0, none⟩) n n ∧ own' = [[(b, blk (nats p) 3)]] ∧ IsParts n (ends2 (l.filter q)) p) := by
 subst bl
 refine f_enter Try.func60 rfl Try.ntmps60 rfl Owns.nil ?_
 refine f_seq fun K1 kh1 => ?_
 refine f_region ?_
 refine f_step rfl rfl rfl (o_box rfl rfl fun b2 => ?_)
 refine f_stepP rfl rfl rfl (o_assign rfl) ?_
 refine f_done ?_
 refine f_tn (kh1 _ _ ?_)
 clear kh1
 refine f_seq fun K2 kh2 => ?_
 refine f_region ?_
 refine f_stepP rfl rfl rfl (o_field fa24_0 rfl) ?_
 refine f_stepP rfl rfl rfl (o_load Try.isAgg3 rfl (rdA rfl)) ?_
 refine f_step rfl rfl rfl (o_make el35 rfl rfl n rfl (by omega) (by omega) (nats (List.replicate n 0)) (nats_replicate n) fun b13 => ?_)
 refine f_stepP rfl rfl rfl (o_assign rfl) ?_
 refine f_done ?_
 refine f_tn (kh2 _ _ ?_)
 clear kh2
 refine f_seq fun K3 kh3 => ?_
 refine f_seq fun K4 kh4 => ?_
 refine f_region ?_
 refine f_stepP rfl rfl rfl (o_assign rfl) ?_
 refine f_done ?_
 refine f_tn (kh4 _ _ ?_)
 clear kh4
 refine f_block ?_
 refine f_loop (α := Nat × List Nat) [1, 2, 5] (fun ⟨k, up⟩ => [(6, .int .i64 (k : Int))]) (fun ⟨k, up⟩ => [[(b13, blk (nats up) 3)], [(b2, blk [.int .i64 (n : Int), .slice A l.length cap] 24)]]) (fun ⟨k, up⟩ => k ≤ n ∧ up.length = n ∧ ∀ j (h : j < up.length), j < k → up[j] = j) (fun ⟨k, up⟩ => n - k) (0, List.replicate n 0) ?_ ?_ ?_ ?_
 · exact (by repeat (first | exact trivial | refine ⟨rfl, ?_⟩))
 · repeat (first | exact Sub.nil | refine Sub.pick ?_ | refine Sub.castO rfl ?_ | refine Sub.skip ?_)
 · exact ⟨by omega, by simp, fun j _ h => by omega⟩
 ·
  rintro ⟨k, up⟩ ⟨hkn, hul, hup⟩
  refine f_seq fun K5 kh5 => ?_
  refine f_seq fun K6 kh6 => ?_
  refine f_region ?_
  refine f_stepP rfl rfl rfl (o_move rfl) ?_
  refine f_stepP rfl rfl rfl (o_field fa24_0 rfl) ?_
  refine f_stepP rfl rfl rfl (o_load Try.isAgg3 rfl (rdA rfl)) ?_
  refine f_stepP rfl rfl rfl (o_lss rfl rfl) ?_
  refine f_done ?_
  refine f_tn (kh6 _ _ ?_)
  clear kh6
  refine f_cond rfl (fun c17 => ?_) (fun c17 => ?_)
  ·
   refine f_skip ?_
   refine f_tn (kh5 _ _ ?_)
   clear kh5
   refine f_seq fun K7 kh7 => ?_
   refine f_block ?_
   refine f_region ?_
   refine f_stepP rfl rfl rfl (o_move rfl) ?_
   refine f_stepP rfl rfl rfl (o_move rfl) ?_
   refine f_stepP rfl rfl rfl (o_move rfl) ?_
   have hk : k < n := by omega
   refine f_stepP rfl rfl rfl (o_idx sl35 rfl rfl (k) ⟨by omega, by omega, by first | omega | (simp; done) | (simp; omega)⟩) ?_
   refine f_step0 rfl rfl (o_store Try.sizeOf3 rfl rfl rfl rfl (by rw [nats_length]; omega) (nats (up.set k k)) (nats_set _ _ _) ?_)
   refine f_done ?_
   refine f_bn ?_
   refine f_tn (kh7 _ _ ?_)
   clear kh7
   refine f_region ?_
   refine f_stepP rfl rfl rfl (o_move rfl) ?_
   refine f_stepP rfl rfl rfl (o_add rfl rfl _ (wrap_i64 (by omega))) ?_
   refine f_stepP rfl rfl rfl (o_assign rfl) ?_
   refine f_done ?_
   refine f_tn (f_again (k + 1, up.set k k) (by first | omega | (dsimp only; omega) | (simp; omega)) ⟨by omega, by simp [hul], fun j h hj => by rw [List.getElem_set]; split <;> first | assumption | exact hup j (by simpa using h) (by omega)⟩ ?_ ?_ ?_)
   · exact (by repeat (first | exact trivial | refine ⟨rfl, ?_⟩))
   · exact (by repeat (first | exact trivial | refine ⟨rfl, ?_⟩))
   · repeat (first | exact Sub.nil | refine Sub.pick ?_ | refine Sub.castO rfl ?_ | refine Sub.skip ?_)
  ·
   refine f_exit ?_
   refine f_te ?_
   clear kh5
   refine f_te ?_
   refine f_be ?_
   refine f_tn (kh3 _ _ ?_)
   clear kh3
   refine f_seq fun K8 kh8 => ?_
   refine f_seq fun K9 kh9 => ?_
   refine f_region ?_
   refine f_stepP rfl rfl rfl (o_assign rfl) ?_
   refine f_done ?_
   refine f_tn (kh9 _ _ ?_)
   clear kh9
   refine f_block ?_
   have hup0 := up_range hul (fun j h => hup j h (by omega))
   refine f_loop (α := Bool × List Nat) [1, 2, 5] (fun ⟨ag, o⟩ => [(7, .bool ag)]) (fun ⟨ag, o⟩ => [[(b13, blk (nats o) 3)], [(b2, blk [.int .i64 (n : Int), .slice A l.length cap] 24)]]) (fun ⟨ag, o⟩ => CI (ends2 (l.filter q)) n o ∧ (ag = false → ∀ j (hj : j < l.length), q l[j] = true → o.getD l[j].src.toNat 0 = o.getD l[j].dst.toNat 0)) (fun ⟨ag, o⟩ => if ag then nsum o + 1 else 0) (true, up) ?_ ?_ ?_ ?_
   · exact (by repeat (first | exact trivial | refine ⟨rfl, ?_⟩))
   · repeat (first | exact Sub.nil | refine Sub.pick ?_ | refine Sub.castO rfl ?_ | refine Sub.skip ?_)
   · exact ⟨by rw [hup0]; exact CI.start _ _, fun h => by cases h⟩
   ·
    rintro ⟨ag, o⟩ ⟨hCI, hag⟩
    have hol := hCI.len
    refine f_envC (e := [(7, _), (1, _), (2, _), (5, _)]) (by repeat (first | exact trivial | refine ⟨rfl, ?_⟩)) ?_
    refine f_seq fun K10 kh10 => ?_
    refine f_seq fun K11 kh11 => ?_
    refine f_region ?_
    refine f_stepP rfl rfl rfl (o_move rfl) ?_
    refine f_done ?_
    refine f_tn (kh11 _ _ ?_)
    clear kh11
    refine f_condB rfl (fun c24 => ?_) (fun c24 => ?_)
    ·
     refine f_skip ?_
     refine f_tn (kh10 _ _ ?_)
     clear kh10
     refine f_block ?_
     refine f_seq fun K12 kh12 => ?_
     refine f_region ?_
     refine f_stepP rfl rfl rfl (o_assign rfl) ?_
     refine f_done ?_
     refine f_tn (kh12 _ _ ?_)
     clear kh12
     refine f_seq fun K13 kh13 => ?_
     refine f_region ?_
     refine f_stepP rfl rfl rfl (o_assign rfl) ?_
     refine f_done ?_
     refine f_tn (kh13 _ _ ?_)
     clear kh13
     refine f_block ?_
     refine f_loop (α := Nat × Bool × List Nat) [1, 2, 5] (fun ⟨i, ag2, o2⟩ => [(8, .int .i64 (i : Int)), (7, .bool ag2)]) (fun ⟨i, ag2, o2⟩ => [[(b13, blk (nats o2) 3)], [(b2, blk [.int .i64 (n : Int), .slice A l.length cap] 24)]]) (fun ⟨i, ag2, o2⟩ => i ≤ l.length ∧ CI (ends2 (l.filter q)) n o2 ∧ (ag2 = false → (∀ j (hj : j < l.length), j < i → q l[j] = true → o2.getD l[j].src.toNat 0 = o2.getD l[j].dst.toNat 0) ∧ o2 = o) ∧ (ag2 = true → nsum o2 < nsum o)) (fun ⟨i, ag2, o2⟩ => l.length - i) (0, false, o) ?_ ?_ ?_ ?_
     · exact (by repeat (first | exact trivial | refine ⟨rfl, ?_⟩))
     · repeat (first | exact Sub.nil | refine Sub.pick ?_ | refine Sub.castO rfl ?_ | refine Sub.skip ?_)
     · exact ⟨Nat.zero_le _, hCI, fun _ => ⟨fun j _ h => by omega, rfl⟩, fun h => by cases h⟩
     ·
      rintro ⟨i, ag2, o2⟩ ⟨hil, hCI2, hF2, hT2⟩
      have hol2 := hCI2.len
      refine f_envC (e := [(8, _), (7, _), (1, _), (2, _), (5, _)]) (by repeat (first | exact trivial | refine ⟨rfl, ?_⟩)) ?_
      refine f_seq fun K14 kh14 => ?_
      refine f_seq fun K15 kh15 => ?_
      refine f_region ?_
      refine f_stepP rfl rfl rfl (o_move rfl) ?_
      refine f_stepP rfl rfl rfl (o_field fa24_1 rfl) ?_
      refine f_stepP rfl rfl rfl (o_load Try.isAgg22 rfl (rdA rfl)) ?_
      refine f_stepP rfl rfl rfl (o_len sl22 rfl) ?_
      refine f_stepP rfl rfl rfl (o_lss rfl rfl) ?_
      refine f_done ?_
      refine f_tn (kh15 _ _ ?_)
      clear kh15
      refine f_cond rfl (fun c29 => ?_) (fun c29 => ?_)
      ·
       refine f_skip ?_
       refine f_tn (kh14 _ _ ?_)
       clear kh14
       refine f_seq fun K16 kh16 => ?_
       refine f_block ?_
       refine f_seq fun K17 kh17 => ?_
       refine f_region ?_
       refine f_stepP rfl rfl rfl (o_field fa24_1 rfl) ?_
       refine f_stepP rfl rfl rfl (o_load Try.isAgg22 rfl (rdA rfl)) ?_
       refine f_stepP rfl rfl rfl (o_move rfl) ?_
       have hi : i < l.length := by omega
       obtain ⟨bq, off, rfl, hS, hc⟩ := hr (flat_ne arcCs arcCs_len (by omega) hi)
       have hgi := hgood i hi
       obtain ⟨a, haa⟩ : ∃ a, l[i].src.toNat = a := ⟨_, rfl⟩
       obtain ⟨b, hbb⟩ : ∃ b, l[i].dst.toNat = b := ⟨_, rfl⟩
       have ha : a < o2.length := by omega
       have hb' : b < o2.length := by omega
       have hga : o2.getD l[i].src.toNat 0 = o2[a] := by rw [haa]; simp [List.getD_eq_getElem?_getD, ha]
       have hgb : o2.getD l[i].dst.toNat 0 = o2[b] := by rw [hbb]; simp [List.getD_eq_getElem?_getD, hb']
       obtain ⟨bc, oc, rfl, hSc, hcc⟩ := hb (map_ne (k := i) (by simpa using hi))
       refine f_stepP rfl rfl rfl (o_idx sl22 rfl rfl (off + i * 3) ⟨by omega, by omega, by first | omega | (simp; done) | (simp; omega)⟩) ?_
       refine f_stepP rfl rfl rfl (o_loadA (vs := arcCs l[i]) Try.isAgg55 Try.sizeOf55 rfl rfl (roElem arcCs_len hS hc hi)) ?_
       refine f_step rfl rfl rfl (o_alloc Try.zeroValue55 rfl fun b9 => ?_)
       refine f_step0 rfl rfl (o_storeA Try.sizeOf55 rfl rfl rfl rfl (by first | exact Nat.le_of_ble_eq_true rfl | (simp; done) | (simp; omega)) (arcCs l[i]) rfl ?_)
       refine f_done ?_
       refine f_tn (kh17 _ _ ?_)
       clear kh17
       refine f_seq fun K18 kh18 => ?_
       refine f_regionT 11 rfl (by decide +kernel) ?_
       refine f_stillP rfl rfl rfl (o_move rfl) ?_
       refine f_stillP rfl rfl rfl (o_field fa55_0 rfl) ?_
       refine f_stillP rfl rfl rfl (o_load Try.isAgg3 rfl (rdA rfl)) ?_
       refine f_stillP rfl rfl rfl (o_idx sl35 rfl rfl (a) ⟨by omega, by omega, by first | omega | (simp; done) | (simp; omega)⟩) ?_
       refine f_stillP rfl rfl rfl (o_load Try.isAgg3 rfl (rdA (nats_get ha))) ?_
       refine f_stillP rfl rfl rfl (o_move rfl) ?_
       refine f_stillP rfl rfl rfl (o_field fa55_1 rfl) ?_
       refine f_stillP rfl rfl rfl (o_load Try.isAgg3 rfl (rdA rfl)) ?_
       refine f_stillP rfl rfl rfl (o_idx sl35 rfl rfl (b) ⟨by omega, by omega, by first | omega | (simp; done) | (simp; omega)⟩) ?_
       refine f_stillP rfl rfl rfl (o_load Try.isAgg3 rfl (rdA (nats_get hb'))) ?_
       refine f_stillP rfl rfl rfl (o_min rfl rfl) ?_
       refine f_stillD (f_tail ?_)
       refine f_stepP rfl rfl rfl (o_assign rfl) ?_
       refine f_done ?_
       refine f_tn (kh18 _ _ ?_)
       clear kh18
       refine f_seq fun K19 kh19 => ?_
       refine f_regionS rfl (by decide +kernel) ?_
       refine f_stillP rfl rfl rfl (o_move rfl) ?_
       refine f_stillP rfl rfl rfl (o_move rfl) ?_
       refine f_stillP rfl rfl rfl (o_idx sl42 rfl rfl (oc + i) ⟨by omega, by omega, by first | omega | (simp; done) | (simp; omega)⟩) ?_
       refine f_stillP rfl rfl rfl (o_load Try.isAgg4 rfl (rdS hSc (v := .bool (q l[i])) (hcc i _ (by simp [hi])))) ?_
       refine f_stillP rfl rfl rfl (o_move rfl) ?_
       refine f_splitSB 52 rfl (fun g52 => ?_) (fun g52 => ?_)
       ·
        have hmem : (a, b) ∈ ends2 (l.filter q) := List.mem_map.2 ⟨l[i], List.mem_filter.2 ⟨List.getElem_mem hi, g52⟩, by rw [haa, hbb]⟩
        refine f_stillPY rfl rfl rfl rfl rfl (o_move rfl) ?_
        refine f_stillPY rfl rfl rfl rfl rfl (o_field fa55_0 rfl) ?_
        refine f_stillPY rfl rfl rfl rfl rfl (o_load Try.isAgg3 rfl (rdA rfl)) ?_
        refine f_stillPY rfl rfl rfl rfl rfl (o_idx sl35 rfl rfl (a) ⟨by omega, by omega, by first | omega | (simp; done) | (simp; omega)⟩) ?_
        refine f_stillPY rfl rfl rfl rfl rfl (o_load Try.isAgg3 rfl (rdA (nats_get ha))) ?_
        refine f_stillPY rfl rfl rfl rfl rfl (o_move rfl) ?_
        refine f_stillPY rfl rfl rfl rfl rfl (o_field fa55_1 rfl) ?_
        refine f_stillPY rfl rfl rfl rfl rfl (o_load Try.isAgg3 rfl (rdA rfl)) ?_
        refine f_stillPY rfl rfl rfl rfl rfl (o_idx sl35 rfl rfl (b) ⟨by omega, by omega, by first | omega | (simp; done) | (simp; omega)⟩) ?_
        refine f_stillPY rfl rfl rfl rfl rfl (o_load Try.isAgg3 rfl (rdA (nats_get hb'))) ?_
        refine f_stillPY rfl rfl rfl rfl rfl (o_neq rfl rfl) ?_
        refine f_stillP rfl rfl rfl (o_pickT rfl rfl) ?_
        refine f_stillD ?_
        refine f_tn (kh19 _ _ ?_)
        clear kh19
        refine f_cond rfl (fun c64 => ?_) (fun c64 => ?_)
        ·
         refine f_seq fun K20 kh20 => ?_
         refine f_regionH [[(b9, blk (arcCs l[i]) 55)]] rfl ?_
         refine f_take 0 rfl (by decide +kernel) rfl rfl rfl (by repeat (first | exact Sub.nil | refine Sub.pick ?_ | refine Sub.castO rfl ?_ | refine Sub.skip ?_)) (o_move rfl) ?_
         refine f_take 1 rfl (by decide +kernel) rfl rfl rfl (by repeat (first | exact Sub.nil | refine Sub.pick ?_ | refine Sub.castO rfl ?_ | refine Sub.skip ?_)) (o_field fa55_0 rfl) ?_
         refine f_take 2 rfl (by decide +kernel) rfl rfl rfl (by repeat (first | exact Sub.nil | refine Sub.pick ?_ | refine Sub.castO rfl ?_ | refine Sub.skip ?_)) (o_load Try.isAgg3 rfl (rdA rfl)) ?_
         refine f_take 3 rfl (by decide +kernel) rfl rfl rfl (by repeat (first | exact Sub.nil | refine Sub.pick ?_ | refine Sub.castO rfl ?_ | refine Sub.skip ?_)) (o_move rfl) ?_
         refine f_take 4 rfl (by decide +kernel) rfl rfl rfl (by repeat (first | exact Sub.nil | refine Sub.pick ?_ | refine Sub.castO rfl ?_ | refine Sub.skip ?_)) (o_field fa55_1 rfl) ?_
         refine f_take 5 rfl (by decide +kernel) rfl rfl rfl (by repeat (first | exact Sub.nil | refine Sub.pick ?_ | refine Sub.castO rfl ?_ | refine Sub.skip ?_)) (o_load Try.isAgg3 rfl (rdA rfl)) ?_
         refine f_take 6 rfl (by decide +kernel) rfl rfl rfl (by repeat (first | exact Sub.nil | refine Sub.pick ?_ | refine Sub.castO rfl ?_ | refine Sub.skip ?_)) (o_move rfl) ?_
         refine f_take 7 rfl (by decide +kernel) rfl rfl rfl (by repeat (first | exact Sub.nil | refine Sub.pick ?_ | refine Sub.castO rfl ?_ | refine Sub.skip ?_)) (o_move rfl) ?_
         refine f_take 8 rfl (by decide +kernel) rfl rfl rfl (by repeat (first | exact Sub.nil | refine Sub.pick ?_ | refine Sub.castO rfl ?_ | refine Sub.skip ?_)) (o_idx sl35 rfl rfl (a) ⟨by omega, by omega, by first | omega | (simp; done) | (simp; omega)⟩) ?_
         refine f_only0 9 rfl (by decide +kernel) rfl rfl (o_store Try.sizeOf3 rfl rfl rfl rfl (by rw [nats_length]; omega) (nats (o2.set a (min o2[a] o2[b]))) (by rw [← nats_set]; congr 2; omega) ⟨(by repeat (first | exact Sub.nil | refine Sub.pick ?_ | refine Sub.castO rfl ?_ | refine Sub.skip ?_)), ?_⟩)
         refine f_take 10 rfl (by decide +kernel) rfl rfl rfl (by repeat (first | exact Sub.nil | refine Sub.pick ?_ | refine Sub.castO rfl ?_ | refine Sub.skip ?_)) (o_idx sl35 rfl rfl (b) ⟨by omega, by omega, by first | omega | (simp; done) | (simp; omega)⟩) ?_
         refine f_only0 11 rfl (by decide +kernel) rfl rfl (o_store Try.sizeOf3 rfl rfl rfl rfl (by rw [nats_length, List.length_set]; omega) (nats ((o2.set a (min o2[a] o2[b])).set b (min o2[a] o2[b]))) (by rw [show min (o2[a] : Int) (o2[b] : Int) = ((min o2[a] o2[b] : Nat) : Int) by omega]; exact nats_set _ _ _) ⟨(by repeat (first | exact Sub.nil | refine Sub.pick ?_ | refine Sub.castO rfl ?_ | refine Sub.skip ?_)), ?_⟩)
         refine f_over (by decide +kernel) ?_
         refine f_tn (kh20 _ _ ?_)
         clear kh20
         refine f_region ?_
         refine f_stepP rfl rfl rfl (o_assign rfl) ?_
         refine f_done ?_
         refine f_bn ?_
         refine f_tn (kh16 _ _ ?_)
         clear kh16
         refine f_region ?_
         refine f_stepP rfl rfl rfl (o_move rfl) ?_
         refine f_stepP rfl rfl rfl (o_add rfl rfl _ (wrap_i64 (by omega))) ?_
         refine f_stepP rfl rfl rfl (o_assign rfl) ?_
         refine f_done ?_
         refine f_tn (f_again (i + 1, true, (o2.set a (min o2[a] o2[b])).set b (min o2[a] o2[b])) (by first | omega | (dsimp only; omega) | (simp; omega)) ⟨by omega, hCI2.join ha hb' hmem, (fun h => by cases h), fun _ => by
           have h1 := nsum_join ha hb' (show o2[a] ≠ o2[b] by omega)
           cases ag2 with
           | false => exact Nat.lt_of_lt_of_eq h1 (congrArg nsum (hF2 rfl).2)
           | true => have := hT2 rfl; omega⟩ ?_ ?_ ?_)
         · exact (by repeat (first | exact trivial | refine ⟨rfl, ?_⟩))
         · exact (by repeat (first | exact trivial | refine ⟨rfl, ?_⟩))
         · repeat (first | exact Sub.nil | refine Sub.pick ?_ | refine Sub.castO rfl ?_ | refine Sub.skip ?_)
        ·
         refine f_skip ?_
         refine f_bn ?_
         refine f_tn (kh16 _ _ ?_)
         clear kh16
         refine f_region ?_
         refine f_stepP rfl rfl rfl (o_move rfl) ?_
         refine f_stepP rfl rfl rfl (o_add rfl rfl _ (wrap_i64 (by omega))) ?_
         refine f_stepP rfl rfl rfl (o_assign rfl) ?_
         refine f_done ?_
         refine f_tn (f_again (i + 1, ag2, o2) (by first | omega | (dsimp only; omega) | (simp; omega)) ⟨by omega, hCI2, fun h => ⟨fun j hj hji hq => by
           by_cases e : j = i
           · subst e; rw [hga, hgb]; omega
           · exact (hF2 h).1 j hj (by omega) hq, (hF2 h).2⟩, hT2⟩ ?_ ?_ ?_)
         · exact (by repeat (first | exact trivial | refine ⟨rfl, ?_⟩))
         · exact (by repeat (first | exact trivial | refine ⟨rfl, ?_⟩))
         · repeat (first | exact Sub.nil | refine Sub.pick ?_ | refine Sub.castO rfl ?_ | refine Sub.skip ?_)
       ·
        refine f_stillN rfl rfl rfl rfl rfl rfl ?_
        refine f_stillN rfl rfl rfl rfl rfl rfl ?_
        refine f_stillN rfl rfl rfl rfl rfl rfl ?_
        refine f_stillN rfl rfl rfl rfl rfl rfl ?_
        refine f_stillN rfl rfl rfl rfl rfl rfl ?_
        refine f_stillN rfl rfl rfl rfl rfl rfl ?_
        refine f_stillN rfl rfl rfl rfl rfl rfl ?_
        refine f_stillN rfl rfl rfl rfl rfl rfl ?_
        refine f_stillN rfl rfl rfl rfl rfl rfl ?_
        refine f_stillN rfl rfl rfl rfl rfl rfl ?_
        refine f_stillN rfl rfl rfl rfl rfl rfl ?_
        refine f_stillP rfl rfl rfl (o_pickF rfl rfl) ?_
        refine f_stillD ?_
        refine f_tn (kh19 _ _ ?_)
        clear kh19
        refine f_condF rfl ?_
        refine f_skip ?_
        refine f_bn ?_
        refine f_tn (kh16 _ _ ?_)
        clear kh16
        refine f_region ?_
        refine f_stepP rfl rfl rfl (o_move rfl) ?_
        refine f_stepP rfl rfl rfl (o_add rfl rfl _ (wrap_i64 (by omega))) ?_
        refine f_stepP rfl rfl rfl (o_assign rfl) ?_
        refine f_done ?_
        refine f_tn (f_again (i + 1, ag2, o2) (by first | omega | (dsimp only; omega) | (simp; omega)) ⟨by omega, hCI2, fun h => ⟨fun j hj hji hq => by
          by_cases e : j = i
          · subst e; rw [hq] at g52; cases g52
          · exact (hF2 h).1 j hj (by omega) hq, (hF2 h).2⟩, hT2⟩ ?_ ?_ ?_)
        · exact (by repeat (first | exact trivial | refine ⟨rfl, ?_⟩))
        · exact (by repeat (first | exact trivial | refine ⟨rfl, ?_⟩))
        · repeat (first | exact Sub.nil | refine Sub.pick ?_ | refine Sub.castO rfl ?_ | refine Sub.skip ?_)
      ·
       refine f_exit ?_
       refine f_te ?_
       clear kh14
       refine f_te ?_
       refine f_be ?_
       refine f_bn ?_
       refine f_tn (f_again (ag2, o2) (by
         show (if ag2 then nsum o2 + 1 else 0) < (if ag then nsum o + 1 else 0)
         rw [c24]
         cases ag2 with
         | false => simp
         | true => have := hT2 rfl; simp; omega) ⟨hCI2, fun h => by
         obtain ⟨h1, _⟩ := hF2 h
         exact fun j hj => h1 j hj (by omega)⟩ ?_ ?_ ?_)
       · exact (by repeat (first | exact trivial | refine ⟨rfl, ?_⟩))
       · exact (by repeat (first | exact trivial | refine ⟨rfl, ?_⟩))
       · repeat (first | exact Sub.nil | refine Sub.pick ?_ | refine Sub.castO rfl ?_ | refine Sub.skip ?_)
    ·
     refine f_exit ?_
     refine f_te ?_
     clear kh10
     refine f_te ?_
     refine f_be ?_
     refine f_tn (kh8 _ _ ?_)
     clear kh8
     refine f_seq fun K21 kh21 => ?_
     have hall := hag c24
     refine f_region ?_
     refine f_stepP rfl rfl rfl (o_move rfl) ?_
     refine f_step rfl rfl rfl (o_call Try.call77 rfl (fun w_ hp_ => (by have h := RTidy_spec (some ⟨b13, 0, none⟩) o n w_ (roOwn (b := b13) hp_ (fun j v hj => hj)) (by omega); rw [hol] at h; exact h)) ?_)
     rintro _ _ ⟨P, bP, rfl, rfl, hP⟩
     dsimp only [List.cons_append, List.nil_append]
     refine f_stepP rfl rfl rfl (o_assign rfl) ?_
     refine f_done ?_
     refine f_tn (kh21 _ _ ?_)
     clear kh21
     refine f_ret ?_
     exact f_fin1 [[(bP, blk (nats P) 3)]] Try.results60 rfl (by repeat (first | exact Sub.nil | refine Sub.pick ?_ | refine Sub.castO rfl ?_)) ⟨P, bP, rfl, rfl, hCI.done (fun e he => by obtain ⟨x, hx, rfl⟩ := List.mem_map.1 he; obtain ⟨hx1, hx2⟩ := List.mem_filter.1 hx; obtain ⟨j, hj, rfl⟩ := List.mem_iff_getElem.1 hx1; exact hall j hj hx2) hP⟩

set_option maxRecDepth 100000 in
set_option maxHeartbeats 4000000 in
theorem RParted_spec (n : Nat) (A B : Option Addr) (l : List Arc) (cap : Nat) (M : List Pr) (cb : Nat) (w : World) (hr : Ro (Fr w []) w A (l.flatMap arcCs)) (hg : (gcheck (n : Int) l).2 = 0) (hM : Ro (Fr w []) w B (M.flatMap prCs)) (hm : M.length ≤ 9223372036854775807) :
    Meets Try.prog 39 [.agg #[.int .i64 (n : Int), .slice A l.length cap], .slice B M.length cb] w [] (fun u own' => ∃ p b, u = .slice (some ⟨b, 0, none⟩) n n ∧ own' = [[(b, blk (nats p) 3)]] ∧ IsParts n (ends2 (keepA M l)) p) := by
 obtain ⟨hg1, hg2, hgl, hgd⟩ := gcheck_zero hg
 refine f_enter Try.func39 rfl Try.ntmps39 rfl Owns.nil ?_
 refine f_seq fun K1 kh1 => ?_
 refine f_region ?_
 refine f_step rfl rfl rfl (o_box rfl rfl fun b2 => ?_)
 refine f_stepP rfl rfl rfl (o_assign rfl) ?_
 refine f_done ?_
 refine f_tn (kh1 _ _ ?_)
 clear kh1
 refine f_seq fun K2 kh2 => ?_
 refine f_region ?_
 refine f_stepP rfl rfl rfl (o_field fa24_1 rfl) ?_
 refine f_stepP rfl rfl rfl (o_load Try.isAgg22 rfl (rdA rfl)) ?_
 refine f_stepP rfl rfl rfl (o_len sl22 rfl) ?_
 refine f_step rfl rfl rfl (o_make el42 rfl rfl l.length rfl (by omega) (by omega) ((List.replicate l.length false).map .bool) (bools_rep3 false _) fun b11 => ?_)
 refine f_stepP rfl rfl rfl (o_assign rfl) ?_
 refine f_done ?_
 refine f_tn (kh2 _ _ ?_)
 clear kh2
 refine f_seq fun K3 kh3 => ?_
 refine f_seq fun K4 kh4 => ?_
 refine f_region ?_
 refine f_stepP rfl rfl rfl (o_assign rfl) ?_
 refine f_done ?_
 refine f_tn (kh4 _ _ ?_)
 clear kh4
 refine f_block ?_
 refine f_loop (α := Nat × List Bool) [1, 2, 5] (fun ⟨i, sd⟩ => [(6, .int .i64 (i : Int))]) (fun ⟨i, sd⟩ => [[(b11, blk (sd.map .bool) 4)], [(b2, blk [.int .i64 (n : Int), .slice A l.length cap] 24)]]) (fun ⟨i, sd⟩ => i ≤ l.length ∧ sd.length = l.length ∧ ∀ j (h : j < l.length), j < i → sd.getD j false = !decide (prOf l[j] ∈ M)) (fun ⟨i, sd⟩ => l.length - i) (0, List.replicate l.length false) ?_ ?_ ?_ ?_
 · exact (by repeat (first | exact trivial | refine ⟨rfl, ?_⟩))
 · repeat (first | exact Sub.nil | refine Sub.pick ?_ | refine Sub.castO rfl ?_ | refine Sub.skip ?_)
 · exact ⟨Nat.zero_le _, by simp, fun j _ h => by omega⟩
 ·
  rintro ⟨i, sd⟩ ⟨hil, hsl, hsu⟩
  refine f_seq fun K5 kh5 => ?_
  refine f_seq fun K6 kh6 => ?_
  refine f_region ?_
  refine f_stepP rfl rfl rfl (o_move rfl) ?_
  refine f_stepP rfl rfl rfl (o_field fa24_1 rfl) ?_
  refine f_stepP rfl rfl rfl (o_load Try.isAgg22 rfl (rdA rfl)) ?_
  refine f_stepP rfl rfl rfl (o_len sl22 rfl) ?_
  refine f_stepP rfl rfl rfl (o_lss rfl rfl) ?_
  refine f_done ?_
  refine f_tn (kh6 _ _ ?_)
  clear kh6
  refine f_cond rfl (fun c16 => ?_) (fun c16 => ?_)
  ·
   refine f_skip ?_
   refine f_tn (kh5 _ _ ?_)
   clear kh5
   refine f_seq fun K7 kh7 => ?_
   refine f_block ?_
   refine f_seq fun K8 kh8 => ?_
   refine f_region ?_
   refine f_stepP rfl rfl rfl (o_field fa24_1 rfl) ?_
   refine f_stepP rfl rfl rfl (o_load Try.isAgg22 rfl (rdA rfl)) ?_
   refine f_stepP rfl rfl rfl (o_move rfl) ?_
   have hi : i < l.length := by omega
   obtain ⟨bq, off, rfl, hS, hc⟩ := hr (flat_ne arcCs arcCs_len (by omega) hi)
   refine f_stepP rfl rfl rfl (o_idx sl22 rfl rfl (off + i * 3) ⟨by omega, by omega, by first | omega | (simp; done) | (simp; omega)⟩) ?_
   refine f_stepP rfl rfl rfl (o_loadA (vs := arcCs l[i]) Try.isAgg55 Try.sizeOf55 rfl rfl (roElem arcCs_len hS hc hi)) ?_
   refine f_step rfl rfl rfl (o_alloc Try.zeroValue55 rfl fun b7 => ?_)
   refine f_step0 rfl rfl (o_storeA Try.sizeOf55 rfl rfl rfl rfl (by first | exact Nat.le_of_ble_eq_true rfl | (simp; done) | (simp; omega)) (arcCs l[i]) rfl ?_)
   refine f_done ?_
   refine f_tn (kh8 _ _ ?_)
   clear kh8
   refine f_region ?_
   refine f_stepP rfl rfl rfl (o_move rfl) ?_
   refine f_stepP rfl rfl rfl (o_move rfl) ?_
   refine f_stepP rfl rfl rfl (o_move rfl) ?_
   refine f_stepP rfl rfl rfl (o_field fa55_0 rfl) ?_
   refine f_stepP rfl rfl rfl (o_load Try.isAgg3 rfl (rdA rfl)) ?_
   refine f_stepP rfl rfl rfl (o_field fa55_1 rfl) ?_
   refine f_stepP rfl rfl rfl (o_load Try.isAgg3 rfl (rdA rfl)) ?_
   refine f_stepP rfl rfl rfl (o_min rfl rfl) ?_
   refine f_stepP rfl rfl rfl (o_field fa55_0 rfl) ?_
   refine f_stepP rfl rfl rfl (o_load Try.isAgg3 rfl (rdA rfl)) ?_
   refine f_stepP rfl rfl rfl (o_field fa55_1 rfl) ?_
   refine f_stepP rfl rfl rfl (o_load Try.isAgg3 rfl (rdA rfl)) ?_
   refine f_stepP rfl rfl rfl (o_max rfl rfl) ?_
   refine f_stepP rfl rfl rfl (o_build (cs := prCs (prOf l[i])) st47 rfl rfl) ?_
   refine f_step rfl rfl rfl (o_call Try.call59 rfl (fun w_ hp_ => Rhas_spec B M cb (prOf l[i]) w_ (hM.up0 hp_) hm) ?_)
   rintro _ _ ⟨rfl, rfl⟩
   dsimp only [List.cons_append, List.nil_append]
   refine f_stepP rfl rfl rfl (o_not rfl) ?_
   refine f_stepP rfl rfl rfl (o_idx sl42 rfl rfl (i) ⟨by omega, by omega, by first | omega | (simp; done) | (simp; omega)⟩) ?_
   refine f_step0 rfl rfl (o_store Try.sizeOf4 rfl rfl rfl rfl (by rw [List.length_map]; omega) ((sd.set i (!decide (prOf l[i] ∈ M))).map .bool) (bools_set3 _ _ _) ?_)
   refine f_done ?_
   refine f_bn ?_
   refine f_tn (kh7 _ _ ?_)
   clear kh7
   refine f_region ?_
   refine f_stepP rfl rfl rfl (o_move rfl) ?_
   refine f_stepP rfl rfl rfl (o_add rfl rfl _ (wrap_i64 (by omega))) ?_
   refine f_stepP rfl rfl rfl (o_assign rfl) ?_
   refine f_done ?_
   refine f_tn (f_again (i + 1, sd.set i (!decide (prOf l[i] ∈ M))) (by first | omega | (dsimp only; omega) | (simp; omega)) ⟨by omega, by simpa using hsl, fun j h hj => by
     rw [gd_set3 (by omega)]
     split
     · rename_i e; subst e; rfl
     · exact hsu j h (by omega)⟩ ?_ ?_ ?_)
   · exact (by repeat (first | exact trivial | refine ⟨rfl, ?_⟩))
   · exact (by repeat (first | exact trivial | refine ⟨rfl, ?_⟩))
   · repeat (first | exact Sub.nil | refine Sub.pick ?_ | refine Sub.castO rfl ?_ | refine Sub.skip ?_)
  ·
   refine f_exit ?_
   refine f_te ?_
   clear kh5
   refine f_te ?_
   refine f_be ?_
   refine f_tn (kh3 _ _ ?_)
   clear kh3
   refine f_seq fun K9 kh9 => ?_
   have hall : sd = l.map (fun a : Arc => !decide (prOf a ∈ M)) := List.ext_getElem (by simpa using hsl) fun j a b => by
     have hj : j < l.length := by omega
     have := hsu j hj (by omega)
     rw [List.getElem_map]
     simpa [List.getD_eq_getElem?_getD, a] using this
   refine f_region ?_
   refine f_stepP rfl rfl rfl (o_loadA (vs := [_, _]) Try.isAgg24 Try.sizeOf24 rfl rfl ⟨(rdA rfl), (rdA rfl), trivial⟩) ?_
   refine f_stepP rfl rfl rfl (o_move rfl) ?_
   refine f_step rfl rfl rfl (o_call Try.call60 rfl (fun w_ hp_ => RConnBy_spec n A l cap (fun a : Arc => !decide (prOf a ∈ M)) (some ⟨b11, 0, none⟩) l.length l.length w_ (hr.up0 hp_) hgl (by omega) hgd (roOwn (b := b11) hp_ (fun j v hj => by rw [hall]; exact hj)) rfl) ?_)
   rintro _ _ ⟨p, bp, rfl, rfl, hp⟩
   dsimp only [List.cons_append, List.nil_append]
   refine f_stepP rfl rfl rfl (o_assign rfl) ?_
   refine f_done ?_
   refine f_tn (kh9 _ _ ?_)
   clear kh9
   refine f_ret ?_
   exact f_fin1 [[(bp, blk (nats p) 3)]] Try.results39 rfl (by repeat (first | exact Sub.nil | refine Sub.pick ?_ | refine Sub.castO rfl ?_ | refine Sub.skip ?_)) ⟨p, bp, rfl, rfl, hp⟩

set_option maxRecDepth 100000 in
set_option maxHeartbeats 4000000 in
theorem RFragments_spec (N : Int) (A B : Option Addr) (l : List Arc) (cap : Nat) (M : List Pr) (cb : Nat) (w : World) (hr : Ro (Fr w []) w A (l.flatMap arcCs)) (hl : l.length ≤ 9223372036854775807) (hN : I64 N) (hok : ∀ x ∈ l, ArcOk x) (hM : Ro (Fr w []) w B (M.flatMap prCs)) (hm : M.length ≤ 9223372036854775807) (hMk : ∀ p ∈ M, I64 p.1 ∧ I64 p.2) :
    Meets Try.prog 16 [.agg #[.int .i64 N, .slice A l.length cap], .slice B M.length cb] w [] (fun u own' => ∃ (P : List Int) (A' : Option Addr) (c : Nat) (m' : Seg), u = .tuple #[.slice A' P.length c, .int .i64 (fragE N l M)] ∧ own' = [m'] ∧ Own 3 1 (.slice A' P.length c) P.length (ints P) m' ∧ (fragE N l M = 0 → ∃ p, P = natN p ∧ IsParts N.toNat (ends2 (keepA M l)) p) ∧ (fragE N l M ≠ 0 → P = [])) := by
 refine f_enter Try.func16 rfl Try.ntmps16 rfl Owns.nil ?_
 refine f_seq fun K1 kh1 => ?_
 refine f_region ?_
 refine f_step rfl rfl rfl (o_box rfl rfl fun b2 => ?_)
 refine f_stepP rfl rfl rfl (o_assign rfl) ?_
 refine f_stepP rfl rfl rfl (o_assign rfl) ?_
 refine f_done ?_
 refine f_tn (kh1 _ _ ?_)
 clear kh1
 refine f_seq fun K2 kh2 => ?_
 refine f_seq fun K3 kh3 => ?_
 refine f_region ?_
 refine f_stepP rfl rfl rfl (o_loadA (vs := [_, _]) Try.isAgg24 Try.sizeOf24 rfl rfl ⟨(rdA rfl), (rdA rfl), trivial⟩) ?_
 refine f_step rfl rfl rfl (o_call Try.call38 rfl (fun w_ hp_ => RCheck3_spec N A l cap w_ (hr.up0 hp_) hl hN hok) ?_)
 rintro _ _ ⟨rfl, rfl⟩
 dsimp only [List.cons_append, List.nil_append]
 refine f_stepP rfl rfl rfl (o_move rfl) ?_
 refine f_stepP rfl rfl rfl (o_extract rfl rfl) ?_
 refine f_stepP rfl rfl rfl (o_extract rfl rfl) ?_
 refine f_stepP rfl rfl rfl (o_assign rfl) ?_
 refine f_stepP rfl rfl rfl (o_assign rfl) ?_
 refine f_done ?_
 refine f_tn (kh3 _ _ ?_)
 clear kh3
 refine f_seq fun K4 kh4 => ?_
 refine f_region ?_
 refine f_stepP rfl rfl rfl (o_move rfl) ?_
 refine f_stepP rfl rfl rfl (o_neq rfl rfl) ?_
 refine f_done ?_
 refine f_tn (kh4 _ _ ?_)
 clear kh4
 refine f_cond rfl (fun c16 => ?_) (fun c16 => ?_)
 ·
  refine f_seq fun K5 kh5 => ?_
  refine f_region ?_
  refine f_stepP rfl rfl rfl (o_move rfl) ?_
  refine f_stepP rfl rfl rfl (o_assign rfl) ?_
  refine f_stepP rfl rfl rfl (o_assign rfl) ?_
  refine f_done ?_
  refine f_tn (kh5 _ _ ?_)
  clear kh5
  refine f_ret ?_
  refine f_tr ?_
  have c16' : (gcheck N l).2 ≠ 0 := by simpa using c16
  have hfe : fragE N l M = (gcheck N l).2 := by unfold fragE; rw [if_pos c16']
  exact f_fin2 [[]] Try.results16 rfl rfl (show Fly.Sub _ [[]] from (by repeat (first | exact Sub.nil | refine Sub.pick ?_ | refine Sub.castO rfl ?_ | refine Sub.skip ?_))) ⟨[], none, 0, [], by rw [hfe]; rfl, rfl, Own.nil _ _, fun h => absurd (hfe.symm.trans h) c16', fun _ => rfl⟩
 ·
  have hg' : (gcheck N l).2 = 0 := by simpa using c16
  obtain ⟨hg1, hg2, hgl, hgd⟩ := gcheck_zero hg'
  obtain ⟨n, rfl⟩ : ∃ n : Nat, N = (n : Int) := ⟨N.toNat, by omega⟩
  have hg : (gcheck (n : Int) l).2 = 0 := hg'
  refine f_skip ?_
  refine f_tn (kh2 _ _ ?_)
  clear kh2
  refine f_seq fun K6 kh6 => ?_
  refine f_seq fun K7 kh7 => ?_
  refine f_region ?_
  refine f_stepP rfl rfl rfl (o_move rfl) ?_
  refine f_stepP rfl rfl rfl (o_len sl28 rfl) ?_
  refine f_stepP rfl rfl rfl (o_gtr rfl rfl) ?_
  refine f_done ?_
  refine f_tn (kh7 _ _ ?_)
  clear kh7
  refine f_cond rfl (fun c20 => ?_) (fun c20 => ?_)
  ·
   refine f_seq fun K8 kh8 => ?_
   refine f_region ?_
   refine f_stepP rfl rfl rfl (o_assign rfl) ?_
   refine f_stepP rfl rfl rfl (o_assign rfl) ?_
   refine f_done ?_
   refine f_tn (kh8 _ _ ?_)
   clear kh8
   refine f_ret ?_
   refine f_tr ?_
   have hfe : fragE (n : Int) l M = 2 := by unfold fragE; rw [if_neg (by rw [hg]; simp), if_pos (by omega)]
   exact f_fin2 [[]] Try.results16 rfl rfl (show Fly.Sub _ [[]] from (by repeat (first | exact Sub.nil | refine Sub.pick ?_ | refine Sub.castO rfl ?_ | refine Sub.skip ?_))) ⟨[], none, 0, [], by rw [hfe]; rfl, rfl, Own.nil _ _, fun h => absurd (hfe.symm.trans h) (by decide), fun _ => rfl⟩
  ·
   refine f_skip ?_
   refine f_tn (kh6 _ _ ?_)
   clear kh6
   refine f_seq fun K9 kh9 => ?_
   refine f_seq fun K10 kh10 => ?_
   refine f_region ?_
   refine f_stepP rfl rfl rfl (o_assign rfl) ?_
   refine f_done ?_
   refine f_tn (kh10 _ _ ?_)
   clear kh10
   refine f_block ?_
   refine f_loop (α := Nat) [1, 2] (fun k => [(8, .int .i64 (k : Int))]) (fun k => [[(b2, blk [.int .i64 (n : Int), .slice A l.length cap] 24)]]) (fun k => k ≤ M.length ∧ fE (n : Int) M = fE (n : Int) (M.drop k)) (fun k => M.length - k) (0) ?_ ?_ ?_ ?_
   · exact (by repeat (first | exact trivial | refine ⟨rfl, ?_⟩))
   · repeat (first | exact Sub.nil | refine Sub.pick ?_ | refine Sub.castO rfl ?_ | refine Sub.skip ?_)
   · exact ⟨Nat.zero_le _, rfl⟩
   ·
    rintro k ⟨hkl, hfe⟩
    refine f_seq fun K11 kh11 => ?_
    refine f_seq fun K12 kh12 => ?_
    refine f_region ?_
    refine f_stepP rfl rfl rfl (o_move rfl) ?_
    refine f_stepP rfl rfl rfl (o_move rfl) ?_
    refine f_stepP rfl rfl rfl (o_len sl28 rfl) ?_
    refine f_stepP rfl rfl rfl (o_lss rfl rfl) ?_
    refine f_done ?_
    refine f_tn (kh12 _ _ ?_)
    clear kh12
    refine f_cond rfl (fun c24 => ?_) (fun c24 => ?_)
    ·
     have hk : k < M.length := by omega
     obtain ⟨bp, op, rfl, hSp, hcp⟩ := hM (flat_ne prCs prCs_len (by omega) hk)
     have hMi := hMk _ (List.getElem_mem hk)
     have hdr := fE_drop (N := (n : Int)) hk
     refine f_skip ?_
     refine f_tn (kh11 _ _ ?_)
     clear kh11
     refine f_seq fun K13 kh13 => ?_
     refine f_block ?_
     refine f_seq fun K14 kh14 => ?_
     refine f_region ?_
     refine f_stepP rfl rfl rfl (o_move rfl) ?_
     refine f_stepP rfl rfl rfl (o_move rfl) ?_
     refine f_stepP rfl rfl rfl (o_idx sl28 rfl rfl (op + k * 2) ⟨by omega, by omega, by first | omega | (simp; done) | (simp; omega)⟩) ?_
     refine f_stepP rfl rfl rfl (o_loadA (vs := prCs M[k]) Try.isAgg47 Try.sizeOf47 rfl rfl (roElem prCs_len hSp hcp hk)) ?_
     refine f_step rfl rfl rfl (o_alloc Try.zeroValue47 rfl fun b9 => ?_)
     refine f_step0 rfl rfl (o_storeA Try.sizeOf47 rfl rfl rfl rfl (by first | exact Nat.le_of_ble_eq_true rfl | (simp; done) | (simp; omega)) (prCs M[k]) rfl ?_)
     refine f_done ?_
     refine f_tn (kh14 _ _ ?_)
     clear kh14
     refine f_seq fun K15 kh15 => ?_
     refine f_seq fun K16 kh16 => ?_
     refine f_region ?_
     refine f_stepP rfl rfl rfl (o_field fa47_0 rfl) ?_
     refine f_stepP rfl rfl rfl (o_load Try.isAgg3 rfl (rdA rfl)) ?_
     refine f_stepP rfl rfl rfl (o_lss rfl rfl) ?_
     refine f_stepP rfl rfl rfl (o_move rfl) ?_
     refine f_splitL 34 rfl (fun g34 => ?_) (fun g34 => ?_)
     ·
      refine f_stepN rfl rfl rfl rfl rfl rfl ?_
      refine f_stepN rfl rfl rfl rfl rfl rfl ?_
      refine f_stepN rfl rfl rfl rfl rfl rfl ?_
      refine f_stepN rfl rfl rfl rfl rfl rfl ?_
      refine f_stepN rfl rfl rfl rfl rfl rfl ?_
      refine f_stepP rfl rfl rfl (o_pickT rfl rfl) ?_
      refine f_stepP rfl rfl rfl (o_move rfl) ?_
      refine f_stepN rfl rfl rfl rfl rfl rfl ?_
      refine f_stepN rfl rfl rfl rfl rfl rfl ?_
      refine f_stepN rfl rfl rfl rfl rfl rfl ?_
      refine f_stepP rfl rfl rfl (o_pickT rfl rfl) ?_
      refine f_stepP rfl rfl rfl (o_move rfl) ?_
      refine f_stepN rfl rfl rfl rfl rfl rfl ?_
      refine f_stepN rfl rfl rfl rfl rfl rfl ?_
      refine f_stepN rfl rfl rfl rfl rfl rfl ?_
      refine f_stepN rfl rfl rfl rfl rfl rfl ?_
      refine f_stepN rfl rfl rfl rfl rfl rfl ?_
      refine f_stepP rfl rfl rfl (o_pickT rfl rfl) ?_
      refine f_done ?_
      refine f_tn (kh16 _ _ ?_)
      clear kh16
      refine f_condT rfl ?_
      refine f_seq fun K17 kh17 => ?_
      refine f_region ?_
      refine f_stepP rfl rfl rfl (o_assign rfl) ?_
      refine f_stepP rfl rfl rfl (o_assign rfl) ?_
      refine f_done ?_
      refine f_tn (kh17 _ _ ?_)
      clear kh17
      refine f_ret ?_
      refine f_tr ?_
      refine f_br ?_
      refine f_tr ?_
      refine f_tr ?_
      refine f_br ?_
      refine f_tr ?_
      have hfe : fragE (n : Int) l M = 5 := by unfold fragE; rw [if_neg (by rw [hg]; simp), if_neg (by omega), hfe, hdr, if_pos (by omega)]
      exact f_fin2 [[]] Try.results16 rfl rfl (show Fly.Sub _ [[]] from (by repeat (first | exact Sub.nil | refine Sub.pick ?_ | refine Sub.castO rfl ?_ | refine Sub.skip ?_))) ⟨[], none, 0, [], by rw [hfe]; rfl, rfl, Own.nil _ _, fun h => absurd (hfe.symm.trans h) (by decide), fun _ => rfl⟩
     ·
      refine f_stepPY rfl rfl rfl rfl rfl (o_field fa47_0 rfl) ?_
      refine f_stepPY rfl rfl rfl rfl rfl (o_load Try.isAgg3 rfl (rdA rfl)) ?_
      refine f_stepPY rfl rfl rfl rfl rfl (o_field fa24_0 rfl) ?_
      refine f_stepPY rfl rfl rfl rfl rfl (o_load Try.isAgg3 rfl (rdA rfl)) ?_
      refine f_stepPY rfl rfl rfl rfl rfl (o_geq rfl rfl) ?_
      refine f_stepP rfl rfl rfl (o_pickF rfl rfl) ?_
      refine f_stepP rfl rfl rfl (o_move rfl) ?_
      refine f_splitL 41 rfl (fun g41 => ?_) (fun g41 => ?_)
      ·
       refine f_stepN rfl rfl rfl rfl rfl rfl ?_
       refine f_stepN rfl rfl rfl rfl rfl rfl ?_
       refine f_stepN rfl rfl rfl rfl rfl rfl ?_
       refine f_stepP rfl rfl rfl (o_pickT rfl rfl) ?_
       refine f_stepP rfl rfl rfl (o_move rfl) ?_
       refine f_stepN rfl rfl rfl rfl rfl rfl ?_
       refine f_stepN rfl rfl rfl rfl rfl rfl ?_
       refine f_stepN rfl rfl rfl rfl rfl rfl ?_
       refine f_stepN rfl rfl rfl rfl rfl rfl ?_
       refine f_stepN rfl rfl rfl rfl rfl rfl ?_
       refine f_stepP rfl rfl rfl (o_pickT rfl rfl) ?_
       refine f_done ?_
       refine f_tn (kh16 _ _ ?_)
       clear kh16
       refine f_condT rfl ?_
       refine f_seq fun K18 kh18 => ?_
       refine f_region ?_
       refine f_stepP rfl rfl rfl (o_assign rfl) ?_
       refine f_stepP rfl rfl rfl (o_assign rfl) ?_
       refine f_done ?_
       refine f_tn (kh18 _ _ ?_)
       clear kh18
       refine f_ret ?_
       refine f_tr ?_
       refine f_br ?_
       refine f_tr ?_
       refine f_tr ?_
       refine f_br ?_
       refine f_tr ?_
       have hfe : fragE (n : Int) l M = 5 := by unfold fragE; rw [if_neg (by rw [hg]; simp), if_neg (by omega), hfe, hdr, if_pos (by omega)]
       exact f_fin2 [[]] Try.results16 rfl rfl (show Fly.Sub _ [[]] from (by repeat (first | exact Sub.nil | refine Sub.pick ?_ | refine Sub.castO rfl ?_ | refine Sub.skip ?_))) ⟨[], none, 0, [], by rw [hfe]; rfl, rfl, Own.nil _ _, fun h => absurd (hfe.symm.trans h) (by decide), fun _ => rfl⟩
      ·
       refine f_stepPY rfl rfl rfl rfl rfl (o_field fa47_1 rfl) ?_
       refine f_stepPY rfl rfl rfl rfl rfl (o_load Try.isAgg3 rfl (rdA rfl)) ?_
       refine f_stepPY rfl rfl rfl rfl rfl (o_lss rfl rfl) ?_
       refine f_stepP rfl rfl rfl (o_pickF rfl rfl) ?_
       refine f_stepP rfl rfl rfl (o_move rfl) ?_
       refine f_splitL 46 rfl (fun g46 => ?_) (fun g46 => ?_)
       ·
        refine f_stepN rfl rfl rfl rfl rfl rfl ?_
        refine f_stepN rfl rfl rfl rfl rfl rfl ?_
        refine f_stepN rfl rfl rfl rfl rfl rfl ?_
        refine f_stepN rfl rfl rfl rfl rfl rfl ?_
        refine f_stepN rfl rfl rfl rfl rfl rfl ?_
        refine f_stepP rfl rfl rfl (o_pickT rfl rfl) ?_
        refine f_done ?_
        refine f_tn (kh16 _ _ ?_)
        clear kh16
        refine f_condT rfl ?_
        refine f_seq fun K19 kh19 => ?_
        refine f_region ?_
        refine f_stepP rfl rfl rfl (o_assign rfl) ?_
        refine f_stepP rfl rfl rfl (o_assign rfl) ?_
        refine f_done ?_
        refine f_tn (kh19 _ _ ?_)
        clear kh19
        refine f_ret ?_
        refine f_tr ?_
        refine f_br ?_
        refine f_tr ?_
        refine f_tr ?_
        refine f_br ?_
        refine f_tr ?_
        have hfe : fragE (n : Int) l M = 5 := by unfold fragE; rw [if_neg (by rw [hg]; simp), if_neg (by omega), hfe, hdr, if_pos (by omega)]
        exact f_fin2 [[]] Try.results16 rfl rfl (show Fly.Sub _ [[]] from (by repeat (first | exact Sub.nil | refine Sub.pick ?_ | refine Sub.castO rfl ?_ | refine Sub.skip ?_))) ⟨[], none, 0, [], by rw [hfe]; rfl, rfl, Own.nil _ _, fun h => absurd (hfe.symm.trans h) (by decide), fun _ => rfl⟩
       ·
        refine f_stepPY rfl rfl rfl rfl rfl (o_field fa47_1 rfl) ?_
        refine f_stepPY rfl rfl rfl rfl rfl (o_load Try.isAgg3 rfl (rdA rfl)) ?_
        refine f_stepPY rfl rfl rfl rfl rfl (o_field fa24_0 rfl) ?_
        refine f_stepPY rfl rfl rfl rfl rfl (o_load Try.isAgg3 rfl (rdA rfl)) ?_
        refine f_stepPY rfl rfl rfl rfl rfl (o_geq rfl rfl) ?_
        refine f_stepP rfl rfl rfl (o_pickF rfl rfl) ?_
        refine f_done ?_
        refine f_tn (kh16 _ _ ?_)
        clear kh16
        refine f_cond rfl (fun c52 => ?_) (fun c52 => ?_)
        ·
         refine f_seq fun K20 kh20 => ?_
         refine f_region ?_
         refine f_stepP rfl rfl rfl (o_assign rfl) ?_
         refine f_stepP rfl rfl rfl (o_assign rfl) ?_
         refine f_done ?_
         refine f_tn (kh20 _ _ ?_)
         clear kh20
         refine f_ret ?_
         refine f_tr ?_
         refine f_br ?_
         refine f_tr ?_
         refine f_tr ?_
         refine f_br ?_
         refine f_tr ?_
         have hfe : fragE (n : Int) l M = 5 := by unfold fragE; rw [if_neg (by rw [hg]; simp), if_neg (by omega), hfe, hdr, if_pos (by omega)]
         exact f_fin2 [[]] Try.results16 rfl rfl (show Fly.Sub _ [[]] from (by repeat (first | exact Sub.nil | refine Sub.pick ?_ | refine Sub.castO rfl ?_ | refine Sub.skip ?_))) ⟨[], none, 0, [], by rw [hfe]; rfl, rfl, Own.nil _ _, fun h => absurd (hfe.symm.trans h) (by decide), fun _ => rfl⟩
        ·
         refine f_skip ?_
         refine f_tn (kh15 _ _ ?_)
         clear kh15
         refine f_seq fun K21 kh21 => ?_
         refine f_region ?_
         refine f_stepP rfl rfl rfl (o_field fa47_0 rfl) ?_
         refine f_stepP rfl rfl rfl (o_load Try.isAgg3 rfl (rdA rfl)) ?_
         refine f_stepP rfl rfl rfl (o_field fa47_1 rfl) ?_
         refine f_stepP rfl rfl rfl (o_load Try.isAgg3 rfl (rdA rfl)) ?_
         refine f_stepP rfl rfl rfl (o_geq rfl rfl) ?_
         refine f_done ?_
         refine f_tn (kh21 _ _ ?_)
         clear kh21
         refine f_cond rfl (fun c57 => ?_) (fun c57 => ?_)
         ·
          refine f_seq fun K22 kh22 => ?_
          refine f_region ?_
          refine f_stepP rfl rfl rfl (o_assign rfl) ?_
          refine f_stepP rfl rfl rfl (o_assign rfl) ?_
          refine f_done ?_
          refine f_tn (kh22 _ _ ?_)
          clear kh22
          refine f_ret ?_
          refine f_br ?_
          refine f_tr ?_
          refine f_tr ?_
          refine f_br ?_
          refine f_tr ?_
          have hfe : fragE (n : Int) l M = 4 := by unfold fragE; rw [if_neg (by rw [hg]; simp), if_neg (by omega), hfe, hdr, if_neg (by omega), if_pos (by omega)]
          exact f_fin2 [[]] Try.results16 rfl rfl (show Fly.Sub _ [[]] from (by repeat (first | exact Sub.nil | refine Sub.pick ?_ | refine Sub.castO rfl ?_ | refine Sub.skip ?_))) ⟨[], none, 0, [], by rw [hfe]; rfl, rfl, Own.nil _ _, fun h => absurd (hfe.symm.trans h) (by decide), fun _ => rfl⟩
         ·
          refine f_skip ?_
          refine f_bn ?_
          refine f_tn (kh13 _ _ ?_)
          clear kh13
          refine f_region ?_
          refine f_stepP rfl rfl rfl (o_move rfl) ?_
          refine f_stepP rfl rfl rfl (o_add rfl rfl _ (wrap_i64 (by omega))) ?_
          refine f_stepP rfl rfl rfl (o_assign rfl) ?_
          refine f_done ?_
          refine f_tn (f_again (k + 1) (by first | omega | (dsimp only; omega) | (simp; omega)) ⟨by omega, hfe.trans (hdr.trans (by rw [if_neg (by omega), if_neg (by omega)]))⟩ ?_ ?_ ?_)
          · exact (by repeat (first | exact trivial | refine ⟨rfl, ?_⟩))
          · exact (by repeat (first | exact trivial | refine ⟨rfl, ?_⟩))
          · repeat (first | exact Sub.nil | refine Sub.pick ?_ | refine Sub.castO rfl ?_ | refine Sub.skip ?_)
    ·
     obtain rfl : k = M.length := by omega
     rw [List.drop_length] at hfe
     have hfz : fragE (n : Int) l M = 0 := by unfold fragE; rw [if_neg (by rw [hg]; simp), if_neg (by omega), hfe]; rfl
     refine f_exit ?_
     refine f_te ?_
     clear kh11
     refine f_te ?_
     refine f_be ?_
     refine f_tn (kh9 _ _ ?_)
     clear kh9
     refine f_seq fun K23 kh23 => ?_
     refine f_region ?_
     refine f_stepP rfl rfl rfl (o_loadA (vs := [_, _]) Try.isAgg24 Try.sizeOf24 rfl rfl ⟨(rdA rfl), (rdA rfl), trivial⟩) ?_
     refine f_stepP rfl rfl rfl (o_move rfl) ?_
     refine f_step rfl rfl rfl (o_call Try.call39 rfl (fun w_ hp_ => RParted_spec n A B l cap M cb w_ (hr.up0 hp_) hg (hM.up0 hp_) hm) ?_)
     rintro _ _ ⟨p, bp, rfl, rfl, hp⟩
     have hpl := hp.len
     dsimp only [List.cons_append, List.nil_append]
     refine f_stepP rfl rfl rfl (o_assign rfl) ?_
     refine f_stepP rfl rfl rfl (o_assign rfl) ?_
     refine f_done ?_
     refine f_tn (kh23 _ _ ?_)
     clear kh23
     refine f_ret ?_
     have hpl2 : (natN p).length = n := by rw [natN_len, hpl]
     exact f_fin2 [[(bp, blk (nats p) 3)]] Try.results16 rfl rfl (by repeat (first | exact Sub.nil | refine Sub.pick ?_ | refine Sub.castO rfl ?_ | refine Sub.skip ?_)) ⟨natN p, some ⟨bp, 0, none⟩, n, _, by rw [hfz, hpl2], rfl, by rw [hpl2, natN_ints]; exact Own.mk (by rw [ints_length, hpl2]; omega) (by omega), fun _ => ⟨p, rfl, by rw [Int.toNat_natCast]; exact hp⟩, fun h => absurd hfz h⟩

set_option maxRecDepth 100000 in
set_option maxHeartbeats 4000000 in
theorem RAroundN_spec (n : Nat) (A : Option Addr) (l : List Arc) (cap cn mn : Nat) (w : World) (hr : Ro (Fr w []) w A (l.flatMap arcCs)) (hg : (gcheck (n : Int) l).2 = 0) (hc : cn < n) (hmn : 1 ≤ mn ∧ mn ≤ 1024) :
    Meets Try.prog 35 [.agg #[.int .i64 (n : Int), .slice A l.length cap], .int .i64 (cn : Int), .int .i64 (mn : Int)] w [] (fun u own' => ∃ (C : List Pr) (A' : Option Addr) (c : Nat) (m' : Seg), u = .slice A' C.length c ∧ own' = [m'] ∧ Own 47 2 (.slice A' C.length c) C.length (C.flatMap prCs) m' ∧ NcΦ n l (cn : Int) (mn : Int) C) := by
 obtain ⟨hg1, hg2, hgl, hgd⟩ := gcheck_zero hg
 have hreg := region_take hg hc hmn
 have hrz : (regR (n : Int) l (cn : Int) (mn : Int)).2 = 0 := by rw [hreg]
 have hne := nc_zero hrz
 obtain ⟨_, hrr, hrnd, hrp⟩ := reg_facts hrz
 have hrle : (regR (n : Int) l (cn : Int) (mn : Int)).1.length ≤ n := ints_card hrr hrnd
 have hcle := core_le (n := n) (l := l) (c := (cn : Int)) (most := (mn : Int))
 have hcp := core_pos hrp
 have hclen : (coreR (n : Int) l (cn : Int) (mn : Int)).1.length = ((regR (n : Int) l (cn : Int) (mn : Int)).1.length + 3) / 4 := by unfold coreR; simp only [List.length_take]; omega
 have hnN : (nodeN n l (cn : Int) (mn : Int)) = 2 + ((regR (n : Int) l (cn : Int) (mn : Int)).1.length : Int) - ((coreR (n : Int) l (cn : Int) (mn : Int)).1.length : Int) := rfl
 refine f_enter Try.func35 rfl Try.ntmps35 rfl Owns.nil ?_
 refine f_seq fun K1 kh1 => ?_
 refine f_region ?_
 refine f_step rfl rfl rfl (o_box rfl rfl fun b3 => ?_)
 refine f_stepP rfl rfl rfl (o_assign rfl) ?_
 refine f_done ?_
 refine f_tn (kh1 _ _ ?_)
 clear kh1
 refine f_seq fun K2 kh2 => ?_
 refine f_region ?_
 refine f_stepP rfl rfl rfl (o_loadA (vs := [_, _]) Try.isAgg24 Try.sizeOf24 rfl rfl ⟨(rdA rfl), (rdA rfl), trivial⟩) ?_
 refine f_stepP rfl rfl rfl (o_move rfl) ?_
 refine f_step rfl rfl rfl (o_call Try.call57 rfl (fun w_ hp_ => RAround_spec n A l cap cn w_ (hr.up0 hp_) hg hc) ?_)
 rintro s _ ⟨mo, rfl, hO0⟩
 obtain ⟨Ao, co, rfl, hco⟩ := hO0.val
 dsimp only [List.cons_append, List.nil_append]
 refine f_stepP rfl rfl rfl (o_assign rfl) ?_
 refine f_done ?_
 refine f_tn (kh2 _ _ ?_)
 clear kh2
 refine f_seq fun K3 kh3 => ?_
 refine f_region ?_
 refine f_stepP rfl rfl rfl (o_move rfl) ?_
 refine f_stepP rfl rfl rfl (o_move rfl) ?_
 refine f_stepP rfl rfl rfl (o_move rfl) ?_
 refine f_stepP rfl rfl rfl (o_len sl35 rfl) ?_
 refine f_stepP rfl rfl rfl (o_min rfl rfl) ?_
 refine f_stepP rfl rfl rfl (o_slice sl35 rfl rfl rfl rfl (fun h => by cases h) 0 (min mn (bfs n (fun v : Nat => nbrs (v : Int) l) cn (List.replicate n false)).1.length) co (.inl ⟨rfl, rfl⟩) (.inr ⟨_, _, rfl, by omega⟩) (.inl ⟨rfl, rfl⟩) ⟨by omega, by omega, by omega⟩ (.slice Ao (min mn (bfs n (fun v : Nat => nbrs (v : Int) l) cn (List.replicate n false)).1.length) co) (by rw [Nat.sub_zero]; congr 1; split; rfl; cases Ao with | none => rfl | some x => obtain ⟨p, q, r⟩ := x; cases r <;> simp [Addr.add])) ?_
 refine f_stepP rfl rfl rfl (o_assign rfl) ?_
 refine f_done ?_
 refine f_tn (kh3 _ _ ?_)
 clear kh3
 refine f_seq fun K4 kh4 => ?_
 refine f_seq fun K5 kh5 => ?_
 have hO : Own 3 1 (.slice Ao (regR (n : Int) l (cn : Int) (mn : Int)).1.length co) (regR (n : Int) l (cn : Int) (mn : Int)).1.length (ints (regR (n : Int) l (cn : Int) (mn : Int)).1) mo := by
   rw [hreg]
   have h := hO0.head (n := min mn (bfs n (fun v : Nat => nbrs (v : Int) l) cn (List.replicate n false)).1.length) (by omega)
   rw [Nat.mul_one, show (ints (bfs n (fun v : Nat => nbrs (v : Int) l) cn (List.replicate n false)).1).take (min mn (bfs n (fun v : Nat => nbrs (v : Int) l) cn (List.replicate n false)).1.length) = ints ((bfs n (fun v : Nat => nbrs (v : Int) l) cn (List.replicate n false)).1.take mn) from by simp [ints, ← List.map_take, ← List.take_take]] at h
   rw [List.length_take]; exact h
 refine f_reC 7 rfl (v := .slice Ao (regR (n : Int) l (cn : Int) (mn : Int)).1.length co) (by rw [hreg, List.length_take]) ?_
 refine f_region ?_
 refine f_stepP rfl rfl rfl (o_move rfl) ?_
 refine f_stepP rfl rfl rfl (o_len sl35 rfl) ?_
 refine f_stepP rfl rfl rfl (o_field fa24_0 rfl) ?_
 refine f_stepP rfl rfl rfl (o_load Try.isAgg3 rfl (rdA rfl)) ?_
 refine f_stepP rfl rfl rfl (o_eql rfl rfl) ?_
 refine f_done ?_
 refine f_tn (kh5 _ _ ?_)
 clear kh5
 refine f_cond rfl (fun c35 => ?_) (fun c35 => ?_)
 ·
  have hfull : (regR (n : Int) l (cn : Int) (mn : Int)).1.length = n := by omega
  refine f_seq fun K6 kh6 => ?_
  refine f_region ?_
  refine f_stepP rfl rfl rfl (o_assign rfl) ?_
  refine f_done ?_
  refine f_tn (kh6 _ _ ?_)
  clear kh6
  refine f_ret ?_
  refine f_tr ?_
  exact f_fin1 [[]] Try.results35 rfl (show Fly.Sub _ [[]] from (by repeat (first | exact Sub.nil | refine Sub.pick ?_ | refine Sub.castO rfl ?_ | refine Sub.skip ?_))) ⟨[], none, 0, [], rfl, rfl, Own.nil _ _, fun _ => rfl, fun h => absurd hfull h⟩
 ·
  have hnf : (regR (n : Int) l (cn : Int) (mn : Int)).1.length ≠ n := by omega
  refine f_skip ?_
  refine f_tn (kh4 _ _ ?_)
  clear kh4
  refine f_seq fun K7 kh7 => ?_
  refine f_region ?_
  refine f_stepP rfl rfl rfl (o_field fa24_0 rfl) ?_
  refine f_stepP rfl rfl rfl (o_load Try.isAgg3 rfl (rdA rfl)) ?_
  refine f_step rfl rfl rfl (o_make el35 rfl rfl n rfl (by omega) (by omega) (ints (mixL 0 1 (List.replicate n 0))) (by simp [mixL, ints, List.flatten_replicate_singleton]) fun b38 => ?_)
  refine f_stepP rfl rfl rfl (o_assign rfl) ?_
  refine f_done ?_
  refine f_tn (kh7 _ _ ?_)
  clear kh7
  refine f_seq fun K8 kh8 => ?_
  refine f_seq fun K9 kh9 => ?_
  refine f_region ?_
  refine f_stepP rfl rfl rfl (o_assign rfl) ?_
  refine f_done ?_
  refine f_tn (kh9 _ _ ?_)
  clear kh9
  refine f_block ?_
  refine f_loop (α := Nat) [3, 7, 8] (fun k => [(9, .int .i64 (k : Int))]) (fun k => [[(b38, blk (ints (mixL k 1 (List.replicate n 0))) 3)], mo, [(b3, blk [.int .i64 (n : Int), .slice A l.length cap] 24)]]) (fun k => k ≤ n) (fun k => n - k) (0) ?_ ?_ ?_ ?_
  · exact (by repeat (first | exact trivial | refine ⟨rfl, ?_⟩))
  · repeat (first | exact Sub.nil | refine Sub.pick ?_ | refine Sub.castO rfl ?_ | refine Sub.skip ?_)
  · exact Nat.zero_le _
  ·
   rintro k hkn
   refine f_seq fun K10 kh10 => ?_
   refine f_seq fun K11 kh11 => ?_
   refine f_region ?_
   refine f_stepP rfl rfl rfl (o_move rfl) ?_
   refine f_stepP rfl rfl rfl (o_field fa24_0 rfl) ?_
   refine f_stepP rfl rfl rfl (o_load Try.isAgg3 rfl (rdA rfl)) ?_
   refine f_stepP rfl rfl rfl (o_lss rfl rfl) ?_
   refine f_done ?_
   refine f_tn (kh11 _ _ ?_)
   clear kh11
   refine f_cond rfl (fun c42 => ?_) (fun c42 => ?_)
   ·
    have hk : k < n := by omega
    refine f_skip ?_
    refine f_tn (kh10 _ _ ?_)
    clear kh10
    refine f_seq fun K12 kh12 => ?_
    refine f_block ?_
    refine f_region ?_
    refine f_stepP rfl rfl rfl (o_move rfl) ?_
    refine f_stepP rfl rfl rfl (o_move rfl) ?_
    refine f_stepP rfl rfl rfl (o_idx sl35 rfl rfl (k) ⟨by omega, by omega, by first | omega | (simp; done) | (simp; omega)⟩) ?_
    refine f_step0 rfl rfl (o_store Try.sizeOf3 rfl rfl rfl rfl (by rw [ints_length, mixL_len (by simp; omega)]; simp; omega) (ints (mixL (k + 1) 1 (List.replicate n 0))) (mixL_set (by simp; omega)) ?_)
    refine f_done ?_
    refine f_bn ?_
    refine f_tn (kh12 _ _ ?_)
    clear kh12
    refine f_region ?_
    refine f_stepP rfl rfl rfl (o_move rfl) ?_
    refine f_stepP rfl rfl rfl (o_add rfl rfl _ (wrap_i64 (by omega))) ?_
    refine f_stepP rfl rfl rfl (o_assign rfl) ?_
    refine f_done ?_
    refine f_tn (f_again (k + 1) (by first | omega | (dsimp only; omega) | (simp; omega)) (by omega) ?_ ?_ ?_)
    · exact (by repeat (first | exact trivial | refine ⟨rfl, ?_⟩))
    · exact (by repeat (first | exact trivial | refine ⟨rfl, ?_⟩))
    · repeat (first | exact Sub.nil | refine Sub.pick ?_ | refine Sub.castO rfl ?_ | refine Sub.skip ?_)
   ·
    obtain rfl : n = k := by omega
    refine f_exit ?_
    refine f_te ?_
    clear kh10
    refine f_te ?_
    refine f_be ?_
    refine f_tn (kh8 _ _ ?_)
    clear kh8
    refine f_seq fun K13 kh13 => ?_
    refine f_cellsC b38 (ints (ndTo (regR (n : Int) l (cn : Int) (mn : Int)).1 (coreR (n : Int) l (cn : Int) (mn : Int)).1.length n 0)) (by rw [mixL_all (by simp), List.length_replicate]; rfl) ?_
    refine f_region ?_
    refine f_stepP rfl rfl rfl (o_move rfl) ?_
    refine f_stepP rfl rfl rfl (o_len sl35 rfl) ?_
    refine f_stepP rfl rfl rfl (o_add rfl rfl _ (wrap_i64 (by omega))) ?_
    refine f_stepP rfl rfl rfl (o_quo rfl rfl (by decide) (((coreR (n : Int) l (cn : Int) (mn : Int)).1.length : Nat) : Int) (by rw [hclen, show ((((regR (n : Int) l (cn : Int) (mn : Int)).1.length : Nat) : Int) + 3) = (((regR (n : Int) l (cn : Int) (mn : Int)).1.length + 3 : Nat) : Int) by omega, show (4 : Int) = ((4 : Nat) : Int) from rfl, tdiv_nat]; exact wrap_i64 (by omega))) ?_
    refine f_stepP rfl rfl rfl (o_assign rfl) ?_
    refine f_done ?_
    refine f_tn (kh13 _ _ ?_)
    clear kh13
    refine f_seq fun K14 kh14 => ?_
    refine f_seq fun K15 kh15 => ?_
    refine f_region ?_
    refine f_stepP rfl rfl rfl (o_assign rfl) ?_
    refine f_done ?_
    refine f_tn (kh15 _ _ ?_)
    clear kh15
    refine f_block ?_
    refine f_loop (α := Nat) [3, 7, 8, 10] (fun k => [(11, .int .i64 (k : Int))]) (fun k => [[(b38, blk (ints (ndTo (regR (n : Int) l (cn : Int) (mn : Int)).1 (coreR (n : Int) l (cn : Int) (mn : Int)).1.length n k)) 3)], mo, [(b3, blk [.int .i64 (n : Int), .slice A l.length cap] 24)]]) (fun k => k ≤ (regR (n : Int) l (cn : Int) (mn : Int)).1.length) (fun k => (regR (n : Int) l (cn : Int) (mn : Int)).1.length - k) (0) ?_ ?_ ?_ ?_
    · exact (by repeat (first | exact trivial | refine ⟨rfl, ?_⟩))
    · repeat (first | exact Sub.nil | refine Sub.pick ?_ | refine Sub.castO rfl ?_ | refine Sub.skip ?_)
    · exact Nat.zero_le _
    ·
     rintro k hkl
     refine f_envC (e := [(11, _), (3, _), (7, _), (8, _), (10, _)]) (by repeat (first | exact trivial | refine ⟨rfl, ?_⟩)) ?_
     refine f_seq fun K16 kh16 => ?_
     refine f_seq fun K17 kh17 => ?_
     refine f_region ?_
     refine f_stepP rfl rfl rfl (o_move rfl) ?_
     refine f_stepP rfl rfl rfl (o_move rfl) ?_
     refine f_stepP rfl rfl rfl (o_len sl35 rfl) ?_
     refine f_stepP rfl rfl rfl (o_lss rfl rfl) ?_
     refine f_done ?_
     refine f_tn (kh17 _ _ ?_)
     clear kh17
     refine f_cond rfl (fun c55 => ?_) (fun c55 => ?_)
     ·
      have hk : k < (regR (n : Int) l (cn : Int) (mn : Int)).1.length := by omega
      obtain ⟨bR, spR, rfl, rfl⟩ := hO.at_ (by omega)
      have hrk := hrr _ (List.getElem_mem hk)
      obtain ⟨v, hv⟩ : ∃ v : Nat, (regR (n : Int) l (cn : Int) (mn : Int)).1[k] = (v : Int) := ⟨_, (Int.toNat_of_nonneg hrk.1).symm⟩
      rw [hv] at hrk
      have hgd' : ((regR (n : Int) l (cn : Int) (mn : Int)).1.getD k 0).toNat = v := by rw [List.getD_eq_getElem?_getD, List.getElem?_eq_getElem hk, Option.getD_some, hv, Int.toNat_natCast]
      refine f_skip ?_
      refine f_tn (kh16 _ _ ?_)
      clear kh16
      refine f_seq fun K18 kh18 => ?_
      refine f_block ?_
      refine f_seq fun K19 kh19 => ?_
      refine f_region ?_
      refine f_stepP rfl rfl rfl (o_move rfl) ?_
      refine f_stepP rfl rfl rfl (o_move rfl) ?_
      refine f_stepP rfl rfl rfl (o_move rfl) ?_
      refine f_stepP rfl rfl rfl (o_idx sl35 rfl rfl (k) ⟨by omega, by omega, by first | omega | (simp; done) | (simp; omega)⟩) ?_
      refine f_stepP rfl rfl rfl (o_load Try.isAgg3 rfl (rdA (v := .int .i64 (v : Int)) (app_get (by rw [ints_get hk, hv])))) ?_
      refine f_stepP rfl rfl rfl (o_idx sl35 rfl rfl (v) ⟨by omega, by omega, by first | omega | (simp; done) | (simp; omega)⟩) ?_
      refine f_step0 rfl rfl (o_store Try.sizeOf3 rfl rfl rfl rfl (by rw [ints_length, ndTo_len]; omega) (ints ((ndTo (regR (n : Int) l (cn : Int) (mn : Int)).1 (coreR (n : Int) l (cn : Int) (mn : Int)).1.length n k).set v 0)) (by simp [ints]) ?_)
      refine f_done ?_
      refine f_tn (kh19 _ _ ?_)
      clear kh19
      refine f_seq fun K20 kh20 => ?_
      refine f_region ?_
      refine f_stepP rfl rfl rfl (o_move rfl) ?_
      refine f_stepP rfl rfl rfl (o_move rfl) ?_
      refine f_stepP rfl rfl rfl (o_geq rfl rfl) ?_
      refine f_done ?_
      refine f_tn (kh20 _ _ ?_)
      clear kh20
      refine f_cond rfl (fun c66 => ?_) (fun c66 => ?_)
      ·
       have hnx : ((ndTo (regR (n : Int) l (cn : Int) (mn : Int)).1 (coreR (n : Int) l (cn : Int) (mn : Int)).1.length n k).set v 0).set v (2 + (k : Int) - ((coreR (n : Int) l (cn : Int) (mn : Int)).1.length : Int)) = (ndTo (regR (n : Int) l (cn : Int) (mn : Int)).1 (coreR (n : Int) l (cn : Int) (mn : Int)).1.length n (k + 1)) := by rw [List.set_set, ndTo_succ, hgd', if_neg (by omega)]
       refine f_region ?_
       refine f_stepP rfl rfl rfl (o_move rfl) ?_
       refine f_stepP rfl rfl rfl (o_move rfl) ?_
       refine f_stepP rfl rfl rfl (o_move rfl) ?_
       refine f_stepP rfl rfl rfl (o_idx sl35 rfl rfl (k) ⟨by omega, by omega, by first | omega | (simp; done) | (simp; omega)⟩) ?_
       refine f_stepP rfl rfl rfl (o_load Try.isAgg3 rfl (rdA (v := .int .i64 (v : Int)) (app_get (by rw [ints_get hk, hv])))) ?_
       refine f_stepP rfl rfl rfl (o_move rfl) ?_
       refine f_stepP rfl rfl rfl (o_add rfl rfl _ (wrap_i64 (by omega))) ?_
       refine f_stepP rfl rfl rfl (o_move rfl) ?_
       refine f_stepP rfl rfl rfl (o_sub rfl rfl _ (wrap_i64 (by omega))) ?_
       refine f_stepP rfl rfl rfl (o_idx sl35 rfl rfl (v) ⟨by omega, by omega, by first | omega | (simp; done) | (simp; omega)⟩) ?_
       refine f_step0 rfl rfl (o_store Try.sizeOf3 rfl rfl rfl rfl (by rw [ints_length, List.length_set, ndTo_len]; omega) (ints (ndTo (regR (n : Int) l (cn : Int) (mn : Int)).1 (coreR (n : Int) l (cn : Int) (mn : Int)).1.length n (k + 1))) (by rw [← hnx]; simp [ints]) ?_)
       refine f_done ?_
       refine f_bn ?_
       refine f_tn (kh18 _ _ ?_)
       clear kh18
       refine f_region ?_
       refine f_stepP rfl rfl rfl (o_move rfl) ?_
       refine f_stepP rfl rfl rfl (o_add rfl rfl _ (wrap_i64 (by omega))) ?_
       refine f_stepP rfl rfl rfl (o_assign rfl) ?_
       refine f_done ?_
       refine f_tn (f_again (k + 1) (by first | omega | (dsimp only; omega) | (simp; omega)) (by omega) ?_ ?_ ?_)
       · exact (by repeat (first | exact trivial | refine ⟨rfl, ?_⟩))
       · exact (by repeat (first | exact trivial | refine ⟨rfl, ?_⟩))
       · repeat (first | exact Sub.nil | refine Sub.pick ?_ | refine Sub.castO rfl ?_ | refine Sub.skip ?_)
      ·
       have hnx : (ndTo (regR (n : Int) l (cn : Int) (mn : Int)).1 (coreR (n : Int) l (cn : Int) (mn : Int)).1.length n k).set v 0 = (ndTo (regR (n : Int) l (cn : Int) (mn : Int)).1 (coreR (n : Int) l (cn : Int) (mn : Int)).1.length n (k + 1)) := by rw [ndTo_succ, hgd', if_pos (by omega)]
       rw [hnx]
       refine f_skip ?_
       refine f_bn ?_
       refine f_tn (kh18 _ _ ?_)
       clear kh18
       refine f_region ?_
       refine f_stepP rfl rfl rfl (o_move rfl) ?_
       refine f_stepP rfl rfl rfl (o_add rfl rfl _ (wrap_i64 (by omega))) ?_
       refine f_stepP rfl rfl rfl (o_assign rfl) ?_
       refine f_done ?_
       refine f_tn (f_again (k + 1) (by first | omega | (dsimp only; omega) | (simp; omega)) (by omega) ?_ ?_ ?_)
       · exact (by repeat (first | exact trivial | refine ⟨rfl, ?_⟩))
       · exact (by repeat (first | exact trivial | refine ⟨rfl, ?_⟩))
       · repeat (first | exact Sub.nil | refine Sub.pick ?_ | refine Sub.castO rfl ?_ | refine Sub.skip ?_)
     ·
      refine f_exit ?_
      refine f_te ?_
      clear kh16
      refine f_te ?_
      refine f_be ?_
      refine f_tn (kh14 _ _ ?_)
      clear kh14
      refine f_seq fun K21 kh21 => ?_
      obtain rfl : k = (regR (n : Int) l (cn : Int) (mn : Int)).1.length := by omega
      rw [show (ndTo (regR (n : Int) l (cn : Int) (mn : Int)).1 (coreR (n : Int) l (cn : Int) (mn : Int)).1.length n (regR (n : Int) l (cn : Int) (mn : Int)).1.length) = (nodeL n l (cn : Int) (mn : Int)) from rfl]
      have hndl : (nodeL n l (cn : Int) (mn : Int)).length = n := ndTo_len _ _ _ _
      have hrgN := ndTo_rng (regR (n : Int) l (cn : Int) (mn : Int)).1 (coreR (n : Int) l (cn : Int) (mn : Int)).1.length n (regR (n : Int) l (cn : Int) (mn : Int)).1.length hcle (regR (n : Int) l (cn : Int) (mn : Int)).1.length (Nat.le_refl _)
      have hI64 := I64_nd (L := (nodeL n l (cn : Int) (mn : Int))) (m := (nodeN n l (cn : Int) (mn : Int))) (by omega) hrgN
      refine f_region ?_
      refine f_stepP rfl rfl rfl (o_move rfl) ?_
      refine f_stepP rfl rfl rfl (o_len sl35 rfl) ?_
      refine f_stepP rfl rfl rfl (o_add rfl rfl _ (wrap_i64 (by omega))) ?_
      refine f_stepP rfl rfl rfl (o_move rfl) ?_
      refine f_stepP rfl rfl rfl (o_sub rfl rfl _ (Eq.trans (wrap_i64 (by omega)) (show _ = (nodeN n l (cn : Int) (mn : Int)) from rfl))) ?_
      refine f_stepP rfl rfl rfl (o_build (cs := [.int .i64 (nodeN n l (cn : Int) (mn : Int)), .slice none 0 0]) st59 rfl rfl) ?_
      refine f_step rfl rfl rfl (o_alloc Try.zeroValue59 rfl fun b12 => ?_)
      refine f_step0 rfl rfl (o_storeA Try.sizeOf59 rfl rfl rfl rfl (by first | exact Nat.le_of_ble_eq_true rfl | (simp; done) | (simp; omega)) [.int .i64 (nodeN n l (cn : Int) (mn : Int)), .slice none 0 0] rfl ?_)
      refine f_done ?_
      refine f_tn (kh21 _ _ ?_)
      clear kh21
      refine f_seq fun K22 kh22 => ?_
      refine f_region ?_
      refine f_stepP rfl rfl rfl (o_loadA (vs := [_, _]) Try.isAgg24 Try.sizeOf24 rfl rfl ⟨(rdA rfl), (rdA rfl), trivial⟩) ?_
      refine f_step rfl rfl rfl (o_call Try.call50 rfl (fun w_ hp_ => RAllP_spec n A l cap w_ (hr.up0 hp_) hg) ?_)
      rintro _ _ ⟨Ap, cp, mp, rfl, rfl, hop⟩
      have hpl := prs_len8 hg
      dsimp only [List.cons_append, List.nil_append]
      refine f_stepP rfl rfl rfl (o_assign rfl) ?_
      refine f_done ?_
      refine f_tn (kh22 _ _ ?_)
      clear kh22
      refine f_seq fun K23 kh23 => ?_
      refine f_seq fun K24 kh24 => ?_
      refine f_region ?_
      refine f_stepP rfl rfl rfl (o_assign rfl) ?_
      refine f_done ?_
      refine f_tn (kh24 _ _ ?_)
      clear kh24
      refine f_block ?_
      refine f_loop (α := Nat × Value × Seg) [8, 12, 13] (fun ⟨k, ev_, em⟩ => [(14, .int .i64 (k : Int))]) (fun ⟨k, ev_, em⟩ => [[(b38, blk (ints (nodeL n l (cn : Int) (mn : Int))) 3)], [(b12, blk [.int .i64 (nodeN n l (cn : Int) (mn : Int)), ev_] 59)], em, mp, [(b3, blk [.int .i64 (n : Int), .slice A l.length cap] 24)]]) (fun ⟨k, ev_, em⟩ => k ≤ (prs n l).length ∧ Own 62 3 ev_ (cutE ((prs n l).take k) (nodeL n l (cn : Int) (mn : Int))).length ((cutE ((prs n l).take k) (nodeL n l (cn : Int) (mn : Int))).flatMap arcCs) em) (fun ⟨k, ev_, em⟩ => (prs n l).length - k) (0, .slice none 0 0, []) ?_ ?_ ?_ ?_
      · exact (by repeat (first | exact trivial | refine ⟨rfl, ?_⟩))
      · repeat (first | exact Sub.nil | refine Sub.pick ?_ | refine Sub.castO rfl ?_ | refine Sub.skip ?_)
      · exact ⟨Nat.zero_le _, Own.nil _ _⟩
      ·
       rintro ⟨k, ev_, em⟩ ⟨hkl, hE⟩
       have hel := cutE_len (nodeL n l (cn : Int) (mn : Int)) ((prs n l).take k)
       rw [List.length_take] at hel
       refine f_envC (e := [(14, _), (8, _), (12, _), (13, _)]) (by repeat (first | exact trivial | refine ⟨rfl, ?_⟩)) ?_
       refine f_seq fun K25 kh25 => ?_
       refine f_seq fun K26 kh26 => ?_
       refine f_region ?_
       refine f_stepP rfl rfl rfl (o_move rfl) ?_
       refine f_stepP rfl rfl rfl (o_move rfl) ?_
       refine f_stepP rfl rfl rfl (o_len sl28 rfl) ?_
       refine f_stepP rfl rfl rfl (o_lss rfl rfl) ?_
       refine f_done ?_
       refine f_tn (kh26 _ _ ?_)
       clear kh26
       refine f_cond rfl (fun c88 => ?_) (fun c88 => ?_)
       ·
        have hk : k < (prs n l).length := by omega
        obtain ⟨bp, spp, rfl, rfl⟩ := hop.at_ (by omega)
        have hpr := prs_rng (List.getElem_mem hk)
        have hu1 : (prs n l)[k].1.toNat < (nodeL n l (cn : Int) (mn : Int)).length := by omega
        have hu2 : (prs n l)[k].2.toNat < (nodeL n l (cn : Int) (mn : Int)).length := by omega
        have hnx := cutE_next (L := (nodeL n l (cn : Int) (mn : Int))) hk
        refine f_skip ?_
        refine f_tn (kh25 _ _ ?_)
        clear kh25
        refine f_seq fun K27 kh27 => ?_
        refine f_block ?_
        refine f_seq fun K28 kh28 => ?_
        refine f_regionH [[(bp, blk ((prs n l).flatMap prCs ++ spp) 47)], [(b38, blk (ints (nodeL n l (cn : Int) (mn : Int))) 3)]] rfl ?_
        refine f_take 0 rfl (by decide +kernel) rfl rfl rfl (by repeat (first | exact Sub.nil | refine Sub.pick ?_ | refine Sub.castO rfl ?_ | refine Sub.skip ?_)) (o_move rfl) ?_
        refine f_take 1 rfl (by decide +kernel) rfl rfl rfl (by repeat (first | exact Sub.nil | refine Sub.pick ?_ | refine Sub.castO rfl ?_ | refine Sub.skip ?_)) (o_move rfl) ?_
        refine f_take 2 rfl (by decide +kernel) rfl rfl rfl (by repeat (first | exact Sub.nil | refine Sub.pick ?_ | refine Sub.castO rfl ?_ | refine Sub.skip ?_)) (o_move rfl) ?_
        refine f_take 3 rfl (by decide +kernel) rfl rfl rfl (by repeat (first | exact Sub.nil | refine Sub.pick ?_ | refine Sub.castO rfl ?_ | refine Sub.skip ?_)) (o_idx sl28 rfl rfl (k * 2) ⟨by omega, by omega, by first | omega | (simp; done) | (simp; omega)⟩) ?_
        refine f_take 4 rfl (by decide +kernel) rfl rfl rfl (by repeat (first | exact Sub.nil | refine Sub.pick ?_ | refine Sub.castO rfl ?_ | refine Sub.skip ?_)) (o_field fa47_0 rfl) ?_
        refine f_take 5 rfl (by decide +kernel) rfl rfl rfl (by repeat (first | exact Sub.nil | refine Sub.pick ?_ | refine Sub.castO rfl ?_ | refine Sub.skip ?_)) (o_load Try.isAgg3 rfl (rdA (v := .int .i64 (prs n l)[k].1) (app_get (by rw [show k * 2 = k * 2 + 0 from rfl]; rw [flat_get prCs prCs_len (prs n l) k 0 hk (by omega)]; rfl)))) ?_
        refine f_take 6 rfl (by decide +kernel) rfl rfl rfl (by repeat (first | exact Sub.nil | refine Sub.pick ?_ | refine Sub.castO rfl ?_ | refine Sub.skip ?_)) (o_idx sl35 rfl rfl ((prs n l)[k].1.toNat) ⟨by omega, by omega, by first | omega | (simp; done) | (simp; omega)⟩) ?_
        refine f_take 7 rfl (by decide +kernel) rfl rfl rfl (by repeat (first | exact Sub.nil | refine Sub.pick ?_ | refine Sub.castO rfl ?_ | refine Sub.skip ?_)) (o_load Try.isAgg3 rfl (rdA (v := .int .i64 (nd (nodeL n l (cn : Int) (mn : Int)) (prs n l)[k].1)) (by rw [nd_at hu1]; exact ints_get hu1))) ?_
        refine f_take 8 rfl (by decide +kernel) rfl rfl rfl (by repeat (first | exact Sub.nil | refine Sub.pick ?_ | refine Sub.castO rfl ?_ | refine Sub.skip ?_)) (o_move rfl) ?_
        refine f_take 9 rfl (by decide +kernel) rfl rfl rfl (by repeat (first | exact Sub.nil | refine Sub.pick ?_ | refine Sub.castO rfl ?_ | refine Sub.skip ?_)) (o_move rfl) ?_
        refine f_take 10 rfl (by decide +kernel) rfl rfl rfl (by repeat (first | exact Sub.nil | refine Sub.pick ?_ | refine Sub.castO rfl ?_ | refine Sub.skip ?_)) (o_move rfl) ?_
        refine f_take 11 rfl (by decide +kernel) rfl rfl rfl (by repeat (first | exact Sub.nil | refine Sub.pick ?_ | refine Sub.castO rfl ?_ | refine Sub.skip ?_)) (o_idx sl28 rfl rfl (k * 2) ⟨by omega, by omega, by first | omega | (simp; done) | (simp; omega)⟩) ?_
        refine f_take 12 rfl (by decide +kernel) rfl rfl rfl (by repeat (first | exact Sub.nil | refine Sub.pick ?_ | refine Sub.castO rfl ?_ | refine Sub.skip ?_)) (o_field fa47_1 rfl) ?_
        refine f_take 13 rfl (by decide +kernel) rfl rfl rfl (by repeat (first | exact Sub.nil | refine Sub.pick ?_ | refine Sub.castO rfl ?_ | refine Sub.skip ?_)) (o_load Try.isAgg3 rfl (rdA (v := .int .i64 (prs n l)[k].2) (app_get (by rw [flat_get prCs prCs_len (prs n l) k 1 hk (by omega)]; rfl)))) ?_
        refine f_take 14 rfl (by decide +kernel) rfl rfl rfl (by repeat (first | exact Sub.nil | refine Sub.pick ?_ | refine Sub.castO rfl ?_ | refine Sub.skip ?_)) (o_idx sl35 rfl rfl ((prs n l)[k].2.toNat) ⟨by omega, by omega, by first | omega | (simp; done) | (simp; omega)⟩) ?_
        refine f_take 15 rfl (by decide +kernel) rfl rfl rfl (by repeat (first | exact Sub.nil | refine Sub.pick ?_ | refine Sub.castO rfl ?_ | refine Sub.skip ?_)) (o_load Try.isAgg3 rfl (rdA (v := .int .i64 (nd (nodeL n l (cn : Int) (mn : Int)) (prs n l)[k].2)) (by rw [nd_at hu2]; exact ints_get hu2))) ?_
        refine f_take 16 rfl (by decide +kernel) rfl rfl rfl (by repeat (first | exact Sub.nil | refine Sub.pick ?_ | refine Sub.castO rfl ?_ | refine Sub.skip ?_)) (o_assign rfl) ?_
        refine f_take 17 rfl (by decide +kernel) rfl rfl rfl (by repeat (first | exact Sub.nil | refine Sub.pick ?_ | refine Sub.castO rfl ?_ | refine Sub.skip ?_)) (o_assign rfl) ?_
        refine f_over (by decide +kernel) ?_
        refine f_tn (kh28 _ _ ?_)
        clear kh28
        refine f_seq fun K29 kh29 => ?_
        refine f_region ?_
        refine f_stepP rfl rfl rfl (o_move rfl) ?_
        refine f_stepP rfl rfl rfl (o_move rfl) ?_
        refine f_stepP rfl rfl rfl (o_neq rfl rfl) ?_
        refine f_done ?_
        refine f_tn (kh29 _ _ ?_)
        clear kh29
        refine f_cond rfl (fun c109 => ?_) (fun c109 => ?_)
        ·
         rw [if_pos (by omega)] at hnx
         refine f_region ?_
         refine f_stepP rfl rfl rfl (o_field fa59_1 rfl) ?_
         refine f_stepP rfl rfl rfl (o_load Try.isAgg57 rfl (rdA rfl)) ?_
         refine f_stepP rfl rfl rfl (o_move rfl) ?_
         refine f_stepP rfl rfl rfl (o_move rfl) ?_
         refine f_stepP rfl rfl rfl (o_build (cs := arcCs ⟨nd (nodeL n l (cn : Int) (mn : Int)) (prs n l)[k].1, nd (nodeL n l (cn : Int) (mn : Int)) (prs n l)[k].2, 1⟩) st62 rfl rfl) ?_
         refine f_stepP rfl rfl rfl (o_move rfl) ?_
         refine f_stepP rfl rfl rfl (o_move rfl) ?_
         refine f_stepP rfl rfl rfl (o_build (cs := arcCs ⟨nd (nodeL n l (cn : Int) (mn : Int)) (prs n l)[k].2, nd (nodeL n l (cn : Int) (mn : Int)) (prs n l)[k].1, 1⟩) st62 rfl rfl) ?_
         refine f_step rfl rfl rfl (o_sliceN (len := 2) el57 (by omega) rfl (show _ = some (arcCs ⟨nd (nodeL n l (cn : Int) (mn : Int)) (prs n l)[k].1, nd (nodeL n l (cn : Int) (mn : Int)) (prs n l)[k].2, 1⟩ ++ arcCs ⟨nd (nodeL n l (cn : Int) (mn : Int)) (prs n l)[k].2, nd (nodeL n l (cn : Int) (mn : Int)) (prs n l)[k].1, 1⟩).toArray from rfl) fun b118 => ?_)
         refine f_step rfl rfl rfl (o_append el57 rfl rfl hE (ys := arcCs ⟨nd (nodeL n l (cn : Int) (mn : Int)) (prs n l)[k].1, nd (nodeL n l (cn : Int) (mn : Int)) (prs n l)[k].2, 1⟩ ++ arcCs ⟨nd (nodeL n l (cn : Int) (mn : Int)) (prs n l)[k].2, nd (nodeL n l (cn : Int) (mn : Int)) (prs n l)[k].1, 1⟩) ⟨(rdA rfl), (rdA rfl), (rdA rfl), (rdA rfl), (rdA rfl), (rdA rfl), trivial⟩ rfl rfl (by omega) (by omega) fun v119 m119 o119 => ?_)
         obtain ⟨A119, c119, rfl, _⟩ := o119.val
         refine f_stepP rfl rfl rfl (o_field fa59_1 rfl) ?_
         refine f_step0 rfl rfl (o_store Try.sizeOf57 rfl rfl rfl rfl (by first | exact Nat.le_of_ble_eq_true rfl | (simp; done) | (simp; omega)) [.int .i64 (nodeN n l (cn : Int) (mn : Int)), .slice A119 ((cutE ((prs n l).take k) (nodeL n l (cn : Int) (mn : Int))).length + 2) c119] rfl ?_)
         refine f_done ?_
         refine f_bn ?_
         refine f_tn (kh27 _ _ ?_)
         clear kh27
         refine f_region ?_
         refine f_stepP rfl rfl rfl (o_move rfl) ?_
         refine f_stepP rfl rfl rfl (o_add rfl rfl _ (wrap_i64 (by omega))) ?_
         refine f_stepP rfl rfl rfl (o_assign rfl) ?_
         refine f_done ?_
         refine f_tn (f_again (k + 1, _, m119) (by first | omega | (dsimp only; omega) | (simp; omega)) ⟨by omega, by rw [hnx, List.flatMap_append, List.length_append]; simpa using o119⟩ ?_ ?_ ?_)
         · exact (by repeat (first | exact trivial | refine ⟨rfl, ?_⟩))
         · exact (by repeat (first | exact trivial | refine ⟨rfl, ?_⟩))
         · repeat (first | exact Sub.nil | refine Sub.pick ?_ | refine Sub.castO rfl ?_ | refine Sub.skip ?_)
        ·
         rw [if_neg (by omega), List.append_nil] at hnx
         refine f_skip ?_
         refine f_bn ?_
         refine f_tn (kh27 _ _ ?_)
         clear kh27
         refine f_region ?_
         refine f_stepP rfl rfl rfl (o_move rfl) ?_
         refine f_stepP rfl rfl rfl (o_add rfl rfl _ (wrap_i64 (by omega))) ?_
         refine f_stepP rfl rfl rfl (o_assign rfl) ?_
         refine f_done ?_
         refine f_tn (f_again (k + 1, _, em) (by first | omega | (dsimp only; omega) | (simp; omega)) ⟨by omega, by rw [hnx]; exact hE⟩ ?_ ?_ ?_)
         · exact (by repeat (first | exact trivial | refine ⟨rfl, ?_⟩))
         · exact (by repeat (first | exact trivial | refine ⟨rfl, ?_⟩))
         · repeat (first | exact Sub.nil | refine Sub.pick ?_ | refine Sub.castO rfl ?_ | refine Sub.skip ?_)
       ·
        obtain rfl : k = (prs n l).length := by omega
        rw [List.take_length] at hE hel
        obtain ⟨Ae, ce, rfl, hce⟩ := hE.val
        refine f_exit ?_
        refine f_te ?_
        clear kh25
        refine f_te ?_
        refine f_be ?_
        refine f_tn (kh23 _ _ ?_)
        clear kh23
        refine f_seq fun K30 kh30 => ?_
        have hnok : NOk (nodeN n l (cn : Int) (mn : Int)).toNat (cutE (prs n l) (nodeL n l (cn : Int) (mn : Int))) := by
          have hfl := nc_looked hne (by omega)
          have h1 := (flooked_zero hfl).1
          exact nok_of (by rw [Int.toNat_of_nonneg (by omega)]; exact h1) (cutE_ok hI64)
        refine f_region ?_
        refine f_stepP rfl rfl rfl (o_loadA (vs := [_, _]) Try.isAgg59 Try.sizeOf59 rfl rfl ⟨(rdA rfl), (rdA rfl), trivial⟩) ?_
        refine f_step rfl rfl rfl (o_call Try.call58 rfl (fun w_ hp_ => (by have h := Most_spec (nodeN n l (cn : Int) (mn : Int)).toNat Ae (cutE (prs n l) (nodeL n l (cn : Int) (mn : Int))) ce 0 1 w_ (seen_ro (hE.seen hp_)) hnok (by omega) (by omega) (by decide); rw [Int.toNat_of_nonneg (by omega)] at h; exact h)) ?_)
        rintro _ _ ⟨V, f, v17, sd, m1, b2, rfl, rfl, hO17, hF, hS, hsl, _, _⟩
        dsimp only [List.cons_append, List.nil_append]
        refine f_stepP rfl rfl rfl (o_move rfl) ?_
        refine f_stepP rfl rfl rfl (o_extract rfl rfl) ?_
        refine f_stepP rfl rfl rfl (o_extract rfl rfl) ?_
        refine f_stepP rfl rfl rfl (o_extract rfl rfl) ?_
        refine f_stepP rfl rfl rfl (o_assign rfl) ?_
        refine f_stepP rfl rfl rfl (o_assign rfl) ?_
        refine f_stepP rfl rfl rfl (o_assign rfl) ?_
        refine f_done ?_
        refine f_tn (kh30 _ _ ?_)
        clear kh30
        refine f_seq fun K31 kh31 => ?_
        refine f_region ?_
        refine f_stepP rfl rfl rfl (o_assign rfl) ?_
        refine f_done ?_
        refine f_tn (kh31 _ _ ?_)
        clear kh31
        refine f_seq fun K32 kh32 => ?_
        refine f_seq fun K33 kh33 => ?_
        refine f_region ?_
        refine f_stepP rfl rfl rfl (o_assign rfl) ?_
        refine f_done ?_
        refine f_tn (kh33 _ _ ?_)
        clear kh33
        refine f_block ?_
        refine f_loop (α := Nat × Value × Seg) [8, 13, 19] (fun ⟨k, cv, cm⟩ => [(21, .int .i64 (k : Int)), (20, cv)]) (fun ⟨k, cv, cm⟩ => [[(b38, blk (ints (nodeL n l (cn : Int) (mn : Int))) 3)], [(b2, blk (sd.map .bool) 4)], cm, mp]) (fun ⟨k, cv, cm⟩ => k ≤ (prs n l).length ∧ Own 47 2 cv (((prs n l).take k).filter fun p => !cutB (nodeL n l (cn : Int) (mn : Int)) sd p).length ((((prs n l).take k).filter fun p => !cutB (nodeL n l (cn : Int) (mn : Int)) sd p).flatMap prCs) cm) (fun ⟨k, cv, cm⟩ => (prs n l).length - k) (0, .slice none 0 0, []) ?_ ?_ ?_ ?_
        · exact (by repeat (first | exact trivial | refine ⟨rfl, ?_⟩))
        · repeat (first | exact Sub.nil | refine Sub.pick ?_ | refine Sub.castO rfl ?_ | refine Sub.skip ?_)
        · exact ⟨Nat.zero_le _, Own.nil _ _⟩
        ·
         rintro ⟨k, cv, cm⟩ ⟨hkl, hC⟩
         have hcl : (((prs n l).take k).filter fun p => !cutB (nodeL n l (cn : Int) (mn : Int)) sd p).length ≤ k := Nat.le_trans (List.length_filter_le _ _) (by rw [List.length_take]; omega)
         obtain ⟨Ac, cc, rfl, hcc⟩ := hC.val
         refine f_envC (e := [(21, _), (20, _), (8, _), (13, _), (19, _)]) (by repeat (first | exact trivial | refine ⟨rfl, ?_⟩)) ?_
         refine f_seq fun K34 kh34 => ?_
         refine f_seq fun K35 kh35 => ?_
         refine f_region ?_
         refine f_stepP rfl rfl rfl (o_move rfl) ?_
         refine f_stepP rfl rfl rfl (o_move rfl) ?_
         refine f_stepP rfl rfl rfl (o_len sl28 rfl) ?_
         refine f_stepP rfl rfl rfl (o_lss rfl rfl) ?_
         refine f_done ?_
         refine f_tn (kh35 _ _ ?_)
         clear kh35
         refine f_cond rfl (fun c130 => ?_) (fun c130 => ?_)
         ·
          have hk : k < (prs n l).length := by omega
          obtain ⟨bp, spp, rfl, rfl⟩ := hop.at_ (by omega)
          have hpr := prs_rng (List.getElem_mem hk)
          have hu1 : (prs n l)[k].1.toNat < (nodeL n l (cn : Int) (mn : Int)).length := by omega
          have hu2 : (prs n l)[k].2.toNat < (nodeL n l (cn : Int) (mn : Int)).length := by omega
          have hx1 := hrgN _ (List.getElem_mem hu1)
          have hx2 := hrgN _ (List.getElem_mem hu2)
          obtain ⟨a, ha⟩ : ∃ a : Nat, (nodeL n l (cn : Int) (mn : Int))[(prs n l)[k].1.toNat] = (a : Int) := ⟨_, (Int.toNat_of_nonneg hx1.1).symm⟩
          obtain ⟨b, hb⟩ : ∃ b : Nat, (nodeL n l (cn : Int) (mn : Int))[(prs n l)[k].2.toNat] = (b : Int) := ⟨_, (Int.toNat_of_nonneg hx2.1).symm⟩
          have hcb : cutB (nodeL n l (cn : Int) (mn : Int)) sd (prs n l)[k] = decide (sd.getD a false = sd.getD b false) := by unfold cutB; rw [nd_at hu1, nd_at hu2, ha, hb, Int.toNat_natCast, Int.toNat_natCast]
          have hnx := filt_next (q := fun p => !cutB (nodeL n l (cn : Int) (mn : Int)) sd p) hk
          refine f_skip ?_
          refine f_tn (kh34 _ _ ?_)
          clear kh34
          refine f_seq fun K36 kh36 => ?_
          refine f_block ?_
          refine f_seq fun K37 kh37 => ?_
          refine f_regionS rfl (by decide +kernel) ?_
          refine f_stillP rfl rfl rfl (o_move rfl) ?_
          refine f_stillP rfl rfl rfl (o_move rfl) ?_
          refine f_stillP rfl rfl rfl (o_move rfl) ?_
          refine f_stillP rfl rfl rfl (o_move rfl) ?_
          refine f_stillP rfl rfl rfl (o_idx sl28 rfl rfl (k * 2) ⟨by omega, by omega, by first | omega | (simp; done) | (simp; omega)⟩) ?_
          refine f_stillP rfl rfl rfl (o_field fa47_0 rfl) ?_
          refine f_stillP rfl rfl rfl (o_load Try.isAgg3 rfl (rdA (v := .int .i64 (prs n l)[k].1) (app_get (by rw [show k * 2 = k * 2 + 0 from rfl]; rw [flat_get prCs prCs_len (prs n l) k 0 hk (by omega)]; rfl)))) ?_
          refine f_stillP rfl rfl rfl (o_idx sl35 rfl rfl ((prs n l)[k].1.toNat) ⟨by omega, by omega, by first | omega | (simp; done) | (simp; omega)⟩) ?_
          refine f_stillP rfl rfl rfl (o_load Try.isAgg3 rfl (rdA (v := .int .i64 (a : Int)) (by rw [ints_get hu1, ha]))) ?_
          refine f_stillP rfl rfl rfl (o_idx sl42 rfl rfl (a) ⟨by omega, by omega, by first | omega | (simp; done) | (simp; omega)⟩) ?_
          refine f_stillP rfl rfl rfl (o_load Try.isAgg4 rfl (rdA (bools_at (by omega)))) ?_
          refine f_stillP rfl rfl rfl (o_move rfl) ?_
          refine f_stillP rfl rfl rfl (o_move rfl) ?_
          refine f_stillP rfl rfl rfl (o_move rfl) ?_
          refine f_stillP rfl rfl rfl (o_move rfl) ?_
          refine f_stillP rfl rfl rfl (o_idx sl28 rfl rfl (k * 2) ⟨by omega, by omega, by first | omega | (simp; done) | (simp; omega)⟩) ?_
          refine f_stillP rfl rfl rfl (o_field fa47_1 rfl) ?_
          refine f_stillP rfl rfl rfl (o_load Try.isAgg3 rfl (rdA (v := .int .i64 (prs n l)[k].2) (app_get (by rw [flat_get prCs prCs_len (prs n l) k 1 hk (by omega)]; rfl)))) ?_
          refine f_stillP rfl rfl rfl (o_idx sl35 rfl rfl ((prs n l)[k].2.toNat) ⟨by omega, by omega, by first | omega | (simp; done) | (simp; omega)⟩) ?_
          refine f_stillP rfl rfl rfl (o_load Try.isAgg3 rfl (rdA (v := .int .i64 (b : Int)) (by rw [ints_get hu2, hb]))) ?_
          refine f_stillP rfl rfl rfl (o_idx sl42 rfl rfl (b) ⟨by omega, by omega, by first | omega | (simp; done) | (simp; omega)⟩) ?_
          refine f_stillP rfl rfl rfl (o_load Try.isAgg4 rfl (rdA (bools_at (by omega)))) ?_
          refine f_stillP rfl rfl rfl (o_neqB Try.underlying4 rfl rfl) ?_
          refine f_stillD ?_
          refine f_tn (kh37 _ _ ?_)
          clear kh37
          refine f_cond rfl (fun c155 => ?_) (fun c155 => ?_)
          ·
           rw [if_pos (by rw [hcb]; simpa using c155)] at hnx
           refine f_region ?_
           refine f_stepP rfl rfl rfl (o_move rfl) ?_
           refine f_stepP rfl rfl rfl (o_move rfl) ?_
           refine f_stepP rfl rfl rfl (o_move rfl) ?_
           refine f_stepP rfl rfl rfl (o_idx sl28 rfl rfl (k * 2) ⟨by omega, by omega, by first | omega | (simp; done) | (simp; omega)⟩) ?_
           refine f_stepP rfl rfl rfl (o_loadA (vs := prCs (prs n l)[k]) Try.isAgg47 Try.sizeOf47 rfl rfl (rdsOwn prCs_len hk)) ?_
           refine f_step rfl rfl rfl (o_slice1 el28 (by omega) rfl rfl rfl fun b161 => ?_)
           refine f_step rfl rfl rfl (o_append el28 rfl rfl hC (ys := prCs (prs n l)[k]) ⟨(rdA rfl), (rdA rfl), trivial⟩ rfl rfl (by omega) (by omega) fun v162 m162 o162 => ?_)
           refine f_stepP rfl rfl rfl (o_assign rfl) ?_
           refine f_done ?_
           refine f_bn ?_
           refine f_tn (kh36 _ _ ?_)
           clear kh36
           refine f_region ?_
           refine f_stepP rfl rfl rfl (o_move rfl) ?_
           refine f_stepP rfl rfl rfl (o_add rfl rfl _ (wrap_i64 (by omega))) ?_
           refine f_stepP rfl rfl rfl (o_assign rfl) ?_
           refine f_done ?_
           refine f_tn (f_again (k + 1, v162, m162) (by first | omega | (dsimp only; omega) | (simp; omega)) ⟨by omega, by rw [hnx, List.flatMap_append, List.length_append]; simpa using o162⟩ ?_ ?_ ?_)
           · exact (by repeat (first | exact trivial | refine ⟨rfl, ?_⟩))
           · exact (by repeat (first | exact trivial | refine ⟨rfl, ?_⟩))
           · repeat (first | exact Sub.nil | refine Sub.pick ?_ | refine Sub.castO rfl ?_ | refine Sub.skip ?_)
          ·
           rw [if_neg (by rw [hcb]; simpa using c155), List.append_nil] at hnx
           refine f_skip ?_
           refine f_bn ?_
           refine f_tn (kh36 _ _ ?_)
           clear kh36
           refine f_region ?_
           refine f_stepP rfl rfl rfl (o_move rfl) ?_
           refine f_stepP rfl rfl rfl (o_add rfl rfl _ (wrap_i64 (by omega))) ?_
           refine f_stepP rfl rfl rfl (o_assign rfl) ?_
           refine f_done ?_
           refine f_tn (f_again (k + 1, .slice Ac (((prs n l).take k).filter fun p => !cutB (nodeL n l (cn : Int) (mn : Int)) sd p).length cc, cm) (by first | omega | (dsimp only; omega) | (simp; omega)) ⟨by omega, by rw [hnx]; exact hC⟩ ?_ ?_ ?_)
           · exact (by repeat (first | exact trivial | refine ⟨rfl, ?_⟩))
           · exact (by repeat (first | exact trivial | refine ⟨rfl, ?_⟩))
           · repeat (first | exact Sub.nil | refine Sub.pick ?_ | refine Sub.castO rfl ?_ | refine Sub.skip ?_)
         ·
          obtain rfl : k = (prs n l).length := by omega
          rw [List.take_length] at hC
          refine f_exit ?_
          refine f_te ?_
          clear kh34
          refine f_te ?_
          refine f_be ?_
          refine f_tn (kh32 _ _ ?_)
          clear kh32
          refine f_seq fun K38 kh38 => ?_
          refine f_region ?_
          refine f_stepP rfl rfl rfl (o_move rfl) ?_
          refine f_stepP rfl rfl rfl (o_assign rfl) ?_
          refine f_done ?_
          refine f_tn (kh38 _ _ ?_)
          clear kh38
          refine f_ret ?_
          exact f_fin1 [cm] Try.results35 rfl (by repeat (first | exact Sub.nil | refine Sub.pick ?_ | refine Sub.castO rfl ?_ | refine Sub.skip ?_)) ⟨(prs n l).filter fun p => !cutB (nodeL n l (cn : Int) (mn : Int)) sd p, Ac, cc, cm, by rw [List.take_length], rfl, hC, fun h => absurd h hnf, fun _ => ⟨f, V, sd, hsl, hF, hS, rfl⟩⟩

set_option maxRecDepth 100000 in
set_option maxHeartbeats 4000000 in
theorem RCutN_spec (N : Int) (A : Option Addr) (l : List Arc) (cap : Nat) (c most : Int) (w : World) (hr : Ro (Fr w []) w A (l.flatMap arcCs)) (hl : l.length ≤ 9223372036854775807) (hN : I64 N) (hok : ∀ x ∈ l, ArcOk x) :
    Meets Try.prog 12 [.agg #[.int .i64 N, .slice A l.length cap], .int .i64 c, .int .i64 most] w [] (fun u own' => ∃ (C : List Pr) (A' : Option Addr) (c2 : Nat) (m' : Seg), u = .tuple #[.slice A' C.length c2, .int .i64 (ncE N l c most)] ∧ own' = [m'] ∧ Own 47 2 (.slice A' C.length c2) C.length (C.flatMap prCs) m' ∧ (ncE N l c most ≠ 0 → C = []) ∧ (ncE N l c most = 0 → NcΦ N.toNat l c most C)) := by
 refine f_enter Try.func12 rfl Try.ntmps12 rfl Owns.nil ?_
 refine f_seq fun K1 kh1 => ?_
 refine f_region ?_
 refine f_step rfl rfl rfl (o_box rfl rfl fun b3 => ?_)
 refine f_stepP rfl rfl rfl (o_assign rfl) ?_
 refine f_stepP rfl rfl rfl (o_assign rfl) ?_
 refine f_done ?_
 refine f_tn (kh1 _ _ ?_)
 clear kh1
 refine f_seq fun K2 kh2 => ?_
 refine f_seq fun K3 kh3 => ?_
 refine f_region ?_
 refine f_stepP rfl rfl rfl (o_loadA (vs := [_, _]) Try.isAgg24 Try.sizeOf24 rfl rfl ⟨(rdA rfl), (rdA rfl), trivial⟩) ?_
 refine f_stepP rfl rfl rfl (o_move rfl) ?_
 refine f_stepP rfl rfl rfl (o_move rfl) ?_
 refine f_step rfl rfl rfl (o_call Try.call34 rfl (fun w_ hp_ => RRegion_spec N A l cap c most w_ (hr.up0 hp_) hl hN hok) ?_)
 rintro _ _ ⟨s, ms, rfl, rfl, ho⟩
 dsimp only [List.cons_append, List.nil_append]
 refine f_stepP rfl rfl rfl (o_move rfl) ?_
 refine f_stepP rfl rfl rfl (o_extract rfl rfl) ?_
 refine f_stepP rfl rfl rfl (o_extract rfl rfl) ?_
 refine f_stepP rfl rfl rfl (o_assign rfl) ?_
 refine f_stepP rfl rfl rfl (o_assign rfl) ?_
 refine f_done ?_
 refine f_tn (kh3 _ _ ?_)
 clear kh3
 refine f_seq fun K4 kh4 => ?_
 refine f_region ?_
 refine f_stepP rfl rfl rfl (o_move rfl) ?_
 refine f_stepP rfl rfl rfl (o_neq rfl rfl) ?_
 refine f_done ?_
 refine f_tn (kh4 _ _ ?_)
 clear kh4
 refine f_cond rfl (fun c18 => ?_) (fun c18 => ?_)
 ·
  refine f_seq fun K5 kh5 => ?_
  refine f_region ?_
  refine f_stepP rfl rfl rfl (o_move rfl) ?_
  refine f_stepP rfl rfl rfl (o_assign rfl) ?_
  refine f_stepP rfl rfl rfl (o_assign rfl) ?_
  refine f_done ?_
  refine f_tn (kh5 _ _ ?_)
  clear kh5
  refine f_ret ?_
  refine f_tr ?_
  have c18' : (regR N l c most).2 ≠ 0 := by simpa using c18
  have he : ncE N l c most = (regR N l c most).2 := by unfold ncE; rw [if_pos c18']
  exact f_fin2 [[]] Try.results12 rfl rfl (show Fly.Sub _ [[]] from (by repeat (first | exact Sub.nil | refine Sub.pick ?_ | refine Sub.castO rfl ?_ | refine Sub.skip ?_))) ⟨[], none, 0, [], by rw [he]; rfl, rfl, Own.nil _ _, fun _ => rfl, fun h => absurd (he.symm.trans h) c18'⟩
 ·
  have hrz : (regR N l c most).2 = 0 := by simpa using c18
  obtain ⟨hg, n, cn, mn, rfl, rfl, rfl, hok2⟩ := reg_ok hrz
  have hcn := hok2.c
  have hmm := hok2.m
  have hne := nc_zero hrz
  refine f_skip ?_
  refine f_tn (kh2 _ _ ?_)
  clear kh2
  refine f_seq fun K6 kh6 => ?_
  refine f_region ?_
  refine f_stepP rfl rfl rfl (o_loadA (vs := [_, _]) Try.isAgg24 Try.sizeOf24 rfl rfl ⟨(rdA rfl), (rdA rfl), trivial⟩) ?_
  refine f_stepP rfl rfl rfl (o_move rfl) ?_
  refine f_stepP rfl rfl rfl (o_move rfl) ?_
  refine f_step rfl rfl rfl (o_call Try.call35 rfl (fun w_ hp_ => RAroundN_spec n A l cap cn mn w_ (hr.up0 hp_) hg (by omega) (by omega)) ?_)
  rintro _ _ ⟨C, A', c', m', rfl, rfl, hO, hC⟩
  dsimp only [List.cons_append, List.nil_append]
  refine f_stepP rfl rfl rfl (o_assign rfl) ?_
  refine f_stepP rfl rfl rfl (o_assign rfl) ?_
  refine f_done ?_
  refine f_tn (kh6 _ _ ?_)
  clear kh6
  refine f_ret ?_
  exact f_fin2 [m'] Try.results12 rfl rfl (by repeat (first | exact Sub.nil | refine Sub.pick ?_ | refine Sub.castO rfl ?_ | refine Sub.skip ?_)) ⟨C, A', c', m', by rw [hne], rfl, hO, fun h => absurd hne h, fun _ => by rw [Int.toNat_natCast]; exact hC⟩

end Go.Proofs.Ytbjiejhdgkpjcaa
