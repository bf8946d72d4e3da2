import Derived.Test.YtbjiejhdgkpjcaaAll10
import Derived.Test.YtbjiejhdgkpjcaaAll7
import Derived.Test.YtbjiejhdgkpjcaaAll0
import Derived.Test.YtbjiejhdgkpjcaaAll9

/- flyoverlaw08: large, works. -/
namespace Go.Proofs.Ytbjiejhdgkpjcaa
open Go Go.RowKit Fly
set_option linter.unusedVariables false
set_option linter.unusedSimpArgs false

set_option maxRecDepth 100000 in
set_option maxHeartbeats 4000000 in
theorem RCheck_spec (N : Int) (A : Option Addr) (l : List Arc) (cap : Nat) (w : World) (hr : Ro (Fr w []) w A (l.flatMap arcCs)) (hl : l.length ≤ 9223372036854775807) (hN : I64 N) (hok : ∀ x ∈ l, ArcOk x) :
    Meets Try.prog 38 [.agg #[.int .i64 N, .slice A l.length cap]] w [] (fun v m => v = .tuple #[.int .i64 (gcheck N l).1, .int .i64 (gcheck N l).2] ∧ m = []) := by
 refine f_enter Try.func38 rfl Try.ntmps38 rfl Owns.nil ?_
 refine f_seq fun K1 kh1 => ?_
 refine f_region ?_
 refine f_step rfl rfl rfl (o_box rfl rfl fun b1 => ?_)
 refine f_stepP rfl rfl rfl (o_assign rfl) ?_
 refine f_stepP rfl rfl rfl (o_assign rfl) ?_
 refine f_done ?_
 refine f_tn (kh1 _ _ ?_)
 clear kh1
 refine f_seq fun K2 kh2 => ?_
 refine f_seq fun K3 kh3 => ?_
 refine f_region ?_
 refine f_stepP rfl rfl rfl (o_field fa24_0 rfl) ?_
 refine f_stepP rfl rfl rfl (o_load Try.isAgg3 rfl (rdA rfl)) ?_
 refine f_stepP rfl rfl rfl (o_lss rfl rfl) ?_
 refine f_stepP rfl rfl rfl (o_move rfl) ?_
 refine f_splitL 9 rfl (fun g9 => ?_) (fun g9 => ?_)
 ·
  refine f_stepN rfl rfl rfl rfl rfl rfl ?_
  refine f_stepN rfl rfl rfl rfl rfl rfl ?_
  refine f_stepN rfl rfl rfl rfl rfl rfl ?_
  refine f_stepP rfl rfl rfl (o_pickT rfl rfl) ?_
  refine f_done ?_
  refine f_tn (kh3 _ _ ?_)
  clear kh3
  refine f_condT rfl ?_
  refine f_seq fun K4 kh4 => ?_
  refine f_region ?_
  refine f_stepP rfl rfl rfl (o_assign rfl) ?_
  refine f_stepP rfl rfl rfl (o_assign rfl) ?_
  refine f_done ?_
  refine f_tn (kh4 _ _ ?_)
  clear kh4
  refine f_ret ?_
  refine f_tr ?_
  exact f_fin2 [] Try.results38 rfl rfl Sub.nil ⟨by rw [gcheck_range (by omega)], rfl⟩
 ·
  refine f_stepPY rfl rfl rfl rfl rfl (o_field fa24_0 rfl) ?_
  refine f_stepPY rfl rfl rfl rfl rfl (o_load Try.isAgg3 rfl (rdA rfl)) ?_
  refine f_stepPY rfl rfl rfl rfl rfl (o_gtr rfl rfl) ?_
  refine f_stepP rfl rfl rfl (o_pickF rfl rfl) ?_
  refine f_done ?_
  refine f_tn (kh3 _ _ ?_)
  clear kh3
  refine f_cond rfl (fun c13 => ?_) (fun c13 => ?_)
  ·
   refine f_seq fun K5 kh5 => ?_
   refine f_region ?_
   refine f_stepP rfl rfl rfl (o_assign rfl) ?_
   refine f_stepP rfl rfl rfl (o_assign rfl) ?_
   refine f_done ?_
   refine f_tn (kh5 _ _ ?_)
   clear kh5
   refine f_ret ?_
   refine f_tr ?_
   exact f_fin2 [] Try.results38 rfl rfl Sub.nil ⟨by rw [gcheck_range (by omega)], rfl⟩
  ·
   have hN1 : 1 ≤ N ∧ N ≤ 1024 := by omega
   refine f_skip ?_
   refine f_tn (kh2 _ _ ?_)
   clear kh2
   refine f_seq fun K6 kh6 => ?_
   refine f_seq fun K7 kh7 => ?_
   refine f_region ?_
   refine f_stepP rfl rfl rfl (o_field fa24_1 rfl) ?_
   refine f_stepP rfl rfl rfl (o_load Try.isAgg22 rfl (rdA rfl)) ?_
   refine f_stepP rfl rfl rfl (o_len sl22 rfl) ?_
   refine f_stepP rfl rfl rfl (o_gtr rfl rfl) ?_
   refine f_done ?_
   refine f_tn (kh7 _ _ ?_)
   clear kh7
   refine f_cond rfl (fun c17 => ?_) (fun c17 => ?_)
   ·
    refine f_seq fun K8 kh8 => ?_
    refine f_region ?_
    refine f_stepP rfl rfl rfl (o_assign rfl) ?_
    refine f_stepP rfl rfl rfl (o_assign rfl) ?_
    refine f_done ?_
    refine f_tn (kh8 _ _ ?_)
    clear kh8
    refine f_ret ?_
    refine f_tr ?_
    exact f_fin2 [] Try.results38 rfl rfl Sub.nil ⟨by rw [gcheck_long hN1 (by omega)], rfl⟩
   ·
    refine f_skip ?_
    refine f_tn (kh6 _ _ ?_)
    clear kh6
    refine f_seq fun K9 kh9 => ?_
    refine f_seq fun K10 kh10 => ?_
    refine f_region ?_
    refine f_stepP rfl rfl rfl (o_assign rfl) ?_
    refine f_done ?_
    refine f_tn (kh10 _ _ ?_)
    clear kh10
    refine f_block ?_
    refine f_loop (α := Nat) [1] (fun k => [(4, .int .i64 (k : Int))]) (fun k => [[(b1, blk [.int .i64 N, .slice A l.length cap] 24)]]) (fun k => k ≤ l.length ∧ ∀ j (h : j < l.length), j < k → arcBad N l[j] = false) (fun k => l.length - k) (0) ?_ ?_ ?_ ?_
    · exact (by repeat (first | exact trivial | refine ⟨rfl, ?_⟩))
    · repeat (first | exact Sub.nil | refine Sub.pick ?_ | refine Sub.castO rfl ?_ | refine Sub.skip ?_)
    · exact ⟨by omega, fun j h hj => by omega⟩
    ·
     rintro k ⟨hkl, hall⟩
     refine f_seq fun K11 kh11 => ?_
     refine f_seq fun K12 kh12 => ?_
     refine f_region ?_
     refine f_stepP rfl rfl rfl (o_move rfl) ?_
     refine f_stepP rfl rfl rfl (o_field fa24_1 rfl) ?_
     refine f_stepP rfl rfl rfl (o_load Try.isAgg22 rfl (rdA rfl)) ?_
     refine f_stepP rfl rfl rfl (o_len sl22 rfl) ?_
     refine f_stepP rfl rfl rfl (o_lss rfl rfl) ?_
     refine f_done ?_
     refine f_tn (kh12 _ _ ?_)
     clear kh12
     refine f_cond rfl (fun c22 => ?_) (fun c22 => ?_)
     ·
      refine f_skip ?_
      refine f_tn (kh11 _ _ ?_)
      clear kh11
      refine f_seq fun K13 kh13 => ?_
      refine f_block ?_
      refine f_seq fun K14 kh14 => ?_
      refine f_region ?_
      refine f_stepP rfl rfl rfl (o_field fa24_1 rfl) ?_
      refine f_stepP rfl rfl rfl (o_load Try.isAgg22 rfl (rdA rfl)) ?_
      refine f_stepP rfl rfl rfl (o_move rfl) ?_
      have hk : k < l.length := by omega
      obtain ⟨b, off, rfl, hS, hc⟩ := hr (flat_ne arcCs arcCs_len (by omega) hk)
      refine f_stepP rfl rfl rfl (o_idx sl22 rfl rfl (off + k * 3) ⟨by omega, by omega, by first | omega | (simp; done) | (simp; omega)⟩) ?_
      refine f_stepP rfl rfl rfl (o_loadA (vs := arcCs l[k]) Try.isAgg55 Try.sizeOf55 rfl rfl (roElem arcCs_len hS hc hk)) ?_
      refine f_step rfl rfl rfl (o_alloc Try.zeroValue55 rfl fun b5 => ?_)
      refine f_step0 rfl rfl (o_storeA Try.sizeOf55 rfl rfl rfl rfl (by first | exact Nat.le_of_ble_eq_true rfl | (simp; done) | (simp; omega)) (arcCs l[k]) rfl ?_)
      refine f_done ?_
      refine f_tn (kh14 _ _ ?_)
      clear kh14
      refine f_seq fun K15 kh15 => ?_
      refine f_region ?_
      refine f_stepP rfl rfl rfl (o_field fa55_0 rfl) ?_
      refine f_stepP rfl rfl rfl (o_load Try.isAgg3 rfl (rdA rfl)) ?_
      refine f_stepP rfl rfl rfl (o_lss rfl rfl) ?_
      refine f_stepP rfl rfl rfl (o_move rfl) ?_
      refine f_splitL 33 rfl (fun g33 => ?_) (fun g33 => ?_)
      ·
       refine f_stepN rfl rfl rfl rfl rfl rfl ?_
       refine f_stepN rfl rfl rfl rfl rfl rfl ?_
       refine f_stepN rfl rfl rfl rfl rfl rfl ?_
       refine f_stepN rfl rfl rfl rfl rfl rfl ?_
       refine f_stepN rfl rfl rfl rfl rfl rfl ?_
       refine f_stepP rfl rfl rfl (o_pickT rfl rfl) ?_
       refine f_stepP rfl rfl rfl (o_move rfl) ?_
       refine f_stepN rfl rfl rfl rfl rfl rfl ?_
       refine f_stepN rfl rfl rfl rfl rfl rfl ?_
       refine f_stepN rfl rfl rfl rfl rfl rfl ?_
       refine f_stepP rfl rfl rfl (o_pickT rfl rfl) ?_
       refine f_stepP rfl rfl rfl (o_move rfl) ?_
       refine f_stepN rfl rfl rfl rfl rfl rfl ?_
       refine f_stepN rfl rfl rfl rfl rfl rfl ?_
       refine f_stepN rfl rfl rfl rfl rfl rfl ?_
       refine f_stepN rfl rfl rfl rfl rfl rfl ?_
       refine f_stepN rfl rfl rfl rfl rfl rfl ?_
       refine f_stepP rfl rfl rfl (o_pickT rfl rfl) ?_
       refine f_done ?_
       refine f_tn (kh15 _ _ ?_)
       clear kh15
       refine f_condT rfl ?_
       refine f_seq fun K16 kh16 => ?_
       refine f_region ?_
       refine f_stepP rfl rfl rfl (o_move rfl) ?_
       refine f_stepP rfl rfl rfl (o_assign rfl) ?_
       refine f_stepP rfl rfl rfl (o_assign rfl) ?_
       refine f_done ?_
       refine f_tn (kh16 _ _ ?_)
       clear kh16
       refine f_ret ?_
       refine f_br ?_
       refine f_tr ?_
       refine f_tr ?_
       refine f_br ?_
       refine f_tr ?_
       exact f_fin2 [] Try.results38 rfl rfl Sub.nil ⟨by rw [gcheck_bad hN1 (by omega) hk hall (by unfold arcBad; simp; omega)], rfl⟩
      ·
       refine f_stepPY rfl rfl rfl rfl rfl (o_field fa55_0 rfl) ?_
       refine f_stepPY rfl rfl rfl rfl rfl (o_load Try.isAgg3 rfl (rdA rfl)) ?_
       refine f_stepPY rfl rfl rfl rfl rfl (o_field fa24_0 rfl) ?_
       refine f_stepPY rfl rfl rfl rfl rfl (o_load Try.isAgg3 rfl (rdA rfl)) ?_
       refine f_stepPY rfl rfl rfl rfl rfl (o_geq rfl rfl) ?_
       refine f_stepP rfl rfl rfl (o_pickF rfl rfl) ?_
       refine f_stepP rfl rfl rfl (o_move rfl) ?_
       refine f_splitL 40 rfl (fun g40 => ?_) (fun g40 => ?_)
       ·
        refine f_stepN rfl rfl rfl rfl rfl rfl ?_
        refine f_stepN rfl rfl rfl rfl rfl rfl ?_
        refine f_stepN rfl rfl rfl rfl rfl rfl ?_
        refine f_stepP rfl rfl rfl (o_pickT rfl rfl) ?_
        refine f_stepP rfl rfl rfl (o_move rfl) ?_
        refine f_stepN rfl rfl rfl rfl rfl rfl ?_
        refine f_stepN rfl rfl rfl rfl rfl rfl ?_
        refine f_stepN rfl rfl rfl rfl rfl rfl ?_
        refine f_stepN rfl rfl rfl rfl rfl rfl ?_
        refine f_stepN rfl rfl rfl rfl rfl rfl ?_
        refine f_stepP rfl rfl rfl (o_pickT rfl rfl) ?_
        refine f_done ?_
        refine f_tn (kh15 _ _ ?_)
        clear kh15
        refine f_condT rfl ?_
        refine f_seq fun K17 kh17 => ?_
        refine f_region ?_
        refine f_stepP rfl rfl rfl (o_move rfl) ?_
        refine f_stepP rfl rfl rfl (o_assign rfl) ?_
        refine f_stepP rfl rfl rfl (o_assign rfl) ?_
        refine f_done ?_
        refine f_tn (kh17 _ _ ?_)
        clear kh17
        refine f_ret ?_
        refine f_br ?_
        refine f_tr ?_
        refine f_tr ?_
        refine f_br ?_
        refine f_tr ?_
        exact f_fin2 [] Try.results38 rfl rfl Sub.nil ⟨by rw [gcheck_bad hN1 (by omega) hk hall (by unfold arcBad; simp; omega)], rfl⟩
       ·
        refine f_stepPY rfl rfl rfl rfl rfl (o_field fa55_1 rfl) ?_
        refine f_stepPY rfl rfl rfl rfl rfl (o_load Try.isAgg3 rfl (rdA rfl)) ?_
        refine f_stepPY rfl rfl rfl rfl rfl (o_lss rfl rfl) ?_
        refine f_stepP rfl rfl rfl (o_pickF rfl rfl) ?_
        refine f_stepP rfl rfl rfl (o_move rfl) ?_
        refine f_splitL 45 rfl (fun g45 => ?_) (fun g45 => ?_)
        ·
         refine f_stepN rfl rfl rfl rfl rfl rfl ?_
         refine f_stepN rfl rfl rfl rfl rfl rfl ?_
         refine f_stepN rfl rfl rfl rfl rfl rfl ?_
         refine f_stepN rfl rfl rfl rfl rfl rfl ?_
         refine f_stepN rfl rfl rfl rfl rfl rfl ?_
         refine f_stepP rfl rfl rfl (o_pickT rfl rfl) ?_
         refine f_done ?_
         refine f_tn (kh15 _ _ ?_)
         clear kh15
         refine f_condT rfl ?_
         refine f_seq fun K18 kh18 => ?_
         refine f_region ?_
         refine f_stepP rfl rfl rfl (o_move rfl) ?_
         refine f_stepP rfl rfl rfl (o_assign rfl) ?_
         refine f_stepP rfl rfl rfl (o_assign rfl) ?_
         refine f_done ?_
         refine f_tn (kh18 _ _ ?_)
         clear kh18
         refine f_ret ?_
         refine f_br ?_
         refine f_tr ?_
         refine f_tr ?_
         refine f_br ?_
         refine f_tr ?_
         exact f_fin2 [] Try.results38 rfl rfl Sub.nil ⟨by rw [gcheck_bad hN1 (by omega) hk hall (by unfold arcBad; simp; omega)], rfl⟩
        ·
         refine f_stepPY rfl rfl rfl rfl rfl (o_field fa55_1 rfl) ?_
         refine f_stepPY rfl rfl rfl rfl rfl (o_load Try.isAgg3 rfl (rdA rfl)) ?_
         refine f_stepPY rfl rfl rfl rfl rfl (o_field fa24_0 rfl) ?_
         refine f_stepPY rfl rfl rfl rfl rfl (o_load Try.isAgg3 rfl (rdA rfl)) ?_
         refine f_stepPY rfl rfl rfl rfl rfl (o_geq rfl rfl) ?_
         refine f_stepP rfl rfl rfl (o_pickF rfl rfl) ?_
         refine f_done ?_
         refine f_tn (kh15 _ _ ?_)
         clear kh15
         refine f_cond rfl (fun c51 => ?_) (fun c51 => ?_)
         ·
          refine f_seq fun K19 kh19 => ?_
          refine f_region ?_
          refine f_stepP rfl rfl rfl (o_move rfl) ?_
          refine f_stepP rfl rfl rfl (o_assign rfl) ?_
          refine f_stepP rfl rfl rfl (o_assign rfl) ?_
          refine f_done ?_
          refine f_tn (kh19 _ _ ?_)
          clear kh19
          refine f_ret ?_
          refine f_br ?_
          refine f_tr ?_
          refine f_tr ?_
          refine f_br ?_
          refine f_tr ?_
          exact f_fin2 [] Try.results38 rfl rfl Sub.nil ⟨by rw [gcheck_bad hN1 (by omega) hk hall (by unfold arcBad; simp; omega)], rfl⟩
         ·
          refine f_skip ?_
          refine f_bn ?_
          refine f_tn (kh13 _ _ ?_)
          clear kh13
          refine f_region ?_
          refine f_stepP rfl rfl rfl (o_move rfl) ?_
          refine f_stepP rfl rfl rfl (o_add rfl rfl _ (wrap_i64 (by omega))) ?_
          refine f_stepP rfl rfl rfl (o_assign rfl) ?_
          refine f_done ?_
          refine f_tn (f_again (k + 1) (by first | omega | (dsimp only; omega) | (simp; omega)) ⟨by omega, good_next hall (by unfold arcBad; simp; omega)⟩ ?_ ?_ ?_)
          · exact (by repeat (first | exact trivial | refine ⟨rfl, ?_⟩))
          · exact (by repeat (first | exact trivial | refine ⟨rfl, ?_⟩))
          · repeat (first | exact Sub.nil | refine Sub.pick ?_ | refine Sub.castO rfl ?_ | refine Sub.skip ?_)
     ·
      refine f_exit ?_
      refine f_te ?_
      clear kh11
      refine f_te ?_
      refine f_be ?_
      refine f_tn (kh9 _ _ ?_)
      clear kh9
      refine f_seq fun K20 kh20 => ?_
      refine f_region ?_
      refine f_stepP rfl rfl rfl (o_assign rfl) ?_
      refine f_stepP rfl rfl rfl (o_assign rfl) ?_
      refine f_done ?_
      refine f_tn (kh20 _ _ ?_)
      clear kh20
      refine f_ret ?_
      exact f_fin2 [] Try.results38 rfl rfl Sub.nil ⟨by rw [gcheck_ok hN1 (by omega) (fun j h => hall j h (by omega))], rfl⟩

set_option maxRecDepth 100000 in
set_option maxHeartbeats 4000000 in
theorem large_spec (N : Int) (A : Option Addr) (l : List Arc) (cap : Nat) (w : World) (hr : Ro (Fr w []) w A (l.flatMap arcCs)) (hl : l.length ≤ 9223372036854775807) (hN : I64 N) (hok : ∀ x ∈ l, ArcOk x) :
    Meets Try.prog 19 [.agg #[.int .i64 N, .slice A l.length cap]] w [] (fun u m => ∃ b, u = .bool b ∧ m = []) := by
 refine f_enter Try.func19 rfl Try.ntmps19 rfl Owns.nil ?_
 refine f_seq fun K1 kh1 => ?_
 refine f_region ?_
 refine f_step rfl rfl rfl (o_box rfl rfl fun b1 => ?_)
 refine f_stepP rfl rfl rfl (o_assign rfl) ?_
 refine f_done ?_
 refine f_tn (kh1 _ _ ?_)
 clear kh1
 refine f_seq fun K2 kh2 => ?_
 refine f_region ?_
 refine f_stepP rfl rfl rfl (o_field fa24_0 rfl) ?_
 refine f_stepP rfl rfl rfl (o_load Try.isAgg3 rfl (rdA rfl)) ?_
 refine f_stepP rfl rfl rfl (o_gtr rfl rfl) ?_
 refine f_stepP rfl rfl rfl (o_move rfl) ?_
 refine f_splitL 6 rfl (fun g6 => ?_) (fun g6 => ?_)
 ·
  refine f_stepN rfl rfl rfl rfl rfl rfl ?_
  refine f_stepN rfl rfl rfl rfl rfl rfl ?_
  refine f_stepN rfl rfl rfl rfl rfl rfl ?_
  refine f_stepN rfl rfl rfl rfl rfl rfl ?_
  refine f_stepP rfl rfl rfl (o_pickT rfl rfl) ?_
  refine f_stepP rfl rfl rfl (o_assign rfl) ?_
  refine f_done ?_
  refine f_tn (kh2 _ _ ?_)
  clear kh2
  refine f_ret ?_
  exact f_fin1 [] Try.results19 rfl Sub.nil ⟨_, rfl, rfl⟩
 ·
  refine f_stepPY rfl rfl rfl rfl rfl (o_field fa24_1 rfl) ?_
  refine f_stepPY rfl rfl rfl rfl rfl (o_load Try.isAgg22 rfl (rdA rfl)) ?_
  refine f_stepPY rfl rfl rfl rfl rfl (o_len sl22 rfl) ?_
  refine f_stepPY rfl rfl rfl rfl rfl (o_gtr rfl rfl) ?_
  refine f_stepP rfl rfl rfl (o_pickF rfl rfl) ?_
  refine f_stepP rfl rfl rfl (o_assign rfl) ?_
  refine f_done ?_
  refine f_tn (kh2 _ _ ?_)
  clear kh2
  refine f_ret ?_
  exact f_fin1 [] Try.results19 rfl Sub.nil ⟨_, rfl, rfl⟩

set_option maxRecDepth 100000 in
set_option maxHeartbeats 4000000 in
theorem works_spec (w : World) : Meets Try.prog 9 [] w [] (fun u m => u = .bool true ∧ m = []) := by
 refine f_enter Try.func9 rfl Try.ntmps9 rfl Owns.nil ?_
 refine f_seq fun K1 kh1 => ?_
 refine f_region ?_
 refine f_stepP rfl rfl rfl (o_assign rfl) ?_
 refine f_done ?_
 refine f_tn (kh1 _ _ ?_)
 clear kh1
 refine f_seq fun K2 kh2 => ?_
 refine f_region ?_
 refine f_stepP rfl rfl rfl (o_build st55 rfl rfl) ?_
 refine f_stepP rfl rfl rfl (o_build st55 rfl rfl) ?_
 refine f_stepP rfl rfl rfl (o_build st55 rfl rfl) ?_
 refine f_stepP rfl rfl rfl (o_build st55 rfl rfl) ?_
 refine f_stepP rfl rfl rfl (o_build st55 rfl rfl) ?_
 refine f_stepP rfl rfl rfl (o_build st55 rfl rfl) ?_
 refine f_stepP rfl rfl rfl (o_build st55 rfl rfl) ?_
 refine f_step rfl rfl rfl (o_sliceN (len := 7) el22 (by omega) rfl rfl fun b15 => ?_)
 refine f_stepP rfl rfl rfl (o_build st24 rfl rfl) ?_
 refine f_step rfl rfl rfl (o_alloc Try.zeroValue24 rfl fun b1 => ?_)
 refine f_step0 rfl rfl (o_storeA Try.sizeOf24 rfl rfl rfl rfl (by first | exact Nat.le_of_ble_eq_true rfl | (simp; done) | (simp; omega)) _ rfl ?_)
 refine f_done ?_
 refine f_tn (kh2 _ _ ?_)
 clear kh2
 refine f_seq fun K3 kh3 => ?_
 refine f_region ?_
 refine f_stepP rfl rfl rfl (o_loadA (vs := [_, _]) Try.isAgg24 Try.sizeOf24 rfl rfl ⟨(rdA rfl), (rdA rfl), trivial⟩) ?_
 refine f_step rfl rfl rfl (o_call Try.call11 rfl (fun w_ hp_ => CutN_spec 6 (some ⟨b15, 0, none⟩) wg8 7 0 4 w_ (roOwn (b := b15) hp_ (cs := wg8.flatMap arcCs) (fun j v hj => hj)) (by decide) (by decide) wg8Ok) ?_)
 rintro _ _ ⟨C, A1, c1, m1, rfl, rfl, ho1, _, h1⟩
 obtain rfl : C = [(2, 3)] := w8Cut (h1 w8Nc)
 rw [w8Nc]
 obtain ⟨bC, spC, rfl, rfl⟩ := ho1.at_ (by decide)
 dsimp only [List.cons_append, List.nil_append]
 refine f_stepP rfl rfl rfl (o_move rfl) ?_
 refine f_stepP rfl rfl rfl (o_extract rfl rfl) ?_
 refine f_stepP rfl rfl rfl (o_extract rfl rfl) ?_
 refine f_stepP rfl rfl rfl (o_assign rfl) ?_
 refine f_stepP rfl rfl rfl (o_assign rfl) ?_
 refine f_done ?_
 refine f_tn (kh3 _ _ ?_)
 clear kh3
 refine f_seq fun K4 kh4 => ?_
 refine f_region ?_
 refine f_stepP rfl rfl rfl (o_loadA (vs := [_, _]) Try.isAgg24 Try.sizeOf24 rfl rfl ⟨(rdA rfl), (rdA rfl), trivial⟩) ?_
 refine f_stepP rfl rfl rfl (o_move rfl) ?_
 refine f_step rfl rfl rfl (o_call Try.call15 rfl (fun w_ hp_ => Fragments_spec 6 (some ⟨b15, 0, none⟩) (some ⟨bC, 0, none⟩) wg8 7 [(2, 3)] 1 w_ (roOwn (b := b15) hp_ (cs := wg8.flatMap arcCs) (fun j v hj => hj)) (by decide) (by decide) wg8Ok (roOwn (b := bC) hp_ (cs := [((2 : Int), (3 : Int))].flatMap prCs) (fun j v hj => app_get hj)) (by decide) (fun p hp => by simp only [List.mem_cons, List.not_mem_nil, or_false] at hp; subst hp; exact ⟨⟨by decide, by decide⟩, by decide, by decide⟩)) ?_)
 rintro _ _ ⟨P, A2, c2, m2, rfl, rfl, ho2, h2, _⟩
 obtain ⟨p, hPp, hp8⟩ := h2 w8FE
 obtain rfl : P = [0, 0, 0, 1, 1, 1] := hPp.trans (w8Frag hp8)
 rw [w8FE]
 dsimp only [List.cons_append, List.nil_append]
 refine f_stepP rfl rfl rfl (o_move rfl) ?_
 refine f_stepP rfl rfl rfl (o_extract rfl rfl) ?_
 refine f_stepP rfl rfl rfl (o_extract rfl rfl) ?_
 refine f_stepP rfl rfl rfl (o_assign rfl) ?_
 refine f_stepP rfl rfl rfl (o_assign rfl) ?_
 refine f_done ?_
 refine f_tn (kh4 _ _ ?_)
 clear kh4
 refine f_seq fun K5 kh5 => ?_
 refine f_region ?_
 refine f_stepP rfl rfl rfl (o_loadA (vs := [_, _]) Try.isAgg24 Try.sizeOf24 rfl rfl ⟨(rdA rfl), (rdA rfl), trivial⟩) ?_
 refine f_stepP rfl rfl rfl (o_move rfl) ?_
 refine f_step rfl rfl rfl (o_call Try.call25 rfl (fun w_ hp_ => Count_spec 6 (some ⟨b15, 0, none⟩) A2 wg8 7 [0, 0, 0, 1, 1, 1] c2 w_ (roOwn (b := b15) hp_ (cs := wg8.flatMap arcCs) (fun j v hj => hj)) (by decide) (by decide) wg8Ok (seen_ro (ho2.seen hp_)) (by decide)) ?_)
 rintro _ _ ⟨rfl, rfl⟩
 rw [w8Count]
 dsimp only [List.cons_append, List.nil_append]
 refine f_stepP rfl rfl rfl (o_move rfl) ?_
 refine f_stepP rfl rfl rfl (o_extract rfl rfl) ?_
 refine f_stepP rfl rfl rfl (o_extract rfl rfl) ?_
 refine f_stepP rfl rfl rfl (o_assign rfl) ?_
 refine f_stepP rfl rfl rfl (o_assign rfl) ?_
 refine f_done ?_
 refine f_tn (kh5 _ _ ?_)
 clear kh5
 refine f_seq fun K6 kh6 => ?_
 have hlen8 : ([(2, 3)] : List Pr).length = 1 := rfl
 refine f_region ?_
 refine f_stepP rfl rfl rfl (o_move rfl) ?_
 refine f_stepP rfl rfl rfl (o_eql rfl rfl) ?_
 refine f_stepP rfl rfl rfl (o_move rfl) ?_
 refine f_trueL 36 rfl (rfl) ?_
 refine f_stepPY rfl rfl rfl rfl rfl (o_move rfl) ?_
 refine f_stepPY rfl rfl rfl rfl rfl (o_len sl28 rfl) ?_
 refine f_stepPY rfl rfl rfl rfl rfl (o_eql rfl rfl) ?_
 refine f_stepP rfl rfl rfl (o_pickT rfl rfl) ?_
 refine f_stepP rfl rfl rfl (o_move rfl) ?_
 refine f_trueL 41 rfl (rfl) ?_
 refine f_stepPY rfl rfl rfl rfl rfl (o_move rfl) ?_
 refine f_stepPY rfl rfl rfl rfl rfl (o_idx sl28 rfl rfl (0) ⟨by omega, by omega, by first | omega | (simp; done) | (simp; omega)⟩) ?_
 refine f_stepPY rfl rfl rfl rfl rfl (o_loadA (vs := prCs ((2 : Int), (3 : Int))) Try.isAgg47 Try.sizeOf47 rfl rfl ⟨(rdA rfl), (rdA rfl), trivial⟩) ?_
 refine f_stepPY rfl rfl rfl rfl rfl (o_build (cs := prCs ((2 : Int), (3 : Int))) st47 rfl rfl) ?_
 refine f_stepPY rfl rfl rfl rfl rfl (o_eqlA Try.eqGuardType47 (eqPr (2, 3) (2, 3)) rfl rfl) ?_
 refine f_stepP rfl rfl rfl (o_pickT rfl rfl) ?_
 refine f_stepP rfl rfl rfl (o_move rfl) ?_
 refine f_trueL 48 rfl (rfl) ?_
 refine f_stepPY rfl rfl rfl rfl rfl (o_move rfl) ?_
 refine f_stepPY rfl rfl rfl rfl rfl (o_eql rfl rfl) ?_
 refine f_stepP rfl rfl rfl (o_pickT rfl rfl) ?_
 refine f_stepP rfl rfl rfl (o_move rfl) ?_
 refine f_trueL 52 rfl (rfl) ?_
 refine f_stepPY rfl rfl rfl rfl rfl (o_move rfl) ?_
 refine f_stepY rfl rfl rfl rfl rfl (o_sliceN (len := 6) el35 (by omega) rfl rfl fun b54 => ?_)
 refine f_stepY rfl rfl rfl rfl rfl (o_call Try.call17 rfl (fun w_ hp_ => SameInts_spec A2 (some ⟨b54, 0, none⟩) [0, 0, 0, 1, 1, 1] [0, 0, 0, 1, 1, 1] c2 6 w_ (seen_ro (ho2.seen hp_)) (roOwn (b := b54) hp_ (cs := ints [0, 0, 0, 1, 1, 1]) (fun j v hj => hj)) (by decide)) ?_)
 rintro _ _ ⟨rfl, rfl⟩
 rw [decide_eq_true rfl]
 dsimp only [List.cons_append, List.nil_append]
 refine f_stepP rfl rfl rfl (o_pickT rfl rfl) ?_
 refine f_stepP rfl rfl rfl (o_move rfl) ?_
 refine f_stepPY rfl rfl rfl rfl rfl (o_move rfl) ?_
 refine f_stepPY rfl rfl rfl rfl rfl (o_eql rfl rfl) ?_
 refine f_stepP rfl rfl rfl (o_pickT rfl rfl) ?_
 refine f_stepP rfl rfl rfl (o_move rfl) ?_
 refine f_trueL 61 rfl (rfl) ?_
 refine f_stepPY rfl rfl rfl rfl rfl (o_move rfl) ?_
 refine f_stepPY rfl rfl rfl rfl rfl (o_eql rfl rfl) ?_
 refine f_stepP rfl rfl rfl (o_pickT rfl rfl) ?_
 refine f_stepP rfl rfl rfl (o_assign rfl) ?_
 refine f_done ?_
 refine f_tn (kh6 _ _ ?_)
 clear kh6
 refine f_ret ?_
 exact f_fin1 [] Try.results9 rfl Sub.nil ⟨by simp, rfl⟩

end Go.Proofs.Ytbjiejhdgkpjcaa

/- Networks turned about, capacities raised, sums over cuts. Plain laws. -/

namespace Go.Proofs.Ytbjiejhdgkpjcaa
open Go Fly
set_option linter.unusedVariables false
set_option linter.unusedSimpArgs false

variable {n : Nat} {e : List Arc} {s t : Nat} {f g : List Int} {V W : Int} {A B : Nat → Bool}
/-- None is greater than one with a side. -/
theorem Flow.le_max (hf : Flow n e s t f V) (hg : Flow n e s t g W) (hB : Side n e s t g B) (he : NetOk n e) (hs : s < n) : V ≤ W := by
  have h1 := hf.le_cut he hs hB.src hB.dst
  have h2 := (hg.shut he hs hB.src hB.dst).2 hB.shut
  omega
def turnA (x : Arc) : Arc := ⟨x.dst, x.src, x.wt⟩
theorem turn_turn (e : List Arc) : (e.map turnA).map turnA = e := by
  rw [List.map_map]; conv => rhs; rw [← List.map_id e]
  rfl
theorem net_turn : ∀ (e : List Arc) (f : List Int) (v : Nat), net (e.map turnA) f v = - net e f v
  | [], _, _ => by simp [net]
  | x :: e, [], _ => by simp [net]
  | x :: e, y :: f, v => by
    have := net_turn e f v
    simp only [List.map_cons, net, turnA] at this ⊢
    omega
theorem arcAt_map {i : Nat} (h : i < e.length) : arcAt (e.map turnA) i = turnA (arcAt e i) := by rw [arcAt_eq h, arcAt_eq (by simpa using h), List.getElem_map]
theorem Flow.turn (h : Flow n e s t f V) : Flow n (e.map turnA) t s f V :=
  ⟨⟨by simpa using h.fits.len, fun i hi => by
    have hi' : i < e.length := by simpa using hi
    rw [arcAt_map hi']; exact h.fits.rng i hi'⟩, fun v hv => by rw [net_turn, h.cons v hv]; omega⟩
theorem NetOk.turn (h : NetOk n e) : NetOk n (e.map turnA) := fun x hx => by
  obtain ⟨y, hy, rfl⟩ := List.mem_map.1 hx
  exact ⟨(h y hy).2, (h y hy).1⟩
theorem turn_same (he : NetOk n e) (hs : s < n) (ht : t < n) (hf : Flow n e s t f V) (hA : Side n e s t f A) (hg : Flow n (e.map turnA) t s g W) (hB : Side n (e.map turnA) t s g B) : V = W := by
  have h1 := hf.turn.le_max hg hB he.turn ht
  have h2 : Flow n e s t g W := by have := hg.turn; rwa [turn_turn] at this
  have h3 := h2.le_max hf hA he hs
  omega
/-- An edge's capacity is raised. -/
def raise (e : List Arc) (i : Nat) (d : Int) : List Arc := e.set i ⟨(arcAt e i).src, (arcAt e i).dst, (arcAt e i).wt + d⟩
theorem raise_len (e : List Arc) (i : Nat) (d : Int) : (raise e i d).length = e.length := by simp [raise]
theorem raise_at {i : Nat} {d : Int} (hi : i < e.length) (j : Nat) : arcAt (raise e i d) j = if i = j then ⟨(arcAt e i).src, (arcAt e i).dst, (arcAt e i).wt + d⟩ else arcAt e j := by
  unfold raise
  conv => lhs; unfold arcAt
  rw [List.getD_eq_getElem?_getD, List.getElem?_set]
  by_cases h : i = j
  · rw [if_pos h, if_pos hi, if_pos h]; rfl
  · rw [if_neg h, if_neg h, ← List.getD_eq_getElem?_getD]; rfl
theorem net_raise : ∀ {e : List Arc} {i : Nat} (d : Int) (f : List Int) (v : Nat), i < e.length → net (raise e i d) f v = net e f v
  | [], _, _, _, _, h => by simp at h
  | x :: e, 0, d, [], v, _ => by simp [raise, net]
  | x :: e, 0, d, y :: f, v, _ => by simp [raise, net, arcAt]
  | x :: e, i + 1, d, [], v, _ => by simp [raise, net]
  | x :: e, i + 1, d, y :: f, v, h => by
    have := net_raise (e := e) (i := i) d f v (by simpa using h)
    unfold raise at this ⊢
    have ea : arcAt (x :: e) (i + 1) = arcAt e i := by simp [arcAt]
    rw [ea]
    simp only [List.set_cons_succ, net, this]
theorem capA_raise : ∀ {e : List Arc} {i : Nat} (d : Int), i < e.length → 0 ≤ d → capA A e ≤ capA A (raise e i d) ∧ capA A (raise e i d) ≤ capA A e + d
  | [], _, _, h, _ => by simp at h
  | x :: e, 0, d, _, hd => by
    simp only [raise, arcAt, List.getD_cons_zero, List.set_cons_zero, capA]
    split <;> omega
  | x :: e, i + 1, d, h, hd => by
    have := capA_raise (e := e) (i := i) d (by simpa using h) hd
    unfold raise at this ⊢
    have ea : arcAt (x :: e) (i + 1) = arcAt e i := by simp [arcAt]
    rw [ea]
    simp only [List.set_cons_succ, capA]
    omega
theorem Flow.raise {i : Nat} {d : Int} (h : Flow n e s t f V) (hi : i < e.length) (hd : 0 ≤ d) : Flow n (raise e i d) s t f V :=
  ⟨⟨by rw [raise_len]; exact h.fits.len, fun j hj => by
    rw [raise_len] at hj
    have := h.fits.rng j hj
    rw [raise_at hi]
    split
    · rename_i e'; subst e'; simp only; omega
    · exact this⟩, fun v hv => by rw [net_raise d f v hi]; exact h.cons v hv⟩
theorem NetOk.raise {i : Nat} {d : Int} (h : NetOk n e) (hi : i < e.length) : NetOk n (raise e i d) := fun x hx => by
  obtain ⟨j, hj, rfl⟩ := List.mem_iff_getElem.1 hx
  have hj' : j < e.length := by rwa [raise_len] at hj
  rw [← arcAt_eq hj, raise_at hi]
  split
  · have := h _ (List.getElem_mem hi); rw [arcAt_eq hi]; exact this
  · rw [arcAt_eq hj']; exact h _ (List.getElem_mem hj')
theorem raise_more {i : Nat} {d : Int} (he : NetOk n e) (hs : s < n) (hi : i < e.length) (hd : 0 ≤ d) (hf : Flow n e s t f V) (hA : Side n e s t f A) (hg : Flow n (raise e i d) s t g W) (hB : Side n (raise e i d) s t g B) : V ≤ W ∧ W ≤ V + d := by
  refine ⟨(hf.raise hi hd).le_max hg hB (he.raise hi) hs, ?_⟩
  have h1 := hg.le_cut (he.raise hi) hs hA.src hA.dst
  have h2 := (hf.shut he hs hA.src hA.dst).2 hA.shut
  have h3 := capA_raise (A := A) (e := e) d hi hd
  omega
theorem capA_append (A : Nat → Bool) : ∀ (e e' : List Arc), capA A (e ++ e') = capA A e + capA A e'
  | [], e' => by simp [capA]
  | x :: e, e' => by simp only [List.cons_append, capA, capA_append A e e']; omega
theorem capA_next {i : Nat} (hi : i < e.length) : capA A (e.take (i + 1)) = capA A (e.take i) + (if A e[i].src.toNat && !A e[i].dst.toNat then e[i].wt else 0) := by
  rw [List.take_succ_eq_append_getElem hi, capA_append]; simp [capA]
theorem capA_bound {c : Int} : ∀ (e : List Arc), (∀ x ∈ e, 0 ≤ x.wt ∧ x.wt ≤ c) → 0 ≤ capA A e ∧ capA A e ≤ e.length * c
  | [], _ => by simp [capA]
  | x :: e, h => by
    have := capA_bound e fun y hy => h y (List.mem_cons_of_mem _ hy)
    have := h x (List.mem_cons_self ..)
    simp only [capA, List.length_cons]
    rw [show ((e.length + 1 : Nat) : Int) * c = e.length * c + c by rw [Int.natCast_add, Int.add_mul]; simp]
    split <;> omega
theorem capA_take {c : Int} (h : ∀ x ∈ e, 0 ≤ x.wt ∧ x.wt ≤ c) (i : Nat) (hc : c ≤ 4294967295) (hl : e.length ≤ 16384) : 0 ≤ capA A (e.take i) ∧ capA A (e.take i) ≤ 70368744161280 := by
  have h1 := capA_bound (A := A) (c := c) (e.take i) fun x hx => h x (List.mem_of_mem_take hx)
  have h2 : (e.take i).length ≤ 16384 := by simp; omega
  refine ⟨h1.1, ?_⟩
  by_cases h0 : c ≤ 0
  · have : ((e.take i).length : Int) * c ≤ 0 := Int.mul_nonpos_of_nonneg_of_nonpos (by omega) h0
    omega
  · have h3 : ((e.take i).length : Int) * c ≤ 16384 * 4294967295 := Int.mul_le_mul (by omega) hc (by omega) (by omega)
    omega
theorem capA_congr : ∀ {e : List Arc}, (∀ x ∈ e, A x.src.toNat = B x.src.toNat ∧ A x.dst.toNat = B x.dst.toNat) → capA A e = capA B e
  | [], _ => rfl
  | x :: e, h => by
    have h0 := h x (List.mem_cons_self ..)
    simp only [capA, h0.1, h0.2, capA_congr fun y hy => h y (List.mem_cons_of_mem _ hy)]
end Go.Proofs.Ytbjiejhdgkpjcaa

/- What a natural cut parts, and that no pair of it is too many; marks among all pairs. Plain laws. -/

namespace Go.Proofs.Ytbjiejhdgkpjcaa
open Go Fly
set_option linter.unusedVariables false
set_option linter.unusedSimpArgs false
set_option linter.unusedSectionVars false

/-- The capacity of a side: how many pairs are between it and the others. -/
theorem capA_cutE (A : Nat → Bool) (L : List Int) : ∀ ps : List Pr, capA A (cutE ps L) = ((ps.filter fun p => decide (A (nd L p.1).toNat ≠ A (nd L p.2).toNat)).length : Int)
  | [] => rfl
  | p :: ps => by
    have e : cutE (p :: ps) L = (if nd L p.1 ≠ nd L p.2 then [⟨nd L p.1, nd L p.2, 1⟩, ⟨nd L p.2, nd L p.1, 1⟩] else []) ++ cutE ps L := by unfold cutE; rw [List.flatMap_cons]
    rw [e, capA_append, capA_cutE A L ps]
    by_cases hne : nd L p.1 = nd L p.2
    · rw [if_neg (by simpa using hne), List.filter_cons, hne]; simp [capA]
    · rw [if_pos hne, List.filter_cons]
      cases h1 : A (nd L p.1).toNat <;> cases h2 : A (nd L p.2).toNat <;> simp [capA, h1, h2] <;> omega
theorem nd_set {L : List Int} {v x : Int} (hv : v.toNat < L.length) (h0 : 0 ≤ v) (u : Int) (hu : 0 ≤ u) : nd (L.set v.toNat x) u = if v = u then x else nd L u := by
  unfold nd
  simp only [List.getD_eq_getElem?_getD]
  by_cases e : v = u
  · subst e; rw [List.getElem?_set_self hv, if_pos rfl]; rfl
  · rw [List.getElem?_set_ne (by omega), if_neg e]
theorem nd_inj {α : Type} {l : List α} (h : l.Nodup) {i j : Nat} (hi : i < l.length) (hj : j < l.length) (e : l[i] = l[j]) : i = j := by
  rcases Nat.lt_trichotomy i j with h1 | h1 | h1
  · exact absurd e (List.pairwise_iff_getElem.1 h i j hi hj h1)
  · exact h1
  · exact absurd e.symm (List.pairwise_iff_getElem.1 h j i hj hi h1)
theorem ndTo_nd {reg : List Int} {c n : Nat} (hr : ∀ x ∈ reg, 0 ≤ x ∧ x < (n : Int)) (hnd : reg.Nodup) : ∀ k, k ≤ reg.length → ∀ v : Int, 0 ≤ v → v < (n : Int) →
    (∀ i (hi : i < reg.length), i < k → reg[i] = v → nd (ndTo reg c n k) v = if i < c then 0 else 2 + (i : Int) - (c : Int)) ∧ (v ∉ reg.take k → nd (ndTo reg c n k) v = 1)
  | 0, _, v, h0, h1 => ⟨fun i hi h => by omega, fun _ => by unfold ndTo nd; rw [List.getD_eq_getElem?_getD, List.getElem?_replicate, if_pos (by omega)]; rfl⟩
  | k + 1, hk, v, h0, h1 => by
    have hk' : k < reg.length := hk
    have ih := ndTo_nd (c := c) hr hnd k (by omega) v h0 h1
    have hg : reg.getD k 0 = reg[k] := by simp [List.getD_eq_getElem?_getD, hk']
    have hrk := hr _ (List.getElem_mem hk')
    rw [ndTo_succ, hg, nd_set (by rw [ndTo_len]; omega) hrk.1 v h0]
    refine ⟨fun i hi hik e => ?_, fun hn => ?_⟩
    · by_cases ei : i = k
      · subst ei; rw [if_pos e]
      · have : reg[k] ≠ v := fun e2 => ei (nd_inj hnd hi hk' (e.trans e2.symm))
        rw [if_neg this]; exact ih.1 i hi (by omega) e
    · rw [List.take_succ_eq_append_getElem hk'] at hn
      rw [if_neg (fun e => hn (by simp [e])), ih.2 (fun h => hn (List.mem_append_left _ h))]
/-- A list of n vertices, no one twice, has them all. -/
theorem all_in {n : Nat} {L : List Int} (hr : ∀ x ∈ L, 0 ≤ x ∧ x < (n : Int)) (hn : L.Nodup) (hl : L.length = n) {v : Int} (h0 : 0 ≤ v) (h1 : v < (n : Int)) : v ∈ L :=
  Classical.byContradiction fun h => by
    have := ints_card (n := n) (l := v :: L) (fun x hx => by rcases List.mem_cons.1 hx with rfl | hx; exact ⟨h0, h1⟩; exact hr x hx) (List.nodup_cons.2 ⟨h, hn⟩)
    simp at this; omega

section
variable {n : Nat} {l : List Arc} {c most : Int}
theorem reg_facts (h : (regR (n : Int) l c most).2 = 0) : (gcheck (n : Int) l).2 = 0 ∧ (∀ x ∈ (regR (n : Int) l c most).1, 0 ≤ x ∧ x < (n : Int)) ∧ (regR (n : Int) l c most).1.Nodup ∧ 0 < (regR (n : Int) l c most).1.length := by
  obtain ⟨hg, n', cn, mn, en, rfl, rfl, hok⟩ := reg_ok h
  obtain rfl : n = n' := by omega
  exact ⟨hg, hok.rng, hok.nd, (reg_head hg hok).1⟩
theorem core_len : (coreR (n : Int) l c most).1.length = ((regR (n : Int) l c most).1.length + 3) / 4 ∨ (coreR (n : Int) l c most).1.length = (regR (n : Int) l c most).1.length := by
  unfold coreR; simp only [List.length_take]; omega
theorem core_le : (coreR (n : Int) l c most).1.length ≤ (regR (n : Int) l c most).1.length := by
  unfold coreR; simp only [List.length_take]; omega
theorem core_pos (h : 0 < (regR (n : Int) l c most).1.length) : 0 < (coreR (n : Int) l c most).1.length := by
  unfold coreR; simp only [List.length_take]; omega
theorem core_pre : (coreR (n : Int) l c most).1 = (regR (n : Int) l c most).1.take (coreR (n : Int) l c most).1.length := by
  unfold coreR; simp only [List.length_take]
  rw [List.take_eq_take_iff]; omega
theorem core_mem {i : Nat} (hnd : (regR (n : Int) l c most).1.Nodup) (hi : i < (regR (n : Int) l c most).1.length) : (regR (n : Int) l c most).1[i] ∈ (coreR (n : Int) l c most).1 ↔ i < (coreR (n : Int) l c most).1.length := by
  constructor
  · intro h
    rw [core_pre] at h
    obtain ⟨j, hj, e⟩ := List.mem_iff_getElem.1 h
    rw [List.getElem_take] at e
    rw [List.length_take] at hj
    have := nd_inj hnd (by omega) hi e
    omega
  · intro h
    rw [core_pre]
    exact List.mem_iff_getElem.2 ⟨i, by rw [List.length_take]; omega, List.getElem_take⟩
theorem core_reg {v : Int} (h : v ∈ (coreR (n : Int) l c most).1) : v ∈ (regR (n : Int) l c most).1 := by
  rw [core_pre] at h; exact List.mem_of_mem_take h
/-- What a vertex's node tells. -/
theorem node_kinds (h : (regR (n : Int) l c most).2 = 0) {v : Int} (h0 : 0 ≤ v) (h1 : v < (n : Int)) :
    (v ∈ (coreR (n : Int) l c most).1 ∧ nd (nodeL n l c most) v = 0) ∨ (v ∉ (regR (n : Int) l c most).1 ∧ nd (nodeL n l c most) v = 1) ∨
      (∃ (i : Nat) (hi : i < (regR (n : Int) l c most).1.length), (regR (n : Int) l c most).1[i] = v ∧ v ∉ (coreR (n : Int) l c most).1 ∧ (coreR (n : Int) l c most).1.length ≤ i ∧ nd (nodeL n l c most) v = 2 + (i : Int) - ((coreR (n : Int) l c most).1.length : Int)) := by
  obtain ⟨hg, hr, hnd, hp⟩ := reg_facts h
  have K := ndTo_nd (c := (coreR (n : Int) l c most).1.length) hr hnd _ (Nat.le_refl _) v h0 h1
  rw [List.take_length] at K
  by_cases hm : v ∈ (regR (n : Int) l c most).1
  · obtain ⟨i, hi, e⟩ := List.mem_iff_getElem.1 hm
    have := K.1 i hi hi e
    have hc := core_mem hnd hi
    rw [e] at hc
    by_cases hic : i < (coreR (n : Int) l c most).1.length
    · rw [if_pos hic] at this
      exact .inl ⟨hc.2 hic, this⟩
    · rw [if_neg hic] at this
      exact .inr (.inr ⟨i, hi, e, fun h => hic (hc.1 h), by omega, this⟩)
  · exact .inr (.inl ⟨hm, K.2 hm⟩)
theorem node_inj (h : (regR (n : Int) l c most).2 = 0) {u v : Int} (hu0 : 0 ≤ u) (hu1 : u < (n : Int)) (hv0 : 0 ≤ v) (hv1 : v < (n : Int)) (h2 : 2 ≤ nd (nodeL n l c most) v) (e : nd (nodeL n l c most) u = nd (nodeL n l c most) v) : u = v := by
  rcases node_kinds h hu0 hu1 with ⟨_, a⟩ | ⟨_, a⟩ | ⟨i, hi, ei, _, hci, a⟩
  · omega
  · omega
  · rcases node_kinds h hv0 hv1 with ⟨_, b⟩ | ⟨_, b⟩ | ⟨j, hj, ej, _, hcj, b⟩
    · omega
    · omega
    · have : i = j := by omega
      subst this; rw [← ei, ← ej]
theorem node_nn (h : (regR (n : Int) l c most).2 = 0) {v : Int} (h0 : 0 ≤ v) (h1 : v < (n : Int)) : 0 ≤ nd (nodeL n l c most) v := by
  rcases node_kinds h h0 h1 with ⟨_, a⟩ | ⟨_, a⟩ | ⟨i, hi, ei, _, hci, a⟩ <;> omega
theorem nc_net {n : Nat} {l : List Arc} {c most : Int} (h0 : ncE (n : Int) l c most = 0) (e : (regR (n : Int) l c most).1.length ≠ n) : NetOk (nodeN n l c most).toNat (cutE (prs n l) (nodeL n l c most)) ∧ 0 < (nodeN n l c most).toNat := by
  have hf := nc_looked h0 e
  obtain ⟨hk, _, hk1, _, hk2, _⟩ := flooked_zero hf
  obtain ⟨hz1, hz2, hz3, hz4⟩ := ncheck_zero hk
  refine ⟨fun x hx => ?_, by omega⟩
  obtain ⟨j, hj, rfl⟩ := List.mem_iff_getElem.1 hx
  have := hz4 j hj; omega
theorem nc_reg (h0 : ncE (n : Int) l c most = 0) : (regR (n : Int) l c most).2 = 0 := by
  unfold ncE at h0
  by_cases h1 : (regR (n : Int) l c most).2 = 0
  · exact h1
  · rw [if_pos h1] at h0; exact h0
theorem good_arcs (hg : (gcheck (n : Int) l).2 = 0) : ∀ a ∈ l, (0 ≤ a.src ∧ a.src < (n : Int)) ∧ 0 ≤ a.dst ∧ a.dst < (n : Int) := fun a ha => by
  obtain ⟨i, hi, rfl⟩ := List.mem_iff_getElem.1 ha
  have := (gcheck_zero hg).2.2.2 i hi; omega
/-- Which arcs lead on between vertices whose pair is not marked. -/
theorem keepA_edge (hg : (gcheck (n : Int) l).2 = 0) {M : List Pr} {p : Pr} (hp : p ∈ prs n l) (hm : p ∉ M) : Conn (ends2 (keepA M l)) p.1.toNat p.2.toNat := by
  obtain ⟨a, ha, hne, rfl⟩ := mem_prRaw.1 ((mem_prs (good_arcs hg)).1 hp)
  have hk : a ∈ keepA M l := List.mem_filter.2 ⟨ha, by simpa using hm⟩
  have hc : Conn (ends2 (keepA M l)) a.src.toNat a.dst.toNat := Conn.edge (.inl (List.mem_map.2 ⟨a, hk, rfl⟩))
  unfold prOf
  rcases Int.le_total a.src a.dst with h | h
  · simp only [Int.min_eq_left h, Int.max_eq_right h]; exact hc
  · simp only [Int.min_eq_right h, Int.max_eq_left h]; exact hc.symm
/-- What is the same at both ends of each pair that is not marked, is the same where one comes to. -/
theorem keepA_same {β : Type} (hg : (gcheck (n : Int) l).2 = 0) {M : List Pr} {f : Nat → β} (h : ∀ p ∈ prs n l, p ∉ M → f p.1.toNat = f p.2.toNat) {u v : Nat} (hc : Conn (ends2 (keepA M l)) u v) : f u = f v := by
  have key : ∀ x y : Nat, (x, y) ∈ ends2 (keepA M l) → f x = f y := by
    intro x y he
    obtain ⟨a, ha, e⟩ := List.mem_map.1 he
    obtain ⟨ha1, ha2⟩ := List.mem_filter.1 ha
    cases e
    by_cases hne : a.src = a.dst
    · rw [hne]
    · have hp : prOf a ∈ prs n l := (mem_prs (good_arcs hg)).2 (mem_prRaw.2 ⟨a, ha1, hne, rfl⟩)
      have := h _ hp (by simpa using ha2)
      unfold prOf at this
      rcases Int.le_total a.src a.dst with hle | hle
      · simp only [Int.min_eq_left hle, Int.max_eq_right hle] at this; exact this
      · simp only [Int.min_eq_right hle, Int.max_eq_left hle] at this; exact this.symm
  induction hc with
  | refl => rfl
  | step _ he ih =>
    rcases he with he | he
    · exact ih.trans (key _ _ he)
    · exact ih.trans (key _ _ he).symm
/-- A CUT PARTS. -/
theorem cut_parts {C : List Pr} (h0 : ncE (n : Int) l c most = 0) (hC : NcΦ n l c most C) {u v : Nat} (hu : u < n) (hv : v < n) (hcore : (v : Int) ∈ (coreR (n : Int) l c most).1) (hout : (u : Int) ∉ (regR (n : Int) l c most).1) : ¬ Conn (ends2 (keepA C l)) u v := by
  intro hc
  have hr0 := nc_reg h0
  obtain ⟨hg, hr, hnd, hp⟩ := reg_facts hr0
  by_cases e : (regR (n : Int) l c most).1.length = n
  · exact hout (all_in hr hnd e (by omega) (by omega))
  · obtain ⟨f, V, sd, hl, hF, hS, rfl⟩ := hC.2 e
    have := keepA_same (f := fun u : Nat => sd.getD (nd (nodeL n l c most) (u : Int)).toNat false) hg (fun p hp hm => by
      have hpr := prs_rng hp
      have h2 : cutB (nodeL n l c most) sd p = true := Classical.byContradiction fun h => hm (List.mem_filter.2 ⟨hp, by simpa using h⟩)
      unfold cutB at h2
      rw [Int.toNat_of_nonneg hpr.1.1, Int.toNat_of_nonneg hpr.2.1]; simpa using h2) hc
    have e0 : nd (nodeL n l c most) (v : Int) = 0 := by
      rcases node_kinds (v := (v : Int)) hr0 (by omega) (by omega) with ⟨_, a⟩ | ⟨a, _⟩ | ⟨_, _, _, a, _⟩
      · exact a
      · exact absurd (core_reg hcore) a
      · exact absurd hcore a
    have e1 : nd (nodeL n l c most) (u : Int) = 1 := by
      rcases node_kinds (v := (u : Int)) hr0 (by omega) (by omega) with ⟨a, _⟩ | ⟨_, a⟩ | ⟨i, hi, ei, _⟩
      · exact absurd (core_reg a) hout
      · exact a
      · exact absurd (ei ▸ List.getElem_mem hi) hout
    rw [e0, e1] at this
    have h1 := hS.src
    have h2 := hS.dst
    rw [show (0 : Int).toNat = 0 from rfl, h1, show (1 : Int).toNat = 1 from rfl, h2] at this
    cases this
/-- NO PAIR OF IT IS TOO MANY. -/
theorem cut_needs {C : List Pr} (h0 : ncE (n : Int) l c most = 0) (hC : NcΦ n l c most C) {i : Nat} (hi : i < C.length) :
    ∃ u v : Nat, u < n ∧ v < n ∧ (v : Int) ∈ (coreR (n : Int) l c most).1 ∧ (u : Int) ∉ (regR (n : Int) l c most).1 ∧ Conn (ends2 (keepA (C.take i ++ C.drop (i + 1)) l)) u v := by
  have hr0 := nc_reg h0
  obtain ⟨hg, hr, hnd, hp⟩ := reg_facts hr0
  by_cases e : (regR (n : Int) l c most).1.length = n
  · rw [hC.1 e] at hi; simp at hi
  obtain ⟨f, V, sd, hl, hF, hS, hCe⟩ := hC.2 e
  obtain ⟨hnet, hpos⟩ := nc_net h0 e
  refine Classical.byContradiction fun hno => ?_
  have hno' : ∀ u v : Nat, u < n → v < n → (v : Int) ∈ (coreR (n : Int) l c most).1 → (u : Int) ∉ (regR (n : Int) l c most).1 → ¬ Conn (ends2 (keepA (C.take i ++ C.drop (i + 1)) l)) u v := fun u v a b c_ d e_ => hno ⟨u, v, a, b, c_, d, e_⟩
  let R : Nat → Prop := fun v => ∃ x : Nat, x < n ∧ (x : Int) ∈ (coreR (n : Int) l c most).1 ∧ Conn (ends2 (keepA (C.take i ++ C.drop (i + 1)) l)) x v
  let Pk : Nat → Prop := fun k => ∃ v : Nat, v < n ∧ (nd (nodeL n l c most) (v : Int)).toNat = k ∧ R v
  have hdec : DecidablePred Pk := fun _ => Classical.propDecidable _
  have hVcap := (hF.shut hnet hpos hS.src hS.dst).2 hS.shut
  rw [capA_cutE] at hVcap
  have hCl : ((prs n l).filter fun p => decide (sd.getD (nd (nodeL n l c most) p.1).toNat false ≠ sd.getD (nd (nodeL n l c most) p.2).toNat false)).length = C.length := by
    rw [hCe]; congr 1; apply List.filter_congr; intro p _; unfold cutB; simp
  rw [hCl] at hVcap
  have hRA : ∀ v : Nat, v < n → (Pk (nd (nodeL n l c most) (v : Int)).toNat ↔ R v) := fun v hv => by
    constructor
    · rintro ⟨v', hv', en, hR'⟩
      have n1 := node_nn hr0 (v := (v : Int)) (by omega) (by omega)
      have n2 := node_nn hr0 (v := (v' : Int)) (by omega) (by omega)
      have en' : nd (nodeL n l c most) (v' : Int) = nd (nodeL n l c most) (v : Int) := by omega
      rcases node_kinds (v := (v : Int)) hr0 (by omega) (by omega) with ⟨a, _⟩ | ⟨a, b⟩ | ⟨j, hj, ej, _, hcj, b⟩
      · exact ⟨v, hv, a, .refl _⟩
      · have hout : (v' : Int) ∉ (regR (n : Int) l c most).1 := by
          rcases node_kinds (v := (v' : Int)) hr0 (by omega) (by omega) with ⟨_, b'⟩ | ⟨a', _⟩ | ⟨j, hj, ej, _, hcj, b'⟩
          · omega
          · exact a'
          · omega
        obtain ⟨x, hx, hxc, hxv⟩ := hR'
        exact absurd hxv.symm (hno' v' x hv' hx hxc hout)
      · have := node_inj hr0 (u := (v' : Int)) (v := (v : Int)) (by omega) (by omega) (by omega) (by omega) (by omega) en'
        obtain rfl : v' = v := by omega
        exact hR'
    · exact fun h => ⟨v, hv, rfl, h⟩
  obtain ⟨x0, hx0⟩ : ∃ x, x ∈ (coreR (n : Int) l c most).1 := ⟨_, List.getElem_mem (core_pos hp)⟩
  have hx0r := hr _ (core_reg hx0)
  have hx0n : ((x0.toNat : Nat) : Int) = x0 := Int.toNat_of_nonneg hx0r.1
  have hA0 : Pk 0 := by
    refine ⟨x0.toNat, by omega, ?_, x0.toNat, by omega, by rw [hx0n]; exact hx0, .refl _⟩
    rw [hx0n]
    rcases node_kinds (v := x0) hr0 (by omega) (by omega) with ⟨_, a⟩ | ⟨a, _⟩ | ⟨_, _, _, a, _⟩
    · rw [a]; rfl
    · exact absurd (core_reg hx0) a
    · exact absurd hx0 a
  have hA1 : ¬ Pk 1 := by
    rintro ⟨v, hv, en, x, hx, hxc, hxv⟩
    have hout : (v : Int) ∉ (regR (n : Int) l c most).1 := by
      rcases node_kinds (v := (v : Int)) hr0 (by omega) (by omega) with ⟨_, b'⟩ | ⟨a', _⟩ | ⟨j, hj, ej, _, hcj, b'⟩
      · omega
      · exact a'
      · omega
    exact hno' v x hv hx hxc hout hxv.symm
  have hle := hF.le_cut hnet (A := fun k => decide (Pk k)) hpos (by simpa using hA0) (by simpa using hA1)
  rw [capA_cutE] at hle
  have hsub := List.Nodup.length_le_of_subset (l₁ := (prs n l).filter fun p => decide (decide (Pk (nd (nodeL n l c most) p.1).toNat) ≠ decide (Pk (nd (nodeL n l c most) p.2).toNat))) (l₂ := C.take i ++ C.drop (i + 1)) ((nodup_X (prs_sorted n l)).filter _) (fun p hpm => by
    obtain ⟨hp1, hp2⟩ := List.mem_filter.1 hpm
    have hpr := prs_rng hp1
    refine Classical.byContradiction fun hnm => ?_
    have hce := keepA_edge hg hp1 hnm
    have a1 := hRA p.1.toNat (by omega)
    have a2 := hRA p.2.toNat (by omega)
    rw [Int.toNat_of_nonneg hpr.1.1] at a1
    rw [Int.toNat_of_nonneg hpr.2.1] at a2
    have a3 : R p.1.toNat ↔ R p.2.toNat := ⟨fun ⟨x, h1, h2, h3⟩ => ⟨x, h1, h2, h3.trans hce⟩, fun ⟨x, h1, h2, h3⟩ => ⟨x, h1, h2, h3.trans hce.symm⟩⟩
    have a4 : Pk (nd (nodeL n l c most) p.1).toNat ↔ Pk (nd (nodeL n l c most) p.2).toNat := a1.trans (a3.trans a2.symm)
    simp [a4] at hp2)
  rw [List.length_append, List.length_take, List.length_drop] at hsub
  omega
end

/-! ### right marks -/
theorem prs_up {n : Nat} {l : List Arc} {p : Pr} (h : p ∈ prs n l) : p.1 < p.2 := by
  unfold prs at h
  obtain ⟨_, h2⟩ := List.mem_filter.1 h
  obtain ⟨a, ha, hb⟩ := List.any_eq_true.1 h2
  simp only [Bool.and_eq_true, decide_eq_true_eq] at hb
  obtain ⟨h3, rfl⟩ := hb
  unfold prOf; simp only; omega
theorem fE_zero {N : Int} : ∀ {M : List Pr}, (∀ p ∈ M, (0 ≤ p.1 ∧ p.1 < N) ∧ (0 ≤ p.2 ∧ p.2 < N) ∧ p.1 < p.2) → fE N M = 0
  | [], _ => rfl
  | p :: r, h => by
    have h1 := h p (by simp)
    unfold fE
    rw [if_neg (by omega), if_neg (by omega)]
    exact fE_zero fun q hq => h q (by simp [hq])
theorem frag_zero {n : Nat} {l : List Arc} (hg : (gcheck (n : Int) l).2 = 0) {M : List Pr} (hM : ∀ p ∈ M, p ∈ prs n l) (hl : M.length ≤ 16384) : fragE (n : Int) l M = 0 := by
  unfold fragE
  rw [if_neg (by rw [hg]; simp), if_neg (by omega)]
  exact fE_zero fun p hp => by
    have h1 := prs_rng (hM p hp)
    have h2 := prs_up (hM p hp)
    omega
theorem prs_len8 {n : Nat} {l : List Arc} (hg : (gcheck (n : Int) l).2 = 0) : (prs n l).length ≤ 8192 := by
  have := prs_few (good_arcs hg)
  have := (gcheck_zero hg).2.2.1
  omega
/-- Some of all pairs, found in order. -/
theorem mark_at {L M : List Pr} {q : Pr → Bool} (hM : M = L.filter q) {k : Nat} (hk : k < L.length) : ((L.take k).filter q).length ≤ M.length ∧ (q L[k] = true ↔ M[((L.take k).filter q).length]? = some L[k]) := by
  have e : M = (L.take k).filter q ++ (L.drop k).filter q := by rw [hM, ← List.filter_append, List.take_append_drop]
  refine ⟨by rw [e]; simp, ?_⟩
  rw [e, List.getElem?_append_right (Nat.le_refl _), Nat.sub_self]
  constructor
  · intro h
    rw [List.drop_eq_getElem_cons hk, List.filter_cons, if_pos h]; rfl
  · intro h
    have := List.mem_of_getElem? h
    exact (List.mem_filter.1 this).2
theorem filt_len_yes {α : Type} {q : α → Bool} {l : List α} {i : Nat} (hi : i < l.length) (h : q l[i] = true) : ((l.take (i + 1)).filter q).length = ((l.take i).filter q).length + 1 := by
  rw [filt_len_next hi, if_pos h]
theorem filt_len_no {α : Type} {q : α → Bool} {l : List α} {i : Nat} (hi : i < l.length) (h : q l[i] = false) : ((l.take (i + 1)).filter q).length = ((l.take i).filter q).length := by
  rw [filt_len_next hi, h]; rfl
theorem marks_filter {n : Nat} {l : List Arc} {M : List Pr} (hs : M.Pairwise ltX) (hM : ∀ p ∈ M, p ∈ prs n l) : M = (prs n l).filter fun p => decide (p ∈ M) := by
  refine rising_eq (R := ltX) (fun a b c h1 h2 => by unfold ltX at *; omega) (fun a b h e => by subst e; unfold ltX at h; omega) hs ((prs_sorted n l).filter _) fun a => ?_
  rw [List.mem_filter, decide_eq_true_eq]
  exact ⟨fun h => ⟨hM a h, h⟩, fun h => h.2⟩
theorem out_sub {n : Nat} {l : List Arc} {most : Int} {cs : List Int} {M : List Pr} (h : OutI n l most cs M) : ∀ p ∈ M, p ∈ prs n l := fun p hp => by
  obtain ⟨v, _, C, hC, hpC⟩ := (h p).1 hp
  exact (nc_sub hC).1 p hpC
theorem out_same {n : Nat} {l : List Arc} {most : Int} {cs cs' : List Int} {M M' : List Pr} (hs : M.Pairwise ltX) (hs' : M'.Pairwise ltX) (h : OutI n l most cs M) (h' : OutI n l most cs' M') (hc : ∀ v, v ∈ cs ↔ v ∈ cs') : M = M' := by
  refine rising_eq (R := ltX) (fun a b c h1 h2 => by unfold ltX at *; omega) (fun a b h e => by subst e; unfold ltX at h; omega) hs hs' fun p => ?_
  rw [h p, h' p]
  exact ⟨fun ⟨v, hv, r⟩ => ⟨v, (hc v).1 hv, r⟩, fun ⟨v, hv, r⟩ => ⟨v, (hc v).2 hv, r⟩⟩
theorem mk_good {N : Int} {l : List Arc} {cs : List Int} {most : Int} (h : mkE N l cs most = 0) : (gcheck N l).2 = 0 := by
  unfold mkE at h
  by_cases h1 : (gcheck N l).2 = 0
  · exact h1
  · rw [if_pos h1] at h; exact h
theorem mk_parts {N : Int} {l : List Arc} {cs : List Int} {most : Int} (h : mkE N l cs most = 0) : (1 ≤ most ∧ most ≤ 1024) ∧ ∀ v ∈ cs, 0 ≤ v ∧ v < N := by
  have hg := mk_good h
  unfold mkE at h
  rw [if_neg (by rw [hg]; simp)] at h
  by_cases h1 : 16384 < cs.length
  · rw [if_pos h1] at h; cases h
  · rw [if_neg h1] at h
    by_cases h2 : most < 1 ∨ 1024 < most
    · rw [if_pos h2] at h; cases h
    · rw [if_neg h2] at h
      by_cases h3 : cs.any (offV N) = true
      · rw [if_pos h3] at h; cases h
      · refine ⟨by omega, fun v hv => ?_⟩
        have h4 := List.any_eq_false.1 (by simpa using h3) v hv
        unfold offV at h4
        simp at h4; omega
end Go.Proofs.Ytbjiejhdgkpjcaa
