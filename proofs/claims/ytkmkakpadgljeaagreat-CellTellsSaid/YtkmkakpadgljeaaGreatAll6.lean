import Derived.Test.YtkmkakpadgljeaaGreatAll5
import Derived.Test.YtkmkakpadgljeaaGreatAll3
import Derived.Test.YtkmkakpadgljeaaGreatFlyOps2

/- flyoverlaw12: large, has, works. -/
namespace Go.Proofs.YtkmkakpadgljeaaGreat
open Go Go.RowKit Fly
set_option linter.unusedVariables false
set_option linter.unusedSimpArgs false


def wg12 : List Arc := [⟨0, 1, 0⟩, ⟨1, 2, 0⟩, ⟨0, 2, 0⟩]
theorem wg12Ok : ∀ x ∈ wg12, ArcOk x := by
  intro x hx
  simp only [wg12, List.mem_cons, List.not_mem_nil, or_false] at hx
  rcases hx with rfl | rfl | rfl <;> exact ⟨⟨by decide, by decide⟩, ⟨by decide, by decide⟩, by decide⟩
theorem w12Nest : NestOk 3 wg12 [2] [[0, 0, 1]] := by
  refine ⟨by decide, by decide, rfl, fun k hk => ?_⟩
  obtain rfl : k = 0 := by simp at hk; omega
  decide +kernel
theorem w12Cell : clE 3 wg12 [2] [[0, 0, 1]] 1 0 = 0 := clE_ok (n := 3) w12Nest (k := 0) (by decide) ⟨by decide, by decide⟩
theorem w12Lk : lkE 3 wg12 [2] [[0, 0, 1]] 1 = 0 := lkE_ok (n := 3) w12Nest (k := 0) (by decide)
theorem w12Bd : bdL [0, 0, 1] 0 wg12 = [0, 1] := rising_eq (R := fun a b : Int => a < b) (fun a b c h1 h2 => by omega) (fun a b h e => by omega) (bdL_rising _ _ _) (by decide) fun v => by
  rw [bdL_mem]
  constructor
  · rintro ⟨a, ha, hv⟩
    rw [show wg12 = [⟨0, 1, 0⟩, ⟨1, 2, 0⟩, ⟨0, 2, 0⟩] from rfl] at ha
    simp only [List.mem_cons, List.not_mem_nil, or_false] at ha
    rcases ha with rfl | rfl | rfl
    · rw [show bdOf [0, 0, 1] 0 ⟨0, 1, 0⟩ = [] from rfl] at hv; cases hv
    · rw [show bdOf [0, 0, 1] 0 ⟨1, 2, 0⟩ = [1] from rfl] at hv; simp at hv; subst hv; decide
    · rw [show bdOf [0, 0, 1] 0 ⟨0, 2, 0⟩ = [0] from rfl] at hv; simp at hv; subst hv; decide
  · intro hv
    simp only [List.mem_cons, List.not_mem_nil, or_false] at hv
    rcases hv with rfl | rfl
    · exact ⟨⟨0, 2, 0⟩, by decide, by decide⟩
    · exact ⟨⟨1, 2, 0⟩, by decide, by decide⟩
theorem w12Out : idxs (unP [0, 0, 1]) wg12 = [1, 2] := by decide

set_option maxRecDepth 100000 in
set_option maxHeartbeats 4000000 in
theorem RCheckC_spec (N : Int) (A : Option Addr) (l : List Arc) (cap : Nat) (w : World) (hr : Ro (Fr w []) w A (l.flatMap arcCs)) (hl : l.length ≤ 9223372036854775807) (hN : I64 N) (hok : ∀ x ∈ l, ArcOk x) :
    Meets Tryz.prog 20 [.agg #[.int .i64 N, .slice A l.length cap]] w [] (fun v m => v = .tuple #[.int .i64 (gcheck N l).1, .int .i64 (gcheck N l).2] ∧ m = []) := by
 refine f_enter Tryz.func20 rfl Tryz.ntmps20 rfl Owns.nil ?_
 refine f_seq fun K1 kh1 => ?_
 refine f_region ?_
 refine f_step rfl rfl rfl (o_box rfl rfl fun b1 => ?_)
 refine f_stepP rfl rfl rfl (o_assign rfl) ?_
 refine f_stepP rfl rfl rfl (o_assign rfl) ?_
 refine f_done ?_
 refine f_tn (kh1 _ _ ?_)
 clear kh1
 refine f_seq fun K2 kh2 => ?_
 refine f_seq fun K3 kh3 => ?_
 refine f_region ?_
 refine f_stepP rfl rfl rfl (o_field fa24_0 rfl) ?_
 refine f_stepP rfl rfl rfl (o_load Tryz.isAgg3 rfl (rdA rfl)) ?_
 refine f_stepP rfl rfl rfl (o_lss rfl rfl) ?_
 refine f_stepP rfl rfl rfl (o_move rfl) ?_
 refine f_splitL 9 rfl (fun g9 => ?_) (fun g9 => ?_)
 ·
  refine f_stepN rfl rfl rfl rfl rfl rfl ?_
  refine f_stepN rfl rfl rfl rfl rfl rfl ?_
  refine f_stepN rfl rfl rfl rfl rfl rfl ?_
  refine f_stepP rfl rfl rfl (o_pickT rfl rfl) ?_
  refine f_done ?_
  refine f_tn (kh3 _ _ ?_)
  clear kh3
  refine f_condT rfl ?_
  refine f_seq fun K4 kh4 => ?_
  refine f_region ?_
  refine f_stepP rfl rfl rfl (o_assign rfl) ?_
  refine f_stepP rfl rfl rfl (o_assign rfl) ?_
  refine f_done ?_
  refine f_tn (kh4 _ _ ?_)
  clear kh4
  refine f_ret ?_
  refine f_tr ?_
  exact f_fin2 [] Tryz.results20 rfl rfl Sub.nil ⟨by rw [gcheck_range (by omega)], rfl⟩
 ·
  refine f_stepPY rfl rfl rfl rfl rfl (o_field fa24_0 rfl) ?_
  refine f_stepPY rfl rfl rfl rfl rfl (o_load Tryz.isAgg3 rfl (rdA rfl)) ?_
  refine f_stepPY rfl rfl rfl rfl rfl (o_gtr rfl rfl) ?_
  refine f_stepP rfl rfl rfl (o_pickF rfl rfl) ?_
  refine f_done ?_
  refine f_tn (kh3 _ _ ?_)
  clear kh3
  refine f_cond rfl (fun c13 => ?_) (fun c13 => ?_)
  ·
   refine f_seq fun K5 kh5 => ?_
   refine f_region ?_
   refine f_stepP rfl rfl rfl (o_assign rfl) ?_
   refine f_stepP rfl rfl rfl (o_assign rfl) ?_
   refine f_done ?_
   refine f_tn (kh5 _ _ ?_)
   clear kh5
   refine f_ret ?_
   refine f_tr ?_
   exact f_fin2 [] Tryz.results20 rfl rfl Sub.nil ⟨by rw [gcheck_range (by omega)], rfl⟩
  ·
   have hN1 : 1 ≤ N ∧ N ≤ 1024 := by omega
   refine f_skip ?_
   refine f_tn (kh2 _ _ ?_)
   clear kh2
   refine f_seq fun K6 kh6 => ?_
   refine f_seq fun K7 kh7 => ?_
   refine f_region ?_
   refine f_stepP rfl rfl rfl (o_field fa24_1 rfl) ?_
   refine f_stepP rfl rfl rfl (o_load Tryz.isAgg22 rfl (rdA rfl)) ?_
   refine f_stepP rfl rfl rfl (o_len sl22 rfl) ?_
   refine f_stepP rfl rfl rfl (o_gtr rfl rfl) ?_
   refine f_done ?_
   refine f_tn (kh7 _ _ ?_)
   clear kh7
   refine f_cond rfl (fun c17 => ?_) (fun c17 => ?_)
   ·
    refine f_seq fun K8 kh8 => ?_
    refine f_region ?_
    refine f_stepP rfl rfl rfl (o_assign rfl) ?_
    refine f_stepP rfl rfl rfl (o_assign rfl) ?_
    refine f_done ?_
    refine f_tn (kh8 _ _ ?_)
    clear kh8
    refine f_ret ?_
    refine f_tr ?_
    exact f_fin2 [] Tryz.results20 rfl rfl Sub.nil ⟨by rw [gcheck_long hN1 (by omega)], rfl⟩
   ·
    refine f_skip ?_
    refine f_tn (kh6 _ _ ?_)
    clear kh6
    refine f_seq fun K9 kh9 => ?_
    refine f_seq fun K10 kh10 => ?_
    refine f_region ?_
    refine f_stepP rfl rfl rfl (o_assign rfl) ?_
    refine f_done ?_
    refine f_tn (kh10 _ _ ?_)
    clear kh10
    refine f_block ?_
    refine f_loop (α := Nat) [1] (fun k => [(4, .int .i64 (k : Int))]) (fun k => [[(b1, blk [.int .i64 N, .slice A l.length cap] 24)]]) (fun k => k ≤ l.length ∧ ∀ j (h : j < l.length), j < k → arcBad N l[j] = false) (fun k => l.length - k) (0) ?_ ?_ ?_ ?_
    · exact (by repeat (first | exact trivial | refine ⟨rfl, ?_⟩))
    · repeat (first | exact Sub.nil | refine Sub.pick ?_ | refine Sub.castO rfl ?_ | refine Sub.skip ?_)
    · exact ⟨by omega, fun j h hj => by omega⟩
    ·
     rintro k ⟨hkl, hall⟩
     refine f_seq fun K11 kh11 => ?_
     refine f_seq fun K12 kh12 => ?_
     refine f_region ?_
     refine f_stepP rfl rfl rfl (o_move rfl) ?_
     refine f_stepP rfl rfl rfl (o_field fa24_1 rfl) ?_
     refine f_stepP rfl rfl rfl (o_load Tryz.isAgg22 rfl (rdA rfl)) ?_
     refine f_stepP rfl rfl rfl (o_len sl22 rfl) ?_
     refine f_stepP rfl rfl rfl (o_lss rfl rfl) ?_
     refine f_done ?_
     refine f_tn (kh12 _ _ ?_)
     clear kh12
     refine f_cond rfl (fun c22 => ?_) (fun c22 => ?_)
     ·
      refine f_skip ?_
      refine f_tn (kh11 _ _ ?_)
      clear kh11
      refine f_seq fun K13 kh13 => ?_
      refine f_block ?_
      refine f_seq fun K14 kh14 => ?_
      refine f_region ?_
      refine f_stepP rfl rfl rfl (o_field fa24_1 rfl) ?_
      refine f_stepP rfl rfl rfl (o_load Tryz.isAgg22 rfl (rdA rfl)) ?_
      refine f_stepP rfl rfl rfl (o_move rfl) ?_
      have hk : k < l.length := by omega
      obtain ⟨b, off, rfl, hS, hc⟩ := hr (flat_ne arcCs arcCs_len (by omega) hk)
      refine f_stepP rfl rfl rfl (o_idx sl22 rfl rfl (off + k * 3) ⟨by omega, by omega, by first | omega | (simp; done) | (simp; omega)⟩) ?_
      refine f_stepP rfl rfl rfl (o_loadA (vs := arcCs l[k]) Tryz.isAgg48 Tryz.sizeOf48 rfl rfl (roElem arcCs_len hS hc hk)) ?_
      refine f_step rfl rfl rfl (o_alloc Tryz.zeroValue48 rfl fun b5 => ?_)
      refine f_step0 rfl rfl (o_storeA Tryz.sizeOf48 rfl rfl rfl rfl (by first | exact Nat.le_of_ble_eq_true rfl | (simp; done) | (simp; omega)) (arcCs l[k]) rfl ?_)
      refine f_done ?_
      refine f_tn (kh14 _ _ ?_)
      clear kh14
      refine f_seq fun K15 kh15 => ?_
      refine f_region ?_
      refine f_stepP rfl rfl rfl (o_field fa48_0 rfl) ?_
      refine f_stepP rfl rfl rfl (o_load Tryz.isAgg3 rfl (rdA rfl)) ?_
      refine f_stepP rfl rfl rfl (o_lss rfl rfl) ?_
      refine f_stepP rfl rfl rfl (o_move rfl) ?_
      refine f_splitL 33 rfl (fun g33 => ?_) (fun g33 => ?_)
      ·
       refine f_stepN rfl rfl rfl rfl rfl rfl ?_
       refine f_stepN rfl rfl rfl rfl rfl rfl ?_
       refine f_stepN rfl rfl rfl rfl rfl rfl ?_
       refine f_stepN rfl rfl rfl rfl rfl rfl ?_
       refine f_stepN rfl rfl rfl rfl rfl rfl ?_
       refine f_stepP rfl rfl rfl (o_pickT rfl rfl) ?_
       refine f_stepP rfl rfl rfl (o_move rfl) ?_
       refine f_stepN rfl rfl rfl rfl rfl rfl ?_
       refine f_stepN rfl rfl rfl rfl rfl rfl ?_
       refine f_stepN rfl rfl rfl rfl rfl rfl ?_
       refine f_stepP rfl rfl rfl (o_pickT rfl rfl) ?_
       refine f_stepP rfl rfl rfl (o_move rfl) ?_
       refine f_stepN rfl rfl rfl rfl rfl rfl ?_
       refine f_stepN rfl rfl rfl rfl rfl rfl ?_
       refine f_stepN rfl rfl rfl rfl rfl rfl ?_
       refine f_stepN rfl rfl rfl rfl rfl rfl ?_
       refine f_stepN rfl rfl rfl rfl rfl rfl ?_
       refine f_stepP rfl rfl rfl (o_pickT rfl rfl) ?_
       refine f_done ?_
       refine f_tn (kh15 _ _ ?_)
       clear kh15
       refine f_condT rfl ?_
       refine f_seq fun K16 kh16 => ?_
       refine f_region ?_
       refine f_stepP rfl rfl rfl (o_move rfl) ?_
       refine f_stepP rfl rfl rfl (o_assign rfl) ?_
       refine f_stepP rfl rfl rfl (o_assign rfl) ?_
       refine f_done ?_
       refine f_tn (kh16 _ _ ?_)
       clear kh16
       refine f_ret ?_
       refine f_br ?_
       refine f_tr ?_
       refine f_tr ?_
       refine f_br ?_
       refine f_tr ?_
       exact f_fin2 [] Tryz.results20 rfl rfl Sub.nil ⟨by rw [gcheck_bad hN1 (by omega) hk hall (by unfold arcBad; simp; omega)], rfl⟩
      ·
       refine f_stepPY rfl rfl rfl rfl rfl (o_field fa48_0 rfl) ?_
       refine f_stepPY rfl rfl rfl rfl rfl (o_load Tryz.isAgg3 rfl (rdA rfl)) ?_
       refine f_stepPY rfl rfl rfl rfl rfl (o_field fa24_0 rfl) ?_
       refine f_stepPY rfl rfl rfl rfl rfl (o_load Tryz.isAgg3 rfl (rdA rfl)) ?_
       refine f_stepPY rfl rfl rfl rfl rfl (o_geq rfl rfl) ?_
       refine f_stepP rfl rfl rfl (o_pickF rfl rfl) ?_
       refine f_stepP rfl rfl rfl (o_move rfl) ?_
       refine f_splitL 40 rfl (fun g40 => ?_) (fun g40 => ?_)
       ·
        refine f_stepN rfl rfl rfl rfl rfl rfl ?_
        refine f_stepN rfl rfl rfl rfl rfl rfl ?_
        refine f_stepN rfl rfl rfl rfl rfl rfl ?_
        refine f_stepP rfl rfl rfl (o_pickT rfl rfl) ?_
        refine f_stepP rfl rfl rfl (o_move rfl) ?_
        refine f_stepN rfl rfl rfl rfl rfl rfl ?_
        refine f_stepN rfl rfl rfl rfl rfl rfl ?_
        refine f_stepN rfl rfl rfl rfl rfl rfl ?_
        refine f_stepN rfl rfl rfl rfl rfl rfl ?_
        refine f_stepN rfl rfl rfl rfl rfl rfl ?_
        refine f_stepP rfl rfl rfl (o_pickT rfl rfl) ?_
        refine f_done ?_
        refine f_tn (kh15 _ _ ?_)
        clear kh15
        refine f_condT rfl ?_
        refine f_seq fun K17 kh17 => ?_
        refine f_region ?_
        refine f_stepP rfl rfl rfl (o_move rfl) ?_
        refine f_stepP rfl rfl rfl (o_assign rfl) ?_
        refine f_stepP rfl rfl rfl (o_assign rfl) ?_
        refine f_done ?_
        refine f_tn (kh17 _ _ ?_)
        clear kh17
        refine f_ret ?_
        refine f_br ?_
        refine f_tr ?_
        refine f_tr ?_
        refine f_br ?_
        refine f_tr ?_
        exact f_fin2 [] Tryz.results20 rfl rfl Sub.nil ⟨by rw [gcheck_bad hN1 (by omega) hk hall (by unfold arcBad; simp; omega)], rfl⟩
       ·
        refine f_stepPY rfl rfl rfl rfl rfl (o_field fa48_1 rfl) ?_
        refine f_stepPY rfl rfl rfl rfl rfl (o_load Tryz.isAgg3 rfl (rdA rfl)) ?_
        refine f_stepPY rfl rfl rfl rfl rfl (o_lss rfl rfl) ?_
        refine f_stepP rfl rfl rfl (o_pickF rfl rfl) ?_
        refine f_stepP rfl rfl rfl (o_move rfl) ?_
        refine f_splitL 45 rfl (fun g45 => ?_) (fun g45 => ?_)
        ·
         refine f_stepN rfl rfl rfl rfl rfl rfl ?_
         refine f_stepN rfl rfl rfl rfl rfl rfl ?_
         refine f_stepN rfl rfl rfl rfl rfl rfl ?_
         refine f_stepN rfl rfl rfl rfl rfl rfl ?_
         refine f_stepN rfl rfl rfl rfl rfl rfl ?_
         refine f_stepP rfl rfl rfl (o_pickT rfl rfl) ?_
         refine f_done ?_
         refine f_tn (kh15 _ _ ?_)
         clear kh15
         refine f_condT rfl ?_
         refine f_seq fun K18 kh18 => ?_
         refine f_region ?_
         refine f_stepP rfl rfl rfl (o_move rfl) ?_
         refine f_stepP rfl rfl rfl (o_assign rfl) ?_
         refine f_stepP rfl rfl rfl (o_assign rfl) ?_
         refine f_done ?_
         refine f_tn (kh18 _ _ ?_)
         clear kh18
         refine f_ret ?_
         refine f_br ?_
         refine f_tr ?_
         refine f_tr ?_
         refine f_br ?_
         refine f_tr ?_
         exact f_fin2 [] Tryz.results20 rfl rfl Sub.nil ⟨by rw [gcheck_bad hN1 (by omega) hk hall (by unfold arcBad; simp; omega)], rfl⟩
        ·
         refine f_stepPY rfl rfl rfl rfl rfl (o_field fa48_1 rfl) ?_
         refine f_stepPY rfl rfl rfl rfl rfl (o_load Tryz.isAgg3 rfl (rdA rfl)) ?_
         refine f_stepPY rfl rfl rfl rfl rfl (o_field fa24_0 rfl) ?_
         refine f_stepPY rfl rfl rfl rfl rfl (o_load Tryz.isAgg3 rfl (rdA rfl)) ?_
         refine f_stepPY rfl rfl rfl rfl rfl (o_geq rfl rfl) ?_
         refine f_stepP rfl rfl rfl (o_pickF rfl rfl) ?_
         refine f_done ?_
         refine f_tn (kh15 _ _ ?_)
         clear kh15
         refine f_cond rfl (fun c51 => ?_) (fun c51 => ?_)
         ·
          refine f_seq fun K19 kh19 => ?_
          refine f_region ?_
          refine f_stepP rfl rfl rfl (o_move rfl) ?_
          refine f_stepP rfl rfl rfl (o_assign rfl) ?_
          refine f_stepP rfl rfl rfl (o_assign rfl) ?_
          refine f_done ?_
          refine f_tn (kh19 _ _ ?_)
          clear kh19
          refine f_ret ?_
          refine f_br ?_
          refine f_tr ?_
          refine f_tr ?_
          refine f_br ?_
          refine f_tr ?_
          exact f_fin2 [] Tryz.results20 rfl rfl Sub.nil ⟨by rw [gcheck_bad hN1 (by omega) hk hall (by unfold arcBad; simp; omega)], rfl⟩
         ·
          refine f_skip ?_
          refine f_bn ?_
          refine f_tn (kh13 _ _ ?_)
          clear kh13
          refine f_region ?_
          refine f_stepP rfl rfl rfl (o_move rfl) ?_
          refine f_stepP rfl rfl rfl (o_add rfl rfl _ (wrap_i64 (by omega))) ?_
          refine f_stepP rfl rfl rfl (o_assign rfl) ?_
          refine f_done ?_
          refine f_tn (f_again (k + 1) (by first | omega | (dsimp only; omega) | (simp; omega)) ⟨by omega, good_next hall (by unfold arcBad; simp; omega)⟩ ?_ ?_ ?_)
          · exact (by repeat (first | exact trivial | refine ⟨rfl, ?_⟩))
          · exact (by repeat (first | exact trivial | refine ⟨rfl, ?_⟩))
          · repeat (first | exact Sub.nil | refine Sub.pick ?_ | refine Sub.castO rfl ?_ | refine Sub.skip ?_)
     ·
      refine f_exit ?_
      refine f_te ?_
      clear kh11
      refine f_te ?_
      refine f_be ?_
      refine f_tn (kh9 _ _ ?_)
      clear kh9
      refine f_seq fun K20 kh20 => ?_
      refine f_region ?_
      refine f_stepP rfl rfl rfl (o_assign rfl) ?_
      refine f_stepP rfl rfl rfl (o_assign rfl) ?_
      refine f_done ?_
      refine f_tn (kh20 _ _ ?_)
      clear kh20
      refine f_ret ?_
      exact f_fin2 [] Tryz.results20 rfl rfl Sub.nil ⟨by rw [gcheck_ok hN1 (by omega) (fun j h => hall j h (by omega))], rfl⟩

set_option maxRecDepth 100000 in
set_option maxHeartbeats 4000000 in
theorem large_spec (N : Int) (A : Option Addr) (l : List Arc) (cap : Nat) (w : World) (hr : Ro (Fr w []) w A (l.flatMap arcCs)) (hl : l.length ≤ 9223372036854775807) (hN : I64 N) (hok : ∀ x ∈ l, ArcOk x) :
    Meets Tryz.prog 4 [.agg #[.int .i64 N, .slice A l.length cap]] w [] (fun u m => ∃ b, u = .bool b ∧ m = []) := by
 refine f_enter Tryz.func4 rfl Tryz.ntmps4 rfl Owns.nil ?_
 refine f_seq fun K1 kh1 => ?_
 refine f_region ?_
 refine f_step rfl rfl rfl (o_box rfl rfl fun b1 => ?_)
 refine f_stepP rfl rfl rfl (o_assign rfl) ?_
 refine f_done ?_
 refine f_tn (kh1 _ _ ?_)
 clear kh1
 refine f_seq fun K2 kh2 => ?_
 refine f_region ?_
 refine f_stepP rfl rfl rfl (o_loadA (vs := [_, _]) Tryz.isAgg24 Tryz.sizeOf24 rfl rfl ⟨(rdA rfl), (rdA rfl), trivial⟩) ?_
 refine f_step rfl rfl rfl (o_call Tryz.call20 rfl (fun w_ hp_ => RCheckC_spec N A l cap w_ (hr.up0 hp_) hl hN hok) ?_)
 rintro _ _ ⟨rfl, rfl⟩
 dsimp only [List.cons_append, List.nil_append]
 refine f_stepP rfl rfl rfl (o_move rfl) ?_
 refine f_stepP rfl rfl rfl (o_extract rfl rfl) ?_
 refine f_stepP rfl rfl rfl (o_extract rfl rfl) ?_
 refine f_stepP rfl rfl rfl (o_assign rfl) ?_
 refine f_stepP rfl rfl rfl (o_assign rfl) ?_
 refine f_done ?_
 refine f_tn (kh2 _ _ ?_)
 clear kh2
 refine f_seq fun K3 kh3 => ?_
 refine f_region ?_
 refine f_stepP rfl rfl rfl (o_move rfl) ?_
 refine f_stepP rfl rfl rfl (o_eql rfl rfl) ?_
 refine f_stepP rfl rfl rfl (o_move rfl) ?_
 refine f_splitL 12 rfl (fun g12 => ?_) (fun g12 => ?_)
 ·
  refine f_stepPY rfl rfl rfl rfl rfl (o_field fa24_0 rfl) ?_
  refine f_stepPY rfl rfl rfl rfl rfl (o_load Tryz.isAgg3 rfl (rdA rfl)) ?_
  refine f_stepPY rfl rfl rfl rfl rfl (o_gtr rfl rfl) ?_
  refine f_stepPY rfl rfl rfl rfl rfl (o_move rfl) ?_
  refine f_splitL 16 rfl (fun g16 => ?_) (fun g16 => ?_)
  ·
   refine f_stepN rfl rfl rfl rfl rfl rfl ?_
   refine f_stepN rfl rfl rfl rfl rfl rfl ?_
   refine f_stepN rfl rfl rfl rfl rfl rfl ?_
   refine f_stepN rfl rfl rfl rfl rfl rfl ?_
   refine f_stepPY rfl rfl rfl rfl rfl (o_pickT rfl rfl) ?_
   refine f_stepP rfl rfl rfl (o_pickT rfl rfl) ?_
   refine f_stepP rfl rfl rfl (o_assign rfl) ?_
   refine f_done ?_
   refine f_tn (kh3 _ _ ?_)
   clear kh3
   refine f_ret ?_
   exact f_fin1 [] Tryz.results4 rfl Sub.nil ⟨_, rfl, rfl⟩
  ·
   refine f_stepPY rfl rfl rfl rfl rfl (o_field fa24_1 rfl) ?_
   refine f_stepPY rfl rfl rfl rfl rfl (o_load Tryz.isAgg22 rfl (rdA rfl)) ?_
   refine f_stepPY rfl rfl rfl rfl rfl (o_len sl22 rfl) ?_
   refine f_stepPY rfl rfl rfl rfl rfl (o_gtr rfl rfl) ?_
   refine f_stepPY rfl rfl rfl rfl rfl (o_pickF rfl rfl) ?_
   refine f_stepP rfl rfl rfl (o_pickT rfl rfl) ?_
   refine f_stepP rfl rfl rfl (o_assign rfl) ?_
   refine f_done ?_
   refine f_tn (kh3 _ _ ?_)
   clear kh3
   refine f_ret ?_
   exact f_fin1 [] Tryz.results4 rfl Sub.nil ⟨_, rfl, rfl⟩
 ·
  refine f_stepN rfl rfl rfl rfl rfl rfl ?_
  refine f_stepN rfl rfl rfl rfl rfl rfl ?_
  refine f_stepN rfl rfl rfl rfl rfl rfl ?_
  refine f_stepN rfl rfl rfl rfl rfl rfl ?_
  refine f_stepU rfl rfl rfl rfl rfl ?_
  refine f_stepU rfl rfl rfl rfl rfl ?_
  refine f_stepU rfl rfl rfl rfl rfl ?_
  refine f_stepU rfl rfl rfl rfl rfl ?_
  refine f_stepN rfl rfl rfl rfl rfl rfl ?_
  refine f_stepP rfl rfl rfl (o_pickF rfl rfl) ?_
  refine f_stepP rfl rfl rfl (o_assign rfl) ?_
  refine f_done ?_
  refine f_tn (kh3 _ _ ?_)
  clear kh3
  refine f_ret ?_
  exact f_fin1 [] Tryz.results4 rfl Sub.nil ⟨_, rfl, rfl⟩

set_option maxRecDepth 100000 in
set_option maxHeartbeats 4000000 in
theorem works_spec (w : World) : Meets Tryz.prog 5 [] w [] (fun u m => u = .bool true ∧ m = []) := by
 refine f_enter Tryz.func5 rfl Tryz.ntmps5 rfl Owns.nil ?_
 refine f_seq fun K1 kh1 => ?_
 refine f_region ?_
 refine f_stepP rfl rfl rfl (o_assign rfl) ?_
 refine f_done ?_
 refine f_tn (kh1 _ _ ?_)
 clear kh1
 refine f_seq fun K2 kh2 => ?_
 refine f_region ?_
 refine f_stepP rfl rfl rfl (o_build st48 rfl rfl) ?_
 refine f_stepP rfl rfl rfl (o_build st48 rfl rfl) ?_
 refine f_stepP rfl rfl rfl (o_build st48 rfl rfl) ?_
 refine f_step rfl rfl rfl (o_sliceN (len := 3) el22 (by omega) rfl rfl fun b10 => ?_)
 refine f_stepP rfl rfl rfl (o_build st24 rfl rfl) ?_
 refine f_step rfl rfl rfl (o_alloc Tryz.zeroValue24 rfl fun b1 => ?_)
 refine f_step0 rfl rfl (o_storeA Tryz.sizeOf24 rfl rfl rfl rfl (by first | exact Nat.le_of_ble_eq_true rfl | (simp; done) | (simp; omega)) [.int .i64 3, .slice (some ⟨b10, 0, none⟩) 3 3] rfl ?_)
 refine f_done ?_
 refine f_tn (kh2 _ _ ?_)
 clear kh2
 refine f_seq fun K3 kh3 => ?_
 refine f_region ?_
 refine f_step rfl rfl rfl (o_slice1 el25 (by omega) rfl rfl rfl fun b12 => ?_)
 refine f_step rfl rfl rfl (o_sliceN (len := 3) el25 (by omega) rfl rfl fun b13 => ?_)
 refine f_step rfl rfl rfl (o_slice1 el26 (by omega) rfl rfl rfl fun b14 => ?_)
 refine f_stepP rfl rfl rfl (o_build st28 rfl rfl) ?_
 refine f_step rfl rfl rfl (o_alloc Tryz.zeroValue28 rfl fun b2 => ?_)
 refine f_step0 rfl rfl (o_storeA Tryz.sizeOf28 rfl rfl rfl rfl (by first | exact Nat.le_of_ble_eq_true rfl | (simp; done) | (simp; omega)) [.slice (some ⟨b12, 0, none⟩) 1 1, .slice (some ⟨b14, 0, none⟩) 1 1] rfl ?_)
 refine f_done ?_
 refine f_tn (kh3 _ _ ?_)
 clear kh3
 refine f_seq fun K4 kh4 => ?_
 refine f_region ?_
 refine f_stepP rfl rfl rfl (o_loadA (vs := [_, _]) Tryz.isAgg24 Tryz.sizeOf24 rfl rfl ⟨(rdA rfl), (rdA rfl), trivial⟩) ?_
 refine f_stepP rfl rfl rfl (o_loadA (vs := [_, _]) Tryz.isAgg28 Tryz.sizeOf28 rfl rfl ⟨(rdA rfl), (rdA rfl), trivial⟩) ?_
 refine f_step rfl rfl rfl (o_call Tryz.call8 rfl (fun w_ hp_ => CBoundary_spec 3 (some ⟨b10, 0, none⟩) wg12 3 (some ⟨b12, 0, none⟩) [2] 1 (some ⟨b14, 0, none⟩) [(some ⟨b13, 0, none⟩, [0, 0, 1], 3)] 1 1 0 w_ (roOwn (b := b10) hp_ (cs := wg12.flatMap arcCs) (fun j v hj => hj)) (by decide) (by decide) wg12Ok ⟨(roOwn (b := b12) hp_ (cs := ints [2]) (fun j v hj => hj)), by decide, (roOwn (b := b14) hp_ (cs := [.slice (some ⟨b13, 0, none⟩) 3 3]) (fun j v hj => hj)), by simp, fun r hr => by simp at hr; subst hr; exact ⟨(roOwn (b := b13) hp_ (cs := ints [0, 0, 1]) (fun j v hj => hj)), by simp⟩⟩) ?_)
 rintro _ _ ⟨M_, AM, cM, mM, rfl, rfl, hoM, _, hM0⟩
 rw [show rowsL [((some ⟨b13, 0, none⟩ : Option Addr), [0, 0, 1], 3)] = [[0, 0, 1]] from rfl]
 rw [w12Cell]
 obtain rfl : M_ = [0, 1] := (hM0 w12Cell).trans w12Bd
 dsimp only [List.cons_append, List.nil_append]
 refine f_stepP rfl rfl rfl (o_move rfl) ?_
 refine f_stepP rfl rfl rfl (o_extract rfl rfl) ?_
 refine f_stepP rfl rfl rfl (o_extract rfl rfl) ?_
 refine f_stepP rfl rfl rfl (o_assign rfl) ?_
 refine f_stepP rfl rfl rfl (o_assign rfl) ?_
 refine f_done ?_
 refine f_tn (kh4 _ _ ?_)
 clear kh4
 refine f_seq fun K5 kh5 => ?_
 refine f_region ?_
 refine f_stepP rfl rfl rfl (o_loadA (vs := [_, _]) Tryz.isAgg24 Tryz.sizeOf24 rfl rfl ⟨(rdA rfl), (rdA rfl), trivial⟩) ?_
 refine f_stepP rfl rfl rfl (o_loadA (vs := [_, _]) Tryz.isAgg28 Tryz.sizeOf28 rfl rfl ⟨(rdA rfl), (rdA rfl), trivial⟩) ?_
 refine f_step rfl rfl rfl (o_call Tryz.call21 rfl (fun w_ hp_ => COuter_spec 3 (some ⟨b10, 0, none⟩) wg12 3 (some ⟨b12, 0, none⟩) [2] 1 (some ⟨b14, 0, none⟩) [(some ⟨b13, 0, none⟩, [0, 0, 1], 3)] 1 1 w_ (roOwn (b := b10) hp_ (cs := wg12.flatMap arcCs) (fun j v hj => hj)) (by decide) (by decide) wg12Ok ⟨(roOwn (b := b12) hp_ (cs := ints [2]) (fun j v hj => hj)), by decide, (roOwn (b := b14) hp_ (cs := [.slice (some ⟨b13, 0, none⟩) 3 3]) (fun j v hj => hj)), by simp, fun r hr => by simp at hr; subst hr; exact ⟨(roOwn (b := b13) hp_ (cs := ints [0, 0, 1]) (fun j v hj => hj)), by simp⟩⟩) ?_)
 rintro _ _ ⟨O_, AO, cO, mO, rfl, rfl, hoO, _, hO0⟩
 rw [show rowsL [((some ⟨b13, 0, none⟩ : Option Addr), [0, 0, 1], 3)] = [[0, 0, 1]] from rfl]
 rw [w12Lk]
 obtain rfl : O_ = [1, 2] := (hO0 w12Lk).trans w12Out
 dsimp only [List.cons_append, List.nil_append]
 refine f_stepP rfl rfl rfl (o_move rfl) ?_
 refine f_stepP rfl rfl rfl (o_extract rfl rfl) ?_
 refine f_stepP rfl rfl rfl (o_extract rfl rfl) ?_
 refine f_stepP rfl rfl rfl (o_assign rfl) ?_
 refine f_stepP rfl rfl rfl (o_assign rfl) ?_
 refine f_done ?_
 refine f_tn (kh5 _ _ ?_)
 clear kh5
 refine f_seq fun K6 kh6 => ?_
 refine f_region ?_
 refine f_stepP rfl rfl rfl (o_move rfl) ?_
 refine f_stepP rfl rfl rfl (o_eql rfl rfl) ?_
 refine f_stepP rfl rfl rfl (o_move rfl) ?_
 refine f_trueL 30 rfl (rfl) ?_
 refine f_stepPY rfl rfl rfl rfl rfl (o_move rfl) ?_
 refine f_stepY rfl rfl rfl rfl rfl (o_sliceN (len := 2) el25 (by omega) rfl rfl fun b32 => ?_)
 refine f_stepY rfl rfl rfl rfl rfl (o_call Tryz.call12 rfl (fun w_ hp_ => SameInts_spec AM (some ⟨b32, 0, none⟩) [0, 1] [0, 1] 2 2 w_ (seen_ro (hoM.seen hp_)) (roOwn (b := b32) hp_ (cs := ints [0, 1]) (fun j v hj => hj)) (by decide)) ?_)
 rintro _ _ ⟨rfl, rfl⟩
 rw [decide_eq_true rfl]
 dsimp only [List.cons_append, List.nil_append]
 refine f_stepP rfl rfl rfl (o_pickT rfl rfl) ?_
 refine f_stepP rfl rfl rfl (o_move rfl) ?_
 refine f_stepPY rfl rfl rfl rfl rfl (o_move rfl) ?_
 refine f_stepPY rfl rfl rfl rfl rfl (o_eql rfl rfl) ?_
 refine f_stepP rfl rfl rfl (o_pickT rfl rfl) ?_
 refine f_stepP rfl rfl rfl (o_move rfl) ?_
 refine f_trueL 39 rfl (rfl) ?_
 refine f_stepPY rfl rfl rfl rfl rfl (o_move rfl) ?_
 refine f_stepY rfl rfl rfl rfl rfl (o_sliceN (len := 2) el25 (by omega) rfl rfl fun b41 => ?_)
 refine f_stepY rfl rfl rfl rfl rfl (o_call Tryz.call12 rfl (fun w_ hp_ => SameInts_spec AO (some ⟨b41, 0, none⟩) [1, 2] [1, 2] 2 2 w_ (seen_ro (hoO.seen hp_)) (roOwn (b := b41) hp_ (cs := ints [1, 2]) (fun j v hj => hj)) (by decide)) ?_)
 rintro _ _ ⟨rfl, rfl⟩
 rw [decide_eq_true rfl]
 dsimp only [List.cons_append, List.nil_append]
 refine f_stepP rfl rfl rfl (o_pickT rfl rfl) ?_
 refine f_stepP rfl rfl rfl (o_assign rfl) ?_
 refine f_done ?_
 refine f_tn (kh6 _ _ ?_)
 clear kh6
 refine f_ret ?_
 exact f_fin1 [] Tryz.results5 rfl Sub.nil ⟨rfl, rfl⟩

end Go.Proofs.YtkmkakpadgljeaaGreat

/- The document's Tidy, Right, Size, greatest, nested. -/
namespace Go.Proofs.YtkmkakpadgljeaaGreat
open Go Go.RowKit Fly
set_option linter.unusedVariables false
set_option linter.unusedSimpArgs false


theorem tdy_atT {L : List Int} {v : Nat} (hv : v < L.length) : (tdy L)[v]'(by rw [tdy_len]; exact hv) = lab (tdy L) (v : Int) := by
  rw [lab_at (by rw [Int.toNat_natCast, tdy_len]; exact hv)]; simp
theorem tdy_oldT {L : List Int} {i v : Nat} (hi : i < v) (hv : v < L.length) (e : L[i]'(by omega) = L[v]) : (tdy L)[i]'(by rw [tdy_len]; omega) = (tdy L)[v]'(by rw [tdy_len]; exact hv) ∧ sns (L.take (v + 1)) = sns (L.take v) := by
  constructor
  · rw [tdy_atT (by omega), tdy_atT hv]
    refine (tdy_labN (by omega) hv).2 ?_
    rw [lab_at (by rw [Int.toNat_natCast]; omega), lab_at (by rw [Int.toNat_natCast]; exact hv)]
    simpa using e
  · rw [sns_next hv, if_pos]
    refine sns_mem (by omega) _ ?_
    rw [← e]
    exact List.mem_iff_getElem.2 ⟨i, by rw [List.length_take]; omega, by rw [List.getElem_take]⟩
theorem sns_subT {L : List Int} : ∀ {k : Nat}, k ≤ L.length → ∀ x ∈ sns (L.take k), x ∈ L.take k
  | 0, _, x, hx => by simp [sns] at hx
  | k + 1, h, x, hx => by
    have hk : k < L.length := by omega
    rw [sns_next hk] at hx
    rw [List.take_succ_eq_append_getElem hk]
    split at hx
    · exact List.mem_append_left _ (sns_subT (by omega) x hx)
    · rcases List.mem_append.1 hx with hx | hx
      · exact List.mem_append_left _ (sns_subT (by omega) x hx)
      · exact List.mem_append_right _ hx
theorem tdy_newT {L : List Int} {v : Nat} (hv : v < L.length) (h : ∀ i (hi : i < v), L[i]'(by omega) ≠ L[v]) : (tdy L)[v]'(by rw [tdy_len]; exact hv) = ((sns (L.take v)).length : Int) ∧ (sns (L.take (v + 1))).length = (sns (L.take v)).length + 1 := by
  have hn : L[v] ∉ sns (L.take v) := fun hm => by
    obtain ⟨i, hi, e⟩ := List.mem_iff_getElem.1 (sns_subT (by omega) _ hm)
    rw [List.length_take] at hi
    rw [List.getElem_take] at e
    exact h i (by omega) e
  have hs := sns_next hv
  rw [if_neg hn] at hs
  refine ⟨?_, by rw [hs]; simp⟩
  obtain ⟨r, hr⟩ := sns_take L (v + 1)
  have : (sns L).idxOf L[v] = (sns (L.take v)).length := by
    rw [hr, hs, List.append_assoc, List.idxOf_append, if_neg hn]; simp
  simp [tdy, this]
/-- What stands at a place while it is looked for. -/
def TInI (L : List Int) (v u : Nat) (x : Int) : Prop := (x = -1 ∧ ∀ i, i < u → L.getD i 0 ≠ L.getD v 0) ∨ (0 ≤ x ∧ x = (tdy L).getD v 0 ∧ ∃ i, i < v ∧ L.getD i 0 = L.getD v 0)
theorem getDT {L : List Int} {i : Nat} (h : i < L.length) : L.getD i 0 = L[i] := by simp [List.getD_eq_getElem?_getD, h]
theorem right_isT {n : Nat} {L : List Int} (hL : L.length = n) : rightB (n : Int) L = decide (tdy L = L) := by
  rw [Bool.eq_iff_iff, decide_eq_true_eq]
  constructor
  · intro h
    refine right_unique (right_tdy hL) h fun u v hu hv => ?_
    exact tdy_labN (by omega) (by omega)
  · intro h
    have := right_tdy hL
    rwa [h] at this
theorem cnt_zeroT {L : List Int} {q : Nat} (h : ∀ x ∈ L, x < (q : Int)) : cnt L q = 0 := by
  unfold cnt
  rw [List.length_eq_zero_iff, List.filter_eq_nil_iff]
  intro x hx e
  have := h x hx
  simp at e; omega
theorem szs_moreT {L : List Int} {q : Nat} (h : ∀ x ∈ L, x < (q : Int)) : szs (q + 1) L = szs q L ++ [0] := by
  unfold szs
  rw [List.range_succ, List.map_append]
  simp [cnt_zeroT h]
theorem ints_setT (l : List Int) (i : Nat) (x : Int) : (ints l).set i (.int .i64 x) = ints (l.set i x) := by simp [ints, List.map_set]
/-- The counts so far of right labels. -/
structure SzI (L : List Int) (v q : Nat) : Prop where
  go : rgo (q : Int) (L.drop v) = true
  lt : ∀ x ∈ L.take v, x < (q : Int)
  le : q ≤ v
  top : 0 < q → (q : Int) - 1 ∈ L.take v
theorem SzI.start {n : Nat} {L : List Int} (h : rightB (n : Int) L = true) : SzI L 0 0 := ⟨by rw [List.drop_zero]; exact (right_parts h).1, by simp, Nat.le_refl _, fun h => absurd h (Nat.lt_irrefl _)⟩
theorem SzI.here {L : List Int} {v q : Nat} (h : SzI L v q) (hv : v < L.length) : 0 ≤ L[v] ∧ L[v] ≤ (q : Int) := by
  have hg := h.go
  rw [rgo_drop hv] at hg
  split at hg
  · cases hg
  · omega
theorem SzI.next {L : List Int} {v q : Nat} (h : SzI L v q) (hv : v < L.length) : SzI L (v + 1) (if L[v] = (q : Int) then q + 1 else q) := by
  have hh := h.here hv
  have hg := h.go
  rw [rgo_drop hv, if_neg (by omega)] at hg
  have hlt := h.lt
  have hle := h.le
  have htop := h.top
  by_cases e : L[v] = (q : Int)
  · rw [if_pos e] at hg ⊢
    refine ⟨by simpa using hg, fun x hx => ?_, by omega, fun _ => ?_⟩
    · rw [List.take_succ_eq_append_getElem hv] at hx
      rcases List.mem_append.1 hx with hx | hx
      · have := hlt x hx; omega
      · have : x = L[v] := by simpa using hx
        omega
    · rw [List.take_succ_eq_append_getElem hv]
      refine List.mem_append_right _ ?_
      rw [List.mem_singleton]; omega
  · rw [if_neg e] at hg ⊢
    refine ⟨hg, fun x hx => ?_, by omega, fun hq => ?_⟩
    · rw [List.take_succ_eq_append_getElem hv] at hx
      rcases List.mem_append.1 hx with hx | hx
      · exact hlt x hx
      · have : x = L[v] := by simpa using hx
        omega
    · rw [List.take_succ_eq_append_getElem hv]
      exact List.mem_append_left _ (htop hq)
theorem SzI.done {L : List Int} {q : Nat} (h : SzI L L.length q) (h0 : 0 < L.length) (hp : ∀ x ∈ L, 0 ≤ x) : szs q L = sizesL L := by
  have hlt := h.lt
  have htop := h.top
  rw [List.take_length] at hlt htop
  have h1 := maxL_le (b := (q : Int) - 1) h0 fun x hx => by have := hlt x hx; omega
  have h3 := hlt _ (List.getElem_mem h0)
  have h4 := hp _ (List.getElem_mem h0)
  have h2 := le_maxL (htop (by omega))
  unfold sizesL
  rw [show (maxL L + 1).toNat = q by omega]
/-- The greatest of numbers that are not below 0. -/
theorem maxL_zeroT {L : List Int} (h0 : 0 < L.length) (hp : ∀ x ∈ L, 0 ≤ x) : L.foldl max 0 = maxL L := by
  unfold maxL
  cases L with
  | nil => simp at h0
  | cons a r =>
    have := hp a (by simp)
    simp only [List.headD_cons, List.foldl_cons]
    rw [Int.max_self, Int.max_eq_right this]
theorem foldT_next {l : List Int} {k : Nat} (hk : k < l.length) : (l.take (k + 1)).foldl max (0 : Int) = max ((l.take k).foldl max 0) l[k] := by
  rw [List.take_succ_eq_append_getElem hk, List.foldl_append]; rfl
theorem withinT {b a : List Int} (h : ∀ v, v < b.length → ∀ u, u < v → b.getD u 0 = b.getD v 0 → a.getD u 0 = a.getD v 0) : withinP b a := fun u hu v hv e => by
  rcases Nat.lt_trichotomy u v with h1 | h1 | h1
  · exact h v hv u h1 e
  · subst h1; rfl
  · exact (h u hu v h1 e.symm).symm

theorem rep_flatT (n : Nat) (v : Value) : (List.replicate n [v]).flatten = List.replicate n v := by
  induction n with
  | zero => rfl
  | succ n ih => rw [List.replicate_succ, List.replicate_succ, List.flatten_cons, ih]; rfl

set_option maxRecDepth 100000 in
set_option maxHeartbeats 4000000 in
theorem RTidyI_spec (A : Option Addr) (L : List Int) (cap : Nat) (w : World) (hr : Ro (Fr w []) w A (ints L)) (hl : L.length ≤ 1000000) :
    Meets Tryz.prog 80 [.slice A L.length cap] w [] (fun u own' => ∃ b, u = .slice (some ⟨b, 0, none⟩) L.length L.length ∧ own' = [[(b, blk (ints (tdy L)) 3)]]) := by
 refine f_enter Tryz.func80 rfl Tryz.ntmps80 rfl Owns.nil ?_
 refine f_seq fun K1 kh1 => ?_
 refine f_region ?_
 refine f_stepP rfl rfl rfl (o_assign rfl) ?_
 refine f_done ?_
 refine f_tn (kh1 _ _ ?_)
 clear kh1
 refine f_seq fun K2 kh2 => ?_
 refine f_region ?_
 refine f_stepP rfl rfl rfl (o_move rfl) ?_
 refine f_stepP rfl rfl rfl (o_len sl25 rfl) ?_
 refine f_step rfl rfl rfl (o_make el25 rfl rfl L.length rfl (by omega) (by omega) (ints (List.replicate L.length 0)) (by rw [show ints (List.replicate L.length 0) = List.replicate L.length (.int .i64 0) by simp [ints]]; exact rep_flatT L.length _) fun b9 => ?_)
 refine f_stepP rfl rfl rfl (o_assign rfl) ?_
 refine f_done ?_
 refine f_tn (kh2 _ _ ?_)
 clear kh2
 refine f_seq fun K3 kh3 => ?_
 refine f_region ?_
 refine f_stepP rfl rfl rfl (o_assign rfl) ?_
 refine f_done ?_
 refine f_tn (kh3 _ _ ?_)
 clear kh3
 refine f_seq fun K4 kh4 => ?_
 refine f_seq fun K5 kh5 => ?_
 refine f_region ?_
 refine f_stepP rfl rfl rfl (o_assign rfl) ?_
 refine f_done ?_
 refine f_tn (kh5 _ _ ?_)
 clear kh5
 refine f_block ?_
 refine f_loop (α := Nat × List Value) [0, 3] (fun ⟨v, rest⟩ => [(5, .int .i64 (v : Int)), (4, .int .i64 ((sns (L.take v)).length : Int))]) (fun ⟨v, rest⟩ => [[(b9, blk (ints ((tdy L).take v) ++ rest) 3)]]) (fun ⟨v, rest⟩ => v ≤ L.length ∧ rest.length = L.length - v) (fun ⟨v, rest⟩ => L.length - v) (0, ints (List.replicate L.length 0)) ?_ ?_ ?_ ?_
 · exact (by repeat (first | exact trivial | refine ⟨rfl, ?_⟩))
 · repeat (first | exact Sub.nil | refine Sub.pick ?_ | refine Sub.castO rfl ?_ | refine Sub.skip ?_)
 · exact ⟨Nat.zero_le _, by rw [ints_length]; simp⟩
 ·
  rintro ⟨v, rest⟩ ⟨hvn, hrl⟩
  have htl := tdy_len L
  have hsn := sns_len (L := L) (k := v) (by omega)
  refine f_seq fun K6 kh6 => ?_
  refine f_seq fun K7 kh7 => ?_
  refine f_region ?_
  refine f_stepP rfl rfl rfl (o_move rfl) ?_
  refine f_stepP rfl rfl rfl (o_move rfl) ?_
  refine f_stepP rfl rfl rfl (o_len sl25 rfl) ?_
  refine f_stepP rfl rfl rfl (o_lss rfl rfl) ?_
  refine f_done ?_
  refine f_tn (kh7 _ _ ?_)
  clear kh7
  refine f_cond rfl (fun c13 => ?_) (fun c13 => ?_)
  ·
   refine f_skip ?_
   refine f_tn (kh6 _ _ ?_)
   clear kh6
   refine f_seq fun K8 kh8 => ?_
   refine f_block ?_
   refine f_seq fun K9 kh9 => ?_
   refine f_region ?_
   refine f_stepP rfl rfl rfl (o_move rfl) ?_
   refine f_stepP rfl rfl rfl (o_move rfl) ?_
   have hv : v < L.length := by omega
   obtain ⟨r0, rest', rfl⟩ : ∃ r0 rest', rest = r0 :: rest' := by cases rest with | nil => simp at hrl; omega | cons a b => exact ⟨a, b, rfl⟩
   have hPn : (ints ((tdy L).take v)).length = v := by rw [ints_length, List.length_take]; omega
   have htk : ints ((tdy L).take (v + 1)) ++ rest' = ints ((tdy L).take v) ++ .int .i64 ((tdy L)[v]'(by omega)) :: rest' := by rw [List.take_succ_eq_append_getElem (by omega), ints_append, List.append_assoc]; rfl
   refine f_stepP rfl rfl rfl (o_idx sl25 rfl rfl (v) ⟨by omega, by omega, by first | omega | (simp; done) | (simp; omega)⟩) ?_
   refine f_step0 rfl rfl (o_store Tryz.sizeOf3 rfl rfl rfl rfl (by rw [List.length_append, hPn]; simp) (ints ((tdy L).take v) ++ .int .i64 (-1) :: rest') (by rw [List.set_append_right _ _ (by omega), hPn, Nat.sub_self]; rfl) ?_)
   refine f_done ?_
   refine f_tn (kh9 _ _ ?_)
   clear kh9
   refine f_seq fun K10 kh10 => ?_
   refine f_seq fun K11 kh11 => ?_
   refine f_region ?_
   refine f_stepP rfl rfl rfl (o_assign rfl) ?_
   refine f_done ?_
   refine f_tn (kh11 _ _ ?_)
   clear kh11
   refine f_block ?_
   refine f_loop (α := Nat × Int) [0, 3, 4, 5] (fun ⟨u, x⟩ => [(6, .int .i64 (u : Int))]) (fun ⟨u, x⟩ => [[(b9, blk (ints ((tdy L).take v) ++ .int .i64 x :: rest') 3)]]) (fun ⟨u, x⟩ => u ≤ v ∧ TInI L v u x) (fun ⟨u, x⟩ => v - u) (0, -1) ?_ ?_ ?_ ?_
   · exact (by repeat (first | exact trivial | refine ⟨rfl, ?_⟩))
   · repeat (first | exact Sub.nil | refine Sub.pick ?_ | refine Sub.castO rfl ?_ | refine Sub.skip ?_)
   · exact ⟨Nat.zero_le _, .inl ⟨rfl, fun i h => by omega⟩⟩
   ·
    rintro ⟨u, x⟩ ⟨huv, hx⟩
    refine f_envC (e := [(6, _), (0, _), (3, _), (4, _), (5, _)]) (by repeat (first | exact trivial | refine ⟨rfl, ?_⟩)) ?_
    refine f_seq fun K12 kh12 => ?_
    refine f_seq fun K13 kh13 => ?_
    refine f_region ?_
    refine f_stepP rfl rfl rfl (o_move rfl) ?_
    refine f_stepP rfl rfl rfl (o_move rfl) ?_
    refine f_stepP rfl rfl rfl (o_lss rfl rfl) ?_
    refine f_stepP rfl rfl rfl (o_move rfl) ?_
    refine f_splitL 22 rfl (fun g22 => ?_) (fun g22 => ?_)
    ·
     refine f_stepPY rfl rfl rfl rfl rfl (o_move rfl) ?_
     refine f_stepPY rfl rfl rfl rfl rfl (o_move rfl) ?_
     refine f_stepPY rfl rfl rfl rfl rfl (o_idx sl25 rfl rfl (v) ⟨by omega, by omega, by first | omega | (simp; done) | (simp; omega)⟩) ?_
     refine f_stepPY rfl rfl rfl rfl rfl (o_load Tryz.isAgg3 rfl (rdA (v := .int .i64 x) (by rw [List.getElem?_append_right (by omega), hPn, Nat.sub_self]; rfl))) ?_
     refine f_stepPY rfl rfl rfl rfl rfl (o_lss rfl rfl) ?_
     refine f_stepP rfl rfl rfl (o_pickT rfl rfl) ?_
     refine f_done ?_
     refine f_tn (kh13 _ _ ?_)
     clear kh13
     refine f_cond rfl (fun c28 => ?_) (fun c28 => ?_)
     ·
      refine f_skip ?_
      refine f_tn (kh12 _ _ ?_)
      clear kh12
      refine f_seq fun K14 kh14 => ?_
      refine f_block ?_
      refine f_seq fun K15 kh15 => ?_
      refine f_regionS rfl (by decide +kernel) ?_
      refine f_stillP rfl rfl rfl (o_move rfl) ?_
      refine f_stillP rfl rfl rfl (o_move rfl) ?_
      have huL : u < L.length := by omega
      obtain ⟨bq, off, rfl, hS, hc⟩ := hr (by intro e; have := ints_length L; rw [e] at this; simp at this; omega)
      refine f_stillP rfl rfl rfl (o_idx sl25 rfl rfl (off + u) ⟨by omega, by omega, by first | omega | (simp; done) | (simp; omega)⟩) ?_
      refine f_stillP rfl rfl rfl (o_load Tryz.isAgg3 rfl (roOne (enc := (.int .i64 ·)) hS hc huL)) ?_
      refine f_stillP rfl rfl rfl (o_move rfl) ?_
      refine f_stillP rfl rfl rfl (o_move rfl) ?_
      refine f_stillP rfl rfl rfl (o_idx sl25 rfl rfl (off + v) ⟨by omega, by omega, by first | omega | (simp; done) | (simp; omega)⟩) ?_
      refine f_stillP rfl rfl rfl (o_load Tryz.isAgg3 rfl (roOne (enc := (.int .i64 ·)) hS hc hv)) ?_
      refine f_stillP rfl rfl rfl (o_eql rfl rfl) ?_
      refine f_stillD ?_
      refine f_tn (kh15 _ _ ?_)
      clear kh15
      refine f_cond rfl (fun c39 => ?_) (fun c39 => ?_)
      ·
       refine f_region ?_
       refine f_stepP rfl rfl rfl (o_move rfl) ?_
       refine f_stepP rfl rfl rfl (o_move rfl) ?_
       refine f_stepP rfl rfl rfl (o_move rfl) ?_
       refine f_stepP rfl rfl rfl (o_move rfl) ?_
       refine f_stepP rfl rfl rfl (o_idx sl25 rfl rfl (u) ⟨by omega, by omega, by first | omega | (simp; done) | (simp; omega)⟩) ?_
       refine f_stepP rfl rfl rfl (o_load Tryz.isAgg3 rfl (rdA (v := .int .i64 ((tdy L)[u]'(by omega))) (app_get (by rw [ints_get (by rw [List.length_take]; omega), List.getElem_take])))) ?_
       refine f_stepP rfl rfl rfl (o_idx sl25 rfl rfl (v) ⟨by omega, by omega, by first | omega | (simp; done) | (simp; omega)⟩) ?_
       refine f_step0 rfl rfl (o_store Tryz.sizeOf3 rfl rfl rfl rfl (by rw [List.length_append, hPn]; simp) (ints ((tdy L).take v) ++ .int .i64 ((tdy L)[u]'(by omega)) :: rest') (by rw [List.set_append_right _ _ (by omega), hPn, Nat.sub_self]; rfl) ?_)
       refine f_done ?_
       refine f_bn ?_
       refine f_tn (kh14 _ _ ?_)
       clear kh14
       refine f_region ?_
       refine f_stepP rfl rfl rfl (o_move rfl) ?_
       refine f_stepP rfl rfl rfl (o_add rfl rfl _ (wrap_i64 (by omega))) ?_
       refine f_stepP rfl rfl rfl (o_assign rfl) ?_
       refine f_done ?_
       refine f_tn (f_again (u + 1, (tdy L)[u]'(by omega)) (by first | omega | (dsimp only; omega) | (simp; omega)) ⟨by omega, .inr ⟨(tdy_rng _ (List.getElem_mem _)).1, by rw [getDT (by omega)]; exact (tdy_oldT (by omega) hv c39).1, u, by omega, by rw [getDT huL, getDT hv]; exact c39⟩⟩ ?_ ?_ ?_)
       · exact (by repeat (first | exact trivial | refine ⟨rfl, ?_⟩))
       · exact (by repeat (first | exact trivial | refine ⟨rfl, ?_⟩))
       · repeat (first | exact Sub.nil | refine Sub.pick ?_ | refine Sub.castO rfl ?_ | refine Sub.skip ?_)
      ·
       refine f_skip ?_
       refine f_bn ?_
       refine f_tn (kh14 _ _ ?_)
       clear kh14
       refine f_region ?_
       refine f_stepP rfl rfl rfl (o_move rfl) ?_
       refine f_stepP rfl rfl rfl (o_add rfl rfl _ (wrap_i64 (by omega))) ?_
       refine f_stepP rfl rfl rfl (o_assign rfl) ?_
       refine f_done ?_
       refine f_tn (f_again (u + 1, x) (by first | omega | (dsimp only; omega) | (simp; omega)) ⟨by omega, by
         rcases hx with ⟨e, h⟩ | ⟨h0, _⟩
         · exact .inl ⟨e, fun i hi => by
             by_cases e' : i = u
             · subst e'; rw [getDT huL, getDT hv]; exact c39
             · exact h i (by omega)⟩
         · omega⟩ ?_ ?_ ?_)
       · exact (by repeat (first | exact trivial | refine ⟨rfl, ?_⟩))
       · exact (by repeat (first | exact trivial | refine ⟨rfl, ?_⟩))
       · repeat (first | exact Sub.nil | refine Sub.pick ?_ | refine Sub.castO rfl ?_ | refine Sub.skip ?_)
     ·
      refine f_exit ?_
      refine f_te ?_
      clear kh12
      refine f_te ?_
      refine f_be ?_
      refine f_tn (kh10 _ _ ?_)
      clear kh10
      refine f_seq fun K16 kh16 => ?_
      refine f_region ?_
      refine f_stepP rfl rfl rfl (o_move rfl) ?_
      refine f_stepP rfl rfl rfl (o_move rfl) ?_
      refine f_stepP rfl rfl rfl (o_idx sl25 rfl rfl (v) ⟨by omega, by omega, by first | omega | (simp; done) | (simp; omega)⟩) ?_
      refine f_stepP rfl rfl rfl (o_load Tryz.isAgg3 rfl (rdA (v := .int .i64 x) (by rw [List.getElem?_append_right (by omega), hPn, Nat.sub_self]; rfl))) ?_
      refine f_stepP rfl rfl rfl (o_lss rfl rfl) ?_
      refine f_done ?_
      refine f_tn (kh16 _ _ ?_)
      clear kh16
      refine f_cond rfl (fun c51 => ?_) (fun c51 => ?_)
      ·
       omega -- closed
      ·
       obtain ⟨hx0, hx1, i, hi, hLi⟩ := hx.resolve_left (fun h => by have := h.1; omega)
       rw [getDT (by omega)] at hx1
       rw [getDT (show i < L.length by omega), getDT hv] at hLi
       have hsn1 := (tdy_oldT hi hv hLi).2
       have hx2 : (tdy L)[v]'(by omega) = x := hx1.symm
       refine f_skip ?_
       refine f_bn ?_
       refine f_tn (kh8 _ _ ?_)
       clear kh8
       refine f_region ?_
       refine f_stepP rfl rfl rfl (o_move rfl) ?_
       refine f_stepP rfl rfl rfl (o_add rfl rfl _ (wrap_i64 (by omega))) ?_
       refine f_stepP rfl rfl rfl (o_assign rfl) ?_
       refine f_done ?_
       refine f_reQ 4 rfl (v := .int .i64 ((sns (L.take (v + 1))).length : Int)) (by rw [hsn1]) ?_
       refine f_subQ (out := [[(b9, blk (ints ((tdy L).take (v + 1)) ++ rest') 3)]]) (Sub.castO (by rw [htk, hx2]) Sub.nil) ?_
       refine f_tn (f_again (v + 1, rest') (by first | omega | (dsimp only; omega) | (simp; omega)) ⟨by omega, by simp at hrl; omega⟩ ?_ ?_ ?_)
       · exact (by repeat (first | exact trivial | refine ⟨rfl, ?_⟩))
       · exact (by repeat (first | exact trivial | refine ⟨rfl, ?_⟩))
       · repeat (first | exact Sub.nil | refine Sub.pick ?_ | refine Sub.castO rfl ?_ | refine Sub.skip ?_)
    ·
     refine f_stepN rfl rfl rfl rfl rfl rfl ?_
     refine f_stepN rfl rfl rfl rfl rfl rfl ?_
     refine f_stepN rfl rfl rfl rfl rfl rfl ?_
     refine f_stepN rfl rfl rfl rfl rfl rfl ?_
     refine f_stepN rfl rfl rfl rfl rfl rfl ?_
     refine f_stepP rfl rfl rfl (o_pickF rfl rfl) ?_
     refine f_done ?_
     refine f_tn (kh13 _ _ ?_)
     clear kh13
     refine f_condF rfl ?_
     refine f_exit ?_
     refine f_te ?_
     clear kh12
     refine f_te ?_
     refine f_be ?_
     refine f_tn (kh10 _ _ ?_)
     clear kh10
     refine f_seq fun K17 kh17 => ?_
     refine f_region ?_
     refine f_stepP rfl rfl rfl (o_move rfl) ?_
     refine f_stepP rfl rfl rfl (o_move rfl) ?_
     refine f_stepP rfl rfl rfl (o_idx sl25 rfl rfl (v) ⟨by omega, by omega, by first | omega | (simp; done) | (simp; omega)⟩) ?_
     refine f_stepP rfl rfl rfl (o_load Tryz.isAgg3 rfl (rdA (v := .int .i64 x) (by rw [List.getElem?_append_right (by omega), hPn, Nat.sub_self]; rfl))) ?_
     refine f_stepP rfl rfl rfl (o_lss rfl rfl) ?_
     refine f_done ?_
     refine f_tn (kh17 _ _ ?_)
     clear kh17
     refine f_cond rfl (fun c51 => ?_) (fun c51 => ?_)
     ·
      have hnew := tdy_newT hv (by
        rcases hx with ⟨_, h⟩ | ⟨h0, _⟩
        · intro i hi
          have := h i (by omega)
          rw [getDT (show i < L.length by omega), getDT hv] at this
          exact this
        · omega)
      refine f_seq fun K18 kh18 => ?_
      refine f_region ?_
      refine f_stepP rfl rfl rfl (o_move rfl) ?_
      refine f_stepP rfl rfl rfl (o_move rfl) ?_
      refine f_stepP rfl rfl rfl (o_move rfl) ?_
      refine f_stepP rfl rfl rfl (o_idx sl25 rfl rfl (v) ⟨by omega, by omega, by first | omega | (simp; done) | (simp; omega)⟩) ?_
      refine f_step0 rfl rfl (o_store Tryz.sizeOf3 rfl rfl rfl rfl (by rw [List.length_append, hPn]; simp) (ints ((tdy L).take v) ++ .int .i64 ((sns (L.take v)).length : Int) :: rest') (by rw [List.set_append_right _ _ (by omega), hPn, Nat.sub_self]; rfl) ?_)
      refine f_done ?_
      refine f_tn (kh18 _ _ ?_)
      clear kh18
      refine f_region ?_
      refine f_stepP rfl rfl rfl (o_move rfl) ?_
      refine f_stepP rfl rfl rfl (o_add rfl rfl _ (wrap_i64 (by omega))) ?_
      refine f_stepP rfl rfl rfl (o_assign rfl) ?_
      refine f_done ?_
      refine f_bn ?_
      refine f_tn (kh8 _ _ ?_)
      clear kh8
      refine f_region ?_
      refine f_stepP rfl rfl rfl (o_move rfl) ?_
      refine f_stepP rfl rfl rfl (o_add rfl rfl _ (wrap_i64 (by omega))) ?_
      refine f_stepP rfl rfl rfl (o_assign rfl) ?_
      refine f_done ?_
      refine f_reQ 4 rfl (v := .int .i64 ((sns (L.take (v + 1))).length : Int)) (by rw [hnew.2]; rfl) ?_
      refine f_subQ (out := [[(b9, blk (ints ((tdy L).take (v + 1)) ++ rest') 3)]]) (Sub.castO (by rw [htk, hnew.1]) Sub.nil) ?_
      refine f_tn (f_again (v + 1, rest') (by first | omega | (dsimp only; omega) | (simp; omega)) ⟨by omega, by simp at hrl; omega⟩ ?_ ?_ ?_)
      · exact (by repeat (first | exact trivial | refine ⟨rfl, ?_⟩))
      · exact (by repeat (first | exact trivial | refine ⟨rfl, ?_⟩))
      · repeat (first | exact Sub.nil | refine Sub.pick ?_ | refine Sub.castO rfl ?_ | refine Sub.skip ?_)
     ·
      obtain ⟨hx0, hx1, i, hi, hLi⟩ := hx.resolve_left (fun h => by have := h.1; omega)
      rw [getDT (by omega)] at hx1
      rw [getDT (show i < L.length by omega), getDT hv] at hLi
      have hsn1 := (tdy_oldT hi hv hLi).2
      have hx2 : (tdy L)[v]'(by omega) = x := hx1.symm
      refine f_skip ?_
      refine f_bn ?_
      refine f_tn (kh8 _ _ ?_)
      clear kh8
      refine f_region ?_
      refine f_stepP rfl rfl rfl (o_move rfl) ?_
      refine f_stepP rfl rfl rfl (o_add rfl rfl _ (wrap_i64 (by omega))) ?_
      refine f_stepP rfl rfl rfl (o_assign rfl) ?_
      refine f_done ?_
      refine f_reQ 4 rfl (v := .int .i64 ((sns (L.take (v + 1))).length : Int)) (by rw [hsn1]) ?_
      refine f_subQ (out := [[(b9, blk (ints ((tdy L).take (v + 1)) ++ rest') 3)]]) (Sub.castO (by rw [htk, hx2]) Sub.nil) ?_
      refine f_tn (f_again (v + 1, rest') (by first | omega | (dsimp only; omega) | (simp; omega)) ⟨by omega, by simp at hrl; omega⟩ ?_ ?_ ?_)
      · exact (by repeat (first | exact trivial | refine ⟨rfl, ?_⟩))
      · exact (by repeat (first | exact trivial | refine ⟨rfl, ?_⟩))
      · repeat (first | exact Sub.nil | refine Sub.pick ?_ | refine Sub.castO rfl ?_ | refine Sub.skip ?_)
  ·
   refine f_exit ?_
   refine f_te ?_
   clear kh6
   refine f_te ?_
   refine f_be ?_
   refine f_tn (kh4 _ _ ?_)
   clear kh4
   refine f_seq fun K19 kh19 => ?_
   refine f_region ?_
   refine f_stepP rfl rfl rfl (o_move rfl) ?_
   refine f_stepP rfl rfl rfl (o_assign rfl) ?_
   refine f_done ?_
   refine f_tn (kh19 _ _ ?_)
   clear kh19
   refine f_ret ?_
   obtain rfl : v = L.length := by omega
   obtain rfl : rest = [] := List.eq_nil_of_length_eq_zero (by omega)
   exact f_fin1 [[(b9, blk (ints (tdy L)) 3)]] Tryz.results80 rfl (Sub.castO (by rw [List.append_nil, List.take_of_length_le (by omega)]) Sub.nil) ⟨b9, rfl, rfl⟩

set_option maxRecDepth 100000 in
set_option maxHeartbeats 4000000 in
theorem RRight_spec (n : Nat) (A : Option Addr) (l : List Arc) (cap : Nat) (B : Option Addr) (L : List Int) (cb : Nat) (w : World) (hn : n ≤ 1024) (hL : Ro (Fr w []) w B (ints L)) (hm : L.length ≤ 9223372036854775807) :
    Meets Tryz.prog 71 [.agg #[.int .i64 (n : Int), .slice A l.length cap], .slice B L.length cb] w [] (fun u m => u = .bool (rightB (n : Int) L) ∧ m = []) := by
 refine f_enter Tryz.func71 rfl Tryz.ntmps71 rfl Owns.nil ?_
 refine f_seq fun K1 kh1 => ?_
 refine f_region ?_
 refine f_step rfl rfl rfl (o_box rfl rfl fun b2 => ?_)
 refine f_stepP rfl rfl rfl (o_assign rfl) ?_
 refine f_done ?_
 refine f_tn (kh1 _ _ ?_)
 clear kh1
 refine f_seq fun K2 kh2 => ?_
 refine f_seq fun K3 kh3 => ?_
 refine f_region ?_
 refine f_stepP rfl rfl rfl (o_move rfl) ?_
 refine f_stepP rfl rfl rfl (o_len sl25 rfl) ?_
 refine f_stepP rfl rfl rfl (o_field fa24_0 rfl) ?_
 refine f_stepP rfl rfl rfl (o_load Tryz.isAgg3 rfl (rdA rfl)) ?_
 refine f_stepP rfl rfl rfl (o_neq rfl rfl) ?_
 refine f_done ?_
 refine f_tn (kh3 _ _ ?_)
 clear kh3
 refine f_cond rfl (fun c11 => ?_) (fun c11 => ?_)
 ·
  refine f_seq fun K4 kh4 => ?_
  refine f_region ?_
  refine f_stepP rfl rfl rfl (o_assign rfl) ?_
  refine f_done ?_
  refine f_tn (kh4 _ _ ?_)
  clear kh4
  refine f_ret ?_
  refine f_tr ?_
  exact f_fin1 [] Tryz.results71 rfl Sub.nil ⟨by unfold rightB; rw [decide_eq_false (p := (L.length : Int) = (n : Int)) (by omega), Bool.and_false], rfl⟩
 ·
  obtain rfl : L.length = n := by omega
  have hri := right_isT (L := L) rfl
  refine f_skip ?_
  refine f_tn (kh2 _ _ ?_)
  clear kh2
  refine f_seq fun K5 kh5 => ?_
  refine f_region ?_
  refine f_stepP rfl rfl rfl (o_move rfl) ?_
  refine f_step rfl rfl rfl (o_call Tryz.call80 rfl (fun w_ hp_ => RTidyI_spec B L cb w_ (hL.up0 hp_) (by omega)) ?_)
  rintro _ _ ⟨bP, rfl, rfl⟩
  have htl := tdy_len L
  dsimp only [List.cons_append, List.nil_append]
  refine f_stepP rfl rfl rfl (o_assign rfl) ?_
  refine f_done ?_
  refine f_tn (kh5 _ _ ?_)
  clear kh5
  refine f_seq fun K6 kh6 => ?_
  refine f_seq fun K7 kh7 => ?_
  refine f_region ?_
  refine f_stepP rfl rfl rfl (o_assign rfl) ?_
  refine f_done ?_
  refine f_tn (kh7 _ _ ?_)
  clear kh7
  refine f_block ?_
  refine f_loop (α := Nat) [1, 2, 5] (fun v => [(6, .int .i64 (v : Int))]) (fun v => [[(bP, blk (ints (tdy L)) 3)], [(b2, blk [.int .i64 (L.length : Int), .slice A l.length cap] 24)]]) (fun v => v ≤ L.length ∧ ∀ u (h : u < L.length) (h' : u < (tdy L).length), u < v → (tdy L)[u] = L[u]) (fun v => L.length - v) (0) ?_ ?_ ?_ ?_
  · exact (by repeat (first | exact trivial | refine ⟨rfl, ?_⟩))
  · repeat (first | exact Sub.nil | refine Sub.pick ?_ | refine Sub.castO rfl ?_ | refine Sub.skip ?_)
  · exact ⟨Nat.zero_le _, fun u _ _ h => by omega⟩
  ·
   rintro v ⟨hvl, hall⟩
   refine f_seq fun K8 kh8 => ?_
   refine f_seq fun K9 kh9 => ?_
   refine f_region ?_
   refine f_stepP rfl rfl rfl (o_move rfl) ?_
   refine f_stepP rfl rfl rfl (o_field fa24_0 rfl) ?_
   refine f_stepP rfl rfl rfl (o_load Tryz.isAgg3 rfl (rdA rfl)) ?_
   refine f_stepP rfl rfl rfl (o_lss rfl rfl) ?_
   refine f_done ?_
   refine f_tn (kh9 _ _ ?_)
   clear kh9
   refine f_cond rfl (fun c17 => ?_) (fun c17 => ?_)
   ·
    have hv : v < L.length := by omega
    obtain ⟨bq, off, rfl, hS, hc⟩ := hL (fun e => by have := ints_length L; rw [e] at this; simp at this; omega)
    have hvt : v < (tdy L).length := by omega
    refine f_skip ?_
    refine f_tn (kh8 _ _ ?_)
    clear kh8
    refine f_seq fun K10 kh10 => ?_
    refine f_block ?_
    refine f_seq fun K11 kh11 => ?_
    refine f_regionS rfl (by decide +kernel) ?_
    refine f_stillP rfl rfl rfl (o_move rfl) ?_
    refine f_stillP rfl rfl rfl (o_move rfl) ?_
    refine f_stillP rfl rfl rfl (o_idx sl25 rfl rfl (v) ⟨by omega, by omega, by first | omega | (simp; done) | (simp; omega)⟩) ?_
    refine f_stillP rfl rfl rfl (o_load Tryz.isAgg3 rfl (rdA (v := .int .i64 ((tdy L)[v]'hvt)) (ints_get hvt))) ?_
    refine f_stillP rfl rfl rfl (o_move rfl) ?_
    refine f_stillP rfl rfl rfl (o_move rfl) ?_
    refine f_stillP rfl rfl rfl (o_idx sl25 rfl rfl (off + v) ⟨by omega, by omega, by first | omega | (simp; done) | (simp; omega)⟩) ?_
    refine f_stillP rfl rfl rfl (o_load Tryz.isAgg3 rfl (roOne (enc := (.int .i64 ·)) hS hc hv)) ?_
    refine f_stillP rfl rfl rfl (o_neq rfl rfl) ?_
    refine f_stillD ?_
    refine f_tn (kh11 _ _ ?_)
    clear kh11
    refine f_cond rfl (fun c28 => ?_) (fun c28 => ?_)
    ·
     refine f_seq fun K12 kh12 => ?_
     refine f_region ?_
     refine f_stepP rfl rfl rfl (o_assign rfl) ?_
     refine f_done ?_
     refine f_tn (kh12 _ _ ?_)
     clear kh12
     refine f_ret ?_
     refine f_br ?_
     refine f_tr ?_
     refine f_tr ?_
     refine f_br ?_
     refine f_tr ?_
     exact f_fin1 [] Tryz.results71 rfl Sub.nil ⟨by rw [hri, decide_eq_false]; intro e; have := List.getElem_of_eq e hvt; omega, rfl⟩
    ·
     refine f_skip ?_
     refine f_bn ?_
     refine f_tn (kh10 _ _ ?_)
     clear kh10
     refine f_region ?_
     refine f_stepP rfl rfl rfl (o_move rfl) ?_
     refine f_stepP rfl rfl rfl (o_add rfl rfl _ (wrap_i64 (by omega))) ?_
     refine f_stepP rfl rfl rfl (o_assign rfl) ?_
     refine f_done ?_
     refine f_tn (f_again (v + 1) (by first | omega | (dsimp only; omega) | (simp; omega)) ⟨by omega, fun u h h' hu => by
       by_cases e : u = v
       · subst e; omega
       · exact hall u h h' (by omega)⟩ ?_ ?_ ?_)
     · exact (by repeat (first | exact trivial | refine ⟨rfl, ?_⟩))
     · exact (by repeat (first | exact trivial | refine ⟨rfl, ?_⟩))
     · repeat (first | exact Sub.nil | refine Sub.pick ?_ | refine Sub.castO rfl ?_ | refine Sub.skip ?_)
   ·
    obtain rfl : v = L.length := by omega
    refine f_exit ?_
    refine f_te ?_
    clear kh8
    refine f_te ?_
    refine f_be ?_
    refine f_tn (kh6 _ _ ?_)
    clear kh6
    refine f_seq fun K13 kh13 => ?_
    refine f_region ?_
    refine f_stepP rfl rfl rfl (o_assign rfl) ?_
    refine f_done ?_
    refine f_tn (kh13 _ _ ?_)
    clear kh13
    refine f_ret ?_
    exact f_fin1 [] Tryz.results71 rfl Sub.nil ⟨by rw [hri, decide_eq_true (List.ext_getElem htl fun u h1 h2 => hall u h2 h1 h2)], rfl⟩

set_option maxRecDepth 100000 in
set_option maxHeartbeats 4000000 in
theorem RSize_spec (n : Nat) (B : Option Addr) (L : List Int) (cb : Nat) (w : World) (hn : 1 ≤ n ∧ n ≤ 1024) (hR : rightB (n : Int) L = true) (hL : Ro (Fr w []) w B (ints L)) :
    Meets Tryz.prog 73 [.slice B L.length cb] w [] (fun u own' => ∃ (A' : Option Addr) (c' : Nat) (m' : Seg), u = .slice A' (sizesL L).length c' ∧ own' = [m'] ∧ Own 3 1 (.slice A' (sizesL L).length c') (sizesL L).length (ints (sizesL L)) m') := by
 obtain rfl : L.length = n := (right_parts hR).2
 have hrg := right_range hR hn.1
 refine f_enter Tryz.func73 rfl Tryz.ntmps73 rfl Owns.nil ?_
 refine f_seq fun K1 kh1 => ?_
 refine f_region ?_
 refine f_stepP rfl rfl rfl (o_assign rfl) ?_
 refine f_done ?_
 refine f_tn (kh1 _ _ ?_)
 clear kh1
 refine f_seq fun K2 kh2 => ?_
 refine f_region ?_
 refine f_stepP rfl rfl rfl (o_assign rfl) ?_
 refine f_done ?_
 refine f_tn (kh2 _ _ ?_)
 clear kh2
 refine f_seq fun K3 kh3 => ?_
 refine f_seq fun K4 kh4 => ?_
 refine f_region ?_
 refine f_stepP rfl rfl rfl (o_assign rfl) ?_
 refine f_done ?_
 refine f_tn (kh4 _ _ ?_)
 clear kh4
 refine f_block ?_
 refine f_loop (α := Nat × Nat × Value × Seg) [0] (fun ⟨v, q, ov, om⟩ => [(4, .int .i64 (v : Int)), (3, ov)]) (fun ⟨v, q, ov, om⟩ => [om]) (fun ⟨v, q, ov, om⟩ => v ≤ L.length ∧ SzI L v q ∧ Own 3 1 ov (szs q (L.take v)).length (ints (szs q (L.take v))) om) (fun ⟨v, q, ov, om⟩ => L.length - v) (0, 0, .slice none 0 0, []) ?_ ?_ ?_ ?_
 · exact (by repeat (first | exact trivial | refine ⟨rfl, ?_⟩))
 · repeat (first | exact Sub.nil | refine Sub.pick ?_ | refine Sub.castO rfl ?_ | refine Sub.skip ?_)
 · exact ⟨Nat.zero_le _, SzI.start hR, Own.nil _ _⟩
 ·
  rintro ⟨v, q, ov, om⟩ ⟨hvl, hI, hO⟩
  have hqle := hI.le
  obtain ⟨Ao, co, rfl, hco⟩ := hO.val
  have hsl := szs_len q (L.take v)
  refine f_reC 3 rfl (v := .slice Ao q co) (by rw [szs_len]) ?_
  rw [szs_len] at hO hco
  refine f_seq fun K5 kh5 => ?_
  refine f_seq fun K6 kh6 => ?_
  refine f_region ?_
  refine f_stepP rfl rfl rfl (o_move rfl) ?_
  refine f_stepP rfl rfl rfl (o_move rfl) ?_
  refine f_stepP rfl rfl rfl (o_len sl25 rfl) ?_
  refine f_stepP rfl rfl rfl (o_lss rfl rfl) ?_
  refine f_done ?_
  refine f_tn (kh6 _ _ ?_)
  clear kh6
  refine f_cond rfl (fun c8 => ?_) (fun c8 => ?_)
  ·
   have hv : v < L.length := by omega
   obtain ⟨bq, off, rfl, hS, hc⟩ := hL (fun e => by have := ints_length L; rw [e] at this; simp at this; omega)
   have hh := hI.here hv
   have hle := hI.le
   have hnx := hI.next hv
   obtain ⟨y, hy⟩ : ∃ y : Nat, L[v] = (y : Int) := ⟨L[v].toNat, by omega⟩
   refine f_skip ?_
   refine f_tn (kh5 _ _ ?_)
   clear kh5
   refine f_seq fun K7 kh7 => ?_
   refine f_block ?_
   refine f_seq fun K8 kh8 => ?_
   refine f_seq fun K9 kh9 => ?_
   refine f_region ?_
   refine f_stepP rfl rfl rfl (o_move rfl) ?_
   refine f_stepP rfl rfl rfl (o_move rfl) ?_
   refine f_stepP rfl rfl rfl (o_idx sl25 rfl rfl (off + v) ⟨by omega, by omega, by first | omega | (simp; done) | (simp; omega)⟩) ?_
   refine f_stepP rfl rfl rfl (o_load Tryz.isAgg3 rfl (show Rd _ _ _ _ _ (.int .i64 (y : Int)) by rw [← hy]; exact roOne (enc := (.int .i64 ·)) hS hc hv)) ?_
   refine f_stepP rfl rfl rfl (o_move rfl) ?_
   refine f_stepP rfl rfl rfl (o_len sl25 rfl) ?_
   refine f_stepP rfl rfl rfl (o_eql rfl rfl) ?_
   refine f_done ?_
   refine f_tn (kh9 _ _ ?_)
   clear kh9
   refine f_cond rfl (fun c17 => ?_) (fun c17 => ?_)
   ·
    have hyq : L[v] = (q : Int) := by omega
    rw [if_pos hyq] at hnx
    refine f_region ?_
    refine f_stepP rfl rfl rfl (o_move rfl) ?_
    refine f_step rfl rfl rfl (o_slice1 el25 (by omega) rfl rfl rfl fun b19 => ?_)
    refine f_step rfl rfl rfl (o_append el25 rfl rfl hO (ys := [.int .i64 0]) ⟨(rdA rfl), trivial⟩ rfl rfl (by omega) (by omega) fun v20 m20 o20 => ?_)
    obtain ⟨A1, c1, rfl, hc1⟩ := o20.val
    obtain ⟨X1, hX1⟩ : ∃ X1, X1 = szs (q + 1) (L.take v) := ⟨_, rfl⟩
    have hX1l : X1.length = q + 1 := by rw [hX1, szs_len]
    have hO1 : Own 3 1 (.slice A1 (q + 1) c1) X1.length (ints X1) m20 := by rw [hX1, szs_len, szs_moreT hI.lt, ints_append]; exact o20
    have hyl : y < X1.length := by omega
    have hXy : X1[y] = (cnt (L.take v) y : Int) := by subst hX1; exact szs_get (by omega)
    obtain ⟨bb, spp, rfl, rfl, hup⟩ := hO1.upd (by omega)
    refine f_stepP rfl rfl rfl (o_assign rfl) ?_
    refine f_done ?_
    refine f_tn (kh8 _ _ ?_)
    clear kh8
    refine f_region ?_
    refine f_stepP rfl rfl rfl (o_move rfl) ?_
    refine f_stepP rfl rfl rfl (o_move rfl) ?_
    refine f_stepP rfl rfl rfl (o_move rfl) ?_
    refine f_stepP rfl rfl rfl (o_idx sl25 rfl rfl (off + v) ⟨by omega, by omega, by first | omega | (simp; done) | (simp; omega)⟩) ?_
    refine f_stepP rfl rfl rfl (o_load Tryz.isAgg3 rfl (show Rd _ _ _ _ _ (.int .i64 (y : Int)) by rw [← hy]; exact roOne (enc := (.int .i64 ·)) hS hc hv)) ?_
    refine f_stepP rfl rfl rfl (o_idx sl25 rfl rfl (y) ⟨by omega, by omega, by first | omega | (simp; done) | (simp; omega)⟩) ?_
    refine f_stepP rfl rfl rfl (o_load Tryz.isAgg3 rfl (rdA (v := .int .i64 (cnt (L.take v) y : Int)) (app_get (by rw [ints_get hyl, hXy])))) ?_
    refine f_stepP rfl rfl rfl (o_add rfl rfl _ (wrap_i64 (by have := cnt_le (L.take v) y; rw [List.length_take] at this; omega))) ?_
    refine f_stepP rfl rfl rfl (o_idx sl25 rfl rfl (y) ⟨by omega, by omega, by first | omega | (simp; done) | (simp; omega)⟩) ?_
    refine f_step0 rfl rfl (o_store Tryz.sizeOf3 rfl rfl rfl rfl (by rw [List.length_append, ints_length]; omega) (ints (X1.set y ((cnt (L.take v) y : Int) + 1)) ++ spp) (by rw [List.set_append_left _ _ (by rw [ints_length]; exact hyl), ints_setT]) ?_)
    refine f_done ?_
    refine f_bn ?_
    refine f_tn (kh7 _ _ ?_)
    clear kh7
    refine f_region ?_
    refine f_stepP rfl rfl rfl (o_move rfl) ?_
    refine f_stepP rfl rfl rfl (o_add rfl rfl _ (wrap_i64 (by omega))) ?_
    refine f_stepP rfl rfl rfl (o_assign rfl) ?_
    refine f_done ?_
    refine f_tn (f_again (v + 1, q + 1, .slice (some ⟨bb, 0, none⟩) (q + 1) c1, [(bb, blk (ints (X1.set y ((cnt (L.take v) y : Int) + 1)) ++ spp) 3)]) (by first | omega | (dsimp only; omega) | (simp; omega)) ⟨by omega, hnx, by have h := hup (ints (X1.set y ((cnt (L.take v) y : Int) + 1))) (by simp [ints_length]); rw [szs_next hv hy (by omega), ← hX1, List.length_set]; exact h⟩ ?_ ?_ ?_)
    · exact (by repeat (first | exact trivial | refine ⟨rfl, ?_⟩))
    · exact (by repeat (first | exact trivial | refine ⟨rfl, ?_⟩))
    · repeat (first | exact Sub.nil | refine Sub.pick ?_ | refine Sub.castO rfl ?_ | refine Sub.skip ?_)
   ·
    have hyq : L[v] ≠ (q : Int) := by omega
    rw [if_neg hyq] at hnx
    obtain ⟨X1, hX1⟩ : ∃ X1, X1 = szs q (L.take v) := ⟨_, rfl⟩
    have hX1l : X1.length = q := by rw [hX1, szs_len]
    have hO1 : Own 3 1 (.slice Ao q co) X1.length (ints X1) om := by rw [hX1, szs_len]; exact hO
    have hyl : y < X1.length := by omega
    have hXy : X1[y] = (cnt (L.take v) y : Int) := by subst hX1; exact szs_get (by omega)
    obtain ⟨bb, spp, rfl, rfl, hup⟩ := hO1.upd (by omega)
    refine f_skip ?_
    refine f_tn (kh8 _ _ ?_)
    clear kh8
    refine f_region ?_
    refine f_stepP rfl rfl rfl (o_move rfl) ?_
    refine f_stepP rfl rfl rfl (o_move rfl) ?_
    refine f_stepP rfl rfl rfl (o_move rfl) ?_
    refine f_stepP rfl rfl rfl (o_idx sl25 rfl rfl (off + v) ⟨by omega, by omega, by first | omega | (simp; done) | (simp; omega)⟩) ?_
    refine f_stepP rfl rfl rfl (o_load Tryz.isAgg3 rfl (show Rd _ _ _ _ _ (.int .i64 (y : Int)) by rw [← hy]; exact roOne (enc := (.int .i64 ·)) hS hc hv)) ?_
    refine f_stepP rfl rfl rfl (o_idx sl25 rfl rfl (y) ⟨by omega, by omega, by first | omega | (simp; done) | (simp; omega)⟩) ?_
    refine f_stepP rfl rfl rfl (o_load Tryz.isAgg3 rfl (rdA (v := .int .i64 (cnt (L.take v) y : Int)) (app_get (by rw [ints_get hyl, hXy])))) ?_
    refine f_stepP rfl rfl rfl (o_add rfl rfl _ (wrap_i64 (by have := cnt_le (L.take v) y; rw [List.length_take] at this; omega))) ?_
    refine f_stepP rfl rfl rfl (o_idx sl25 rfl rfl (y) ⟨by omega, by omega, by first | omega | (simp; done) | (simp; omega)⟩) ?_
    refine f_step0 rfl rfl (o_store Tryz.sizeOf3 rfl rfl rfl rfl (by rw [List.length_append, ints_length]; omega) (ints (X1.set y ((cnt (L.take v) y : Int) + 1)) ++ spp) (by rw [List.set_append_left _ _ (by rw [ints_length]; exact hyl), ints_setT]) ?_)
    refine f_done ?_
    refine f_bn ?_
    refine f_tn (kh7 _ _ ?_)
    clear kh7
    refine f_region ?_
    refine f_stepP rfl rfl rfl (o_move rfl) ?_
    refine f_stepP rfl rfl rfl (o_add rfl rfl _ (wrap_i64 (by omega))) ?_
    refine f_stepP rfl rfl rfl (o_assign rfl) ?_
    refine f_done ?_
    refine f_tn (f_again (v + 1, q, .slice (some ⟨bb, 0, none⟩) q co, [(bb, blk (ints (X1.set y ((cnt (L.take v) y : Int) + 1)) ++ spp) 3)]) (by first | omega | (dsimp only; omega) | (simp; omega)) ⟨by omega, hnx, by have h := hup (ints (X1.set y ((cnt (L.take v) y : Int) + 1))) (by simp [ints_length]); rw [szs_next hv hy (by omega), ← hX1, List.length_set]; exact h⟩ ?_ ?_ ?_)
    · exact (by repeat (first | exact trivial | refine ⟨rfl, ?_⟩))
    · exact (by repeat (first | exact trivial | refine ⟨rfl, ?_⟩))
    · repeat (first | exact Sub.nil | refine Sub.pick ?_ | refine Sub.castO rfl ?_ | refine Sub.skip ?_)
  ·
   obtain rfl : v = L.length := by omega
   have hdone := hI.done (by omega) (fun x hx => (hrg x hx).1)
   rw [List.take_length, hdone] at hO
   have hlen2 : q = (sizesL L).length := by rw [← hdone, szs_len]
   rw [hlen2] at hO
   refine f_reC 3 rfl (v := .slice Ao (sizesL L).length co) (by rw [hlen2]) ?_
   refine f_exit ?_
   refine f_te ?_
   clear kh5
   refine f_te ?_
   refine f_be ?_
   refine f_tn (kh3 _ _ ?_)
   clear kh3
   refine f_seq fun K10 kh10 => ?_
   refine f_region ?_
   refine f_stepP rfl rfl rfl (o_move rfl) ?_
   refine f_stepP rfl rfl rfl (o_assign rfl) ?_
   refine f_done ?_
   refine f_tn (kh10 _ _ ?_)
   clear kh10
   refine f_ret ?_
   exact f_fin1 [om] Tryz.results73 rfl (by repeat (first | exact Sub.nil | refine Sub.pick ?_ | refine Sub.castO rfl ?_ | refine Sub.skip ?_)) ⟨Ao, co, om, rfl, rfl, hO⟩

set_option maxRecDepth 100000 in
set_option maxHeartbeats 4000000 in
theorem Rgreat_spec (A : Option Addr) (l : List Int) (cap : Nat) (w : World) (hr : Ro (Fr w []) w A (ints l)) (hl : l.length ≤ 1000000) (h0 : 0 < l.length) (hp : ∀ x ∈ l, 0 ≤ x) :
    Meets Tryz.prog 72 [.slice A l.length cap] w [] (fun u m => u = .int .i64 (maxL l) ∧ m = []) := by
 refine f_enter Tryz.func72 rfl Tryz.ntmps72 rfl Owns.nil ?_
 refine f_seq fun K1 kh1 => ?_
 refine f_region ?_
 refine f_stepP rfl rfl rfl (o_assign rfl) ?_
 refine f_done ?_
 refine f_tn (kh1 _ _ ?_)
 clear kh1
 refine f_seq fun K2 kh2 => ?_
 refine f_region ?_
 refine f_stepP rfl rfl rfl (o_assign rfl) ?_
 refine f_done ?_
 refine f_tn (kh2 _ _ ?_)
 clear kh2
 refine f_seq fun K3 kh3 => ?_
 refine f_seq fun K4 kh4 => ?_
 refine f_region ?_
 refine f_stepP rfl rfl rfl (o_assign rfl) ?_
 refine f_done ?_
 refine f_tn (kh4 _ _ ?_)
 clear kh4
 refine f_block ?_
 refine f_loop (α := Nat) [0] (fun k => [(4, .int .i64 (k : Int)), (3, .int .i64 ((l.take k).foldl max 0))]) (fun k => []) (fun k => k ≤ l.length) (fun k => l.length - k) (0) ?_ ?_ ?_ ?_
 · exact (by repeat (first | exact trivial | refine ⟨rfl, ?_⟩))
 · repeat (first | exact Sub.nil | refine Sub.pick ?_ | refine Sub.castO rfl ?_ | refine Sub.skip ?_)
 · exact Nat.zero_le _
 ·
  rintro k hkl
  refine f_seq fun K5 kh5 => ?_
  refine f_seq fun K6 kh6 => ?_
  refine f_region ?_
  refine f_stepP rfl rfl rfl (o_move rfl) ?_
  refine f_stepP rfl rfl rfl (o_move rfl) ?_
  refine f_stepP rfl rfl rfl (o_len sl25 rfl) ?_
  refine f_stepP rfl rfl rfl (o_lss rfl rfl) ?_
  refine f_done ?_
  refine f_tn (kh6 _ _ ?_)
  clear kh6
  refine f_cond rfl (fun c8 => ?_) (fun c8 => ?_)
  ·
   refine f_skip ?_
   refine f_tn (kh5 _ _ ?_)
   clear kh5
   refine f_seq fun K7 kh7 => ?_
   refine f_block ?_
   refine f_region ?_
   refine f_stepP rfl rfl rfl (o_move rfl) ?_
   refine f_stepP rfl rfl rfl (o_move rfl) ?_
   refine f_stepP rfl rfl rfl (o_move rfl) ?_
   have hk : k < l.length := by omega
   obtain ⟨b, o, rfl, hS, hc⟩ := hr (map_ne hk)
   refine f_stepP rfl rfl rfl (o_idx sl25 rfl rfl (o + k) ⟨by omega, by omega, by first | omega | (simp; done) | (simp; omega)⟩) ?_
   refine f_stepP rfl rfl rfl (o_load Tryz.isAgg3 rfl (roOne (enc := (.int .i64 ·)) hS hc hk)) ?_
   refine f_stepP rfl rfl rfl (o_max rfl rfl) ?_
   refine f_stepP rfl rfl rfl (o_assign rfl) ?_
   refine f_done ?_
   refine f_bn ?_
   refine f_tn (kh7 _ _ ?_)
   clear kh7
   refine f_region ?_
   refine f_stepP rfl rfl rfl (o_move rfl) ?_
   refine f_stepP rfl rfl rfl (o_add rfl rfl _ (wrap_i64 (by omega))) ?_
   refine f_stepP rfl rfl rfl (o_assign rfl) ?_
   refine f_done ?_
   refine f_reQ 3 rfl (v := .int .i64 ((l.take (k + 1)).foldl max 0)) (by rw [foldT_next hk]) ?_
   refine f_tn (f_again (k + 1) (by first | omega | (dsimp only; omega) | (simp; omega)) (by omega) ?_ ?_ ?_)
   · exact (by repeat (first | exact trivial | refine ⟨rfl, ?_⟩))
   · exact (by repeat (first | exact trivial | refine ⟨rfl, ?_⟩))
   · repeat (first | exact Sub.nil | refine Sub.pick ?_ | refine Sub.castO rfl ?_ | refine Sub.skip ?_)
  ·
   refine f_exit ?_
   refine f_te ?_
   clear kh5
   refine f_te ?_
   refine f_be ?_
   refine f_tn (kh3 _ _ ?_)
   clear kh3
   refine f_seq fun K8 kh8 => ?_
   refine f_region ?_
   refine f_stepP rfl rfl rfl (o_move rfl) ?_
   refine f_stepP rfl rfl rfl (o_assign rfl) ?_
   refine f_done ?_
   refine f_tn (kh8 _ _ ?_)
   clear kh8
   refine f_ret ?_
   obtain rfl : k = l.length := by omega
   exact f_fin1 [] Tryz.results72 rfl Sub.nil ⟨by rw [List.take_length, maxL_zeroT h0 hp], rfl⟩

set_option maxRecDepth 100000 in
set_option maxHeartbeats 4000000 in
theorem Rnested_spec (B C : Option Addr) (b a : List Int) (cb ca la : Nat) (w : World) (hb : Ro (Fr w []) w B (ints b)) (ha : Ro (Fr w []) w C (ints a)) (hla : a.length = la) (hl : a.length = b.length) (hm : b.length ≤ 1024) :
    Meets Tryz.prog 74 [.slice B b.length cb, .slice C la ca] w [] (fun u m => u = .bool (decide (withinP b a)) ∧ m = []) := by
 subst hla
 refine f_enter Tryz.func74 rfl Tryz.ntmps74 rfl Owns.nil ?_
 refine f_seq fun K1 kh1 => ?_
 refine f_region ?_
 refine f_stepP rfl rfl rfl (o_assign rfl) ?_
 refine f_done ?_
 refine f_tn (kh1 _ _ ?_)
 clear kh1
 refine f_seq fun K2 kh2 => ?_
 refine f_seq fun K3 kh3 => ?_
 refine f_region ?_
 refine f_stepP rfl rfl rfl (o_assign rfl) ?_
 refine f_done ?_
 refine f_tn (kh3 _ _ ?_)
 clear kh3
 refine f_block ?_
 refine f_loop (α := Nat) [0, 1] (fun v => [(5, .int .i64 (v : Int))]) (fun v => []) (fun v => v ≤ b.length ∧ ∀ v', v' < v → ∀ u, u < v' → b.getD u 0 = b.getD v' 0 → a.getD u 0 = a.getD v' 0) (fun v => b.length - v) (0) ?_ ?_ ?_ ?_
 · exact (by repeat (first | exact trivial | refine ⟨rfl, ?_⟩))
 · repeat (first | exact Sub.nil | refine Sub.pick ?_ | refine Sub.castO rfl ?_ | refine Sub.skip ?_)
 · exact ⟨Nat.zero_le _, fun v' h => by omega⟩
 ·
  rintro v ⟨hvl, hall⟩
  refine f_seq fun K4 kh4 => ?_
  refine f_seq fun K5 kh5 => ?_
  refine f_region ?_
  refine f_stepP rfl rfl rfl (o_move rfl) ?_
  refine f_stepP rfl rfl rfl (o_move rfl) ?_
  refine f_stepP rfl rfl rfl (o_len sl25 rfl) ?_
  refine f_stepP rfl rfl rfl (o_lss rfl rfl) ?_
  refine f_done ?_
  refine f_tn (kh5 _ _ ?_)
  clear kh5
  refine f_cond rfl (fun c10 => ?_) (fun c10 => ?_)
  ·
   have hv : v < b.length := by omega
   have hva : v < a.length := by omega
   obtain ⟨b1, o1, rfl, hS1, hc1⟩ := hb (fun e => by have := ints_length b; rw [e] at this; simp at this; omega)
   obtain ⟨b2, o2, rfl, hS2, hc2⟩ := ha (fun e => by have := ints_length a; rw [e] at this; simp at this; omega)
   refine f_skip ?_
   refine f_tn (kh4 _ _ ?_)
   clear kh4
   refine f_seq fun K6 kh6 => ?_
   refine f_block ?_
   refine f_seq fun K7 kh7 => ?_
   refine f_region ?_
   refine f_stepP rfl rfl rfl (o_assign rfl) ?_
   refine f_done ?_
   refine f_tn (kh7 _ _ ?_)
   clear kh7
   refine f_block ?_
   refine f_loop (α := Nat) [0, 1, 5] (fun u => [(6, .int .i64 (u : Int))]) (fun u => []) (fun u => u ≤ v ∧ ∀ u', u' < u → b.getD u' 0 = b.getD v 0 → a.getD u' 0 = a.getD v 0) (fun u => v - u) (0) ?_ ?_ ?_ ?_
   · exact (by repeat (first | exact trivial | refine ⟨rfl, ?_⟩))
   · repeat (first | exact Sub.nil | refine Sub.pick ?_ | refine Sub.castO rfl ?_ | refine Sub.skip ?_)
   · exact ⟨Nat.zero_le _, fun u' h => by omega⟩
   ·
    rintro u ⟨hul, hin⟩
    refine f_envC (e := [(6, _), (0, _), (1, _), (5, _)]) (by repeat (first | exact trivial | refine ⟨rfl, ?_⟩)) ?_
    refine f_seq fun K8 kh8 => ?_
    refine f_seq fun K9 kh9 => ?_
    refine f_region ?_
    refine f_stepP rfl rfl rfl (o_move rfl) ?_
    refine f_stepP rfl rfl rfl (o_move rfl) ?_
    refine f_stepP rfl rfl rfl (o_lss rfl rfl) ?_
    refine f_done ?_
    refine f_tn (kh9 _ _ ?_)
    clear kh9
    refine f_cond rfl (fun c15 => ?_) (fun c15 => ?_)
    ·
     have hu : u < b.length := by omega
     have hua : u < a.length := by omega
     refine f_skip ?_
     refine f_tn (kh8 _ _ ?_)
     clear kh8
     refine f_seq fun K10 kh10 => ?_
     refine f_block ?_
     refine f_seq fun K11 kh11 => ?_
     refine f_regionS rfl (by decide +kernel) ?_
     refine f_stillP rfl rfl rfl (o_move rfl) ?_
     refine f_stillP rfl rfl rfl (o_move rfl) ?_
     refine f_stillP rfl rfl rfl (o_idx sl25 rfl rfl (o1 + u) ⟨by omega, by omega, by first | omega | (simp; done) | (simp; omega)⟩) ?_
     refine f_stillP rfl rfl rfl (o_load Tryz.isAgg3 rfl (roOne (enc := (.int .i64 ·)) hS1 hc1 hu)) ?_
     refine f_stillP rfl rfl rfl (o_move rfl) ?_
     refine f_stillP rfl rfl rfl (o_move rfl) ?_
     refine f_stillP rfl rfl rfl (o_idx sl25 rfl rfl (o1 + v) ⟨by omega, by omega, by first | omega | (simp; done) | (simp; omega)⟩) ?_
     refine f_stillP rfl rfl rfl (o_load Tryz.isAgg3 rfl (roOne (enc := (.int .i64 ·)) hS1 hc1 hv)) ?_
     refine f_stillP rfl rfl rfl (o_eql rfl rfl) ?_
     refine f_stillP rfl rfl rfl (o_move rfl) ?_
     refine f_splitS 27 rfl (fun g27 => ?_) (fun g27 => ?_)
     ·
      refine f_stillPY rfl rfl rfl rfl rfl (o_move rfl) ?_
      refine f_stillPY rfl rfl rfl rfl rfl (o_move rfl) ?_
      refine f_stillPY rfl rfl rfl rfl rfl (o_idx sl25 rfl rfl (o2 + u) ⟨by omega, by omega, by first | omega | (simp; done) | (simp; omega)⟩) ?_
      refine f_stillPY rfl rfl rfl rfl rfl (o_load Tryz.isAgg3 rfl (roOne (enc := (.int .i64 ·)) hS2 hc2 hua)) ?_
      refine f_stillPY rfl rfl rfl rfl rfl (o_move rfl) ?_
      refine f_stillPY rfl rfl rfl rfl rfl (o_move rfl) ?_
      refine f_stillPY rfl rfl rfl rfl rfl (o_idx sl25 rfl rfl (o2 + v) ⟨by omega, by omega, by first | omega | (simp; done) | (simp; omega)⟩) ?_
      refine f_stillPY rfl rfl rfl rfl rfl (o_load Tryz.isAgg3 rfl (roOne (enc := (.int .i64 ·)) hS2 hc2 hva)) ?_
      refine f_stillPY rfl rfl rfl rfl rfl (o_neq rfl rfl) ?_
      refine f_stillP rfl rfl rfl (o_pickT rfl rfl) ?_
      refine f_stillD ?_
      refine f_tn (kh11 _ _ ?_)
      clear kh11
      refine f_cond rfl (fun c37 => ?_) (fun c37 => ?_)
      ·
       refine f_seq fun K12 kh12 => ?_
       refine f_region ?_
       refine f_stepP rfl rfl rfl (o_assign rfl) ?_
       refine f_done ?_
       refine f_tn (kh12 _ _ ?_)
       clear kh12
       refine f_ret ?_
       refine f_br ?_
       refine f_tr ?_
       refine f_tr ?_
       refine f_br ?_
       refine f_br ?_
       refine f_tr ?_
       refine f_tr ?_
       refine f_br ?_
       refine f_tr ?_
       exact f_fin1 [] Tryz.results74 rfl Sub.nil ⟨by rw [decide_eq_false]; intro h; have := h u hu v hv (by rw [getDT hu, getDT hv]; exact g27); rw [getDT hua, getDT hva] at this; exact c37 this, rfl⟩
      ·
       refine f_skip ?_
       refine f_bn ?_
       refine f_tn (kh10 _ _ ?_)
       clear kh10
       refine f_region ?_
       refine f_stepP rfl rfl rfl (o_move rfl) ?_
       refine f_stepP rfl rfl rfl (o_add rfl rfl _ (wrap_i64 (by omega))) ?_
       refine f_stepP rfl rfl rfl (o_assign rfl) ?_
       refine f_done ?_
       refine f_tn (f_again (u + 1) (by first | omega | (dsimp only; omega) | (simp; omega)) ⟨by omega, fun u' hu' e => by
         by_cases e2 : u' = u
         · subst e2; rw [getDT hua, getDT hva]; simpa using c37
         · exact hin u' (by omega) e⟩ ?_ ?_ ?_)
       · exact (by repeat (first | exact trivial | refine ⟨rfl, ?_⟩))
       · exact (by repeat (first | exact trivial | refine ⟨rfl, ?_⟩))
       · repeat (first | exact Sub.nil | refine Sub.pick ?_ | refine Sub.castO rfl ?_ | refine Sub.skip ?_)
     ·
      refine f_stillN rfl rfl rfl rfl rfl rfl ?_
      refine f_stillN rfl rfl rfl rfl rfl rfl ?_
      refine f_stillN rfl rfl rfl rfl rfl rfl ?_
      refine f_stillN rfl rfl rfl rfl rfl rfl ?_
      refine f_stillN rfl rfl rfl rfl rfl rfl ?_
      refine f_stillN rfl rfl rfl rfl rfl rfl ?_
      refine f_stillN rfl rfl rfl rfl rfl rfl ?_
      refine f_stillN rfl rfl rfl rfl rfl rfl ?_
      refine f_stillN rfl rfl rfl rfl rfl rfl ?_
      refine f_stillP rfl rfl rfl (o_pickF rfl rfl) ?_
      refine f_stillD ?_
      refine f_tn (kh11 _ _ ?_)
      clear kh11
      refine f_condF rfl ?_
      refine f_skip ?_
      refine f_bn ?_
      refine f_tn (kh10 _ _ ?_)
      clear kh10
      refine f_region ?_
      refine f_stepP rfl rfl rfl (o_move rfl) ?_
      refine f_stepP rfl rfl rfl (o_add rfl rfl _ (wrap_i64 (by omega))) ?_
      refine f_stepP rfl rfl rfl (o_assign rfl) ?_
      refine f_done ?_
      refine f_tn (f_again (u + 1) (by first | omega | (dsimp only; omega) | (simp; omega)) ⟨by omega, fun u' hu' e => by
        by_cases e2 : u' = u
        · subst e2; rw [getDT hu, getDT hv] at e; exact absurd e g27
        · exact hin u' (by omega) e⟩ ?_ ?_ ?_)
      · exact (by repeat (first | exact trivial | refine ⟨rfl, ?_⟩))
      · exact (by repeat (first | exact trivial | refine ⟨rfl, ?_⟩))
      · repeat (first | exact Sub.nil | refine Sub.pick ?_ | refine Sub.castO rfl ?_ | refine Sub.skip ?_)
    ·
     obtain rfl : v = u := by omega
     refine f_exit ?_
     refine f_te ?_
     clear kh8
     refine f_te ?_
     refine f_be ?_
     refine f_bn ?_
     refine f_tn (kh6 _ _ ?_)
     clear kh6
     refine f_region ?_
     refine f_stepP rfl rfl rfl (o_move rfl) ?_
     refine f_stepP rfl rfl rfl (o_add rfl rfl _ (wrap_i64 (by omega))) ?_
     refine f_stepP rfl rfl rfl (o_assign rfl) ?_
     refine f_done ?_
     refine f_tn (f_again (v + 1) (by first | omega | (dsimp only; omega) | (simp; omega)) ⟨by omega, fun v' hv' u' hu' e => by
       by_cases e2 : v' = v
       · subst e2; exact hin u' hu' e
       · exact hall v' (by omega) u' hu' e⟩ ?_ ?_ ?_)
     · exact (by repeat (first | exact trivial | refine ⟨rfl, ?_⟩))
     · exact (by repeat (first | exact trivial | refine ⟨rfl, ?_⟩))
     · repeat (first | exact Sub.nil | refine Sub.pick ?_ | refine Sub.castO rfl ?_ | refine Sub.skip ?_)
  ·
   obtain rfl : v = b.length := by omega
   refine f_exit ?_
   refine f_te ?_
   clear kh4
   refine f_te ?_
   refine f_be ?_
   refine f_tn (kh2 _ _ ?_)
   clear kh2
   refine f_seq fun K13 kh13 => ?_
   refine f_region ?_
   refine f_stepP rfl rfl rfl (o_assign rfl) ?_
   refine f_done ?_
   refine f_tn (kh13 _ _ ?_)
   clear kh13
   refine f_ret ?_
   exact f_fin1 [] Tryz.results74 rfl Sub.nil ⟨by rw [decide_eq_true (withinT hall)], rfl⟩

end Go.Proofs.YtkmkakpadgljeaaGreat
