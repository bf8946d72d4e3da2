/- flyoverlaw12: large, has, works. -/
import Derived.Test.YtkmkakpadgljeaaFCellS
import Derived.Test.YtkmkakpadgljeaaFBook
namespace Go.Proofs.Ytkmkakpadgljeaa
open Go Go.RowKit Fly
set_option linter.unusedVariables false
set_option linter.unusedSimpArgs false


def wg12 : List Arc := [⟨0, 1, 0⟩, ⟨1, 2, 0⟩, ⟨0, 2, 0⟩]
theorem wg12Ok : ∀ x ∈ wg12, ArcOk x := by
  intro x hx
  simp only [wg12, List.mem_cons, List.not_mem_nil, or_false] at hx
  rcases hx with rfl | rfl | rfl <;> exact ⟨⟨by decide, by decide⟩, ⟨by decide, by decide⟩, by decide⟩
theorem w12Nest : NestOk 3 wg12 [2] [[0, 0, 1]] := by
  refine ⟨by decide, by decide, rfl, fun k hk => ?_⟩
  obtain rfl : k = 0 := by simp at hk; omega
  decide +kernel
theorem w12Cell : clE 3 wg12 [2] [[0, 0, 1]] 1 0 = 0 := clE_ok (n := 3) w12Nest (k := 0) (by decide) ⟨by decide, by decide⟩
theorem w12Lk : lkE 3 wg12 [2] [[0, 0, 1]] 1 = 0 := lkE_ok (n := 3) w12Nest (k := 0) (by decide)
theorem w12Bd : bdL [0, 0, 1] 0 wg12 = [0, 1] := rising_eq (R := fun a b : Int => a < b) (fun a b c h1 h2 => by omega) (fun a b h e => by omega) (bdL_rising _ _ _) (by decide) fun v => by
  rw [bdL_mem]
  constructor
  · rintro ⟨a, ha, hv⟩
    rw [show wg12 = [⟨0, 1, 0⟩, ⟨1, 2, 0⟩, ⟨0, 2, 0⟩] from rfl] at ha
    simp only [List.mem_cons, List.not_mem_nil, or_false] at ha
    rcases ha with rfl | rfl | rfl
    · rw [show bdOf [0, 0, 1] 0 ⟨0, 1, 0⟩ = [] from rfl] at hv; cases hv
    · rw [show bdOf [0, 0, 1] 0 ⟨1, 2, 0⟩ = [1] from rfl] at hv; simp at hv; subst hv; decide
    · rw [show bdOf [0, 0, 1] 0 ⟨0, 2, 0⟩ = [0] from rfl] at hv; simp at hv; subst hv; decide
  · intro hv
    simp only [List.mem_cons, List.not_mem_nil, or_false] at hv
    rcases hv with rfl | rfl
    · exact ⟨⟨0, 2, 0⟩, by decide, by decide⟩
    · exact ⟨⟨1, 2, 0⟩, by decide, by decide⟩
theorem w12Out : idxs (unP [0, 0, 1]) wg12 = [1, 2] := by decide

set_option maxRecDepth 100000 in
set_option maxHeartbeats 4000000 in
theorem RCheckC_spec (N : Int) (A : Option Addr) (l : List Arc) (cap : Nat) (w : World) (hr : Ro (Fr w []) w A (l.flatMap arcCs)) (hl : l.length ≤ 9223372036854775807) (hN : I64 N) (hok : ∀ x ∈ l, ArcOk x) :
    Meets Try.prog 27 [.agg #[.int .i64 N, .slice A l.length cap]] w [] (fun v m => v = .tuple #[.int .i64 (gcheck N l).1, .int .i64 (gcheck N l).2] ∧ m = []) := by
 refine f_enter Try.func27 rfl Try.ntmps27 rfl Owns.nil ?_
 refine f_seq fun K1 kh1 => ?_
 refine f_region ?_
 refine f_step rfl rfl rfl (o_box rfl rfl fun b1 => ?_)
 refine f_stepP rfl rfl rfl (o_assign rfl) ?_
 refine f_stepP rfl rfl rfl (o_assign rfl) ?_
 refine f_done ?_
 refine f_tn (kh1 _ _ ?_)
 clear kh1
 refine f_seq fun K2 kh2 => ?_
 refine f_seq fun K3 kh3 => ?_
 refine f_region ?_
 refine f_stepP rfl rfl rfl (o_field fa24_0 rfl) ?_
 refine f_stepP rfl rfl rfl (o_load Try.isAgg3 rfl (rdA rfl)) ?_
 refine f_stepP rfl rfl rfl (o_lss rfl rfl) ?_
 refine f_stepP rfl rfl rfl (o_move rfl) ?_
 refine f_splitL 9 rfl (fun g9 => ?_) (fun g9 => ?_)
 ·
  refine f_stepN rfl rfl rfl rfl rfl rfl ?_
  refine f_stepN rfl rfl rfl rfl rfl rfl ?_
  refine f_stepN rfl rfl rfl rfl rfl rfl ?_
  refine f_stepP rfl rfl rfl (o_pickT rfl rfl) ?_
  refine f_done ?_
  refine f_tn (kh3 _ _ ?_)
  clear kh3
  refine f_condT rfl ?_
  refine f_seq fun K4 kh4 => ?_
  refine f_region ?_
  refine f_stepP rfl rfl rfl (o_assign rfl) ?_
  refine f_stepP rfl rfl rfl (o_assign rfl) ?_
  refine f_done ?_
  refine f_tn (kh4 _ _ ?_)
  clear kh4
  refine f_ret ?_
  refine f_tr ?_
  exact f_fin2 [] Try.results27 rfl rfl Sub.nil ⟨by rw [gcheck_range (by omega)], rfl⟩
 ·
  refine f_stepPY rfl rfl rfl rfl rfl (o_field fa24_0 rfl) ?_
  refine f_stepPY rfl rfl rfl rfl rfl (o_load Try.isAgg3 rfl (rdA rfl)) ?_
  refine f_stepPY rfl rfl rfl rfl rfl (o_gtr rfl rfl) ?_
  refine f_stepP rfl rfl rfl (o_pickF rfl rfl) ?_
  refine f_done ?_
  refine f_tn (kh3 _ _ ?_)
  clear kh3
  refine f_cond rfl (fun c13 => ?_) (fun c13 => ?_)
  ·
   refine f_seq fun K5 kh5 => ?_
   refine f_region ?_
   refine f_stepP rfl rfl rfl (o_assign rfl) ?_
   refine f_stepP rfl rfl rfl (o_assign rfl) ?_
   refine f_done ?_
   refine f_tn (kh5 _ _ ?_)
   clear kh5
   refine f_ret ?_
   refine f_tr ?_
   exact f_fin2 [] Try.results27 rfl rfl Sub.nil ⟨by rw [gcheck_range (by omega)], rfl⟩
  ·
   have hN1 : 1 ≤ N ∧ N ≤ 1024 := by omega
   refine f_skip ?_
   refine f_tn (kh2 _ _ ?_)
   clear kh2
   refine f_seq fun K6 kh6 => ?_
   refine f_seq fun K7 kh7 => ?_
   refine f_region ?_
   refine f_stepP rfl rfl rfl (o_field fa24_1 rfl) ?_
   refine f_stepP rfl rfl rfl (o_load Try.isAgg22 rfl (rdA rfl)) ?_
   refine f_stepP rfl rfl rfl (o_len sl22 rfl) ?_
   refine f_stepP rfl rfl rfl (o_gtr rfl rfl) ?_
   refine f_done ?_
   refine f_tn (kh7 _ _ ?_)
   clear kh7
   refine f_cond rfl (fun c17 => ?_) (fun c17 => ?_)
   ·
    refine f_seq fun K8 kh8 => ?_
    refine f_region ?_
    refine f_stepP rfl rfl rfl (o_assign rfl) ?_
    refine f_stepP rfl rfl rfl (o_assign rfl) ?_
    refine f_done ?_
    refine f_tn (kh8 _ _ ?_)
    clear kh8
    refine f_ret ?_
    refine f_tr ?_
    exact f_fin2 [] Try.results27 rfl rfl Sub.nil ⟨by rw [gcheck_long hN1 (by omega)], rfl⟩
   ·
    refine f_skip ?_
    refine f_tn (kh6 _ _ ?_)
    clear kh6
    refine f_seq fun K9 kh9 => ?_
    refine f_seq fun K10 kh10 => ?_
    refine f_region ?_
    refine f_stepP rfl rfl rfl (o_assign rfl) ?_
    refine f_done ?_
    refine f_tn (kh10 _ _ ?_)
    clear kh10
    refine f_block ?_
    refine f_loop (α := Nat) [1] (fun k => [(4, .int .i64 (k : Int))]) (fun k => [[(b1, blk [.int .i64 N, .slice A l.length cap] 24)]]) (fun k => k ≤ l.length ∧ ∀ j (h : j < l.length), j < k → arcBad N l[j] = false) (fun k => l.length - k) (0) ?_ ?_ ?_ ?_
    · exact (by repeat (first | exact trivial | refine ⟨rfl, ?_⟩))
    · repeat (first | exact Sub.nil | refine Sub.pick ?_ | refine Sub.castO rfl ?_ | refine Sub.skip ?_)
    · exact ⟨by omega, fun j h hj => by omega⟩
    ·
     rintro k ⟨hkl, hall⟩
     refine f_seq fun K11 kh11 => ?_
     refine f_seq fun K12 kh12 => ?_
     refine f_region ?_
     refine f_stepP rfl rfl rfl (o_move rfl) ?_
     refine f_stepP rfl rfl rfl (o_field fa24_1 rfl) ?_
     refine f_stepP rfl rfl rfl (o_load Try.isAgg22 rfl (rdA rfl)) ?_
     refine f_stepP rfl rfl rfl (o_len sl22 rfl) ?_
     refine f_stepP rfl rfl rfl (o_lss rfl rfl) ?_
     refine f_done ?_
     refine f_tn (kh12 _ _ ?_)
     clear kh12
     refine f_cond rfl (fun c22 => ?_) (fun c22 => ?_)
     ·
      refine f_skip ?_
      refine f_tn (kh11 _ _ ?_)
      clear kh11
      refine f_seq fun K13 kh13 => ?_
      refine f_block ?_
      refine f_seq fun K14 kh14 => ?_
      refine f_region ?_
      refine f_stepP rfl rfl rfl (o_field fa24_1 rfl) ?_
      refine f_stepP rfl rfl rfl (o_load Try.isAgg22 rfl (rdA rfl)) ?_
      refine f_stepP rfl rfl rfl (o_move rfl) ?_
      have hk : k < l.length := by omega
      obtain ⟨b, off, rfl, hS, hc⟩ := hr (flat_ne arcCs arcCs_len (by omega) hk)
      refine f_stepP rfl rfl rfl (o_idx sl22 rfl rfl (off + k * 3) ⟨by omega, by omega, by first | omega | (simp; done) | (simp; omega)⟩) ?_
      refine f_stepP rfl rfl rfl (o_loadA (vs := arcCs l[k]) Try.isAgg39 Try.sizeOf39 rfl rfl (roElem arcCs_len hS hc hk)) ?_
      refine f_step rfl rfl rfl (o_alloc Try.zeroValue39 rfl fun b5 => ?_)
      refine f_step0 rfl rfl (o_storeA Try.sizeOf39 rfl rfl rfl rfl (by first | exact Nat.le_of_ble_eq_true rfl | (simp; done) | (simp; omega)) (arcCs l[k]) rfl ?_)
      refine f_done ?_
      refine f_tn (kh14 _ _ ?_)
      clear kh14
      refine f_seq fun K15 kh15 => ?_
      refine f_region ?_
      refine f_stepP rfl rfl rfl (o_field fa39_0 rfl) ?_
      refine f_stepP rfl rfl rfl (o_load Try.isAgg3 rfl (rdA rfl)) ?_
      refine f_stepP rfl rfl rfl (o_lss rfl rfl) ?_
      refine f_stepP rfl rfl rfl (o_move rfl) ?_
      refine f_splitL 33 rfl (fun g33 => ?_) (fun g33 => ?_)
      ·
       refine f_stepN rfl rfl rfl rfl rfl rfl ?_
       refine f_stepN rfl rfl rfl rfl rfl rfl ?_
       refine f_stepN rfl rfl rfl rfl rfl rfl ?_
       refine f_stepN rfl rfl rfl rfl rfl rfl ?_
       refine f_stepN rfl rfl rfl rfl rfl rfl ?_
       refine f_stepP rfl rfl rfl (o_pickT rfl rfl) ?_
       refine f_stepP rfl rfl rfl (o_move rfl) ?_
       refine f_stepN rfl rfl rfl rfl rfl rfl ?_
       refine f_stepN rfl rfl rfl rfl rfl rfl ?_
       refine f_stepN rfl rfl rfl rfl rfl rfl ?_
       refine f_stepP rfl rfl rfl (o_pickT rfl rfl) ?_
       refine f_stepP rfl rfl rfl (o_move rfl) ?_
       refine f_stepN rfl rfl rfl rfl rfl rfl ?_
       refine f_stepN rfl rfl rfl rfl rfl rfl ?_
       refine f_stepN rfl rfl rfl rfl rfl rfl ?_
       refine f_stepN rfl rfl rfl rfl rfl rfl ?_
       refine f_stepN rfl rfl rfl rfl rfl rfl ?_
       refine f_stepP rfl rfl rfl (o_pickT rfl rfl) ?_
       refine f_done ?_
       refine f_tn (kh15 _ _ ?_)
       clear kh15
       refine f_condT rfl ?_
       refine f_seq fun K16 kh16 => ?_
       refine f_region ?_
       refine f_stepP rfl rfl rfl (o_move rfl) ?_
       refine f_stepP rfl rfl rfl (o_assign rfl) ?_
       refine f_stepP rfl rfl rfl (o_assign rfl) ?_
       refine f_done ?_
       refine f_tn (kh16 _ _ ?_)
       clear kh16
       refine f_ret ?_
       refine f_br ?_
       refine f_tr ?_
       refine f_tr ?_
       refine f_br ?_
       refine f_tr ?_
       exact f_fin2 [] Try.results27 rfl rfl Sub.nil ⟨by rw [gcheck_bad hN1 (by omega) hk hall (by unfold arcBad; simp; omega)], rfl⟩
      ·
       refine f_stepPY rfl rfl rfl rfl rfl (o_field fa39_0 rfl) ?_
       refine f_stepPY rfl rfl rfl rfl rfl (o_load Try.isAgg3 rfl (rdA rfl)) ?_
       refine f_stepPY rfl rfl rfl rfl rfl (o_field fa24_0 rfl) ?_
       refine f_stepPY rfl rfl rfl rfl rfl (o_load Try.isAgg3 rfl (rdA rfl)) ?_
       refine f_stepPY rfl rfl rfl rfl rfl (o_geq rfl rfl) ?_
       refine f_stepP rfl rfl rfl (o_pickF rfl rfl) ?_
       refine f_stepP rfl rfl rfl (o_move rfl) ?_
       refine f_splitL 40 rfl (fun g40 => ?_) (fun g40 => ?_)
       ·
        refine f_stepN rfl rfl rfl rfl rfl rfl ?_
        refine f_stepN rfl rfl rfl rfl rfl rfl ?_
        refine f_stepN rfl rfl rfl rfl rfl rfl ?_
        refine f_stepP rfl rfl rfl (o_pickT rfl rfl) ?_
        refine f_stepP rfl rfl rfl (o_move rfl) ?_
        refine f_stepN rfl rfl rfl rfl rfl rfl ?_
        refine f_stepN rfl rfl rfl rfl rfl rfl ?_
        refine f_stepN rfl rfl rfl rfl rfl rfl ?_
        refine f_stepN rfl rfl rfl rfl rfl rfl ?_
        refine f_stepN rfl rfl rfl rfl rfl rfl ?_
        refine f_stepP rfl rfl rfl (o_pickT rfl rfl) ?_
        refine f_done ?_
        refine f_tn (kh15 _ _ ?_)
        clear kh15
        refine f_condT rfl ?_
        refine f_seq fun K17 kh17 => ?_
        refine f_region ?_
        refine f_stepP rfl rfl rfl (o_move rfl) ?_
        refine f_stepP rfl rfl rfl (o_assign rfl) ?_
        refine f_stepP rfl rfl rfl (o_assign rfl) ?_
        refine f_done ?_
        refine f_tn (kh17 _ _ ?_)
        clear kh17
        refine f_ret ?_
        refine f_br ?_
        refine f_tr ?_
        refine f_tr ?_
        refine f_br ?_
        refine f_tr ?_
        exact f_fin2 [] Try.results27 rfl rfl Sub.nil ⟨by rw [gcheck_bad hN1 (by omega) hk hall (by unfold arcBad; simp; omega)], rfl⟩
       ·
        refine f_stepPY rfl rfl rfl rfl rfl (o_field fa39_1 rfl) ?_
        refine f_stepPY rfl rfl rfl rfl rfl (o_load Try.isAgg3 rfl (rdA rfl)) ?_
        refine f_stepPY rfl rfl rfl rfl rfl (o_lss rfl rfl) ?_
        refine f_stepP rfl rfl rfl (o_pickF rfl rfl) ?_
        refine f_stepP rfl rfl rfl (o_move rfl) ?_
        refine f_splitL 45 rfl (fun g45 => ?_) (fun g45 => ?_)
        ·
         refine f_stepN rfl rfl rfl rfl rfl rfl ?_
         refine f_stepN rfl rfl rfl rfl rfl rfl ?_
         refine f_stepN rfl rfl rfl rfl rfl rfl ?_
         refine f_stepN rfl rfl rfl rfl rfl rfl ?_
         refine f_stepN rfl rfl rfl rfl rfl rfl ?_
         refine f_stepP rfl rfl rfl (o_pickT rfl rfl) ?_
         refine f_done ?_
         refine f_tn (kh15 _ _ ?_)
         clear kh15
         refine f_condT rfl ?_
         refine f_seq fun K18 kh18 => ?_
         refine f_region ?_
         refine f_stepP rfl rfl rfl (o_move rfl) ?_
         refine f_stepP rfl rfl rfl (o_assign rfl) ?_
         refine f_stepP rfl rfl rfl (o_assign rfl) ?_
         refine f_done ?_
         refine f_tn (kh18 _ _ ?_)
         clear kh18
         refine f_ret ?_
         refine f_br ?_
         refine f_tr ?_
         refine f_tr ?_
         refine f_br ?_
         refine f_tr ?_
         exact f_fin2 [] Try.results27 rfl rfl Sub.nil ⟨by rw [gcheck_bad hN1 (by omega) hk hall (by unfold arcBad; simp; omega)], rfl⟩
        ·
         refine f_stepPY rfl rfl rfl rfl rfl (o_field fa39_1 rfl) ?_
         refine f_stepPY rfl rfl rfl rfl rfl (o_load Try.isAgg3 rfl (rdA rfl)) ?_
         refine f_stepPY rfl rfl rfl rfl rfl (o_field fa24_0 rfl) ?_
         refine f_stepPY rfl rfl rfl rfl rfl (o_load Try.isAgg3 rfl (rdA rfl)) ?_
         refine f_stepPY rfl rfl rfl rfl rfl (o_geq rfl rfl) ?_
         refine f_stepP rfl rfl rfl (o_pickF rfl rfl) ?_
         refine f_done ?_
         refine f_tn (kh15 _ _ ?_)
         clear kh15
         refine f_cond rfl (fun c51 => ?_) (fun c51 => ?_)
         ·
          refine f_seq fun K19 kh19 => ?_
          refine f_region ?_
          refine f_stepP rfl rfl rfl (o_move rfl) ?_
          refine f_stepP rfl rfl rfl (o_assign rfl) ?_
          refine f_stepP rfl rfl rfl (o_assign rfl) ?_
          refine f_done ?_
          refine f_tn (kh19 _ _ ?_)
          clear kh19
          refine f_ret ?_
          refine f_br ?_
          refine f_tr ?_
          refine f_tr ?_
          refine f_br ?_
          refine f_tr ?_
          exact f_fin2 [] Try.results27 rfl rfl Sub.nil ⟨by rw [gcheck_bad hN1 (by omega) hk hall (by unfold arcBad; simp; omega)], rfl⟩
         ·
          refine f_skip ?_
          refine f_bn ?_
          refine f_tn (kh13 _ _ ?_)
          clear kh13
          refine f_region ?_
          refine f_stepP rfl rfl rfl (o_move rfl) ?_
          refine f_stepP rfl rfl rfl (o_add rfl rfl _ (wrap_i64 (by omega))) ?_
          refine f_stepP rfl rfl rfl (o_assign rfl) ?_
          refine f_done ?_
          refine f_tn (f_again (k + 1) (by first | omega | (dsimp only; omega) | (simp; omega)) ⟨by omega, good_next hall (by unfold arcBad; simp; omega)⟩ ?_ ?_ ?_)
          · exact (by repeat (first | exact trivial | refine ⟨rfl, ?_⟩))
          · exact (by repeat (first | exact trivial | refine ⟨rfl, ?_⟩))
          · repeat (first | exact Sub.nil | refine Sub.pick ?_ | refine Sub.castO rfl ?_ | refine Sub.skip ?_)
     ·
      refine f_exit ?_
      refine f_te ?_
      clear kh11
      refine f_te ?_
      refine f_be ?_
      refine f_tn (kh9 _ _ ?_)
      clear kh9
      refine f_seq fun K20 kh20 => ?_
      refine f_region ?_
      refine f_stepP rfl rfl rfl (o_assign rfl) ?_
      refine f_stepP rfl rfl rfl (o_assign rfl) ?_
      refine f_done ?_
      refine f_tn (kh20 _ _ ?_)
      clear kh20
      refine f_ret ?_
      exact f_fin2 [] Try.results27 rfl rfl Sub.nil ⟨by rw [gcheck_ok hN1 (by omega) (fun j h => hall j h (by omega))], rfl⟩

set_option maxRecDepth 100000 in
set_option maxHeartbeats 4000000 in
theorem large_spec (N : Int) (A : Option Addr) (l : List Arc) (cap : Nat) (w : World) (hr : Ro (Fr w []) w A (l.flatMap arcCs)) (hl : l.length ≤ 9223372036854775807) (hN : I64 N) (hok : ∀ x ∈ l, ArcOk x) :
    Meets Try.prog 8 [.agg #[.int .i64 N, .slice A l.length cap]] w [] (fun u m => ∃ b, u = .bool b ∧ m = []) := by
 refine f_enter Try.func8 rfl Try.ntmps8 rfl Owns.nil ?_
 refine f_seq fun K1 kh1 => ?_
 refine f_region ?_
 refine f_step rfl rfl rfl (o_box rfl rfl fun b1 => ?_)
 refine f_stepP rfl rfl rfl (o_assign rfl) ?_
 refine f_done ?_
 refine f_tn (kh1 _ _ ?_)
 clear kh1
 refine f_seq fun K2 kh2 => ?_
 refine f_region ?_
 refine f_stepP rfl rfl rfl (o_loadA (vs := [_, _]) Try.isAgg24 Try.sizeOf24 rfl rfl ⟨(rdA rfl), (rdA rfl), trivial⟩) ?_
 refine f_step rfl rfl rfl (o_call Try.call27 rfl (fun w_ hp_ => RCheckC_spec N A l cap w_ (hr.up0 hp_) hl hN hok) ?_)
 rintro _ _ ⟨rfl, rfl⟩
 dsimp only [List.cons_append, List.nil_append]
 refine f_stepP rfl rfl rfl (o_move rfl) ?_
 refine f_stepP rfl rfl rfl (o_extract rfl rfl) ?_
 refine f_stepP rfl rfl rfl (o_extract rfl rfl) ?_
 refine f_stepP rfl rfl rfl (o_assign rfl) ?_
 refine f_stepP rfl rfl rfl (o_assign rfl) ?_
 refine f_done ?_
 refine f_tn (kh2 _ _ ?_)
 clear kh2
 refine f_seq fun K3 kh3 => ?_
 refine f_region ?_
 refine f_stepP rfl rfl rfl (o_move rfl) ?_
 refine f_stepP rfl rfl rfl (o_eql rfl rfl) ?_
 refine f_stepP rfl rfl rfl (o_move rfl) ?_
 refine f_splitL 12 rfl (fun g12 => ?_) (fun g12 => ?_)
 ·
  refine f_stepPY rfl rfl rfl rfl rfl (o_field fa24_0 rfl) ?_
  refine f_stepPY rfl rfl rfl rfl rfl (o_load Try.isAgg3 rfl (rdA rfl)) ?_
  refine f_stepPY rfl rfl rfl rfl rfl (o_gtr rfl rfl) ?_
  refine f_stepPY rfl rfl rfl rfl rfl (o_move rfl) ?_
  refine f_splitL 16 rfl (fun g16 => ?_) (fun g16 => ?_)
  ·
   refine f_stepN rfl rfl rfl rfl rfl rfl ?_
   refine f_stepN rfl rfl rfl rfl rfl rfl ?_
   refine f_stepN rfl rfl rfl rfl rfl rfl ?_
   refine f_stepN rfl rfl rfl rfl rfl rfl ?_
   refine f_stepPY rfl rfl rfl rfl rfl (o_pickT rfl rfl) ?_
   refine f_stepP rfl rfl rfl (o_pickT rfl rfl) ?_
   refine f_stepP rfl rfl rfl (o_assign rfl) ?_
   refine f_done ?_
   refine f_tn (kh3 _ _ ?_)
   clear kh3
   refine f_ret ?_
   exact f_fin1 [] Try.results8 rfl Sub.nil ⟨_, rfl, rfl⟩
  ·
   refine f_stepPY rfl rfl rfl rfl rfl (o_field fa24_1 rfl) ?_
   refine f_stepPY rfl rfl rfl rfl rfl (o_load Try.isAgg22 rfl (rdA rfl)) ?_
   refine f_stepPY rfl rfl rfl rfl rfl (o_len sl22 rfl) ?_
   refine f_stepPY rfl rfl rfl rfl rfl (o_gtr rfl rfl) ?_
   refine f_stepPY rfl rfl rfl rfl rfl (o_pickF rfl rfl) ?_
   refine f_stepP rfl rfl rfl (o_pickT rfl rfl) ?_
   refine f_stepP rfl rfl rfl (o_assign rfl) ?_
   refine f_done ?_
   refine f_tn (kh3 _ _ ?_)
   clear kh3
   refine f_ret ?_
   exact f_fin1 [] Try.results8 rfl Sub.nil ⟨_, rfl, rfl⟩
 ·
  refine f_stepN rfl rfl rfl rfl rfl rfl ?_
  refine f_stepN rfl rfl rfl rfl rfl rfl ?_
  refine f_stepN rfl rfl rfl rfl rfl rfl ?_
  refine f_stepN rfl rfl rfl rfl rfl rfl ?_
  refine f_stepU rfl rfl rfl rfl rfl ?_
  refine f_stepU rfl rfl rfl rfl rfl ?_
  refine f_stepU rfl rfl rfl rfl rfl ?_
  refine f_stepU rfl rfl rfl rfl rfl ?_
  refine f_stepN rfl rfl rfl rfl rfl rfl ?_
  refine f_stepP rfl rfl rfl (o_pickF rfl rfl) ?_
  refine f_stepP rfl rfl rfl (o_assign rfl) ?_
  refine f_done ?_
  refine f_tn (kh3 _ _ ?_)
  clear kh3
  refine f_ret ?_
  exact f_fin1 [] Try.results8 rfl Sub.nil ⟨_, rfl, rfl⟩

set_option maxRecDepth 100000 in
set_option maxHeartbeats 4000000 in
theorem has_spec (A : Option Addr) (l : List Int) (cap : Nat) (x : Int) (w : World) (hr : Ro (Fr w []) w A (ints l)) (hm : l.length ≤ 9223372036854775807) :
    Meets Try.prog 13 [.slice A l.length cap, .int .i64 x] w [] (fun u m => u = .bool (decide (x ∈ l)) ∧ m = []) := by
 refine f_enter Try.func13 rfl Try.ntmps13 rfl Owns.nil ?_
 refine f_seq fun K1 kh1 => ?_
 refine f_region ?_
 refine f_stepP rfl rfl rfl (o_assign rfl) ?_
 refine f_done ?_
 refine f_tn (kh1 _ _ ?_)
 clear kh1
 refine f_seq fun K2 kh2 => ?_
 refine f_seq fun K3 kh3 => ?_
 refine f_region ?_
 refine f_stepP rfl rfl rfl (o_move rfl) ?_
 refine f_stepP rfl rfl rfl (o_len sl25 rfl) ?_
 refine f_stepP rfl rfl rfl (o_move rfl) ?_
 refine f_done ?_
 refine f_tn (kh3 _ _ ?_)
 clear kh3
 refine f_block ?_
 refine f_loop (α := Nat) [1, 7, 8] (fun k => [(9, .int .i64 (k : Int))]) (fun k => []) (fun k => k ≤ l.length ∧ x ∉ l.take k) (fun k => l.length - k) (0) ?_ ?_ ?_ ?_
 · exact (by repeat (first | exact trivial | refine ⟨rfl, ?_⟩))
 · repeat (first | exact Sub.nil | refine Sub.pick ?_ | refine Sub.castO rfl ?_ | refine Sub.skip ?_)
 · exact ⟨Nat.zero_le _, by simp⟩
 ·
  rintro k ⟨hkl, hno⟩
  refine f_seq fun K4 kh4 => ?_
  refine f_region ?_
  refine f_stepP rfl rfl rfl (o_lss rfl rfl) ?_
  refine f_done ?_
  refine f_tn (kh4 _ _ ?_)
  clear kh4
  refine f_seq fun K5 kh5 => ?_
  refine f_cond rfl (fun c10 => ?_) (fun c10 => ?_)
  ·
   have hk : k < l.length := by omega
   obtain ⟨b, o, rfl, hS, hc⟩ := hr (map_ne hk)
   refine f_skip ?_
   refine f_tn (kh5 _ _ ?_)
   clear kh5
   refine f_seq fun K6 kh6 => ?_
   refine f_block ?_
   refine f_seq fun K7 kh7 => ?_
   refine f_region ?_
   refine f_stepP rfl rfl rfl (o_idx sl25 rfl rfl (o + k) ⟨by omega, by omega, by first | omega | (simp; done) | (simp; omega)⟩) ?_
   refine f_stepP rfl rfl rfl (o_load Try.isAgg3 rfl (roOne (enc := (.int .i64 ·)) hS hc hk)) ?_
   refine f_stepP rfl rfl rfl (o_assign rfl) ?_
   refine f_done ?_
   refine f_tn (kh7 _ _ ?_)
   clear kh7
   refine f_seq fun K8 kh8 => ?_
   refine f_region ?_
   refine f_stepP rfl rfl rfl (o_move rfl) ?_
   refine f_stepP rfl rfl rfl (o_move rfl) ?_
   refine f_stepP rfl rfl rfl (o_eql rfl rfl) ?_
   refine f_done ?_
   refine f_tn (kh8 _ _ ?_)
   clear kh8
   refine f_cond rfl (fun c15 => ?_) (fun c15 => ?_)
   ·
    refine f_seq fun K9 kh9 => ?_
    refine f_region ?_
    refine f_stepP rfl rfl rfl (o_assign rfl) ?_
    refine f_done ?_
    refine f_tn (kh9 _ _ ?_)
    clear kh9
    refine f_ret ?_
    refine f_br ?_
    refine f_tr ?_
    refine f_tr ?_
    refine f_br ?_
    refine f_tr ?_
    exact f_fin1 [] Try.results13 rfl Sub.nil ⟨by rw [decide_eq_true (by rw [← c15]; exact List.getElem_mem hk)], rfl⟩
   ·
    refine f_skip ?_
    refine f_bn ?_
    refine f_tn (kh6 _ _ ?_)
    clear kh6
    refine f_region ?_
    refine f_stepP rfl rfl rfl (o_add rfl rfl _ (wrap_i64 (by omega))) ?_
    refine f_stepP rfl rfl rfl (o_move rfl) ?_
    refine f_done ?_
    refine f_tn (f_again (k + 1) (by first | omega | (dsimp only; omega) | (simp; omega)) ⟨by omega, by rw [List.take_succ_eq_append_getElem hk, List.mem_append, List.mem_singleton]; exact fun h => h.elim hno fun e => c15 e.symm⟩ ?_ ?_ ?_)
    · exact (by repeat (first | exact trivial | refine ⟨rfl, ?_⟩))
    · exact (by repeat (first | exact trivial | refine ⟨rfl, ?_⟩))
    · repeat (first | exact Sub.nil | refine Sub.pick ?_ | refine Sub.castO rfl ?_ | refine Sub.skip ?_)
  ·
   obtain rfl : k = l.length := by omega
   rw [List.take_length] at hno
   refine f_exit ?_
   refine f_te ?_
   clear kh5
   refine f_te ?_
   refine f_be ?_
   refine f_tn (kh2 _ _ ?_)
   clear kh2
   refine f_seq fun K10 kh10 => ?_
   refine f_region ?_
   refine f_stepP rfl rfl rfl (o_assign rfl) ?_
   refine f_done ?_
   refine f_tn (kh10 _ _ ?_)
   clear kh10
   refine f_ret ?_
   exact f_fin1 [] Try.results13 rfl Sub.nil ⟨by rw [decide_eq_false hno], rfl⟩

set_option maxRecDepth 100000 in
set_option maxHeartbeats 4000000 in
theorem works_spec (w : World) : Meets Try.prog 7 [] w [] (fun u m => u = .bool true ∧ m = []) := by
 refine f_enter Try.func7 rfl Try.ntmps7 rfl Owns.nil ?_
 refine f_seq fun K1 kh1 => ?_
 refine f_region ?_
 refine f_stepP rfl rfl rfl (o_assign rfl) ?_
 refine f_done ?_
 refine f_tn (kh1 _ _ ?_)
 clear kh1
 refine f_seq fun K2 kh2 => ?_
 refine f_region ?_
 refine f_stepP rfl rfl rfl (o_build st39 rfl rfl) ?_
 refine f_stepP rfl rfl rfl (o_build st39 rfl rfl) ?_
 refine f_stepP rfl rfl rfl (o_build st39 rfl rfl) ?_
 refine f_step rfl rfl rfl (o_sliceN (len := 3) el22 (by omega) rfl rfl fun b10 => ?_)
 refine f_stepP rfl rfl rfl (o_build st24 rfl rfl) ?_
 refine f_step rfl rfl rfl (o_alloc Try.zeroValue24 rfl fun b1 => ?_)
 refine f_step0 rfl rfl (o_storeA Try.sizeOf24 rfl rfl rfl rfl (by first | exact Nat.le_of_ble_eq_true rfl | (simp; done) | (simp; omega)) [.int .i64 3, .slice (some ⟨b10, 0, none⟩) 3 3] rfl ?_)
 refine f_done ?_
 refine f_tn (kh2 _ _ ?_)
 clear kh2
 refine f_seq fun K3 kh3 => ?_
 refine f_region ?_
 refine f_step rfl rfl rfl (o_slice1 el25 (by omega) rfl rfl rfl fun b12 => ?_)
 refine f_step rfl rfl rfl (o_sliceN (len := 3) el25 (by omega) rfl rfl fun b13 => ?_)
 refine f_step rfl rfl rfl (o_slice1 el26 (by omega) rfl rfl rfl fun b14 => ?_)
 refine f_stepP rfl rfl rfl (o_build st28 rfl rfl) ?_
 refine f_step rfl rfl rfl (o_alloc Try.zeroValue28 rfl fun b2 => ?_)
 refine f_step0 rfl rfl (o_storeA Try.sizeOf28 rfl rfl rfl rfl (by first | exact Nat.le_of_ble_eq_true rfl | (simp; done) | (simp; omega)) [.slice (some ⟨b12, 0, none⟩) 1 1, .slice (some ⟨b14, 0, none⟩) 1 1] rfl ?_)
 refine f_done ?_
 refine f_tn (kh3 _ _ ?_)
 clear kh3
 refine f_seq fun K4 kh4 => ?_
 refine f_region ?_
 refine f_stepP rfl rfl rfl (o_loadA (vs := [_, _]) Try.isAgg24 Try.sizeOf24 rfl rfl ⟨(rdA rfl), (rdA rfl), trivial⟩) ?_
 refine f_stepP rfl rfl rfl (o_loadA (vs := [_, _]) Try.isAgg28 Try.sizeOf28 rfl rfl ⟨(rdA rfl), (rdA rfl), trivial⟩) ?_
 refine f_step rfl rfl rfl (o_call Try.call11 rfl (fun w_ hp_ => CBoundary_spec 3 (some ⟨b10, 0, none⟩) wg12 3 (some ⟨b12, 0, none⟩) [2] 1 (some ⟨b14, 0, none⟩) [(some ⟨b13, 0, none⟩, [0, 0, 1], 3)] 1 1 0 w_ (roOwn (b := b10) hp_ (cs := wg12.flatMap arcCs) (fun j v hj => hj)) (by decide) (by decide) wg12Ok ⟨(roOwn (b := b12) hp_ (cs := ints [2]) (fun j v hj => hj)), by decide, (roOwn (b := b14) hp_ (cs := [.slice (some ⟨b13, 0, none⟩) 3 3]) (fun j v hj => hj)), by simp, fun r hr => by simp at hr; subst hr; exact ⟨(roOwn (b := b13) hp_ (cs := ints [0, 0, 1]) (fun j v hj => hj)), by simp⟩⟩) ?_)
 rintro _ _ ⟨M_, AM, cM, mM, rfl, rfl, hoM, _, hM0⟩
 rw [show rowsL [((some ⟨b13, 0, none⟩ : Option Addr), [0, 0, 1], 3)] = [[0, 0, 1]] from rfl]
 rw [w12Cell]
 obtain rfl : M_ = [0, 1] := (hM0 w12Cell).trans w12Bd
 dsimp only [List.cons_append, List.nil_append]
 refine f_stepP rfl rfl rfl (o_move rfl) ?_
 refine f_stepP rfl rfl rfl (o_extract rfl rfl) ?_
 refine f_stepP rfl rfl rfl (o_extract rfl rfl) ?_
 refine f_stepP rfl rfl rfl (o_assign rfl) ?_
 refine f_stepP rfl rfl rfl (o_assign rfl) ?_
 refine f_done ?_
 refine f_tn (kh4 _ _ ?_)
 clear kh4
 refine f_seq fun K5 kh5 => ?_
 refine f_region ?_
 refine f_stepP rfl rfl rfl (o_loadA (vs := [_, _]) Try.isAgg24 Try.sizeOf24 rfl rfl ⟨(rdA rfl), (rdA rfl), trivial⟩) ?_
 refine f_stepP rfl rfl rfl (o_loadA (vs := [_, _]) Try.isAgg28 Try.sizeOf28 rfl rfl ⟨(rdA rfl), (rdA rfl), trivial⟩) ?_
 refine f_step rfl rfl rfl (o_call Try.call9 rfl (fun w_ hp_ => COuter_spec 3 (some ⟨b10, 0, none⟩) wg12 3 (some ⟨b12, 0, none⟩) [2] 1 (some ⟨b14, 0, none⟩) [(some ⟨b13, 0, none⟩, [0, 0, 1], 3)] 1 1 w_ (roOwn (b := b10) hp_ (cs := wg12.flatMap arcCs) (fun j v hj => hj)) (by decide) (by decide) wg12Ok ⟨(roOwn (b := b12) hp_ (cs := ints [2]) (fun j v hj => hj)), by decide, (roOwn (b := b14) hp_ (cs := [.slice (some ⟨b13, 0, none⟩) 3 3]) (fun j v hj => hj)), by simp, fun r hr => by simp at hr; subst hr; exact ⟨(roOwn (b := b13) hp_ (cs := ints [0, 0, 1]) (fun j v hj => hj)), by simp⟩⟩) ?_)
 rintro _ _ ⟨O_, AO, cO, mO, rfl, rfl, hoO, _, hO0⟩
 rw [show rowsL [((some ⟨b13, 0, none⟩ : Option Addr), [0, 0, 1], 3)] = [[0, 0, 1]] from rfl]
 rw [w12Lk]
 obtain rfl : O_ = [1, 2] := (hO0 w12Lk).trans w12Out
 dsimp only [List.cons_append, List.nil_append]
 refine f_stepP rfl rfl rfl (o_move rfl) ?_
 refine f_stepP rfl rfl rfl (o_extract rfl rfl) ?_
 refine f_stepP rfl rfl rfl (o_extract rfl rfl) ?_
 refine f_stepP rfl rfl rfl (o_assign rfl) ?_
 refine f_stepP rfl rfl rfl (o_assign rfl) ?_
 refine f_done ?_
 refine f_tn (kh5 _ _ ?_)
 clear kh5
 refine f_seq fun K6 kh6 => ?_
 refine f_region ?_
 refine f_stepP rfl rfl rfl (o_move rfl) ?_
 refine f_stepP rfl rfl rfl (o_eql rfl rfl) ?_
 refine f_stepP rfl rfl rfl (o_move rfl) ?_
 refine f_trueL 30 rfl (rfl) ?_
 refine f_stepPY rfl rfl rfl rfl rfl (o_move rfl) ?_
 refine f_stepY rfl rfl rfl rfl rfl (o_sliceN (len := 2) el25 (by omega) rfl rfl fun b32 => ?_)
 refine f_stepY rfl rfl rfl rfl rfl (o_call Try.call20 rfl (fun w_ hp_ => SameInts_spec AM (some ⟨b32, 0, none⟩) [0, 1] [0, 1] 2 2 w_ (seen_ro (hoM.seen hp_)) (roOwn (b := b32) hp_ (cs := ints [0, 1]) (fun j v hj => hj)) (by decide)) ?_)
 rintro _ _ ⟨rfl, rfl⟩
 rw [decide_eq_true rfl]
 dsimp only [List.cons_append, List.nil_append]
 refine f_stepP rfl rfl rfl (o_pickT rfl rfl) ?_
 refine f_stepP rfl rfl rfl (o_move rfl) ?_
 refine f_stepPY rfl rfl rfl rfl rfl (o_move rfl) ?_
 refine f_stepPY rfl rfl rfl rfl rfl (o_eql rfl rfl) ?_
 refine f_stepP rfl rfl rfl (o_pickT rfl rfl) ?_
 refine f_stepP rfl rfl rfl (o_move rfl) ?_
 refine f_trueL 39 rfl (rfl) ?_
 refine f_stepPY rfl rfl rfl rfl rfl (o_move rfl) ?_
 refine f_stepY rfl rfl rfl rfl rfl (o_sliceN (len := 2) el25 (by omega) rfl rfl fun b41 => ?_)
 refine f_stepY rfl rfl rfl rfl rfl (o_call Try.call20 rfl (fun w_ hp_ => SameInts_spec AO (some ⟨b41, 0, none⟩) [1, 2] [1, 2] 2 2 w_ (seen_ro (hoO.seen hp_)) (roOwn (b := b41) hp_ (cs := ints [1, 2]) (fun j v hj => hj)) (by decide)) ?_)
 rintro _ _ ⟨rfl, rfl⟩
 rw [decide_eq_true rfl]
 dsimp only [List.cons_append, List.nil_append]
 refine f_stepP rfl rfl rfl (o_pickT rfl rfl) ?_
 refine f_stepP rfl rfl rfl (o_assign rfl) ?_
 refine f_done ?_
 refine f_tn (kh6 _ _ ?_)
 clear kh6
 refine f_ret ?_
 exact f_fin1 [] Try.results7 rfl Sub.nil ⟨rfl, rfl⟩

end Go.Proofs.Ytkmkakpadgljeaa
