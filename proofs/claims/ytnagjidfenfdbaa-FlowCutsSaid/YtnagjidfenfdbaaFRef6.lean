/- The document's flows: Check, Wrong, reached. -/
import Derived.Test.YtnagjidfenfdbaaFLaw6b
import Derived.Test.YtnagjidfenfdbaaPFlow4
namespace Go.Proofs.Ytnagjidfenfdbaa
open Go Go.RowKit Fly
set_option linter.unusedVariables false
set_option linter.unusedSimpArgs false


theorem flAt_rep0 {n : Nat} {x : Int} {v : Nat} (h : v < n) : flAt (List.replicate n x) v = x := flAt_rep h
/-- What reached answers. -/
def RchΦ (n : Nat) (e : List Arc) (s : Nat) (f : List Int) (u : Value) (own : List Seg) : Prop :=
  ∃ b1 b2 sd by_ q, u = .tuple #[.slice (some ⟨b1, 0, none⟩) n n, .slice (some ⟨b2, 0, none⟩) n n] ∧ own = [[(b1, blk (sd.map .bool) 4)], [(b2, blk (ints by_) 3)]] ∧ Rch n e s f sd by_ q (Full e q)
theorem Rch.qlen {n : Nat} {e : List Arc} {s : Nat} {f : List Int} {sd : List Bool} {by_ : List Int} {q : List Nat} {P : Nat → Prop} (h : Rch n e s f sd by_ q P) : q.length ≤ n := nodup_le n q h.nd h.lt

theorem kto_even (e : List Arc) (i : Nat) : kto e (2 * i) = (arcAt e i).dst.toNat := by unfold kto; rw [if_pos (by omega), show 2 * i / 2 = i by omega]
theorem kto_odd (e : List Arc) (i : Nat) : kto e (2 * i + 1) = (arcAt e i).src.toNat := by unfold kto; rw [if_neg (by omega), show (2 * i + 1) / 2 = i by omega]
theorem kleft_even (e : List Arc) (f : List Int) (i : Nat) : kleft e f (2 * i) = (arcAt e i).wt - flAt f i := by unfold kleft; rw [if_pos (by omega), show 2 * i / 2 = i by omega]
theorem kleft_odd (e : List Arc) (f : List Int) (i : Nat) : kleft e f (2 * i + 1) = flAt f i := by unfold kleft; rw [if_neg (by omega), show (2 * i + 1) / 2 = i by omega]
theorem Rch.pass {n : Nat} {e : List Arc} {s v k : Nat} {f : List Int} {sd : List Bool} {by_ : List Int} {q : List Nat} {P : Nat → Prop} (h : Rch n e s f sd by_ q P) (hn : kfrom e k = v → sd.getD (kto e k) false = true ∨ ¬ 0 < kleft e f k) : Rch n e s f sd by_ q (fun j => P j ∨ (j = k ∧ kfrom e j = v)) :=
  ⟨h.ls, h.lb, h.s0, h.nd, h.mem, h.lt, h.prev, fun j hj hjl hP => by
    rcases hP with hP | ⟨rfl, hv⟩
    · exact h.cl j hj hjl hP
    · rcases hn hv with h1 | h1
      · exact h1
      · exact absurd hjl h1⟩

set_option maxRecDepth 100000 in
set_option maxHeartbeats 4000000 in
theorem RNCheck_spec (N : Int) (A : Option Addr) (l : List Arc) (cap : Nat) (w : World) (hr : Ro (Fr w []) w A (l.flatMap arcCs)) (hl : l.length ≤ 9223372036854775807) (hN : I64 N) (hok : ∀ x ∈ l, ArcOk x) :
    Meets Try.prog 13 [.agg #[.int .i64 N, .slice A l.length cap]] w [] (fun v m => v = .tuple #[.int .i64 (ncheck N l).1, .int .i64 (ncheck N l).2] ∧ m = []) := by
  refine f_enter Try.func13 rfl Try.ntmps13 rfl Owns.nil ?_
  refine f_seq fun K1 kh1 => ?_
  refine f_region ?_
  refine f_step rfl rfl rfl (o_box rfl rfl fun b1 => ?_)
  refine f_stepP rfl rfl rfl (o_assign rfl) ?_
  refine f_stepP rfl rfl rfl (o_assign rfl) ?_
  refine f_done ?_
  refine f_tn (kh1 _ _ ?_)
  clear kh1
  refine f_seq fun K2 kh2 => ?_
  refine f_seq fun K3 kh3 => ?_
  refine f_region ?_
  refine f_stepP rfl rfl rfl (o_field fa24_0 rfl) ?_
  refine f_stepP rfl rfl rfl (o_load Try.isAgg3 rfl (rdA rfl)) ?_
  refine f_stepP rfl rfl rfl (o_lss rfl rfl) ?_
  refine f_stepP rfl rfl rfl (o_move rfl) ?_
  refine f_splitL 9 rfl (fun g9 => ?_) (fun g9 => ?_)
  · skip
    refine f_stepN rfl rfl rfl rfl rfl rfl ?_
    refine f_stepN rfl rfl rfl rfl rfl rfl ?_
    refine f_stepN rfl rfl rfl rfl rfl rfl ?_
    refine f_stepP rfl rfl rfl (o_pickT rfl rfl) ?_
    refine f_done ?_
    refine f_tn (kh3 _ _ ?_)
    clear kh3
    refine f_condT rfl ?_
    refine f_seq fun K4 kh4 => ?_
    refine f_region ?_
    refine f_stepP rfl rfl rfl (o_assign rfl) ?_
    refine f_stepP rfl rfl rfl (o_assign rfl) ?_
    refine f_done ?_
    refine f_tn (kh4 _ _ ?_)
    clear kh4
    refine f_ret ?_
    refine f_tr ?_
    exact f_fin2 [] Try.results13 rfl rfl Sub.nil ⟨by rw [ncheck_range (by omega)], rfl⟩
  · skip
    refine f_stepPY rfl rfl rfl rfl rfl (o_field fa24_0 rfl) ?_
    refine f_stepPY rfl rfl rfl rfl rfl (o_load Try.isAgg3 rfl (rdA rfl)) ?_
    refine f_stepPY rfl rfl rfl rfl rfl (o_gtr rfl rfl) ?_
    refine f_stepP rfl rfl rfl (o_pickF rfl rfl) ?_
    refine f_done ?_
    refine f_tn (kh3 _ _ ?_)
    clear kh3
    refine f_cond rfl (fun c13 => ?_) (fun c13 => ?_)
    · skip
      refine f_seq fun K5 kh5 => ?_
      refine f_region ?_
      refine f_stepP rfl rfl rfl (o_assign rfl) ?_
      refine f_stepP rfl rfl rfl (o_assign rfl) ?_
      refine f_done ?_
      refine f_tn (kh5 _ _ ?_)
      clear kh5
      refine f_ret ?_
      refine f_tr ?_
      exact f_fin2 [] Try.results13 rfl rfl Sub.nil ⟨by rw [ncheck_range (by omega)], rfl⟩
    · skip
      have hN1 : 1 ≤ N ∧ N ≤ 1024 := by omega
      refine f_skip ?_
      refine f_tn (kh2 _ _ ?_)
      clear kh2
      refine f_seq fun K6 kh6 => ?_
      refine f_seq fun K7 kh7 => ?_
      refine f_region ?_
      refine f_stepP rfl rfl rfl (o_field fa24_1 rfl) ?_
      refine f_stepP rfl rfl rfl (o_load Try.isAgg22 rfl (rdA rfl)) ?_
      refine f_stepP rfl rfl rfl (o_len sl22 rfl) ?_
      refine f_stepP rfl rfl rfl (o_gtr rfl rfl) ?_
      refine f_done ?_
      refine f_tn (kh7 _ _ ?_)
      clear kh7
      refine f_cond rfl (fun c17 => ?_) (fun c17 => ?_)
      · skip
        refine f_seq fun K8 kh8 => ?_
        refine f_region ?_
        refine f_stepP rfl rfl rfl (o_assign rfl) ?_
        refine f_stepP rfl rfl rfl (o_assign rfl) ?_
        refine f_done ?_
        refine f_tn (kh8 _ _ ?_)
        clear kh8
        refine f_ret ?_
        refine f_tr ?_
        exact f_fin2 [] Try.results13 rfl rfl Sub.nil ⟨by rw [ncheck_long hN1 (by omega)], rfl⟩
      · skip
        refine f_skip ?_
        refine f_tn (kh6 _ _ ?_)
        clear kh6
        refine f_seq fun K9 kh9 => ?_
        refine f_seq fun K10 kh10 => ?_
        refine f_region ?_
        refine f_stepP rfl rfl rfl (o_assign rfl) ?_
        refine f_done ?_
        refine f_tn (kh10 _ _ ?_)
        clear kh10
        refine f_block ?_
        refine f_loop (α := Nat) [1] (fun k => [(4, .int .i64 (k : Int))]) (fun k => [[(b1, blk [.int .i64 N, .slice A l.length cap] 24)]]) (fun k => k ≤ l.length ∧ ∀ j (h : j < l.length), j < k → arcBad N l[j] = false) (fun k => l.length - k) (0) ?_ ?_ ?_ ?_
        · exact (by repeat (first | exact trivial | refine ⟨rfl, ?_⟩))
        · repeat (first | exact Sub.nil | refine Sub.pick ?_ | refine Sub.castO rfl ?_ | refine Sub.skip ?_)
        · exact ⟨by omega, fun j h hj => by omega⟩
        · rintro k ⟨hkl, hall⟩
          refine f_seq fun K11 kh11 => ?_
          refine f_seq fun K12 kh12 => ?_
          refine f_region ?_
          refine f_stepP rfl rfl rfl (o_move rfl) ?_
          refine f_stepP rfl rfl rfl (o_field fa24_1 rfl) ?_
          refine f_stepP rfl rfl rfl (o_load Try.isAgg22 rfl (rdA rfl)) ?_
          refine f_stepP rfl rfl rfl (o_len sl22 rfl) ?_
          refine f_stepP rfl rfl rfl (o_lss rfl rfl) ?_
          refine f_done ?_
          refine f_tn (kh12 _ _ ?_)
          clear kh12
          refine f_cond rfl (fun c22 => ?_) (fun c22 => ?_)
          · skip
            refine f_skip ?_
            refine f_tn (kh11 _ _ ?_)
            clear kh11
            refine f_seq fun K13 kh13 => ?_
            refine f_block ?_
            refine f_seq fun K14 kh14 => ?_
            refine f_region ?_
            refine f_stepP rfl rfl rfl (o_field fa24_1 rfl) ?_
            refine f_stepP rfl rfl rfl (o_load Try.isAgg22 rfl (rdA rfl)) ?_
            refine f_stepP rfl rfl rfl (o_move rfl) ?_
            have hk : k < l.length := by omega
            obtain ⟨b, off, rfl, hS, hc⟩ := hr (flat_ne arcCs arcCs_len (by omega) hk)
            refine f_stepP rfl rfl rfl (o_idx sl22 rfl rfl (off + k * 3) ⟨by omega, by omega, by first | omega | (simp; done) | (simp; omega)⟩) ?_
            refine f_stepP rfl rfl rfl (o_loadA (vs := arcCs l[k]) Try.isAgg52 Try.sizeOf52 rfl rfl (roElem arcCs_len hS hc hk)) ?_
            refine f_step rfl rfl rfl (o_alloc Try.zeroValue52 rfl fun b5 => ?_)
            refine f_step0 rfl rfl (o_storeA Try.sizeOf52 rfl rfl rfl rfl (by first | exact Nat.le_of_ble_eq_true rfl | (simp; done) | (simp; omega)) (arcCs l[k]) rfl ?_)
            refine f_done ?_
            refine f_tn (kh14 _ _ ?_)
            clear kh14
            refine f_seq fun K15 kh15 => ?_
            refine f_region ?_
            refine f_stepP rfl rfl rfl (o_field fa52_0 rfl) ?_
            refine f_stepP rfl rfl rfl (o_load Try.isAgg3 rfl (rdA rfl)) ?_
            refine f_stepP rfl rfl rfl (o_lss rfl rfl) ?_
            refine f_stepP rfl rfl rfl (o_move rfl) ?_
            refine f_splitL 33 rfl (fun g33 => ?_) (fun g33 => ?_)
            · skip
              refine f_stepN rfl rfl rfl rfl rfl rfl ?_
              refine f_stepN rfl rfl rfl rfl rfl rfl ?_
              refine f_stepN rfl rfl rfl rfl rfl rfl ?_
              refine f_stepN rfl rfl rfl rfl rfl rfl ?_
              refine f_stepN rfl rfl rfl rfl rfl rfl ?_
              refine f_stepP rfl rfl rfl (o_pickT rfl rfl) ?_
              refine f_stepP rfl rfl rfl (o_move rfl) ?_
              refine f_stepN rfl rfl rfl rfl rfl rfl ?_
              refine f_stepN rfl rfl rfl rfl rfl rfl ?_
              refine f_stepN rfl rfl rfl rfl rfl rfl ?_
              refine f_stepP rfl rfl rfl (o_pickT rfl rfl) ?_
              refine f_stepP rfl rfl rfl (o_move rfl) ?_
              refine f_stepN rfl rfl rfl rfl rfl rfl ?_
              refine f_stepN rfl rfl rfl rfl rfl rfl ?_
              refine f_stepN rfl rfl rfl rfl rfl rfl ?_
              refine f_stepN rfl rfl rfl rfl rfl rfl ?_
              refine f_stepN rfl rfl rfl rfl rfl rfl ?_
              refine f_stepP rfl rfl rfl (o_pickT rfl rfl) ?_
              refine f_done ?_
              refine f_tn (kh15 _ _ ?_)
              clear kh15
              refine f_condT rfl ?_
              refine f_seq fun K16 kh16 => ?_
              refine f_region ?_
              refine f_stepP rfl rfl rfl (o_move rfl) ?_
              refine f_stepP rfl rfl rfl (o_assign rfl) ?_
              refine f_stepP rfl rfl rfl (o_assign rfl) ?_
              refine f_done ?_
              refine f_tn (kh16 _ _ ?_)
              clear kh16
              refine f_ret ?_
              refine f_br ?_
              refine f_tr ?_
              refine f_tr ?_
              refine f_br ?_
              refine f_tr ?_
              exact f_fin2 [] Try.results13 rfl rfl Sub.nil ⟨by rw [ncheck_bad hN1 (by omega) hk hall (by unfold arcBad; simp; omega)], rfl⟩
            · skip
              refine f_stepPY rfl rfl rfl rfl rfl (o_field fa52_0 rfl) ?_
              refine f_stepPY rfl rfl rfl rfl rfl (o_load Try.isAgg3 rfl (rdA rfl)) ?_
              refine f_stepPY rfl rfl rfl rfl rfl (o_field fa24_0 rfl) ?_
              refine f_stepPY rfl rfl rfl rfl rfl (o_load Try.isAgg3 rfl (rdA rfl)) ?_
              refine f_stepPY rfl rfl rfl rfl rfl (o_geq rfl rfl) ?_
              refine f_stepP rfl rfl rfl (o_pickF rfl rfl) ?_
              refine f_stepP rfl rfl rfl (o_move rfl) ?_
              refine f_splitL 40 rfl (fun g40 => ?_) (fun g40 => ?_)
              · skip
                refine f_stepN rfl rfl rfl rfl rfl rfl ?_
                refine f_stepN rfl rfl rfl rfl rfl rfl ?_
                refine f_stepN rfl rfl rfl rfl rfl rfl ?_
                refine f_stepP rfl rfl rfl (o_pickT rfl rfl) ?_
                refine f_stepP rfl rfl rfl (o_move rfl) ?_
                refine f_stepN rfl rfl rfl rfl rfl rfl ?_
                refine f_stepN rfl rfl rfl rfl rfl rfl ?_
                refine f_stepN rfl rfl rfl rfl rfl rfl ?_
                refine f_stepN rfl rfl rfl rfl rfl rfl ?_
                refine f_stepN rfl rfl rfl rfl rfl rfl ?_
                refine f_stepP rfl rfl rfl (o_pickT rfl rfl) ?_
                refine f_done ?_
                refine f_tn (kh15 _ _ ?_)
                clear kh15
                refine f_condT rfl ?_
                refine f_seq fun K17 kh17 => ?_
                refine f_region ?_
                refine f_stepP rfl rfl rfl (o_move rfl) ?_
                refine f_stepP rfl rfl rfl (o_assign rfl) ?_
                refine f_stepP rfl rfl rfl (o_assign rfl) ?_
                refine f_done ?_
                refine f_tn (kh17 _ _ ?_)
                clear kh17
                refine f_ret ?_
                refine f_br ?_
                refine f_tr ?_
                refine f_tr ?_
                refine f_br ?_
                refine f_tr ?_
                exact f_fin2 [] Try.results13 rfl rfl Sub.nil ⟨by rw [ncheck_bad hN1 (by omega) hk hall (by unfold arcBad; simp; omega)], rfl⟩
              · skip
                refine f_stepPY rfl rfl rfl rfl rfl (o_field fa52_1 rfl) ?_
                refine f_stepPY rfl rfl rfl rfl rfl (o_load Try.isAgg3 rfl (rdA rfl)) ?_
                refine f_stepPY rfl rfl rfl rfl rfl (o_lss rfl rfl) ?_
                refine f_stepP rfl rfl rfl (o_pickF rfl rfl) ?_
                refine f_stepP rfl rfl rfl (o_move rfl) ?_
                refine f_splitL 45 rfl (fun g45 => ?_) (fun g45 => ?_)
                · skip
                  refine f_stepN rfl rfl rfl rfl rfl rfl ?_
                  refine f_stepN rfl rfl rfl rfl rfl rfl ?_
                  refine f_stepN rfl rfl rfl rfl rfl rfl ?_
                  refine f_stepN rfl rfl rfl rfl rfl rfl ?_
                  refine f_stepN rfl rfl rfl rfl rfl rfl ?_
                  refine f_stepP rfl rfl rfl (o_pickT rfl rfl) ?_
                  refine f_done ?_
                  refine f_tn (kh15 _ _ ?_)
                  clear kh15
                  refine f_condT rfl ?_
                  refine f_seq fun K18 kh18 => ?_
                  refine f_region ?_
                  refine f_stepP rfl rfl rfl (o_move rfl) ?_
                  refine f_stepP rfl rfl rfl (o_assign rfl) ?_
                  refine f_stepP rfl rfl rfl (o_assign rfl) ?_
                  refine f_done ?_
                  refine f_tn (kh18 _ _ ?_)
                  clear kh18
                  refine f_ret ?_
                  refine f_br ?_
                  refine f_tr ?_
                  refine f_tr ?_
                  refine f_br ?_
                  refine f_tr ?_
                  exact f_fin2 [] Try.results13 rfl rfl Sub.nil ⟨by rw [ncheck_bad hN1 (by omega) hk hall (by unfold arcBad; simp; omega)], rfl⟩
                · skip
                  refine f_stepPY rfl rfl rfl rfl rfl (o_field fa52_1 rfl) ?_
                  refine f_stepPY rfl rfl rfl rfl rfl (o_load Try.isAgg3 rfl (rdA rfl)) ?_
                  refine f_stepPY rfl rfl rfl rfl rfl (o_field fa24_0 rfl) ?_
                  refine f_stepPY rfl rfl rfl rfl rfl (o_load Try.isAgg3 rfl (rdA rfl)) ?_
                  refine f_stepPY rfl rfl rfl rfl rfl (o_geq rfl rfl) ?_
                  refine f_stepP rfl rfl rfl (o_pickF rfl rfl) ?_
                  refine f_done ?_
                  refine f_tn (kh15 _ _ ?_)
                  clear kh15
                  refine f_cond rfl (fun c51 => ?_) (fun c51 => ?_)
                  · skip
                    refine f_seq fun K19 kh19 => ?_
                    refine f_region ?_
                    refine f_stepP rfl rfl rfl (o_move rfl) ?_
                    refine f_stepP rfl rfl rfl (o_assign rfl) ?_
                    refine f_stepP rfl rfl rfl (o_assign rfl) ?_
                    refine f_done ?_
                    refine f_tn (kh19 _ _ ?_)
                    clear kh19
                    refine f_ret ?_
                    refine f_br ?_
                    refine f_tr ?_
                    refine f_tr ?_
                    refine f_br ?_
                    refine f_tr ?_
                    exact f_fin2 [] Try.results13 rfl rfl Sub.nil ⟨by rw [ncheck_bad hN1 (by omega) hk hall (by unfold arcBad; simp; omega)], rfl⟩
                  · skip
                    refine f_skip ?_
                    refine f_bn ?_
                    refine f_tn (kh13 _ _ ?_)
                    clear kh13
                    refine f_region ?_
                    refine f_stepP rfl rfl rfl (o_move rfl) ?_
                    refine f_stepP rfl rfl rfl (o_add rfl rfl _ (wrap_i64 (by omega))) ?_
                    refine f_stepP rfl rfl rfl (o_assign rfl) ?_
                    refine f_done ?_
                    refine f_tn (f_again (k + 1) (by first | omega | (dsimp only; omega) | (simp; omega)) ⟨by omega, good_next hall (by unfold arcBad; simp; omega)⟩ ?_ ?_ ?_)
                    · exact (by repeat (first | exact trivial | refine ⟨rfl, ?_⟩))
                    · exact (by repeat (first | exact trivial | refine ⟨rfl, ?_⟩))
                    · repeat (first | exact Sub.nil | refine Sub.pick ?_ | refine Sub.castO rfl ?_ | refine Sub.skip ?_)
          · skip
            refine f_exit ?_
            refine f_te ?_
            clear kh11
            refine f_te ?_
            refine f_be ?_
            refine f_tn (kh9 _ _ ?_)
            clear kh9
            refine f_seq fun K20 kh20 => ?_
            refine f_region ?_
            refine f_stepP rfl rfl rfl (o_assign rfl) ?_
            refine f_stepP rfl rfl rfl (o_assign rfl) ?_
            refine f_done ?_
            refine f_tn (kh20 _ _ ?_)
            clear kh20
            refine f_ret ?_
            exact f_fin2 [] Try.results13 rfl rfl Sub.nil ⟨by rw [ncheck_ok hN1 (by omega) (fun j h => hall j h (by omega))], rfl⟩

set_option maxRecDepth 100000 in
set_option maxHeartbeats 4000000 in
theorem Wrong_spec (N : Int) (A : Option Addr) (l : List Arc) (cap : Nat) (s t : Int) (w : World) (hr : Ro (Fr w []) w A (l.flatMap arcCs)) (hl : l.length ≤ 9223372036854775807) (hN : I64 N) (hok : ∀ x ∈ l, ArcOk x) :
    Meets Try.prog 22 [.agg #[.int .i64 N, .slice A l.length cap], .int .i64 s, .int .i64 t] w [] (fun u m => u = .int .i64 (flooked N l s t) ∧ m = []) := by
  refine f_enter Try.func22 rfl Try.ntmps22 rfl Owns.nil ?_
  refine f_seq fun K1 kh1 => ?_
  refine f_region ?_
  refine f_step rfl rfl rfl (o_box rfl rfl fun b3 => ?_)
  refine f_stepP rfl rfl rfl (o_assign rfl) ?_
  refine f_done ?_
  refine f_tn (kh1 _ _ ?_)
  clear kh1
  refine f_seq fun K2 kh2 => ?_
  refine f_seq fun K3 kh3 => ?_
  refine f_region ?_
  refine f_stepP rfl rfl rfl (o_loadA (vs := [_, _]) Try.isAgg24 Try.sizeOf24 rfl rfl ⟨(rdA rfl), (rdA rfl), trivial⟩) ?_
  refine f_step rfl rfl rfl (o_call Try.call13 rfl (fun w_ hp_ => RNCheck_spec N A l cap w_ (hr.up0 hp_) hl hN hok) ?_)
  rintro _ _ ⟨rfl, rfl⟩
  dsimp only [List.cons_append, List.nil_append]
  refine f_stepP rfl rfl rfl (o_move rfl) ?_
  refine f_stepP rfl rfl rfl (o_extract rfl rfl) ?_
  refine f_stepP rfl rfl rfl (o_extract rfl rfl) ?_
  refine f_stepP rfl rfl rfl (o_assign rfl) ?_
  refine f_stepP rfl rfl rfl (o_assign rfl) ?_
  refine f_done ?_
  refine f_tn (kh3 _ _ ?_)
  clear kh3
  refine f_seq fun K4 kh4 => ?_
  refine f_region ?_
  refine f_stepP rfl rfl rfl (o_move rfl) ?_
  refine f_stepP rfl rfl rfl (o_neq rfl rfl) ?_
  refine f_done ?_
  refine f_tn (kh4 _ _ ?_)
  clear kh4
  refine f_cond rfl (fun c15 => ?_) (fun c15 => ?_)
  · skip
    refine f_seq fun K5 kh5 => ?_
    refine f_region ?_
    refine f_stepP rfl rfl rfl (o_move rfl) ?_
    refine f_stepP rfl rfl rfl (o_assign rfl) ?_
    refine f_done ?_
    refine f_tn (kh5 _ _ ?_)
    clear kh5
    refine f_ret ?_
    refine f_tr ?_
    exact f_fin1 [] Try.results22 rfl Sub.nil ⟨by unfold flooked; rw [if_pos (by simpa using c15)], rfl⟩
  · skip
    refine f_skip ?_
    refine f_tn (kh2 _ _ ?_)
    clear kh2
    refine f_seq fun K6 kh6 => ?_
    refine f_seq fun K7 kh7 => ?_
    refine f_region ?_
    refine f_stepP rfl rfl rfl (o_move rfl) ?_
    refine f_stepP rfl rfl rfl (o_lss rfl rfl) ?_
    refine f_stepP rfl rfl rfl (o_move rfl) ?_
    refine f_splitL 19 rfl (fun g19 => ?_) (fun g19 => ?_)
    · skip
      refine f_stepN rfl rfl rfl rfl rfl rfl ?_
      refine f_stepN rfl rfl rfl rfl rfl rfl ?_
      refine f_stepN rfl rfl rfl rfl rfl rfl ?_
      refine f_stepN rfl rfl rfl rfl rfl rfl ?_
      refine f_stepP rfl rfl rfl (o_pickT rfl rfl) ?_
      refine f_stepP rfl rfl rfl (o_move rfl) ?_
      refine f_stepN rfl rfl rfl rfl rfl rfl ?_
      refine f_stepN rfl rfl rfl rfl rfl rfl ?_
      refine f_stepP rfl rfl rfl (o_pickT rfl rfl) ?_
      refine f_stepP rfl rfl rfl (o_move rfl) ?_
      refine f_stepN rfl rfl rfl rfl rfl rfl ?_
      refine f_stepN rfl rfl rfl rfl rfl rfl ?_
      refine f_stepN rfl rfl rfl rfl rfl rfl ?_
      refine f_stepN rfl rfl rfl rfl rfl rfl ?_
      refine f_stepP rfl rfl rfl (o_pickT rfl rfl) ?_
      refine f_done ?_
      refine f_tn (kh7 _ _ ?_)
      clear kh7
      refine f_condT rfl ?_
      refine f_seq fun K8 kh8 => ?_
      refine f_region ?_
      refine f_stepP rfl rfl rfl (o_assign rfl) ?_
      refine f_done ?_
      refine f_tn (kh8 _ _ ?_)
      clear kh8
      refine f_ret ?_
      refine f_tr ?_
      exact f_fin1 [] Try.results22 rfl Sub.nil ⟨by unfold flooked; rw [if_neg (by simpa using c15), if_pos (by omega)], rfl⟩
    · skip
      refine f_stepPY rfl rfl rfl rfl rfl (o_move rfl) ?_
      refine f_stepPY rfl rfl rfl rfl rfl (o_field fa24_0 rfl) ?_
      refine f_stepPY rfl rfl rfl rfl rfl (o_load Try.isAgg3 rfl (rdA rfl)) ?_
      refine f_stepPY rfl rfl rfl rfl rfl (o_geq rfl rfl) ?_
      refine f_stepP rfl rfl rfl (o_pickF rfl rfl) ?_
      refine f_stepP rfl rfl rfl (o_move rfl) ?_
      refine f_splitL 25 rfl (fun g25 => ?_) (fun g25 => ?_)
      · skip
        refine f_stepN rfl rfl rfl rfl rfl rfl ?_
        refine f_stepN rfl rfl rfl rfl rfl rfl ?_
        refine f_stepP rfl rfl rfl (o_pickT rfl rfl) ?_
        refine f_stepP rfl rfl rfl (o_move rfl) ?_
        refine f_stepN rfl rfl rfl rfl rfl rfl ?_
        refine f_stepN rfl rfl rfl rfl rfl rfl ?_
        refine f_stepN rfl rfl rfl rfl rfl rfl ?_
        refine f_stepN rfl rfl rfl rfl rfl rfl ?_
        refine f_stepP rfl rfl rfl (o_pickT rfl rfl) ?_
        refine f_done ?_
        refine f_tn (kh7 _ _ ?_)
        clear kh7
        refine f_condT rfl ?_
        refine f_seq fun K9 kh9 => ?_
        refine f_region ?_
        refine f_stepP rfl rfl rfl (o_assign rfl) ?_
        refine f_done ?_
        refine f_tn (kh9 _ _ ?_)
        clear kh9
        refine f_ret ?_
        refine f_tr ?_
        exact f_fin1 [] Try.results22 rfl Sub.nil ⟨by unfold flooked; rw [if_neg (by simpa using c15), if_pos (by omega)], rfl⟩
      · skip
        refine f_stepPY rfl rfl rfl rfl rfl (o_move rfl) ?_
        refine f_stepPY rfl rfl rfl rfl rfl (o_lss rfl rfl) ?_
        refine f_stepP rfl rfl rfl (o_pickF rfl rfl) ?_
        refine f_stepP rfl rfl rfl (o_move rfl) ?_
        refine f_splitL 29 rfl (fun g29 => ?_) (fun g29 => ?_)
        · skip
          refine f_stepN rfl rfl rfl rfl rfl rfl ?_
          refine f_stepN rfl rfl rfl rfl rfl rfl ?_
          refine f_stepN rfl rfl rfl rfl rfl rfl ?_
          refine f_stepN rfl rfl rfl rfl rfl rfl ?_
          refine f_stepP rfl rfl rfl (o_pickT rfl rfl) ?_
          refine f_done ?_
          refine f_tn (kh7 _ _ ?_)
          clear kh7
          refine f_condT rfl ?_
          refine f_seq fun K10 kh10 => ?_
          refine f_region ?_
          refine f_stepP rfl rfl rfl (o_assign rfl) ?_
          refine f_done ?_
          refine f_tn (kh10 _ _ ?_)
          clear kh10
          refine f_ret ?_
          refine f_tr ?_
          exact f_fin1 [] Try.results22 rfl Sub.nil ⟨by unfold flooked; rw [if_neg (by simpa using c15), if_pos (by omega)], rfl⟩
        · skip
          refine f_stepPY rfl rfl rfl rfl rfl (o_move rfl) ?_
          refine f_stepPY rfl rfl rfl rfl rfl (o_field fa24_0 rfl) ?_
          refine f_stepPY rfl rfl rfl rfl rfl (o_load Try.isAgg3 rfl (rdA rfl)) ?_
          refine f_stepPY rfl rfl rfl rfl rfl (o_geq rfl rfl) ?_
          refine f_stepP rfl rfl rfl (o_pickF rfl rfl) ?_
          refine f_done ?_
          refine f_tn (kh7 _ _ ?_)
          clear kh7
          refine f_cond rfl (fun c34 => ?_) (fun c34 => ?_)
          · skip
            refine f_seq fun K11 kh11 => ?_
            refine f_region ?_
            refine f_stepP rfl rfl rfl (o_assign rfl) ?_
            refine f_done ?_
            refine f_tn (kh11 _ _ ?_)
            clear kh11
            refine f_ret ?_
            refine f_tr ?_
            exact f_fin1 [] Try.results22 rfl Sub.nil ⟨by unfold flooked; rw [if_neg (by simpa using c15), if_pos (by omega)], rfl⟩
          · skip
            refine f_skip ?_
            refine f_tn (kh6 _ _ ?_)
            clear kh6
            refine f_seq fun K12 kh12 => ?_
            refine f_seq fun K13 kh13 => ?_
            refine f_region ?_
            refine f_stepP rfl rfl rfl (o_move rfl) ?_
            refine f_stepP rfl rfl rfl (o_move rfl) ?_
            refine f_stepP rfl rfl rfl (o_eql rfl rfl) ?_
            refine f_done ?_
            refine f_tn (kh13 _ _ ?_)
            clear kh13
            refine f_cond rfl (fun c37 => ?_) (fun c37 => ?_)
            · skip
              refine f_seq fun K14 kh14 => ?_
              refine f_region ?_
              refine f_stepP rfl rfl rfl (o_assign rfl) ?_
              refine f_done ?_
              refine f_tn (kh14 _ _ ?_)
              clear kh14
              refine f_ret ?_
              refine f_tr ?_
              exact f_fin1 [] Try.results22 rfl Sub.nil ⟨by unfold flooked; rw [if_neg (by simpa using c15), if_neg (by omega), if_pos (by omega)], rfl⟩
            · skip
              refine f_skip ?_
              refine f_tn (kh12 _ _ ?_)
              clear kh12
              refine f_seq fun K15 kh15 => ?_
              refine f_region ?_
              refine f_stepP rfl rfl rfl (o_assign rfl) ?_
              refine f_done ?_
              refine f_tn (kh15 _ _ ?_)
              clear kh15
              refine f_ret ?_
              exact f_fin1 [] Try.results22 rfl Sub.nil ⟨by unfold flooked; rw [if_neg (by simpa using c15), if_neg (by omega), if_neg (by omega)], rfl⟩

set_option maxRecDepth 100000 in
set_option maxHeartbeats 4000000 in
theorem reached_spec (n : Nat) (A : Option Addr) (l : List Arc) (cap : Nat) (s : Nat) (C : Option Addr) (f : List Int) (cc : Nat) (w : World) (hr : Ro (Fr w []) w A (l.flatMap arcCs)) (hn : NOk n l) (hs : s < n) (hC : Ro (Fr w []) w C (u32s f)) (hf : Fits l f) :
    Meets Try.prog 29 [.agg #[.int .i64 (n : Int), .slice A l.length cap], .int .i64 (s : Int), .slice C f.length cc] w [] (RchΦ n l s f) := by
  have hn1 := hn.n1
  have hel := hn.len
  have hfl := hf.len
  refine f_enter Try.func29 rfl Try.ntmps29 rfl Owns.nil ?_
  refine f_seq fun K1 kh1 => ?_
  refine f_region ?_
  refine f_step rfl rfl rfl (o_box rfl rfl fun b3 => ?_)
  refine f_stepP rfl rfl rfl (o_assign rfl) ?_
  refine f_stepP rfl rfl rfl (o_assign rfl) ?_
  refine f_done ?_
  refine f_tn (kh1 _ _ ?_)
  clear kh1
  refine f_seq fun K2 kh2 => ?_
  refine f_region ?_
  refine f_stepP rfl rfl rfl (o_field fa24_0 rfl) ?_
  refine f_stepP rfl rfl rfl (o_load Try.isAgg3 rfl (rdA rfl)) ?_
  refine f_step rfl rfl rfl (o_make el31 rfl rfl n rfl (by omega) (by omega) ((List.replicate n false).map .bool) (bools_rep false n) fun b18 => ?_)
  refine f_stepP rfl rfl rfl (o_assign rfl) ?_
  refine f_done ?_
  refine f_tn (kh2 _ _ ?_)
  clear kh2
  refine f_seq fun K3 kh3 => ?_
  refine f_region ?_
  refine f_stepP rfl rfl rfl (o_field fa24_0 rfl) ?_
  refine f_stepP rfl rfl rfl (o_load Try.isAgg3 rfl (rdA rfl)) ?_
  refine f_step rfl rfl rfl (o_make el32 rfl rfl n rfl (by omega) (by omega) (ints (List.replicate n 0)) (ints0 n) fun b21 => ?_)
  refine f_stepP rfl rfl rfl (o_assign rfl) ?_
  refine f_done ?_
  refine f_tn (kh3 _ _ ?_)
  clear kh3
  refine f_seq fun K4 kh4 => ?_
  refine f_seq fun K5 kh5 => ?_
  refine f_region ?_
  refine f_stepP rfl rfl rfl (o_assign rfl) ?_
  refine f_done ?_
  refine f_tn (kh5 _ _ ?_)
  clear kh5
  refine f_block ?_
  refine f_loop (α := Nat) [1, 2, 3, 8, 9] (fun k => [(10, .int .i64 (k : Int))]) (fun k => [[(b18, blk ((List.replicate n false).map .bool) 4)], [(b21, blk (ints (mixL k (-1) (List.replicate n 0))) 3)], [(b3, blk [.int .i64 (n : Int), .slice A l.length cap] 24)]]) (fun k => k ≤ n) (fun k => n - k) (0) ?_ ?_ ?_ ?_
  · exact (by repeat (first | exact trivial | refine ⟨rfl, ?_⟩))
  · repeat (first | exact Sub.nil | refine Sub.pick ?_ | refine Sub.castO rfl ?_ | refine Sub.skip ?_)
  · exact Nat.zero_le _
  · rintro k hkn
    refine f_seq fun K6 kh6 => ?_
    refine f_seq fun K7 kh7 => ?_
    refine f_region ?_
    refine f_stepP rfl rfl rfl (o_move rfl) ?_
    refine f_stepP rfl rfl rfl (o_field fa24_0 rfl) ?_
    refine f_stepP rfl rfl rfl (o_load Try.isAgg3 rfl (rdA rfl)) ?_
    refine f_stepP rfl rfl rfl (o_lss rfl rfl) ?_
    refine f_done ?_
    refine f_tn (kh7 _ _ ?_)
    clear kh7
    refine f_cond rfl (fun c25 => ?_) (fun c25 => ?_)
    · skip
      refine f_skip ?_
      refine f_tn (kh6 _ _ ?_)
      clear kh6
      refine f_seq fun K8 kh8 => ?_
      refine f_block ?_
      refine f_region ?_
      refine f_stepP rfl rfl rfl (o_move rfl) ?_
      refine f_stepP rfl rfl rfl (o_move rfl) ?_
      have hk : k < n := by omega
      refine f_stepP rfl rfl rfl (o_idx sl32 rfl rfl (k) ⟨by omega, by omega, by first | omega | (simp; done) | (simp; omega)⟩) ?_
      refine f_step0 rfl rfl (o_store Try.sizeOf3 rfl rfl rfl rfl (by rw [ints_length, mixL_len (by simp; omega)]; simp; omega) (ints (mixL (k + 1) (-1) (List.replicate n 0))) (mixL_set (by simp; omega)) ?_)
      refine f_done ?_
      refine f_bn ?_
      refine f_tn (kh8 _ _ ?_)
      clear kh8
      refine f_region ?_
      refine f_stepP rfl rfl rfl (o_move rfl) ?_
      refine f_stepP rfl rfl rfl (o_add rfl rfl _ (wrap_i64 (by omega))) ?_
      refine f_stepP rfl rfl rfl (o_assign rfl) ?_
      refine f_done ?_
      refine f_tn (f_again (k + 1) (by first | omega | (dsimp only; omega) | (simp; omega)) (by omega) ?_ ?_ ?_)
      · exact (by repeat (first | exact trivial | refine ⟨rfl, ?_⟩))
      · exact (by repeat (first | exact trivial | refine ⟨rfl, ?_⟩))
      · repeat (first | exact Sub.nil | refine Sub.pick ?_ | refine Sub.castO rfl ?_ | refine Sub.skip ?_)
    · skip
      refine f_exit ?_
      refine f_te ?_
      clear kh6
      refine f_te ?_
      refine f_be ?_
      refine f_tn (kh4 _ _ ?_)
      clear kh4
      refine f_seq fun K9 kh9 => ?_
      refine f_region ?_
      refine f_stepP rfl rfl rfl (o_move rfl) ?_
      refine f_stepP rfl rfl rfl (o_move rfl) ?_
      refine f_stepP rfl rfl rfl (o_idx sl31 rfl rfl (s) ⟨by omega, by omega, by first | omega | (simp; done) | (simp; omega)⟩) ?_
      refine f_step0 rfl rfl (o_store Try.sizeOf4 rfl rfl rfl rfl (by simp; omega) (((List.replicate n false).set s true).map .bool) (bools_set _ _ _) ?_)
      refine f_done ?_
      refine f_tn (kh9 _ _ ?_)
      clear kh9
      refine f_seq fun K10 kh10 => ?_
      refine f_region ?_
      refine f_stepP rfl rfl rfl (o_move rfl) ?_
      refine f_step rfl rfl rfl (o_slice1 el32 (by omega) rfl rfl rfl fun b35 => ?_)
      refine f_stepP rfl rfl rfl (o_assign rfl) ?_
      refine f_done ?_
      refine f_tn (kh10 _ _ ?_)
      clear kh10
      refine f_seq fun K11 kh11 => ?_
      refine f_seq fun K12 kh12 => ?_
      refine f_region ?_
      refine f_stepP rfl rfl rfl (o_assign rfl) ?_
      refine f_done ?_
      refine f_tn (kh12 _ _ ?_)
      clear kh12
      refine f_block ?_
      have hbm : mixL k (-1) (List.replicate n 0) = List.replicate n (-1) := by rw [mixL_all (by simp; omega), List.length_replicate]
      rw [hbm]
      refine f_loop (α := Nat × List Bool × List Int × List Nat × Value × Seg) [2, 3, 8, 9] (fun ⟨k, sd, by_, q, wv, wm⟩ => [(12, .int .i64 (k : Int)), (11, wv)]) (fun ⟨k, sd, by_, q, wv, wm⟩ => [[(b18, blk (sd.map .bool) 4)], [(b21, blk (ints by_) 3)], [(b3, blk [.int .i64 (n : Int), .slice A l.length cap] 24)], wm]) (fun ⟨k, sd, by_, q, wv, wm⟩ => k ≤ q.length ∧ Rch n l s f sd by_ q (fun j => kfrom l j ∈ q.take k) ∧ Own 3 1 wv q.length (ints (nI q)) wm) (fun ⟨k, sd, by_, q, wv, wm⟩ => n - k) (0, (List.replicate n false).set s true, List.replicate n (-1), [s], .slice (some ⟨b35, 0, none⟩) 1 1, [(b35, blk [.int .i64 (s : Int)] 3)]) ?_ ?_ ?_ ?_
      · exact (by repeat (first | exact trivial | refine ⟨rfl, ?_⟩))
      · repeat (first | exact Sub.nil | refine Sub.pick ?_ | refine Sub.castO rfl ?_ | refine Sub.skip ?_)
      · exact ⟨Nat.zero_le _, (Rch.begin hs).weaken fun k _ h => by simp at h, Own.mk rfl (by decide)⟩
      · rintro ⟨k, sd, by_, q, wv, wm⟩ ⟨hkq, hR, hW⟩
        obtain ⟨Aw, cw, rfl, hcw⟩ := hW.val
        have hqn := hR.qlen
        refine f_seq fun K13 kh13 => ?_
        refine f_seq fun K14 kh14 => ?_
        refine f_region ?_
        refine f_stepP rfl rfl rfl (o_move rfl) ?_
        refine f_stepP rfl rfl rfl (o_move rfl) ?_
        refine f_stepP rfl rfl rfl (o_len sl32 rfl) ?_
        refine f_stepP rfl rfl rfl (o_lss rfl rfl) ?_
        refine f_done ?_
        refine f_tn (kh14 _ _ ?_)
        clear kh14
        refine f_cond rfl (fun c39 => ?_) (fun c39 => ?_)
        · skip
          refine f_skip ?_
          refine f_tn (kh13 _ _ ?_)
          clear kh13
          refine f_seq fun K15 kh15 => ?_
          refine f_block ?_
          refine f_seq fun K16 kh16 => ?_
          refine f_region ?_
          refine f_stepP rfl rfl rfl (o_move rfl) ?_
          refine f_stepP rfl rfl rfl (o_move rfl) ?_
          have hkl : k < q.length := by omega
          obtain ⟨bw, sw, rfl, rfl⟩ := hW.at_ (by omega)
          obtain ⟨v, hvd⟩ : ∃ v, q[k] = v := ⟨_, rfl⟩
          refine f_stepP rfl rfl rfl (o_idx sl32 rfl rfl (k) ⟨by omega, by omega, by first | omega | (simp; done) | (simp; omega)⟩) ?_
          refine f_stepP rfl rfl rfl (o_load Try.isAgg3 rfl (rdA (v := .int .i64 (v : Int)) (app_get (by rw [nI_get hkl, hvd])))) ?_
          refine f_stepP rfl rfl rfl (o_assign rfl) ?_
          refine f_done ?_
          refine f_tn (kh16 _ _ ?_)
          clear kh16
          refine f_seq fun K17 kh17 => ?_
          refine f_region ?_
          refine f_stepP rfl rfl rfl (o_assign rfl) ?_
          refine f_done ?_
          refine f_tn (kh17 _ _ ?_)
          clear kh17
          refine f_block ?_
          refine f_loop (α := Nat × List Bool × List Int × List Nat × Value × Seg) [2, 3, 8, 9, 12, 13] (fun ⟨i, sd2, by2, q2, wv2, wm2⟩ => [(14, .int .i64 (i : Int)), (11, wv2)]) (fun ⟨i, sd2, by2, q2, wv2, wm2⟩ => [[(b18, blk (sd2.map .bool) 4)], [(b21, blk (ints by2) 3)], [(b3, blk [.int .i64 (n : Int), .slice A l.length cap] 24)], wm2]) (fun ⟨i, sd2, by2, q2, wv2, wm2⟩ => i ≤ l.length ∧ Rch n l s f sd2 by2 q2 (fun j => kfrom l j ∈ q.take k ∨ (kfrom l j = v ∧ j < 2 * i)) ∧ q2.take (k + 1) = q.take (k + 1) ∧ k < q2.length ∧ Own 3 1 wv2 q2.length (ints (nI q2)) wm2) (fun ⟨i, sd2, by2, q2, wv2, wm2⟩ => l.length - i) (0, sd, by_, q, .slice (some ⟨bw, 0, none⟩) q.length cw, [(bw, blk (ints (nI q) ++ sw) 3)]) ?_ ?_ ?_ ?_
          · exact (by repeat (first | exact trivial | refine ⟨rfl, ?_⟩))
          · repeat (first | exact Sub.nil | refine Sub.pick ?_ | refine Sub.castO rfl ?_ | refine Sub.skip ?_)
          · exact ⟨Nat.zero_le _, hR.weaken fun j _ hP => by
            rcases hP with hP | ⟨_, hP⟩
            · exact hP
            · omega, rfl, hkl, hW⟩
          · rintro ⟨i, sd2, by2, q2, wv2, wm2⟩ ⟨hil, hR2, hq2, hkl2, hW2⟩
            have hq2n := hR2.qlen
            have hls2 := hR2.ls
            have hlb2 := hR2.lb
            have hvm2 : v ∈ q2 := List.mem_of_mem_take (i := k + 1) (by rw [hq2, List.take_succ_eq_append_getElem hkl]; simp [hvd])
            refine f_seq fun K18 kh18 => ?_
            refine f_seq fun K19 kh19 => ?_
            refine f_region ?_
            refine f_stepP rfl rfl rfl (o_move rfl) ?_
            refine f_stepP rfl rfl rfl (o_field fa24_1 rfl) ?_
            refine f_stepP rfl rfl rfl (o_load Try.isAgg22 rfl (rdA rfl)) ?_
            refine f_stepP rfl rfl rfl (o_len sl22 rfl) ?_
            refine f_stepP rfl rfl rfl (o_lss rfl rfl) ?_
            refine f_done ?_
            refine f_tn (kh19 _ _ ?_)
            clear kh19
            refine f_cond rfl (fun c50 => ?_) (fun c50 => ?_)
            · skip
              refine f_skip ?_
              refine f_tn (kh18 _ _ ?_)
              clear kh18
              refine f_seq fun K20 kh20 => ?_
              refine f_block ?_
              refine f_seq fun K21 kh21 => ?_
              refine f_region ?_
              refine f_stepP rfl rfl rfl (o_field fa24_1 rfl) ?_
              refine f_stepP rfl rfl rfl (o_load Try.isAgg22 rfl (rdA rfl)) ?_
              refine f_stepP rfl rfl rfl (o_move rfl) ?_
              have hi : i < l.length := by omega
              obtain ⟨bq, off, rfl, hS, hc⟩ := hr (flat_ne arcCs arcCs_len (by omega) hi)
              obtain ⟨bf, of_, rfl, hSf, hcf⟩ := hC (map_ne (k := i) (by omega))
              have hat := arcAt_eq hi
              have hgi := hn.good i hi
              have hk0 : 2 * i < 2 * l.length := by omega
              have hk1 : 2 * i + 1 < 2 * l.length := by omega
              have hs0 : l[i].src = ((kfrom l (2 * i) : Nat) : Int) := by rw [kfrom_even, hat]; omega
              have hd0 : l[i].dst = ((kto l (2 * i) : Nat) : Int) := by rw [kto_even, hat]; omega
              have hs1 : l[i].src = ((kto l (2 * i + 1) : Nat) : Int) := by rw [kto_odd, hat]; omega
              have hd1 : l[i].dst = ((kfrom l (2 * i + 1) : Nat) : Int) := by rw [kfrom_odd, hat]; omega
              have hl0 : kleft l f (2 * i) = l[i].wt - flAt f i := by rw [kleft_even, hat]
              have hl1 : kleft l f (2 * i + 1) = flAt f i := kleft_odd l f i
              refine f_stepP rfl rfl rfl (o_idx sl22 rfl rfl (off + i * 3) ⟨by omega, by omega, by first | omega | (simp; done) | (simp; omega)⟩) ?_
              refine f_stepP rfl rfl rfl (o_loadA (vs := arcCs l[i]) Try.isAgg52 Try.sizeOf52 rfl rfl (roElem arcCs_len hS hc hi)) ?_
              refine f_step rfl rfl rfl (o_alloc Try.zeroValue52 rfl fun b15 => ?_)
              refine f_step0 rfl rfl (o_storeA Try.sizeOf52 rfl rfl rfl rfl (by first | exact Nat.le_of_ble_eq_true rfl | (simp; done) | (simp; omega)) (arcCs l[i]) rfl ?_)
              refine f_done ?_
              refine f_tn (kh21 _ _ ?_)
              clear kh21
              refine f_meet (α := List Bool × List Int × List Nat × Value × Seg) [2, 3, 8, 9, 12, 13, 14, 15] (fun ⟨sd3, by3, q3, wv3, wm3⟩ => [(11, wv3)]) (fun ⟨sd3, by3, q3, wv3, wm3⟩ => [[(b18, blk (sd3.map .bool) 4)], [(b21, blk (ints by3) 3)], [(b3, blk [.int .i64 (n : Int), .slice (some ⟨bq, off, none⟩) l.length cap] 24)], wm3, [(b15, blk (arcCs l[i]) 52)]]) (fun ⟨sd3, by3, q3, wv3, wm3⟩ => Rch n l s f sd3 by3 q3 (fun j => kfrom l j ∈ q.take k ∨ (kfrom l j = v ∧ j < 2 * i + 1)) ∧ q3.take (k + 1) = q.take (k + 1) ∧ k < q3.length ∧ Own 3 1 wv3 q3.length (ints (nI q3)) wm3) ?_ ?_
              · intro K22 kh22
                refine f_seq fun K23 kh23 => ?_
                refine f_regionS rfl (by decide +kernel) ?_
                refine f_stillP rfl rfl rfl (o_field fa52_0 rfl) ?_
                refine f_stillP rfl rfl rfl (o_load Try.isAgg3 rfl (rdA rfl)) ?_
                refine f_stillP rfl rfl rfl (o_move rfl) ?_
                refine f_stillP rfl rfl rfl (o_eql rfl rfl) ?_
                refine f_stillP rfl rfl rfl (o_move rfl) ?_
                refine f_splitS 62 rfl (fun g62 => ?_) (fun g62 => ?_)
                · skip
                  refine f_stillPY rfl rfl rfl rfl rfl (o_move rfl) ?_
                  refine f_stillPY rfl rfl rfl rfl rfl (o_field fa52_1 rfl) ?_
                  refine f_stillPY rfl rfl rfl rfl rfl (o_load Try.isAgg3 rfl (rdA rfl)) ?_
                  refine f_stillPY rfl rfl rfl rfl rfl (o_idx sl31 rfl rfl (kto l (2 * i)) ⟨by omega, by omega, by first | omega | (simp; done) | (simp; omega)⟩) ?_
                  refine f_stillPY rfl rfl rfl rfl rfl (o_load Try.isAgg4 rfl (rdA (bools_at (by omega)))) ?_
                  refine f_stillPY rfl rfl rfl rfl rfl (o_not rfl) ?_
                  refine f_stillP rfl rfl rfl (o_pickT rfl rfl) ?_
                  refine f_stillP rfl rfl rfl (o_move rfl) ?_
                  refine f_splitSB 70 rfl (fun g70 => ?_) (fun g70 => ?_)
                  · skip
                    refine f_stillPY rfl rfl rfl rfl rfl (o_move rfl) ?_
                    refine f_stillPY rfl rfl rfl rfl rfl (o_move rfl) ?_
                    refine f_stillPY rfl rfl rfl rfl rfl (o_idx sl42 rfl rfl (of_ + i) ⟨by omega, by omega, by first | omega | (simp; done) | (simp; omega)⟩) ?_
                    refine f_stillPY rfl rfl rfl rfl rfl (o_load Try.isAgg50 rfl (rdS hSf (hcf i _ (u32s_at (by omega))))) ?_
                    refine f_stillPY rfl rfl rfl rfl rfl (o_field fa52_2 rfl) ?_
                    refine f_stillPY rfl rfl rfl rfl rfl (o_load Try.isAgg50 rfl (rdA rfl)) ?_
                    refine f_stillPY rfl rfl rfl rfl rfl (o_lss rfl rfl) ?_
                    refine f_stillP rfl rfl rfl (o_pickT rfl rfl) ?_
                    refine f_stillD ?_
                    refine f_tn (kh23 _ _ ?_)
                    clear kh23
                    refine f_cond rfl (fun c78 => ?_) (fun c78 => ?_)
                    · skip
                      refine f_seq fun K24 kh24 => ?_
                      refine f_regionH [[(b15, blk (arcCs l[i]) 52)]] rfl ?_
                      refine f_take 0 rfl (by decide +kernel) rfl rfl rfl (by repeat (first | exact Sub.nil | refine Sub.pick ?_ | refine Sub.castO rfl ?_ | refine Sub.skip ?_)) (o_move rfl) ?_
                      refine f_take 1 rfl (by decide +kernel) rfl rfl rfl (by repeat (first | exact Sub.nil | refine Sub.pick ?_ | refine Sub.castO rfl ?_ | refine Sub.skip ?_)) (o_field fa52_1 rfl) ?_
                      refine f_take 2 rfl (by decide +kernel) rfl rfl rfl (by repeat (first | exact Sub.nil | refine Sub.pick ?_ | refine Sub.castO rfl ?_ | refine Sub.skip ?_)) (o_load Try.isAgg3 rfl (rdA rfl)) ?_
                      refine f_take 3 rfl (by decide +kernel) rfl rfl rfl (by repeat (first | exact Sub.nil | refine Sub.pick ?_ | refine Sub.castO rfl ?_ | refine Sub.skip ?_)) (o_move rfl) ?_
                      refine f_take 4 rfl (by decide +kernel) rfl rfl rfl (by repeat (first | exact Sub.nil | refine Sub.pick ?_ | refine Sub.castO rfl ?_ | refine Sub.skip ?_)) (o_field fa52_1 rfl) ?_
                      refine f_take 5 rfl (by decide +kernel) rfl rfl rfl (by repeat (first | exact Sub.nil | refine Sub.pick ?_ | refine Sub.castO rfl ?_ | refine Sub.skip ?_)) (o_load Try.isAgg3 rfl (rdA rfl)) ?_
                      refine f_take 6 rfl (by decide +kernel) rfl rfl rfl (by repeat (first | exact Sub.nil | refine Sub.pick ?_ | refine Sub.castO rfl ?_ | refine Sub.skip ?_)) (o_move rfl) ?_
                      refine f_take 7 rfl (by decide +kernel) rfl rfl rfl (by repeat (first | exact Sub.nil | refine Sub.pick ?_ | refine Sub.castO rfl ?_ | refine Sub.skip ?_)) (o_mul rfl rfl _ (show IntKind.i64.wrap (2 * (i : Int)) = ((2 * i : Nat) : Int) from by rw [wrap_i64 (by omega)]; omega)) ?_
                      refine f_take 8 rfl (by decide +kernel) rfl rfl rfl (by repeat (first | exact Sub.nil | refine Sub.pick ?_ | refine Sub.castO rfl ?_ | refine Sub.skip ?_)) (o_idx sl31 rfl rfl (kto l (2 * i)) ⟨by omega, by omega, by first | omega | (simp; done) | (simp; omega)⟩) ?_
                      refine f_only0 9 rfl (by decide +kernel) rfl rfl (o_store Try.sizeOf4 rfl rfl rfl rfl (by rw [List.length_map]; omega) ((sd2.set (kto l (2 * i)) true).map .bool) (bools_set _ _ _) ⟨(by repeat (first | exact Sub.nil | refine Sub.pick ?_ | refine Sub.castO rfl ?_ | refine Sub.skip ?_)), ?_⟩)
                      refine f_take 10 rfl (by decide +kernel) rfl rfl rfl (by repeat (first | exact Sub.nil | refine Sub.pick ?_ | refine Sub.castO rfl ?_ | refine Sub.skip ?_)) (o_idx sl32 rfl rfl (kto l (2 * i)) ⟨by omega, by omega, by first | omega | (simp; done) | (simp; omega)⟩) ?_
                      refine f_only0 11 rfl (by decide +kernel) rfl rfl (o_store Try.sizeOf3 rfl rfl rfl rfl (by rw [ints_length]; omega) (ints (by2.set (kto l (2 * i)) ((2 * i : Nat) : Int))) (ints_put ..) ⟨(by repeat (first | exact Sub.nil | refine Sub.pick ?_ | refine Sub.castO rfl ?_ | refine Sub.skip ?_)), ?_⟩)
                      refine f_over (by decide +kernel) ?_
                      refine f_tn (kh24 _ _ ?_)
                      clear kh24
                      refine f_region ?_
                      refine f_stepP rfl rfl rfl (o_move rfl) ?_
                      refine f_stepP rfl rfl rfl (o_field fa52_1 rfl) ?_
                      refine f_stepP rfl rfl rfl (o_load Try.isAgg3 rfl (rdA rfl)) ?_
                      refine f_step rfl rfl rfl (o_slice1 el32 (by omega) rfl rfl rfl fun b92 => ?_)
                      refine f_step rfl rfl rfl (o_append el32 rfl rfl hW2 (ys := [.int .i64 l[i].dst]) ⟨(rdA rfl), trivial⟩ rfl rfl (by omega) (by omega) fun v93 m93 o93 => ?_)
                      rw [hd0] at o93
                      refine f_stepP rfl rfl rfl (o_assign rfl) ?_
                      refine f_done ?_
                      refine f_tn (kh22 _ _ (sd2.set (kto l (2 * i)) true, by2.set (kto l (2 * i)) ((2 * i : Nat) : Int), q2 ++ [kto l (2 * i)], v93, m93) ⟨(hR2.see hn.net hk0 (by rw [show kfrom l (2 * i) = v by omega]; exact hvm2) (by simpa only [Bool.not_eq_true'] using g70) (by omega)).weaken (fun j hj hP => by
                        rcases hP with hP | ⟨hP, hlt⟩
                        · exact .inl (.inl hP)
                        · by_cases e' : j = 2 * i
                          · exact .inr e'
                          · exact .inl (.inr ⟨hP, by omega⟩)), by rw [List.take_append_of_le_length (by omega)]; exact hq2, by rw [List.length_append]; omega, by rw [nI_snoc, List.length_append]; exact o93⟩ ?_ ?_ ?_)
                      · exact (by repeat (first | exact trivial | refine ⟨rfl, ?_⟩))
                      · exact (by repeat (first | exact trivial | refine ⟨rfl, ?_⟩))
                      · repeat (first | exact Sub.nil | refine Sub.pick ?_ | refine Sub.castO rfl ?_ | refine Sub.skip ?_)
                    · skip
                      refine f_skip ?_
                      refine f_tn (kh22 _ _ (sd2, by2, q2, wv2, wm2) ⟨(hR2.pass (v := v) (k := 2 * i) (fun hv => by first | (exact .inl (by simpa using g70)) | (exact .inr (by omega)) | (exact absurd (show l[i].src = (v : Int) by omega) g62))).weaken (fun j hj hP => by
                        rcases hP with hP | ⟨hP, hlt⟩
                        · exact .inl (.inl hP)
                        · by_cases e' : j = 2 * i
                          · exact .inr ⟨e', hP⟩
                          · exact .inl (.inr ⟨hP, by omega⟩)), hq2, hkl2, hW2⟩ ?_ ?_ ?_)
                      · exact (by repeat (first | exact trivial | refine ⟨rfl, ?_⟩))
                      · exact (by repeat (first | exact trivial | refine ⟨rfl, ?_⟩))
                      · repeat (first | exact Sub.nil | refine Sub.pick ?_ | refine Sub.castO rfl ?_ | refine Sub.skip ?_)
                  · skip
                    refine f_stillN rfl rfl rfl rfl rfl rfl ?_
                    refine f_stillN rfl rfl rfl rfl rfl rfl ?_
                    refine f_stillN rfl rfl rfl rfl rfl rfl ?_
                    refine f_stillN rfl rfl rfl rfl rfl rfl ?_
                    refine f_stillN rfl rfl rfl rfl rfl rfl ?_
                    refine f_stillN rfl rfl rfl rfl rfl rfl ?_
                    refine f_stillN rfl rfl rfl rfl rfl rfl ?_
                    refine f_stillP rfl rfl rfl (o_pickF rfl rfl) ?_
                    refine f_stillD ?_
                    refine f_tn (kh23 _ _ ?_)
                    clear kh23
                    refine f_condF rfl ?_
                    refine f_skip ?_
                    refine f_tn (kh22 _ _ (sd2, by2, q2, wv2, wm2) ⟨(hR2.pass (v := v) (k := 2 * i) (fun hv => by first | (exact .inl (by simpa using g70)) | (exact .inr (by omega)) | (exact absurd (show l[i].src = (v : Int) by omega) g62))).weaken (fun j hj hP => by
                      rcases hP with hP | ⟨hP, hlt⟩
                      · exact .inl (.inl hP)
                      · by_cases e' : j = 2 * i
                        · exact .inr ⟨e', hP⟩
                        · exact .inl (.inr ⟨hP, by omega⟩)), hq2, hkl2, hW2⟩ ?_ ?_ ?_)
                    · exact (by repeat (first | exact trivial | refine ⟨rfl, ?_⟩))
                    · exact (by repeat (first | exact trivial | refine ⟨rfl, ?_⟩))
                    · repeat (first | exact Sub.nil | refine Sub.pick ?_ | refine Sub.castO rfl ?_ | refine Sub.skip ?_)
                · skip
                  refine f_stillN rfl rfl rfl rfl rfl rfl ?_
                  refine f_stillN rfl rfl rfl rfl rfl rfl ?_
                  refine f_stillN rfl rfl rfl rfl rfl rfl ?_
                  refine f_stillN rfl rfl rfl rfl rfl rfl ?_
                  refine f_stillN rfl rfl rfl rfl rfl rfl ?_
                  refine f_stillN rfl rfl rfl rfl rfl rfl ?_
                  refine f_stillP rfl rfl rfl (o_pickF rfl rfl) ?_
                  refine f_stillP rfl rfl rfl (o_move rfl) ?_
                  refine f_stillN rfl rfl rfl rfl rfl rfl ?_
                  refine f_stillN rfl rfl rfl rfl rfl rfl ?_
                  refine f_stillN rfl rfl rfl rfl rfl rfl ?_
                  refine f_stillN rfl rfl rfl rfl rfl rfl ?_
                  refine f_stillN rfl rfl rfl rfl rfl rfl ?_
                  refine f_stillN rfl rfl rfl rfl rfl rfl ?_
                  refine f_stillN rfl rfl rfl rfl rfl rfl ?_
                  refine f_stillP rfl rfl rfl (o_pickF rfl rfl) ?_
                  refine f_stillD ?_
                  refine f_tn (kh23 _ _ ?_)
                  clear kh23
                  refine f_condF rfl ?_
                  refine f_skip ?_
                  refine f_tn (kh22 _ _ (sd2, by2, q2, wv2, wm2) ⟨(hR2.pass (v := v) (k := 2 * i) (fun hv => by first | (exact .inl (by simpa using g70)) | (exact .inr (by omega)) | (exact absurd (show l[i].src = (v : Int) by omega) g62))).weaken (fun j hj hP => by
                    rcases hP with hP | ⟨hP, hlt⟩
                    · exact .inl (.inl hP)
                    · by_cases e' : j = 2 * i
                      · exact .inr ⟨e', hP⟩
                      · exact .inl (.inr ⟨hP, by omega⟩)), hq2, hkl2, hW2⟩ ?_ ?_ ?_)
                  · exact (by repeat (first | exact trivial | refine ⟨rfl, ?_⟩))
                  · exact (by repeat (first | exact trivial | refine ⟨rfl, ?_⟩))
                  · repeat (first | exact Sub.nil | refine Sub.pick ?_ | refine Sub.castO rfl ?_ | refine Sub.skip ?_)
              · rintro ⟨sd3, by3, q3, wv3, wm3⟩ ⟨hR3, hq3, hkl3, hW3⟩
                have hq3n := hR3.qlen
                have hls3 := hR3.ls
                have hlb3 := hR3.lb
                have hvm3 : v ∈ q3 := List.mem_of_mem_take (i := k + 1) (by rw [hq3, List.take_succ_eq_append_getElem hkl]; simp [hvd])
                refine f_seq fun K25 kh25 => ?_
                refine f_region ?_
                refine f_stepP rfl rfl rfl (o_field fa52_1 rfl) ?_
                refine f_stepP rfl rfl rfl (o_load Try.isAgg3 rfl (rdA rfl)) ?_
                refine f_stepP rfl rfl rfl (o_move rfl) ?_
                refine f_stepP rfl rfl rfl (o_eql rfl rfl) ?_
                refine f_stepP rfl rfl rfl (o_move rfl) ?_
                refine f_splitL 98 rfl (fun g98 => ?_) (fun g98 => ?_)
                · skip
                  refine f_stepPY rfl rfl rfl rfl rfl (o_move rfl) ?_
                  refine f_stepPY rfl rfl rfl rfl rfl (o_field fa52_0 rfl) ?_
                  refine f_stepPY rfl rfl rfl rfl rfl (o_load Try.isAgg3 rfl (rdA rfl)) ?_
                  refine f_stepPY rfl rfl rfl rfl rfl (o_idx sl31 rfl rfl (kto l (2 * i + 1)) ⟨by omega, by omega, by first | omega | (simp; done) | (simp; omega)⟩) ?_
                  refine f_stepPY rfl rfl rfl rfl rfl (o_load Try.isAgg4 rfl (rdA (bools_at (by omega)))) ?_
                  refine f_stepPY rfl rfl rfl rfl rfl (o_not rfl) ?_
                  refine f_stepP rfl rfl rfl (o_pickT rfl rfl) ?_
                  refine f_stepP rfl rfl rfl (o_move rfl) ?_
                  refine f_splitLB 106 rfl (fun g106 => ?_) (fun g106 => ?_)
                  · skip
                    refine f_stepPY rfl rfl rfl rfl rfl (o_move rfl) ?_
                    refine f_stepPY rfl rfl rfl rfl rfl (o_move rfl) ?_
                    refine f_stepPY rfl rfl rfl rfl rfl (o_idx sl42 rfl rfl (of_ + i) ⟨by omega, by omega, by first | omega | (simp; done) | (simp; omega)⟩) ?_
                    refine f_stepPY rfl rfl rfl rfl rfl (o_load Try.isAgg50 rfl (rdS hSf (hcf i _ (u32s_at (by omega))))) ?_
                    refine f_stepPY rfl rfl rfl rfl rfl (o_gtr rfl rfl) ?_
                    refine f_stepP rfl rfl rfl (o_pickT rfl rfl) ?_
                    refine f_done ?_
                    refine f_tn (kh25 _ _ ?_)
                    clear kh25
                    refine f_cond rfl (fun c112 => ?_) (fun c112 => ?_)
                    · skip
                      refine f_seq fun K26 kh26 => ?_
                      refine f_regionH [[(b15, blk (arcCs l[i]) 52)]] rfl ?_
                      refine f_take 0 rfl (by decide +kernel) rfl rfl rfl (by repeat (first | exact Sub.nil | refine Sub.pick ?_ | refine Sub.castO rfl ?_ | refine Sub.skip ?_)) (o_move rfl) ?_
                      refine f_take 1 rfl (by decide +kernel) rfl rfl rfl (by repeat (first | exact Sub.nil | refine Sub.pick ?_ | refine Sub.castO rfl ?_ | refine Sub.skip ?_)) (o_field fa52_0 rfl) ?_
                      refine f_take 2 rfl (by decide +kernel) rfl rfl rfl (by repeat (first | exact Sub.nil | refine Sub.pick ?_ | refine Sub.castO rfl ?_ | refine Sub.skip ?_)) (o_load Try.isAgg3 rfl (rdA rfl)) ?_
                      refine f_take 3 rfl (by decide +kernel) rfl rfl rfl (by repeat (first | exact Sub.nil | refine Sub.pick ?_ | refine Sub.castO rfl ?_ | refine Sub.skip ?_)) (o_move rfl) ?_
                      refine f_take 4 rfl (by decide +kernel) rfl rfl rfl (by repeat (first | exact Sub.nil | refine Sub.pick ?_ | refine Sub.castO rfl ?_ | refine Sub.skip ?_)) (o_field fa52_0 rfl) ?_
                      refine f_take 5 rfl (by decide +kernel) rfl rfl rfl (by repeat (first | exact Sub.nil | refine Sub.pick ?_ | refine Sub.castO rfl ?_ | refine Sub.skip ?_)) (o_load Try.isAgg3 rfl (rdA rfl)) ?_
                      refine f_take 6 rfl (by decide +kernel) rfl rfl rfl (by repeat (first | exact Sub.nil | refine Sub.pick ?_ | refine Sub.castO rfl ?_ | refine Sub.skip ?_)) (o_move rfl) ?_
                      refine f_take 7 rfl (by decide +kernel) rfl rfl rfl (by repeat (first | exact Sub.nil | refine Sub.pick ?_ | refine Sub.castO rfl ?_ | refine Sub.skip ?_)) (o_mul rfl rfl _ (show IntKind.i64.wrap (2 * (i : Int)) = ((2 * i : Nat) : Int) from by rw [wrap_i64 (by omega)]; omega)) ?_
                      refine f_take 8 rfl (by decide +kernel) rfl rfl rfl (by repeat (first | exact Sub.nil | refine Sub.pick ?_ | refine Sub.castO rfl ?_ | refine Sub.skip ?_)) (o_add rfl rfl _ (show IntKind.i64.wrap (((2 * i : Nat) : Int) + 1) = ((2 * i + 1 : Nat) : Int) from by rw [wrap_i64 (by omega)]; omega)) ?_
                      refine f_take 9 rfl (by decide +kernel) rfl rfl rfl (by repeat (first | exact Sub.nil | refine Sub.pick ?_ | refine Sub.castO rfl ?_ | refine Sub.skip ?_)) (o_idx sl31 rfl rfl (kto l (2 * i + 1)) ⟨by omega, by omega, by first | omega | (simp; done) | (simp; omega)⟩) ?_
                      refine f_only0 10 rfl (by decide +kernel) rfl rfl (o_store Try.sizeOf4 rfl rfl rfl rfl (by rw [List.length_map]; omega) ((sd3.set (kto l (2 * i + 1)) true).map .bool) (bools_set _ _ _) ⟨(by repeat (first | exact Sub.nil | refine Sub.pick ?_ | refine Sub.castO rfl ?_ | refine Sub.skip ?_)), ?_⟩)
                      refine f_take 11 rfl (by decide +kernel) rfl rfl rfl (by repeat (first | exact Sub.nil | refine Sub.pick ?_ | refine Sub.castO rfl ?_ | refine Sub.skip ?_)) (o_idx sl32 rfl rfl (kto l (2 * i + 1)) ⟨by omega, by omega, by first | omega | (simp; done) | (simp; omega)⟩) ?_
                      refine f_only0 12 rfl (by decide +kernel) rfl rfl (o_store Try.sizeOf3 rfl rfl rfl rfl (by rw [ints_length]; omega) (ints (by3.set (kto l (2 * i + 1)) ((2 * i + 1 : Nat) : Int))) (ints_put ..) ⟨(by repeat (first | exact Sub.nil | refine Sub.pick ?_ | refine Sub.castO rfl ?_ | refine Sub.skip ?_)), ?_⟩)
                      refine f_over (by decide +kernel) ?_
                      refine f_tn (kh26 _ _ ?_)
                      clear kh26
                      refine f_region ?_
                      refine f_stepP rfl rfl rfl (o_move rfl) ?_
                      refine f_stepP rfl rfl rfl (o_field fa52_0 rfl) ?_
                      refine f_stepP rfl rfl rfl (o_load Try.isAgg3 rfl (rdA rfl)) ?_
                      refine f_step rfl rfl rfl (o_slice1 el32 (by omega) rfl rfl rfl fun b127 => ?_)
                      refine f_step rfl rfl rfl (o_append el32 rfl rfl hW3 (ys := [.int .i64 l[i].src]) ⟨(rdA rfl), trivial⟩ rfl rfl (by omega) (by omega) fun v128 m128 o128 => ?_)
                      rw [hs1] at o128
                      refine f_stepP rfl rfl rfl (o_assign rfl) ?_
                      refine f_done ?_
                      refine f_bn ?_
                      refine f_tn (kh20 _ _ ?_)
                      clear kh20
                      refine f_region ?_
                      refine f_stepP rfl rfl rfl (o_move rfl) ?_
                      refine f_stepP rfl rfl rfl (o_add rfl rfl _ (wrap_i64 (by omega))) ?_
                      refine f_stepP rfl rfl rfl (o_assign rfl) ?_
                      refine f_done ?_
                      refine f_tn (f_again (i + 1, sd3.set (kto l (2 * i + 1)) true, by3.set (kto l (2 * i + 1)) ((2 * i + 1 : Nat) : Int), q3 ++ [kto l (2 * i + 1)], v128, m128) (by first | omega | (dsimp only; omega) | (simp; omega)) ⟨by omega, (hR3.see hn.net hk1 (by rw [show kfrom l (2 * i + 1) = v by omega]; exact hvm3) (by simpa only [Bool.not_eq_true'] using g106) (by omega)).weaken (fun j hj hP => by
                        rcases hP with hP | ⟨hP, hlt⟩
                        · exact .inl (.inl hP)
                        · by_cases e' : j = 2 * i + 1
                          · exact .inr e'
                          · exact .inl (.inr ⟨hP, by omega⟩)), by rw [List.take_append_of_le_length (by omega)]; exact hq3, by rw [List.length_append]; omega, by rw [nI_snoc, List.length_append]; exact o128⟩ ?_ ?_ ?_)
                      · exact (by repeat (first | exact trivial | refine ⟨rfl, ?_⟩))
                      · exact (by repeat (first | exact trivial | refine ⟨rfl, ?_⟩))
                      · repeat (first | exact Sub.nil | refine Sub.pick ?_ | refine Sub.castO rfl ?_ | refine Sub.skip ?_)
                    · skip
                      refine f_skip ?_
                      refine f_bn ?_
                      refine f_tn (kh20 _ _ ?_)
                      clear kh20
                      refine f_region ?_
                      refine f_stepP rfl rfl rfl (o_move rfl) ?_
                      refine f_stepP rfl rfl rfl (o_add rfl rfl _ (wrap_i64 (by omega))) ?_
                      refine f_stepP rfl rfl rfl (o_assign rfl) ?_
                      refine f_done ?_
                      refine f_tn (f_again (i + 1, sd3, by3, q3, wv3, wm3) (by first | omega | (dsimp only; omega) | (simp; omega)) ⟨by omega, (hR3.pass (v := v) (k := 2 * i + 1) (fun hv => by first | (exact .inl (by simpa using g106)) | (exact .inr (by omega)) | (exact absurd (show l[i].dst = (v : Int) by omega) g98))).weaken (fun j hj hP => by
                        rcases hP with hP | ⟨hP, hlt⟩
                        · exact .inl (.inl hP)
                        · by_cases e' : j = 2 * i + 1
                          · exact .inr ⟨e', hP⟩
                          · exact .inl (.inr ⟨hP, by omega⟩)), hq3, hkl3, hW3⟩ ?_ ?_ ?_)
                      · exact (by repeat (first | exact trivial | refine ⟨rfl, ?_⟩))
                      · exact (by repeat (first | exact trivial | refine ⟨rfl, ?_⟩))
                      · repeat (first | exact Sub.nil | refine Sub.pick ?_ | refine Sub.castO rfl ?_ | refine Sub.skip ?_)
                  · skip
                    refine f_stepN rfl rfl rfl rfl rfl rfl ?_
                    refine f_stepN rfl rfl rfl rfl rfl rfl ?_
                    refine f_stepN rfl rfl rfl rfl rfl rfl ?_
                    refine f_stepN rfl rfl rfl rfl rfl rfl ?_
                    refine f_stepN rfl rfl rfl rfl rfl rfl ?_
                    refine f_stepP rfl rfl rfl (o_pickF rfl rfl) ?_
                    refine f_done ?_
                    refine f_tn (kh25 _ _ ?_)
                    clear kh25
                    refine f_condF rfl ?_
                    refine f_skip ?_
                    refine f_bn ?_
                    refine f_tn (kh20 _ _ ?_)
                    clear kh20
                    refine f_region ?_
                    refine f_stepP rfl rfl rfl (o_move rfl) ?_
                    refine f_stepP rfl rfl rfl (o_add rfl rfl _ (wrap_i64 (by omega))) ?_
                    refine f_stepP rfl rfl rfl (o_assign rfl) ?_
                    refine f_done ?_
                    refine f_tn (f_again (i + 1, sd3, by3, q3, wv3, wm3) (by first | omega | (dsimp only; omega) | (simp; omega)) ⟨by omega, (hR3.pass (v := v) (k := 2 * i + 1) (fun hv => by first | (exact .inl (by simpa using g106)) | (exact .inr (by omega)) | (exact absurd (show l[i].dst = (v : Int) by omega) g98))).weaken (fun j hj hP => by
                      rcases hP with hP | ⟨hP, hlt⟩
                      · exact .inl (.inl hP)
                      · by_cases e' : j = 2 * i + 1
                        · exact .inr ⟨e', hP⟩
                        · exact .inl (.inr ⟨hP, by omega⟩)), hq3, hkl3, hW3⟩ ?_ ?_ ?_)
                    · exact (by repeat (first | exact trivial | refine ⟨rfl, ?_⟩))
                    · exact (by repeat (first | exact trivial | refine ⟨rfl, ?_⟩))
                    · repeat (first | exact Sub.nil | refine Sub.pick ?_ | refine Sub.castO rfl ?_ | refine Sub.skip ?_)
                · skip
                  refine f_stepN rfl rfl rfl rfl rfl rfl ?_
                  refine f_stepN rfl rfl rfl rfl rfl rfl ?_
                  refine f_stepN rfl rfl rfl rfl rfl rfl ?_
                  refine f_stepN rfl rfl rfl rfl rfl rfl ?_
                  refine f_stepN rfl rfl rfl rfl rfl rfl ?_
                  refine f_stepN rfl rfl rfl rfl rfl rfl ?_
                  refine f_stepP rfl rfl rfl (o_pickF rfl rfl) ?_
                  refine f_stepP rfl rfl rfl (o_move rfl) ?_
                  refine f_stepN rfl rfl rfl rfl rfl rfl ?_
                  refine f_stepN rfl rfl rfl rfl rfl rfl ?_
                  refine f_stepN rfl rfl rfl rfl rfl rfl ?_
                  refine f_stepN rfl rfl rfl rfl rfl rfl ?_
                  refine f_stepN rfl rfl rfl rfl rfl rfl ?_
                  refine f_stepP rfl rfl rfl (o_pickF rfl rfl) ?_
                  refine f_done ?_
                  refine f_tn (kh25 _ _ ?_)
                  clear kh25
                  refine f_condF rfl ?_
                  refine f_skip ?_
                  refine f_bn ?_
                  refine f_tn (kh20 _ _ ?_)
                  clear kh20
                  refine f_region ?_
                  refine f_stepP rfl rfl rfl (o_move rfl) ?_
                  refine f_stepP rfl rfl rfl (o_add rfl rfl _ (wrap_i64 (by omega))) ?_
                  refine f_stepP rfl rfl rfl (o_assign rfl) ?_
                  refine f_done ?_
                  refine f_tn (f_again (i + 1, sd3, by3, q3, wv3, wm3) (by first | omega | (dsimp only; omega) | (simp; omega)) ⟨by omega, (hR3.pass (v := v) (k := 2 * i + 1) (fun hv => by first | (exact .inl (by simpa using g106)) | (exact .inr (by omega)) | (exact absurd (show l[i].dst = (v : Int) by omega) g98))).weaken (fun j hj hP => by
                    rcases hP with hP | ⟨hP, hlt⟩
                    · exact .inl (.inl hP)
                    · by_cases e' : j = 2 * i + 1
                      · exact .inr ⟨e', hP⟩
                      · exact .inl (.inr ⟨hP, by omega⟩)), hq3, hkl3, hW3⟩ ?_ ?_ ?_)
                  · exact (by repeat (first | exact trivial | refine ⟨rfl, ?_⟩))
                  · exact (by repeat (first | exact trivial | refine ⟨rfl, ?_⟩))
                  · repeat (first | exact Sub.nil | refine Sub.pick ?_ | refine Sub.castO rfl ?_ | refine Sub.skip ?_)
            · skip
              refine f_exit ?_
              refine f_te ?_
              clear kh18
              refine f_te ?_
              refine f_be ?_
              refine f_bn ?_
              refine f_tn (kh15 _ _ ?_)
              clear kh15
              refine f_region ?_
              refine f_stepP rfl rfl rfl (o_move rfl) ?_
              refine f_stepP rfl rfl rfl (o_add rfl rfl _ (wrap_i64 (by omega))) ?_
              refine f_stepP rfl rfl rfl (o_assign rfl) ?_
              refine f_done ?_
              refine f_tn (f_again (k + 1, sd2, by2, q2, wv2, wm2) (by show n - (k + 1) < n - k; omega) ⟨by omega, hR2.weaken fun j hj hP => by
                rw [hq2, List.take_succ_eq_append_getElem hkl, List.mem_append, List.mem_singleton, hvd] at hP
                rcases hP with hP | hP
                · exact .inl hP
                · exact .inr ⟨hP, by omega⟩, hW2⟩ ?_ ?_ ?_)
              · exact (by repeat (first | exact trivial | refine ⟨rfl, ?_⟩))
              · exact (by repeat (first | exact trivial | refine ⟨rfl, ?_⟩))
              · repeat (first | exact Sub.nil | refine Sub.pick ?_ | refine Sub.castO rfl ?_ | refine Sub.skip ?_)
        · skip
          refine f_exit ?_
          refine f_te ?_
          clear kh13
          refine f_te ?_
          refine f_be ?_
          refine f_tn (kh11 _ _ ?_)
          clear kh11
          refine f_seq fun K27 kh27 => ?_
          refine f_region ?_
          refine f_stepP rfl rfl rfl (o_move rfl) ?_
          refine f_stepP rfl rfl rfl (o_move rfl) ?_
          refine f_stepP rfl rfl rfl (o_assign rfl) ?_
          refine f_stepP rfl rfl rfl (o_assign rfl) ?_
          refine f_done ?_
          refine f_tn (kh27 _ _ ?_)
          clear kh27
          refine f_ret ?_
          exact f_fin2 [[(b18, blk (sd.map .bool) 4)], [(b21, blk (ints by_) 3)]] Try.results29 rfl rfl (by repeat (first | exact Sub.nil | refine Sub.pick ?_ | refine Sub.castO rfl ?_)) ⟨b18, b21, sd, by_, q, rfl, rfl, hR.weaken fun j hj hP => by rw [List.take_of_length_le (by omega)]; exact hP⟩

end Go.Proofs.Ytnagjidfenfdbaa
