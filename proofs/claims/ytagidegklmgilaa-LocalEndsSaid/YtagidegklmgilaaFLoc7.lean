/- split.looked, split.Sizes, flyoverlaw10.LocalGains. -/
import Derived.Test.YtagidegklmgilaaFLoc5
import Derived.Test.YtagidegklmgilaaPBest
namespace Go.Proofs.Ytagidegklmgilaa
open Go Go.RowKit Fly
set_option linter.unusedVariables false
set_option linter.unusedSimpArgs false


theorem row_zero {L S R : List Int} {bd : Int} {v : Nat} {b : Mv} (hb : b = (0, 0, 0) ∨ 0 < b.2.2) : ∀ j, mvRow L S R bd v j b = (0, 0, 0) ∨ 0 < (mvRow L S R bd v j b).2.2
  | 0 => hb
  | j + 1 => by
    rw [mvRow_next]
    have ih := row_zero (L := L) (S := S) (R := R) (bd := bd) (v := v) hb j
    unfold mvUp
    split
    · rename_i hc
      refine .inr ?_
      have := hc.2.2.2
      rcases ih with h | h
      · rw [h] at this; exact this
      · simp only; omega
    · exact ih
theorem to_zero {L S : List Int} {rows : Nat → List Int} {bd : Int} : ∀ k, mvTo L S rows bd k = (0, 0, 0) ∨ 0 < (mvTo L S rows bd k).2.2
  | 0 => .inl rfl
  | k + 1 => by rw [mvTo_next]; exact row_zero (to_zero k) _
theorem imp_one {n : Nat} {l : List Arc} {L : List Int} {bd : Int} {y j : Nat} {g : Int} (h0 : readyE (n : Int) l L bd = 0) (hb : mvR n l L bd = ((y : Int), (j : Int), g)) (hg : 0 < g) : impR (n : Int) l L bd 1 = (tdy (L.set y (j : Int)), 1, 0) := by
  have e : mvOf n (fun v => nbrs (v : Int) l) bd (L, sizesL L) = ((y : Int), (j : Int), g) := hb
  unfold impR
  rw [if_neg (by rw [h0]; simp), if_neg (by omega), Int.toNat_natCast, show (1 : Int).toNat = 0 + 1 from rfl, impGo, e, if_pos hg]
  rfl
theorem ready_ok {N : Int} {l : List Arc} {L : List Int} {bd : Int} (h : readyE N l L bd = 0) : (lcount N l L).2 = 0 ∧ maxL (sizesL L) ≤ bd := by
  unfold readyE at h
  by_cases h1 : (lcount N l L).2 ≠ 0
  · rw [if_pos h1] at h; exact absurd h h1
  · rw [if_neg h1] at h
    by_cases h2 : bd < 1 ∨ 1024 < bd
    · rw [if_pos h2] at h; simp at h
    · rw [if_neg h2] at h
      by_cases h3 : bd < maxL (sizesL L)
      · rw [if_pos h3] at h; simp at h
      · exact ⟨by omega, by omega⟩
theorem lcount_is {n : Nat} {l : List Arc} {L : List Int} (hg : (gcheck (n : Int) l).2 = 0) (hr : rightB (n : Int) L = true) : lcount (n : Int) l L = ((cutN n l L : Int), 0) := by
  unfold lcount; rw [if_neg (by rw [hg]; simp), if_neg (by rw [hr]; simp), Int.toNat_natCast]
theorem gain_is {n : Nat} {l : List Arc} {L : List Int} (hg : (gcheck (n : Int) l).2 = 0) (hr : rightB (n : Int) L = true) {u k : Nat} (hu : u < n) (hk : k < (sizesL L).length) : gainR (n : Int) l L (u : Int) (k : Int) = (gn L (nbrs (u : Int) l) (lab L (u : Int)) (k : Int), 0) := by
  unfold gainR; rw [if_neg (by rw [lcount_is hg hr]; simp), if_neg (by omega)]
theorem sizes_cnt {L : List Int} {i : Nat} (h : i < (sizesL L).length) : (sizesL L)[i] = (cnt L i : Int) := by
  have h' : i < (maxL L + 1).toNat := by unfold sizesL at h; rwa [szs_len] at h
  exact szs_get h'

set_option maxRecDepth 100000 in
set_option maxHeartbeats 4000000 in
theorem slooked_spec (N : Int) (A B : Option Addr) (l : List Arc) (cap : Nat) (L : List Int) (cb : Nat) (w : World) (hr : Ro (Fr w []) w A (l.flatMap arcCs)) (hl : l.length ≤ 9223372036854775807) (hN : I64 N) (hok : ∀ x ∈ l, ArcOk x) (hL : Ro (Fr w []) w B (ints L)) (hm : L.length ≤ 9223372036854775807) :
    Meets Try.prog 23 [.agg #[.int .i64 N, .slice A l.length cap], .slice B L.length cb, .int .i64 1] w [] (fun u own' => u = .int .i64 (lcount N l L).2 ∧ own' = []) := by
  refine f_enter Try.func23 rfl Try.ntmps23 rfl Owns.nil ?_
  refine f_seq fun K1 kh1 => ?_
  refine f_region ?_
  refine f_step rfl rfl rfl (o_box rfl rfl fun b3 => ?_)
  refine f_stepP rfl rfl rfl (o_assign rfl) ?_
  refine f_done ?_
  refine f_tn (kh1 _ _ ?_)
  clear kh1
  refine f_seq fun K2 kh2 => ?_
  refine f_seq fun K3 kh3 => ?_
  refine f_region ?_
  refine f_stepP rfl rfl rfl (o_loadA (vs := [_, _]) Try.isAgg24 Try.sizeOf24 rfl rfl ⟨(rdA rfl), (rdA rfl), trivial⟩) ?_
  refine f_stepP rfl rfl rfl (o_move rfl) ?_
  refine f_step rfl rfl rfl (o_call Try.call8 rfl (fun w_ hp_ => Count_spec N A B l cap L cb w_ (hr.up0 hp_) hl hN hok (hL.up0 hp_) hm) ?_)
  rintro _ _ ⟨rfl, rfl⟩
  dsimp only [List.cons_append, List.nil_append]
  refine f_stepP rfl rfl rfl (o_move rfl) ?_
  refine f_stepP rfl rfl rfl (o_extract rfl rfl) ?_
  refine f_stepP rfl rfl rfl (o_extract rfl rfl) ?_
  refine f_stepP rfl rfl rfl (o_assign rfl) ?_
  refine f_stepP rfl rfl rfl (o_assign rfl) ?_
  refine f_done ?_
  refine f_tn (kh3 _ _ ?_)
  clear kh3
  refine f_seq fun K4 kh4 => ?_
  refine f_region ?_
  refine f_stepP rfl rfl rfl (o_move rfl) ?_
  refine f_stepP rfl rfl rfl (o_neq rfl rfl) ?_
  refine f_done ?_
  refine f_tn (kh4 _ _ ?_)
  clear kh4
  refine f_cond rfl (fun c16 => ?_) (fun c16 => ?_)
  · skip
    refine f_seq fun K5 kh5 => ?_
    refine f_region ?_
    refine f_stepP rfl rfl rfl (o_move rfl) ?_
    refine f_stepP rfl rfl rfl (o_assign rfl) ?_
    refine f_done ?_
    refine f_tn (kh5 _ _ ?_)
    clear kh5
    refine f_ret ?_
    refine f_tr ?_
    exact f_fin1 [] Try.results23 rfl Sub.nil ⟨rfl, rfl⟩
  · skip
    refine f_skip ?_
    refine f_tn (kh2 _ _ ?_)
    clear kh2
    refine f_seq fun K6 kh6 => ?_
    refine f_seq fun K7 kh7 => ?_
    refine f_region ?_
    refine f_stepP rfl rfl rfl (o_move rfl) ?_
    refine f_stepP rfl rfl rfl (o_lss rfl rfl) ?_
    refine f_stepP rfl rfl rfl (o_move rfl) ?_
    refine f_splitL 20 rfl (fun g20 => ?_) (fun g20 => ?_)
    · skip
      refine f_stepN rfl rfl rfl rfl rfl rfl ?_
      refine f_stepN rfl rfl rfl rfl rfl rfl ?_
      refine f_stepP rfl rfl rfl (o_pickT rfl rfl) ?_
      refine f_done ?_
      refine f_tn (kh7 _ _ ?_)
      clear kh7
      refine f_condT rfl ?_
      refine f_seq fun K8 kh8 => ?_
      refine f_region ?_
      refine f_stepP rfl rfl rfl (o_assign rfl) ?_
      refine f_done ?_
      refine f_tn (kh8 _ _ ?_)
      clear kh8
      refine f_ret ?_
      refine f_tr ?_
      exact absurd g20 (by decide)
    · skip
      refine f_stepPY rfl rfl rfl rfl rfl (o_move rfl) ?_
      refine f_stepPY rfl rfl rfl rfl rfl (o_gtr rfl rfl) ?_
      refine f_stepP rfl rfl rfl (o_pickF rfl rfl) ?_
      refine f_done ?_
      refine f_tn (kh7 _ _ ?_)
      clear kh7
      refine f_cond rfl (fun c23 => ?_) (fun c23 => ?_)
      · skip
        refine f_seq fun K9 kh9 => ?_
        refine f_region ?_
        refine f_stepP rfl rfl rfl (o_assign rfl) ?_
        refine f_done ?_
        refine f_tn (kh9 _ _ ?_)
        clear kh9
        refine f_ret ?_
        refine f_tr ?_
        exact absurd c23 (by decide)
      · skip
        refine f_skip ?_
        refine f_tn (kh6 _ _ ?_)
        clear kh6
        refine f_seq fun K10 kh10 => ?_
        refine f_region ?_
        refine f_stepP rfl rfl rfl (o_assign rfl) ?_
        refine f_done ?_
        refine f_tn (kh10 _ _ ?_)
        clear kh10
        refine f_ret ?_
        exact f_fin1 [] Try.results23 rfl Sub.nil ⟨by rw [show (lcount N l L).2 = 0 by simpa using c16], rfl⟩

set_option maxRecDepth 100000 in
set_option maxHeartbeats 4000000 in
theorem Sizes_spec (N : Int) (A B : Option Addr) (l : List Arc) (cap : Nat) (L : List Int) (cb : Nat) (w : World) (hr : Ro (Fr w []) w A (l.flatMap arcCs)) (hl : l.length ≤ 9223372036854775807) (hN : I64 N) (hok : ∀ x ∈ l, ArcOk x) (hL : Ro (Fr w []) w B (ints L)) (hm : L.length ≤ 9223372036854775807) :
    Meets Try.prog 13 [.agg #[.int .i64 N, .slice A l.length cap], .slice B L.length cb] w [] (fun u own' => ∃ s ms, u = .tuple #[s, .int .i64 (lcount N l L).2] ∧ own' = [ms] ∧ ((lcount N l L).2 = 0 → ∃ b, s = .slice (some ⟨b, 0, none⟩) (sizesL L).length (sizesL L).length ∧ ms = [(b, blk (ints (sizesL L)) 3)])) := by
  refine f_enter Try.func13 rfl Try.ntmps13 rfl Owns.nil ?_
  refine f_seq fun K1 kh1 => ?_
  refine f_region ?_
  refine f_step rfl rfl rfl (o_box rfl rfl fun b2 => ?_)
  refine f_stepP rfl rfl rfl (o_assign rfl) ?_
  refine f_stepP rfl rfl rfl (o_assign rfl) ?_
  refine f_done ?_
  refine f_tn (kh1 _ _ ?_)
  clear kh1
  refine f_seq fun K2 kh2 => ?_
  refine f_seq fun K3 kh3 => ?_
  refine f_region ?_
  refine f_stepP rfl rfl rfl (o_loadA (vs := [_, _]) Try.isAgg24 Try.sizeOf24 rfl rfl ⟨(rdA rfl), (rdA rfl), trivial⟩) ?_
  refine f_stepP rfl rfl rfl (o_move rfl) ?_
  refine f_step rfl rfl rfl (o_call Try.call23 rfl (fun w_ hp_ => slooked_spec N A B l cap L cb w_ (hr.up0 hp_) hl hN hok (hL.up0 hp_) hm) ?_)
  rintro _ _ ⟨rfl, rfl⟩
  dsimp only [List.cons_append, List.nil_append]
  refine f_stepP rfl rfl rfl (o_assign rfl) ?_
  refine f_done ?_
  refine f_tn (kh3 _ _ ?_)
  clear kh3
  refine f_seq fun K4 kh4 => ?_
  refine f_region ?_
  refine f_stepP rfl rfl rfl (o_move rfl) ?_
  refine f_stepP rfl rfl rfl (o_neq rfl rfl) ?_
  refine f_done ?_
  refine f_tn (kh4 _ _ ?_)
  clear kh4
  refine f_cond rfl (fun c11 => ?_) (fun c11 => ?_)
  · skip
    refine f_seq fun K5 kh5 => ?_
    refine f_region ?_
    refine f_stepP rfl rfl rfl (o_move rfl) ?_
    refine f_stepP rfl rfl rfl (o_assign rfl) ?_
    refine f_stepP rfl rfl rfl (o_assign rfl) ?_
    refine f_done ?_
    refine f_tn (kh5 _ _ ?_)
    clear kh5
    refine f_ret ?_
    refine f_tr ?_
    exact f_fin2 [[]] Try.results13 rfl rfl Sub.empty ⟨_, _, rfl, rfl, fun h => absurd h c11⟩
  · skip
    have hlc : (lcount N l L).2 = 0 := by simpa using c11
    obtain ⟨hg, hrt⟩ := lcount_ok hlc
    obtain ⟨n, rfl⟩ : ∃ n : Nat, N = (n : Int) := ⟨N.toNat, by have := gcheck_zero hg; omega⟩
    have hn1 := (lok_begin hg hrt).n1
    obtain ⟨hLn, hin, hsz, hsz1⟩ := sizesL_len hrt hn1.1
    refine f_skip ?_
    refine f_tn (kh2 _ _ ?_)
    clear kh2
    refine f_seq fun K6 kh6 => ?_
    refine f_region ?_
    refine f_stepP rfl rfl rfl (o_move rfl) ?_
    refine f_step rfl rfl rfl (o_call Try.call24 rfl (fun w_ hp_ => sizes_spec B L cb w_ (hL.up0 hp_) (by omega) (by omega) (fun x hx => by have := hin x hx; omega)) ?_)
    rintro _ _ ⟨b, rfl, rfl⟩
    rw [show (maxL L + 1).toNat = (sizesL L).length from (szs_len _ _).symm]
    dsimp only [List.cons_append, List.nil_append]
    refine f_stepP rfl rfl rfl (o_assign rfl) ?_
    refine f_stepP rfl rfl rfl (o_assign rfl) ?_
    refine f_done ?_
    refine f_tn (kh6 _ _ ?_)
    clear kh6
    refine f_ret ?_
    exact f_fin2 [[(b, blk (ints (sizesL L)) 3)]] Try.results13 rfl rfl (by repeat (first | exact Sub.nil | refine Sub.pick ?_ | refine Sub.castO rfl ?_)) ⟨_, _, by rw [hlc], rfl, fun _ => ⟨b, rfl, rfl⟩⟩

set_option maxRecDepth 100000 in
set_option maxHeartbeats 4000000 in
theorem LocalGains_spec (N : Int) (A B : Option Addr) (l : List Arc) (cap : Nat) (L : List Int) (cb : Nat) (xa xb bd xd : Int) (w : World) (hr : Ro (Fr w []) w A (l.flatMap arcCs)) (hl : l.length ≤ 9223372036854775807) (hN : I64 N) (hok : ∀ x ∈ l, ArcOk x) (hL : Ro (Fr w []) w B (ints L)) (hm : L.length ≤ 9223372036854775807) :
    Meets Try.prog 5 [.agg #[.int .i64 N, .slice A l.length cap], .slice B L.length cb, .agg #[.int .i64 xa, .int .i64 xb, .int .i64 bd, .int .i64 xd]] w [] (fun u m => u = .bool true ∧ m = []) := by
  refine f_enter Try.func5 rfl Try.ntmps5 rfl Owns.nil ?_
  refine f_seq fun K1 kh1 => ?_
  refine f_region ?_
  refine f_step rfl rfl rfl (o_box rfl rfl fun b3 => ?_)
  refine f_step rfl rfl rfl (o_box rfl rfl fun b5 => ?_)
  refine f_stepP rfl rfl rfl (o_assign rfl) ?_
  refine f_done ?_
  refine f_tn (kh1 _ _ ?_)
  clear kh1
  refine f_seq fun K2 kh2 => ?_
  refine f_seq fun K3 kh3 => ?_
  refine f_region ?_
  refine f_step rfl rfl rfl (o_call Try.call6 rfl (fun w_ hp_ => works_spec w_) ?_)
  rintro _ _ ⟨rfl, rfl⟩
  dsimp only [List.cons_append, List.nil_append]
  refine f_stepP rfl rfl rfl (o_not rfl) ?_
  refine f_done ?_
  refine f_tn (kh3 _ _ ?_)
  clear kh3
  refine f_condF rfl ?_
  refine f_skip ?_
  refine f_tn (kh2 _ _ ?_)
  clear kh2
  refine f_seq fun K4 kh4 => ?_
  refine f_seq fun K5 kh5 => ?_
  refine f_region ?_
  refine f_stepP rfl rfl rfl (o_loadA (vs := [_, _]) Try.isAgg24 Try.sizeOf24 rfl rfl ⟨(rdA rfl), (rdA rfl), trivial⟩) ?_
  refine f_step rfl rfl rfl (o_call Try.call7 rfl (fun w_ hp_ => large_spec N A l cap w_ (hr.up0 hp_) hl hN hok) ?_)
  rintro _ _ ⟨rfl, rfl⟩
  dsimp only [List.cons_append, List.nil_append]
  refine f_done ?_
  refine f_tn (kh5 _ _ ?_)
  clear kh5
  refine f_cond rfl (fun c34 => ?_) (fun c34 => ?_)
  · skip
    refine f_seq fun K6 kh6 => ?_
    refine f_region ?_
    refine f_stepP rfl rfl rfl (o_assign rfl) ?_
    refine f_done ?_
    refine f_tn (kh6 _ _ ?_)
    clear kh6
    refine f_ret ?_
    refine f_tr ?_
    exact f_fin1 [] Try.results5 rfl Sub.nil ⟨rfl, rfl⟩
  · skip
    refine f_skip ?_
    refine f_tn (kh4 _ _ ?_)
    clear kh4
    refine f_seq fun K7 kh7 => ?_
    refine f_region ?_
    refine f_stepP rfl rfl rfl (o_loadA (vs := [_, _]) Try.isAgg24 Try.sizeOf24 rfl rfl ⟨(rdA rfl), (rdA rfl), trivial⟩) ?_
    refine f_stepP rfl rfl rfl (o_move rfl) ?_
    refine f_stepP rfl rfl rfl (o_field fa27_2 rfl) ?_
    refine f_stepP rfl rfl rfl (o_load Try.isAgg3 rfl (rdA rfl)) ?_
    refine f_step rfl rfl rfl (o_call Try.call10 rfl (fun w_ hp_ => Next_spec N A B l cap L cb bd w_ (hr.up0 hp_) hl hN hok (hL.up0 hp_) hm) ?_)
    rintro v40 _ ⟨rfl, hv⟩
    obtain ⟨x1, x2, x3, x4, rfl, hq⟩ : ∃ x1 x2 x3 x4, v40 = .tuple #[.int .i64 x1, .int .i64 x2, .bool x3, .int .i64 x4] ∧ ((readyE N l L bd = 0 ∧ x1 = (mvR N.toNat l L bd).1 ∧ x2 = (mvR N.toNat l L bd).2.1 ∧ x3 = decide (0 < (mvR N.toNat l L bd).2.2) ∧ x4 = 0) ∨ (x4 ≠ 0 ∧ x1 = 0 ∧ x2 = 0 ∧ x3 = false)) := by
      by_cases h0 : readyE N l L bd = 0
      · rw [if_pos h0] at hv; exact ⟨_, _, _, _, hv, .inl ⟨h0, rfl, rfl, rfl, rfl⟩⟩
      · rw [if_neg h0] at hv; exact ⟨_, _, _, _, hv, .inr ⟨h0, rfl, rfl, rfl⟩⟩
    dsimp only [List.cons_append, List.nil_append]
    refine f_stepP rfl rfl rfl (o_move rfl) ?_
    refine f_stepP rfl rfl rfl (o_extract rfl rfl) ?_
    refine f_stepP rfl rfl rfl (o_extract rfl rfl) ?_
    refine f_stepP rfl rfl rfl (o_extract rfl rfl) ?_
    refine f_stepP rfl rfl rfl (o_extract rfl rfl) ?_
    refine f_stepP rfl rfl rfl (o_assign rfl) ?_
    refine f_stepP rfl rfl rfl (o_assign rfl) ?_
    refine f_stepP rfl rfl rfl (o_assign rfl) ?_
    refine f_stepP rfl rfl rfl (o_assign rfl) ?_
    refine f_done ?_
    refine f_tn (kh7 _ _ ?_)
    clear kh7
    refine f_seq fun K8 kh8 => ?_
    refine f_seq fun K9 kh9 => ?_
    refine f_region ?_
    refine f_stepP rfl rfl rfl (o_move rfl) ?_
    refine f_stepP rfl rfl rfl (o_neq rfl rfl) ?_
    refine f_done ?_
    refine f_tn (kh9 _ _ ?_)
    clear kh9
    refine f_cond rfl (fun c46 => ?_) (fun c46 => ?_)
    · skip
      obtain ⟨_, rfl, rfl, rfl⟩ := hq.resolve_left (fun h => c46 h.2.2.2.2)
      refine f_seq fun K10 kh10 => ?_
      refine f_region ?_
      refine f_stepP rfl rfl rfl (o_move rfl) ?_
      refine f_stepP rfl rfl rfl (o_eql rfl rfl) ?_
      refine f_stepP rfl rfl rfl (o_move rfl) ?_
      refine f_trueL 49 rfl (rfl) ?_
      refine f_stepPY rfl rfl rfl rfl rfl (o_move rfl) ?_
      refine f_stepPY rfl rfl rfl rfl rfl (o_eql rfl rfl) ?_
      refine f_stepP rfl rfl rfl (o_pickT rfl rfl) ?_
      refine f_stepP rfl rfl rfl (o_move rfl) ?_
      refine f_trueL 53 rfl (rfl) ?_
      refine f_stepPY rfl rfl rfl rfl rfl (o_move rfl) ?_
      refine f_stepPY rfl rfl rfl rfl rfl (o_not rfl) ?_
      refine f_stepP rfl rfl rfl (o_pickT rfl rfl) ?_
      refine f_stepP rfl rfl rfl (o_assign rfl) ?_
      refine f_done ?_
      refine f_tn (kh10 _ _ ?_)
      clear kh10
      refine f_ret ?_
      refine f_tr ?_
      exact f_fin1 [] Try.results5 rfl Sub.nil ⟨rfl, rfl⟩
    · skip
      obtain ⟨h0, rfl, rfl, rfl, rfl⟩ := hq.resolve_right (fun h => c46 h.1)
      obtain ⟨hlc, hmxb⟩ := ready_ok h0
      obtain ⟨hg, hrt⟩ := lcount_ok hlc
      obtain ⟨n, rfl⟩ : ∃ n : Nat, N = (n : Int) := ⟨N.toNat, by have := gcheck_zero hg; omega⟩
      rw [Int.toNat_natCast]
      have hO := lok_begin hg hrt
      have hn1 := hO.n1
      obtain ⟨hLn, hin, hsz, hsz1⟩ := sizesL_len hrt hn1.1
      refine f_skip ?_
      refine f_tn (kh8 _ _ ?_)
      clear kh8
      refine f_seq fun K11 kh11 => ?_
      refine f_region ?_
      refine f_stepP rfl rfl rfl (o_loadA (vs := [_, _]) Try.isAgg24 Try.sizeOf24 rfl rfl ⟨(rdA rfl), (rdA rfl), trivial⟩) ?_
      refine f_stepP rfl rfl rfl (o_move rfl) ?_
      refine f_step rfl rfl rfl (o_call Try.call13 rfl (fun w_ hp_ => Sizes_spec (n : Int) A B l cap L cb w_ (hr.up0 hp_) hl hN hok (hL.up0 hp_) hm) ?_)
      rintro _ _ ⟨s11, mS, rfl, rfl, hs11⟩
      obtain ⟨bS, rfl, rfl⟩ := hs11 hlc
      rw [hlc]
      dsimp only [List.cons_append, List.nil_append]
      refine f_stepP rfl rfl rfl (o_move rfl) ?_
      refine f_stepP rfl rfl rfl (o_extract rfl rfl) ?_
      refine f_stepP rfl rfl rfl (o_extract rfl rfl) ?_
      refine f_stepP rfl rfl rfl (o_assign rfl) ?_
      refine f_stepP rfl rfl rfl (o_assign rfl) ?_
      refine f_done ?_
      refine f_tn (kh11 _ _ ?_)
      clear kh11
      refine f_seq fun K12 kh12 => ?_
      refine f_seq fun K13 kh13 => ?_
      refine f_region ?_
      refine f_stepP rfl rfl rfl (o_move rfl) ?_
      refine f_stepP rfl rfl rfl (o_neq rfl rfl) ?_
      refine f_done ?_
      refine f_tn (kh13 _ _ ?_)
      clear kh13
      refine f_condN rfl (by simp) ?_
      refine f_skip ?_
      refine f_tn (kh12 _ _ ?_)
      clear kh12
      refine f_seq fun K14 kh14 => ?_
      refine f_region ?_
      refine f_stepP rfl rfl rfl (o_assign rfl) ?_
      refine f_done ?_
      refine f_tn (kh14 _ _ ?_)
      clear kh14
      refine f_seq fun K15 kh15 => ?_
      refine f_seq fun K16 kh16 => ?_
      refine f_region ?_
      refine f_stepP rfl rfl rfl (o_assign rfl) ?_
      refine f_done ?_
      refine f_tn (kh16 _ _ ?_)
      clear kh16
      refine f_block ?_
      refine f_loop (α := Nat) [1, 3, 5, 7, 8, 9, 11] (fun u => [(14, .int .i64 (u : Int)), (13, .int .i64 (mvTo L (sizesL L) (fun v : Nat => nbrs (v : Int) l) bd u).2.2)]) (fun u => [[(b3, blk [.int .i64 (n : Int), .slice A l.length cap] 24)], [(b5, blk [.int .i64 xa, .int .i64 xb, .int .i64 bd, .int .i64 xd] 27)], [(bS, blk (ints (sizesL L)) 3)]]) (fun u => u ≤ n) (fun u => n - u) (0) ?_ ?_ ?_ ?_
      · exact (by repeat (first | exact trivial | refine ⟨rfl, ?_⟩))
      · repeat (first | exact Sub.nil | refine Sub.pick ?_ | refine Sub.castO rfl ?_ | refine Sub.skip ?_)
      · exact Nat.zero_le _
      · rintro u hun
        refine f_seq fun K17 kh17 => ?_
        refine f_seq fun K18 kh18 => ?_
        refine f_region ?_
        refine f_stepP rfl rfl rfl (o_move rfl) ?_
        refine f_stepP rfl rfl rfl (o_field fa24_0 rfl) ?_
        refine f_stepP rfl rfl rfl (o_load Try.isAgg3 rfl (rdA rfl)) ?_
        refine f_stepP rfl rfl rfl (o_lss rfl rfl) ?_
        refine f_done ?_
        refine f_tn (kh18 _ _ ?_)
        clear kh18
        refine f_cond rfl (fun c68 => ?_) (fun c68 => ?_)
        · skip
          have hu : u < n := by omega
          refine f_skip ?_
          refine f_tn (kh17 _ _ ?_)
          clear kh17
          refine f_seq fun K19 kh19 => ?_
          refine f_block ?_
          refine f_seq fun K20 kh20 => ?_
          refine f_region ?_
          refine f_stepP rfl rfl rfl (o_move rfl) ?_
          refine f_stepP rfl rfl rfl (o_len sl25 rfl) ?_
          refine f_stepP rfl rfl rfl (o_move rfl) ?_
          refine f_done ?_
          refine f_tn (kh20 _ _ ?_)
          clear kh20
          refine f_block ?_
          refine f_loop (α := Nat) [1, 3, 5, 7, 8, 9, 11, 14, 72] (fun k => [(73, .int .i64 (k : Int)), (13, .int .i64 (mvRow L (sizesL L) (nbrs (u : Int) l) bd u k (mvTo L (sizesL L) (fun v : Nat => nbrs (v : Int) l) bd u)).2.2)]) (fun k => [[(b3, blk [.int .i64 (n : Int), .slice A l.length cap] 24)], [(b5, blk [.int .i64 xa, .int .i64 xb, .int .i64 bd, .int .i64 xd] 27)], [(bS, blk (ints (sizesL L)) 3)]]) (fun k => k ≤ (sizesL L).length) (fun k => (sizesL L).length - k) (0) ?_ ?_ ?_ ?_
          · exact (by repeat (first | exact trivial | refine ⟨rfl, ?_⟩))
          · repeat (first | exact Sub.nil | refine Sub.pick ?_ | refine Sub.castO rfl ?_ | refine Sub.skip ?_)
          · exact Nat.zero_le _
          · rintro k hkn
            refine f_seq fun K21 kh21 => ?_
            refine f_region ?_
            refine f_stepP rfl rfl rfl (o_lss rfl rfl) ?_
            refine f_done ?_
            refine f_tn (kh21 _ _ ?_)
            clear kh21
            refine f_seq fun K22 kh22 => ?_
            refine f_cond rfl (fun c74 => ?_) (fun c74 => ?_)
            · skip
              have hk : k < (sizesL L).length := by omega
              obtain ⟨bb, ob, rfl, hSb, hcb⟩ := hL (fun e => by have := ints_length L; rw [e] at this; simp at this; omega)
              have hSk : (sizesL L).getD k 0 = (sizesL L)[k] := by simp [hk]
              refine f_skip ?_
              refine f_tn (kh22 _ _ ?_)
              clear kh22
              refine f_seq fun K23 kh23 => ?_
              refine f_block ?_
              refine f_seq fun K24 kh24 => ?_
              refine f_region ?_
              refine f_stepP rfl rfl rfl (o_move rfl) ?_
              refine f_stepP rfl rfl rfl (o_assign rfl) ?_
              refine f_done ?_
              refine f_tn (kh24 _ _ ?_)
              clear kh24
              refine f_seq fun K25 kh25 => ?_
              refine f_region ?_
              refine f_stepP rfl rfl rfl (o_loadA (vs := [_, _]) Try.isAgg24 Try.sizeOf24 rfl rfl ⟨(rdA rfl), (rdA rfl), trivial⟩) ?_
              refine f_stepP rfl rfl rfl (o_move rfl) ?_
              refine f_stepP rfl rfl rfl (o_move rfl) ?_
              refine f_stepP rfl rfl rfl (o_move rfl) ?_
              refine f_step rfl rfl rfl (o_call Try.call12 rfl (fun w_ hp_ => Gain_spec (n : Int) A _ l cap L cb (u : Int) (k : Int) w_ (hr.up0 hp_) hl hN hok (hL.up0 hp_) hm) ?_)
              rintro _ _ ⟨rfl, rfl⟩
              rw [gain_is hg hrt hu hk]
              dsimp only [List.cons_append, List.nil_append]
              refine f_stepP rfl rfl rfl (o_move rfl) ?_
              refine f_stepP rfl rfl rfl (o_extract rfl rfl) ?_
              refine f_stepP rfl rfl rfl (o_extract rfl rfl) ?_
              refine f_stepP rfl rfl rfl (o_assign rfl) ?_
              refine f_stepP rfl rfl rfl (o_assign rfl) ?_
              refine f_done ?_
              refine f_tn (kh25 _ _ ?_)
              clear kh25
              refine f_seq fun K26 kh26 => ?_
              refine f_seq fun K27 kh27 => ?_
              refine f_region ?_
              refine f_stepP rfl rfl rfl (o_move rfl) ?_
              refine f_stepP rfl rfl rfl (o_neq rfl rfl) ?_
              refine f_done ?_
              refine f_tn (kh27 _ _ ?_)
              clear kh27
              refine f_condN rfl (by simp) ?_
              refine f_skip ?_
              refine f_tn (kh26 _ _ ?_)
              clear kh26
              refine f_seq fun K28 kh28 => ?_
              refine f_regionH [[(b5, blk [.int .i64 xa, .int .i64 xb, .int .i64 bd, .int .i64 xd] 27)], [(bS, blk (ints (sizesL L)) 3)]] rfl ?_
              refine f_take 0 rfl (by decide +kernel) rfl rfl rfl (by repeat (first | exact Sub.nil | refine Sub.pick ?_ | refine Sub.castO rfl ?_ | refine Sub.skip ?_)) (o_move rfl) ?_
              refine f_take 1 rfl (by decide +kernel) rfl rfl rfl (by repeat (first | exact Sub.nil | refine Sub.pick ?_ | refine Sub.castO rfl ?_ | refine Sub.skip ?_)) (o_move rfl) ?_
              refine f_take 2 rfl (by decide +kernel) rfl rfl rfl (by repeat (first | exact Sub.nil | refine Sub.pick ?_ | refine Sub.castO rfl ?_ | refine Sub.skip ?_)) (o_move rfl) ?_
              refine f_take 3 rfl (by decide +kernel) rfl rfl rfl (by repeat (first | exact Sub.nil | refine Sub.pick ?_ | refine Sub.castO rfl ?_ | refine Sub.skip ?_)) (o_idx sl25 rfl rfl (ob + u) ⟨by omega, by omega, by first | omega | (simp; done) | (simp; omega)⟩) ?_
              refine f_take 4 rfl (by decide +kernel) rfl rfl rfl (by repeat (first | exact Sub.nil | refine Sub.pick ?_ | refine Sub.castO rfl ?_ | refine Sub.skip ?_)) (o_load Try.isAgg3 rfl (show Rd _ _ _ _ _ (.int .i64 (lab L (u : Int))) by rw [lab_at (by simp; omega)]; exact roOne (enc := (.int .i64 ·)) hSb hcb (by omega))) ?_
              refine f_take 5 rfl (by decide +kernel) rfl rfl rfl (by repeat (first | exact Sub.nil | refine Sub.pick ?_ | refine Sub.castO rfl ?_ | refine Sub.skip ?_)) (o_neq rfl rfl) ?_
              refine f_take 6 rfl (by decide +kernel) rfl rfl rfl (by repeat (first | exact Sub.nil | refine Sub.pick ?_ | refine Sub.castO rfl ?_ | refine Sub.skip ?_)) (o_move rfl) ?_
              refine f_splitH 92 rfl (fun g92 => ?_) (fun g92 => ?_)
              · skip
                refine f_takeY 7 rfl (by decide +kernel) rfl rfl rfl rfl rfl (by repeat (first | exact Sub.nil | refine Sub.pick ?_ | refine Sub.castO rfl ?_ | refine Sub.skip ?_)) (o_move rfl) ?_
                refine f_takeY 8 rfl (by decide +kernel) rfl rfl rfl rfl rfl (by repeat (first | exact Sub.nil | refine Sub.pick ?_ | refine Sub.castO rfl ?_ | refine Sub.skip ?_)) (o_move rfl) ?_
                refine f_takeY 9 rfl (by decide +kernel) rfl rfl rfl rfl rfl (by repeat (first | exact Sub.nil | refine Sub.pick ?_ | refine Sub.castO rfl ?_ | refine Sub.skip ?_)) (o_idx sl25 rfl rfl (k) ⟨by omega, by omega, by first | omega | (simp; done) | (simp; omega)⟩) ?_
                refine f_takeY 10 rfl (by decide +kernel) rfl rfl rfl rfl rfl (by repeat (first | exact Sub.nil | refine Sub.pick ?_ | refine Sub.castO rfl ?_ | refine Sub.skip ?_)) (o_load Try.isAgg3 rfl (rdA (ints_get hk))) ?_
                refine f_takeY 11 rfl (by decide +kernel) rfl rfl rfl rfl rfl (by repeat (first | exact Sub.nil | refine Sub.pick ?_ | refine Sub.castO rfl ?_ | refine Sub.skip ?_)) (o_field fa27_2 rfl) ?_
                refine f_takeY 12 rfl (by decide +kernel) rfl rfl rfl rfl rfl (by repeat (first | exact Sub.nil | refine Sub.pick ?_ | refine Sub.castO rfl ?_ | refine Sub.skip ?_)) (o_load Try.isAgg3 rfl (rdA rfl)) ?_
                refine f_takeY 13 rfl (by decide +kernel) rfl rfl rfl rfl rfl (by repeat (first | exact Sub.nil | refine Sub.pick ?_ | refine Sub.castO rfl ?_ | refine Sub.skip ?_)) (o_lss rfl rfl) ?_
                refine f_take 14 rfl (by decide +kernel) rfl rfl rfl (by repeat (first | exact Sub.nil | refine Sub.pick ?_ | refine Sub.castO rfl ?_ | refine Sub.skip ?_)) (o_pickT rfl rfl) ?_
                refine f_over (by decide +kernel) ?_
                refine f_tn (kh28 _ _ ?_)
                clear kh28
                refine f_cond rfl (fun c100 => ?_) (fun c100 => ?_)
                · skip
                  refine f_region ?_
                  refine f_stepP rfl rfl rfl (o_move rfl) ?_
                  refine f_stepP rfl rfl rfl (o_move rfl) ?_
                  refine f_stepP rfl rfl rfl (o_max rfl rfl) ?_
                  refine f_stepP rfl rfl rfl (o_assign rfl) ?_
                  refine f_done ?_
                  refine f_bn ?_
                  refine f_tn (kh23 _ _ ?_)
                  clear kh23
                  refine f_reC 13 rfl (v := .int .i64 (mvRow L (sizesL L) (nbrs (u : Int) l) bd u (k + 1) (mvTo L (sizesL L) (fun v : Nat => nbrs (v : Int) l) bd u)).2.2) (by rw [mvRow_next, (up_best (L := L) (S := sizesL L) (R := nbrs (u : Int) l) (bd := bd) (v := u) (j := k) (row_pos (to_pos (rows := (fun v : Nat => nbrs (v : Int) l)) (L := L) (S := sizesL L) (bd := bd) u) k)).1, if_pos ⟨by omega, by omega⟩]) ?_
                  refine f_region ?_
                  refine f_stepP rfl rfl rfl (o_add rfl rfl _ (wrap_i64 (by omega))) ?_
                  refine f_stepP rfl rfl rfl (o_move rfl) ?_
                  refine f_done ?_
                  refine f_tn (f_again (k + 1) (by first | omega | (dsimp only; omega) | (simp; omega)) (by omega) ?_ ?_ ?_)
                  · exact (by repeat (first | exact trivial | refine ⟨rfl, ?_⟩))
                  · exact (by repeat (first | exact trivial | refine ⟨rfl, ?_⟩))
                  · repeat (first | exact Sub.nil | refine Sub.pick ?_ | refine Sub.castO rfl ?_ | refine Sub.skip ?_)
                · skip
                  refine f_skip ?_
                  refine f_bn ?_
                  refine f_tn (kh23 _ _ ?_)
                  clear kh23
                  refine f_reC 13 rfl (v := .int .i64 (mvRow L (sizesL L) (nbrs (u : Int) l) bd u (k + 1) (mvTo L (sizesL L) (fun v : Nat => nbrs (v : Int) l) bd u)).2.2) (by rw [mvRow_next, (up_best (L := L) (S := sizesL L) (R := nbrs (u : Int) l) (bd := bd) (v := u) (j := k) (row_pos (to_pos (rows := (fun v : Nat => nbrs (v : Int) l)) (L := L) (S := sizesL L) (bd := bd) u) k)).1, if_neg (by rintro ⟨h1, h2⟩; omega)]) ?_
                  refine f_region ?_
                  refine f_stepP rfl rfl rfl (o_add rfl rfl _ (wrap_i64 (by omega))) ?_
                  refine f_stepP rfl rfl rfl (o_move rfl) ?_
                  refine f_done ?_
                  refine f_tn (f_again (k + 1) (by first | omega | (dsimp only; omega) | (simp; omega)) (by omega) ?_ ?_ ?_)
                  · exact (by repeat (first | exact trivial | refine ⟨rfl, ?_⟩))
                  · exact (by repeat (first | exact trivial | refine ⟨rfl, ?_⟩))
                  · repeat (first | exact Sub.nil | refine Sub.pick ?_ | refine Sub.castO rfl ?_ | refine Sub.skip ?_)
              · skip
                refine f_takeN 7 rfl (by decide +kernel) rfl rfl rfl rfl rfl rfl (by repeat (first | exact Sub.nil | refine Sub.pick ?_ | refine Sub.castO rfl ?_ | refine Sub.skip ?_)) ?_
                refine f_takeN 8 rfl (by decide +kernel) rfl rfl rfl rfl rfl rfl (by repeat (first | exact Sub.nil | refine Sub.pick ?_ | refine Sub.castO rfl ?_ | refine Sub.skip ?_)) ?_
                refine f_takeN 9 rfl (by decide +kernel) rfl rfl rfl rfl rfl rfl (by repeat (first | exact Sub.nil | refine Sub.pick ?_ | refine Sub.castO rfl ?_ | refine Sub.skip ?_)) ?_
                refine f_takeN 10 rfl (by decide +kernel) rfl rfl rfl rfl rfl rfl (by repeat (first | exact Sub.nil | refine Sub.pick ?_ | refine Sub.castO rfl ?_ | refine Sub.skip ?_)) ?_
                refine f_takeN 11 rfl (by decide +kernel) rfl rfl rfl rfl rfl rfl (by repeat (first | exact Sub.nil | refine Sub.pick ?_ | refine Sub.castO rfl ?_ | refine Sub.skip ?_)) ?_
                refine f_takeN 12 rfl (by decide +kernel) rfl rfl rfl rfl rfl rfl (by repeat (first | exact Sub.nil | refine Sub.pick ?_ | refine Sub.castO rfl ?_ | refine Sub.skip ?_)) ?_
                refine f_takeN 13 rfl (by decide +kernel) rfl rfl rfl rfl rfl rfl (by repeat (first | exact Sub.nil | refine Sub.pick ?_ | refine Sub.castO rfl ?_ | refine Sub.skip ?_)) ?_
                refine f_take 14 rfl (by decide +kernel) rfl rfl rfl (by repeat (first | exact Sub.nil | refine Sub.pick ?_ | refine Sub.castO rfl ?_ | refine Sub.skip ?_)) (o_pickF rfl rfl) ?_
                refine f_over (by decide +kernel) ?_
                refine f_tn (kh28 _ _ ?_)
                clear kh28
                refine f_condF rfl ?_
                refine f_skip ?_
                refine f_bn ?_
                refine f_tn (kh23 _ _ ?_)
                clear kh23
                refine f_reC 13 rfl (v := .int .i64 (mvRow L (sizesL L) (nbrs (u : Int) l) bd u (k + 1) (mvTo L (sizesL L) (fun v : Nat => nbrs (v : Int) l) bd u)).2.2) (by rw [mvRow_next, (up_best (L := L) (S := sizesL L) (R := nbrs (u : Int) l) (bd := bd) (v := u) (j := k) (row_pos (to_pos (rows := (fun v : Nat => nbrs (v : Int) l)) (L := L) (S := sizesL L) (bd := bd) u) k)).1, if_neg (by rintro ⟨h1, h2⟩; omega)]) ?_
                refine f_region ?_
                refine f_stepP rfl rfl rfl (o_add rfl rfl _ (wrap_i64 (by omega))) ?_
                refine f_stepP rfl rfl rfl (o_move rfl) ?_
                refine f_done ?_
                refine f_tn (f_again (k + 1) (by first | omega | (dsimp only; omega) | (simp; omega)) (by omega) ?_ ?_ ?_)
                · exact (by repeat (first | exact trivial | refine ⟨rfl, ?_⟩))
                · exact (by repeat (first | exact trivial | refine ⟨rfl, ?_⟩))
                · repeat (first | exact Sub.nil | refine Sub.pick ?_ | refine Sub.castO rfl ?_ | refine Sub.skip ?_)
            · skip
              have hk' : k = (sizesL L).length := by omega
              refine f_reC 13 rfl (v := .int .i64 (mvTo L (sizesL L) (fun v : Nat => nbrs (v : Int) l) bd (u + 1)).2.2) (by rw [mvTo_next, hk']) ?_
              refine f_exit ?_
              refine f_te ?_
              clear kh22
              refine f_te ?_
              refine f_be ?_
              refine f_bn ?_
              refine f_tn (kh19 _ _ ?_)
              clear kh19
              refine f_region ?_
              refine f_stepP rfl rfl rfl (o_move rfl) ?_
              refine f_stepP rfl rfl rfl (o_add rfl rfl _ (wrap_i64 (by omega))) ?_
              refine f_stepP rfl rfl rfl (o_assign rfl) ?_
              refine f_done ?_
              refine f_tn (f_again (u + 1) (by first | omega | (dsimp only; omega) | (simp; omega)) (by omega) ?_ ?_ ?_)
              · exact (by repeat (first | exact trivial | refine ⟨rfl, ?_⟩))
              · exact (by repeat (first | exact trivial | refine ⟨rfl, ?_⟩))
              · repeat (first | exact Sub.nil | refine Sub.pick ?_ | refine Sub.castO rfl ?_ | refine Sub.skip ?_)
        · skip
          have hu' : u = n := by omega
          refine f_reC 13 rfl (v := .int .i64 (mvR n l L bd).2.2) (by rw [hu']; rfl) ?_
          refine f_exit ?_
          refine f_te ?_
          clear kh17
          refine f_te ?_
          refine f_be ?_
          refine f_tn (kh15 _ _ ?_)
          clear kh15
          refine f_seq fun K29 kh29 => ?_
          refine f_seq fun K30 kh30 => ?_
          refine f_region ?_
          refine f_stepP rfl rfl rfl (o_move rfl) ?_
          refine f_stepP rfl rfl rfl (o_not rfl) ?_
          refine f_done ?_
          refine f_tn (kh30 _ _ ?_)
          clear kh30
          refine f_condB rfl (fun c106 => ?_) (fun c106 => ?_)
          · skip
            have hbz : mvR n l L bd = (0, 0, 0) := (to_zero n).resolve_right (fun h => by have h' : 0 < (mvR n l L bd).2.2 := h; simp [h'] at c106)
            rw [hbz]
            refine f_seq fun K31 kh31 => ?_
            refine f_region ?_
            refine f_stepP rfl rfl rfl (o_move rfl) ?_
            refine f_stepP rfl rfl rfl (o_leq rfl rfl) ?_
            refine f_stepP rfl rfl rfl (o_move rfl) ?_
            refine f_trueL 109 rfl (by decide) ?_
            refine f_stepPY rfl rfl rfl rfl rfl (o_move rfl) ?_
            refine f_stepPY rfl rfl rfl rfl rfl (o_eql rfl rfl) ?_
            refine f_stepP rfl rfl rfl (o_pickT rfl rfl) ?_
            refine f_stepP rfl rfl rfl (o_move rfl) ?_
            refine f_trueL 113 rfl (rfl) ?_
            refine f_stepPY rfl rfl rfl rfl rfl (o_move rfl) ?_
            refine f_stepPY rfl rfl rfl rfl rfl (o_eql rfl rfl) ?_
            refine f_stepP rfl rfl rfl (o_pickT rfl rfl) ?_
            refine f_stepP rfl rfl rfl (o_assign rfl) ?_
            refine f_done ?_
            refine f_tn (kh31 _ _ ?_)
            clear kh31
            refine f_ret ?_
            refine f_tr ?_
            exact f_fin1 [] Try.results5 rfl Sub.nil ⟨rfl, rfl⟩
          · skip
            have hgp0 : 0 < (mvR n l L bd).2.2 := by simpa using c106
            obtain ⟨y, j, hbe, hyn, hjS, hmay⟩ := (to_is (n := n) (L := L) (S := sizesL L) (rows := (fun v : Nat => nbrs (v : Int) l)) (bd := bd) n (Nat.le_refl _)).resolve_left (fun h => by rw [mvR, h] at hgp0; simp at hgp0)
            change mvR n l L bd = _ at hbe
            rw [hbe] at hgp0
            rw [hbe]
            have hgp : 0 < gn L (nbrs (y : Int) l) (lab L (y : Int)) (j : Int) := hgp0
            have hL2n : (L.set y (j : Int)).length = n := by rw [List.length_set]; exact hLn
            have hrt2 := right_tdy hL2n
            have hgood : Good n l := raw_good (gcheck_zero hg).2.2.2
            have hcut := cut_set hgood (L := L) (v := y) (by omega) (j : Int)
            have hct : cutN n l (tdy (L.set y (j : Int))) = cutN n l (L.set y (j : Int)) := cut_tdy hL2n
            have hc1 : cutN n l L ≤ 1048576 := Nat.le_trans (List.length_filter_le _ _) (prs_len hn1.2 l)
            have hc2 : cutN n l (tdy (L.set y (j : Int))) ≤ 1048576 := Nat.le_trans (List.length_filter_le _ _) (prs_len hn1.2 l)
            have hsl2 : (sizesL (tdy (L.set y (j : Int)))).length ≤ n := by
              rw [← sizes_tdy (by omega), szs_len]
              have := sns_len (L := L.set y (j : Int)) (k := (L.set y (j : Int)).length) (Nat.le_refl _)
              rw [List.take_length] at this; omega
            have hsb : ∀ x ∈ sizesL (tdy (L.set y (j : Int))), x ≤ bd := by
              rw [← sizes_tdy (by omega)]
              refine size_move (M := (sizesL L).length) (by omega) hjS (fun x hx => ⟨(hin x hx).1, (hin x hx).2.1⟩) (fun i hi => ?_) ?_
              · rw [← sizes_cnt hi]; exact Int.le_trans (le_maxL (List.getElem_mem hi)) hmxb
              · rw [← sizes_cnt hjS]; have := hmay.2; rw [List.getD_eq_getElem?_getD, List.getElem?_eq_getElem hjS] at this; exact this
            refine f_skip ?_
            refine f_tn (kh29 _ _ ?_)
            clear kh29
            refine f_seq fun K32 kh32 => ?_
            refine f_region ?_
            refine f_stepP rfl rfl rfl (o_loadA (vs := [_, _]) Try.isAgg24 Try.sizeOf24 rfl rfl ⟨(rdA rfl), (rdA rfl), trivial⟩) ?_
            refine f_stepP rfl rfl rfl (o_move rfl) ?_
            refine f_stepP rfl rfl rfl (o_move rfl) ?_
            refine f_stepP rfl rfl rfl (o_move rfl) ?_
            refine f_step rfl rfl rfl (o_call Try.call12 rfl (fun w_ hp_ => Gain_spec (n : Int) A B l cap L cb (y : Int) (j : Int) w_ (hr.up0 hp_) hl hN hok (hL.up0 hp_) hm) ?_)
            rintro _ _ ⟨rfl, rfl⟩
            rw [gain_is hg hrt hyn hjS]
            dsimp only [List.cons_append, List.nil_append]
            refine f_stepP rfl rfl rfl (o_move rfl) ?_
            refine f_stepP rfl rfl rfl (o_extract rfl rfl) ?_
            refine f_stepP rfl rfl rfl (o_extract rfl rfl) ?_
            refine f_stepP rfl rfl rfl (o_assign rfl) ?_
            refine f_stepP rfl rfl rfl (o_assign rfl) ?_
            refine f_done ?_
            refine f_tn (kh32 _ _ ?_)
            clear kh32
            refine f_seq fun K33 kh33 => ?_
            refine f_region ?_
            refine f_stepP rfl rfl rfl (o_loadA (vs := [_, _]) Try.isAgg24 Try.sizeOf24 rfl rfl ⟨(rdA rfl), (rdA rfl), trivial⟩) ?_
            refine f_stepP rfl rfl rfl (o_move rfl) ?_
            refine f_stepP rfl rfl rfl (o_field fa27_2 rfl) ?_
            refine f_stepP rfl rfl rfl (o_load Try.isAgg3 rfl (rdA rfl)) ?_
            refine f_step rfl rfl rfl (o_call Try.call9 rfl (fun w_ hp_ => Improve_spec (n : Int) A B l cap L cb bd 1 w_ (hr.up0 hp_) hl hN hok (hL.up0 hp_) hm) ?_)
            rintro _ _ ⟨s20, m20, rfl, rfl, ho20⟩
            rw [imp_one h0 hbe hgp] at ho20 ⊢
            obtain ⟨A20, c20, rfl, _⟩ := ho20.val
            dsimp only [List.cons_append, List.nil_append]
            refine f_stepP rfl rfl rfl (o_move rfl) ?_
            refine f_stepP rfl rfl rfl (o_extract rfl rfl) ?_
            refine f_stepP rfl rfl rfl (o_extract rfl rfl) ?_
            refine f_stepP rfl rfl rfl (o_extract rfl rfl) ?_
            refine f_stepP rfl rfl rfl (o_assign rfl) ?_
            refine f_stepP rfl rfl rfl (o_assign rfl) ?_
            refine f_stepP rfl rfl rfl (o_assign rfl) ?_
            refine f_done ?_
            refine f_tn (kh33 _ _ ?_)
            clear kh33
            refine f_seq fun K34 kh34 => ?_
            refine f_region ?_
            refine f_stepP rfl rfl rfl (o_loadA (vs := [_, _]) Try.isAgg24 Try.sizeOf24 rfl rfl ⟨(rdA rfl), (rdA rfl), trivial⟩) ?_
            refine f_stepP rfl rfl rfl (o_move rfl) ?_
            refine f_step rfl rfl rfl (o_call Try.call8 rfl (fun w_ hp_ => Count_spec (n : Int) A B l cap L cb w_ (hr.up0 hp_) hl hN hok (hL.up0 hp_) hm) ?_)
            rintro _ _ ⟨rfl, rfl⟩
            rw [lcount_is hg hrt]
            dsimp only [List.cons_append, List.nil_append]
            refine f_stepP rfl rfl rfl (o_move rfl) ?_
            refine f_stepP rfl rfl rfl (o_extract rfl rfl) ?_
            refine f_stepP rfl rfl rfl (o_extract rfl rfl) ?_
            refine f_stepP rfl rfl rfl (o_assign rfl) ?_
            refine f_stepP rfl rfl rfl (o_assign rfl) ?_
            refine f_done ?_
            refine f_tn (kh34 _ _ ?_)
            clear kh34
            refine f_seq fun K35 kh35 => ?_
            refine f_region ?_
            refine f_stepP rfl rfl rfl (o_loadA (vs := [_, _]) Try.isAgg24 Try.sizeOf24 rfl rfl ⟨(rdA rfl), (rdA rfl), trivial⟩) ?_
            refine f_stepP rfl rfl rfl (o_move rfl) ?_
            refine f_step rfl rfl rfl (o_call Try.call8 rfl (fun w_ hp_ => Count_spec (n : Int) A A20 l cap (tdy (L.set y (j : Int))) c20 w_ (hr.up0 hp_) hl hN hok (seen_ro (ho20.seen hp_)) (by rw [tdy_len]; omega)) ?_)
            rintro _ _ ⟨rfl, rfl⟩
            rw [lcount_is hg hrt2]
            dsimp only [List.cons_append, List.nil_append]
            refine f_stepP rfl rfl rfl (o_move rfl) ?_
            refine f_stepP rfl rfl rfl (o_extract rfl rfl) ?_
            refine f_stepP rfl rfl rfl (o_extract rfl rfl) ?_
            refine f_stepP rfl rfl rfl (o_assign rfl) ?_
            refine f_stepP rfl rfl rfl (o_assign rfl) ?_
            refine f_done ?_
            refine f_tn (kh35 _ _ ?_)
            clear kh35
            refine f_seq fun K36 kh36 => ?_
            refine f_region ?_
            refine f_stepP rfl rfl rfl (o_loadA (vs := [_, _]) Try.isAgg24 Try.sizeOf24 rfl rfl ⟨(rdA rfl), (rdA rfl), trivial⟩) ?_
            refine f_stepP rfl rfl rfl (o_move rfl) ?_
            refine f_step rfl rfl rfl (o_call Try.call13 rfl (fun w_ hp_ => Sizes_spec (n : Int) A A20 l cap (tdy (L.set y (j : Int))) c20 w_ (hr.up0 hp_) hl hN hok (seen_ro (ho20.seen hp_)) (by rw [tdy_len]; omega)) ?_)
            rintro _ _ ⟨s27, m27, rfl, rfl, hs27⟩
            obtain ⟨b27, rfl, rfl⟩ := hs27 (by rw [lcount_is hg hrt2])
            rw [lcount_is hg hrt2]
            dsimp only [List.cons_append, List.nil_append]
            refine f_stepP rfl rfl rfl (o_move rfl) ?_
            refine f_stepP rfl rfl rfl (o_extract rfl rfl) ?_
            refine f_stepP rfl rfl rfl (o_extract rfl rfl) ?_
            refine f_stepP rfl rfl rfl (o_assign rfl) ?_
            refine f_stepP rfl rfl rfl (o_assign rfl) ?_
            refine f_done ?_
            refine f_tn (kh36 _ _ ?_)
            clear kh36
            refine f_seq fun K37 kh37 => ?_
            refine f_seq fun K38 kh38 => ?_
            refine f_region ?_
            refine f_stepP rfl rfl rfl (o_move rfl) ?_
            refine f_stepP rfl rfl rfl (o_len sl25 rfl) ?_
            refine f_stepP rfl rfl rfl (o_move rfl) ?_
            refine f_done ?_
            refine f_tn (kh38 _ _ ?_)
            clear kh38
            refine f_block ?_
            refine f_loop (α := Nat) [5, 13, 18, 19, 21, 22, 23, 24, 25, 26, 28, 152, 153] (fun i => [(154, .int .i64 (i : Int))]) (fun i => [[(b3, blk [.int .i64 (n : Int), .slice A l.length cap] 24)], [(b5, blk [.int .i64 xa, .int .i64 xb, .int .i64 bd, .int .i64 xd] 27)], [(b27, blk (ints (sizesL (tdy (L.set y (j : Int))))) 3)]]) (fun i => i ≤ (sizesL (tdy (L.set y (j : Int)))).length) (fun i => (sizesL (tdy (L.set y (j : Int)))).length - i) (0) ?_ ?_ ?_ ?_
            · exact (by repeat (first | exact trivial | refine ⟨rfl, ?_⟩))
            · repeat (first | exact Sub.nil | refine Sub.pick ?_ | refine Sub.castO rfl ?_ | refine Sub.skip ?_)
            · exact Nat.zero_le _
            · rintro i hil
              refine f_seq fun K39 kh39 => ?_
              refine f_region ?_
              refine f_stepP rfl rfl rfl (o_lss rfl rfl) ?_
              refine f_done ?_
              refine f_tn (kh39 _ _ ?_)
              clear kh39
              refine f_seq fun K40 kh40 => ?_
              refine f_cond rfl (fun c155 => ?_) (fun c155 => ?_)
              · skip
                have hi : i < (sizesL (tdy (L.set y (j : Int)))).length := by omega
                have hsi := hsb _ (List.getElem_mem hi)
                refine f_skip ?_
                refine f_tn (kh40 _ _ ?_)
                clear kh40
                refine f_seq fun K41 kh41 => ?_
                refine f_block ?_
                refine f_seq fun K42 kh42 => ?_
                refine f_region ?_
                refine f_stepP rfl rfl rfl (o_idx sl25 rfl rfl (i) ⟨by omega, by omega, by first | omega | (simp; done) | (simp; omega)⟩) ?_
                refine f_stepP rfl rfl rfl (o_load Try.isAgg3 rfl (rdA (ints_get hi))) ?_
                refine f_stepP rfl rfl rfl (o_assign rfl) ?_
                refine f_done ?_
                refine f_tn (kh42 _ _ ?_)
                clear kh42
                refine f_seq fun K43 kh43 => ?_
                refine f_region ?_
                refine f_stepP rfl rfl rfl (o_move rfl) ?_
                refine f_stepP rfl rfl rfl (o_field fa27_2 rfl) ?_
                refine f_stepP rfl rfl rfl (o_load Try.isAgg3 rfl (rdA rfl)) ?_
                refine f_stepP rfl rfl rfl (o_gtr rfl rfl) ?_
                refine f_done ?_
                refine f_tn (kh43 _ _ ?_)
                clear kh43
                refine f_condN rfl (by omega) ?_
                refine f_skip ?_
                refine f_bn ?_
                refine f_tn (kh41 _ _ ?_)
                clear kh41
                refine f_region ?_
                refine f_stepP rfl rfl rfl (o_add rfl rfl _ (wrap_i64 (by omega))) ?_
                refine f_stepP rfl rfl rfl (o_move rfl) ?_
                refine f_done ?_
                refine f_tn (f_again (i + 1) (by first | omega | (dsimp only; omega) | (simp; omega)) (by omega) ?_ ?_ ?_)
                · exact (by repeat (first | exact trivial | refine ⟨rfl, ?_⟩))
                · exact (by repeat (first | exact trivial | refine ⟨rfl, ?_⟩))
                · repeat (first | exact Sub.nil | refine Sub.pick ?_ | refine Sub.castO rfl ?_ | refine Sub.skip ?_)
              · skip
                refine f_exit ?_
                refine f_te ?_
                clear kh40
                refine f_te ?_
                refine f_be ?_
                refine f_tn (kh37 _ _ ?_)
                clear kh37
                refine f_seq fun K44 kh44 => ?_
                refine f_region ?_
                refine f_stepP rfl rfl rfl (o_move rfl) ?_
                refine f_stepP rfl rfl rfl (o_eql rfl rfl) ?_
                refine f_stepP rfl rfl rfl (o_move rfl) ?_
                refine f_trueL 165 rfl (rfl) ?_
                refine f_stepPY rfl rfl rfl rfl rfl (o_move rfl) ?_
                refine f_stepPY rfl rfl rfl rfl rfl (o_move rfl) ?_
                refine f_stepPY rfl rfl rfl rfl rfl (o_eql rfl rfl) ?_
                refine f_stepP rfl rfl rfl (o_pickT rfl rfl) ?_
                refine f_stepP rfl rfl rfl (o_move rfl) ?_
                refine f_trueL 170 rfl (rfl) ?_
                refine f_stepPY rfl rfl rfl rfl rfl (o_move rfl) ?_
                refine f_stepPY rfl rfl rfl rfl rfl (o_eql rfl rfl) ?_
                refine f_stepP rfl rfl rfl (o_pickT rfl rfl) ?_
                refine f_stepP rfl rfl rfl (o_move rfl) ?_
                refine f_trueL 174 rfl (rfl) ?_
                refine f_stepPY rfl rfl rfl rfl rfl (o_move rfl) ?_
                refine f_stepPY rfl rfl rfl rfl rfl (o_eql rfl rfl) ?_
                refine f_stepP rfl rfl rfl (o_pickT rfl rfl) ?_
                refine f_stepP rfl rfl rfl (o_move rfl) ?_
                refine f_trueL 178 rfl (rfl) ?_
                refine f_stepPY rfl rfl rfl rfl rfl (o_move rfl) ?_
                refine f_stepPY rfl rfl rfl rfl rfl (o_eql rfl rfl) ?_
                refine f_stepP rfl rfl rfl (o_pickT rfl rfl) ?_
                refine f_stepP rfl rfl rfl (o_move rfl) ?_
                refine f_trueL 182 rfl (rfl) ?_
                refine f_stepPY rfl rfl rfl rfl rfl (o_move rfl) ?_
                refine f_stepPY rfl rfl rfl rfl rfl (o_eql rfl rfl) ?_
                refine f_stepP rfl rfl rfl (o_pickT rfl rfl) ?_
                refine f_stepP rfl rfl rfl (o_move rfl) ?_
                refine f_trueL 186 rfl (rfl) ?_
                refine f_stepPY rfl rfl rfl rfl rfl (o_move rfl) ?_
                refine f_stepPY rfl rfl rfl rfl rfl (o_eql rfl rfl) ?_
                refine f_stepP rfl rfl rfl (o_pickT rfl rfl) ?_
                refine f_stepP rfl rfl rfl (o_move rfl) ?_
                refine f_trueL 190 rfl (rfl) ?_
                refine f_stepPY rfl rfl rfl rfl rfl (o_move rfl) ?_
                refine f_stepPY rfl rfl rfl rfl rfl (o_move rfl) ?_
                refine f_stepPY rfl rfl rfl rfl rfl (o_sub rfl rfl _ (wrap_i64 (by omega))) ?_
                refine f_stepPY rfl rfl rfl rfl rfl (o_move rfl) ?_
                refine f_stepPY rfl rfl rfl rfl rfl (o_eql rfl rfl) ?_
                refine f_stepP rfl rfl rfl (o_pickT rfl rfl) ?_
                refine f_stepP rfl rfl rfl (o_assign rfl) ?_
                refine f_done ?_
                refine f_tn (kh44 _ _ ?_)
                clear kh44
                refine f_ret ?_
                exact f_fin1 [] Try.results5 rfl Sub.nil ⟨by rw [decide_eq_true (by rw [hct]; omega)], rfl⟩

end Go.Proofs.Ytagidegklmgilaa
