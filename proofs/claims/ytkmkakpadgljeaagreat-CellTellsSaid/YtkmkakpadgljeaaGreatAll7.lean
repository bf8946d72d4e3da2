import Derived.Test.YtkmkakpadgljeaaGreatAll6

/- The document's Check, Count, Many of nests. -/
namespace Go.Proofs.YtkmkakpadgljeaaGreat
open Go Go.RowKit Fly
set_option linter.unusedVariables false
set_option linter.unusedSimpArgs false


theorem blw_nonneg {n : Nat} {l : List Arc} {bs : List Int} {L : List (List Int)} (hg : (gcheck (n : Int) l).2 = 0) : ∀ {k : Nat}, (∀ j, j < k → lvE (n : Int) l bs L j = 0) → 0 ≤ blwB bs k
  | 0, _ => Int.le_refl _
  | k + 1, h => by
    have h1 := ((lvE_zero hg).1 (h k (by omega))).1
    have h2 := blw_nonneg hg (k := k) fun j hj => h j (by omega)
    show 0 ≤ bs.getD k 0
    omega
theorem firstE_not {n : Nat} {l : List Arc} {c : List Int} {b : Int} (hg : (gcheck (n : Int) l).2 = 0) (hR : rightB (n : Int) c = false) : firstE (n : Int) l c b = 80 := by
  have e : (lcount (n : Int) l c).2 = 80 := by unfold lcount; rw [if_neg (by rw [hg]; simp), if_pos hR]
  unfold firstE
  rw [if_pos (by rw [e]; decide), e]
theorem firstE_right {n : Nat} {l : List Arc} {c : List Int} {b : Int} (hg : (gcheck (n : Int) l).2 = 0) (hR : rightB (n : Int) c = true) : firstE (n : Int) l c b = if b < maxL (sizesL c) then 90 else 0 := by
  unfold firstE
  rw [if_neg (by rw [lc_zeroN hg hR]; simp)]
theorem sizesL_rngT {L : List Int} (h : L.length ≤ 1024) : ∀ x ∈ sizesL L, 0 ≤ x ∧ x ≤ 1024 := fun x hx => by
  unfold sizesL szs at hx
  obtain ⟨j, _, rfl⟩ := List.mem_map.1 hx
  have := cnt_le L j
  omega

set_option maxRecDepth 100000 in
set_option maxHeartbeats 4000000 in
theorem RNCheck_spec (N : Int) (A : Option Addr) (l : List Arc) (cap : Nat) (Ab : Option Addr) (bs : List Int) (cb : Nat) (Ac : Option Addr) (R : List Row) (cc : Nat) (w : World) (hr : Ro (Fr w []) w A (l.flatMap arcCs)) (hl : l.length ≤ 9223372036854775807) (hN : I64 N) (hok : ∀ x ∈ l, ArcOk x) (hn : NestRo (Fr w []) w Ab bs Ac R) :
    Meets Tryz.prog 60 [.agg #[.int .i64 N, .slice A l.length cap], .agg #[.slice Ab bs.length cb, .slice Ac R.length cc]] w [] (fun u m => u = .tuple #[.int .i64 (nsE N l bs (rowsL R)).1, .int .i64 (nsE N l bs (rowsL R)).2] ∧ m = []) := by
 have hrl := rowsL_len R
 refine f_enter Tryz.func60 rfl Tryz.ntmps60 rfl Owns.nil ?_
 refine f_seq fun K1 kh1 => ?_
 refine f_region ?_
 refine f_step rfl rfl rfl (o_box rfl rfl fun b2 => ?_)
 refine f_step rfl rfl rfl (o_box rfl rfl fun b3 => ?_)
 refine f_stepP rfl rfl rfl (o_assign rfl) ?_
 refine f_stepP rfl rfl rfl (o_assign rfl) ?_
 refine f_done ?_
 refine f_tn (kh1 _ _ ?_)
 clear kh1
 refine f_seq fun K2 kh2 => ?_
 refine f_seq fun K3 kh3 => ?_
 refine f_region ?_
 refine f_stepP rfl rfl rfl (o_loadA (vs := [_, _]) Tryz.isAgg24 Tryz.sizeOf24 rfl rfl ⟨(rdA rfl), (rdA rfl), trivial⟩) ?_
 refine f_step rfl rfl rfl (o_call Tryz.call20 rfl (fun w_ hp_ => RCheckC_spec N A l cap w_ (hr.up0 hp_) hl hN hok) ?_)
 rintro _ _ ⟨rfl, rfl⟩
 dsimp only [List.cons_append, List.nil_append]
 refine f_stepP rfl rfl rfl (o_move rfl) ?_
 refine f_stepP rfl rfl rfl (o_extract rfl rfl) ?_
 refine f_stepP rfl rfl rfl (o_extract rfl rfl) ?_
 refine f_stepP rfl rfl rfl (o_assign rfl) ?_
 refine f_stepP rfl rfl rfl (o_assign rfl) ?_
 refine f_done ?_
 refine f_tn (kh3 _ _ ?_)
 clear kh3
 refine f_seq fun K4 kh4 => ?_
 refine f_region ?_
 refine f_stepP rfl rfl rfl (o_move rfl) ?_
 refine f_stepP rfl rfl rfl (o_neq rfl rfl) ?_
 refine f_done ?_
 refine f_tn (kh4 _ _ ?_)
 clear kh4
 refine f_cond rfl (fun c16 => ?_) (fun c16 => ?_)
 ·
  refine f_seq fun K5 kh5 => ?_
  refine f_region ?_
  refine f_stepP rfl rfl rfl (o_move rfl) ?_
  refine f_stepP rfl rfl rfl (o_assign rfl) ?_
  refine f_stepP rfl rfl rfl (o_assign rfl) ?_
  refine f_done ?_
  refine f_tn (kh5 _ _ ?_)
  clear kh5
  refine f_ret ?_
  refine f_tr ?_
  have e : nsE N l bs (rowsL R) = (0, (gcheck N l).2) := by unfold nsE; rw [if_pos (by simpa using c16)]
  exact f_fin2 [] Tryz.results60 rfl rfl Sub.nil ⟨by rw [e], rfl⟩
 ·
  have hg0 : (gcheck N l).2 = 0 := by simpa using c16
  have hgz := gcheck_zero hg0
  obtain ⟨n, rfl⟩ : ∃ n : Nat, N = (n : Int) := ⟨N.toNat, by omega⟩
  have hg := hg0
  refine f_skip ?_
  refine f_tn (kh2 _ _ ?_)
  clear kh2
  refine f_seq fun K6 kh6 => ?_
  refine f_seq fun K7 kh7 => ?_
  refine f_region ?_
  refine f_stepP rfl rfl rfl (o_field fa28_0 rfl) ?_
  refine f_stepP rfl rfl rfl (o_load Tryz.isAgg25 rfl (rdA rfl)) ?_
  refine f_stepP rfl rfl rfl (o_len sl25 rfl) ?_
  refine f_stepP rfl rfl rfl (o_lss rfl rfl) ?_
  refine f_stepP rfl rfl rfl (o_move rfl) ?_
  refine f_splitL 22 rfl (fun g22 => ?_) (fun g22 => ?_)
  ·
   refine f_stepN rfl rfl rfl rfl rfl rfl ?_
   refine f_stepN rfl rfl rfl rfl rfl rfl ?_
   refine f_stepN rfl rfl rfl rfl rfl rfl ?_
   refine f_stepN rfl rfl rfl rfl rfl rfl ?_
   refine f_stepP rfl rfl rfl (o_pickT rfl rfl) ?_
   refine f_stepP rfl rfl rfl (o_move rfl) ?_
   refine f_stepN rfl rfl rfl rfl rfl rfl ?_
   refine f_stepN rfl rfl rfl rfl rfl rfl ?_
   refine f_stepN rfl rfl rfl rfl rfl rfl ?_
   refine f_stepN rfl rfl rfl rfl rfl rfl ?_
   refine f_stepN rfl rfl rfl rfl rfl rfl ?_
   refine f_stepN rfl rfl rfl rfl rfl rfl ?_
   refine f_stepN rfl rfl rfl rfl rfl rfl ?_
   refine f_stepP rfl rfl rfl (o_pickT rfl rfl) ?_
   refine f_done ?_
   refine f_tn (kh7 _ _ ?_)
   clear kh7
   refine f_condT rfl ?_
   refine f_seq fun K8 kh8 => ?_
   refine f_region ?_
   refine f_stepP rfl rfl rfl (o_assign rfl) ?_
   refine f_stepP rfl rfl rfl (o_assign rfl) ?_
   refine f_done ?_
   refine f_tn (kh8 _ _ ?_)
   clear kh8
   refine f_ret ?_
   refine f_tr ?_
   have e : nsE (n : Int) l bs (rowsL R) = (0, 111) := by unfold nsE; rw [if_neg (by rw [hg]; simp), if_pos (by omega)]
   exact f_fin2 [] Tryz.results60 rfl rfl Sub.nil ⟨by rw [e], rfl⟩
  ·
   refine f_stepPY rfl rfl rfl rfl rfl (o_field fa28_0 rfl) ?_
   refine f_stepPY rfl rfl rfl rfl rfl (o_load Tryz.isAgg25 rfl (rdA rfl)) ?_
   refine f_stepPY rfl rfl rfl rfl rfl (o_len sl25 rfl) ?_
   refine f_stepPY rfl rfl rfl rfl rfl (o_gtr rfl rfl) ?_
   refine f_stepP rfl rfl rfl (o_pickF rfl rfl) ?_
   refine f_stepP rfl rfl rfl (o_move rfl) ?_
   refine f_splitL 28 rfl (fun g28 => ?_) (fun g28 => ?_)
   ·
    refine f_stepN rfl rfl rfl rfl rfl rfl ?_
    refine f_stepN rfl rfl rfl rfl rfl rfl ?_
    refine f_stepN rfl rfl rfl rfl rfl rfl ?_
    refine f_stepN rfl rfl rfl rfl rfl rfl ?_
    refine f_stepN rfl rfl rfl rfl rfl rfl ?_
    refine f_stepN rfl rfl rfl rfl rfl rfl ?_
    refine f_stepN rfl rfl rfl rfl rfl rfl ?_
    refine f_stepP rfl rfl rfl (o_pickT rfl rfl) ?_
    refine f_done ?_
    refine f_tn (kh7 _ _ ?_)
    clear kh7
    refine f_condT rfl ?_
    refine f_seq fun K9 kh9 => ?_
    refine f_region ?_
    refine f_stepP rfl rfl rfl (o_assign rfl) ?_
    refine f_stepP rfl rfl rfl (o_assign rfl) ?_
    refine f_done ?_
    refine f_tn (kh9 _ _ ?_)
    clear kh9
    refine f_ret ?_
    refine f_tr ?_
    have e : nsE (n : Int) l bs (rowsL R) = (0, 111) := by unfold nsE; rw [if_neg (by rw [hg]; simp), if_pos (by omega)]
    exact f_fin2 [] Tryz.results60 rfl rfl Sub.nil ⟨by rw [e], rfl⟩
   ·
    refine f_stepPY rfl rfl rfl rfl rfl (o_field fa28_1 rfl) ?_
    refine f_stepPY rfl rfl rfl rfl rfl (o_load Tryz.isAgg26 rfl (rdA rfl)) ?_
    refine f_stepPY rfl rfl rfl rfl rfl (o_len sl26 rfl) ?_
    refine f_stepPY rfl rfl rfl rfl rfl (o_field fa28_0 rfl) ?_
    refine f_stepPY rfl rfl rfl rfl rfl (o_load Tryz.isAgg25 rfl (rdA rfl)) ?_
    refine f_stepPY rfl rfl rfl rfl rfl (o_len sl25 rfl) ?_
    refine f_stepPY rfl rfl rfl rfl rfl (o_neq rfl rfl) ?_
    refine f_stepP rfl rfl rfl (o_pickF rfl rfl) ?_
    refine f_done ?_
    refine f_tn (kh7 _ _ ?_)
    clear kh7
    refine f_cond rfl (fun c36 => ?_) (fun c36 => ?_)
    ·
     refine f_seq fun K10 kh10 => ?_
     refine f_region ?_
     refine f_stepP rfl rfl rfl (o_assign rfl) ?_
     refine f_stepP rfl rfl rfl (o_assign rfl) ?_
     refine f_done ?_
     refine f_tn (kh10 _ _ ?_)
     clear kh10
     refine f_ret ?_
     refine f_tr ?_
     have e : nsE (n : Int) l bs (rowsL R) = (0, 111) := by unfold nsE; rw [if_neg (by rw [hg]; simp), if_pos (by omega)]
     exact f_fin2 [] Tryz.results60 rfl rfl Sub.nil ⟨by rw [e], rfl⟩
    ·
     have hmm : ¬ (bs.length < 1 ∨ 5 < bs.length ∨ (rowsL R).length ≠ bs.length) := by omega
     have hRl : R.length = bs.length := by omega
     refine f_skip ?_
     refine f_tn (kh6 _ _ ?_)
     clear kh6
     refine f_seq fun K11 kh11 => ?_
     refine f_seq fun K12 kh12 => ?_
     refine f_region ?_
     refine f_stepP rfl rfl rfl (o_assign rfl) ?_
     refine f_done ?_
     refine f_tn (kh12 _ _ ?_)
     clear kh12
     refine f_block ?_
     refine f_loop (α := Nat) [2, 3] (fun k => [(8, .int .i64 (k : Int))]) (fun k => [[(b2, blk [.int .i64 (n : Int), .slice A l.length cap] 24)], [(b3, blk [.slice Ab bs.length cb, .slice Ac R.length cc] 28)]]) (fun k => k ≤ bs.length ∧ ∀ j, j < k → lvE (n : Int) l bs (rowsL R) j = 0) (fun k => bs.length - k) (0) ?_ ?_ ?_ ?_
     · exact (by repeat (first | exact trivial | refine ⟨rfl, ?_⟩))
     · repeat (first | exact Sub.nil | refine Sub.pick ?_ | refine Sub.castO rfl ?_ | refine Sub.skip ?_)
     · exact ⟨Nat.zero_le _, fun j h => by omega⟩
     ·
      rintro k ⟨hkl, hall⟩
      refine f_seq fun K13 kh13 => ?_
      refine f_seq fun K14 kh14 => ?_
      refine f_region ?_
      refine f_stepP rfl rfl rfl (o_move rfl) ?_
      refine f_stepP rfl rfl rfl (o_field fa28_0 rfl) ?_
      refine f_stepP rfl rfl rfl (o_load Tryz.isAgg25 rfl (rdA rfl)) ?_
      refine f_stepP rfl rfl rfl (o_len sl25 rfl) ?_
      refine f_stepP rfl rfl rfl (o_lss rfl rfl) ?_
      refine f_done ?_
      refine f_tn (kh14 _ _ ?_)
      clear kh14
      refine f_cond rfl (fun c41 => ?_) (fun c41 => ?_)
      ·
       have hk : k < bs.length := by omega
       have hkR : k < R.length := by omega
       obtain ⟨b1, o1, rfl, hS1, hc1⟩ := hn.b (fun e => by have := ints_length bs; rw [e] at this; simp at this; omega)
       obtain ⟨b4, o4, rfl, hS4, hc4⟩ := hn.c (map_ne hkR)
       have hrow := hn.rows _ (List.getElem_mem hkR)
       have hb0 := blw_nonneg (bs := bs) (L := rowsL R) hg hall
       have hlvd : lvE (n : Int) l bs (rowsL R) k = if bs[k] ≤ blwB bs k ∨ 1024 < bs[k] then 1 else if firstE (n : Int) l (R[k]'hkR).2.1 bs[k] ≠ 0 then firstE (n : Int) l (R[k]'hkR).2.1 bs[k] else if 0 < k ∧ ¬ withinP ((rowsL R).getD (k - 1) []) (R[k]'hkR).2.1 then 110 else 0 := by unfold lvE; rw [bs_at hk, rowsL_at hkR]
       refine f_skip ?_
       refine f_tn (kh13 _ _ ?_)
       clear kh13
       refine f_seq fun K15 kh15 => ?_
       refine f_block ?_
       refine f_seq fun K16 kh16 => ?_
       refine f_region ?_
       refine f_stepP rfl rfl rfl (o_field fa28_0 rfl) ?_
       refine f_stepP rfl rfl rfl (o_load Tryz.isAgg25 rfl (rdA rfl)) ?_
       refine f_stepP rfl rfl rfl (o_move rfl) ?_
       refine f_stepP rfl rfl rfl (o_idx sl25 rfl rfl (o1 + k) ⟨by omega, by omega, by first | omega | (simp; done) | (simp; omega)⟩) ?_
       refine f_stepP rfl rfl rfl (o_load Tryz.isAgg3 rfl (roOne (enc := (.int .i64 ·)) hS1 hc1 hk)) ?_
       refine f_stepP rfl rfl rfl (o_assign rfl) ?_
       refine f_done ?_
       refine f_tn (kh16 _ _ ?_)
       clear kh16
       refine f_seq fun K17 kh17 => ?_
       refine f_seq fun K18 kh18 => ?_
       refine f_region ?_
       refine f_stepP rfl rfl rfl (o_move rfl) ?_
       refine f_stepP rfl rfl rfl (o_lss rfl rfl) ?_
       refine f_stepP rfl rfl rfl (o_move rfl) ?_
       refine f_splitL 51 rfl (fun g51 => ?_) (fun g51 => ?_)
       ·
        refine f_stepN rfl rfl rfl rfl rfl rfl ?_
        refine f_stepN rfl rfl rfl rfl rfl rfl ?_
        refine f_stepP rfl rfl rfl (o_pickT rfl rfl) ?_
        refine f_stepP rfl rfl rfl (o_move rfl) ?_
        refine f_stepN rfl rfl rfl rfl rfl rfl ?_
        refine f_stepN rfl rfl rfl rfl rfl rfl ?_
        refine f_stepN rfl rfl rfl rfl rfl rfl ?_
        refine f_stepU rfl rfl rfl rfl rfl ?_
        refine f_stepU rfl rfl rfl rfl rfl ?_
        refine f_stepU rfl rfl rfl rfl rfl ?_
        refine f_stepU rfl rfl rfl rfl rfl ?_
        refine f_stepU rfl rfl rfl rfl rfl ?_
        refine f_stepU rfl rfl rfl rfl rfl ?_
        refine f_stepU rfl rfl rfl rfl rfl ?_
        refine f_stepU rfl rfl rfl rfl rfl ?_
        refine f_stepN rfl rfl rfl rfl rfl rfl ?_
        refine f_stepP rfl rfl rfl (o_pickT rfl rfl) ?_
        refine f_done ?_
        refine f_tn (kh18 _ _ ?_)
        clear kh18
        refine f_condT rfl ?_
        refine f_seq fun K19 kh19 => ?_
        refine f_region ?_
        refine f_stepP rfl rfl rfl (o_move rfl) ?_
        refine f_stepP rfl rfl rfl (o_add rfl rfl _ (wrap_i64 (by omega))) ?_
        refine f_stepP rfl rfl rfl (o_assign rfl) ?_
        refine f_stepP rfl rfl rfl (o_assign rfl) ?_
        refine f_done ?_
        refine f_tn (kh19 _ _ ?_)
        clear kh19
        refine f_ret ?_
        refine f_tr ?_
        refine f_br ?_
        refine f_tr ?_
        refine f_tr ?_
        refine f_br ?_
        refine f_tr ?_
        have hbd : bs[k] ≤ blwB bs k ∨ 1024 < bs[k] := by omega
        have e := nsE_at hg hmm hk hall (by rw [hlvd, if_pos hbd]; decide)
        exact f_fin2 [] Tryz.results60 rfl rfl Sub.nil ⟨by rw [e, hlvd, if_pos hbd], rfl⟩
       ·
        refine f_stepPY rfl rfl rfl rfl rfl (o_move rfl) ?_
        refine f_stepPY rfl rfl rfl rfl rfl (o_gtr rfl rfl) ?_
        refine f_stepP rfl rfl rfl (o_pickF rfl rfl) ?_
        refine f_stepP rfl rfl rfl (o_move rfl) ?_
        refine f_splitL 55 rfl (fun g55 => ?_) (fun g55 => ?_)
        ·
         refine f_stepN rfl rfl rfl rfl rfl rfl ?_
         refine f_stepN rfl rfl rfl rfl rfl rfl ?_
         refine f_stepN rfl rfl rfl rfl rfl rfl ?_
         refine f_stepU rfl rfl rfl rfl rfl ?_
         refine f_stepU rfl rfl rfl rfl rfl ?_
         refine f_stepU rfl rfl rfl rfl rfl ?_
         refine f_stepU rfl rfl rfl rfl rfl ?_
         refine f_stepU rfl rfl rfl rfl rfl ?_
         refine f_stepU rfl rfl rfl rfl rfl ?_
         refine f_stepU rfl rfl rfl rfl rfl ?_
         refine f_stepU rfl rfl rfl rfl rfl ?_
         refine f_stepN rfl rfl rfl rfl rfl rfl ?_
         refine f_stepP rfl rfl rfl (o_pickT rfl rfl) ?_
         refine f_done ?_
         refine f_tn (kh18 _ _ ?_)
         clear kh18
         refine f_condT rfl ?_
         refine f_seq fun K20 kh20 => ?_
         refine f_region ?_
         refine f_stepP rfl rfl rfl (o_move rfl) ?_
         refine f_stepP rfl rfl rfl (o_add rfl rfl _ (wrap_i64 (by omega))) ?_
         refine f_stepP rfl rfl rfl (o_assign rfl) ?_
         refine f_stepP rfl rfl rfl (o_assign rfl) ?_
         refine f_done ?_
         refine f_tn (kh20 _ _ ?_)
         clear kh20
         refine f_ret ?_
         refine f_tr ?_
         refine f_br ?_
         refine f_tr ?_
         refine f_tr ?_
         refine f_br ?_
         refine f_tr ?_
         have hbd : bs[k] ≤ blwB bs k ∨ 1024 < bs[k] := by omega
         have e := nsE_at hg hmm hk hall (by rw [hlvd, if_pos hbd]; decide)
         exact f_fin2 [] Tryz.results60 rfl rfl Sub.nil ⟨by rw [e, hlvd, if_pos hbd], rfl⟩
        ·
         refine f_stepPY rfl rfl rfl rfl rfl (o_move rfl) ?_
         refine f_stepPY rfl rfl rfl rfl rfl (o_gtr rfl rfl) ?_
         refine f_stepPY rfl rfl rfl rfl rfl (o_move rfl) ?_
         refine f_splitL 58 rfl (fun g58 => ?_) (fun g58 => ?_)
         ·
          obtain ⟨k1, hk1⟩ : ∃ k1, k = k1 + 1 := ⟨k - 1, by omega⟩
          have hkb1 : k1 < bs.length := by omega
          have hblw : blwB bs k = bs[k1] := by subst hk1; exact bs_at hkb1
          refine f_stepPY rfl rfl rfl rfl rfl (o_move rfl) ?_
          refine f_stepPY rfl rfl rfl rfl rfl (o_field fa28_0 rfl) ?_
          refine f_stepPY rfl rfl rfl rfl rfl (o_load Tryz.isAgg25 rfl (rdA rfl)) ?_
          refine f_stepPY rfl rfl rfl rfl rfl (o_move rfl) ?_
          refine f_stepPY rfl rfl rfl rfl rfl (o_sub rfl rfl _ (Eq.trans (wrap_i64 (by omega)) (show _ = (k1 : Int) by omega))) ?_
          refine f_stepPY rfl rfl rfl rfl rfl (o_idx sl25 rfl rfl (o1 + k1) ⟨by omega, by omega, by first | omega | (simp; done) | (simp; omega)⟩) ?_
          refine f_stepPY rfl rfl rfl rfl rfl (o_load Tryz.isAgg3 rfl (roOne (enc := (.int .i64 ·)) hS1 hc1 hkb1)) ?_
          refine f_stepPY rfl rfl rfl rfl rfl (o_leq rfl rfl) ?_
          refine f_stepPY rfl rfl rfl rfl rfl (o_pickT rfl rfl) ?_
          refine f_stepP rfl rfl rfl (o_pickF rfl rfl) ?_
          refine f_done ?_
          refine f_tn (kh18 _ _ ?_)
          clear kh18
          refine f_cond rfl (fun c68 => ?_) (fun c68 => ?_)
          ·
           refine f_seq fun K21 kh21 => ?_
           refine f_region ?_
           refine f_stepP rfl rfl rfl (o_move rfl) ?_
           refine f_stepP rfl rfl rfl (o_add rfl rfl _ (wrap_i64 (by omega))) ?_
           refine f_stepP rfl rfl rfl (o_assign rfl) ?_
           refine f_stepP rfl rfl rfl (o_assign rfl) ?_
           refine f_done ?_
           refine f_tn (kh21 _ _ ?_)
           clear kh21
           refine f_ret ?_
           refine f_tr ?_
           refine f_br ?_
           refine f_tr ?_
           refine f_tr ?_
           refine f_br ?_
           refine f_tr ?_
           have hbd : bs[k] ≤ blwB bs k ∨ 1024 < bs[k] := by rw [hblw]; omega
           have e := nsE_at hg hmm hk hall (by rw [hlvd, if_pos hbd]; decide)
           exact f_fin2 [] Tryz.results60 rfl rfl Sub.nil ⟨by rw [e, hlvd, if_pos hbd], rfl⟩
          ·
           refine f_skip ?_
           refine f_tn (kh17 _ _ ?_)
           clear kh17
           refine f_seq fun K22 kh22 => ?_
           refine f_seq fun K23 kh23 => ?_
           have hbd : ¬ (bs[k] ≤ blwB bs k ∨ 1024 < bs[k]) := by rw [hblw]; omega
           refine f_regionH [[(b2, blk [.int .i64 (n : Int), .slice A l.length cap] 24)], [(b3, blk [.slice (some ⟨b1, o1, none⟩) bs.length cb, .slice (some ⟨b4, o4, none⟩) R.length cc] 28)]] rfl ?_
           refine f_take 0 rfl (by decide +kernel) rfl rfl rfl (by repeat (first | exact Sub.nil | refine Sub.pick ?_ | refine Sub.castO rfl ?_ | refine Sub.skip ?_)) (o_loadA (vs := [_, _]) Tryz.isAgg24 Tryz.sizeOf24 rfl rfl ⟨(rdA rfl), (rdA rfl), trivial⟩) ?_
           refine f_take 1 rfl (by decide +kernel) rfl rfl rfl (by repeat (first | exact Sub.nil | refine Sub.pick ?_ | refine Sub.castO rfl ?_ | refine Sub.skip ?_)) (o_field fa28_1 rfl) ?_
           refine f_take 2 rfl (by decide +kernel) rfl rfl rfl (by repeat (first | exact Sub.nil | refine Sub.pick ?_ | refine Sub.castO rfl ?_ | refine Sub.skip ?_)) (o_load Tryz.isAgg26 rfl (rdA rfl)) ?_
           refine f_take 3 rfl (by decide +kernel) rfl rfl rfl (by repeat (first | exact Sub.nil | refine Sub.pick ?_ | refine Sub.castO rfl ?_ | refine Sub.skip ?_)) (o_move rfl) ?_
           refine f_take 4 rfl (by decide +kernel) rfl rfl rfl (by repeat (first | exact Sub.nil | refine Sub.pick ?_ | refine Sub.castO rfl ?_ | refine Sub.skip ?_)) (o_idx sl26 rfl rfl (o4 + k) ⟨by omega, by omega, by first | omega | (simp; done) | (simp; omega)⟩) ?_
           refine f_take 5 rfl (by decide +kernel) rfl rfl rfl (by repeat (first | exact Sub.nil | refine Sub.pick ?_ | refine Sub.castO rfl ?_ | refine Sub.skip ?_)) (o_load Tryz.isAgg25 rfl (roOne (enc := rowV) hS4 hc4 hkR)) ?_
           refine f_only 6 rfl (by decide +kernel) rfl rfl rfl (o_call Tryz.call71 rfl (fun w_ hp_ => RRight_spec n A l cap (R[k]'hkR).1 (R[k]'hkR).2.1 (R[k]'hkR).2.2 w_ (by omega) (hrow.1.up0 hp_) hrow.2) ?_)
           rintro _ _ ⟨rfl, rfl⟩
           dsimp only [List.cons_append, List.nil_append]
           refine ⟨(by repeat (first | exact Sub.nil | refine Sub.pick ?_ | refine Sub.castO rfl ?_ | refine Sub.skip ?_)), ?_⟩
           refine f_take 7 rfl (by decide +kernel) rfl rfl rfl (by repeat (first | exact Sub.nil | refine Sub.pick ?_ | refine Sub.castO rfl ?_ | refine Sub.skip ?_)) (o_not rfl) ?_
           refine f_over (by decide +kernel) ?_
           refine f_tn (kh23 _ _ ?_)
           clear kh23
           refine f_condB rfl (fun c78 => ?_) (fun c78 => ?_)
           ·
            have hRf : rightB (n : Int) (R[k]'hkR).2.1 = false := by simpa using c78
            have hlvd2 : lvE (n : Int) l bs (rowsL R) k = if firstE (n : Int) l (R[k]'hkR).2.1 bs[k] ≠ 0 then firstE (n : Int) l (R[k]'hkR).2.1 bs[k] else if 0 < k ∧ ¬ withinP ((rowsL R).getD (k - 1) []) (R[k]'hkR).2.1 then 110 else 0 := by rw [hlvd, if_neg hbd]
            refine f_seq fun K24 kh24 => ?_
            refine f_region ?_
            refine f_stepP rfl rfl rfl (o_move rfl) ?_
            refine f_stepP rfl rfl rfl (o_add rfl rfl _ (wrap_i64 (by omega))) ?_
            refine f_stepP rfl rfl rfl (o_assign rfl) ?_
            refine f_stepP rfl rfl rfl (o_assign rfl) ?_
            refine f_done ?_
            refine f_tn (kh24 _ _ ?_)
            clear kh24
            refine f_ret ?_
            refine f_tr ?_
            refine f_br ?_
            refine f_tr ?_
            refine f_tr ?_
            refine f_br ?_
            refine f_tr ?_
            have hfe := firstE_not (l := l) (b := bs[k]) hg hRf
            have e := nsE_at hg hmm hk hall (by rw [hlvd2, hfe, if_pos (by decide)]; decide)
            exact f_fin2 [] Tryz.results60 rfl rfl Sub.nil ⟨by rw [e, hlvd2, hfe, if_pos (by decide)], rfl⟩
           ·
            have hRt : rightB (n : Int) (R[k]'hkR).2.1 = true := by simpa using c78
            have hlvd2 : lvE (n : Int) l bs (rowsL R) k = if firstE (n : Int) l (R[k]'hkR).2.1 bs[k] ≠ 0 then firstE (n : Int) l (R[k]'hkR).2.1 bs[k] else if 0 < k ∧ ¬ withinP ((rowsL R).getD (k - 1) []) (R[k]'hkR).2.1 then 110 else 0 := by rw [hlvd, if_neg hbd]
            have hlen2 : (R[k]'hkR).2.1.length = n := (right_parts hRt).2
            have hrg := right_range hRt (by omega)
            have hr0 := hrg _ (List.getElem_mem (show 0 < (R[k]'hkR).2.1.length by omega))
            have hsl : (sizesL (R[k]'hkR).2.1).length = (maxL (R[k]'hkR).2.1 + 1).toNat := szs_len _ _
            refine f_skip ?_
            refine f_tn (kh22 _ _ ?_)
            clear kh22
            refine f_seq fun K25 kh25 => ?_
            refine f_seq fun K26 kh26 => ?_
            refine f_region ?_
            refine f_stepP rfl rfl rfl (o_field fa28_1 rfl) ?_
            refine f_stepP rfl rfl rfl (o_load Tryz.isAgg26 rfl (rdA rfl)) ?_
            refine f_stepP rfl rfl rfl (o_move rfl) ?_
            refine f_stepP rfl rfl rfl (o_idx sl26 rfl rfl (o4 + k) ⟨by omega, by omega, by first | omega | (simp; done) | (simp; omega)⟩) ?_
            refine f_stepP rfl rfl rfl (o_load Tryz.isAgg25 rfl (roOne (enc := rowV) hS4 hc4 hkR)) ?_
            refine f_step rfl rfl rfl (o_call Tryz.call73 rfl (fun w_ hp_ => RSize_spec n (R[k]'hkR).1 (R[k]'hkR).2.1 (R[k]'hkR).2.2 w_ ⟨by omega, by omega⟩ hRt (hrow.1.up0 hp_)) ?_)
            rintro _ _ ⟨AZ, cZ, mZ, rfl, rfl, hoZ⟩
            dsimp only [List.cons_append, List.nil_append]
            refine f_step rfl rfl rfl (o_call Tryz.call72 rfl (fun w_ hp_ => Rgreat_spec AZ (sizesL (R[k]'hkR).2.1) cZ w_ (seen_ro (hoZ.seen hp_)) (by omega) (by omega) (fun x hx => (sizesL_rngT (by omega) x hx).1)) ?_)
            rintro _ _ ⟨rfl, rfl⟩
            dsimp only [List.cons_append, List.nil_append]
            refine f_stepP rfl rfl rfl (o_move rfl) ?_
            refine f_stepP rfl rfl rfl (o_gtr rfl rfl) ?_
            refine f_done ?_
            refine f_tn (kh26 _ _ ?_)
            clear kh26
            refine f_cond rfl (fun c89 => ?_) (fun c89 => ?_)
            ·
             refine f_seq fun K27 kh27 => ?_
             refine f_region ?_
             refine f_stepP rfl rfl rfl (o_move rfl) ?_
             refine f_stepP rfl rfl rfl (o_add rfl rfl _ (wrap_i64 (by omega))) ?_
             refine f_stepP rfl rfl rfl (o_assign rfl) ?_
             refine f_stepP rfl rfl rfl (o_assign rfl) ?_
             refine f_done ?_
             refine f_tn (kh27 _ _ ?_)
             clear kh27
             refine f_ret ?_
             refine f_tr ?_
             refine f_br ?_
             refine f_tr ?_
             refine f_tr ?_
             refine f_br ?_
             refine f_tr ?_
             have hfe : firstE (n : Int) l (R[k]'hkR).2.1 bs[k] = 90 := by rw [firstE_right hg hRt, if_pos (by omega)]
             have e := nsE_at hg hmm hk hall (by rw [hlvd2, hfe, if_pos (by decide)]; decide)
             exact f_fin2 [] Tryz.results60 rfl rfl Sub.nil ⟨by rw [e, hlvd2, hfe, if_pos (by decide)], rfl⟩
            ·
             have hfe : firstE (n : Int) l (R[k]'hkR).2.1 bs[k] = 0 := by rw [firstE_right hg hRt, if_neg (by omega)]
             have hlvd3 : lvE (n : Int) l bs (rowsL R) k = if 0 < k ∧ ¬ withinP ((rowsL R).getD (k - 1) []) (R[k]'hkR).2.1 then 110 else 0 := by rw [hlvd2, if_neg (by rw [hfe]; simp)]
             refine f_skip ?_
             refine f_tn (kh25 _ _ ?_)
             clear kh25
             refine f_seq fun K28 kh28 => ?_
             refine f_regionH [[(b2, blk [.int .i64 (n : Int), .slice A l.length cap] 24)], [(b3, blk [.slice (some ⟨b1, o1, none⟩) bs.length cb, .slice (some ⟨b4, o4, none⟩) R.length cc] 28)]] rfl ?_
             refine f_take 0 rfl (by decide +kernel) rfl rfl rfl (by repeat (first | exact Sub.nil | refine Sub.pick ?_ | refine Sub.castO rfl ?_ | refine Sub.skip ?_)) (o_move rfl) ?_
             refine f_take 1 rfl (by decide +kernel) rfl rfl rfl (by repeat (first | exact Sub.nil | refine Sub.pick ?_ | refine Sub.castO rfl ?_ | refine Sub.skip ?_)) (o_gtr rfl rfl) ?_
             refine f_take 2 rfl (by decide +kernel) rfl rfl rfl (by repeat (first | exact Sub.nil | refine Sub.pick ?_ | refine Sub.castO rfl ?_ | refine Sub.skip ?_)) (o_move rfl) ?_
             refine f_splitH 94 rfl (fun g94 => ?_) (fun g94 => ?_)
             ·
              have hk0 : 0 < k := by omega
              have hkR1 : k - 1 < R.length := by omega
              have hlen1 : (R[k - 1]'hkR1).2.1.length = n := by
                have h2 := ((lvE_zero hg).1 (hall (k - 1) (by omega))).2.1
                rw [rowsL_at hkR1] at h2
                exact (right_parts h2).2
              refine f_takeY 3 rfl (by decide +kernel) rfl rfl rfl rfl rfl (by repeat (first | exact Sub.nil | refine Sub.pick ?_ | refine Sub.castO rfl ?_ | refine Sub.skip ?_)) (o_field fa28_1 rfl) ?_
              refine f_takeY 4 rfl (by decide +kernel) rfl rfl rfl rfl rfl (by repeat (first | exact Sub.nil | refine Sub.pick ?_ | refine Sub.castO rfl ?_ | refine Sub.skip ?_)) (o_load Tryz.isAgg26 rfl (rdA rfl)) ?_
              refine f_takeY 5 rfl (by decide +kernel) rfl rfl rfl rfl rfl (by repeat (first | exact Sub.nil | refine Sub.pick ?_ | refine Sub.castO rfl ?_ | refine Sub.skip ?_)) (o_move rfl) ?_
              refine f_takeY 6 rfl (by decide +kernel) rfl rfl rfl rfl rfl (by repeat (first | exact Sub.nil | refine Sub.pick ?_ | refine Sub.castO rfl ?_ | refine Sub.skip ?_)) (o_sub rfl rfl _ (Eq.trans (wrap_i64 (by omega)) (show _ = ((k - 1 : Nat) : Int) by omega))) ?_
              refine f_takeY 7 rfl (by decide +kernel) rfl rfl rfl rfl rfl (by repeat (first | exact Sub.nil | refine Sub.pick ?_ | refine Sub.castO rfl ?_ | refine Sub.skip ?_)) (o_idx sl26 rfl rfl (o4 + (k - 1)) ⟨by omega, by omega, by first | omega | (simp; done) | (simp; omega)⟩) ?_
              refine f_takeY 8 rfl (by decide +kernel) rfl rfl rfl rfl rfl (by repeat (first | exact Sub.nil | refine Sub.pick ?_ | refine Sub.castO rfl ?_ | refine Sub.skip ?_)) (o_load Tryz.isAgg25 rfl (roOne (enc := rowV) hS4 hc4 hkR1)) ?_
              refine f_takeY 9 rfl (by decide +kernel) rfl rfl rfl rfl rfl (by repeat (first | exact Sub.nil | refine Sub.pick ?_ | refine Sub.castO rfl ?_ | refine Sub.skip ?_)) (o_field fa28_1 rfl) ?_
              refine f_takeY 10 rfl (by decide +kernel) rfl rfl rfl rfl rfl (by repeat (first | exact Sub.nil | refine Sub.pick ?_ | refine Sub.castO rfl ?_ | refine Sub.skip ?_)) (o_load Tryz.isAgg26 rfl (rdA rfl)) ?_
              refine f_takeY 11 rfl (by decide +kernel) rfl rfl rfl rfl rfl (by repeat (first | exact Sub.nil | refine Sub.pick ?_ | refine Sub.castO rfl ?_ | refine Sub.skip ?_)) (o_move rfl) ?_
              refine f_takeY 12 rfl (by decide +kernel) rfl rfl rfl rfl rfl (by repeat (first | exact Sub.nil | refine Sub.pick ?_ | refine Sub.castO rfl ?_ | refine Sub.skip ?_)) (o_idx sl26 rfl rfl (o4 + k) ⟨by omega, by omega, by first | omega | (simp; done) | (simp; omega)⟩) ?_
              refine f_takeY 13 rfl (by decide +kernel) rfl rfl rfl rfl rfl (by repeat (first | exact Sub.nil | refine Sub.pick ?_ | refine Sub.castO rfl ?_ | refine Sub.skip ?_)) (o_load Tryz.isAgg25 rfl (roOne (enc := rowV) hS4 hc4 hkR)) ?_
              refine f_onlyY 14 rfl (by decide +kernel) rfl rfl rfl rfl rfl (o_call Tryz.call74 rfl (fun w_ hp_ => Rnested_spec (R[k - 1]'hkR1).1 (R[k]'hkR).1 (R[k - 1]'hkR1).2.1 (R[k]'hkR).2.1 (R[k - 1]'hkR1).2.2 (R[k]'hkR).2.2 (R[k]'hkR).2.1.length w_ ((hn.rows _ (List.getElem_mem hkR1)).1.up0 hp_) (hrow.1.up0 hp_) rfl (by omega) (by omega)) ?_)
              rintro _ _ ⟨rfl, rfl⟩
              dsimp only [List.cons_append, List.nil_append]
              refine ⟨(by repeat (first | exact Sub.nil | refine Sub.pick ?_ | refine Sub.castO rfl ?_ | refine Sub.skip ?_)), ?_⟩
              refine f_takeY 15 rfl (by decide +kernel) rfl rfl rfl rfl rfl (by repeat (first | exact Sub.nil | refine Sub.pick ?_ | refine Sub.castO rfl ?_ | refine Sub.skip ?_)) (o_not rfl) ?_
              refine f_take 16 rfl (by decide +kernel) rfl rfl rfl (by repeat (first | exact Sub.nil | refine Sub.pick ?_ | refine Sub.castO rfl ?_ | refine Sub.skip ?_)) (o_pickT rfl rfl) ?_
              refine f_over (by decide +kernel) ?_
              refine f_tn (kh28 _ _ ?_)
              clear kh28
              refine f_condB rfl (fun c108 => ?_) (fun c108 => ?_)
              ·
               have hnw : ¬ withinP (R[k - 1]'hkR1).2.1 (R[k]'hkR).2.1 := by simpa using c108
               refine f_seq fun K29 kh29 => ?_
               refine f_region ?_
               refine f_stepP rfl rfl rfl (o_move rfl) ?_
               refine f_stepP rfl rfl rfl (o_add rfl rfl _ (wrap_i64 (by omega))) ?_
               refine f_stepP rfl rfl rfl (o_assign rfl) ?_
               refine f_stepP rfl rfl rfl (o_assign rfl) ?_
               refine f_done ?_
               refine f_tn (kh29 _ _ ?_)
               clear kh29
               refine f_ret ?_
               refine f_br ?_
               refine f_tr ?_
               refine f_tr ?_
               refine f_br ?_
               refine f_tr ?_
               have e := nsE_at hg hmm hk hall (by rw [hlvd3, if_pos ⟨hk0, by rw [rowsL_at hkR1]; exact hnw⟩]; decide)
               exact f_fin2 [] Tryz.results60 rfl rfl Sub.nil ⟨by rw [e, hlvd3, if_pos ⟨hk0, by rw [rowsL_at hkR1]; exact hnw⟩], rfl⟩
              ·
               have hyw : withinP (R[k - 1]'hkR1).2.1 (R[k]'hkR).2.1 := by simpa using c108
               refine f_skip ?_
               refine f_bn ?_
               refine f_tn (kh15 _ _ ?_)
               clear kh15
               refine f_region ?_
               refine f_stepP rfl rfl rfl (o_move rfl) ?_
               refine f_stepP rfl rfl rfl (o_add rfl rfl _ (wrap_i64 (by omega))) ?_
               refine f_stepP rfl rfl rfl (o_assign rfl) ?_
               refine f_done ?_
               refine f_tn (f_again (k + 1) (by first | omega | (dsimp only; omega) | (simp; omega)) ⟨by omega, fun j hj => by
                 by_cases e : j = k
                 · subst e; rw [hlvd3, if_neg (fun h => h.2 (by rw [rowsL_at hkR1]; exact hyw))]
                 · exact hall j (by omega)⟩ ?_ ?_ ?_)
               · exact (by repeat (first | exact trivial | refine ⟨rfl, ?_⟩))
               · exact (by repeat (first | exact trivial | refine ⟨rfl, ?_⟩))
               · repeat (first | exact Sub.nil | refine Sub.pick ?_ | refine Sub.castO rfl ?_ | refine Sub.skip ?_)
             ·
              refine f_takeN 3 rfl (by decide +kernel) rfl rfl rfl rfl rfl rfl (by repeat (first | exact Sub.nil | refine Sub.pick ?_ | refine Sub.castO rfl ?_ | refine Sub.skip ?_)) ?_
              refine f_takeN 4 rfl (by decide +kernel) rfl rfl rfl rfl rfl rfl (by repeat (first | exact Sub.nil | refine Sub.pick ?_ | refine Sub.castO rfl ?_ | refine Sub.skip ?_)) ?_
              refine f_takeN 5 rfl (by decide +kernel) rfl rfl rfl rfl rfl rfl (by repeat (first | exact Sub.nil | refine Sub.pick ?_ | refine Sub.castO rfl ?_ | refine Sub.skip ?_)) ?_
              refine f_takeN 6 rfl (by decide +kernel) rfl rfl rfl rfl rfl rfl (by repeat (first | exact Sub.nil | refine Sub.pick ?_ | refine Sub.castO rfl ?_ | refine Sub.skip ?_)) ?_
              refine f_takeN 7 rfl (by decide +kernel) rfl rfl rfl rfl rfl rfl (by repeat (first | exact Sub.nil | refine Sub.pick ?_ | refine Sub.castO rfl ?_ | refine Sub.skip ?_)) ?_
              refine f_takeN 8 rfl (by decide +kernel) rfl rfl rfl rfl rfl rfl (by repeat (first | exact Sub.nil | refine Sub.pick ?_ | refine Sub.castO rfl ?_ | refine Sub.skip ?_)) ?_
              refine f_takeN 9 rfl (by decide +kernel) rfl rfl rfl rfl rfl rfl (by repeat (first | exact Sub.nil | refine Sub.pick ?_ | refine Sub.castO rfl ?_ | refine Sub.skip ?_)) ?_
              refine f_takeN 10 rfl (by decide +kernel) rfl rfl rfl rfl rfl rfl (by repeat (first | exact Sub.nil | refine Sub.pick ?_ | refine Sub.castO rfl ?_ | refine Sub.skip ?_)) ?_
              refine f_takeN 11 rfl (by decide +kernel) rfl rfl rfl rfl rfl rfl (by repeat (first | exact Sub.nil | refine Sub.pick ?_ | refine Sub.castO rfl ?_ | refine Sub.skip ?_)) ?_
              refine f_takeN 12 rfl (by decide +kernel) rfl rfl rfl rfl rfl rfl (by repeat (first | exact Sub.nil | refine Sub.pick ?_ | refine Sub.castO rfl ?_ | refine Sub.skip ?_)) ?_
              refine f_takeN 13 rfl (by decide +kernel) rfl rfl rfl rfl rfl rfl (by repeat (first | exact Sub.nil | refine Sub.pick ?_ | refine Sub.castO rfl ?_ | refine Sub.skip ?_)) ?_
              refine f_takeN 14 rfl (by decide +kernel) rfl rfl rfl rfl rfl rfl (by repeat (first | exact Sub.nil | refine Sub.pick ?_ | refine Sub.castO rfl ?_ | refine Sub.skip ?_)) ?_
              refine f_takeN 15 rfl (by decide +kernel) rfl rfl rfl rfl rfl rfl (by repeat (first | exact Sub.nil | refine Sub.pick ?_ | refine Sub.castO rfl ?_ | refine Sub.skip ?_)) ?_
              refine f_take 16 rfl (by decide +kernel) rfl rfl rfl (by repeat (first | exact Sub.nil | refine Sub.pick ?_ | refine Sub.castO rfl ?_ | refine Sub.skip ?_)) (o_pickF rfl rfl) ?_
              refine f_over (by decide +kernel) ?_
              refine f_tn (kh28 _ _ ?_)
              clear kh28
              refine f_condF rfl ?_
              refine f_skip ?_
              refine f_bn ?_
              refine f_tn (kh15 _ _ ?_)
              clear kh15
              refine f_region ?_
              refine f_stepP rfl rfl rfl (o_move rfl) ?_
              refine f_stepP rfl rfl rfl (o_add rfl rfl _ (wrap_i64 (by omega))) ?_
              refine f_stepP rfl rfl rfl (o_assign rfl) ?_
              refine f_done ?_
              refine f_tn (f_again (k + 1) (by first | omega | (dsimp only; omega) | (simp; omega)) ⟨by omega, fun j hj => by
                by_cases e : j = k
                · subst e; rw [hlvd3, if_neg (fun h => by omega)]
                · exact hall j (by omega)⟩ ?_ ?_ ?_)
              · exact (by repeat (first | exact trivial | refine ⟨rfl, ?_⟩))
              · exact (by repeat (first | exact trivial | refine ⟨rfl, ?_⟩))
              · repeat (first | exact Sub.nil | refine Sub.pick ?_ | refine Sub.castO rfl ?_ | refine Sub.skip ?_)
         ·
          have hblw : blwB bs k = 0 := by rw [show k = 0 by omega]; rfl
          refine f_stepN rfl rfl rfl rfl rfl rfl ?_
          refine f_stepN rfl rfl rfl rfl rfl rfl ?_
          refine f_stepN rfl rfl rfl rfl rfl rfl ?_
          refine f_stepN rfl rfl rfl rfl rfl rfl ?_
          refine f_stepN rfl rfl rfl rfl rfl rfl ?_
          refine f_stepN rfl rfl rfl rfl rfl rfl ?_
          refine f_stepN rfl rfl rfl rfl rfl rfl ?_
          refine f_stepN rfl rfl rfl rfl rfl rfl ?_
          refine f_stepPY rfl rfl rfl rfl rfl (o_pickF rfl rfl) ?_
          refine f_stepP rfl rfl rfl (o_pickF rfl rfl) ?_
          refine f_done ?_
          refine f_tn (kh18 _ _ ?_)
          clear kh18
          refine f_condF rfl ?_
          refine f_skip ?_
          refine f_tn (kh17 _ _ ?_)
          clear kh17
          refine f_seq fun K30 kh30 => ?_
          refine f_seq fun K31 kh31 => ?_
          have hbd : ¬ (bs[k] ≤ blwB bs k ∨ 1024 < bs[k]) := by rw [hblw]; omega
          refine f_regionH [[(b2, blk [.int .i64 (n : Int), .slice A l.length cap] 24)], [(b3, blk [.slice (some ⟨b1, o1, none⟩) bs.length cb, .slice (some ⟨b4, o4, none⟩) R.length cc] 28)]] rfl ?_
          refine f_take 0 rfl (by decide +kernel) rfl rfl rfl (by repeat (first | exact Sub.nil | refine Sub.pick ?_ | refine Sub.castO rfl ?_ | refine Sub.skip ?_)) (o_loadA (vs := [_, _]) Tryz.isAgg24 Tryz.sizeOf24 rfl rfl ⟨(rdA rfl), (rdA rfl), trivial⟩) ?_
          refine f_take 1 rfl (by decide +kernel) rfl rfl rfl (by repeat (first | exact Sub.nil | refine Sub.pick ?_ | refine Sub.castO rfl ?_ | refine Sub.skip ?_)) (o_field fa28_1 rfl) ?_
          refine f_take 2 rfl (by decide +kernel) rfl rfl rfl (by repeat (first | exact Sub.nil | refine Sub.pick ?_ | refine Sub.castO rfl ?_ | refine Sub.skip ?_)) (o_load Tryz.isAgg26 rfl (rdA rfl)) ?_
          refine f_take 3 rfl (by decide +kernel) rfl rfl rfl (by repeat (first | exact Sub.nil | refine Sub.pick ?_ | refine Sub.castO rfl ?_ | refine Sub.skip ?_)) (o_move rfl) ?_
          refine f_take 4 rfl (by decide +kernel) rfl rfl rfl (by repeat (first | exact Sub.nil | refine Sub.pick ?_ | refine Sub.castO rfl ?_ | refine Sub.skip ?_)) (o_idx sl26 rfl rfl (o4 + k) ⟨by omega, by omega, by first | omega | (simp; done) | (simp; omega)⟩) ?_
          refine f_take 5 rfl (by decide +kernel) rfl rfl rfl (by repeat (first | exact Sub.nil | refine Sub.pick ?_ | refine Sub.castO rfl ?_ | refine Sub.skip ?_)) (o_load Tryz.isAgg25 rfl (roOne (enc := rowV) hS4 hc4 hkR)) ?_
          refine f_only 6 rfl (by decide +kernel) rfl rfl rfl (o_call Tryz.call71 rfl (fun w_ hp_ => RRight_spec n A l cap (R[k]'hkR).1 (R[k]'hkR).2.1 (R[k]'hkR).2.2 w_ (by omega) (hrow.1.up0 hp_) hrow.2) ?_)
          rintro _ _ ⟨rfl, rfl⟩
          dsimp only [List.cons_append, List.nil_append]
          refine ⟨(by repeat (first | exact Sub.nil | refine Sub.pick ?_ | refine Sub.castO rfl ?_ | refine Sub.skip ?_)), ?_⟩
          refine f_take 7 rfl (by decide +kernel) rfl rfl rfl (by repeat (first | exact Sub.nil | refine Sub.pick ?_ | refine Sub.castO rfl ?_ | refine Sub.skip ?_)) (o_not rfl) ?_
          refine f_over (by decide +kernel) ?_
          refine f_tn (kh31 _ _ ?_)
          clear kh31
          refine f_condB rfl (fun c78 => ?_) (fun c78 => ?_)
          ·
           have hRf : rightB (n : Int) (R[k]'hkR).2.1 = false := by simpa using c78
           have hlvd2 : lvE (n : Int) l bs (rowsL R) k = if firstE (n : Int) l (R[k]'hkR).2.1 bs[k] ≠ 0 then firstE (n : Int) l (R[k]'hkR).2.1 bs[k] else if 0 < k ∧ ¬ withinP ((rowsL R).getD (k - 1) []) (R[k]'hkR).2.1 then 110 else 0 := by rw [hlvd, if_neg hbd]
           refine f_seq fun K32 kh32 => ?_
           refine f_region ?_
           refine f_stepP rfl rfl rfl (o_move rfl) ?_
           refine f_stepP rfl rfl rfl (o_add rfl rfl _ (wrap_i64 (by omega))) ?_
           refine f_stepP rfl rfl rfl (o_assign rfl) ?_
           refine f_stepP rfl rfl rfl (o_assign rfl) ?_
           refine f_done ?_
           refine f_tn (kh32 _ _ ?_)
           clear kh32
           refine f_ret ?_
           refine f_tr ?_
           refine f_br ?_
           refine f_tr ?_
           refine f_tr ?_
           refine f_br ?_
           refine f_tr ?_
           have hfe := firstE_not (l := l) (b := bs[k]) hg hRf
           have e := nsE_at hg hmm hk hall (by rw [hlvd2, hfe, if_pos (by decide)]; decide)
           exact f_fin2 [] Tryz.results60 rfl rfl Sub.nil ⟨by rw [e, hlvd2, hfe, if_pos (by decide)], rfl⟩
          ·
           have hRt : rightB (n : Int) (R[k]'hkR).2.1 = true := by simpa using c78
           have hlvd2 : lvE (n : Int) l bs (rowsL R) k = if firstE (n : Int) l (R[k]'hkR).2.1 bs[k] ≠ 0 then firstE (n : Int) l (R[k]'hkR).2.1 bs[k] else if 0 < k ∧ ¬ withinP ((rowsL R).getD (k - 1) []) (R[k]'hkR).2.1 then 110 else 0 := by rw [hlvd, if_neg hbd]
           have hlen2 : (R[k]'hkR).2.1.length = n := (right_parts hRt).2
           have hrg := right_range hRt (by omega)
           have hr0 := hrg _ (List.getElem_mem (show 0 < (R[k]'hkR).2.1.length by omega))
           have hsl : (sizesL (R[k]'hkR).2.1).length = (maxL (R[k]'hkR).2.1 + 1).toNat := szs_len _ _
           refine f_skip ?_
           refine f_tn (kh30 _ _ ?_)
           clear kh30
           refine f_seq fun K33 kh33 => ?_
           refine f_seq fun K34 kh34 => ?_
           refine f_region ?_
           refine f_stepP rfl rfl rfl (o_field fa28_1 rfl) ?_
           refine f_stepP rfl rfl rfl (o_load Tryz.isAgg26 rfl (rdA rfl)) ?_
           refine f_stepP rfl rfl rfl (o_move rfl) ?_
           refine f_stepP rfl rfl rfl (o_idx sl26 rfl rfl (o4 + k) ⟨by omega, by omega, by first | omega | (simp; done) | (simp; omega)⟩) ?_
           refine f_stepP rfl rfl rfl (o_load Tryz.isAgg25 rfl (roOne (enc := rowV) hS4 hc4 hkR)) ?_
           refine f_step rfl rfl rfl (o_call Tryz.call73 rfl (fun w_ hp_ => RSize_spec n (R[k]'hkR).1 (R[k]'hkR).2.1 (R[k]'hkR).2.2 w_ ⟨by omega, by omega⟩ hRt (hrow.1.up0 hp_)) ?_)
           rintro _ _ ⟨AZ, cZ, mZ, rfl, rfl, hoZ⟩
           dsimp only [List.cons_append, List.nil_append]
           refine f_step rfl rfl rfl (o_call Tryz.call72 rfl (fun w_ hp_ => Rgreat_spec AZ (sizesL (R[k]'hkR).2.1) cZ w_ (seen_ro (hoZ.seen hp_)) (by omega) (by omega) (fun x hx => (sizesL_rngT (by omega) x hx).1)) ?_)
           rintro _ _ ⟨rfl, rfl⟩
           dsimp only [List.cons_append, List.nil_append]
           refine f_stepP rfl rfl rfl (o_move rfl) ?_
           refine f_stepP rfl rfl rfl (o_gtr rfl rfl) ?_
           refine f_done ?_
           refine f_tn (kh34 _ _ ?_)
           clear kh34
           refine f_cond rfl (fun c89 => ?_) (fun c89 => ?_)
           ·
            refine f_seq fun K35 kh35 => ?_
            refine f_region ?_
            refine f_stepP rfl rfl rfl (o_move rfl) ?_
            refine f_stepP rfl rfl rfl (o_add rfl rfl _ (wrap_i64 (by omega))) ?_
            refine f_stepP rfl rfl rfl (o_assign rfl) ?_
            refine f_stepP rfl rfl rfl (o_assign rfl) ?_
            refine f_done ?_
            refine f_tn (kh35 _ _ ?_)
            clear kh35
            refine f_ret ?_
            refine f_tr ?_
            refine f_br ?_
            refine f_tr ?_
            refine f_tr ?_
            refine f_br ?_
            refine f_tr ?_
            have hfe : firstE (n : Int) l (R[k]'hkR).2.1 bs[k] = 90 := by rw [firstE_right hg hRt, if_pos (by omega)]
            have e := nsE_at hg hmm hk hall (by rw [hlvd2, hfe, if_pos (by decide)]; decide)
            exact f_fin2 [] Tryz.results60 rfl rfl Sub.nil ⟨by rw [e, hlvd2, hfe, if_pos (by decide)], rfl⟩
           ·
            have hfe : firstE (n : Int) l (R[k]'hkR).2.1 bs[k] = 0 := by rw [firstE_right hg hRt, if_neg (by omega)]
            have hlvd3 : lvE (n : Int) l bs (rowsL R) k = if 0 < k ∧ ¬ withinP ((rowsL R).getD (k - 1) []) (R[k]'hkR).2.1 then 110 else 0 := by rw [hlvd2, if_neg (by rw [hfe]; simp)]
            refine f_skip ?_
            refine f_tn (kh33 _ _ ?_)
            clear kh33
            refine f_seq fun K36 kh36 => ?_
            refine f_regionH [[(b2, blk [.int .i64 (n : Int), .slice A l.length cap] 24)], [(b3, blk [.slice (some ⟨b1, o1, none⟩) bs.length cb, .slice (some ⟨b4, o4, none⟩) R.length cc] 28)]] rfl ?_
            refine f_take 0 rfl (by decide +kernel) rfl rfl rfl (by repeat (first | exact Sub.nil | refine Sub.pick ?_ | refine Sub.castO rfl ?_ | refine Sub.skip ?_)) (o_move rfl) ?_
            refine f_take 1 rfl (by decide +kernel) rfl rfl rfl (by repeat (first | exact Sub.nil | refine Sub.pick ?_ | refine Sub.castO rfl ?_ | refine Sub.skip ?_)) (o_gtr rfl rfl) ?_
            refine f_take 2 rfl (by decide +kernel) rfl rfl rfl (by repeat (first | exact Sub.nil | refine Sub.pick ?_ | refine Sub.castO rfl ?_ | refine Sub.skip ?_)) (o_move rfl) ?_
            refine f_splitH 94 rfl (fun g94 => ?_) (fun g94 => ?_)
            ·
             have hk0 : 0 < k := by omega
             have hkR1 : k - 1 < R.length := by omega
             have hlen1 : (R[k - 1]'hkR1).2.1.length = n := by
               have h2 := ((lvE_zero hg).1 (hall (k - 1) (by omega))).2.1
               rw [rowsL_at hkR1] at h2
               exact (right_parts h2).2
             refine f_takeY 3 rfl (by decide +kernel) rfl rfl rfl rfl rfl (by repeat (first | exact Sub.nil | refine Sub.pick ?_ | refine Sub.castO rfl ?_ | refine Sub.skip ?_)) (o_field fa28_1 rfl) ?_
             refine f_takeY 4 rfl (by decide +kernel) rfl rfl rfl rfl rfl (by repeat (first | exact Sub.nil | refine Sub.pick ?_ | refine Sub.castO rfl ?_ | refine Sub.skip ?_)) (o_load Tryz.isAgg26 rfl (rdA rfl)) ?_
             refine f_takeY 5 rfl (by decide +kernel) rfl rfl rfl rfl rfl (by repeat (first | exact Sub.nil | refine Sub.pick ?_ | refine Sub.castO rfl ?_ | refine Sub.skip ?_)) (o_move rfl) ?_
             refine f_takeY 6 rfl (by decide +kernel) rfl rfl rfl rfl rfl (by repeat (first | exact Sub.nil | refine Sub.pick ?_ | refine Sub.castO rfl ?_ | refine Sub.skip ?_)) (o_sub rfl rfl _ (Eq.trans (wrap_i64 (by omega)) (show _ = ((k - 1 : Nat) : Int) by omega))) ?_
             refine f_takeY 7 rfl (by decide +kernel) rfl rfl rfl rfl rfl (by repeat (first | exact Sub.nil | refine Sub.pick ?_ | refine Sub.castO rfl ?_ | refine Sub.skip ?_)) (o_idx sl26 rfl rfl (o4 + (k - 1)) ⟨by omega, by omega, by first | omega | (simp; done) | (simp; omega)⟩) ?_
             refine f_takeY 8 rfl (by decide +kernel) rfl rfl rfl rfl rfl (by repeat (first | exact Sub.nil | refine Sub.pick ?_ | refine Sub.castO rfl ?_ | refine Sub.skip ?_)) (o_load Tryz.isAgg25 rfl (roOne (enc := rowV) hS4 hc4 hkR1)) ?_
             refine f_takeY 9 rfl (by decide +kernel) rfl rfl rfl rfl rfl (by repeat (first | exact Sub.nil | refine Sub.pick ?_ | refine Sub.castO rfl ?_ | refine Sub.skip ?_)) (o_field fa28_1 rfl) ?_
             refine f_takeY 10 rfl (by decide +kernel) rfl rfl rfl rfl rfl (by repeat (first | exact Sub.nil | refine Sub.pick ?_ | refine Sub.castO rfl ?_ | refine Sub.skip ?_)) (o_load Tryz.isAgg26 rfl (rdA rfl)) ?_
             refine f_takeY 11 rfl (by decide +kernel) rfl rfl rfl rfl rfl (by repeat (first | exact Sub.nil | refine Sub.pick ?_ | refine Sub.castO rfl ?_ | refine Sub.skip ?_)) (o_move rfl) ?_
             refine f_takeY 12 rfl (by decide +kernel) rfl rfl rfl rfl rfl (by repeat (first | exact Sub.nil | refine Sub.pick ?_ | refine Sub.castO rfl ?_ | refine Sub.skip ?_)) (o_idx sl26 rfl rfl (o4 + k) ⟨by omega, by omega, by first | omega | (simp; done) | (simp; omega)⟩) ?_
             refine f_takeY 13 rfl (by decide +kernel) rfl rfl rfl rfl rfl (by repeat (first | exact Sub.nil | refine Sub.pick ?_ | refine Sub.castO rfl ?_ | refine Sub.skip ?_)) (o_load Tryz.isAgg25 rfl (roOne (enc := rowV) hS4 hc4 hkR)) ?_
             refine f_onlyY 14 rfl (by decide +kernel) rfl rfl rfl rfl rfl (o_call Tryz.call74 rfl (fun w_ hp_ => Rnested_spec (R[k - 1]'hkR1).1 (R[k]'hkR).1 (R[k - 1]'hkR1).2.1 (R[k]'hkR).2.1 (R[k - 1]'hkR1).2.2 (R[k]'hkR).2.2 (R[k]'hkR).2.1.length w_ ((hn.rows _ (List.getElem_mem hkR1)).1.up0 hp_) (hrow.1.up0 hp_) rfl (by omega) (by omega)) ?_)
             rintro _ _ ⟨rfl, rfl⟩
             dsimp only [List.cons_append, List.nil_append]
             refine ⟨(by repeat (first | exact Sub.nil | refine Sub.pick ?_ | refine Sub.castO rfl ?_ | refine Sub.skip ?_)), ?_⟩
             refine f_takeY 15 rfl (by decide +kernel) rfl rfl rfl rfl rfl (by repeat (first | exact Sub.nil | refine Sub.pick ?_ | refine Sub.castO rfl ?_ | refine Sub.skip ?_)) (o_not rfl) ?_
             refine f_take 16 rfl (by decide +kernel) rfl rfl rfl (by repeat (first | exact Sub.nil | refine Sub.pick ?_ | refine Sub.castO rfl ?_ | refine Sub.skip ?_)) (o_pickT rfl rfl) ?_
             refine f_over (by decide +kernel) ?_
             refine f_tn (kh36 _ _ ?_)
             clear kh36
             refine f_condB rfl (fun c108 => ?_) (fun c108 => ?_)
             ·
              have hnw : ¬ withinP (R[k - 1]'hkR1).2.1 (R[k]'hkR).2.1 := by simpa using c108
              refine f_seq fun K37 kh37 => ?_
              refine f_region ?_
              refine f_stepP rfl rfl rfl (o_move rfl) ?_
              refine f_stepP rfl rfl rfl (o_add rfl rfl _ (wrap_i64 (by omega))) ?_
              refine f_stepP rfl rfl rfl (o_assign rfl) ?_
              refine f_stepP rfl rfl rfl (o_assign rfl) ?_
              refine f_done ?_
              refine f_tn (kh37 _ _ ?_)
              clear kh37
              refine f_ret ?_
              refine f_br ?_
              refine f_tr ?_
              refine f_tr ?_
              refine f_br ?_
              refine f_tr ?_
              have e := nsE_at hg hmm hk hall (by rw [hlvd3, if_pos ⟨hk0, by rw [rowsL_at hkR1]; exact hnw⟩]; decide)
              exact f_fin2 [] Tryz.results60 rfl rfl Sub.nil ⟨by rw [e, hlvd3, if_pos ⟨hk0, by rw [rowsL_at hkR1]; exact hnw⟩], rfl⟩
             ·
              have hyw : withinP (R[k - 1]'hkR1).2.1 (R[k]'hkR).2.1 := by simpa using c108
              refine f_skip ?_
              refine f_bn ?_
              refine f_tn (kh15 _ _ ?_)
              clear kh15
              refine f_region ?_
              refine f_stepP rfl rfl rfl (o_move rfl) ?_
              refine f_stepP rfl rfl rfl (o_add rfl rfl _ (wrap_i64 (by omega))) ?_
              refine f_stepP rfl rfl rfl (o_assign rfl) ?_
              refine f_done ?_
              refine f_tn (f_again (k + 1) (by first | omega | (dsimp only; omega) | (simp; omega)) ⟨by omega, fun j hj => by
                by_cases e : j = k
                · subst e; rw [hlvd3, if_neg (fun h => h.2 (by rw [rowsL_at hkR1]; exact hyw))]
                · exact hall j (by omega)⟩ ?_ ?_ ?_)
              · exact (by repeat (first | exact trivial | refine ⟨rfl, ?_⟩))
              · exact (by repeat (first | exact trivial | refine ⟨rfl, ?_⟩))
              · repeat (first | exact Sub.nil | refine Sub.pick ?_ | refine Sub.castO rfl ?_ | refine Sub.skip ?_)
            ·
             refine f_takeN 3 rfl (by decide +kernel) rfl rfl rfl rfl rfl rfl (by repeat (first | exact Sub.nil | refine Sub.pick ?_ | refine Sub.castO rfl ?_ | refine Sub.skip ?_)) ?_
             refine f_takeN 4 rfl (by decide +kernel) rfl rfl rfl rfl rfl rfl (by repeat (first | exact Sub.nil | refine Sub.pick ?_ | refine Sub.castO rfl ?_ | refine Sub.skip ?_)) ?_
             refine f_takeN 5 rfl (by decide +kernel) rfl rfl rfl rfl rfl rfl (by repeat (first | exact Sub.nil | refine Sub.pick ?_ | refine Sub.castO rfl ?_ | refine Sub.skip ?_)) ?_
             refine f_takeN 6 rfl (by decide +kernel) rfl rfl rfl rfl rfl rfl (by repeat (first | exact Sub.nil | refine Sub.pick ?_ | refine Sub.castO rfl ?_ | refine Sub.skip ?_)) ?_
             refine f_takeN 7 rfl (by decide +kernel) rfl rfl rfl rfl rfl rfl (by repeat (first | exact Sub.nil | refine Sub.pick ?_ | refine Sub.castO rfl ?_ | refine Sub.skip ?_)) ?_
             refine f_takeN 8 rfl (by decide +kernel) rfl rfl rfl rfl rfl rfl (by repeat (first | exact Sub.nil | refine Sub.pick ?_ | refine Sub.castO rfl ?_ | refine Sub.skip ?_)) ?_
             refine f_takeN 9 rfl (by decide +kernel) rfl rfl rfl rfl rfl rfl (by repeat (first | exact Sub.nil | refine Sub.pick ?_ | refine Sub.castO rfl ?_ | refine Sub.skip ?_)) ?_
             refine f_takeN 10 rfl (by decide +kernel) rfl rfl rfl rfl rfl rfl (by repeat (first | exact Sub.nil | refine Sub.pick ?_ | refine Sub.castO rfl ?_ | refine Sub.skip ?_)) ?_
             refine f_takeN 11 rfl (by decide +kernel) rfl rfl rfl rfl rfl rfl (by repeat (first | exact Sub.nil | refine Sub.pick ?_ | refine Sub.castO rfl ?_ | refine Sub.skip ?_)) ?_
             refine f_takeN 12 rfl (by decide +kernel) rfl rfl rfl rfl rfl rfl (by repeat (first | exact Sub.nil | refine Sub.pick ?_ | refine Sub.castO rfl ?_ | refine Sub.skip ?_)) ?_
             refine f_takeN 13 rfl (by decide +kernel) rfl rfl rfl rfl rfl rfl (by repeat (first | exact Sub.nil | refine Sub.pick ?_ | refine Sub.castO rfl ?_ | refine Sub.skip ?_)) ?_
             refine f_takeN 14 rfl (by decide +kernel) rfl rfl rfl rfl rfl rfl (by repeat (first | exact Sub.nil | refine Sub.pick ?_ | refine Sub.castO rfl ?_ | refine Sub.skip ?_)) ?_
             refine f_takeN 15 rfl (by decide +kernel) rfl rfl rfl rfl rfl rfl (by repeat (first | exact Sub.nil | refine Sub.pick ?_ | refine Sub.castO rfl ?_ | refine Sub.skip ?_)) ?_
             refine f_take 16 rfl (by decide +kernel) rfl rfl rfl (by repeat (first | exact Sub.nil | refine Sub.pick ?_ | refine Sub.castO rfl ?_ | refine Sub.skip ?_)) (o_pickF rfl rfl) ?_
             refine f_over (by decide +kernel) ?_
             refine f_tn (kh36 _ _ ?_)
             clear kh36
             refine f_condF rfl ?_
             refine f_skip ?_
             refine f_bn ?_
             refine f_tn (kh15 _ _ ?_)
             clear kh15
             refine f_region ?_
             refine f_stepP rfl rfl rfl (o_move rfl) ?_
             refine f_stepP rfl rfl rfl (o_add rfl rfl _ (wrap_i64 (by omega))) ?_
             refine f_stepP rfl rfl rfl (o_assign rfl) ?_
             refine f_done ?_
             refine f_tn (f_again (k + 1) (by first | omega | (dsimp only; omega) | (simp; omega)) ⟨by omega, fun j hj => by
               by_cases e : j = k
               · subst e; rw [hlvd3, if_neg (fun h => by omega)]
               · exact hall j (by omega)⟩ ?_ ?_ ?_)
             · exact (by repeat (first | exact trivial | refine ⟨rfl, ?_⟩))
             · exact (by repeat (first | exact trivial | refine ⟨rfl, ?_⟩))
             · repeat (first | exact Sub.nil | refine Sub.pick ?_ | refine Sub.castO rfl ?_ | refine Sub.skip ?_)
      ·
       refine f_exit ?_
       refine f_te ?_
       clear kh13
       refine f_te ?_
       refine f_be ?_
       refine f_tn (kh11 _ _ ?_)
       clear kh11
       refine f_seq fun K38 kh38 => ?_
       refine f_region ?_
       refine f_stepP rfl rfl rfl (o_assign rfl) ?_
       refine f_stepP rfl rfl rfl (o_assign rfl) ?_
       refine f_done ?_
       refine f_tn (kh38 _ _ ?_)
       clear kh38
       refine f_ret ?_
       have e := nsE_none hg hmm (fun j hj => hall j (by omega))
       exact f_fin2 [] Tryz.results60 rfl rfl Sub.nil ⟨by rw [e], rfl⟩

set_option maxRecDepth 100000 in
set_option maxHeartbeats 4000000 in
theorem RNCount_spec (Ab : Option Addr) (bs : List Int) (cb : Nat) (Ac : Option Addr) (R : List Row) (cc : Nat) (k : Nat) (w : World) (hn : NestRo (Fr w []) w Ab bs Ac R) (hk : k < R.length) (hL : (R[k]'hk).2.1.length ≤ 1024) (h0 : 0 < (R[k]'hk).2.1.length) (hp : ∀ x ∈ (R[k]'hk).2.1, 0 ≤ x ∧ x ≤ 1024) :
    Meets Tryz.prog 61 [.agg #[.slice Ab bs.length cb, .slice Ac R.length cc], .int .i64 ((k : Int) + 1)] w [] (fun u m => u = .int .i64 (maxL (R[k]'hk).2.1 + 1) ∧ m = []) := by
 obtain ⟨b4, o4, rfl, hS4, hc4⟩ := hn.c (map_ne hk)
 have hcl := hn.cl
 have hmx := maxL_le h0 (fun x hx => (hp x hx).2)
 have hm0 := le_maxL (List.getElem_mem h0)
 have hm1 := (hp _ (List.getElem_mem h0)).1
 refine f_enter Tryz.func61 rfl Tryz.ntmps61 rfl Owns.nil ?_
 refine f_seq fun K1 kh1 => ?_
 refine f_region ?_
 refine f_step rfl rfl rfl (o_box rfl rfl fun b2 => ?_)
 refine f_stepP rfl rfl rfl (o_assign rfl) ?_
 refine f_done ?_
 refine f_tn (kh1 _ _ ?_)
 clear kh1
 refine f_seq fun K2 kh2 => ?_
 refine f_region ?_
 refine f_stepP rfl rfl rfl (o_field fa28_1 rfl) ?_
 refine f_stepP rfl rfl rfl (o_load Tryz.isAgg26 rfl (rdA rfl)) ?_
 refine f_stepP rfl rfl rfl (o_move rfl) ?_
 refine f_stepP rfl rfl rfl (o_sub rfl rfl _ (Eq.trans (wrap_i64 (by omega)) (show _ = (k : Int) by omega))) ?_
 refine f_stepP rfl rfl rfl (o_idx sl26 rfl rfl (o4 + k) ⟨by omega, by omega, by first | omega | (simp; done) | (simp; omega)⟩) ?_
 refine f_stepP rfl rfl rfl (o_load Tryz.isAgg25 rfl (roOne (enc := rowV) hS4 hc4 hk)) ?_
 refine f_step rfl rfl rfl (o_call Tryz.call72 rfl (fun w_ hp_ => Rgreat_spec (R[k]'hk).1 (R[k]'hk).2.1 (R[k]'hk).2.2 w_ ((hn.rows _ (List.getElem_mem hk)).1.up0 hp_) (by omega) h0 (fun x hx => (hp x hx).1)) ?_)
 rintro _ _ ⟨rfl, rfl⟩
 dsimp only [List.cons_append, List.nil_append]
 refine f_stepP rfl rfl rfl (o_add rfl rfl _ (wrap_i64 (by omega))) ?_
 refine f_stepP rfl rfl rfl (o_assign rfl) ?_
 refine f_done ?_
 refine f_tn (kh2 _ _ ?_)
 clear kh2
 refine f_ret ?_
 exact f_fin1 [] Tryz.results61 rfl Sub.nil ⟨rfl, rfl⟩

set_option maxRecDepth 100000 in
set_option maxHeartbeats 4000000 in
theorem RNMany_spec (N : Int) (A : Option Addr) (l : List Arc) (cap : Nat) (Ab : Option Addr) (bs : List Int) (cb : Nat) (Ac : Option Addr) (R : List Row) (cc : Nat) (q : Int) (w : World) (hr : Ro (Fr w []) w A (l.flatMap arcCs)) (hl : l.length ≤ 9223372036854775807) (hN : I64 N) (hok : ∀ x ∈ l, ArcOk x) (hn : NestRo (Fr w []) w Ab bs Ac R) :
    Meets Tryz.prog 41 [.agg #[.int .i64 N, .slice A l.length cap], .agg #[.slice Ab bs.length cb, .slice Ac R.length cc], .int .i64 q] w [] (fun u m => u = .tuple #[.int .i64 (if lkE N l bs (rowsL R) q ≠ 0 then 0 else maxL ((rowsL R).getD (q.toNat - 1) []) + 1), .int .i64 (lkE N l bs (rowsL R) q)] ∧ m = []) := by
 refine f_enter Tryz.func41 rfl Tryz.ntmps41 rfl Owns.nil ?_
 refine f_seq fun K1 kh1 => ?_
 refine f_region ?_
 refine f_step rfl rfl rfl (o_box rfl rfl fun b3 => ?_)
 refine f_step rfl rfl rfl (o_box rfl rfl fun b4 => ?_)
 refine f_stepP rfl rfl rfl (o_assign rfl) ?_
 refine f_stepP rfl rfl rfl (o_assign rfl) ?_
 refine f_done ?_
 refine f_tn (kh1 _ _ ?_)
 clear kh1
 refine f_seq fun K2 kh2 => ?_
 refine f_seq fun K3 kh3 => ?_
 refine f_region ?_
 refine f_stepP rfl rfl rfl (o_loadA (vs := [_, _]) Tryz.isAgg24 Tryz.sizeOf24 rfl rfl ⟨(rdA rfl), (rdA rfl), trivial⟩) ?_
 refine f_stepP rfl rfl rfl (o_loadA (vs := [_, _]) Tryz.isAgg28 Tryz.sizeOf28 rfl rfl ⟨(rdA rfl), (rdA rfl), trivial⟩) ?_
 refine f_step rfl rfl rfl (o_call Tryz.call60 rfl (fun w_ hp_ => RNCheck_spec N A l cap Ab bs cb Ac R cc w_ (hr.up0 hp_) hl hN hok (hn.up0 hp_)) ?_)
 rintro _ _ ⟨rfl, rfl⟩
 dsimp only [List.cons_append, List.nil_append]
 refine f_stepP rfl rfl rfl (o_move rfl) ?_
 refine f_stepP rfl rfl rfl (o_extract rfl rfl) ?_
 refine f_stepP rfl rfl rfl (o_extract rfl rfl) ?_
 refine f_stepP rfl rfl rfl (o_assign rfl) ?_
 refine f_stepP rfl rfl rfl (o_assign rfl) ?_
 refine f_done ?_
 refine f_tn (kh3 _ _ ?_)
 clear kh3
 refine f_seq fun K4 kh4 => ?_
 refine f_region ?_
 refine f_stepP rfl rfl rfl (o_move rfl) ?_
 refine f_stepP rfl rfl rfl (o_neq rfl rfl) ?_
 refine f_done ?_
 refine f_tn (kh4 _ _ ?_)
 clear kh4
 refine f_cond rfl (fun c17 => ?_) (fun c17 => ?_)
 ·
  refine f_seq fun K5 kh5 => ?_
  refine f_region ?_
  refine f_stepP rfl rfl rfl (o_move rfl) ?_
  refine f_stepP rfl rfl rfl (o_assign rfl) ?_
  refine f_stepP rfl rfl rfl (o_assign rfl) ?_
  refine f_done ?_
  refine f_tn (kh5 _ _ ?_)
  clear kh5
  refine f_ret ?_
  refine f_tr ?_
  have e : lkE N l bs (rowsL R) q = (nsE N l bs (rowsL R)).2 := by unfold lkE; rw [if_pos (by simpa using c17)]
  exact f_fin2 [] Tryz.results41 rfl rfl Sub.nil ⟨by rw [if_pos (by rw [e]; simpa using c17), e], rfl⟩
 ·
  have hz : (nsE N l bs (rowsL R)).2 = 0 := by simpa using c17
  obtain ⟨n, rfl, hNo⟩ := nsE_zero hz
  have hRl := hNo.len
  rw [rowsL_len] at hRl
  have hn1 := hNo.n1
  refine f_skip ?_
  refine f_tn (kh2 _ _ ?_)
  clear kh2
  refine f_seq fun K6 kh6 => ?_
  refine f_seq fun K7 kh7 => ?_
  refine f_region ?_
  refine f_stepP rfl rfl rfl (o_move rfl) ?_
  refine f_stepP rfl rfl rfl (o_lss rfl rfl) ?_
  refine f_stepP rfl rfl rfl (o_move rfl) ?_
  refine f_splitL 21 rfl (fun g21 => ?_) (fun g21 => ?_)
  ·
   refine f_stepN rfl rfl rfl rfl rfl rfl ?_
   refine f_stepN rfl rfl rfl rfl rfl rfl ?_
   refine f_stepN rfl rfl rfl rfl rfl rfl ?_
   refine f_stepN rfl rfl rfl rfl rfl rfl ?_
   refine f_stepN rfl rfl rfl rfl rfl rfl ?_
   refine f_stepP rfl rfl rfl (o_pickT rfl rfl) ?_
   refine f_done ?_
   refine f_tn (kh7 _ _ ?_)
   clear kh7
   refine f_condT rfl ?_
   refine f_seq fun K8 kh8 => ?_
   refine f_region ?_
   refine f_stepP rfl rfl rfl (o_assign rfl) ?_
   refine f_stepP rfl rfl rfl (o_assign rfl) ?_
   refine f_done ?_
   refine f_tn (kh8 _ _ ?_)
   clear kh8
   refine f_ret ?_
   refine f_tr ?_
   have e : lkE (n : Int) l bs (rowsL R) q = 111 := by unfold lkE; rw [if_neg (by rw [hz]; simp), if_pos (by omega)]
   exact f_fin2 [] Tryz.results41 rfl rfl Sub.nil ⟨by rw [e]; rfl, rfl⟩
  ·
   refine f_stepPY rfl rfl rfl rfl rfl (o_move rfl) ?_
   refine f_stepPY rfl rfl rfl rfl rfl (o_field fa28_0 rfl) ?_
   refine f_stepPY rfl rfl rfl rfl rfl (o_load Tryz.isAgg25 rfl (rdA rfl)) ?_
   refine f_stepPY rfl rfl rfl rfl rfl (o_len sl25 rfl) ?_
   refine f_stepPY rfl rfl rfl rfl rfl (o_gtr rfl rfl) ?_
   refine f_stepP rfl rfl rfl (o_pickF rfl rfl) ?_
   refine f_done ?_
   refine f_tn (kh7 _ _ ?_)
   clear kh7
   refine f_cond rfl (fun c27 => ?_) (fun c27 => ?_)
   ·
    refine f_seq fun K9 kh9 => ?_
    refine f_region ?_
    refine f_stepP rfl rfl rfl (o_assign rfl) ?_
    refine f_stepP rfl rfl rfl (o_assign rfl) ?_
    refine f_done ?_
    refine f_tn (kh9 _ _ ?_)
    clear kh9
    refine f_ret ?_
    refine f_tr ?_
    have e : lkE (n : Int) l bs (rowsL R) q = 111 := by unfold lkE; rw [if_neg (by rw [hz]; simp), if_pos (by omega)]
    exact f_fin2 [] Tryz.results41 rfl rfl Sub.nil ⟨by rw [e]; rfl, rfl⟩
   ·
    obtain ⟨k, hqk⟩ : ∃ k : Nat, q = (k : Int) + 1 := ⟨(q - 1).toNat, by omega⟩
    have hk : k < bs.length := by omega
    have hkR : k < R.length := by omega
    have hRk := hNo.right hk
    have hrk := rowsL_at hkR
    rw [hrk] at hRk
    have hkl := (right_parts hRk).2
    have hrg := right_range hRk (by omega)
    have hlk : lkE (n : Int) l bs (rowsL R) q = 0 := by rw [hqk]; exact lkE_ok hNo hk
    refine f_skip ?_
    refine f_tn (kh6 _ _ ?_)
    clear kh6
    refine f_seq fun K10 kh10 => ?_
    refine f_region ?_
    refine f_stepP rfl rfl rfl (o_loadA (vs := [_, _]) Tryz.isAgg28 Tryz.sizeOf28 rfl rfl ⟨(rdA rfl), (rdA rfl), trivial⟩) ?_
    refine f_stepP rfl rfl rfl (o_move rfl) ?_
    refine f_step rfl rfl rfl (o_call Tryz.call61 rfl (fun w_ hp_ => (by have h := RNCount_spec Ab bs cb Ac R cc k w_ (hn.up0 hp_) hkR (by omega) (by omega) (fun x hx => by have := hrg x hx; omega); rw [show ((k : Int) + 1) = q by omega] at h; exact h)) ?_)
    rintro _ _ ⟨rfl, rfl⟩
    dsimp only [List.cons_append, List.nil_append]
    refine f_stepP rfl rfl rfl (o_assign rfl) ?_
    refine f_stepP rfl rfl rfl (o_assign rfl) ?_
    refine f_done ?_
    refine f_tn (kh10 _ _ ?_)
    clear kh10
    refine f_ret ?_
    exact f_fin2 [] Tryz.results41 rfl rfl Sub.nil ⟨by rw [hlk, if_neg (by simp), show q.toNat - 1 = k by omega, hrk], rfl⟩

end Go.Proofs.YtkmkakpadgljeaaGreat

/- flyoverlaw12.CellTouched. -/
namespace Go.Proofs.YtkmkakpadgljeaaGreat
open Go Go.RowKit Fly
set_option linter.unusedVariables false
set_option linter.unusedSimpArgs false


theorem idxs_memC {α : Type} {p : α → Bool} {l : List α} {x : Int} : x ∈ idxs p l ↔ ∃ (u : Nat) (hu : u < l.length), x = (u : Int) ∧ p l[u] = true := by
  have key : ∀ k, k ≤ l.length → (x ∈ idxs p (l.take k) ↔ ∃ (u : Nat) (hu : u < l.length), u < k ∧ x = (u : Int) ∧ p l[u] = true) := fun k => by
    induction k with
    | zero => intro _; simp [idxs]
    | succ k ih =>
      intro hk
      rw [idxs_succ (by omega), List.mem_append, ih (by omega)]
      constructor
      · rintro (⟨u, hu, h1, h2, h3⟩ | h)
        · exact ⟨u, hu, by omega, h2, h3⟩
        · split at h
          · rename_i h4; exact ⟨k, by omega, by omega, by simpa using h, h4⟩
          · cases h
      · rintro ⟨u, hu, h1, h2, h3⟩
        by_cases e : u = k
        · subst e; rw [if_pos h3]; exact .inr (by simpa using h2)
        · exact .inl ⟨u, hu, by omega, h2, h3⟩
  have := key l.length (Nat.le_refl _)
  rw [List.take_length] at this
  rw [this]
  constructor
  · rintro ⟨u, hu, _, h⟩; exact ⟨u, hu, h⟩
  · rintro ⟨u, hu, h⟩; exact ⟨u, hu, hu, h⟩

theorem snE_zero {N : Int} {l : List Arc} {bs : List Int} {L : List (List Int)} {arcs : List Int} (h : snE N l bs L arcs = 0) : (nsE N l bs L).2 = 0 ∧ arcs.length ≤ 16384 ∧ ∀ i ∈ arcs, 0 ≤ i ∧ i < (l.length : Int) := by
  unfold snE at h
  by_cases h1 : (nsE N l bs L).2 = 0
  · rw [if_neg (by rw [h1]; simp)] at h
    by_cases h2 : 16384 < arcs.length
    · rw [if_pos h2] at h; cases h
    · rw [if_neg h2] at h
      by_cases h3 : arcs.any (offA l.length) = true
      · rw [if_pos h3] at h; cases h
      · refine ⟨h1, by omega, fun i hi => ?_⟩
        have := List.any_eq_false.1 (by simpa using h3) i hi
        unfold offA at this
        simp at this; omega
  · rw [if_pos h1] at h; exact absurd h h1
theorem stOf_mem {row : List Int} {l : List Arc} {i c : Int} (hi : 0 ≤ i ∧ i < (l.length : Int)) : c ∈ stOf row l i ↔ i ∈ idxs (inP row c) l := by
  obtain ⟨u, rfl⟩ : ∃ u : Nat, i = (u : Int) := ⟨i.toNat, by omega⟩
  have hu : u < l.length := by omega
  rw [stOf_at rfl hu, idxs_memC]
  constructor
  · intro h
    split at h
    · rename_i e
      have h : c = row.getD l[u].src.toNat 0 := by simpa using h
      refine ⟨u, hu, rfl, ?_⟩
      unfold inP; rw [← e, ← h]; simp
    · cases h
  · rintro ⟨v, hv, e, h⟩
    obtain rfl : u = v := by omega
    unfold inP at h
    rw [Bool.and_eq_true, decide_eq_true_eq, decide_eq_true_eq] at h
    rw [if_pos (by rw [h.1, h.2]), h.1]; simp
theorem stRow_mem {row : List Int} {l : List Arc} {arcs : List Int} {c : Int} : c ∈ stRow row l arcs ↔ ∃ i ∈ arcs, c ∈ stOf row l i := by
  unfold stRow; rw [cpt_mem, (sortI_perm _).mem_iff]; unfold stR; rw [List.mem_flatMap]
theorem touched_is {row : List Int} {l : List Arc} {arcs : List Int} {c : Int} (ha : ∀ i ∈ arcs, 0 ≤ i ∧ i < (l.length : Int)) : (arcs.any fun x => decide (x ∈ idxs (inP row c) l)) = decide (c ∈ stRow row l arcs) := by
  rw [Bool.eq_iff_iff, decide_eq_true_eq, stRow_mem, List.any_eq_true]
  constructor
  · rintro ⟨i, hi, h⟩; exact ⟨i, hi, (stOf_mem (ha i hi)).2 (by simpa using h)⟩
  · rintro ⟨i, hi, h⟩; exact ⟨i, hi, by simpa using (stOf_mem (ha i hi)).1 h⟩
theorem any_take {α : Type} {p : α → Bool} {l : List α} {j : Nat} (hj : j < l.length) : (l.take (j + 1)).any p = ((l.take j).any p || p l[j]) := by
  rw [List.take_succ_eq_append_getElem hj, List.any_append]; simp

end Go.Proofs.YtkmkakpadgljeaaGreat
