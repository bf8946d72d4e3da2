/- flyoverlaw10.LocalEnds. -/
import Derived.Test.YtagidegklmgilaaFEnds10
namespace Go.Proofs.Ytagidegklmgilaa
open Go Go.RowKit Fly
set_option linter.unusedVariables false
set_option linter.unusedSimpArgs false


theorem wrap_u64_nonneg (x : Int) : 0 ≤ IntKind.u64.wrap x := by
  unfold IntKind.wrap IntKind.bits IntKind.signed; simp only; split <;> rename_i hc <;> simp at hc <;> omega
/-- So many moves as a question draws. -/
def kEnd (x : Int) (c : Nat) : Int := (IntKind.u64.wrap x).tmod ((c : Int) + 1)
theorem kEnd_rng (x : Int) (c : Nat) : 0 ≤ kEnd x c ∧ kEnd x c ≤ c := by
  have h := wrap_u64_nonneg x
  unfold kEnd
  rw [Int.tmod_eq_emod_of_nonneg h]
  have h1 := Int.emod_nonneg (IntKind.u64.wrap x) (show ((c : Int) + 1) ≠ 0 by omega)
  have h2 := Int.emod_lt_of_pos (IntKind.u64.wrap x) (show 0 < ((c : Int) + 1) by omega)
  omega
theorem impR_err {N : Int} {l : List Arc} {L : List Int} {bd m : Int} (h : (impR N l L bd m).2.2 ≠ 0) : (impR N l L bd m).1 = [] ∧ (impR N l L bd m).2.1 = 0 := by
  unfold impR at h ⊢
  split
  · exact ⟨rfl, rfl⟩
  · split
    · exact ⟨rfl, rfl⟩
    · rename_i h1 h2; rw [if_neg h1, if_neg h2] at h; exact absurd rfl h
theorem impR_cnt {N : Int} {l : List Arc} {L : List Int} {bd m : Int} (h : (lcount N l L).2 ≠ 0) : (impR N l L bd m).2.2 ≠ 0 := by
  have e : readyE N l L bd = (lcount N l L).2 := if_pos h
  unfold impR; rw [if_pos (by rw [e]; exact h), e]; exact h
theorem impR_ok {N : Int} {l : List Arc} {L : List Int} {bd m : Int} (h : (impR N l L bd m).2.2 = 0) : readyE N l L bd = 0 := by
  unfold impR at h
  by_cases h1 : readyE N l L bd ≠ 0
  · rw [if_pos h1] at h; exact absurd h h1
  · omega
theorem impR_go {n : Nat} {l : List Arc} {L : List Int} {bd : Int} (h0 : readyE (n : Int) l L bd = 0) {q : Nat} (hq : q ≤ 16384) : impR (n : Int) l L bd (q : Int) = ((impGo n (fun v => nbrs (v : Int) l) bd q (L, sizesL L)).1.1, ((impGo n (fun v => nbrs (v : Int) l) bd q (L, sizesL L)).2 : Int), 0) := by
  unfold impR; rw [if_neg (by rw [h0]; simp), if_neg (by omega), Int.toNat_natCast, Int.toNat_natCast]
theorem prs_small {n : Nat} (hn : n ≤ 40) (l : List Arc) (L : List Int) : cutN n l L ≤ 1600 := by
  refine Nat.le_trans (List.length_filter_le _ _) (Nat.le_trans (List.length_filter_le _ _) ?_)
  rw [allP_len]; exact Nat.mul_le_mul hn hn
theorem ready_of {n : Nat} {l : List Arc} {L : List Int} {bd : Int} (hg : (gcheck (n : Int) l).2 = 0) (h0 : readyE (n : Int) l L bd = 0) {s : LSt} (h : LInv n l bd s) : readyE (n : Int) l s.1 bd = 0 := by
  have hc := lcount_is hg h.right
  have hbd : ¬ (bd < 1 ∨ 1024 < bd) := fun hb => by
    unfold readyE at h0
    by_cases h1 : (lcount (n : Int) l L).2 ≠ 0
    · rw [if_pos h1] at h0; exact absurd h0 h1
    · rw [if_neg h1, if_pos hb] at h0; cases h0
  have hn := (lok_begin hg h.right).n1
  have hsz := sizesL_len h.right hn.1
  have hm : maxL (sizesL s.1) ≤ bd := maxL_le (by omega) fun x hx => h.bound x (by rw [h.size]; exact hx)
  unfold readyE
  rw [if_neg (by rw [hc]; simp), if_neg hbd, if_neg (by omega)]
theorem ends_law {n : Nat} {l : List Arc} {L : List Int} {bd : Int} (hg : (gcheck (n : Int) l).2 = 0) (hrt : rightB (n : Int) L = true) (h0 : readyE (n : Int) l L bd = 0) (hn : n ≤ 40) {k : Int} (hk : 0 ≤ k ∧ k ≤ cutN n l L) :
    ∃ A mv B f s, impR (n : Int) l L bd (cutN n l L : Int) = (A, mv, 0) ∧ A.length ≤ 1024 ∧ B.length ≤ 1024 ∧ readyE (n : Int) l A bd = 0 ∧ ¬ 0 < (mvR n l A bd).2.2 ∧ lcount (n : Int) l A = ((cutN n l A : Int), 0) ∧ mv ≤ (cutN n l L : Int) - cutN n l A ∧
      impR (n : Int) l L bd k = (B, f, 0) ∧ impR (n : Int) l B bd (cutN n l L : Int) = (A, s, 0) ∧ f + s = mv ∧ 0 ≤ f ∧ f ≤ 1600 ∧ 0 ≤ s ∧ s ≤ 1600 := by
  obtain ⟨q, rfl⟩ : ∃ q : Nat, k = (q : Int) := ⟨k.toNat, by omega⟩
  have hc := prs_small hn l L
  have hn1 := (lok_begin hg hrt).n1
  have hI : LInv n l bd (L, sizesL L) := by
    obtain ⟨hm1, hm2⟩ := ready_ok h0
    exact ⟨(sizesL_len hrt hn1.1).1, hrt, rfl, fun x hx => Int.le_trans (le_maxL hx) hm2⟩
  obtain ⟨hA, hAc⟩ := LInv.go hg (cutN n l L) _ hI
  obtain ⟨hB, hBc⟩ := LInv.go hg q _ hI
  have hstop := LInv.stops hg hI (Nat.le_refl (cutN n l L))
  have hadd := impGo_add (n := n) (rows := fun v : Nat => nbrs (v : Int) l) (bd := bd) q (cutN n l L) (L, sizesL L)
  have hadd' := impGo_add (n := n) (rows := fun v : Nat => nbrs (v : Int) l) (bd := bd) (cutN n l L) q (L, sizesL L)
  rw [impGo_stop0 hstop, Nat.add_comm] at hadd'
  rw [hadd'] at hadd
  have hl1 := impGo_le (n := n) (rows := fun v : Nat => nbrs (v : Int) l) (bd := bd) q (L, sizesL L)
  generalize hgA : impGo n (fun v : Nat => nbrs (v : Int) l) bd (cutN n l L) (L, sizesL L) = ra at *
  generalize hgB : impGo n (fun v : Nat => nbrs (v : Int) l) bd q (L, sizesL L) = rb at *
  have hl2 := impGo_le (n := n) (rows := fun v : Nat => nbrs (v : Int) l) (bd := bd) (cutN n l L) rb.1
  have eB : rb.1 = (rb.1.1, sizesL rb.1.1) := Prod.ext rfl hB.size
  have eA : ra.1 = (ra.1.1, sizesL ra.1.1) := Prod.ext rfl hA.size
  have h1 : (impGo n (fun v : Nat => nbrs (v : Int) l) bd (cutN n l L) rb.1).1 = ra.1 := (congrArg Prod.fst hadd).symm
  have h2 : rb.2 + (impGo n (fun v : Nat => nbrs (v : Int) l) bd (cutN n l L) rb.1).2 = ra.2 := by have := congrArg Prod.snd hadd; simp only at this; omega
  refine ⟨ra.1.1, (ra.2 : Int), rb.1.1, (rb.2 : Int), ((impGo n (fun v : Nat => nbrs (v : Int) l) bd (cutN n l L) rb.1).2 : Int), ?_, ?_, ?_, ready_of hg h0 hA, ?_, lcount_is hg hA.right, ?_, ?_, ?_, ?_, ?_, ?_, ?_, ?_⟩
  · rw [impR_go h0 (by omega), hgA]
  · have := hA.len; omega
  · have := hB.len; omega
  · rw [eA] at hstop; exact hstop
  · simp only at hAc; omega
  · rw [impR_go h0 (by omega), hgB]
  · rw [impR_go (ready_of hg h0 hB) (by omega), ← eB, h1]
  all_goals omega

set_option maxRecDepth 100000 in
set_option maxHeartbeats 4000000 in
theorem LocalEnds_spec (N : Int) (A B : Option Addr) (l : List Arc) (cap : Nat) (L : List Int) (cb : Nat) (xa xb bd xd : Int) (w : World) (hr : Ro (Fr w []) w A (l.flatMap arcCs)) (hl : l.length ≤ 9223372036854775807) (hN : I64 N) (hok : ∀ x ∈ l, ArcOk x) (hL : Ro (Fr w []) w B (ints L)) (hm : L.length ≤ 9223372036854775807) :
    Meets Try.prog 3 [.agg #[.int .i64 N, .slice A l.length cap], .slice B L.length cb, .agg #[.int .i64 xa, .int .i64 xb, .int .i64 bd, .int .i64 xd]] w [] (fun u m => u = .bool true ∧ m = []) := by
  refine f_enter Try.func3 rfl Try.ntmps3 rfl Owns.nil ?_
  refine f_seq fun K1 kh1 => ?_
  refine f_region ?_
  refine f_step rfl rfl rfl (o_box rfl rfl fun b3 => ?_)
  refine f_step rfl rfl rfl (o_box rfl rfl fun b5 => ?_)
  refine f_stepP rfl rfl rfl (o_assign rfl) ?_
  refine f_done ?_
  refine f_tn (kh1 _ _ ?_)
  clear kh1
  refine f_seq fun K2 kh2 => ?_
  refine f_seq fun K3 kh3 => ?_
  refine f_region ?_
  refine f_step rfl rfl rfl (o_call Try.call6 rfl (fun w_ hp_ => works_spec w_) ?_)
  rintro _ _ ⟨rfl, rfl⟩
  dsimp only [List.cons_append, List.nil_append]
  refine f_stepP rfl rfl rfl (o_not rfl) ?_
  refine f_done ?_
  refine f_tn (kh3 _ _ ?_)
  clear kh3
  refine f_condF rfl ?_
  refine f_skip ?_
  refine f_tn (kh2 _ _ ?_)
  clear kh2
  refine f_seq fun K4 kh4 => ?_
  refine f_seq fun K5 kh5 => ?_
  refine f_region ?_
  refine f_stepP rfl rfl rfl (o_loadA (vs := [_, _]) Try.isAgg24 Try.sizeOf24 rfl rfl ⟨(rdA rfl), (rdA rfl), trivial⟩) ?_
  refine f_step rfl rfl rfl (o_call Try.call7 rfl (fun w_ hp_ => large_spec N A l cap w_ (hr.up0 hp_) hl hN hok) ?_)
  rintro _ _ ⟨rfl, rfl⟩
  dsimp only [List.cons_append, List.nil_append]
  refine f_done ?_
  refine f_tn (kh5 _ _ ?_)
  clear kh5
  refine f_cond rfl (fun c28 => ?_) (fun c28 => ?_)
  · skip
    refine f_seq fun K6 kh6 => ?_
    refine f_region ?_
    refine f_stepP rfl rfl rfl (o_assign rfl) ?_
    refine f_done ?_
    refine f_tn (kh6 _ _ ?_)
    clear kh6
    refine f_ret ?_
    refine f_tr ?_
    exact f_fin1 [] Try.results3 rfl Sub.nil ⟨rfl, rfl⟩
  · skip
    refine f_skip ?_
    refine f_tn (kh4 _ _ ?_)
    clear kh4
    refine f_seq fun K7 kh7 => ?_
    refine f_region ?_
    refine f_stepP rfl rfl rfl (o_loadA (vs := [_, _]) Try.isAgg24 Try.sizeOf24 rfl rfl ⟨(rdA rfl), (rdA rfl), trivial⟩) ?_
    refine f_stepP rfl rfl rfl (o_move rfl) ?_
    refine f_step rfl rfl rfl (o_call Try.call8 rfl (fun w_ hp_ => Count_spec N A B l cap L cb w_ (hr.up0 hp_) hl hN hok (hL.up0 hp_) hm) ?_)
    rintro _ _ ⟨rfl, rfl⟩
    dsimp only [List.cons_append, List.nil_append]
    refine f_stepP rfl rfl rfl (o_move rfl) ?_
    refine f_stepP rfl rfl rfl (o_extract rfl rfl) ?_
    refine f_stepP rfl rfl rfl (o_extract rfl rfl) ?_
    refine f_stepP rfl rfl rfl (o_assign rfl) ?_
    refine f_stepP rfl rfl rfl (o_assign rfl) ?_
    refine f_done ?_
    refine f_tn (kh7 _ _ ?_)
    clear kh7
    refine f_seq fun K8 kh8 => ?_
    refine f_region ?_
    refine f_stepP rfl rfl rfl (o_loadA (vs := [_, _]) Try.isAgg24 Try.sizeOf24 rfl rfl ⟨(rdA rfl), (rdA rfl), trivial⟩) ?_
    refine f_stepP rfl rfl rfl (o_move rfl) ?_
    refine f_stepP rfl rfl rfl (o_field fa27_2 rfl) ?_
    refine f_stepP rfl rfl rfl (o_load Try.isAgg3 rfl (rdA rfl)) ?_
    refine f_stepP rfl rfl rfl (o_move rfl) ?_
    refine f_stepP rfl rfl rfl (o_max rfl rfl) ?_
    refine f_stepP rfl rfl rfl (o_min rfl rfl) ?_
    refine f_step rfl rfl rfl (o_call Try.call9 rfl (fun w_ hp_ => Improve_spec N A B l cap L cb bd (min (max (lcount N l L).1 0) 16384) w_ (hr.up0 hp_) hl hN hok (hL.up0 hp_) hm) ?_)
    rintro _ _ ⟨s43, m43, rfl, rfl, ho43⟩
    obtain ⟨A43, c43, rfl, _⟩ := ho43.val
    dsimp only [List.cons_append, List.nil_append]
    refine f_stepP rfl rfl rfl (o_move rfl) ?_
    refine f_stepP rfl rfl rfl (o_extract rfl rfl) ?_
    refine f_stepP rfl rfl rfl (o_extract rfl rfl) ?_
    refine f_stepP rfl rfl rfl (o_extract rfl rfl) ?_
    refine f_stepP rfl rfl rfl (o_assign rfl) ?_
    refine f_stepP rfl rfl rfl (o_assign rfl) ?_
    refine f_stepP rfl rfl rfl (o_assign rfl) ?_
    refine f_done ?_
    refine f_tn (kh8 _ _ ?_)
    clear kh8
    refine f_seq fun K9 kh9 => ?_
    refine f_seq fun K10 kh10 => ?_
    refine f_region ?_
    refine f_stepP rfl rfl rfl (o_move rfl) ?_
    refine f_stepP rfl rfl rfl (o_neq rfl rfl) ?_
    refine f_stepP rfl rfl rfl (o_move rfl) ?_
    refine f_splitL 49 rfl (fun g49 => ?_) (fun g49 => ?_)
    · skip
      have hb : (impR N l L bd (min (max (lcount N l L).1 0) 16384)).2.2 ≠ 0 := impR_cnt g49
      obtain ⟨hE1, hE2⟩ := impR_err hb
      refine f_stepN rfl rfl rfl rfl rfl rfl ?_
      refine f_stepN rfl rfl rfl rfl rfl rfl ?_
      refine f_stepP rfl rfl rfl (o_pickT rfl rfl) ?_
      refine f_done ?_
      refine f_tn (kh10 _ _ ?_)
      clear kh10
      refine f_condT rfl ?_
      refine f_seq fun K11 kh11 => ?_
      refine f_region ?_
      refine f_stepP rfl rfl rfl (o_move rfl) ?_
      refine f_stepP rfl rfl rfl (o_len sl25 rfl) ?_
      refine f_stepP rfl rfl rfl (o_eql rfl rfl) ?_
      refine f_stepP rfl rfl rfl (o_move rfl) ?_
      refine f_trueL 56 rfl (by rw [hE1]; rfl) ?_
      refine f_stepPY rfl rfl rfl rfl rfl (o_move rfl) ?_
      refine f_stepPY rfl rfl rfl rfl rfl (o_eql rfl rfl) ?_
      refine f_stepP rfl rfl rfl (o_pickT rfl rfl) ?_
      refine f_stepP rfl rfl rfl (o_assign rfl) ?_
      refine f_done ?_
      refine f_tn (kh11 _ _ ?_)
      clear kh11
      refine f_ret ?_
      refine f_tr ?_
      exact f_fin1 [] Try.results3 rfl Sub.nil ⟨by rw [decide_eq_true hE2], rfl⟩
    · skip
      refine f_stepPY rfl rfl rfl rfl rfl (o_move rfl) ?_
      refine f_stepPY rfl rfl rfl rfl rfl (o_neq rfl rfl) ?_
      refine f_stepP rfl rfl rfl (o_pickF rfl rfl) ?_
      refine f_done ?_
      refine f_tn (kh10 _ _ ?_)
      clear kh10
      refine f_cond rfl (fun c52 => ?_) (fun c52 => ?_)
      · skip
        obtain ⟨hE1, hE2⟩ := impR_err c52
        refine f_seq fun K12 kh12 => ?_
        refine f_region ?_
        refine f_stepP rfl rfl rfl (o_move rfl) ?_
        refine f_stepP rfl rfl rfl (o_len sl25 rfl) ?_
        refine f_stepP rfl rfl rfl (o_eql rfl rfl) ?_
        refine f_stepP rfl rfl rfl (o_move rfl) ?_
        refine f_trueL 56 rfl (by rw [hE1]; rfl) ?_
        refine f_stepPY rfl rfl rfl rfl rfl (o_move rfl) ?_
        refine f_stepPY rfl rfl rfl rfl rfl (o_eql rfl rfl) ?_
        refine f_stepP rfl rfl rfl (o_pickT rfl rfl) ?_
        refine f_stepP rfl rfl rfl (o_assign rfl) ?_
        refine f_done ?_
        refine f_tn (kh12 _ _ ?_)
        clear kh12
        refine f_ret ?_
        refine f_tr ?_
        exact f_fin1 [] Try.results3 rfl Sub.nil ⟨by rw [decide_eq_true hE2], rfl⟩
      · skip
        have hok0 : (impR N l L bd (min (max (lcount N l L).1 0) 16384)).2.2 = 0 := by omega
        have hlc : (lcount N l L).2 = 0 := by omega
        have h0 := impR_ok hok0
        obtain ⟨hg, hrt⟩ := lcount_ok hlc
        obtain ⟨n, rfl⟩ : ∃ n : Nat, N = (n : Int) := ⟨N.toNat, by have := gcheck_zero hg; omega⟩
        have hn40 : n ≤ 40 := by omega
        have hc16 := prs_small hn40 l L
        have hlc1 := lcount_is hg hrt
        have hkr := kEnd_rng xd (cutN n l L)
        obtain ⟨Av, mv, Bv, fv, sv, hiA, hAl, hBl, hrA, hno, hcA, hmv, hiB, hiC, hsum, hb1, hb2, hb3, hb4⟩ := ends_law hg hrt h0 hn40 hkr
        have hM : min (max (lcount (n : Int) l L).1 0) 16384 = (cutN n l L : Int) := by rw [hlc1]; simp only; omega
        rw [hM] at ho43 ⊢
        rw [hiA] at ho43 ⊢
        rw [hlc1]
        refine f_skip ?_
        refine f_tn (kh9 _ _ ?_)
        clear kh9
        refine f_seq fun K13 kh13 => ?_
        refine f_region ?_
        refine f_stepP rfl rfl rfl (o_loadA (vs := [_, _]) Try.isAgg24 Try.sizeOf24 rfl rfl ⟨(rdA rfl), (rdA rfl), trivial⟩) ?_
        refine f_stepP rfl rfl rfl (o_move rfl) ?_
        refine f_stepP rfl rfl rfl (o_field fa27_2 rfl) ?_
        refine f_stepP rfl rfl rfl (o_load Try.isAgg3 rfl (rdA rfl)) ?_
        refine f_step rfl rfl rfl (o_call Try.call10 rfl (fun w_ hp_ => Next_spec (n : Int) A A43 l cap Av c43 bd w_ (hr.up0 hp_) hl hN hok (seen_ro (ho43.seen hp_)) (by omega)) ?_)
        rintro _ _ ⟨rfl, hv⟩
        rw [if_pos hrA, Int.toNat_natCast, decide_eq_false hno] at hv
        subst hv
        dsimp only [List.cons_append, List.nil_append]
        refine f_stepP rfl rfl rfl (o_move rfl) ?_
        refine f_stepP rfl rfl rfl (o_extract rfl rfl) ?_
        refine f_stepP rfl rfl rfl (o_extract rfl rfl) ?_
        refine f_stepP rfl rfl rfl (o_extract rfl rfl) ?_
        refine f_stepP rfl rfl rfl (o_extract rfl rfl) ?_
        refine f_stepP rfl rfl rfl (o_assign rfl) ?_
        refine f_stepP rfl rfl rfl (o_assign rfl) ?_
        refine f_stepP rfl rfl rfl (o_assign rfl) ?_
        refine f_stepP rfl rfl rfl (o_assign rfl) ?_
        refine f_done ?_
        refine f_tn (kh13 _ _ ?_)
        clear kh13
        refine f_seq fun K14 kh14 => ?_
        refine f_region ?_
        refine f_stepP rfl rfl rfl (o_loadA (vs := [_, _]) Try.isAgg24 Try.sizeOf24 rfl rfl ⟨(rdA rfl), (rdA rfl), trivial⟩) ?_
        refine f_stepP rfl rfl rfl (o_move rfl) ?_
        refine f_step rfl rfl rfl (o_call Try.call8 rfl (fun w_ hp_ => Count_spec (n : Int) A A43 l cap Av c43 w_ (hr.up0 hp_) hl hN hok (seen_ro (ho43.seen hp_)) (by omega)) ?_)
        rintro _ _ ⟨rfl, rfl⟩
        rw [hcA]
        dsimp only [List.cons_append, List.nil_append]
        refine f_stepP rfl rfl rfl (o_move rfl) ?_
        refine f_stepP rfl rfl rfl (o_extract rfl rfl) ?_
        refine f_stepP rfl rfl rfl (o_extract rfl rfl) ?_
        refine f_stepP rfl rfl rfl (o_assign rfl) ?_
        refine f_stepP rfl rfl rfl (o_assign rfl) ?_
        refine f_done ?_
        refine f_tn (kh14 _ _ ?_)
        clear kh14
        refine f_seq fun K15 kh15 => ?_
        refine f_region ?_
        refine f_stepP rfl rfl rfl (o_field fa27_3 rfl) ?_
        refine f_stepP rfl rfl rfl (o_load Try.isAgg3 rfl (rdA rfl)) ?_
        refine f_stepP rfl rfl rfl (o_conv Try.runUnderlying3 Try.runUnderlying37 rfl _ rfl) ?_
        refine f_stepP rfl rfl rfl (o_move rfl) ?_
        refine f_stepP rfl rfl rfl (o_add rfl rfl _ (wrap_i64 (by omega))) ?_
        refine f_stepP rfl rfl rfl (o_conv Try.runUnderlying3 Try.runUnderlying37 rfl _ (wrap_u64 (by omega))) ?_
        refine f_stepP rfl rfl rfl (o_rem rfl rfl (by omega) (kEnd xd (cutN n l L)) rfl) ?_
        refine f_stepP rfl rfl rfl (o_conv Try.runUnderlying37 Try.runUnderlying3 rfl _ (wrap_i64 (by omega))) ?_
        refine f_stepP rfl rfl rfl (o_assign rfl) ?_
        refine f_done ?_
        refine f_tn (kh15 _ _ ?_)
        clear kh15
        refine f_seq fun K16 kh16 => ?_
        refine f_region ?_
        refine f_stepP rfl rfl rfl (o_loadA (vs := [_, _]) Try.isAgg24 Try.sizeOf24 rfl rfl ⟨(rdA rfl), (rdA rfl), trivial⟩) ?_
        refine f_stepP rfl rfl rfl (o_move rfl) ?_
        refine f_stepP rfl rfl rfl (o_field fa27_2 rfl) ?_
        refine f_stepP rfl rfl rfl (o_load Try.isAgg3 rfl (rdA rfl)) ?_
        refine f_stepP rfl rfl rfl (o_move rfl) ?_
        refine f_step rfl rfl rfl (o_call Try.call9 rfl (fun w_ hp_ => Improve_spec (n : Int) A B l cap L cb bd (kEnd xd (cutN n l L)) w_ (hr.up0 hp_) hl hN hok (hL.up0 hp_) hm) ?_)
        rintro _ _ ⟨s90, m90, rfl, rfl, ho90⟩
        rw [hiB] at ho90 ⊢
        obtain ⟨A90, c90, rfl, _⟩ := ho90.val
        dsimp only [List.cons_append, List.nil_append]
        refine f_stepP rfl rfl rfl (o_move rfl) ?_
        refine f_stepP rfl rfl rfl (o_extract rfl rfl) ?_
        refine f_stepP rfl rfl rfl (o_extract rfl rfl) ?_
        refine f_stepP rfl rfl rfl (o_extract rfl rfl) ?_
        refine f_stepP rfl rfl rfl (o_assign rfl) ?_
        refine f_stepP rfl rfl rfl (o_assign rfl) ?_
        refine f_stepP rfl rfl rfl (o_assign rfl) ?_
        refine f_done ?_
        refine f_tn (kh16 _ _ ?_)
        clear kh16
        refine f_seq fun K17 kh17 => ?_
        refine f_region ?_
        refine f_stepP rfl rfl rfl (o_loadA (vs := [_, _]) Try.isAgg24 Try.sizeOf24 rfl rfl ⟨(rdA rfl), (rdA rfl), trivial⟩) ?_
        refine f_stepP rfl rfl rfl (o_move rfl) ?_
        refine f_stepP rfl rfl rfl (o_field fa27_2 rfl) ?_
        refine f_stepP rfl rfl rfl (o_load Try.isAgg3 rfl (rdA rfl)) ?_
        refine f_stepP rfl rfl rfl (o_move rfl) ?_
        refine f_step rfl rfl rfl (o_call Try.call9 rfl (fun w_ hp_ => Improve_spec (n : Int) A A90 l cap Bv c90 bd (cutN n l L : Int) w_ (hr.up0 hp_) hl hN hok (seen_ro (ho90.seen hp_)) (by omega)) ?_)
        rintro _ _ ⟨s100, m100, rfl, rfl, ho100⟩
        rw [hiC] at ho100 ⊢
        obtain ⟨A100, c100, rfl, _⟩ := ho100.val
        dsimp only [List.cons_append, List.nil_append]
        refine f_stepP rfl rfl rfl (o_move rfl) ?_
        refine f_stepP rfl rfl rfl (o_extract rfl rfl) ?_
        refine f_stepP rfl rfl rfl (o_extract rfl rfl) ?_
        refine f_stepP rfl rfl rfl (o_extract rfl rfl) ?_
        refine f_stepP rfl rfl rfl (o_assign rfl) ?_
        refine f_stepP rfl rfl rfl (o_assign rfl) ?_
        refine f_stepP rfl rfl rfl (o_assign rfl) ?_
        refine f_done ?_
        refine f_tn (kh17 _ _ ?_)
        clear kh17
        refine f_seq fun K18 kh18 => ?_
        refine f_region ?_
        refine f_stepP rfl rfl rfl (o_move rfl) ?_
        refine f_stepP rfl rfl rfl (o_eql rfl rfl) ?_
        refine f_stepP rfl rfl rfl (o_move rfl) ?_
        refine f_trueL 106 rfl (rfl) ?_
        refine f_stepPY rfl rfl rfl rfl rfl (o_move rfl) ?_
        refine f_stepPY rfl rfl rfl rfl rfl (o_not rfl) ?_
        refine f_stepP rfl rfl rfl (o_pickT rfl rfl) ?_
        refine f_stepP rfl rfl rfl (o_move rfl) ?_
        refine f_stepPY rfl rfl rfl rfl rfl (o_move rfl) ?_
        refine f_stepPY rfl rfl rfl rfl rfl (o_eql rfl rfl) ?_
        refine f_stepP rfl rfl rfl (o_pickT rfl rfl) ?_
        refine f_stepP rfl rfl rfl (o_move rfl) ?_
        refine f_trueL 114 rfl (rfl) ?_
        refine f_stepPY rfl rfl rfl rfl rfl (o_move rfl) ?_
        refine f_stepPY rfl rfl rfl rfl rfl (o_move rfl) ?_
        refine f_stepPY rfl rfl rfl rfl rfl (o_move rfl) ?_
        refine f_stepPY rfl rfl rfl rfl rfl (o_sub rfl rfl _ (wrap_i64 (by omega))) ?_
        refine f_stepPY rfl rfl rfl rfl rfl (o_leq rfl rfl) ?_
        refine f_stepP rfl rfl rfl (o_pickT rfl rfl) ?_
        refine f_stepP rfl rfl rfl (o_move rfl) ?_
        refine f_trueL 121 rfl (hmv) ?_
        refine f_stepPY rfl rfl rfl rfl rfl (o_move rfl) ?_
        refine f_stepPY rfl rfl rfl rfl rfl (o_eql rfl rfl) ?_
        refine f_stepP rfl rfl rfl (o_pickT rfl rfl) ?_
        refine f_stepP rfl rfl rfl (o_move rfl) ?_
        refine f_trueL 125 rfl (rfl) ?_
        refine f_stepPY rfl rfl rfl rfl rfl (o_move rfl) ?_
        refine f_stepPY rfl rfl rfl rfl rfl (o_eql rfl rfl) ?_
        refine f_stepP rfl rfl rfl (o_pickT rfl rfl) ?_
        refine f_stepP rfl rfl rfl (o_move rfl) ?_
        refine f_trueL 129 rfl (rfl) ?_
        refine f_stepPY rfl rfl rfl rfl rfl (o_move rfl) ?_
        refine f_stepPY rfl rfl rfl rfl rfl (o_move rfl) ?_
        refine f_stepY rfl rfl rfl rfl rfl (o_call Try.call11 rfl (fun w_ hp_ => SameInts_spec A43 A100 Av Av c43 c100 w_ (seen_ro (ho43.seen hp_)) (seen_ro (ho100.seen hp_)) (by omega)) ?_)
        rintro _ _ ⟨rfl, rfl⟩
        dsimp only [List.cons_append, List.nil_append]
        refine f_stepP rfl rfl rfl (o_pickT rfl rfl) ?_
        refine f_stepP rfl rfl rfl (o_move rfl) ?_
        refine f_trueL 134 rfl (rfl) ?_
        refine f_stepPY rfl rfl rfl rfl rfl (o_move rfl) ?_
        refine f_stepPY rfl rfl rfl rfl rfl (o_move rfl) ?_
        refine f_stepPY rfl rfl rfl rfl rfl (o_add rfl rfl _ (wrap_i64 (by omega))) ?_
        refine f_stepPY rfl rfl rfl rfl rfl (o_move rfl) ?_
        refine f_stepPY rfl rfl rfl rfl rfl (o_eql rfl rfl) ?_
        refine f_stepP rfl rfl rfl (o_pickT rfl rfl) ?_
        refine f_stepP rfl rfl rfl (o_assign rfl) ?_
        refine f_done ?_
        refine f_tn (kh18 _ _ ?_)
        clear kh18
        refine f_ret ?_
        exact f_fin1 [] Try.results3 rfl Sub.nil ⟨by rw [decide_eq_true hsum], rfl⟩

end Go.Proofs.Ytagidegklmgilaa
