/- flyoverlaw10.LocalStays. -/
import Derived.Test.YtagidegklmgilaaFLoc5
namespace Go.Proofs.Ytagidegklmgilaa
open Go Go.RowKit Fly
set_option linter.unusedVariables false
set_option linter.unusedSimpArgs false


abbrev Zs (n : Nat) : List Int := List.replicate n 0
theorem z_lab (n : Nat) (u : Int) : lab (Zs n) u = 0 := by
  unfold lab
  rw [List.getD_eq_getElem?_getD, List.getElem?_replicate]
  split <;> rfl
theorem z_apart (n : Nat) (p : Pr) : apart (Zs n) p = false := by
  have h1 := z_lab n p.1
  have h2 := z_lab n p.2
  unfold lab at h1 h2
  unfold apart
  rw [h1, h2]; simp
theorem z_cut (n m : Nat) (l : List Arc) : cutN m l (Zs n) = 0 := by
  unfold cutN
  rw [List.length_eq_zero_iff, List.filter_eq_nil_iff]
  intro p _
  rw [z_apart]; simp
theorem z_ncnt (n : Nat) (R : List Int) {j : Int} (hj : j ≠ 0) : ncnt (Zs n) R j = 0 := by
  unfold ncnt
  rw [List.length_eq_zero_iff, List.filter_eq_nil_iff]
  intro u _
  rw [z_lab]; simpa using fun h => hj h.symm
theorem z_up (n : Nat) (S R : List Int) (bd : Int) (v : Nat) (b : Mv) (j : Nat) : mvUp (Zs n) S R bd v b j = b := by
  unfold mvUp
  rw [if_neg]
  rintro ⟨h1, h2, _, _⟩
  rw [z_lab] at h1
  rw [z_ncnt n R h1] at h2
  omega
theorem z_row (n : Nat) (S R : List Int) (bd : Int) (v : Nat) (b : Mv) : ∀ j, mvRow (Zs n) S R bd v j b = b
  | 0 => rfl
  | j + 1 => by rw [mvRow_next, z_up, z_row]
theorem z_to (n : Nat) (S : List Int) (rows : Nat → List Int) (bd : Int) : ∀ k, mvTo (Zs n) S rows bd k = (0, 0, 0)
  | 0 => rfl
  | k + 1 => by rw [mvTo_next, z_row, z_to]
theorem z_max {n : Nat} (hn : 1 ≤ n) : maxL (Zs n) = 0 := by
  have h1 : maxL (Zs n) ≤ 0 := maxL_le (by simp; omega) fun x hx => by rw [List.eq_of_mem_replicate hx]; exact Int.le_refl _
  have h2 : (0 : Int) ≤ maxL (Zs n) := le_maxL (List.mem_replicate.2 ⟨by omega, rfl⟩)
  omega
theorem z_slen {n : Nat} (hn : 1 ≤ n) : (sizesL (Zs n)).length = 1 := by
  unfold sizesL; rw [szs_len, z_max hn]; rfl
theorem z_ready {n : Nat} (hn : 1 ≤ n ∧ n ≤ 1024) (N : Int) (l : List Arc) : readyE N l (Zs n) 1024 = (lcount N l (Zs n)).2 := by
  unfold readyE
  by_cases h : (lcount N l (Zs n)).2 ≠ 0
  · rw [if_pos h]
  · have hm : maxL (sizesL (Zs n)) ≤ 1024 := maxL_le (by rw [z_slen hn.1]; omega) fun x hx => (szs_rng (by simp; omega) x hx).2
    rw [if_neg h, if_neg (by omega), if_neg (by omega)]; omega
theorem z_count {n : Nat} {N : Int} {l : List Arc} (h : (lcount N l (Zs n)).2 = 0) : (lcount N l (Zs n)).1 = 0 := by
  obtain ⟨h1, h2⟩ := lcount_ok h
  unfold lcount
  rw [if_neg (by rw [h1]; simp), if_neg (by rw [h2]; simp), z_cut]; rfl
theorem z_gain {n : Nat} (hn : 1 ≤ n) {N : Int} {l : List Arc} {v : Int} (h : (lcount N l (Zs n)).2 = 0) : (gainR N l (Zs n) v 0).1 = 0 ∧ ((gainR N l (Zs n) v 0).2 = 0 ↔ 0 ≤ v ∧ v < N) := by
  unfold gainR
  rw [if_neg (by rw [h]; simp), z_slen hn]
  by_cases hv : v < 0 ∨ N ≤ v
  · rw [if_pos (by omega)]; simp; omega
  · rw [if_neg (by omega)]
    refine ⟨?_, by simp; omega⟩
    unfold gn; rw [z_lab]; omega
theorem z_gainE {n : Nat} {N : Int} {l : List Arc} {v : Int} (h : (lcount N l (Zs n)).2 ≠ 0) : (gainR N l (Zs n) v 0).2 = (lcount N l (Zs n)).2 := by
  unfold gainR; rw [if_pos h]

set_option maxRecDepth 100000 in
set_option maxHeartbeats 4000000 in
theorem LocalStays_spec (N : Int) (A : Option Addr) (l : List Arc) (cap : Nat) (v : Int) (w : World) (hr : Ro (Fr w []) w A (l.flatMap arcCs)) (hl : l.length ≤ 9223372036854775807) (hN : I64 N) (hok : ∀ x ∈ l, ArcOk x) :
    Meets Try.prog 4 [.agg #[.int .i64 N, .slice A l.length cap], .int .i64 v] w [] (fun u m => u = .bool true ∧ m = []) := by
  refine f_enter Try.func4 rfl Try.ntmps4 rfl Owns.nil ?_
  refine f_seq fun K1 kh1 => ?_
  refine f_region ?_
  refine f_step rfl rfl rfl (o_box rfl rfl fun b2 => ?_)
  refine f_stepP rfl rfl rfl (o_assign rfl) ?_
  refine f_done ?_
  refine f_tn (kh1 _ _ ?_)
  clear kh1
  refine f_seq fun K2 kh2 => ?_
  refine f_seq fun K3 kh3 => ?_
  refine f_region ?_
  refine f_step rfl rfl rfl (o_call Try.call6 rfl (fun w_ hp_ => works_spec w_) ?_)
  rintro _ _ ⟨rfl, rfl⟩
  dsimp only [List.cons_append, List.nil_append]
  refine f_stepP rfl rfl rfl (o_not rfl) ?_
  refine f_done ?_
  refine f_tn (kh3 _ _ ?_)
  clear kh3
  refine f_condF rfl ?_
  refine f_skip ?_
  refine f_tn (kh2 _ _ ?_)
  clear kh2
  refine f_seq fun K4 kh4 => ?_
  refine f_seq fun K5 kh5 => ?_
  refine f_region ?_
  refine f_stepP rfl rfl rfl (o_field fa24_0 rfl) ?_
  refine f_stepP rfl rfl rfl (o_load Try.isAgg3 rfl (rdA rfl)) ?_
  refine f_stepP rfl rfl rfl (o_lss rfl rfl) ?_
  refine f_stepP rfl rfl rfl (o_move rfl) ?_
  refine f_splitL 19 rfl (fun g19 => ?_) (fun g19 => ?_)
  · skip
    refine f_stepN rfl rfl rfl rfl rfl rfl ?_
    refine f_stepN rfl rfl rfl rfl rfl rfl ?_
    refine f_stepN rfl rfl rfl rfl rfl rfl ?_
    refine f_stepP rfl rfl rfl (o_pickT rfl rfl) ?_
    refine f_stepP rfl rfl rfl (o_move rfl) ?_
    refine f_stepN rfl rfl rfl rfl rfl rfl ?_
    refine f_stepN rfl rfl rfl rfl rfl rfl ?_
    refine f_stepP rfl rfl rfl (o_pickT rfl rfl) ?_
    refine f_done ?_
    refine f_tn (kh5 _ _ ?_)
    clear kh5
    refine f_condT rfl ?_
    refine f_seq fun K6 kh6 => ?_
    refine f_region ?_
    refine f_stepP rfl rfl rfl (o_assign rfl) ?_
    refine f_done ?_
    refine f_tn (kh6 _ _ ?_)
    clear kh6
    refine f_ret ?_
    refine f_tr ?_
    exact f_fin1 [] Try.results4 rfl Sub.nil ⟨rfl, rfl⟩
  · skip
    refine f_stepPY rfl rfl rfl rfl rfl (o_field fa24_0 rfl) ?_
    refine f_stepPY rfl rfl rfl rfl rfl (o_load Try.isAgg3 rfl (rdA rfl)) ?_
    refine f_stepPY rfl rfl rfl rfl rfl (o_gtr rfl rfl) ?_
    refine f_stepP rfl rfl rfl (o_pickF rfl rfl) ?_
    refine f_stepP rfl rfl rfl (o_move rfl) ?_
    refine f_splitL 24 rfl (fun g24 => ?_) (fun g24 => ?_)
    · skip
      refine f_stepN rfl rfl rfl rfl rfl rfl ?_
      refine f_stepN rfl rfl rfl rfl rfl rfl ?_
      refine f_stepP rfl rfl rfl (o_pickT rfl rfl) ?_
      refine f_done ?_
      refine f_tn (kh5 _ _ ?_)
      clear kh5
      refine f_condT rfl ?_
      refine f_seq fun K7 kh7 => ?_
      refine f_region ?_
      refine f_stepP rfl rfl rfl (o_assign rfl) ?_
      refine f_done ?_
      refine f_tn (kh7 _ _ ?_)
      clear kh7
      refine f_ret ?_
      refine f_tr ?_
      exact f_fin1 [] Try.results4 rfl Sub.nil ⟨rfl, rfl⟩
    · skip
      refine f_stepPY rfl rfl rfl rfl rfl (o_loadA (vs := [_, _]) Try.isAgg24 Try.sizeOf24 rfl rfl ⟨(rdA rfl), (rdA rfl), trivial⟩) ?_
      refine f_stepY rfl rfl rfl rfl rfl (o_call Try.call7 rfl (fun w_ hp_ => large_spec N A l cap w_ (hr.up0 hp_) hl hN hok) ?_)
      rintro _ _ ⟨rfl, rfl⟩
      dsimp only [List.cons_append, List.nil_append]
      refine f_stepP rfl rfl rfl (o_pickF rfl rfl) ?_
      refine f_done ?_
      refine f_tn (kh5 _ _ ?_)
      clear kh5
      refine f_cond rfl (fun c27 => ?_) (fun c27 => ?_)
      · skip
        refine f_seq fun K8 kh8 => ?_
        refine f_region ?_
        refine f_stepP rfl rfl rfl (o_assign rfl) ?_
        refine f_done ?_
        refine f_tn (kh8 _ _ ?_)
        clear kh8
        refine f_ret ?_
        refine f_tr ?_
        exact f_fin1 [] Try.results4 rfl Sub.nil ⟨rfl, rfl⟩
      · skip
        obtain ⟨n, rfl⟩ : ∃ n : Nat, N = (n : Int) := ⟨N.toNat, by omega⟩
        have hn : 1 ≤ n ∧ n ≤ 1024 := by omega
        refine f_skip ?_
        refine f_tn (kh4 _ _ ?_)
        clear kh4
        refine f_seq fun K9 kh9 => ?_
        refine f_region ?_
        refine f_stepP rfl rfl rfl (o_field fa24_0 rfl) ?_
        refine f_stepP rfl rfl rfl (o_load Try.isAgg3 rfl (rdA rfl)) ?_
        refine f_step rfl rfl rfl (o_make el25 rfl rfl n rfl (by omega) (by omega) (ints (Zs n)) (by simp [ints, List.flatten_replicate_singleton]) fun b30 => ?_)
        refine f_stepP rfl rfl rfl (o_assign rfl) ?_
        refine f_done ?_
        refine f_tn (kh9 _ _ ?_)
        clear kh9
        refine f_seq fun K10 kh10 => ?_
        refine f_region ?_
        refine f_stepP rfl rfl rfl (o_loadA (vs := [_, _]) Try.isAgg24 Try.sizeOf24 rfl rfl ⟨(rdA rfl), (rdA rfl), trivial⟩) ?_
        refine f_stepP rfl rfl rfl (o_move rfl) ?_
        refine f_step rfl rfl rfl (o_call Try.call8 rfl (fun w_ hp_ => (by have h := Count_spec (n : Int) A (some ⟨b30, 0, none⟩) l cap (Zs n) n w_ (hr.up0 hp_) hl hN hok (roOwn (b := b30) hp_ (cs := ints (Zs n)) (fun j v hj => hj)) (by simp; omega); rw [List.length_replicate] at h; exact h)) ?_)
        rintro _ _ ⟨rfl, rfl⟩
        dsimp only [List.cons_append, List.nil_append]
        refine f_stepP rfl rfl rfl (o_move rfl) ?_
        refine f_stepP rfl rfl rfl (o_extract rfl rfl) ?_
        refine f_stepP rfl rfl rfl (o_extract rfl rfl) ?_
        refine f_stepP rfl rfl rfl (o_assign rfl) ?_
        refine f_stepP rfl rfl rfl (o_assign rfl) ?_
        refine f_done ?_
        refine f_tn (kh10 _ _ ?_)
        clear kh10
        refine f_seq fun K11 kh11 => ?_
        refine f_region ?_
        refine f_stepP rfl rfl rfl (o_loadA (vs := [_, _]) Try.isAgg24 Try.sizeOf24 rfl rfl ⟨(rdA rfl), (rdA rfl), trivial⟩) ?_
        refine f_stepP rfl rfl rfl (o_move rfl) ?_
        refine f_stepP rfl rfl rfl (o_move rfl) ?_
        refine f_step rfl rfl rfl (o_call Try.call12 rfl (fun w_ hp_ => (by have h := Gain_spec (n : Int) A (some ⟨b30, 0, none⟩) l cap (Zs n) n v 0 w_ (hr.up0 hp_) hl hN hok (roOwn (b := b30) hp_ (cs := ints (Zs n)) (fun j v hj => hj)) (by simp; omega); rw [List.length_replicate] at h; exact h)) ?_)
        rintro _ _ ⟨rfl, rfl⟩
        dsimp only [List.cons_append, List.nil_append]
        refine f_stepP rfl rfl rfl (o_move rfl) ?_
        refine f_stepP rfl rfl rfl (o_extract rfl rfl) ?_
        refine f_stepP rfl rfl rfl (o_extract rfl rfl) ?_
        refine f_stepP rfl rfl rfl (o_assign rfl) ?_
        refine f_stepP rfl rfl rfl (o_assign rfl) ?_
        refine f_done ?_
        refine f_tn (kh11 _ _ ?_)
        clear kh11
        refine f_seq fun K12 kh12 => ?_
        refine f_region ?_
        refine f_stepP rfl rfl rfl (o_loadA (vs := [_, _]) Try.isAgg24 Try.sizeOf24 rfl rfl ⟨(rdA rfl), (rdA rfl), trivial⟩) ?_
        refine f_stepP rfl rfl rfl (o_move rfl) ?_
        refine f_step rfl rfl rfl (o_call Try.call10 rfl (fun w_ hp_ => (by have h := Next_spec (n : Int) A (some ⟨b30, 0, none⟩) l cap (Zs n) n 1024 w_ (hr.up0 hp_) hl hN hok (roOwn (b := b30) hp_ (cs := ints (Zs n)) (fun j v hj => hj)) (by simp; omega); rw [List.length_replicate] at h; exact h)) ?_)
        rintro v47 _ ⟨rfl, hv⟩
        obtain ⟨x1, x2, x3, x4, rfl, hx4, hx3⟩ : ∃ x1 x2 x3 x4, v47 = .tuple #[.int .i64 x1, .int .i64 x2, .bool x3, .int .i64 x4] ∧ x4 = (lcount (n : Int) l (Zs n)).2 ∧ ((lcount (n : Int) l (Zs n)).2 = 0 → x3 = false) := by
          rw [z_ready (by omega)] at hv
          by_cases h0 : (lcount (n : Int) l (Zs n)).2 = 0
          · rw [if_pos h0] at hv; exact ⟨_, _, _, _, hv, h0.symm, fun _ => by rw [mvR, z_to]; rfl⟩
          · rw [if_neg h0] at hv; exact ⟨_, _, _, _, hv, rfl, fun h => absurd h h0⟩
        dsimp only [List.cons_append, List.nil_append]
        refine f_stepP rfl rfl rfl (o_move rfl) ?_
        refine f_stepP rfl rfl rfl (o_extract rfl rfl) ?_
        refine f_stepP rfl rfl rfl (o_extract rfl rfl) ?_
        refine f_stepP rfl rfl rfl (o_extract rfl rfl) ?_
        refine f_stepP rfl rfl rfl (o_extract rfl rfl) ?_
        refine f_stepP rfl rfl rfl (o_assign rfl) ?_
        refine f_stepP rfl rfl rfl (o_assign rfl) ?_
        refine f_stepP rfl rfl rfl (o_assign rfl) ?_
        refine f_stepP rfl rfl rfl (o_assign rfl) ?_
        refine f_done ?_
        refine f_tn (kh12 _ _ ?_)
        clear kh12
        refine f_seq fun K13 kh13 => ?_
        refine f_seq fun K14 kh14 => ?_
        refine f_region ?_
        refine f_stepP rfl rfl rfl (o_move rfl) ?_
        refine f_stepP rfl rfl rfl (o_neq rfl rfl) ?_
        refine f_done ?_
        refine f_tn (kh14 _ _ ?_)
        clear kh14
        refine f_cond rfl (fun c53 => ?_) (fun c53 => ?_)
        · skip
          have hge := z_gainE (v := v) c53
          refine f_seq fun K15 kh15 => ?_
          refine f_region ?_
          refine f_stepP rfl rfl rfl (o_move rfl) ?_
          refine f_stepP rfl rfl rfl (o_move rfl) ?_
          refine f_stepP rfl rfl rfl (o_eql rfl rfl) ?_
          refine f_stepP rfl rfl rfl (o_move rfl) ?_
          refine f_trueL 57 rfl (hge) ?_
          refine f_stepPY rfl rfl rfl rfl rfl (o_move rfl) ?_
          refine f_stepPY rfl rfl rfl rfl rfl (o_move rfl) ?_
          refine f_stepPY rfl rfl rfl rfl rfl (o_eql rfl rfl) ?_
          refine f_stepP rfl rfl rfl (o_pickT rfl rfl) ?_
          refine f_stepP rfl rfl rfl (o_assign rfl) ?_
          refine f_done ?_
          refine f_tn (kh15 _ _ ?_)
          clear kh15
          refine f_ret ?_
          refine f_tr ?_
          exact f_fin1 [] Try.results4 rfl Sub.nil ⟨by rw [decide_eq_true hx4], rfl⟩
        · skip
          have he : (lcount (n : Int) l (Zs n)).2 = 0 := by simpa using c53
          obtain ⟨hg1, hg2⟩ := z_gain (v := v) hn.1 he
          have hc1 := z_count he
          obtain rfl := hx3 he
          rw [he] at hx4
          subst hx4
          refine f_skip ?_
          refine f_tn (kh13 _ _ ?_)
          clear kh13
          refine f_seq fun K16 kh16 => ?_
          refine f_region ?_
          refine f_stepP rfl rfl rfl (o_move rfl) ?_
          refine f_stepP rfl rfl rfl (o_eql rfl rfl) ?_
          refine f_stepP rfl rfl rfl (o_move rfl) ?_
          refine f_trueL 64 rfl (hc1) ?_
          refine f_stepPY rfl rfl rfl rfl rfl (o_move rfl) ?_
          refine f_stepPY rfl rfl rfl rfl rfl (o_eql rfl rfl) ?_
          refine f_stepP rfl rfl rfl (o_pickT rfl rfl) ?_
          refine f_stepP rfl rfl rfl (o_move rfl) ?_
          refine f_trueL 68 rfl (hg1) ?_
          refine f_stepPY rfl rfl rfl rfl rfl (o_move rfl) ?_
          refine f_stepPY rfl rfl rfl rfl rfl (o_eql rfl rfl) ?_
          refine f_stepPY rfl rfl rfl rfl rfl (o_move rfl) ?_
          refine f_stepPY rfl rfl rfl rfl rfl (o_geq rfl rfl) ?_
          refine f_stepPY rfl rfl rfl rfl rfl (o_move rfl) ?_
          refine f_splitL 73 rfl (fun g73 => ?_) (fun g73 => ?_)
          · skip
            refine f_stepPY rfl rfl rfl rfl rfl (o_move rfl) ?_
            refine f_stepPY rfl rfl rfl rfl rfl (o_field fa24_0 rfl) ?_
            refine f_stepPY rfl rfl rfl rfl rfl (o_load Try.isAgg3 rfl (rdA rfl)) ?_
            refine f_stepPY rfl rfl rfl rfl rfl (o_lss rfl rfl) ?_
            refine f_stepPY rfl rfl rfl rfl rfl (o_pickT rfl rfl) ?_
            refine f_stepPY rfl rfl rfl rfl rfl (o_eqlB Try.underlying4 rfl rfl) ?_
            refine f_stepP rfl rfl rfl (o_pickT rfl rfl) ?_
            refine f_stepP rfl rfl rfl (o_move rfl) ?_
            refine f_trueL 81 rfl (by apply decide_eq_decide.2; rw [hg2]; omega) ?_
            refine f_stepPY rfl rfl rfl rfl rfl (o_move rfl) ?_
            refine f_stepPY rfl rfl rfl rfl rfl (o_eql rfl rfl) ?_
            refine f_stepP rfl rfl rfl (o_pickT rfl rfl) ?_
            refine f_stepP rfl rfl rfl (o_move rfl) ?_
            refine f_trueL 85 rfl (rfl) ?_
            refine f_stepPY rfl rfl rfl rfl rfl (o_move rfl) ?_
            refine f_stepPY rfl rfl rfl rfl rfl (o_not rfl) ?_
            refine f_stepP rfl rfl rfl (o_pickT rfl rfl) ?_
            refine f_stepP rfl rfl rfl (o_assign rfl) ?_
            refine f_done ?_
            refine f_tn (kh16 _ _ ?_)
            clear kh16
            refine f_ret ?_
            exact f_fin1 [] Try.results4 rfl Sub.nil ⟨rfl, rfl⟩
          · skip
            refine f_stepN rfl rfl rfl rfl rfl rfl ?_
            refine f_stepN rfl rfl rfl rfl rfl rfl ?_
            refine f_stepN rfl rfl rfl rfl rfl rfl ?_
            refine f_stepN rfl rfl rfl rfl rfl rfl ?_
            refine f_stepPY rfl rfl rfl rfl rfl (o_pickF rfl rfl) ?_
            refine f_stepPY rfl rfl rfl rfl rfl (o_eqlB Try.underlying4 rfl rfl) ?_
            refine f_stepP rfl rfl rfl (o_pickT rfl rfl) ?_
            refine f_stepP rfl rfl rfl (o_move rfl) ?_
            refine f_trueL 81 rfl (by rw [decide_eq_false]; rw [hg2]; omega) ?_
            refine f_stepPY rfl rfl rfl rfl rfl (o_move rfl) ?_
            refine f_stepPY rfl rfl rfl rfl rfl (o_eql rfl rfl) ?_
            refine f_stepP rfl rfl rfl (o_pickT rfl rfl) ?_
            refine f_stepP rfl rfl rfl (o_move rfl) ?_
            refine f_trueL 85 rfl (rfl) ?_
            refine f_stepPY rfl rfl rfl rfl rfl (o_move rfl) ?_
            refine f_stepPY rfl rfl rfl rfl rfl (o_not rfl) ?_
            refine f_stepP rfl rfl rfl (o_pickT rfl rfl) ?_
            refine f_stepP rfl rfl rfl (o_assign rfl) ?_
            refine f_done ?_
            refine f_tn (kh16 _ _ ?_)
            clear kh16
            refine f_ret ?_
            exact f_fin1 [] Try.results4 rfl Sub.nil ⟨rfl, rfl⟩

end Go.Proofs.Ytagidegklmgilaa
