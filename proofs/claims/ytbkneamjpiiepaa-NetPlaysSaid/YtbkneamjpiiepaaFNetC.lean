/- The net's law NetCounts. -/
import Derived.Test.YtbkneamjpiiepaaFNetD
import Derived.Test.YtbkneamjpiiepaaFLinks
import Derived.Test.YtbkneamjpiiepaaFNetA
import Derived.Test.YtbkneamjpiiepaaPNetC
namespace Go.Proofs.Ytbkneamjpiiepaa
open Go Go.RowKit Fly
set_option linter.unusedVariables false
set_option linter.unusedSimpArgs false


theorem step_turn (A : NetM) (v : Int) (d : Bool) : Step A (A.turn v d).2 0 := by
  unfold NetM.turn
  by_cases h1 : A.Non v
  · simp only [if_pos h1]; exact ⟨rfl, by simp⟩
  · by_cases h2 : A.isDown v = d
    · simp only [if_neg h1, if_pos h2]; exact ⟨rfl, by simp⟩
    · simp only [if_neg h1, if_neg h2]
      refine ⟨by simp, ?_⟩
      show (((allP (A.down.set v.toNat d).length).map (bagLen A)).sum : Int) = _
      rw [List.length_set, Int.add_zero]; rfl
theorem step_down (A : NetM) (v : Int) : Step A (A.goDown v).2 0 := by
  have h := step_turn A v true
  unfold NetM.goDown
  by_cases h1 : (A.turn v true).1 ≠ 0
  · simp only [if_pos h1]; exact h
  · simp only [if_neg h1]
    exact ⟨h.nodes, h.tot⟩
theorem NetRep.keyok {A : NetM} {bn : Nat} {m : Seg} (h : NetRep A bn m) : ∀ k, A.bag k ≠ [] → ¬ A.Bad k := by
  obtain ⟨bd, bm, ents, clk, tv, mt, G, _, hA⟩ := h
  exact hA.keyok
theorem NetRep.lens {A : NetM} {bn : Nat} {m : Seg} (h : NetRep A bn m) : A.down.length ≤ 65 ∧ ∀ k, (A.bag k).length ≤ 4096 := by
  obtain ⟨bd, bm, ents, clk, tv, mt, G, _, hA⟩ := h
  exact ⟨hA.nodes, hA.len⟩
theorem bag_told {A : NetM} (h : ∀ k, A.bag k ≠ [] → ¬ A.Bad k) (l : Int × Int) : (if A.looked l = 0 then A.bag l else []) = A.bag l := by
  split
  · rfl
  · rename_i h1
    refine (Classical.byContradiction fun hne => ?_)
    exact h l (fun e => hne e.symm) (NetM.looked_bad h1).1
theorem bad_ab {A : NetM} {n a b : Nat} (hn : A.down.length = n) (ha : a < n) (hb : b < n) : A.looked ((a : Int), (b : Int)) = if a = b then 190 else 0 := by
  unfold NetM.looked NetM.Bad NetM.Non
  by_cases h : a = b
  · subst h; rw [if_pos (by simp), if_pos rfl]
  · rw [if_neg (by simp; omega), if_neg h]

set_option maxRecDepth 100000 in
set_option maxHeartbeats 4000000 in
theorem NetCounts_spec (x : Int) (A : Option Addr) (acts : List NAct) (cap : Nat) (w : World) (hr : Ro (Fr w []) w A (acts.flatMap nactCs)) (hl : acts.length ≤ 9223372036854775807) :
    Meets Try.prog 6 [.int .i64 x, .slice A acts.length cap] w [] (fun u m => u = .bool true ∧ m = []) := by
  refine f_enter Try.func6 rfl Try.ntmps6 rfl Owns.nil ?_
  refine f_seq fun K1 kh1 => ?_
  refine f_region ?_
  refine f_stepP rfl rfl rfl (o_assign rfl) ?_
  refine f_done ?_
  refine f_tn (kh1 _ _ ?_)
  clear kh1
  refine f_seq fun K2 kh2 => ?_
  refine f_region ?_
  refine f_stepP rfl rfl rfl (o_move rfl) ?_
  refine f_step rfl rfl rfl (o_call Try.call13 rfl (fun w_ hp_ => among_spec x 5 w_ (by decide)) ?_)
  rintro _ _ ⟨⟨r1, rfl, hr10, hr11⟩, rfl⟩
  obtain ⟨n, hn⟩ : ∃ n : Nat, 2 + r1 = n := ⟨(2 + r1).toNat, by omega⟩
  dsimp only [List.cons_append, List.nil_append]
  refine f_stepP rfl rfl rfl (o_add rfl rfl _ (show IntKind.i64.wrap (2 + r1) = (n : Int) from by rw [wrap_i64 (by omega)]; omega)) ?_
  refine f_stepP rfl rfl rfl (o_assign rfl) ?_
  refine f_done ?_
  refine f_tn (kh2 _ _ ?_)
  clear kh2
  refine f_seq fun K3 kh3 => ?_
  refine f_region ?_
  refine f_stepP rfl rfl rfl (o_move rfl) ?_
  refine f_step rfl rfl rfl (o_call Try.call8 rfl (fun w_ hp_ => New_spec (n : Int) w_) ?_)
  rintro _ _ hnew
  rw [if_pos ⟨by omega, by omega⟩] at hnew
  obtain ⟨bn, m0, rfl, rfl, hN0⟩ := hnew
  rw [Int.toNat_natCast] at hN0
  dsimp only [List.cons_append, List.nil_append]
  refine f_stepP rfl rfl rfl (o_move rfl) ?_
  refine f_stepP rfl rfl rfl (o_extract rfl rfl) ?_
  refine f_stepP rfl rfl rfl (o_extract rfl rfl) ?_
  refine f_stepP rfl rfl rfl (o_assign rfl) ?_
  refine f_stepP rfl rfl rfl (o_assign rfl) ?_
  refine f_done ?_
  refine f_tn (kh3 _ _ ?_)
  clear kh3
  refine f_seq fun K4 kh4 => ?_
  refine f_seq fun K5 kh5 => ?_
  refine f_region ?_
  refine f_stepP rfl rfl rfl (o_move rfl) ?_
  refine f_stepP rfl rfl rfl (o_eqlN (by kernel_rfl) rfl rfl) ?_
  refine f_stepP rfl rfl rfl (o_move rfl) ?_
  refine f_stepPY rfl rfl rfl rfl rfl (o_move rfl) ?_
  refine f_stepPY rfl rfl rfl rfl rfl (o_neq rfl rfl) ?_
  refine f_stepP rfl rfl rfl (o_pickF rfl rfl) ?_
  refine f_stepP rfl rfl rfl (o_move rfl) ?_
  refine f_splitL 32 rfl (fun g32 => ?_) (fun g32 => ?_)
  · skip
    refine f_stepN rfl rfl rfl rfl rfl rfl ?_
    refine f_stepN rfl rfl rfl rfl rfl rfl ?_
    refine f_stepP rfl rfl rfl (o_pickT rfl rfl) ?_
    refine f_done ?_
    refine f_tn (kh5 _ _ ?_)
    clear kh5
    refine f_condT rfl ?_
    refine f_seq fun K6 kh6 => ?_
    refine f_region ?_
    refine f_stepP rfl rfl rfl (o_assign rfl) ?_
    refine f_done ?_
    refine f_tn (kh6 _ _ ?_)
    clear kh6
    refine f_ret ?_
    refine f_tr ?_
    omega
  · skip
    refine f_stepY rfl rfl rfl rfl rfl (o_call Try.call9 rfl (fun w_ hp_ => works_spec w_) ?_)
    rintro _ _ ⟨rfl, rfl⟩
    dsimp only [List.cons_append, List.nil_append]
    refine f_stepPY rfl rfl rfl rfl rfl (o_not rfl) ?_
    refine f_stepP rfl rfl rfl (o_pickF rfl rfl) ?_
    refine f_done ?_
    refine f_tn (kh5 _ _ ?_)
    clear kh5
    refine f_condF rfl ?_
    refine f_skip ?_
    refine f_tn (kh4 _ _ ?_)
    clear kh4
    refine f_seq fun K7 kh7 => ?_
    refine f_region ?_
    refine f_stepP rfl rfl rfl (o_assign rfl) ?_
    refine f_done ?_
    refine f_tn (kh7 _ _ ?_)
    clear kh7
    refine f_seq fun K8 kh8 => ?_
    refine f_seq fun K9 kh9 => ?_
    refine f_region ?_
    refine f_stepP rfl rfl rfl (o_assign rfl) ?_
    refine f_done ?_
    refine f_tn (kh9 _ _ ?_)
    clear kh9
    refine f_block ?_
    refine f_loop (α := Nat × Int × NetM × Seg) [0, 1, 5] (fun ⟨i, c, B, m⟩ => [(8, .int .i64 (i : Int)), (7, .int .i64 c)]) (fun ⟨i, c, B, m⟩ => [m]) (fun ⟨i, c, B, m⟩ => i ≤ acts.length ∧ i ≤ 300 ∧ 0 ≤ c ∧ c ≤ i ∧ (B.tot : Int) = c ∧ B.down.length = n ∧ NetRep B bn m) (fun ⟨i, c, B, m⟩ => acts.length - i) (0, 0, NetM.new n, m0) ?_ ?_ ?_ ?_
    · exact (by repeat (first | exact trivial | refine ⟨rfl, ?_⟩))
    · repeat (first | exact Sub.nil | refine Sub.pick ?_ | refine Sub.castO rfl ?_ | refine Sub.skip ?_)
    · exact ⟨by omega, by omega, by omega, by omega, by rw [new_tot]; rfl, by simp [NetM.new], hN0⟩
    · rintro ⟨i, c, B, m⟩ ⟨hil, hi3, hc0, hci, hBt, hBn, hN⟩
      refine f_seq fun K10 kh10 => ?_
      refine f_seq fun K11 kh11 => ?_
      refine f_region ?_
      refine f_stepP rfl rfl rfl (o_move rfl) ?_
      refine f_stepP rfl rfl rfl (o_move rfl) ?_
      refine f_stepP rfl rfl rfl (o_len sl43 rfl) ?_
      refine f_stepP rfl rfl rfl (o_lss rfl rfl) ?_
      refine f_stepP rfl rfl rfl (o_move rfl) ?_
      refine f_splitL 40 rfl (fun g40 => ?_) (fun g40 => ?_)
      · skip
        refine f_stepPY rfl rfl rfl rfl rfl (o_move rfl) ?_
        refine f_stepPY rfl rfl rfl rfl rfl (o_lss rfl rfl) ?_
        refine f_stepP rfl rfl rfl (o_pickT rfl rfl) ?_
        refine f_done ?_
        refine f_tn (kh11 _ _ ?_)
        clear kh11
        refine f_cond rfl (fun c43 => ?_) (fun c43 => ?_)
        · skip
          refine f_skip ?_
          refine f_tn (kh10 _ _ ?_)
          clear kh10
          refine f_seq fun K12 kh12 => ?_
          refine f_block ?_
          refine f_seq fun K13 kh13 => ?_
          refine f_region ?_
          refine f_stepP rfl rfl rfl (o_move rfl) ?_
          refine f_stepP rfl rfl rfl (o_move rfl) ?_
          have hi : i < acts.length := by omega
          obtain ⟨bl, off, rfl, hS, hc⟩ := hr (flat_ne nactCs nactCs_len (by omega) hi)
          refine f_stepP rfl rfl rfl (o_idx sl43 rfl rfl (off + i * 5) ⟨by omega, by omega, by first | omega | (simp; done) | (simp; omega)⟩) ?_
          refine f_stepP rfl rfl rfl (o_loadA (vs := nactCs acts[i]) Try.isAgg45 Try.sizeOf45 rfl rfl (roElem nactCs_len hS hc hi)) ?_
          refine f_step rfl rfl rfl (o_alloc Try.zeroValue45 rfl fun b9 => ?_)
          refine f_step0 rfl rfl (o_storeA Try.sizeOf45 rfl rfl rfl rfl (by first | exact Nat.le_of_ble_eq_true rfl | (simp; done) | (simp; omega)) _ rfl ?_)
          refine f_done ?_
          refine f_tn (kh13 _ _ ?_)
          clear kh13
          refine f_seq fun K14 kh14 => ?_
          refine f_region ?_
          refine f_stepP rfl rfl rfl (o_field fa45_0 rfl) ?_
          refine f_stepP rfl rfl rfl (o_load Try.isAgg3 rfl (rdA rfl)) ?_
          refine f_step rfl rfl rfl (o_call Try.call13 rfl (fun w_ hp_ => among_spec acts[i].kind 6 w_ (by decide)) ?_)
          rintro _ _ ⟨⟨kd, rfl, hk0, hk1⟩, rfl⟩
          dsimp only [List.cons_append, List.nil_append]
          refine f_done ?_
          refine f_tn (kh14 _ _ ?_)
          clear kh14
          refine f_block ?_
          refine f_seq fun K15 kh15 => ?_
          refine f_region ?_
          refine f_stepP rfl rfl rfl (o_eql rfl rfl) ?_
          refine f_stepP rfl rfl rfl (o_assign rfl) ?_
          refine f_done ?_
          refine f_tn (kh15 _ _ ?_)
          clear kh15
          refine f_cond rfl (fun c57 => ?_) (fun c57 => ?_)
          · skip
            refine f_seq fun K16 kh16 => ?_
            refine f_region ?_
            refine f_stepP rfl rfl rfl (o_move rfl) ?_
            refine f_stepP rfl rfl rfl (o_field fa45_1 rfl) ?_
            refine f_stepP rfl rfl rfl (o_load Try.isAgg3 rfl (rdA rfl)) ?_
            refine f_stepP rfl rfl rfl (o_field fa45_2 rfl) ?_
            refine f_stepP rfl rfl rfl (o_load Try.isAgg3 rfl (rdA rfl)) ?_
            refine f_stepP rfl rfl rfl (o_field fa45_4 rfl) ?_
            refine f_stepP rfl rfl rfl (o_load Try.isAgg9 rfl (rdA rfl)) ?_
            refine f_step rfl rfl rfl (o_callM [m] _ Try.call10 rfl (Sub.pick Sub.refl) (fun w_ hp_ => Send_spec B bn m (acts[i].fr, acts[i].dst) acts[i].body w_ hN hp_.owns) ?_)
            rintro _ _ ⟨rfl, m2, rfl, hN2⟩
            dsimp only [List.cons_append, List.nil_append]
            refine f_stepP rfl rfl rfl (o_eql rfl rfl) ?_
            refine f_done ?_
            refine f_tn (kh16 _ _ ?_)
            clear kh16
            refine f_cond rfl (fun c67 => ?_) (fun c67 => ?_)
            · skip
              have hst := step_send B (acts[i].fr, acts[i].dst) acts[i].body
              rw [if_pos c67] at hst
              have ht := hst.tot
              have hd := hst.nodes
              refine f_region ?_
              refine f_stepP rfl rfl rfl (o_move rfl) ?_
              refine f_stepP rfl rfl rfl (o_add rfl rfl _ (wrap_i64 (by omega))) ?_
              refine f_stepP rfl rfl rfl (o_assign rfl) ?_
              refine f_done ?_
              refine f_bn ?_
              refine f_bn ?_
              refine f_tn (kh12 _ _ ?_)
              clear kh12
              refine f_region ?_
              refine f_stepP rfl rfl rfl (o_move rfl) ?_
              refine f_stepP rfl rfl rfl (o_add rfl rfl _ (wrap_i64 (by omega))) ?_
              refine f_stepP rfl rfl rfl (o_assign rfl) ?_
              refine f_done ?_
              refine f_tn (f_again (i + 1, c + 1, (B.send (acts[i].fr, acts[i].dst) acts[i].body).2, m2) (by first | omega | (dsimp only; omega) | (simp; omega)) ⟨by omega, by omega, by omega, by omega, by omega, hd.trans hBn, hN2⟩ ?_ ?_ ?_)
              · exact (by repeat (first | exact trivial | refine ⟨rfl, ?_⟩))
              · exact (by repeat (first | exact trivial | refine ⟨rfl, ?_⟩))
              · repeat (first | exact Sub.nil | refine Sub.pick ?_ | refine Sub.castO rfl ?_ | refine Sub.skip ?_)
            · skip
              have hst := step_send B (acts[i].fr, acts[i].dst) acts[i].body
              rw [if_neg c67] at hst
              have ht := hst.tot
              have hd := hst.nodes
              refine f_skip ?_
              refine f_bn ?_
              refine f_bn ?_
              refine f_tn (kh12 _ _ ?_)
              clear kh12
              refine f_region ?_
              refine f_stepP rfl rfl rfl (o_move rfl) ?_
              refine f_stepP rfl rfl rfl (o_add rfl rfl _ (wrap_i64 (by omega))) ?_
              refine f_stepP rfl rfl rfl (o_assign rfl) ?_
              refine f_done ?_
              refine f_tn (f_again (i + 1, c, (B.send (acts[i].fr, acts[i].dst) acts[i].body).2, m2) (by first | omega | (dsimp only; omega) | (simp; omega)) ⟨by omega, by omega, by omega, by omega, by omega, hd.trans hBn, hN2⟩ ?_ ?_ ?_)
              · exact (by repeat (first | exact trivial | refine ⟨rfl, ?_⟩))
              · exact (by repeat (first | exact trivial | refine ⟨rfl, ?_⟩))
              · repeat (first | exact Sub.nil | refine Sub.pick ?_ | refine Sub.castO rfl ?_ | refine Sub.skip ?_)
          · skip
            refine f_seq fun K17 kh17 => ?_
            refine f_region ?_
            refine f_stepP rfl rfl rfl (o_eql rfl rfl) ?_
            refine f_stepP rfl rfl rfl (o_assign rfl) ?_
            refine f_done ?_
            refine f_tn (kh17 _ _ ?_)
            clear kh17
            refine f_cond rfl (fun c70 => ?_) (fun c70 => ?_)
            · skip
              refine f_seq fun K18 kh18 => ?_
              refine f_region ?_
              refine f_stepP rfl rfl rfl (o_move rfl) ?_
              refine f_stepP rfl rfl rfl (o_field fa45_1 rfl) ?_
              refine f_stepP rfl rfl rfl (o_load Try.isAgg3 rfl (rdA rfl)) ?_
              refine f_stepP rfl rfl rfl (o_field fa45_2 rfl) ?_
              refine f_stepP rfl rfl rfl (o_load Try.isAgg3 rfl (rdA rfl)) ?_
              refine f_stepP rfl rfl rfl (o_field fa45_3 rfl) ?_
              refine f_stepP rfl rfl rfl (o_load Try.isAgg3 rfl (rdA rfl)) ?_
              refine f_step rfl rfl rfl (o_callM [m] _ Try.call12 rfl (Sub.pick Sub.refl) (fun w_ hp_ => Take_spec B bn m (acts[i].fr, acts[i].dst) acts[i].k w_ hN hp_.owns) ?_)
              rintro _ _ ⟨rfl, m2, rfl, hN2⟩
              dsimp only [List.cons_append, List.nil_append]
              refine f_stepP rfl rfl rfl (o_move rfl) ?_
              refine f_stepP rfl rfl rfl (o_extract rfl rfl) ?_
              refine f_stepP rfl rfl rfl (o_extract rfl rfl) ?_
              refine f_stepP rfl rfl rfl (o_assign rfl) ?_
              refine f_stepP rfl rfl rfl (o_assign rfl) ?_
              refine f_done ?_
              refine f_tn (kh18 _ _ ?_)
              clear kh18
              refine f_seq fun K19 kh19 => ?_
              refine f_region ?_
              refine f_stepP rfl rfl rfl (o_move rfl) ?_
              refine f_stepP rfl rfl rfl (o_eql rfl rfl) ?_
              refine f_done ?_
              refine f_tn (kh19 _ _ ?_)
              clear kh19
              refine f_cond rfl (fun c84 => ?_) (fun c84 => ?_)
              · skip
                have hst := step_take B (acts[i].fr, acts[i].dst) acts[i].k
                rw [if_pos c84] at hst
                have ht := hst.tot
                have hd := hst.nodes
                refine f_region ?_
                refine f_stepP rfl rfl rfl (o_move rfl) ?_
                refine f_stepP rfl rfl rfl (o_sub rfl rfl _ (wrap_i64 (by omega))) ?_
                refine f_stepP rfl rfl rfl (o_assign rfl) ?_
                refine f_done ?_
                refine f_bn ?_
                refine f_bn ?_
                refine f_tn (kh12 _ _ ?_)
                clear kh12
                refine f_region ?_
                refine f_stepP rfl rfl rfl (o_move rfl) ?_
                refine f_stepP rfl rfl rfl (o_add rfl rfl _ (wrap_i64 (by omega))) ?_
                refine f_stepP rfl rfl rfl (o_assign rfl) ?_
                refine f_done ?_
                refine f_tn (f_again (i + 1, c - 1, (B.take (acts[i].fr, acts[i].dst) acts[i].k).2, m2) (by first | omega | (dsimp only; omega) | (simp; omega)) ⟨by omega, by omega, by omega, by omega, by omega, hd.trans hBn, hN2⟩ ?_ ?_ ?_)
                · exact (by repeat (first | exact trivial | refine ⟨rfl, ?_⟩))
                · exact (by repeat (first | exact trivial | refine ⟨rfl, ?_⟩))
                · repeat (first | exact Sub.nil | refine Sub.pick ?_ | refine Sub.castO rfl ?_ | refine Sub.skip ?_)
              · skip
                have hst := step_take B (acts[i].fr, acts[i].dst) acts[i].k
                rw [if_neg c84] at hst
                have ht := hst.tot
                have hd := hst.nodes
                refine f_skip ?_
                refine f_bn ?_
                refine f_bn ?_
                refine f_tn (kh12 _ _ ?_)
                clear kh12
                refine f_region ?_
                refine f_stepP rfl rfl rfl (o_move rfl) ?_
                refine f_stepP rfl rfl rfl (o_add rfl rfl _ (wrap_i64 (by omega))) ?_
                refine f_stepP rfl rfl rfl (o_assign rfl) ?_
                refine f_done ?_
                refine f_tn (f_again (i + 1, c, (B.take (acts[i].fr, acts[i].dst) acts[i].k).2, m2) (by first | omega | (dsimp only; omega) | (simp; omega)) ⟨by omega, by omega, by omega, by omega, by omega, hd.trans hBn, hN2⟩ ?_ ?_ ?_)
                · exact (by repeat (first | exact trivial | refine ⟨rfl, ?_⟩))
                · exact (by repeat (first | exact trivial | refine ⟨rfl, ?_⟩))
                · repeat (first | exact Sub.nil | refine Sub.pick ?_ | refine Sub.castO rfl ?_ | refine Sub.skip ?_)
            · skip
              refine f_seq fun K20 kh20 => ?_
              refine f_region ?_
              refine f_stepP rfl rfl rfl (o_eql rfl rfl) ?_
              refine f_stepP rfl rfl rfl (o_assign rfl) ?_
              refine f_done ?_
              refine f_tn (kh20 _ _ ?_)
              clear kh20
              refine f_cond rfl (fun c87 => ?_) (fun c87 => ?_)
              · skip
                refine f_seq fun K21 kh21 => ?_
                refine f_region ?_
                refine f_stepP rfl rfl rfl (o_move rfl) ?_
                refine f_stepP rfl rfl rfl (o_field fa45_1 rfl) ?_
                refine f_stepP rfl rfl rfl (o_load Try.isAgg3 rfl (rdA rfl)) ?_
                refine f_stepP rfl rfl rfl (o_field fa45_2 rfl) ?_
                refine f_stepP rfl rfl rfl (o_load Try.isAgg3 rfl (rdA rfl)) ?_
                refine f_stepP rfl rfl rfl (o_field fa45_3 rfl) ?_
                refine f_stepP rfl rfl rfl (o_load Try.isAgg3 rfl (rdA rfl)) ?_
                refine f_step rfl rfl rfl (o_callM [m] _ Try.call11 rfl (Sub.pick Sub.refl) (fun w_ hp_ => Copy_spec B bn m (acts[i].fr, acts[i].dst) acts[i].k w_ hN hp_.owns) ?_)
                rintro _ _ ⟨rfl, m2, rfl, hN2⟩
                dsimp only [List.cons_append, List.nil_append]
                refine f_stepP rfl rfl rfl (o_eql rfl rfl) ?_
                refine f_done ?_
                refine f_tn (kh21 _ _ ?_)
                clear kh21
                refine f_cond rfl (fun c97 => ?_) (fun c97 => ?_)
                · skip
                  have hst := step_copy B (acts[i].fr, acts[i].dst) acts[i].k
                  rw [if_pos c97] at hst
                  have ht := hst.tot
                  have hd := hst.nodes
                  refine f_region ?_
                  refine f_stepP rfl rfl rfl (o_move rfl) ?_
                  refine f_stepP rfl rfl rfl (o_add rfl rfl _ (wrap_i64 (by omega))) ?_
                  refine f_stepP rfl rfl rfl (o_assign rfl) ?_
                  refine f_done ?_
                  refine f_bn ?_
                  refine f_bn ?_
                  refine f_tn (kh12 _ _ ?_)
                  clear kh12
                  refine f_region ?_
                  refine f_stepP rfl rfl rfl (o_move rfl) ?_
                  refine f_stepP rfl rfl rfl (o_add rfl rfl _ (wrap_i64 (by omega))) ?_
                  refine f_stepP rfl rfl rfl (o_assign rfl) ?_
                  refine f_done ?_
                  refine f_tn (f_again (i + 1, c + 1, (B.copy (acts[i].fr, acts[i].dst) acts[i].k).2, m2) (by first | omega | (dsimp only; omega) | (simp; omega)) ⟨by omega, by omega, by omega, by omega, by omega, hd.trans hBn, hN2⟩ ?_ ?_ ?_)
                  · exact (by repeat (first | exact trivial | refine ⟨rfl, ?_⟩))
                  · exact (by repeat (first | exact trivial | refine ⟨rfl, ?_⟩))
                  · repeat (first | exact Sub.nil | refine Sub.pick ?_ | refine Sub.castO rfl ?_ | refine Sub.skip ?_)
                · skip
                  have hst := step_copy B (acts[i].fr, acts[i].dst) acts[i].k
                  rw [if_neg c97] at hst
                  have ht := hst.tot
                  have hd := hst.nodes
                  refine f_skip ?_
                  refine f_bn ?_
                  refine f_bn ?_
                  refine f_tn (kh12 _ _ ?_)
                  clear kh12
                  refine f_region ?_
                  refine f_stepP rfl rfl rfl (o_move rfl) ?_
                  refine f_stepP rfl rfl rfl (o_add rfl rfl _ (wrap_i64 (by omega))) ?_
                  refine f_stepP rfl rfl rfl (o_assign rfl) ?_
                  refine f_done ?_
                  refine f_tn (f_again (i + 1, c, (B.copy (acts[i].fr, acts[i].dst) acts[i].k).2, m2) (by first | omega | (dsimp only; omega) | (simp; omega)) ⟨by omega, by omega, by omega, by omega, by omega, hd.trans hBn, hN2⟩ ?_ ?_ ?_)
                  · exact (by repeat (first | exact trivial | refine ⟨rfl, ?_⟩))
                  · exact (by repeat (first | exact trivial | refine ⟨rfl, ?_⟩))
                  · repeat (first | exact Sub.nil | refine Sub.pick ?_ | refine Sub.castO rfl ?_ | refine Sub.skip ?_)
              · skip
                refine f_seq fun K22 kh22 => ?_
                refine f_region ?_
                refine f_stepP rfl rfl rfl (o_eql rfl rfl) ?_
                refine f_stepP rfl rfl rfl (o_assign rfl) ?_
                refine f_done ?_
                refine f_tn (kh22 _ _ ?_)
                clear kh22
                refine f_cond rfl (fun c100 => ?_) (fun c100 => ?_)
                · skip
                  refine f_seq fun K23 kh23 => ?_
                  refine f_region ?_
                  refine f_stepP rfl rfl rfl (o_move rfl) ?_
                  refine f_stepP rfl rfl rfl (o_field fa45_1 rfl) ?_
                  refine f_stepP rfl rfl rfl (o_load Try.isAgg3 rfl (rdA rfl)) ?_
                  refine f_stepP rfl rfl rfl (o_field fa45_2 rfl) ?_
                  refine f_stepP rfl rfl rfl (o_load Try.isAgg3 rfl (rdA rfl)) ?_
                  refine f_stepP rfl rfl rfl (o_field fa45_3 rfl) ?_
                  refine f_stepP rfl rfl rfl (o_load Try.isAgg3 rfl (rdA rfl)) ?_
                  refine f_step rfl rfl rfl (o_callM [m] _ Try.call18 rfl (Sub.pick Sub.refl) (fun w_ hp_ => Lose_spec B bn m (acts[i].fr, acts[i].dst) acts[i].k w_ hN hp_.owns) ?_)
                  rintro _ _ ⟨rfl, m2, rfl, hN2⟩
                  dsimp only [List.cons_append, List.nil_append]
                  refine f_stepP rfl rfl rfl (o_eql rfl rfl) ?_
                  refine f_done ?_
                  refine f_tn (kh23 _ _ ?_)
                  clear kh23
                  refine f_cond rfl (fun c110 => ?_) (fun c110 => ?_)
                  · skip
                    have hst := step_lose B (acts[i].fr, acts[i].dst) acts[i].k
                    rw [if_pos c110] at hst
                    have ht := hst.tot
                    have hd := hst.nodes
                    refine f_region ?_
                    refine f_stepP rfl rfl rfl (o_move rfl) ?_
                    refine f_stepP rfl rfl rfl (o_sub rfl rfl _ (wrap_i64 (by omega))) ?_
                    refine f_stepP rfl rfl rfl (o_assign rfl) ?_
                    refine f_done ?_
                    refine f_bn ?_
                    refine f_bn ?_
                    refine f_tn (kh12 _ _ ?_)
                    clear kh12
                    refine f_region ?_
                    refine f_stepP rfl rfl rfl (o_move rfl) ?_
                    refine f_stepP rfl rfl rfl (o_add rfl rfl _ (wrap_i64 (by omega))) ?_
                    refine f_stepP rfl rfl rfl (o_assign rfl) ?_
                    refine f_done ?_
                    refine f_tn (f_again (i + 1, c - 1, (B.lose (acts[i].fr, acts[i].dst) acts[i].k).2, m2) (by first | omega | (dsimp only; omega) | (simp; omega)) ⟨by omega, by omega, by omega, by omega, by omega, hd.trans hBn, hN2⟩ ?_ ?_ ?_)
                    · exact (by repeat (first | exact trivial | refine ⟨rfl, ?_⟩))
                    · exact (by repeat (first | exact trivial | refine ⟨rfl, ?_⟩))
                    · repeat (first | exact Sub.nil | refine Sub.pick ?_ | refine Sub.castO rfl ?_ | refine Sub.skip ?_)
                  · skip
                    have hst := step_lose B (acts[i].fr, acts[i].dst) acts[i].k
                    rw [if_neg c110] at hst
                    have ht := hst.tot
                    have hd := hst.nodes
                    refine f_skip ?_
                    refine f_bn ?_
                    refine f_bn ?_
                    refine f_tn (kh12 _ _ ?_)
                    clear kh12
                    refine f_region ?_
                    refine f_stepP rfl rfl rfl (o_move rfl) ?_
                    refine f_stepP rfl rfl rfl (o_add rfl rfl _ (wrap_i64 (by omega))) ?_
                    refine f_stepP rfl rfl rfl (o_assign rfl) ?_
                    refine f_done ?_
                    refine f_tn (f_again (i + 1, c, (B.lose (acts[i].fr, acts[i].dst) acts[i].k).2, m2) (by first | omega | (dsimp only; omega) | (simp; omega)) ⟨by omega, by omega, by omega, by omega, by omega, hd.trans hBn, hN2⟩ ?_ ?_ ?_)
                    · exact (by repeat (first | exact trivial | refine ⟨rfl, ?_⟩))
                    · exact (by repeat (first | exact trivial | refine ⟨rfl, ?_⟩))
                    · repeat (first | exact Sub.nil | refine Sub.pick ?_ | refine Sub.castO rfl ?_ | refine Sub.skip ?_)
                · skip
                  refine f_seq fun K24 kh24 => ?_
                  refine f_region ?_
                  refine f_stepP rfl rfl rfl (o_eql rfl rfl) ?_
                  refine f_stepP rfl rfl rfl (o_assign rfl) ?_
                  refine f_done ?_
                  refine f_tn (kh24 _ _ ?_)
                  clear kh24
                  refine f_cond rfl (fun c113 => ?_) (fun c113 => ?_)
                  · skip
                    have hst := step_down B acts[i].fr
                    have ht := hst.tot
                    have hd := hst.nodes
                    refine f_region ?_
                    refine f_stepP rfl rfl rfl (o_move rfl) ?_
                    refine f_stepP rfl rfl rfl (o_field fa45_1 rfl) ?_
                    refine f_stepP rfl rfl rfl (o_load Try.isAgg3 rfl (rdA rfl)) ?_
                    refine f_step rfl rfl rfl (o_callM [m] _ Try.call15 rfl (Sub.pick Sub.refl) (fun w_ hp_ => Down_spec B bn m acts[i].fr w_ hN hp_.owns) ?_)
                    rintro _ _ ⟨rfl, m2, rfl, hN2⟩
                    dsimp only [List.cons_append, List.nil_append]
                    refine f_done ?_
                    refine f_bn ?_
                    refine f_bn ?_
                    refine f_tn (kh12 _ _ ?_)
                    clear kh12
                    refine f_region ?_
                    refine f_stepP rfl rfl rfl (o_move rfl) ?_
                    refine f_stepP rfl rfl rfl (o_add rfl rfl _ (wrap_i64 (by omega))) ?_
                    refine f_stepP rfl rfl rfl (o_assign rfl) ?_
                    refine f_done ?_
                    refine f_tn (f_again (i + 1, c, (B.goDown acts[i].fr).2, m2) (by first | omega | (dsimp only; omega) | (simp; omega)) ⟨by omega, by omega, by omega, by omega, by omega, hd.trans hBn, hN2⟩ ?_ ?_ ?_)
                    · exact (by repeat (first | exact trivial | refine ⟨rfl, ?_⟩))
                    · exact (by repeat (first | exact trivial | refine ⟨rfl, ?_⟩))
                    · repeat (first | exact Sub.nil | refine Sub.pick ?_ | refine Sub.castO rfl ?_ | refine Sub.skip ?_)
                  · skip
                    have hst := step_turn B acts[i].fr false
                    have ht := hst.tot
                    have hd := hst.nodes
                    refine f_region ?_
                    refine f_stepP rfl rfl rfl (o_move rfl) ?_
                    refine f_stepP rfl rfl rfl (o_field fa45_1 rfl) ?_
                    refine f_stepP rfl rfl rfl (o_load Try.isAgg3 rfl (rdA rfl)) ?_
                    refine f_step rfl rfl rfl (o_callM [m] _ Try.call19 rfl (Sub.pick Sub.refl) (fun w_ hp_ => Up_spec B bn m acts[i].fr w_ hN hp_.owns) ?_)
                    rintro _ _ ⟨rfl, m2, rfl, hN2⟩
                    dsimp only [List.cons_append, List.nil_append]
                    refine f_done ?_
                    refine f_bn ?_
                    refine f_bn ?_
                    refine f_tn (kh12 _ _ ?_)
                    clear kh12
                    refine f_region ?_
                    refine f_stepP rfl rfl rfl (o_move rfl) ?_
                    refine f_stepP rfl rfl rfl (o_add rfl rfl _ (wrap_i64 (by omega))) ?_
                    refine f_stepP rfl rfl rfl (o_assign rfl) ?_
                    refine f_done ?_
                    refine f_tn (f_again (i + 1, c, (B.turn acts[i].fr false).2, m2) (by first | omega | (dsimp only; omega) | (simp; omega)) ⟨by omega, by omega, by omega, by omega, by omega, hd.trans hBn, hN2⟩ ?_ ?_ ?_)
                    · exact (by repeat (first | exact trivial | refine ⟨rfl, ?_⟩))
                    · exact (by repeat (first | exact trivial | refine ⟨rfl, ?_⟩))
                    · repeat (first | exact Sub.nil | refine Sub.pick ?_ | refine Sub.castO rfl ?_ | refine Sub.skip ?_)
        · skip
          refine f_exit ?_
          refine f_te ?_
          clear kh10
          refine f_te ?_
          refine f_be ?_
          refine f_tn (kh8 _ _ ?_)
          clear kh8
          refine f_seq fun K25 kh25 => ?_
          refine f_region ?_
          refine f_stepP rfl rfl rfl (o_assign rfl) ?_
          refine f_stepP rfl rfl rfl (o_assign rfl) ?_
          refine f_done ?_
          refine f_tn (kh25 _ _ ?_)
          clear kh25
          refine f_seq fun K26 kh26 => ?_
          refine f_seq fun K27 kh27 => ?_
          refine f_region ?_
          refine f_stepP rfl rfl rfl (o_move rfl) ?_
          refine f_stepP rfl rfl rfl (o_move rfl) ?_
          refine f_done ?_
          refine f_tn (kh27 _ _ ?_)
          clear kh27
          refine f_block ?_
          refine f_loop (α := Nat × Seg) [0, 5, 7, 119] (fun ⟨a, m⟩ => [(120, .int .i64 (a : Int)), (12, .int .i64 ((sum2 (bagLen B) n a 0 : Nat) : Int)), (13, .int .i64 ((sum2 (bagOne B) n a 0 : Nat) : Int))]) (fun ⟨a, m⟩ => [m]) (fun ⟨a, m⟩ => a ≤ n ∧ NetRep B bn m) (fun ⟨a, m⟩ => n - a) (0, m) ?_ ?_ ?_ ?_
          · exact (by repeat (first | exact trivial | refine ⟨rfl, ?_⟩))
          · repeat (first | exact Sub.nil | refine Sub.pick ?_ | refine Sub.castO rfl ?_ | refine Sub.skip ?_)
          · exact ⟨by omega, hN⟩
          · rintro ⟨a, m⟩ ⟨han, hN⟩
            have hs0 := sum2_zero
            refine f_seq fun K28 kh28 => ?_
            refine f_region ?_
            refine f_stepP rfl rfl rfl (o_lss rfl rfl) ?_
            refine f_done ?_
            refine f_tn (kh28 _ _ ?_)
            clear kh28
            refine f_seq fun K29 kh29 => ?_
            refine f_cond rfl (fun c121 => ?_) (fun c121 => ?_)
            · skip
              refine f_skip ?_
              refine f_tn (kh29 _ _ ?_)
              clear kh29
              refine f_seq fun K30 kh30 => ?_
              refine f_block ?_
              refine f_seq fun K31 kh31 => ?_
              refine f_region ?_
              refine f_stepP rfl rfl rfl (o_move rfl) ?_
              refine f_stepP rfl rfl rfl (o_assign rfl) ?_
              refine f_done ?_
              refine f_tn (kh31 _ _ ?_)
              clear kh31
              refine f_seq fun K32 kh32 => ?_
              refine f_region ?_
              refine f_stepP rfl rfl rfl (o_move rfl) ?_
              refine f_stepP rfl rfl rfl (o_move rfl) ?_
              refine f_done ?_
              refine f_tn (kh32 _ _ ?_)
              clear kh32
              refine f_block ?_
              refine f_loop (α := Nat × Seg) [0, 5, 7, 14, 119, 120, 123] (fun ⟨b, m⟩ => [(124, .int .i64 (b : Int)), (12, .int .i64 ((sum2 (bagLen B) n a b : Nat) : Int)), (13, .int .i64 ((sum2 (bagOne B) n a b : Nat) : Int))]) (fun ⟨b, m⟩ => [m]) (fun ⟨b, m⟩ => b ≤ n ∧ NetRep B bn m) (fun ⟨b, m⟩ => n - b) (0, m) ?_ ?_ ?_ ?_
              · exact (by repeat (first | exact trivial | refine ⟨rfl, ?_⟩))
              · repeat (first | exact Sub.nil | refine Sub.pick ?_ | refine Sub.castO rfl ?_ | refine Sub.skip ?_)
              · exact ⟨by omega, hN⟩
              · rintro ⟨b, m⟩ ⟨hbn, hN⟩
                refine f_seq fun K33 kh33 => ?_
                refine f_region ?_
                refine f_stepP rfl rfl rfl (o_lss rfl rfl) ?_
                refine f_done ?_
                refine f_tn (kh33 _ _ ?_)
                clear kh33
                refine f_seq fun K34 kh34 => ?_
                refine f_cond rfl (fun c125 => ?_) (fun c125 => ?_)
                · skip
                  refine f_skip ?_
                  refine f_tn (kh34 _ _ ?_)
                  clear kh34
                  refine f_seq fun K35 kh35 => ?_
                  refine f_block ?_
                  refine f_seq fun K36 kh36 => ?_
                  refine f_region ?_
                  refine f_stepP rfl rfl rfl (o_move rfl) ?_
                  refine f_stepP rfl rfl rfl (o_assign rfl) ?_
                  refine f_done ?_
                  refine f_tn (kh36 _ _ ?_)
                  clear kh36
                  refine f_seq fun K37 kh37 => ?_
                  refine f_region ?_
                  refine f_stepP rfl rfl rfl (o_move rfl) ?_
                  refine f_stepP rfl rfl rfl (o_move rfl) ?_
                  refine f_stepP rfl rfl rfl (o_move rfl) ?_
                  refine f_step rfl rfl rfl (o_callM [m] _ Try.call20 rfl (Sub.pick (Sub.refl)) (fun w_ hp_ => Bag_spec B bn m ((a : Int), (b : Int)) w_ hN hp_.owns) ?_)
                  rintro _ _ ⟨s, ms, m2, rfl, rfl, hN2, hos⟩
                  rw [bag_told hN2.keyok] at hos
                  rw [bad_ab hBn (by omega) (by omega)]
                  obtain ⟨As, cs, rfl, _⟩ := hos.val
                  have hbl : sum2 (bagLen B) n a (b + 1) = sum2 (bagLen B) n a b + (B.bag ((a : Int), (b : Int))).length := sum2_step _ _ _ _
                  have hbo : sum2 (bagOne B) n a (b + 1) = sum2 (bagOne B) n a b + bagOne B ((a : Int), (b : Int)) := sum2_step _ _ _ _
                  have hle : sum2 (bagLen B) n a (b + 1) ≤ B.tot := by unfold NetM.tot; rw [hBn]; exact sum2_le _ (by omega) (by omega)
                  have hlo : sum2 (bagOne B) n a (b + 1) ≤ 4225 := Nat.le_trans (by rw [NetM.links_sum, hBn]; exact sum2_le _ (by omega) (by omega)) (links_len B hN2.lens.1)
                  dsimp only [List.cons_append, List.nil_append]
                  refine f_stepP rfl rfl rfl (o_move rfl) ?_
                  refine f_stepP rfl rfl rfl (o_extract rfl rfl) ?_
                  refine f_stepP rfl rfl rfl (o_extract rfl rfl) ?_
                  refine f_stepP rfl rfl rfl (o_assign rfl) ?_
                  refine f_stepP rfl rfl rfl (o_assign rfl) ?_
                  refine f_done ?_
                  refine f_tn (kh37 _ _ ?_)
                  clear kh37
                  refine f_seq fun K38 kh38 => ?_
                  refine f_seq fun K39 kh39 => ?_
                  refine f_region ?_
                  refine f_stepP rfl rfl rfl (o_move rfl) ?_
                  refine f_stepP rfl rfl rfl (o_eql rfl rfl) ?_
                  refine f_stepP rfl rfl rfl (o_move rfl) ?_
                  refine f_stepP rfl rfl rfl (o_move rfl) ?_
                  refine f_stepP rfl rfl rfl (o_neq rfl rfl) ?_
                  refine f_stepP rfl rfl rfl (o_neqB Try.underlying4 rfl rfl) ?_
                  refine f_done ?_
                  refine f_tn (kh39 _ _ ?_)
                  clear kh39
                  refine f_condN rfl (by by_cases h : a = b <;> simp [h] <;> omega) ?_
                  refine f_skip ?_
                  refine f_tn (kh38 _ _ ?_)
                  clear kh38
                  refine f_seq fun K40 kh40 => ?_
                  refine f_region ?_
                  refine f_stepP rfl rfl rfl (o_move rfl) ?_
                  refine f_stepP rfl rfl rfl (o_move rfl) ?_
                  refine f_stepP rfl rfl rfl (o_len sl32 rfl) ?_
                  refine f_stepP rfl rfl rfl (o_add rfl rfl _ (Eq.trans (wrap_i64 (by omega)) (show _ = ((sum2 (bagLen B) n a (b + 1) : Nat) : Int) by omega))) ?_
                  refine f_stepP rfl rfl rfl (o_assign rfl) ?_
                  refine f_done ?_
                  refine f_tn (kh40 _ _ ?_)
                  clear kh40
                  refine f_seq fun K41 kh41 => ?_
                  refine f_region ?_
                  refine f_stepP rfl rfl rfl (o_move rfl) ?_
                  refine f_stepP rfl rfl rfl (o_len sl32 rfl) ?_
                  refine f_stepP rfl rfl rfl (o_gtr rfl rfl) ?_
                  refine f_done ?_
                  refine f_tn (kh41 _ _ ?_)
                  clear kh41
                  refine f_cond rfl (fun c146 => ?_) (fun c146 => ?_)
                  · skip
                    have hone : bagOne B ((a : Int), (b : Int)) = 1 := by
                      unfold bagOne; rw [if_pos]; cases hb : B.bag ((a : Int), (b : Int)) with
                      | nil => rw [hb] at c146; simp at c146
                      | cons => rfl
                    refine f_region ?_
                    refine f_stepP rfl rfl rfl (o_move rfl) ?_
                    refine f_stepP rfl rfl rfl (o_add rfl rfl _ (Eq.trans (wrap_i64 (by omega)) (show _ = ((sum2 (bagOne B) n a (b + 1) : Nat) : Int) by omega))) ?_
                    refine f_stepP rfl rfl rfl (o_assign rfl) ?_
                    refine f_done ?_
                    refine f_bn ?_
                    refine f_tn (kh35 _ _ ?_)
                    clear kh35
                    refine f_region ?_
                    refine f_stepP rfl rfl rfl (o_add rfl rfl _ (wrap_i64 (by omega))) ?_
                    refine f_stepP rfl rfl rfl (o_move rfl) ?_
                    refine f_done ?_
                    refine f_tn (f_again (b + 1, m2) (by first | omega | (dsimp only; omega) | (simp; omega)) ⟨by omega, hN2⟩ ?_ ?_ ?_)
                    · exact (by repeat (first | exact trivial | refine ⟨rfl, ?_⟩))
                    · exact (by repeat (first | exact trivial | refine ⟨rfl, ?_⟩))
                    · repeat (first | exact Sub.nil | refine Sub.pick ?_ | refine Sub.castO rfl ?_ | refine Sub.skip ?_)
                  · skip
                    have hone : bagOne B ((a : Int), (b : Int)) = 0 := by
                      unfold bagOne; rw [if_neg]; cases hb : B.bag ((a : Int), (b : Int)) with
                      | nil => simp
                      | cons => rw [hb] at c146; simp at c146
                    refine f_reC 13 rfl (v := .int .i64 ((sum2 (bagOne B) n a (b + 1) : Nat) : Int)) (by rw [hbo, hone]; rfl) ?_
                    refine f_skip ?_
                    refine f_bn ?_
                    refine f_tn (kh35 _ _ ?_)
                    clear kh35
                    refine f_region ?_
                    refine f_stepP rfl rfl rfl (o_add rfl rfl _ (wrap_i64 (by omega))) ?_
                    refine f_stepP rfl rfl rfl (o_move rfl) ?_
                    refine f_done ?_
                    refine f_tn (f_again (b + 1, m2) (by first | omega | (dsimp only; omega) | (simp; omega)) ⟨by omega, hN2⟩ ?_ ?_ ?_)
                    · exact (by repeat (first | exact trivial | refine ⟨rfl, ?_⟩))
                    · exact (by repeat (first | exact trivial | refine ⟨rfl, ?_⟩))
                    · repeat (first | exact Sub.nil | refine Sub.pick ?_ | refine Sub.castO rfl ?_ | refine Sub.skip ?_)
                · skip
                  have hbn' : b = n := by omega
                  refine f_reC 12 rfl (v := .int .i64 ((sum2 (bagLen B) n (a + 1) 0 : Nat) : Int)) (by rw [sum2_row, hbn']) ?_
                  refine f_reC 13 rfl (v := .int .i64 ((sum2 (bagOne B) n (a + 1) 0 : Nat) : Int)) (by rw [sum2_row, hbn']) ?_
                  refine f_exit ?_
                  refine f_te ?_
                  clear kh34
                  refine f_te ?_
                  refine f_be ?_
                  refine f_bn ?_
                  refine f_tn (kh30 _ _ ?_)
                  clear kh30
                  refine f_region ?_
                  refine f_stepP rfl rfl rfl (o_add rfl rfl _ (wrap_i64 (by omega))) ?_
                  refine f_stepP rfl rfl rfl (o_move rfl) ?_
                  refine f_done ?_
                  refine f_tn (f_again (a + 1, m) (by first | omega | (dsimp only; omega) | (simp; omega)) ⟨by omega, hN⟩ ?_ ?_ ?_)
                  · exact (by repeat (first | exact trivial | refine ⟨rfl, ?_⟩))
                  · exact (by repeat (first | exact trivial | refine ⟨rfl, ?_⟩))
                  · repeat (first | exact Sub.nil | refine Sub.pick ?_ | refine Sub.castO rfl ?_ | refine Sub.skip ?_)
            · skip
              have han' : a = n := by omega
              have hsum : sum2 (bagLen B) n a 0 = B.tot := by rw [han']; unfold NetM.tot; rw [hBn]; exact sum2_all _ _
              have hln : sum2 (bagOne B) n a 0 = B.links.length := by rw [han', NetM.links_sum, hBn]; exact sum2_all _ _
              refine f_exit ?_
              refine f_te ?_
              clear kh29
              refine f_te ?_
              refine f_be ?_
              refine f_tn (kh26 _ _ ?_)
              clear kh26
              refine f_seq fun K42 kh42 => ?_
              refine f_region ?_
              refine f_stepP rfl rfl rfl (o_move rfl) ?_
              refine f_stepP rfl rfl rfl (o_move rfl) ?_
              refine f_stepP rfl rfl rfl (o_eql rfl rfl) ?_
              refine f_stepP rfl rfl rfl (o_move rfl) ?_
              refine f_splitL 154 rfl (fun g154 => ?_) (fun g154 => ?_)
              · skip
                refine f_stepPY rfl rfl rfl rfl rfl (o_move rfl) ?_
                refine f_stepPY rfl rfl rfl rfl rfl (o_move rfl) ?_
                refine f_stepY rfl rfl rfl rfl rfl (o_callM [m] _ Try.call21 rfl (Sub.pick (Sub.refl)) (fun w_ hp_ => Links_spec B bn m w_ hN hp_.owns) ?_)
                rintro vl _ ⟨ms, m2, rfl, hN2, hol⟩
                obtain ⟨Al, cl, rfl, _⟩ := hol.val
                dsimp only [List.cons_append, List.nil_append]
                refine f_stepPY rfl rfl rfl rfl rfl (o_len sl48 rfl) ?_
                refine f_stepPY rfl rfl rfl rfl rfl (o_eql rfl rfl) ?_
                refine f_stepP rfl rfl rfl (o_pickT rfl rfl) ?_
                refine f_stepP rfl rfl rfl (o_assign rfl) ?_
                refine f_done ?_
                refine f_tn (kh42 _ _ ?_)
                clear kh42
                refine f_ret ?_
                exact f_fin1 [] Try.results6 rfl Sub.nil ⟨by rw [decide_eq_true (by omega)], rfl⟩
              · skip
                refine f_stepN rfl rfl rfl rfl rfl rfl ?_
                refine f_stepN rfl rfl rfl rfl rfl rfl ?_
                refine f_stepN rfl rfl rfl rfl rfl rfl ?_
                refine f_stepN rfl rfl rfl rfl rfl rfl ?_
                refine f_stepN rfl rfl rfl rfl rfl rfl ?_
                refine f_stepP rfl rfl rfl (o_pickF rfl rfl) ?_
                refine f_stepP rfl rfl rfl (o_assign rfl) ?_
                refine f_done ?_
                refine f_tn (kh42 _ _ ?_)
                clear kh42
                refine f_ret ?_
                omega
      · skip
        refine f_stepN rfl rfl rfl rfl rfl rfl ?_
        refine f_stepN rfl rfl rfl rfl rfl rfl ?_
        refine f_stepP rfl rfl rfl (o_pickF rfl rfl) ?_
        refine f_done ?_
        refine f_tn (kh11 _ _ ?_)
        clear kh11
        refine f_condF rfl ?_
        refine f_exit ?_
        refine f_te ?_
        clear kh10
        refine f_te ?_
        refine f_be ?_
        refine f_tn (kh8 _ _ ?_)
        clear kh8
        refine f_seq fun K43 kh43 => ?_
        refine f_region ?_
        refine f_stepP rfl rfl rfl (o_assign rfl) ?_
        refine f_stepP rfl rfl rfl (o_assign rfl) ?_
        refine f_done ?_
        refine f_tn (kh43 _ _ ?_)
        clear kh43
        refine f_seq fun K44 kh44 => ?_
        refine f_seq fun K45 kh45 => ?_
        refine f_region ?_
        refine f_stepP rfl rfl rfl (o_move rfl) ?_
        refine f_stepP rfl rfl rfl (o_move rfl) ?_
        refine f_done ?_
        refine f_tn (kh45 _ _ ?_)
        clear kh45
        refine f_block ?_
        refine f_loop (α := Nat × Seg) [0, 5, 7, 119] (fun ⟨a, m⟩ => [(120, .int .i64 (a : Int)), (12, .int .i64 ((sum2 (bagLen B) n a 0 : Nat) : Int)), (13, .int .i64 ((sum2 (bagOne B) n a 0 : Nat) : Int))]) (fun ⟨a, m⟩ => [m]) (fun ⟨a, m⟩ => a ≤ n ∧ NetRep B bn m) (fun ⟨a, m⟩ => n - a) (0, m) ?_ ?_ ?_ ?_
        · exact (by repeat (first | exact trivial | refine ⟨rfl, ?_⟩))
        · repeat (first | exact Sub.nil | refine Sub.pick ?_ | refine Sub.castO rfl ?_ | refine Sub.skip ?_)
        · exact ⟨by omega, hN⟩
        · rintro ⟨a, m⟩ ⟨han, hN⟩
          have hs0 := sum2_zero
          refine f_seq fun K46 kh46 => ?_
          refine f_region ?_
          refine f_stepP rfl rfl rfl (o_lss rfl rfl) ?_
          refine f_done ?_
          refine f_tn (kh46 _ _ ?_)
          clear kh46
          refine f_seq fun K47 kh47 => ?_
          refine f_cond rfl (fun c121 => ?_) (fun c121 => ?_)
          · skip
            refine f_skip ?_
            refine f_tn (kh47 _ _ ?_)
            clear kh47
            refine f_seq fun K48 kh48 => ?_
            refine f_block ?_
            refine f_seq fun K49 kh49 => ?_
            refine f_region ?_
            refine f_stepP rfl rfl rfl (o_move rfl) ?_
            refine f_stepP rfl rfl rfl (o_assign rfl) ?_
            refine f_done ?_
            refine f_tn (kh49 _ _ ?_)
            clear kh49
            refine f_seq fun K50 kh50 => ?_
            refine f_region ?_
            refine f_stepP rfl rfl rfl (o_move rfl) ?_
            refine f_stepP rfl rfl rfl (o_move rfl) ?_
            refine f_done ?_
            refine f_tn (kh50 _ _ ?_)
            clear kh50
            refine f_block ?_
            refine f_loop (α := Nat × Seg) [0, 5, 7, 14, 119, 120, 123] (fun ⟨b, m⟩ => [(124, .int .i64 (b : Int)), (12, .int .i64 ((sum2 (bagLen B) n a b : Nat) : Int)), (13, .int .i64 ((sum2 (bagOne B) n a b : Nat) : Int))]) (fun ⟨b, m⟩ => [m]) (fun ⟨b, m⟩ => b ≤ n ∧ NetRep B bn m) (fun ⟨b, m⟩ => n - b) (0, m) ?_ ?_ ?_ ?_
            · exact (by repeat (first | exact trivial | refine ⟨rfl, ?_⟩))
            · repeat (first | exact Sub.nil | refine Sub.pick ?_ | refine Sub.castO rfl ?_ | refine Sub.skip ?_)
            · exact ⟨by omega, hN⟩
            · rintro ⟨b, m⟩ ⟨hbn, hN⟩
              refine f_seq fun K51 kh51 => ?_
              refine f_region ?_
              refine f_stepP rfl rfl rfl (o_lss rfl rfl) ?_
              refine f_done ?_
              refine f_tn (kh51 _ _ ?_)
              clear kh51
              refine f_seq fun K52 kh52 => ?_
              refine f_cond rfl (fun c125 => ?_) (fun c125 => ?_)
              · skip
                refine f_skip ?_
                refine f_tn (kh52 _ _ ?_)
                clear kh52
                refine f_seq fun K53 kh53 => ?_
                refine f_block ?_
                refine f_seq fun K54 kh54 => ?_
                refine f_region ?_
                refine f_stepP rfl rfl rfl (o_move rfl) ?_
                refine f_stepP rfl rfl rfl (o_assign rfl) ?_
                refine f_done ?_
                refine f_tn (kh54 _ _ ?_)
                clear kh54
                refine f_seq fun K55 kh55 => ?_
                refine f_region ?_
                refine f_stepP rfl rfl rfl (o_move rfl) ?_
                refine f_stepP rfl rfl rfl (o_move rfl) ?_
                refine f_stepP rfl rfl rfl (o_move rfl) ?_
                refine f_step rfl rfl rfl (o_callM [m] _ Try.call20 rfl (Sub.pick (Sub.refl)) (fun w_ hp_ => Bag_spec B bn m ((a : Int), (b : Int)) w_ hN hp_.owns) ?_)
                rintro _ _ ⟨s, ms, m2, rfl, rfl, hN2, hos⟩
                rw [bag_told hN2.keyok] at hos
                rw [bad_ab hBn (by omega) (by omega)]
                obtain ⟨As, cs, rfl, _⟩ := hos.val
                have hbl : sum2 (bagLen B) n a (b + 1) = sum2 (bagLen B) n a b + (B.bag ((a : Int), (b : Int))).length := sum2_step _ _ _ _
                have hbo : sum2 (bagOne B) n a (b + 1) = sum2 (bagOne B) n a b + bagOne B ((a : Int), (b : Int)) := sum2_step _ _ _ _
                have hle : sum2 (bagLen B) n a (b + 1) ≤ B.tot := by unfold NetM.tot; rw [hBn]; exact sum2_le _ (by omega) (by omega)
                have hlo : sum2 (bagOne B) n a (b + 1) ≤ 4225 := Nat.le_trans (by rw [NetM.links_sum, hBn]; exact sum2_le _ (by omega) (by omega)) (links_len B hN2.lens.1)
                dsimp only [List.cons_append, List.nil_append]
                refine f_stepP rfl rfl rfl (o_move rfl) ?_
                refine f_stepP rfl rfl rfl (o_extract rfl rfl) ?_
                refine f_stepP rfl rfl rfl (o_extract rfl rfl) ?_
                refine f_stepP rfl rfl rfl (o_assign rfl) ?_
                refine f_stepP rfl rfl rfl (o_assign rfl) ?_
                refine f_done ?_
                refine f_tn (kh55 _ _ ?_)
                clear kh55
                refine f_seq fun K56 kh56 => ?_
                refine f_seq fun K57 kh57 => ?_
                refine f_region ?_
                refine f_stepP rfl rfl rfl (o_move rfl) ?_
                refine f_stepP rfl rfl rfl (o_eql rfl rfl) ?_
                refine f_stepP rfl rfl rfl (o_move rfl) ?_
                refine f_stepP rfl rfl rfl (o_move rfl) ?_
                refine f_stepP rfl rfl rfl (o_neq rfl rfl) ?_
                refine f_stepP rfl rfl rfl (o_neqB Try.underlying4 rfl rfl) ?_
                refine f_done ?_
                refine f_tn (kh57 _ _ ?_)
                clear kh57
                refine f_condN rfl (by by_cases h : a = b <;> simp [h] <;> omega) ?_
                refine f_skip ?_
                refine f_tn (kh56 _ _ ?_)
                clear kh56
                refine f_seq fun K58 kh58 => ?_
                refine f_region ?_
                refine f_stepP rfl rfl rfl (o_move rfl) ?_
                refine f_stepP rfl rfl rfl (o_move rfl) ?_
                refine f_stepP rfl rfl rfl (o_len sl32 rfl) ?_
                refine f_stepP rfl rfl rfl (o_add rfl rfl _ (Eq.trans (wrap_i64 (by omega)) (show _ = ((sum2 (bagLen B) n a (b + 1) : Nat) : Int) by omega))) ?_
                refine f_stepP rfl rfl rfl (o_assign rfl) ?_
                refine f_done ?_
                refine f_tn (kh58 _ _ ?_)
                clear kh58
                refine f_seq fun K59 kh59 => ?_
                refine f_region ?_
                refine f_stepP rfl rfl rfl (o_move rfl) ?_
                refine f_stepP rfl rfl rfl (o_len sl32 rfl) ?_
                refine f_stepP rfl rfl rfl (o_gtr rfl rfl) ?_
                refine f_done ?_
                refine f_tn (kh59 _ _ ?_)
                clear kh59
                refine f_cond rfl (fun c146 => ?_) (fun c146 => ?_)
                · skip
                  have hone : bagOne B ((a : Int), (b : Int)) = 1 := by
                    unfold bagOne; rw [if_pos]; cases hb : B.bag ((a : Int), (b : Int)) with
                    | nil => rw [hb] at c146; simp at c146
                    | cons => rfl
                  refine f_region ?_
                  refine f_stepP rfl rfl rfl (o_move rfl) ?_
                  refine f_stepP rfl rfl rfl (o_add rfl rfl _ (Eq.trans (wrap_i64 (by omega)) (show _ = ((sum2 (bagOne B) n a (b + 1) : Nat) : Int) by omega))) ?_
                  refine f_stepP rfl rfl rfl (o_assign rfl) ?_
                  refine f_done ?_
                  refine f_bn ?_
                  refine f_tn (kh53 _ _ ?_)
                  clear kh53
                  refine f_region ?_
                  refine f_stepP rfl rfl rfl (o_add rfl rfl _ (wrap_i64 (by omega))) ?_
                  refine f_stepP rfl rfl rfl (o_move rfl) ?_
                  refine f_done ?_
                  refine f_tn (f_again (b + 1, m2) (by first | omega | (dsimp only; omega) | (simp; omega)) ⟨by omega, hN2⟩ ?_ ?_ ?_)
                  · exact (by repeat (first | exact trivial | refine ⟨rfl, ?_⟩))
                  · exact (by repeat (first | exact trivial | refine ⟨rfl, ?_⟩))
                  · repeat (first | exact Sub.nil | refine Sub.pick ?_ | refine Sub.castO rfl ?_ | refine Sub.skip ?_)
                · skip
                  have hone : bagOne B ((a : Int), (b : Int)) = 0 := by
                    unfold bagOne; rw [if_neg]; cases hb : B.bag ((a : Int), (b : Int)) with
                    | nil => simp
                    | cons => rw [hb] at c146; simp at c146
                  refine f_reC 13 rfl (v := .int .i64 ((sum2 (bagOne B) n a (b + 1) : Nat) : Int)) (by rw [hbo, hone]; rfl) ?_
                  refine f_skip ?_
                  refine f_bn ?_
                  refine f_tn (kh53 _ _ ?_)
                  clear kh53
                  refine f_region ?_
                  refine f_stepP rfl rfl rfl (o_add rfl rfl _ (wrap_i64 (by omega))) ?_
                  refine f_stepP rfl rfl rfl (o_move rfl) ?_
                  refine f_done ?_
                  refine f_tn (f_again (b + 1, m2) (by first | omega | (dsimp only; omega) | (simp; omega)) ⟨by omega, hN2⟩ ?_ ?_ ?_)
                  · exact (by repeat (first | exact trivial | refine ⟨rfl, ?_⟩))
                  · exact (by repeat (first | exact trivial | refine ⟨rfl, ?_⟩))
                  · repeat (first | exact Sub.nil | refine Sub.pick ?_ | refine Sub.castO rfl ?_ | refine Sub.skip ?_)
              · skip
                have hbn' : b = n := by omega
                refine f_reC 12 rfl (v := .int .i64 ((sum2 (bagLen B) n (a + 1) 0 : Nat) : Int)) (by rw [sum2_row, hbn']) ?_
                refine f_reC 13 rfl (v := .int .i64 ((sum2 (bagOne B) n (a + 1) 0 : Nat) : Int)) (by rw [sum2_row, hbn']) ?_
                refine f_exit ?_
                refine f_te ?_
                clear kh52
                refine f_te ?_
                refine f_be ?_
                refine f_bn ?_
                refine f_tn (kh48 _ _ ?_)
                clear kh48
                refine f_region ?_
                refine f_stepP rfl rfl rfl (o_add rfl rfl _ (wrap_i64 (by omega))) ?_
                refine f_stepP rfl rfl rfl (o_move rfl) ?_
                refine f_done ?_
                refine f_tn (f_again (a + 1, m) (by first | omega | (dsimp only; omega) | (simp; omega)) ⟨by omega, hN⟩ ?_ ?_ ?_)
                · exact (by repeat (first | exact trivial | refine ⟨rfl, ?_⟩))
                · exact (by repeat (first | exact trivial | refine ⟨rfl, ?_⟩))
                · repeat (first | exact Sub.nil | refine Sub.pick ?_ | refine Sub.castO rfl ?_ | refine Sub.skip ?_)
          · skip
            have han' : a = n := by omega
            have hsum : sum2 (bagLen B) n a 0 = B.tot := by rw [han']; unfold NetM.tot; rw [hBn]; exact sum2_all _ _
            have hln : sum2 (bagOne B) n a 0 = B.links.length := by rw [han', NetM.links_sum, hBn]; exact sum2_all _ _
            refine f_exit ?_
            refine f_te ?_
            clear kh47
            refine f_te ?_
            refine f_be ?_
            refine f_tn (kh44 _ _ ?_)
            clear kh44
            refine f_seq fun K60 kh60 => ?_
            refine f_region ?_
            refine f_stepP rfl rfl rfl (o_move rfl) ?_
            refine f_stepP rfl rfl rfl (o_move rfl) ?_
            refine f_stepP rfl rfl rfl (o_eql rfl rfl) ?_
            refine f_stepP rfl rfl rfl (o_move rfl) ?_
            refine f_splitL 154 rfl (fun g154 => ?_) (fun g154 => ?_)
            · skip
              refine f_stepPY rfl rfl rfl rfl rfl (o_move rfl) ?_
              refine f_stepPY rfl rfl rfl rfl rfl (o_move rfl) ?_
              refine f_stepY rfl rfl rfl rfl rfl (o_callM [m] _ Try.call21 rfl (Sub.pick (Sub.refl)) (fun w_ hp_ => Links_spec B bn m w_ hN hp_.owns) ?_)
              rintro vl _ ⟨ms, m2, rfl, hN2, hol⟩
              obtain ⟨Al, cl, rfl, _⟩ := hol.val
              dsimp only [List.cons_append, List.nil_append]
              refine f_stepPY rfl rfl rfl rfl rfl (o_len sl48 rfl) ?_
              refine f_stepPY rfl rfl rfl rfl rfl (o_eql rfl rfl) ?_
              refine f_stepP rfl rfl rfl (o_pickT rfl rfl) ?_
              refine f_stepP rfl rfl rfl (o_assign rfl) ?_
              refine f_done ?_
              refine f_tn (kh60 _ _ ?_)
              clear kh60
              refine f_ret ?_
              exact f_fin1 [] Try.results6 rfl Sub.nil ⟨by rw [decide_eq_true (by omega)], rfl⟩
            · skip
              refine f_stepN rfl rfl rfl rfl rfl rfl ?_
              refine f_stepN rfl rfl rfl rfl rfl rfl ?_
              refine f_stepN rfl rfl rfl rfl rfl rfl ?_
              refine f_stepN rfl rfl rfl rfl rfl rfl ?_
              refine f_stepN rfl rfl rfl rfl rfl rfl ?_
              refine f_stepP rfl rfl rfl (o_pickF rfl rfl) ?_
              refine f_stepP rfl rfl rfl (o_assign rfl) ?_
              refine f_done ?_
              refine f_tn (kh60 _ _ ?_)
              clear kh60
              refine f_ret ?_
              omega

end Go.Proofs.Ytbkneamjpiiepaa
