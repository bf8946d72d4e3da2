/- flyoverlaw03.GraphEnds answers true. -/
import Derived.Test.YthbkeoejbendnaaFWorks3
namespace Go.Proofs.Ythbkeoejbendnaa
open Go Go.RowKit Fly
set_option linter.unusedVariables false
set_option linter.unusedSimpArgs false


abbrev cS (l : List Arc) (k : Nat) : Nat := l.countP (fun x => decide (0 ≤ x.src ∧ x.src < (k : Int)))
abbrev cD (l : List Arc) (k : Nat) : Nat := l.countP (fun x => decide (0 ≤ x.dst ∧ x.dst < (k : Int)))

set_option maxRecDepth 100000 in
theorem GraphEnds_spec (N : Int) (A : Option Addr) (l : List Arc) (cap : Nat) (w : World) (hr : Ro (Fr w []) w A (l.flatMap arcCs)) (hl : l.length ≤ 9223372036854775807) (hN : I64 N) (hok : ∀ x ∈ l, ArcOk x) :
    Meets Try.prog 3 [.agg #[.int .i64 N, .slice A l.length cap]] w [] (fun u m => u = .bool true ∧ m = []) := by
  refine f_enter Try.func3 rfl Try.ntmps3 rfl Owns.nil ?_
  refine f_seq fun K1 kh1 => ?_
  refine f_region ?_
  refine f_step rfl rfl rfl (o_box rfl rfl fun b1 => ?_)
  refine f_stepP rfl rfl rfl (o_assign rfl) ?_
  refine f_done ?_
  refine f_tn (kh1 _ _ ?_)
  clear kh1
  refine f_seq fun K2 kh2 => ?_
  refine f_seq fun K3 kh3 => ?_
  refine f_region ?_
  refine f_step rfl rfl rfl (o_call Try.call9 rfl (fun w_ hp_ => works_spec w_) ?_)
  rintro _ _ ⟨rfl, rfl⟩
  dsimp only [List.cons_append, List.nil_append]
  refine f_stepP rfl rfl rfl (o_not rfl) ?_
  refine f_done ?_
  refine f_tn (kh3 _ _ ?_)
  clear kh3
  refine f_condF rfl ?_
  refine f_skip ?_
  refine f_tn (kh2 _ _ ?_)
  clear kh2
  refine f_seq fun K4 kh4 => ?_
  refine f_seq fun K5 kh5 => ?_
  refine f_region ?_
  refine f_stepP rfl rfl rfl (o_loadA (vs := [_, _]) Try.isAgg24 Try.sizeOf24 rfl rfl ⟨(rdA rfl), (rdA rfl), trivial⟩) ?_
  refine f_step rfl rfl rfl (o_call Try.call10 rfl (fun w_ hp_ => Check_spec N A l cap w_ (hr.up0 hp_) hl hN hok) ?_)
  rintro _ _ ⟨rfl, rfl⟩
  dsimp only [List.cons_append, List.nil_append]
  refine f_stepP rfl rfl rfl (o_move rfl) ?_
  refine f_stepP rfl rfl rfl (o_extract rfl rfl) ?_
  refine f_stepP rfl rfl rfl (o_extract rfl rfl) ?_
  refine f_stepP rfl rfl rfl (o_assign rfl) ?_
  refine f_stepP rfl rfl rfl (o_assign rfl) ?_
  refine f_done ?_
  refine f_tn (kh5 _ _ ?_)
  clear kh5
  refine f_seq fun K6 kh6 => ?_
  refine f_region ?_
  refine f_stepP rfl rfl rfl (o_move rfl) ?_
  refine f_stepP rfl rfl rfl (o_neq rfl rfl) ?_
  refine f_stepP rfl rfl rfl (o_move rfl) ?_
  refine f_splitL 25 rfl (fun g25 => ?_) (fun g25 => ?_)
  · skip
    refine f_stepN rfl rfl rfl rfl rfl rfl ?_
    refine f_stepN rfl rfl rfl rfl rfl rfl ?_
    refine f_stepN rfl rfl rfl rfl rfl rfl ?_
    refine f_stepP rfl rfl rfl (o_pickT rfl rfl) ?_
    refine f_done ?_
    refine f_tn (kh6 _ _ ?_)
    clear kh6
    refine f_condT rfl ?_
    refine f_seq fun K7 kh7 => ?_
    refine f_region ?_
    refine f_stepP rfl rfl rfl (o_move rfl) ?_
    refine f_stepP rfl rfl rfl (o_eql rfl rfl) ?_
    refine f_stepP rfl rfl rfl (o_move rfl) ?_
    refine f_falseL 32 rfl (g25) ?_
    refine f_stepPY rfl rfl rfl rfl rfl (o_move rfl) ?_
    refine f_stepPY rfl rfl rfl rfl rfl (o_neq rfl rfl) ?_
    refine f_stepPY rfl rfl rfl rfl rfl (o_move rfl) ?_
    refine f_trueL 35 rfl (g25) ?_
    refine f_stepY rfl rfl rfl rfl rfl (o_call Try.call9 rfl (fun w_ hp_ => works_spec w_) ?_)
    rintro _ _ ⟨rfl, rfl⟩
    dsimp only [List.cons_append, List.nil_append]
    refine f_stepPY rfl rfl rfl rfl rfl (o_pickT rfl rfl) ?_
    refine f_stepP rfl rfl rfl (o_pickF rfl rfl) ?_
    refine f_stepP rfl rfl rfl (o_assign rfl) ?_
    refine f_done ?_
    refine f_tn (kh7 _ _ ?_)
    clear kh7
    refine f_ret ?_
    refine f_tr ?_
    exact f_fin1 [] Try.results3 rfl Sub.nil ⟨rfl, rfl⟩
  · skip
    refine f_stepPY rfl rfl rfl rfl rfl (o_field fa24_0 rfl) ?_
    refine f_stepPY rfl rfl rfl rfl rfl (o_load Try.isAgg3 rfl (rdA rfl)) ?_
    refine f_stepPY rfl rfl rfl rfl rfl (o_gtr rfl rfl) ?_
    refine f_stepP rfl rfl rfl (o_pickF rfl rfl) ?_
    refine f_done ?_
    refine f_tn (kh6 _ _ ?_)
    clear kh6
    refine f_cond rfl (fun c29 => ?_) (fun c29 => ?_)
    · skip
      refine f_seq fun K8 kh8 => ?_
      refine f_region ?_
      refine f_stepP rfl rfl rfl (o_move rfl) ?_
      refine f_stepP rfl rfl rfl (o_eql rfl rfl) ?_
      refine f_stepP rfl rfl rfl (o_move rfl) ?_
      refine f_trueL 32 rfl (by simpa using g25) ?_
      refine f_stepN rfl rfl rfl rfl rfl rfl ?_
      refine f_stepN rfl rfl rfl rfl rfl rfl ?_
      refine f_stepN rfl rfl rfl rfl rfl rfl ?_
      refine f_stepU rfl rfl rfl rfl rfl ?_
      refine f_stepN rfl rfl rfl rfl rfl rfl ?_
      refine f_stepP rfl rfl rfl (o_pickT rfl rfl) ?_
      refine f_stepP rfl rfl rfl (o_assign rfl) ?_
      refine f_done ?_
      refine f_tn (kh8 _ _ ?_)
      clear kh8
      refine f_ret ?_
      refine f_tr ?_
      exact f_fin1 [] Try.results3 rfl Sub.nil ⟨rfl, rfl⟩
    · skip
      have hc0 : (gcheck N l).2 = 0 := by simpa using g25
      obtain ⟨hN1, hN2, hlen, hgood⟩ := gcheck_zero hc0
      obtain ⟨n, rfl⟩ : ∃ n : Nat, N = n := ⟨N.toNat, by omega⟩
      refine f_skip ?_
      refine f_tn (kh4 _ _ ?_)
      clear kh4
      refine f_seq fun K9 kh9 => ?_
      refine f_region ?_
      refine f_stepP rfl rfl rfl (o_assign rfl) ?_
      refine f_stepP rfl rfl rfl (o_assign rfl) ?_
      refine f_done ?_
      refine f_tn (kh9 _ _ ?_)
      clear kh9
      refine f_seq fun K10 kh10 => ?_
      refine f_seq fun K11 kh11 => ?_
      refine f_region ?_
      refine f_stepP rfl rfl rfl (o_assign rfl) ?_
      refine f_done ?_
      refine f_tn (kh11 _ _ ?_)
      clear kh11
      refine f_block ?_
      refine f_loopK (α := Nat) [1] (fun v => [(7, .int .i64 (v : Int)), (5, .int .i64 (cS l v : Int)), (6, .int .i64 (cD l v : Int))]) (fun v => v ≤ n) (fun v => n - v) (0) ?_ ?_ ?_
      · exact ⟨rfl, by rw [show cS l 0 = 0 from count_none (·.src) l]; rfl, by rw [show cD l 0 = 0 from count_none (·.dst) l]; rfl, trivial⟩
      · exact Nat.zero_le _
      · intro v hvn
        have hcs : cS l v ≤ l.length := List.countP_le_length
        have hcd : cD l v ≤ l.length := List.countP_le_length
        have us : cS l v + l.countP (fun x : Arc => decide (x.src = (v : Int))) = cS l (v + 1) := count_upto (·.src) l v
        have ud : cD l v + l.countP (fun x : Arc => decide (x.dst = (v : Int))) = cD l (v + 1) := count_upto (·.dst) l v
        refine f_seq fun K12 kh12 => ?_
        refine f_seq fun K13 kh13 => ?_
        refine f_region ?_
        refine f_stepP rfl rfl rfl (o_move rfl) ?_
        refine f_stepP rfl rfl rfl (o_field fa24_0 rfl) ?_
        refine f_stepP rfl rfl rfl (o_load Try.isAgg3 rfl (rdA rfl)) ?_
        refine f_stepP rfl rfl rfl (o_lss rfl rfl) ?_
        refine f_done ?_
        refine f_tn (kh13 _ _ ?_)
        clear kh13
        refine f_cond rfl (fun c42 => ?_) (fun c42 => ?_)
        · skip
          refine f_skip ?_
          refine f_tn (kh12 _ _ ?_)
          clear kh12
          refine f_seq fun K14 kh14 => ?_
          refine f_block ?_
          refine f_seq fun K15 kh15 => ?_
          refine f_region ?_
          have hz : glooked n l v = 0 := glooked_ok hc0 (by omega) (by omega)
          refine f_stepP rfl rfl rfl (o_loadA (vs := [_, _]) Try.isAgg24 Try.sizeOf24 rfl rfl ⟨(rdA rfl), (rdA rfl), trivial⟩) ?_
          refine f_stepP rfl rfl rfl (o_move rfl) ?_
          refine f_step rfl rfl rfl (o_call Try.call11 rfl (fun w_ hp_ => Out_spec n A l cap v w_ (hr.up0 hp_) hl hN hok) ?_)
          rintro _ _ ⟨s, ms, rfl, rfl, hown⟩
          rw [hz]
          rw [gends, if_pos hz] at hown
          have hlen1 := idxs_length (fun x : Arc => decide (x.src = (v : Int))) l
          have hcl1 := List.countP_le_length (p := fun x : Arc => decide (x.src = (v : Int))) (l := l)
          dsimp only [List.cons_append, List.nil_append]
          refine f_stepP rfl rfl rfl (o_move rfl) ?_
          refine f_stepP rfl rfl rfl (o_extract rfl rfl) ?_
          refine f_stepP rfl rfl rfl (o_extract rfl rfl) ?_
          refine f_stepP rfl rfl rfl (o_assign rfl) ?_
          refine f_stepP rfl rfl rfl (o_assign rfl) ?_
          refine f_done ?_
          refine f_tn (kh15 _ _ ?_)
          clear kh15
          refine f_seq fun K16 kh16 => ?_
          refine f_region ?_
          refine f_stepP rfl rfl rfl (o_loadA (vs := [_, _]) Try.isAgg24 Try.sizeOf24 rfl rfl ⟨(rdA rfl), (rdA rfl), trivial⟩) ?_
          refine f_stepP rfl rfl rfl (o_move rfl) ?_
          refine f_step rfl rfl rfl (o_call Try.call12 rfl (fun w_ hp_ => In_spec n A l cap v w_ (hr.up0 hp_) hl hN hok) ?_)
          rintro _ _ ⟨s2, ms2, rfl, rfl, hown2⟩
          rw [hz]
          rw [gends, if_pos hz] at hown2
          obtain ⟨As, cps, rfl, hcps⟩ := hown.val
          obtain ⟨As2, cps2, rfl, hcps2⟩ := hown2.val
          have hlen2 := idxs_length (fun x : Arc => decide (x.dst = (v : Int))) l
          have hcl2 := List.countP_le_length (p := fun x : Arc => decide (x.dst = (v : Int))) (l := l)
          dsimp only [List.cons_append, List.nil_append]
          refine f_stepP rfl rfl rfl (o_move rfl) ?_
          refine f_stepP rfl rfl rfl (o_extract rfl rfl) ?_
          refine f_stepP rfl rfl rfl (o_extract rfl rfl) ?_
          refine f_stepP rfl rfl rfl (o_assign rfl) ?_
          refine f_stepP rfl rfl rfl (o_assign rfl) ?_
          refine f_done ?_
          refine f_tn (kh16 _ _ ?_)
          clear kh16
          refine f_seq fun K17 kh17 => ?_
          refine f_seq fun K18 kh18 => ?_
          refine f_region ?_
          refine f_stepP rfl rfl rfl (o_move rfl) ?_
          refine f_stepP rfl rfl rfl (o_neq rfl rfl) ?_
          refine f_stepP rfl rfl rfl (o_move rfl) ?_
          refine f_falseL 59 rfl (by simp) ?_
          refine f_stepPY rfl rfl rfl rfl rfl (o_move rfl) ?_
          refine f_stepPY rfl rfl rfl rfl rfl (o_neq rfl rfl) ?_
          refine f_stepP rfl rfl rfl (o_pickF rfl rfl) ?_
          refine f_done ?_
          refine f_tn (kh18 _ _ ?_)
          clear kh18
          refine f_condN rfl (by simp) ?_
          refine f_skip ?_
          refine f_tn (kh17 _ _ ?_)
          clear kh17
          refine f_seq fun K19 kh19 => ?_
          refine f_seq fun K20 kh20 => ?_
          refine f_region ?_
          refine f_stepP rfl rfl rfl (o_move rfl) ?_
          refine f_stepP rfl rfl rfl (o_len sl29 rfl) ?_
          refine f_stepP rfl rfl rfl (o_move rfl) ?_
          refine f_done ?_
          refine f_tn (kh20 _ _ ?_)
          clear kh20
          refine f_block ?_
          refine f_loopK (α := Nat) [1, 5, 6, 7, 8, 10, 63, 64] (fun j => [(65, .int .i64 (j : Int))]) (fun j => j ≤ (idxs (fun x : Arc => decide (x.src = (v : Int))) l).length) (fun j => (idxs (fun x : Arc => decide (x.src = (v : Int))) l).length - j) (0) ?_ ?_ ?_
          · exact (by repeat (first | exact trivial | refine ⟨rfl, ?_⟩))
          · omega
          · intro j hjl
            refine f_seq fun K21 kh21 => ?_
            refine f_region ?_
            refine f_stepP rfl rfl rfl (o_lss rfl rfl) ?_
            refine f_done ?_
            refine f_tn (kh21 _ _ ?_)
            clear kh21
            refine f_seq fun K22 kh22 => ?_
            refine f_cond rfl (fun c66 => ?_) (fun c66 => ?_)
            · skip
              refine f_skip ?_
              refine f_tn (kh22 _ _ ?_)
              clear kh22
              refine f_seq fun K23 kh23 => ?_
              refine f_block ?_
              refine f_seq fun K24 kh24 => ?_
              refine f_region ?_
              have hj : j < (idxs (fun x : Arc => decide (x.src = (v : Int))) l).length := by omega
              obtain ⟨bo, so, rfl, rfl⟩ := hown.at_ (by omega)
              obtain ⟨i, hi, ei, hpi⟩ := idxs_mem (List.getElem_mem hj)
              have hpv : l[i].src = (v : Int) := by simpa using hpi
              obtain ⟨bl, off, rfl, hS, hc⟩ := hr (flat_ne arcCs arcCs_len (by omega) hi)
              refine f_stepP rfl rfl rfl (o_idx sl29 rfl rfl (j) ⟨by omega, by omega, by first | omega | (simp; done) | (simp; omega)⟩) ?_
              refine f_stepP rfl rfl rfl (o_load (v := .int .i64 (i : Int)) Try.isAgg3 rfl (rdA (app_get (by rw [ints_get hj, ei])))) ?_
              refine f_stepP rfl rfl rfl (o_assign rfl) ?_
              refine f_done ?_
              refine f_tn (kh24 _ _ ?_)
              clear kh24
              refine f_seq fun K25 kh25 => ?_
              refine f_region ?_
              refine f_stepP rfl rfl rfl (o_move rfl) ?_
              refine f_stepP rfl rfl rfl (o_lss rfl rfl) ?_
              refine f_stepP rfl rfl rfl (o_move rfl) ?_
              refine f_falseL 71 rfl (by omega) ?_
              refine f_stepPY rfl rfl rfl rfl rfl (o_move rfl) ?_
              refine f_stepPY rfl rfl rfl rfl rfl (o_field fa24_1 rfl) ?_
              refine f_stepPY rfl rfl rfl rfl rfl (o_load Try.isAgg22 rfl (rdA rfl)) ?_
              refine f_stepPY rfl rfl rfl rfl rfl (o_len sl22 rfl) ?_
              refine f_stepPY rfl rfl rfl rfl rfl (o_geq rfl rfl) ?_
              refine f_stepP rfl rfl rfl (o_pickF rfl rfl) ?_
              refine f_stepP rfl rfl rfl (o_move rfl) ?_
              refine f_falseL 78 rfl (by omega) ?_
              refine f_stepPY rfl rfl rfl rfl rfl (o_field fa24_1 rfl) ?_
              refine f_stepPY rfl rfl rfl rfl rfl (o_load Try.isAgg22 rfl (rdA rfl)) ?_
              refine f_stepPY rfl rfl rfl rfl rfl (o_move rfl) ?_
              refine f_stepPY rfl rfl rfl rfl rfl (o_idx sl22 rfl rfl (off + i * 3) ⟨by omega, by omega, by first | omega | (simp; done) | (simp; omega)⟩) ?_
              refine f_stepPY rfl rfl rfl rfl rfl (o_field fa34_0 rfl) ?_
              refine f_stepPY rfl rfl rfl rfl rfl (o_load Try.isAgg3 rfl (roElem arcCs_len hS hc hi).1) ?_
              refine f_stepPY rfl rfl rfl rfl rfl (o_move rfl) ?_
              refine f_stepPY rfl rfl rfl rfl rfl (o_neq rfl rfl) ?_
              refine f_stepP rfl rfl rfl (o_pickF rfl rfl) ?_
              refine f_done ?_
              refine f_tn (kh25 _ _ ?_)
              clear kh25
              refine f_condN rfl (by omega) ?_
              refine f_skip ?_
              refine f_bn ?_
              refine f_tn (kh23 _ _ ?_)
              clear kh23
              refine f_region ?_
              refine f_stepP rfl rfl rfl (o_add rfl rfl _ (wrap_i64 (by omega))) ?_
              refine f_stepP rfl rfl rfl (o_move rfl) ?_
              refine f_done ?_
              refine f_tn (f_again (j + 1) (by first | omega | (dsimp only; omega) | (simp; omega)) (by omega) ?_ ?_ ?_)
              · exact (by repeat (first | exact trivial | refine ⟨rfl, ?_⟩))
              · exact (by repeat (first | exact trivial | refine ⟨rfl, ?_⟩))
              · repeat (first | exact Sub.nil | refine Sub.pick ?_ | refine Sub.cast rfl ?_)
            · skip
              refine f_exit ?_
              refine f_te ?_
              clear kh22
              refine f_te ?_
              refine f_be ?_
              refine f_tn (kh19 _ _ ?_)
              clear kh19
              refine f_seq fun K26 kh26 => ?_
              refine f_seq fun K27 kh27 => ?_
              refine f_region ?_
              refine f_stepP rfl rfl rfl (o_move rfl) ?_
              refine f_stepP rfl rfl rfl (o_len sl29 rfl) ?_
              refine f_stepP rfl rfl rfl (o_move rfl) ?_
              refine f_done ?_
              refine f_tn (kh27 _ _ ?_)
              clear kh27
              refine f_block ?_
              refine f_loopK (α := Nat) [1, 5, 6, 7, 8, 10, 89, 90] (fun j => [(91, .int .i64 (j : Int))]) (fun j => j ≤ (idxs (fun x : Arc => decide (x.dst = (v : Int))) l).length) (fun j => (idxs (fun x : Arc => decide (x.dst = (v : Int))) l).length - j) (0) ?_ ?_ ?_
              · exact (by repeat (first | exact trivial | refine ⟨rfl, ?_⟩))
              · omega
              · intro j hjl
                refine f_seq fun K28 kh28 => ?_
                refine f_region ?_
                refine f_stepP rfl rfl rfl (o_lss rfl rfl) ?_
                refine f_done ?_
                refine f_tn (kh28 _ _ ?_)
                clear kh28
                refine f_seq fun K29 kh29 => ?_
                refine f_cond rfl (fun c92 => ?_) (fun c92 => ?_)
                · skip
                  refine f_skip ?_
                  refine f_tn (kh29 _ _ ?_)
                  clear kh29
                  refine f_seq fun K30 kh30 => ?_
                  refine f_block ?_
                  refine f_seq fun K31 kh31 => ?_
                  refine f_region ?_
                  have hj : j < (idxs (fun x : Arc => decide (x.dst = (v : Int))) l).length := by omega
                  obtain ⟨bo, so, rfl, rfl⟩ := hown2.at_ (by omega)
                  obtain ⟨i, hi, ei, hpi⟩ := idxs_mem (List.getElem_mem hj)
                  have hpv : l[i].dst = (v : Int) := by simpa using hpi
                  obtain ⟨bl, off, rfl, hS, hc⟩ := hr (flat_ne arcCs arcCs_len (by omega) hi)
                  refine f_stepP rfl rfl rfl (o_idx sl29 rfl rfl (j) ⟨by omega, by omega, by first | omega | (simp; done) | (simp; omega)⟩) ?_
                  refine f_stepP rfl rfl rfl (o_load (v := .int .i64 (i : Int)) Try.isAgg3 rfl (rdA (app_get (by rw [ints_get hj, ei])))) ?_
                  refine f_stepP rfl rfl rfl (o_assign rfl) ?_
                  refine f_done ?_
                  refine f_tn (kh31 _ _ ?_)
                  clear kh31
                  refine f_seq fun K32 kh32 => ?_
                  refine f_region ?_
                  refine f_stepP rfl rfl rfl (o_move rfl) ?_
                  refine f_stepP rfl rfl rfl (o_lss rfl rfl) ?_
                  refine f_stepP rfl rfl rfl (o_move rfl) ?_
                  refine f_falseL 97 rfl (by omega) ?_
                  refine f_stepPY rfl rfl rfl rfl rfl (o_move rfl) ?_
                  refine f_stepPY rfl rfl rfl rfl rfl (o_field fa24_1 rfl) ?_
                  refine f_stepPY rfl rfl rfl rfl rfl (o_load Try.isAgg22 rfl (rdA rfl)) ?_
                  refine f_stepPY rfl rfl rfl rfl rfl (o_len sl22 rfl) ?_
                  refine f_stepPY rfl rfl rfl rfl rfl (o_geq rfl rfl) ?_
                  refine f_stepP rfl rfl rfl (o_pickF rfl rfl) ?_
                  refine f_stepP rfl rfl rfl (o_move rfl) ?_
                  refine f_falseL 104 rfl (by omega) ?_
                  refine f_stepPY rfl rfl rfl rfl rfl (o_field fa24_1 rfl) ?_
                  refine f_stepPY rfl rfl rfl rfl rfl (o_load Try.isAgg22 rfl (rdA rfl)) ?_
                  refine f_stepPY rfl rfl rfl rfl rfl (o_move rfl) ?_
                  refine f_stepPY rfl rfl rfl rfl rfl (o_idx sl22 rfl rfl (off + i * 3) ⟨by omega, by omega, by first | omega | (simp; done) | (simp; omega)⟩) ?_
                  refine f_stepPY rfl rfl rfl rfl rfl (o_field fa34_1 rfl) ?_
                  refine f_stepPY rfl rfl rfl rfl rfl (o_load Try.isAgg3 rfl (roElem arcCs_len hS hc hi).2.1) ?_
                  refine f_stepPY rfl rfl rfl rfl rfl (o_move rfl) ?_
                  refine f_stepPY rfl rfl rfl rfl rfl (o_neq rfl rfl) ?_
                  refine f_stepP rfl rfl rfl (o_pickF rfl rfl) ?_
                  refine f_done ?_
                  refine f_tn (kh32 _ _ ?_)
                  clear kh32
                  refine f_condN rfl (by omega) ?_
                  refine f_skip ?_
                  refine f_bn ?_
                  refine f_tn (kh30 _ _ ?_)
                  clear kh30
                  refine f_region ?_
                  refine f_stepP rfl rfl rfl (o_add rfl rfl _ (wrap_i64 (by omega))) ?_
                  refine f_stepP rfl rfl rfl (o_move rfl) ?_
                  refine f_done ?_
                  refine f_tn (f_again (j + 1) (by first | omega | (dsimp only; omega) | (simp; omega)) (by omega) ?_ ?_ ?_)
                  · exact (by repeat (first | exact trivial | refine ⟨rfl, ?_⟩))
                  · exact (by repeat (first | exact trivial | refine ⟨rfl, ?_⟩))
                  · repeat (first | exact Sub.nil | refine Sub.pick ?_ | refine Sub.cast rfl ?_)
                · skip
                  refine f_exit ?_
                  refine f_te ?_
                  clear kh29
                  refine f_te ?_
                  refine f_be ?_
                  refine f_tn (kh26 _ _ ?_)
                  clear kh26
                  refine f_seq fun K33 kh33 => ?_
                  refine f_region ?_
                  refine f_stepP rfl rfl rfl (o_move rfl) ?_
                  refine f_stepP rfl rfl rfl (o_move rfl) ?_
                  refine f_stepP rfl rfl rfl (o_len sl29 rfl) ?_
                  refine f_stepP rfl rfl rfl (o_add rfl rfl ((cS l (v + 1) : Nat) : Int) (by rw [hlen1, wrap_i64 (by omega)]; omega)) ?_
                  refine f_stepP rfl rfl rfl (o_assign rfl) ?_
                  refine f_done ?_
                  refine f_tn (kh33 _ _ ?_)
                  clear kh33
                  refine f_region ?_
                  refine f_stepP rfl rfl rfl (o_move rfl) ?_
                  refine f_stepP rfl rfl rfl (o_move rfl) ?_
                  refine f_stepP rfl rfl rfl (o_len sl29 rfl) ?_
                  refine f_stepP rfl rfl rfl (o_add rfl rfl ((cD l (v + 1) : Nat) : Int) (by rw [hlen2, wrap_i64 (by omega)]; omega)) ?_
                  refine f_stepP rfl rfl rfl (o_assign rfl) ?_
                  refine f_done ?_
                  refine f_bn ?_
                  refine f_tn (kh14 _ _ ?_)
                  clear kh14
                  refine f_region ?_
                  refine f_stepP rfl rfl rfl (o_move rfl) ?_
                  refine f_stepP rfl rfl rfl (o_add rfl rfl _ (wrap_i64 (by omega))) ?_
                  refine f_stepP rfl rfl rfl (o_assign rfl) ?_
                  refine f_done ?_
                  refine f_tn (f_again (v + 1) (by first | omega | (dsimp only; omega) | (simp; omega)) (by omega) ?_ ?_ ?_)
                  · exact (by repeat (first | exact trivial | refine ⟨rfl, ?_⟩))
                  · exact (by repeat (first | exact trivial | refine ⟨rfl, ?_⟩))
                  · repeat (first | exact Sub.nil | refine Sub.pick ?_ | refine Sub.cast rfl ?_)
        · skip
          have hvn : v = n := by omega
          refine f_exit ?_
          refine f_te ?_
          clear kh12
          refine f_te ?_
          refine f_be ?_
          refine f_tn (kh10 _ _ ?_)
          clear kh10
          refine f_seq fun K34 kh34 => ?_
          refine f_region ?_
          refine f_stepP rfl rfl rfl (o_move rfl) ?_
          refine f_stepP rfl rfl rfl (o_field fa24_1 rfl) ?_
          refine f_stepP rfl rfl rfl (o_load Try.isAgg22 rfl (rdA rfl)) ?_
          refine f_stepP rfl rfl rfl (o_len sl22 rfl) ?_
          refine f_stepP rfl rfl rfl (o_eql rfl rfl) ?_
          refine f_stepP rfl rfl rfl (o_move rfl) ?_
          refine f_trueL 128 rfl (by rw [show cS l v = l.length from hvn ▸ count_all (·.src) l n (fun k hk => ⟨(hgood k hk).1, (hgood k hk).2.1⟩)]) ?_
          refine f_stepPY rfl rfl rfl rfl rfl (o_move rfl) ?_
          refine f_stepPY rfl rfl rfl rfl rfl (o_field fa24_1 rfl) ?_
          refine f_stepPY rfl rfl rfl rfl rfl (o_load Try.isAgg22 rfl (rdA rfl)) ?_
          refine f_stepPY rfl rfl rfl rfl rfl (o_len sl22 rfl) ?_
          refine f_stepPY rfl rfl rfl rfl rfl (o_eql rfl rfl) ?_
          refine f_stepP rfl rfl rfl (o_pickT rfl rfl) ?_
          refine f_stepP rfl rfl rfl (o_assign rfl) ?_
          refine f_done ?_
          refine f_tn (kh34 _ _ ?_)
          clear kh34
          refine f_ret ?_
          exact f_fin1 [] Try.results3 rfl Sub.nil ⟨by rw [decide_eq_true]; rw [show cD l v = l.length from hvn ▸ count_all (·.dst) l n (fun k hk => (hgood k hk).2.2)], rfl⟩

end Go.Proofs.Ythbkeoejbendnaa
