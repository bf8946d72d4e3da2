import Derived.Test.YtkhjckghpakliaaAll7
import Derived.Test.YtkhjckghpakliaaFlyT
import Derived.Test.YtkhjckghpakliaaFlyR

/- flyoverlaw09: SplitHolds. -/
namespace Go.Proofs.Ytkhjckghpakliaa
open Go Go.RowKit Fly
set_option linter.unusedVariables false
set_option linter.unusedSimpArgs false


theorem joinE_zero {n : Nat} {l : List Arc} {L : List Int} {bd : Int} (hg : (gcheck (n : Int) l).2 = 0) (hR : rightB (n : Int) L = true) (hn : 1 ≤ n) (hb : 1 ≤ bd ∧ bd ≤ 1024) (hs : ∀ y, (cntI L y : Int) ≤ bd) : joinE (n : Int) l L bd = 0 := by
  have hrg := right_range hR hn
  have hl := (right_parts hR).2
  have h0 : 0 < L.length := by omega
  have hx := hrg L[0] (List.getElem_mem h0)
  unfold joinE
  rw [if_neg (by rw [spE_one hg hR hb]; simp), if_neg (by have := max_cnt (L := L) (by unfold sizesL; rw [szs_len]; omega) hs; omega)]
theorem labs_get {L : List Int} {u : Nat} (h : u < L.length) : (ints L)[u]? = some (.int .i64 (lab L (u : Int))) := by rw [lab_get h]; exact ints_get h

set_option maxRecDepth 100000 in
set_option maxHeartbeats 4000000 in
theorem SplitHolds_spec (N : Int) (A : Option Addr) (l : List Arc) (cap : Nat) (B : Option Addr) (L : List Int) (cb : Nat) (bd : Int) (w : World) (hr : Ro (Fr w []) w A (l.flatMap arcCs)) (hl : l.length ≤ 9223372036854775807) (hN : I64 N) (hok : ∀ x ∈ l, ArcOk x) (hL : Ro (Fr w []) w B (ints L)) (hm : L.length ≤ 9223372036854775807) :
    Meets Try.prog 3 [.agg #[.int .i64 N, .slice A l.length cap], .slice B L.length cb, .int .i64 bd] w [] (fun u m => u = .bool true ∧ m = []) := by
 refine f_enter Try.func3 rfl Try.ntmps3 rfl Owns.nil ?_
 refine f_seq fun K1 kh1 => ?_
 refine f_region ?_
 refine f_step rfl rfl rfl (o_box rfl rfl fun b3 => ?_)
 refine f_stepP rfl rfl rfl (o_assign rfl) ?_
 refine f_done ?_
 refine f_tn (kh1 _ _ ?_)
 clear kh1
 refine f_seq fun K2 kh2 => ?_
 refine f_seq fun K3 kh3 => ?_
 refine f_region ?_
 refine f_step rfl rfl rfl (o_call Try.call6 rfl (fun w_ hp_ => works_spec w_) ?_)
 rintro _ _ ⟨rfl, rfl⟩
 dsimp only [List.cons_append, List.nil_append]
 refine f_stepP rfl rfl rfl (o_not rfl) ?_
 refine f_done ?_
 refine f_tn (kh3 _ _ ?_)
 clear kh3
 refine f_condF rfl ?_
 refine f_skip ?_
 refine f_tn (kh2 _ _ ?_)
 clear kh2
 refine f_seq fun K4 kh4 => ?_
 refine f_seq fun K5 kh5 => ?_
 refine f_region ?_
 refine f_stepP rfl rfl rfl (o_loadA (vs := [_, _]) Try.isAgg24 Try.sizeOf24 rfl rfl ⟨(rdA rfl), (rdA rfl), trivial⟩) ?_
 refine f_step rfl rfl rfl (o_call Try.call7 rfl (fun w_ hp_ => large_spec N A l cap w_ (hr.up0 hp_) hl hN hok) ?_)
 rintro _ _ ⟨bL, rfl, rfl⟩
 dsimp only [List.cons_append, List.nil_append]
 refine f_done ?_
 refine f_tn (kh5 _ _ ?_)
 clear kh5
 refine f_condB rfl (fun c16 => ?_) (fun c16 => ?_)
 ·
  refine f_seq fun K6 kh6 => ?_
  refine f_region ?_
  refine f_stepP rfl rfl rfl (o_assign rfl) ?_
  refine f_done ?_
  refine f_tn (kh6 _ _ ?_)
  clear kh6
  refine f_ret ?_
  refine f_tr ?_
  exact f_fin1 [] Try.results3 rfl Sub.nil ⟨rfl, rfl⟩
 ·
  refine f_skip ?_
  refine f_tn (kh4 _ _ ?_)
  clear kh4
  refine f_seq fun K7 kh7 => ?_
  refine f_region ?_
  refine f_stepP rfl rfl rfl (o_loadA (vs := [_, _]) Try.isAgg24 Try.sizeOf24 rfl rfl ⟨(rdA rfl), (rdA rfl), trivial⟩) ?_
  refine f_stepP rfl rfl rfl (o_move rfl) ?_
  refine f_stepP rfl rfl rfl (o_move rfl) ?_
  refine f_step rfl rfl rfl (o_call Try.call8 rfl (fun w_ hp_ => CutUp_spec N A B l cap L cb bd w_ (hr.up0 hp_) hl hN hok (hL.up0 hp_) hm) ?_)
  rintro _ _ ⟨La, Aa, ca, ma, rfl, rfl, hoa, hae, ha0⟩
  dsimp only [List.cons_append, List.nil_append]
  refine f_stepP rfl rfl rfl (o_move rfl) ?_
  refine f_stepP rfl rfl rfl (o_extract rfl rfl) ?_
  refine f_stepP rfl rfl rfl (o_extract rfl rfl) ?_
  refine f_stepP rfl rfl rfl (o_assign rfl) ?_
  refine f_stepP rfl rfl rfl (o_assign rfl) ?_
  refine f_done ?_
  refine f_tn (kh7 _ _ ?_)
  clear kh7
  refine f_seq fun K8 kh8 => ?_
  refine f_seq fun K9 kh9 => ?_
  refine f_region ?_
  refine f_stepP rfl rfl rfl (o_move rfl) ?_
  refine f_stepP rfl rfl rfl (o_neq rfl rfl) ?_
  refine f_done ?_
  refine f_tn (kh9 _ _ ?_)
  clear kh9
  refine f_cond rfl (fun c25 => ?_) (fun c25 => ?_)
  ·
   obtain rfl := hae c25
   refine f_seq fun K10 kh10 => ?_
   refine f_region ?_
   refine f_stepP rfl rfl rfl (o_move rfl) ?_
   refine f_stepP rfl rfl rfl (o_len sl25 rfl) ?_
   refine f_stepP rfl rfl rfl (o_eql rfl rfl) ?_
   refine f_stepP rfl rfl rfl (o_assign rfl) ?_
   refine f_done ?_
   refine f_tn (kh10 _ _ ?_)
   clear kh10
   refine f_ret ?_
   refine f_tr ?_
   exact f_fin1 [] Try.results3 rfl Sub.nil ⟨by simp, rfl⟩
  ·
   have hz : spE N l L bd = 0 := by simpa using c25
   obtain rfl := ha0 hz
   obtain ⟨n, rfl, hn1, hn2, hg, hR, hbd⟩ := spE_zero hz
   obtain ⟨b, rfl⟩ : ∃ b : Nat, bd = (b : Int) := ⟨bd.toNat, by omega⟩
   rw [Int.toNat_natCast] at hoa ⊢
   obtain ⟨_, _, hl8, _⟩ := gcheck_zero hg
   obtain ⟨hRa, hSa', hFa⟩ := cut_holds (l := l) hR hn1 hn2 hl8 (b := b) (by omega)
   obtain ⟨La, hLa⟩ : ∃ La, cutL l L b = La := ⟨_, rfl⟩
   rw [hLa] at hoa hRa hSa' hFa ⊢
   have hSa : ∀ y, (cntI La y : Int) ≤ (b : Int) := fun y => by have := hSa' y; omega
   have hLn : L.length = n := (right_parts hR).2
   have hLan : La.length = n := (right_parts hRa).2
   have hje := joinE_zero hg hRa hn1 hbd hSa
   obtain ⟨ba, spa, rfl, rfl⟩ := hoa.at_ (by omega)
   obtain ⟨bb, ob, rfl, hSb, hcb⟩ := hL (fun e => by have := ints_length L; rw [e] at this; simp at this; omega)
   refine f_skip ?_
   refine f_tn (kh8 _ _ ?_)
   clear kh8
   refine f_seq fun K11 kh11 => ?_
   refine f_region ?_
   refine f_stepP rfl rfl rfl (o_loadA (vs := [_, _]) Try.isAgg24 Try.sizeOf24 rfl rfl ⟨(rdA rfl), (rdA rfl), trivial⟩) ?_
   refine f_stepP rfl rfl rfl (o_move rfl) ?_
   refine f_stepP rfl rfl rfl (o_move rfl) ?_
   refine f_step rfl rfl rfl (o_call Try.call9 rfl (fun w_ hp_ => Join_spec (n : Int) A (some ⟨ba, 0, none⟩) l cap La ca (b : Int) w_ (hr.up0 hp_) hl hN hok (roOwn (b := ba) hp_ (fun j v hj => app_get hj)) (by omega)) ?_)
   rintro _ _ ⟨Lj, Aj, cj, mj, rfl, rfl, hoj, _, hj0⟩
   obtain ⟨hJ, _, _⟩ := hj0 hje
   rw [hje]
   rw [Int.toNat_natCast] at hJ
   have hLj : Lj.length = n := (right_parts hJ.right).2
   obtain ⟨bj, spj, rfl, rfl⟩ := hoj.at_ (by omega)
   dsimp only [List.cons_append, List.nil_append]
   refine f_stepP rfl rfl rfl (o_move rfl) ?_
   refine f_stepP rfl rfl rfl (o_extract rfl rfl) ?_
   refine f_stepP rfl rfl rfl (o_extract rfl rfl) ?_
   refine f_stepP rfl rfl rfl (o_assign rfl) ?_
   refine f_stepP rfl rfl rfl (o_assign rfl) ?_
   refine f_done ?_
   refine f_tn (kh11 _ _ ?_)
   clear kh11
   refine f_seq fun K12 kh12 => ?_
   refine f_seq fun K13 kh13 => ?_
   refine f_region ?_
   refine f_stepP rfl rfl rfl (o_move rfl) ?_
   refine f_stepP rfl rfl rfl (o_neq rfl rfl) ?_
   refine f_stepP rfl rfl rfl (o_move rfl) ?_
   refine f_falseL 38 rfl (by simp) ?_
   refine f_stepPY rfl rfl rfl rfl rfl (o_loadA (vs := [_, _]) Try.isAgg24 Try.sizeOf24 rfl rfl ⟨(rdA rfl), (rdA rfl), trivial⟩) ?_
   refine f_stepPY rfl rfl rfl rfl rfl (o_move rfl) ?_
   refine f_stepPY rfl rfl rfl rfl rfl (o_move rfl) ?_
   refine f_stepY rfl rfl rfl rfl rfl (o_call Try.call10 rfl (fun w_ hp_ => bounded_spec n A l cap (some ⟨ba, 0, none⟩) La ca (b : Int) w_ (hr.up0 hp_) hl hN hok (roOwn (b := ba) hp_ (fun j v hj => app_get hj)) (by omega) hg hRa hSa) ?_)
   rintro _ _ ⟨rfl, rfl⟩
   dsimp only [List.cons_append, List.nil_append]
   refine f_stepPY rfl rfl rfl rfl rfl (o_not rfl) ?_
   refine f_stepP rfl rfl rfl (o_pickF rfl rfl) ?_
   refine f_stepP rfl rfl rfl (o_move rfl) ?_
   refine f_stepPY rfl rfl rfl rfl rfl (o_loadA (vs := [_, _]) Try.isAgg24 Try.sizeOf24 rfl rfl ⟨(rdA rfl), (rdA rfl), trivial⟩) ?_
   refine f_stepPY rfl rfl rfl rfl rfl (o_move rfl) ?_
   refine f_stepPY rfl rfl rfl rfl rfl (o_move rfl) ?_
   refine f_stepY rfl rfl rfl rfl rfl (o_call Try.call10 rfl (fun w_ hp_ => bounded_spec n A l cap (some ⟨bj, 0, none⟩) Lj cj (b : Int) w_ (hr.up0 hp_) hl hN hok (roOwn (b := bj) hp_ (fun j v hj => app_get hj)) (by omega) hg hJ.right hJ.size) ?_)
   rintro _ _ ⟨rfl, rfl⟩
   dsimp only [List.cons_append, List.nil_append]
   refine f_stepPY rfl rfl rfl rfl rfl (o_not rfl) ?_
   refine f_stepP rfl rfl rfl (o_pickF rfl rfl) ?_
   refine f_done ?_
   refine f_tn (kh13 _ _ ?_)
   clear kh13
   refine f_condF rfl ?_
   refine f_skip ?_
   refine f_tn (kh12 _ _ ?_)
   clear kh12
   refine f_seq fun K14 kh14 => ?_
   refine f_seq fun K15 kh15 => ?_
   refine f_region ?_
   refine f_stepP rfl rfl rfl (o_move rfl) ?_
   refine f_stepP rfl rfl rfl (o_len sl25 rfl) ?_
   refine f_stepP rfl rfl rfl (o_move rfl) ?_
   refine f_done ?_
   refine f_tn (kh15 _ _ ?_)
   clear kh15
   refine f_block ?_
   refine f_loop (α := Nat) [1, 7, 9, 53] (fun v => [(54, .int .i64 (v : Int))]) (fun v => [[(ba, blk (ints La ++ spa) 3)], [(bj, blk (ints Lj ++ spj) 3)]]) (fun v => v ≤ n) (fun v => n - v) (0) ?_ ?_ ?_ ?_
   · exact (by repeat (first | exact trivial | refine ⟨rfl, ?_⟩))
   · repeat (first | exact Sub.nil | refine Sub.pick ?_ | refine Sub.castO rfl ?_ | refine Sub.skip ?_)
   · exact Nat.zero_le _
   ·
    rintro v hvn
    refine f_seq fun K16 kh16 => ?_
    refine f_region ?_
    refine f_stepP rfl rfl rfl (o_lss rfl rfl) ?_
    refine f_done ?_
    refine f_tn (kh16 _ _ ?_)
    clear kh16
    refine f_seq fun K17 kh17 => ?_
    refine f_cond rfl (fun c55 => ?_) (fun c55 => ?_)
    ·
     have hv : v < n := by omega
     refine f_skip ?_
     refine f_tn (kh17 _ _ ?_)
     clear kh17
     refine f_seq fun K18 kh18 => ?_
     refine f_block ?_
     refine f_seq fun K19 kh19 => ?_
     refine f_region ?_
     refine f_stepP rfl rfl rfl (o_move rfl) ?_
     refine f_stepP rfl rfl rfl (o_assign rfl) ?_
     refine f_done ?_
     refine f_tn (kh19 _ _ ?_)
     clear kh19
     refine f_seq fun K20 kh20 => ?_
     refine f_region ?_
     refine f_stepP rfl rfl rfl (o_move rfl) ?_
     refine f_stepP rfl rfl rfl (o_move rfl) ?_
     refine f_done ?_
     refine f_tn (kh20 _ _ ?_)
     clear kh20
     refine f_block ?_
     refine f_loop (α := Nat) [1, 7, 9, 11, 53, 54, 57] (fun u => [(58, .int .i64 (u : Int))]) (fun u => [[(ba, blk (ints La ++ spa) 3)], [(bj, blk (ints Lj ++ spj) 3)]]) (fun u => u ≤ v) (fun u => v - u) (0) ?_ ?_ ?_ ?_
     · exact (by repeat (first | exact trivial | refine ⟨rfl, ?_⟩))
     · repeat (first | exact Sub.nil | refine Sub.pick ?_ | refine Sub.castO rfl ?_ | refine Sub.skip ?_)
     · exact Nat.zero_le _
     ·
      rintro u huv
      refine f_envC (e := [(58, _), (1, _), (7, _), (9, _), (11, _), (53, _), (54, _), (57, _)]) (by repeat (first | exact trivial | refine ⟨rfl, ?_⟩)) ?_
      refine f_seq fun K21 kh21 => ?_
      refine f_region ?_
      refine f_stepP rfl rfl rfl (o_lss rfl rfl) ?_
      refine f_done ?_
      refine f_tn (kh21 _ _ ?_)
      clear kh21
      refine f_seq fun K22 kh22 => ?_
      refine f_cond rfl (fun c59 => ?_) (fun c59 => ?_)
      ·
       have hu : u < n := by omega
       refine f_skip ?_
       refine f_tn (kh22 _ _ ?_)
       clear kh22
       refine f_seq fun K23 kh23 => ?_
       refine f_block ?_
       refine f_seq fun K24 kh24 => ?_
       refine f_region ?_
       refine f_stepP rfl rfl rfl (o_move rfl) ?_
       refine f_stepP rfl rfl rfl (o_assign rfl) ?_
       refine f_done ?_
       refine f_tn (kh24 _ _ ?_)
       clear kh24
       refine f_seq fun K25 kh25 => ?_
       refine f_regionS rfl (by decide +kernel) ?_
       refine f_stillP rfl rfl rfl (o_move rfl) ?_
       refine f_stillP rfl rfl rfl (o_move rfl) ?_
       refine f_stillP rfl rfl rfl (o_idx sl25 rfl rfl (ob + u) ⟨by omega, by omega, by first | omega | (simp; done) | (simp; omega)⟩) ?_
       refine f_stillP rfl rfl rfl (o_load Try.isAgg3 rfl (show Rd _ _ _ _ _ (.int .i64 (lab L (u : Int))) by rw [lab_get (by omega)]; exact roOne (enc := (.int .i64 ·)) hSb hcb (by omega))) ?_
       refine f_stillP rfl rfl rfl (o_move rfl) ?_
       refine f_stillP rfl rfl rfl (o_move rfl) ?_
       refine f_stillP rfl rfl rfl (o_idx sl25 rfl rfl (ob + v) ⟨by omega, by omega, by first | omega | (simp; done) | (simp; omega)⟩) ?_
       refine f_stillP rfl rfl rfl (o_load Try.isAgg3 rfl (show Rd _ _ _ _ _ (.int .i64 (lab L (v : Int))) by rw [lab_get (by omega)]; exact roOne (enc := (.int .i64 ·)) hSb hcb (by omega))) ?_
       refine f_stillP rfl rfl rfl (o_neq rfl rfl) ?_
       refine f_stillP rfl rfl rfl (o_move rfl) ?_
       refine f_splitS 70 rfl (fun g70 => ?_) (fun g70 => ?_)
       ·
        refine f_stillPY rfl rfl rfl rfl rfl (o_move rfl) ?_
        refine f_stillPY rfl rfl rfl rfl rfl (o_move rfl) ?_
        refine f_stillPY rfl rfl rfl rfl rfl (o_idx sl25 rfl rfl (u) ⟨by omega, by omega, by first | omega | (simp; done) | (simp; omega)⟩) ?_
        refine f_stillPY rfl rfl rfl rfl rfl (o_load Try.isAgg3 rfl (rdA (v := .int .i64 (lab La (u : Int))) (app_get (labs_get (by omega))))) ?_
        refine f_stillPY rfl rfl rfl rfl rfl (o_move rfl) ?_
        refine f_stillPY rfl rfl rfl rfl rfl (o_move rfl) ?_
        refine f_stillPY rfl rfl rfl rfl rfl (o_idx sl25 rfl rfl (v) ⟨by omega, by omega, by first | omega | (simp; done) | (simp; omega)⟩) ?_
        refine f_stillPY rfl rfl rfl rfl rfl (o_load Try.isAgg3 rfl (rdA (v := .int .i64 (lab La (v : Int))) (app_get (labs_get (by omega))))) ?_
        refine f_stillPY rfl rfl rfl rfl rfl (o_eql rfl rfl) ?_
        refine f_stillP rfl rfl rfl (o_pickT rfl rfl) ?_
        refine f_stillP rfl rfl rfl (o_move rfl) ?_
        refine f_falseS 81 rfl (by have := hFa u v (by omega) (by omega); first | exact fun e => g70 (this e) | simp) ?_
        refine f_stillPY rfl rfl rfl rfl rfl (o_move rfl) ?_
        refine f_stillPY rfl rfl rfl rfl rfl (o_move rfl) ?_
        refine f_stillPY rfl rfl rfl rfl rfl (o_idx sl25 rfl rfl (u) ⟨by omega, by omega, by first | omega | (simp; done) | (simp; omega)⟩) ?_
        refine f_stillPY rfl rfl rfl rfl rfl (o_load Try.isAgg3 rfl (rdA (v := .int .i64 (lab La (u : Int))) (app_get (labs_get (by omega))))) ?_
        refine f_stillPY rfl rfl rfl rfl rfl (o_move rfl) ?_
        refine f_stillPY rfl rfl rfl rfl rfl (o_move rfl) ?_
        refine f_stillPY rfl rfl rfl rfl rfl (o_idx sl25 rfl rfl (v) ⟨by omega, by omega, by first | omega | (simp; done) | (simp; omega)⟩) ?_
        refine f_stillPY rfl rfl rfl rfl rfl (o_load Try.isAgg3 rfl (rdA (v := .int .i64 (lab La (v : Int))) (app_get (labs_get (by omega))))) ?_
        refine f_stillPY rfl rfl rfl rfl rfl (o_eql rfl rfl) ?_
        refine f_stillPY rfl rfl rfl rfl rfl (o_move rfl) ?_
        refine f_splitS 91 rfl (fun g91 => ?_) (fun g91 => ?_)
        ·
         refine f_stillPY rfl rfl rfl rfl rfl (o_move rfl) ?_
         refine f_stillPY rfl rfl rfl rfl rfl (o_move rfl) ?_
         refine f_stillPY rfl rfl rfl rfl rfl (o_idx sl25 rfl rfl (u) ⟨by omega, by omega, by first | omega | (simp; done) | (simp; omega)⟩) ?_
         refine f_stillPY rfl rfl rfl rfl rfl (o_load Try.isAgg3 rfl (rdA (v := .int .i64 (lab Lj (u : Int))) (app_get (labs_get (by omega))))) ?_
         refine f_stillPY rfl rfl rfl rfl rfl (o_move rfl) ?_
         refine f_stillPY rfl rfl rfl rfl rfl (o_move rfl) ?_
         refine f_stillPY rfl rfl rfl rfl rfl (o_idx sl25 rfl rfl (v) ⟨by omega, by omega, by first | omega | (simp; done) | (simp; omega)⟩) ?_
         refine f_stillPY rfl rfl rfl rfl rfl (o_load Try.isAgg3 rfl (rdA (v := .int .i64 (lab Lj (v : Int))) (app_get (labs_get (by omega))))) ?_
         refine f_stillPY rfl rfl rfl rfl rfl (o_neq rfl rfl) ?_
         refine f_stillPY rfl rfl rfl rfl rfl (o_pickT rfl rfl) ?_
         refine f_stillP rfl rfl rfl (o_pickF rfl rfl) ?_
         refine f_stillD ?_
         refine f_tn (kh25 _ _ ?_)
         clear kh25
         refine f_cond rfl (fun c102 => ?_) (fun c102 => ?_)
         ·
          refine f_seq fun K26 kh26 => ?_
          refine f_region ?_
          refine f_stepP rfl rfl rfl (o_assign rfl) ?_
          refine f_done ?_
          refine f_tn (kh26 _ _ ?_)
          clear kh26
          refine f_ret ?_
          refine f_br ?_
          refine f_tr ?_
          refine f_tr ?_
          refine f_br ?_
          refine f_br ?_
          refine f_tr ?_
          refine f_tr ?_
          refine f_br ?_
          refine f_tr ?_
          exact absurd (hJ.coarse u v (by omega) (by omega) g91) c102
         ·
          refine f_skip ?_
          refine f_bn ?_
          refine f_tn (kh23 _ _ ?_)
          clear kh23
          refine f_region ?_
          refine f_stepP rfl rfl rfl (o_add rfl rfl _ (wrap_i64 (by omega))) ?_
          refine f_stepP rfl rfl rfl (o_move rfl) ?_
          refine f_done ?_
          refine f_tn (f_again (u + 1) (by first | omega | (dsimp only; omega) | (simp; omega)) (by omega) ?_ ?_ ?_)
          · exact (by repeat (first | exact trivial | refine ⟨rfl, ?_⟩))
          · exact (by repeat (first | exact trivial | refine ⟨rfl, ?_⟩))
          · repeat (first | exact Sub.nil | refine Sub.pick ?_ | refine Sub.castO rfl ?_ | refine Sub.skip ?_)
        ·
         refine f_stillN rfl rfl rfl rfl rfl rfl ?_
         refine f_stillN rfl rfl rfl rfl rfl rfl ?_
         refine f_stillN rfl rfl rfl rfl rfl rfl ?_
         refine f_stillN rfl rfl rfl rfl rfl rfl ?_
         refine f_stillN rfl rfl rfl rfl rfl rfl ?_
         refine f_stillN rfl rfl rfl rfl rfl rfl ?_
         refine f_stillN rfl rfl rfl rfl rfl rfl ?_
         refine f_stillN rfl rfl rfl rfl rfl rfl ?_
         refine f_stillN rfl rfl rfl rfl rfl rfl ?_
         refine f_stillPY rfl rfl rfl rfl rfl (o_pickF rfl rfl) ?_
         refine f_stillP rfl rfl rfl (o_pickF rfl rfl) ?_
         refine f_stillD ?_
         refine f_tn (kh25 _ _ ?_)
         clear kh25
         refine f_condF rfl ?_
         refine f_skip ?_
         refine f_bn ?_
         refine f_tn (kh23 _ _ ?_)
         clear kh23
         refine f_region ?_
         refine f_stepP rfl rfl rfl (o_add rfl rfl _ (wrap_i64 (by omega))) ?_
         refine f_stepP rfl rfl rfl (o_move rfl) ?_
         refine f_done ?_
         refine f_tn (f_again (u + 1) (by first | omega | (dsimp only; omega) | (simp; omega)) (by omega) ?_ ?_ ?_)
         · exact (by repeat (first | exact trivial | refine ⟨rfl, ?_⟩))
         · exact (by repeat (first | exact trivial | refine ⟨rfl, ?_⟩))
         · repeat (first | exact Sub.nil | refine Sub.pick ?_ | refine Sub.castO rfl ?_ | refine Sub.skip ?_)
       ·
        refine f_stillN rfl rfl rfl rfl rfl rfl ?_
        refine f_stillN rfl rfl rfl rfl rfl rfl ?_
        refine f_stillN rfl rfl rfl rfl rfl rfl ?_
        refine f_stillN rfl rfl rfl rfl rfl rfl ?_
        refine f_stillN rfl rfl rfl rfl rfl rfl ?_
        refine f_stillN rfl rfl rfl rfl rfl rfl ?_
        refine f_stillN rfl rfl rfl rfl rfl rfl ?_
        refine f_stillN rfl rfl rfl rfl rfl rfl ?_
        refine f_stillN rfl rfl rfl rfl rfl rfl ?_
        refine f_stillP rfl rfl rfl (o_pickF rfl rfl) ?_
        refine f_stillP rfl rfl rfl (o_move rfl) ?_
        refine f_stillPY rfl rfl rfl rfl rfl (o_move rfl) ?_
        refine f_stillPY rfl rfl rfl rfl rfl (o_move rfl) ?_
        refine f_stillPY rfl rfl rfl rfl rfl (o_idx sl25 rfl rfl (u) ⟨by omega, by omega, by first | omega | (simp; done) | (simp; omega)⟩) ?_
        refine f_stillPY rfl rfl rfl rfl rfl (o_load Try.isAgg3 rfl (rdA (v := .int .i64 (lab La (u : Int))) (app_get (labs_get (by omega))))) ?_
        refine f_stillPY rfl rfl rfl rfl rfl (o_move rfl) ?_
        refine f_stillPY rfl rfl rfl rfl rfl (o_move rfl) ?_
        refine f_stillPY rfl rfl rfl rfl rfl (o_idx sl25 rfl rfl (v) ⟨by omega, by omega, by first | omega | (simp; done) | (simp; omega)⟩) ?_
        refine f_stillPY rfl rfl rfl rfl rfl (o_load Try.isAgg3 rfl (rdA (v := .int .i64 (lab La (v : Int))) (app_get (labs_get (by omega))))) ?_
        refine f_stillPY rfl rfl rfl rfl rfl (o_eql rfl rfl) ?_
        refine f_stillPY rfl rfl rfl rfl rfl (o_move rfl) ?_
        refine f_splitS 91 rfl (fun g91 => ?_) (fun g91 => ?_)
        ·
         refine f_stillPY rfl rfl rfl rfl rfl (o_move rfl) ?_
         refine f_stillPY rfl rfl rfl rfl rfl (o_move rfl) ?_
         refine f_stillPY rfl rfl rfl rfl rfl (o_idx sl25 rfl rfl (u) ⟨by omega, by omega, by first | omega | (simp; done) | (simp; omega)⟩) ?_
         refine f_stillPY rfl rfl rfl rfl rfl (o_load Try.isAgg3 rfl (rdA (v := .int .i64 (lab Lj (u : Int))) (app_get (labs_get (by omega))))) ?_
         refine f_stillPY rfl rfl rfl rfl rfl (o_move rfl) ?_
         refine f_stillPY rfl rfl rfl rfl rfl (o_move rfl) ?_
         refine f_stillPY rfl rfl rfl rfl rfl (o_idx sl25 rfl rfl (v) ⟨by omega, by omega, by first | omega | (simp; done) | (simp; omega)⟩) ?_
         refine f_stillPY rfl rfl rfl rfl rfl (o_load Try.isAgg3 rfl (rdA (v := .int .i64 (lab Lj (v : Int))) (app_get (labs_get (by omega))))) ?_
         refine f_stillPY rfl rfl rfl rfl rfl (o_neq rfl rfl) ?_
         refine f_stillPY rfl rfl rfl rfl rfl (o_pickT rfl rfl) ?_
         refine f_stillP rfl rfl rfl (o_pickF rfl rfl) ?_
         refine f_stillD ?_
         refine f_tn (kh25 _ _ ?_)
         clear kh25
         refine f_cond rfl (fun c102 => ?_) (fun c102 => ?_)
         ·
          refine f_seq fun K27 kh27 => ?_
          refine f_region ?_
          refine f_stepP rfl rfl rfl (o_assign rfl) ?_
          refine f_done ?_
          refine f_tn (kh27 _ _ ?_)
          clear kh27
          refine f_ret ?_
          refine f_br ?_
          refine f_tr ?_
          refine f_tr ?_
          refine f_br ?_
          refine f_br ?_
          refine f_tr ?_
          refine f_tr ?_
          refine f_br ?_
          refine f_tr ?_
          exact absurd (hJ.coarse u v (by omega) (by omega) g91) c102
         ·
          refine f_skip ?_
          refine f_bn ?_
          refine f_tn (kh23 _ _ ?_)
          clear kh23
          refine f_region ?_
          refine f_stepP rfl rfl rfl (o_add rfl rfl _ (wrap_i64 (by omega))) ?_
          refine f_stepP rfl rfl rfl (o_move rfl) ?_
          refine f_done ?_
          refine f_tn (f_again (u + 1) (by first | omega | (dsimp only; omega) | (simp; omega)) (by omega) ?_ ?_ ?_)
          · exact (by repeat (first | exact trivial | refine ⟨rfl, ?_⟩))
          · exact (by repeat (first | exact trivial | refine ⟨rfl, ?_⟩))
          · repeat (first | exact Sub.nil | refine Sub.pick ?_ | refine Sub.castO rfl ?_ | refine Sub.skip ?_)
        ·
         refine f_stillN rfl rfl rfl rfl rfl rfl ?_
         refine f_stillN rfl rfl rfl rfl rfl rfl ?_
         refine f_stillN rfl rfl rfl rfl rfl rfl ?_
         refine f_stillN rfl rfl rfl rfl rfl rfl ?_
         refine f_stillN rfl rfl rfl rfl rfl rfl ?_
         refine f_stillN rfl rfl rfl rfl rfl rfl ?_
         refine f_stillN rfl rfl rfl rfl rfl rfl ?_
         refine f_stillN rfl rfl rfl rfl rfl rfl ?_
         refine f_stillN rfl rfl rfl rfl rfl rfl ?_
         refine f_stillPY rfl rfl rfl rfl rfl (o_pickF rfl rfl) ?_
         refine f_stillP rfl rfl rfl (o_pickF rfl rfl) ?_
         refine f_stillD ?_
         refine f_tn (kh25 _ _ ?_)
         clear kh25
         refine f_condF rfl ?_
         refine f_skip ?_
         refine f_bn ?_
         refine f_tn (kh23 _ _ ?_)
         clear kh23
         refine f_region ?_
         refine f_stepP rfl rfl rfl (o_add rfl rfl _ (wrap_i64 (by omega))) ?_
         refine f_stepP rfl rfl rfl (o_move rfl) ?_
         refine f_done ?_
         refine f_tn (f_again (u + 1) (by first | omega | (dsimp only; omega) | (simp; omega)) (by omega) ?_ ?_ ?_)
         · exact (by repeat (first | exact trivial | refine ⟨rfl, ?_⟩))
         · exact (by repeat (first | exact trivial | refine ⟨rfl, ?_⟩))
         · repeat (first | exact Sub.nil | refine Sub.pick ?_ | refine Sub.castO rfl ?_ | refine Sub.skip ?_)
      ·
       refine f_exit ?_
       refine f_te ?_
       clear kh22
       refine f_te ?_
       refine f_be ?_
       refine f_bn ?_
       refine f_tn (kh18 _ _ ?_)
       clear kh18
       refine f_region ?_
       refine f_stepP rfl rfl rfl (o_add rfl rfl _ (wrap_i64 (by omega))) ?_
       refine f_stepP rfl rfl rfl (o_move rfl) ?_
       refine f_done ?_
       refine f_tn (f_again (v + 1) (by first | omega | (dsimp only; omega) | (simp; omega)) (by omega) ?_ ?_ ?_)
       · exact (by repeat (first | exact trivial | refine ⟨rfl, ?_⟩))
       · exact (by repeat (first | exact trivial | refine ⟨rfl, ?_⟩))
       · repeat (first | exact Sub.nil | refine Sub.pick ?_ | refine Sub.castO rfl ?_ | refine Sub.skip ?_)
    ·
     refine f_exit ?_
     refine f_te ?_
     clear kh17
     refine f_te ?_
     refine f_be ?_
     refine f_tn (kh14 _ _ ?_)
     clear kh14
     refine f_seq fun K28 kh28 => ?_
     refine f_region ?_
     refine f_stepP rfl rfl rfl (o_assign rfl) ?_
     refine f_done ?_
     refine f_tn (kh28 _ _ ?_)
     clear kh28
     refine f_ret ?_
     exact f_fin1 [] Try.results3 rfl Sub.nil ⟨rfl, rfl⟩

end Go.Proofs.Ytkhjckghpakliaa

/- flyoverlaw09: SplitEnds. -/
namespace Go.Proofs.Ytkhjckghpakliaa
open Go Go.RowKit Fly
set_option linter.unusedVariables false
set_option linter.unusedSimpArgs false


theorem joinE_ok {N : Int} {l : List Arc} {L : List Int} {bd : Int} (h : joinE N l L bd = 0) : ∃ n : Nat, N = (n : Int) ∧ 1 ≤ n ∧ n ≤ 1024 ∧ (gcheck (n : Int) l).2 = 0 ∧ rightB (n : Int) L = true ∧ 1 ≤ bd ∧ bd ≤ 1024 := by
  unfold joinE at h
  by_cases h1 : spE N l L bd ≠ 0
  · rw [if_pos h1] at h; exact absurd h h1
  · exact spE_zero (by omega)
theorem join_stays {n : Nat} {l : List Arc} {bd : Int} {L R : List Int} (h : JTo n l bd L R) (hs : smL (prs n l) L bd = []) : R = L := by
  rcases h.head with rfl | ⟨s, hm, _⟩
  · rfl
  · rw [hs] at hm; cases hm
theorem lcnt_right {n : Nat} {l : List Arc} {L : List Int} (hg : (gcheck (n : Int) l).2 = 0) (hR : rightB (n : Int) L = true) : lcount (n : Int) l L = ((cutN n l L : Int), 0) := by
  unfold lcount
  rw [if_neg (by rw [hg]; simp), if_neg (by rw [hR]; simp)]
  rfl
theorem lab_nonneg {L : List Int} {n : Nat} (hR : rightB (n : Int) L = true) (hn : 1 ≤ n) {u : Int} (hu : 0 ≤ u ∧ u < (n : Int)) : ∃ a : Nat, lab L u = (a : Int) ∧ a < (maxL L + 1).toNat := by
  have hm := lab_mem (right_parts hR).2 hu
  have := right_range hR hn _ hm
  exact ⟨(lab L u).toNat, by omega, by omega⟩

set_option maxRecDepth 100000 in
set_option maxHeartbeats 4000000 in
theorem SplitEnds_spec (N : Int) (A : Option Addr) (l : List Arc) (cap : Nat) (B : Option Addr) (L : List Int) (cb : Nat) (bd : Int) (w : World) (hr : Ro (Fr w []) w A (l.flatMap arcCs)) (hl : l.length ≤ 9223372036854775807) (hN : I64 N) (hok : ∀ x ∈ l, ArcOk x) (hL : Ro (Fr w []) w B (ints L)) (hm : L.length ≤ 9223372036854775807) :
    Meets Try.prog 4 [.agg #[.int .i64 N, .slice A l.length cap], .slice B L.length cb, .int .i64 bd] w [] (fun u m => u = .bool true ∧ m = []) := by
 refine f_enter Try.func4 rfl Try.ntmps4 rfl Owns.nil ?_
 refine f_seq fun K1 kh1 => ?_
 refine f_region ?_
 refine f_step rfl rfl rfl (o_box rfl rfl fun b3 => ?_)
 refine f_stepP rfl rfl rfl (o_assign rfl) ?_
 refine f_done ?_
 refine f_tn (kh1 _ _ ?_)
 clear kh1
 refine f_seq fun K2 kh2 => ?_
 refine f_seq fun K3 kh3 => ?_
 refine f_region ?_
 refine f_step rfl rfl rfl (o_call Try.call6 rfl (fun w_ hp_ => works_spec w_) ?_)
 rintro _ _ ⟨rfl, rfl⟩
 dsimp only [List.cons_append, List.nil_append]
 refine f_stepP rfl rfl rfl (o_not rfl) ?_
 refine f_done ?_
 refine f_tn (kh3 _ _ ?_)
 clear kh3
 refine f_condF rfl ?_
 refine f_skip ?_
 refine f_tn (kh2 _ _ ?_)
 clear kh2
 refine f_seq fun K4 kh4 => ?_
 refine f_seq fun K5 kh5 => ?_
 refine f_region ?_
 refine f_stepP rfl rfl rfl (o_loadA (vs := [_, _]) Try.isAgg24 Try.sizeOf24 rfl rfl ⟨(rdA rfl), (rdA rfl), trivial⟩) ?_
 refine f_step rfl rfl rfl (o_call Try.call7 rfl (fun w_ hp_ => large_spec N A l cap w_ (hr.up0 hp_) hl hN hok) ?_)
 rintro _ _ ⟨bL, rfl, rfl⟩
 dsimp only [List.cons_append, List.nil_append]
 refine f_done ?_
 refine f_tn (kh5 _ _ ?_)
 clear kh5
 refine f_condB rfl (fun c26 => ?_) (fun c26 => ?_)
 ·
  refine f_seq fun K6 kh6 => ?_
  refine f_region ?_
  refine f_stepP rfl rfl rfl (o_assign rfl) ?_
  refine f_done ?_
  refine f_tn (kh6 _ _ ?_)
  clear kh6
  refine f_ret ?_
  refine f_tr ?_
  exact f_fin1 [] Try.results4 rfl Sub.nil ⟨rfl, rfl⟩
 ·
  refine f_skip ?_
  refine f_tn (kh4 _ _ ?_)
  clear kh4
  refine f_seq fun K7 kh7 => ?_
  refine f_region ?_
  refine f_stepP rfl rfl rfl (o_loadA (vs := [_, _]) Try.isAgg24 Try.sizeOf24 rfl rfl ⟨(rdA rfl), (rdA rfl), trivial⟩) ?_
  refine f_stepP rfl rfl rfl (o_move rfl) ?_
  refine f_stepP rfl rfl rfl (o_move rfl) ?_
  refine f_step rfl rfl rfl (o_call Try.call9 rfl (fun w_ hp_ => Join_spec N A B l cap L cb bd w_ (hr.up0 hp_) hl hN hok (hL.up0 hp_) hm) ?_)
  rintro _ _ ⟨Lj, Aj, cj, mj, rfl, rfl, hoj, hje, hj0⟩
  dsimp only [List.cons_append, List.nil_append]
  refine f_stepP rfl rfl rfl (o_move rfl) ?_
  refine f_stepP rfl rfl rfl (o_extract rfl rfl) ?_
  refine f_stepP rfl rfl rfl (o_extract rfl rfl) ?_
  refine f_stepP rfl rfl rfl (o_assign rfl) ?_
  refine f_stepP rfl rfl rfl (o_assign rfl) ?_
  refine f_done ?_
  refine f_tn (kh7 _ _ ?_)
  clear kh7
  refine f_seq fun K8 kh8 => ?_
  refine f_seq fun K9 kh9 => ?_
  refine f_region ?_
  refine f_stepP rfl rfl rfl (o_move rfl) ?_
  refine f_stepP rfl rfl rfl (o_neq rfl rfl) ?_
  refine f_done ?_
  refine f_tn (kh9 _ _ ?_)
  clear kh9
  refine f_cond rfl (fun c35 => ?_) (fun c35 => ?_)
  ·
   obtain rfl := hje c35
   refine f_seq fun K10 kh10 => ?_
   refine f_region ?_
   refine f_stepP rfl rfl rfl (o_move rfl) ?_
   refine f_stepP rfl rfl rfl (o_len sl25 rfl) ?_
   refine f_stepP rfl rfl rfl (o_eql rfl rfl) ?_
   refine f_stepP rfl rfl rfl (o_assign rfl) ?_
   refine f_done ?_
   refine f_tn (kh10 _ _ ?_)
   clear kh10
   refine f_ret ?_
   refine f_tr ?_
   exact f_fin1 [] Try.results4 rfl Sub.nil ⟨by simp, rfl⟩
  ·
   have hz : joinE N l L bd = 0 := by simpa using c35
   obtain ⟨n, rfl, hn1, hn2, hg, hR, hbd⟩ := joinE_ok hz
   obtain ⟨hJ, hns, _⟩ := hj0 hz
   rw [Int.toNat_natCast] at hJ hns
   have hns' := smL_none.1 hns
   have hLn : L.length = n := (right_parts hR).2
   have hLj : Lj.length = n := (right_parts hJ.right).2
   have hje2 := joinE_zero hg hJ.right hn1 hbd hJ.size
   obtain ⟨M, hM⟩ : ∃ M : Nat, (maxL Lj + 1).toNat = M := ⟨_, rfl⟩
   have hcut := hJ.cut
   obtain ⟨bj, spj, rfl, rfl⟩ := hoj.at_ (by omega)
   refine f_skip ?_
   refine f_tn (kh8 _ _ ?_)
   clear kh8
   refine f_seq fun K11 kh11 => ?_
   refine f_region ?_
   refine f_stepP rfl rfl rfl (o_loadA (vs := [_, _]) Try.isAgg24 Try.sizeOf24 rfl rfl ⟨(rdA rfl), (rdA rfl), trivial⟩) ?_
   refine f_stepP rfl rfl rfl (o_move rfl) ?_
   refine f_step rfl rfl rfl (o_call Try.call11 rfl (fun w_ hp_ => Sizes9_spec (n : Int) A l cap (some ⟨bj, 0, none⟩) Lj cj w_ (hr.up0 hp_) hl hN hok (roOwn (b := bj) hp_ (fun j v hj => app_get hj)) (by omega) (spE_one hg hJ.right (by omega))) ?_)
   rintro _ _ ⟨bs, rfl, rfl⟩
   rw [sizesL, hM]
   dsimp only [List.cons_append, List.nil_append]
   refine f_stepP rfl rfl rfl (o_move rfl) ?_
   refine f_stepP rfl rfl rfl (o_extract rfl rfl) ?_
   refine f_stepP rfl rfl rfl (o_extract rfl rfl) ?_
   refine f_stepP rfl rfl rfl (o_assign rfl) ?_
   refine f_stepP rfl rfl rfl (o_assign rfl) ?_
   refine f_done ?_
   refine f_tn (kh11 _ _ ?_)
   clear kh11
   refine f_seq fun K12 kh12 => ?_
   refine f_region ?_
   refine f_stepP rfl rfl rfl (o_loadA (vs := [_, _]) Try.isAgg24 Try.sizeOf24 rfl rfl ⟨(rdA rfl), (rdA rfl), trivial⟩) ?_
   refine f_step rfl rfl rfl (o_call Try.call12 rfl (fun w_ hp_ => Pairs_spec (n : Int) A l cap w_ (hr.up0 hp_) hl hN hok) ?_)
   rintro _ own47 hq47
   rw [if_pos hg, Int.toNat_natCast] at hq47
   obtain ⟨Ap, mp, cp, rfl, rfl, hop⟩ := hq47
   have hpl := prs_len (n := n) hn2 l
   dsimp only [List.cons_append, List.nil_append]
   refine f_stepP rfl rfl rfl (o_move rfl) ?_
   refine f_stepP rfl rfl rfl (o_extract rfl rfl) ?_
   refine f_stepP rfl rfl rfl (o_extract rfl rfl) ?_
   refine f_stepP rfl rfl rfl (o_assign rfl) ?_
   refine f_stepP rfl rfl rfl (o_assign rfl) ?_
   refine f_done ?_
   refine f_tn (kh12 _ _ ?_)
   clear kh12
   refine f_seq fun K13 kh13 => ?_
   refine f_seq fun K14 kh14 => ?_
   refine f_region ?_
   refine f_stepP rfl rfl rfl (o_move rfl) ?_
   refine f_stepP rfl rfl rfl (o_neq rfl rfl) ?_
   refine f_stepP rfl rfl rfl (o_move rfl) ?_
   refine f_falseL 52 rfl (by simp) ?_
   refine f_stepPY rfl rfl rfl rfl rfl (o_move rfl) ?_
   refine f_stepPY rfl rfl rfl rfl rfl (o_neq rfl rfl) ?_
   refine f_stepP rfl rfl rfl (o_pickF rfl rfl) ?_
   refine f_done ?_
   refine f_tn (kh14 _ _ ?_)
   clear kh14
   refine f_condN rfl (by simp) ?_
   refine f_skip ?_
   refine f_tn (kh13 _ _ ?_)
   clear kh13
   refine f_seq fun K15 kh15 => ?_
   refine f_seq fun K16 kh16 => ?_
   refine f_region ?_
   refine f_stepP rfl rfl rfl (o_move rfl) ?_
   refine f_stepP rfl rfl rfl (o_len sl33 rfl) ?_
   refine f_stepP rfl rfl rfl (o_move rfl) ?_
   refine f_done ?_
   refine f_tn (kh16 _ _ ?_)
   clear kh16
   refine f_block ?_
   refine f_loop (α := Nat) [1, 2, 3, 7, 9, 56, 57] (fun k => [(58, .int .i64 (k : Int))]) (fun k => [[(bj, blk (ints Lj ++ spj) 3)], [(bs, blk (ints (szs M Lj)) 3)], mp, [(b3, blk [.int .i64 (n : Int), .slice A l.length cap] 24)]]) (fun k => k ≤ (prs n l).length) (fun k => (prs n l).length - k) (0) ?_ ?_ ?_ ?_
   · exact (by repeat (first | exact trivial | refine ⟨rfl, ?_⟩))
   · repeat (first | exact Sub.nil | refine Sub.pick ?_ | refine Sub.castO rfl ?_ | refine Sub.skip ?_)
   · exact Nat.zero_le _
   ·
    rintro k hkl
    refine f_seq fun K17 kh17 => ?_
    refine f_region ?_
    refine f_stepP rfl rfl rfl (o_lss rfl rfl) ?_
    refine f_done ?_
    refine f_tn (kh17 _ _ ?_)
    clear kh17
    refine f_seq fun K18 kh18 => ?_
    refine f_cond rfl (fun c59 => ?_) (fun c59 => ?_)
    ·
     have hk : k < (prs n l).length := by omega
     obtain ⟨bp, spp, rfl, rfl⟩ := hop.at_ (by omega)
     have hpr := prs_rng (List.getElem_mem hk)
     obtain ⟨a, ha, haM⟩ := lab_nonneg hJ.right hn1 hpr.1
     obtain ⟨b, hb, hbM⟩ := lab_nonneg hJ.right hn1 hpr.2
     rw [hM] at haM hbM
     have hnp := hns' _ (List.getElem_mem hk)
     rw [ha, hb, ← cnt_is, ← cnt_is] at hnp
     have hca := cnt_le Lj a
     have hcb' := cnt_le Lj b
     refine f_skip ?_
     refine f_tn (kh18 _ _ ?_)
     clear kh18
     refine f_seq fun K19 kh19 => ?_
     refine f_block ?_
     refine f_seq fun K20 kh20 => ?_
     refine f_region ?_
     refine f_stepP rfl rfl rfl (o_idx sl33 rfl rfl (k * 2) ⟨by omega, by omega, by first | omega | (simp; done) | (simp; omega)⟩) ?_
     refine f_stepP rfl rfl rfl (o_loadA (vs := prCs (prs n l)[k]) Try.isAgg37 Try.sizeOf37 rfl rfl (rdsOwn prCs_len hk)) ?_
     refine f_step rfl rfl rfl (o_alloc Try.zeroValue37 rfl fun b14 => ?_)
     refine f_step0 rfl rfl (o_storeA Try.sizeOf37 rfl rfl rfl rfl (by first | exact Nat.le_of_ble_eq_true rfl | (simp; done) | (simp; omega)) (prCs (prs n l)[k]) rfl ?_)
     refine f_done ?_
     refine f_tn (kh20 _ _ ?_)
     clear kh20
     refine f_seq fun K21 kh21 => ?_
     refine f_regionH [[(b14, blk [.int .i64 (prs n l)[k].1, .int .i64 (prs n l)[k].2] 37)], [(bj, blk (ints Lj ++ spj) 3)]] rfl ?_
     refine f_take 0 rfl (by decide +kernel) rfl rfl rfl (by repeat (first | exact Sub.nil | refine Sub.pick ?_ | refine Sub.castO rfl ?_ | refine Sub.skip ?_)) (o_move rfl) ?_
     refine f_take 1 rfl (by decide +kernel) rfl rfl rfl (by repeat (first | exact Sub.nil | refine Sub.pick ?_ | refine Sub.castO rfl ?_ | refine Sub.skip ?_)) (o_field fa37_0 rfl) ?_
     refine f_take 2 rfl (by decide +kernel) rfl rfl rfl (by repeat (first | exact Sub.nil | refine Sub.pick ?_ | refine Sub.castO rfl ?_ | refine Sub.skip ?_)) (o_load Try.isAgg3 rfl (rdA rfl)) ?_
     refine f_take 3 rfl (by decide +kernel) rfl rfl rfl (by repeat (first | exact Sub.nil | refine Sub.pick ?_ | refine Sub.castO rfl ?_ | refine Sub.skip ?_)) (o_idx sl25 rfl rfl ((prs n l)[k].1.toNat) ⟨by omega, by omega, by first | omega | (simp; done) | (simp; omega)⟩) ?_
     refine f_take 4 rfl (by decide +kernel) rfl rfl rfl (by repeat (first | exact Sub.nil | refine Sub.pick ?_ | refine Sub.castO rfl ?_ | refine Sub.skip ?_)) (o_load Try.isAgg3 rfl (show Rd _ _ _ _ _ (.int .i64 (a : Int)) by rw [← ha]; exact (rdA (v := .int .i64 (lab Lj (prs n l)[k].1)) (app_get (by rw [lab_at (by omega)]; exact ints_get (by omega)))))) ?_
     refine f_take 5 rfl (by decide +kernel) rfl rfl rfl (by repeat (first | exact Sub.nil | refine Sub.pick ?_ | refine Sub.castO rfl ?_ | refine Sub.skip ?_)) (o_move rfl) ?_
     refine f_take 6 rfl (by decide +kernel) rfl rfl rfl (by repeat (first | exact Sub.nil | refine Sub.pick ?_ | refine Sub.castO rfl ?_ | refine Sub.skip ?_)) (o_field fa37_1 rfl) ?_
     refine f_take 7 rfl (by decide +kernel) rfl rfl rfl (by repeat (first | exact Sub.nil | refine Sub.pick ?_ | refine Sub.castO rfl ?_ | refine Sub.skip ?_)) (o_load Try.isAgg3 rfl (rdA rfl)) ?_
     refine f_take 8 rfl (by decide +kernel) rfl rfl rfl (by repeat (first | exact Sub.nil | refine Sub.pick ?_ | refine Sub.castO rfl ?_ | refine Sub.skip ?_)) (o_idx sl25 rfl rfl ((prs n l)[k].2.toNat) ⟨by omega, by omega, by first | omega | (simp; done) | (simp; omega)⟩) ?_
     refine f_take 9 rfl (by decide +kernel) rfl rfl rfl (by repeat (first | exact Sub.nil | refine Sub.pick ?_ | refine Sub.castO rfl ?_ | refine Sub.skip ?_)) (o_load Try.isAgg3 rfl (show Rd _ _ _ _ _ (.int .i64 (b : Int)) by rw [← hb]; exact (rdA (v := .int .i64 (lab Lj (prs n l)[k].2)) (app_get (by rw [lab_at (by omega)]; exact ints_get (by omega)))))) ?_
     refine f_take 10 rfl (by decide +kernel) rfl rfl rfl (by repeat (first | exact Sub.nil | refine Sub.pick ?_ | refine Sub.castO rfl ?_ | refine Sub.skip ?_)) (o_assign rfl) ?_
     refine f_take 11 rfl (by decide +kernel) rfl rfl rfl (by repeat (first | exact Sub.nil | refine Sub.pick ?_ | refine Sub.castO rfl ?_ | refine Sub.skip ?_)) (o_assign rfl) ?_
     refine f_over (by decide +kernel) ?_
     refine f_tn (kh21 _ _ ?_)
     clear kh21
     refine f_seq fun K22 kh22 => ?_
     refine f_regionS rfl (by decide +kernel) ?_
     refine f_stillP rfl rfl rfl (o_move rfl) ?_
     refine f_stillP rfl rfl rfl (o_move rfl) ?_
     refine f_stillP rfl rfl rfl (o_neq rfl rfl) ?_
     refine f_stillP rfl rfl rfl (o_move rfl) ?_
     refine f_splitS 75 rfl (fun g75 => ?_) (fun g75 => ?_)
     ·
      refine f_stillPY rfl rfl rfl rfl rfl (o_move rfl) ?_
      refine f_stillPY rfl rfl rfl rfl rfl (o_move rfl) ?_
      refine f_stillPY rfl rfl rfl rfl rfl (o_idx sl25 rfl rfl (a) ⟨by omega, by omega, by first | omega | (simp; done) | (simp; omega)⟩) ?_
      refine f_stillPY rfl rfl rfl rfl rfl (o_load Try.isAgg3 rfl (rdA (v := .int .i64 (cnt Lj a : Int)) (by rw [ints_get (by rw [szs_len]; exact haM), szs_get haM]))) ?_
      refine f_stillPY rfl rfl rfl rfl rfl (o_move rfl) ?_
      refine f_stillPY rfl rfl rfl rfl rfl (o_move rfl) ?_
      refine f_stillPY rfl rfl rfl rfl rfl (o_idx sl25 rfl rfl (b) ⟨by omega, by omega, by first | omega | (simp; done) | (simp; omega)⟩) ?_
      refine f_stillPY rfl rfl rfl rfl rfl (o_load Try.isAgg3 rfl (rdA (v := .int .i64 (cnt Lj b : Int)) (by rw [ints_get (by rw [szs_len]; exact hbM), szs_get hbM]))) ?_
      refine f_stillPY rfl rfl rfl rfl rfl (o_add rfl rfl _ (wrap_i64 (by omega))) ?_
      refine f_stillPY rfl rfl rfl rfl rfl (o_move rfl) ?_
      refine f_stillPY rfl rfl rfl rfl rfl (o_leq rfl rfl) ?_
      refine f_stillP rfl rfl rfl (o_pickT rfl rfl) ?_
      refine f_stillD ?_
      refine f_tn (kh22 _ _ ?_)
      clear kh22
      refine f_condN rfl (by have := hnp (by assumption); omega) ?_
      refine f_skip ?_
      refine f_bn ?_
      refine f_tn (kh19 _ _ ?_)
      clear kh19
      refine f_region ?_
      refine f_stepP rfl rfl rfl (o_add rfl rfl _ (wrap_i64 (by omega))) ?_
      refine f_stepP rfl rfl rfl (o_move rfl) ?_
      refine f_done ?_
      refine f_tn (f_again (k + 1) (by first | omega | (dsimp only; omega) | (simp; omega)) (by omega) ?_ ?_ ?_)
      · exact (by repeat (first | exact trivial | refine ⟨rfl, ?_⟩))
      · exact (by repeat (first | exact trivial | refine ⟨rfl, ?_⟩))
      · repeat (first | exact Sub.nil | refine Sub.pick ?_ | refine Sub.castO rfl ?_ | refine Sub.skip ?_)
     ·
      refine f_stillN rfl rfl rfl rfl rfl rfl ?_
      refine f_stillN rfl rfl rfl rfl rfl rfl ?_
      refine f_stillN rfl rfl rfl rfl rfl rfl ?_
      refine f_stillN rfl rfl rfl rfl rfl rfl ?_
      refine f_stillN rfl rfl rfl rfl rfl rfl ?_
      refine f_stillN rfl rfl rfl rfl rfl rfl ?_
      refine f_stillN rfl rfl rfl rfl rfl rfl ?_
      refine f_stillN rfl rfl rfl rfl rfl rfl ?_
      refine f_stillN rfl rfl rfl rfl rfl rfl ?_
      refine f_stillN rfl rfl rfl rfl rfl rfl ?_
      refine f_stillN rfl rfl rfl rfl rfl rfl ?_
      refine f_stillP rfl rfl rfl (o_pickF rfl rfl) ?_
      refine f_stillD ?_
      refine f_tn (kh22 _ _ ?_)
      clear kh22
      refine f_condF rfl ?_
      refine f_skip ?_
      refine f_bn ?_
      refine f_tn (kh19 _ _ ?_)
      clear kh19
      refine f_region ?_
      refine f_stepP rfl rfl rfl (o_add rfl rfl _ (wrap_i64 (by omega))) ?_
      refine f_stepP rfl rfl rfl (o_move rfl) ?_
      refine f_done ?_
      refine f_tn (f_again (k + 1) (by first | omega | (dsimp only; omega) | (simp; omega)) (by omega) ?_ ?_ ?_)
      · exact (by repeat (first | exact trivial | refine ⟨rfl, ?_⟩))
      · exact (by repeat (first | exact trivial | refine ⟨rfl, ?_⟩))
      · repeat (first | exact Sub.nil | refine Sub.pick ?_ | refine Sub.castO rfl ?_ | refine Sub.skip ?_)
    ·
     refine f_exit ?_
     refine f_te ?_
     clear kh18
     refine f_te ?_
     refine f_be ?_
     refine f_tn (kh15 _ _ ?_)
     clear kh15
     refine f_seq fun K23 kh23 => ?_
     refine f_region ?_
     refine f_stepP rfl rfl rfl (o_loadA (vs := [_, _]) Try.isAgg24 Try.sizeOf24 rfl rfl ⟨(rdA rfl), (rdA rfl), trivial⟩) ?_
     refine f_stepP rfl rfl rfl (o_move rfl) ?_
     refine f_stepP rfl rfl rfl (o_move rfl) ?_
     refine f_step rfl rfl rfl (o_call Try.call9 rfl (fun w_ hp_ => Join_spec (n : Int) A (some ⟨bj, 0, none⟩) l cap Lj cj bd w_ (hr.up0 hp_) hl hN hok (roOwn (b := bj) hp_ (fun j v hj => app_get hj)) (by omega)) ?_)
     rintro _ _ ⟨Lk, Ak, ck, mk_, rfl, rfl, hok_, _, hk0⟩
     obtain ⟨_, _, hTk⟩ := hk0 hje2
     rw [Int.toNat_natCast] at hTk
     obtain rfl : Lj = Lk := (join_stays hTk hns).symm
     rw [hje2]
     dsimp only [List.cons_append, List.nil_append]
     refine f_stepP rfl rfl rfl (o_move rfl) ?_
     refine f_stepP rfl rfl rfl (o_extract rfl rfl) ?_
     refine f_stepP rfl rfl rfl (o_extract rfl rfl) ?_
     refine f_stepP rfl rfl rfl (o_assign rfl) ?_
     refine f_stepP rfl rfl rfl (o_assign rfl) ?_
     refine f_done ?_
     refine f_tn (kh23 _ _ ?_)
     clear kh23
     refine f_seq fun K24 kh24 => ?_
     refine f_region ?_
     refine f_stepP rfl rfl rfl (o_loadA (vs := [_, _]) Try.isAgg24 Try.sizeOf24 rfl rfl ⟨(rdA rfl), (rdA rfl), trivial⟩) ?_
     refine f_stepP rfl rfl rfl (o_move rfl) ?_
     refine f_step rfl rfl rfl (o_call Try.call13 rfl (fun w_ hp_ => Count_spec (n : Int) A B l cap L cb w_ (hr.up0 hp_) hl hN hok (hL.up0 hp_) hm) ?_)
     rintro _ _ ⟨rfl, rfl⟩
     rw [lcnt_right hg hR]
     dsimp only [List.cons_append, List.nil_append]
     refine f_stepP rfl rfl rfl (o_move rfl) ?_
     refine f_stepP rfl rfl rfl (o_extract rfl rfl) ?_
     refine f_stepP rfl rfl rfl (o_extract rfl rfl) ?_
     refine f_stepP rfl rfl rfl (o_assign rfl) ?_
     refine f_stepP rfl rfl rfl (o_assign rfl) ?_
     refine f_done ?_
     refine f_tn (kh24 _ _ ?_)
     clear kh24
     refine f_seq fun K25 kh25 => ?_
     refine f_region ?_
     refine f_stepP rfl rfl rfl (o_loadA (vs := [_, _]) Try.isAgg24 Try.sizeOf24 rfl rfl ⟨(rdA rfl), (rdA rfl), trivial⟩) ?_
     refine f_stepP rfl rfl rfl (o_move rfl) ?_
     refine f_step rfl rfl rfl (o_call Try.call13 rfl (fun w_ hp_ => Count_spec (n : Int) A (some ⟨bj, 0, none⟩) l cap Lj cj w_ (hr.up0 hp_) hl hN hok (roOwn (b := bj) hp_ (fun j v hj => app_get hj)) (by omega)) ?_)
     rintro _ _ ⟨rfl, rfl⟩
     rw [lcnt_right hg hJ.right]
     dsimp only [List.cons_append, List.nil_append]
     refine f_stepP rfl rfl rfl (o_move rfl) ?_
     refine f_stepP rfl rfl rfl (o_extract rfl rfl) ?_
     refine f_stepP rfl rfl rfl (o_extract rfl rfl) ?_
     refine f_stepP rfl rfl rfl (o_assign rfl) ?_
     refine f_stepP rfl rfl rfl (o_assign rfl) ?_
     refine f_done ?_
     refine f_tn (kh25 _ _ ?_)
     clear kh25
     refine f_seq fun K26 kh26 => ?_
     refine f_region ?_
     refine f_stepP rfl rfl rfl (o_move rfl) ?_
     refine f_stepP rfl rfl rfl (o_eql rfl rfl) ?_
     refine f_stepP rfl rfl rfl (o_move rfl) ?_
     refine f_trueL 110 rfl (rfl) ?_
     refine f_stepPY rfl rfl rfl rfl rfl (o_move rfl) ?_
     refine f_stepPY rfl rfl rfl rfl rfl (o_move rfl) ?_
     refine f_stepY rfl rfl rfl rfl rfl (o_call Try.call14 rfl (fun w_ hp_ => SameInts_spec (some ⟨bj, 0, none⟩) Ak Lj Lj cj ck w_ (roOwn (b := bj) hp_ (fun j v hj => app_get hj)) (seen_ro (hok_.seen hp_)) (by omega)) ?_)
     rintro _ _ ⟨rfl, rfl⟩
     rw [decide_eq_true rfl]
     dsimp only [List.cons_append, List.nil_append]
     refine f_stepP rfl rfl rfl (o_pickT rfl rfl) ?_
     refine f_stepP rfl rfl rfl (o_move rfl) ?_
     refine f_stepPY rfl rfl rfl rfl rfl (o_move rfl) ?_
     refine f_stepPY rfl rfl rfl rfl rfl (o_eql rfl rfl) ?_
     refine f_stepP rfl rfl rfl (o_pickT rfl rfl) ?_
     refine f_stepP rfl rfl rfl (o_move rfl) ?_
     refine f_trueL 119 rfl (rfl) ?_
     refine f_stepPY rfl rfl rfl rfl rfl (o_move rfl) ?_
     refine f_stepPY rfl rfl rfl rfl rfl (o_eql rfl rfl) ?_
     refine f_stepP rfl rfl rfl (o_pickT rfl rfl) ?_
     refine f_stepP rfl rfl rfl (o_move rfl) ?_
     refine f_trueL 123 rfl (rfl) ?_
     refine f_stepPY rfl rfl rfl rfl rfl (o_move rfl) ?_
     refine f_stepPY rfl rfl rfl rfl rfl (o_move rfl) ?_
     refine f_stepPY rfl rfl rfl rfl rfl (o_leq rfl rfl) ?_
     refine f_stepP rfl rfl rfl (o_pickT rfl rfl) ?_
     refine f_stepP rfl rfl rfl (o_assign rfl) ?_
     refine f_done ?_
     refine f_tn (kh26 _ _ ?_)
     clear kh26
     refine f_ret ?_
     exact f_fin1 [] Try.results4 rfl Sub.nil ⟨by rw [decide_eq_true (by omega)], rfl⟩

end Go.Proofs.Ytkhjckghpakliaa

/- How graphs of this program read. -/
namespace Go.Proofs.Ytkhjckghpakliaa
open Go Go.RowKit Fly
set_option linter.unusedVariables false
set_option linter.unusedSimpArgs false


theorem rdArc {H : Type} {enc : TypeId × Value → H} (W : World) : Reads enc Try.prog W 44 arcCs ArcOk :=
  reads_arc Try.underlying44 (by kernel_rfl) ⟨rfl, by kernel_rfl⟩ ⟨rfl, by kernel_rfl⟩ ⟨rfl, by kernel_rfl⟩ Try.underlying3 Try.underlying3 Try.underlying42
theorem rdGraph {H : Type} {enc : TypeId × Value → H} (W : World) : Reads enc Try.prog W 24 (fun x : Int × Option Addr × List Arc × Nat => [.int .i64 x.1, .slice x.2.1 x.2.2.1.length x.2.2.2]) (fun x => GrIn W x.1 x.2.1 x.2.2.1 x.2.2.2) :=
  reads_graph Try.underlying24 (by kernel_rfl) ⟨rfl, by kernel_rfl⟩ ⟨rfl, by kernel_rfl⟩ Try.underlying3 Try.underlying22 (by kernel_rfl) (rdArc W)

end Go.Proofs.Ytkhjckghpakliaa
