import Derived.Test.YtkhjckghpakliaaAll7
import Derived.Test.YtkhjckghpakliaaAll0
import Derived.Test.YtkhjckghpakliaaFlyT
import Derived.Test.YtkhjckghpakliaaFlyR

/- flyoverlaw09: SplitHolds. -/
namespace Go.Proofs.Ytkhjckghpakliaa
open Go Go.RowKit Fly
set_option linter.unusedVariables false
set_option linter.unusedSimpArgs false


theorem joinE_zero {n : Nat} {l : List Arc} {L : List Int} {bd : Int} (hg : (gcheck (n : Int) l).2 = 0) (hR : rightB (n : Int) L = true) (hn : 1 ≤ n) (hb : 1 ≤ bd ∧ bd ≤ 1024) (hs : ∀ y, (cntI L y : Int) ≤ bd) : joinE (n : Int) l L bd = 0 := by
  have hrg := right_range hR hn
  have hl := (right_parts hR).2
  have h0 : 0 < L.length := by omega
  have hx := hrg L[0] (List.getElem_mem h0)
  unfold joinE
  rw [if_neg (by rw [spE_one hg hR hb]; simp), if_neg (by have := max_cnt (L := L) (by unfold sizesL; rw [szs_len]; omega) hs; omega)]
theorem labs_get {L : List Int} {u : Nat} (h : u < L.length) : (ints L)[u]? = some (.int .i64 (lab L (u : Int))) := by rw [lab_get h]; exact ints_get h

set_option maxRecDepth 100000 in
set_option maxHeartbeats 4000000 in
theorem SplitHolds_spec (N : Int) (A : Option Addr) (l : List Arc) (cap : Nat) (B : Option Addr) (L : List Int) (cb : Nat) (bd : Int) (w : World) (hr : Ro (Fr w []) w A (l.flatMap arcCs)) (hl : l.length ≤ 9223372036854775807) (hN : I64 N) (hok : ∀ x ∈ l, ArcOk x) (hL : Ro (Fr w []) w B (ints L)) (hm : L.length ≤ 9223372036854775807) :
    Meets Try.prog 3 [.agg #[.int .i64 N, .slice A l.length cap], .slice B L.length cb, .int .i64 bd] w [] (fun u m => u = .bool true ∧ m = []) := by
 refine f_enter Try.func3 rfl Try.ntmps3 rfl Owns.nil ?_
 refine f_seq fun K1 kh1 => ?_
 refine f_region ?_
 refine f_step rfl rfl rfl (o_box rfl rfl fun b3 => ?_)
 refine f_stepP rfl rfl rfl (o_assign rfl) ?_
 refine f_done ?_
 refine f_tn (kh1 _ _ ?_)
 clear kh1
 refine f_seq fun K2 kh2 => ?_
 refine f_seq fun K3 kh3 => ?_
 refine f_region ?_
 refine f_step rfl rfl rfl (o_call Try.call6 rfl (fun w_ hp_ => works_spec w_) ?_)
 rintro _ _ ⟨rfl, rfl⟩
 dsimp only [List.cons_append, List.nil_append]
 refine f_stepP rfl rfl rfl (o_not rfl) ?_
 refine f_done ?_
 refine f_tn (kh3 _ _ ?_)
 clear kh3
 refine f_condF rfl ?_
 refine f_skip ?_
 refine f_tn (kh2 _ _ ?_)
 clear kh2
 refine f_seq fun K4 kh4 => ?_
 refine f_seq fun K5 kh5 => ?_
 refine f_region ?_
 refine f_stepP rfl rfl rfl (o_loadA (vs := [_, _]) Try.isAgg24 Try.sizeOf24 rfl rfl ⟨(rdA rfl), (rdA rfl), trivial⟩) ?_
 refine f_step rfl rfl rfl (o_call Try.call7 rfl (fun w_ hp_ => large_spec N A l cap w_ (hr.up0 hp_) hl hN hok) ?_)
 rintro _ _ ⟨bL, rfl, rfl⟩
 dsimp only [List.cons_append, List.nil_append]
 refine f_done ?_
 refine f_tn (kh5 _ _ ?_)
 clear kh5
 refine f_condB rfl (fun c16 => ?_) (fun c16 => ?_)
 ·
  refine f_seq fun K6 kh6 => ?_
  refine f_region ?_
  refine f_stepP rfl rfl rfl (o_assign rfl) ?_
  refine f_done ?_
  refine f_tn (kh6 _ _ ?_)
  clear kh6
  refine f_ret ?_
  refine f_tr ?_
  exact f_fin1 [] Try.results3 rfl Sub.nil ⟨rfl, rfl⟩
 ·
  refine f_skip ?_
  refine f_tn (kh4 _ _ ?_)
  clear kh4
  refine f_seq fun K7 kh7 => ?_
  refine f_region ?_
  refine f_stepP rfl rfl rfl (o_loadA (vs := [_, _]) Try.isAgg24 Try.sizeOf24 rfl rfl ⟨(rdA rfl), (rdA rfl), trivial⟩) ?_
  refine f_stepP rfl rfl rfl (o_move rfl) ?_
  refine f_stepP rfl rfl rfl (o_move rfl) ?_
  refine f_step rfl rfl rfl (o_call Try.call8 rfl (fun w_ hp_ => CutUp_spec N A B l cap L cb bd w_ (hr.up0 hp_) hl hN hok (hL.up0 hp_) hm) ?_)
  rintro _ _ ⟨La, Aa, ca, ma, rfl, rfl, hoa, hae, ha0⟩
  dsimp only [List.cons_append, List.nil_append]
  refine f_stepP rfl rfl rfl (o_move rfl) ?_
  refine f_stepP rfl rfl rfl (o_extract rfl rfl) ?_
  refine f_stepP rfl rfl rfl (o_extract rfl rfl) ?_
  refine f_stepP rfl rfl rfl (o_assign rfl) ?_
  refine f_stepP rfl rfl rfl (o_assign rfl) ?_
  refine f_done ?_
  refine f_tn (kh7 _ _ ?_)
  clear kh7
  refine f_seq fun K8 kh8 => ?_
  refine f_seq fun K9 kh9 => ?_
  refine f_region ?_
  refine f_stepP rfl rfl rfl (o_move rfl) ?_
  refine f_stepP rfl rfl rfl (o_neq rfl rfl) ?_
  refine f_done ?_
  refine f_tn (kh9 _ _ ?_)
  clear kh9
  refine f_cond rfl (fun c25 => ?_) (fun c25 => ?_)
  ·
   obtain rfl := hae c25
   refine f_seq fun K10 kh10 => ?_
   refine f_region ?_
   refine f_stepP rfl rfl rfl (o_move rfl) ?_
   refine f_stepP rfl rfl rfl (o_len sl25 rfl) ?_
   refine f_stepP rfl rfl rfl (o_eql rfl rfl) ?_
   refine f_stepP rfl rfl rfl (o_assign rfl) ?_
   refine f_done ?_
   refine f_tn (kh10 _ _ ?_)
   clear kh10
   refine f_ret ?_
   refine f_tr ?_
   exact f_fin1 [] Try.results3 rfl Sub.nil ⟨by simp, rfl⟩
  ·
   have hz : spE N l L bd = 0 := by simpa using c25
   obtain rfl := ha0 hz
   obtain ⟨n, rfl, hn1, hn2, hg, hR, hbd⟩ := spE_zero hz
   obtain ⟨b, rfl⟩ : ∃ b : Nat, bd = (b : Int) := ⟨bd.toNat, by omega⟩
   rw [Int.toNat_natCast] at hoa ⊢
   obtain ⟨_, _, hl8, _⟩ := gcheck_zero hg
   obtain ⟨hRa, hSa', hFa⟩ := cut_holds (l := l) hR hn1 hn2 hl8 (b := b) (by omega)
   obtain ⟨La, hLa⟩ : ∃ La, cutL l L b = La := ⟨_, rfl⟩
   rw [hLa] at hoa hRa hSa' hFa ⊢
   have hSa : ∀ y, (cntI La y : Int) ≤ (b : Int) := fun y => by have := hSa' y; omega
   have hLn : L.length = n := (right_parts hR).2
   have hLan : La.length = n := (right_parts hRa).2
   have hje := joinE_zero hg hRa hn1 hbd hSa
   obtain ⟨ba, spa, rfl, rfl⟩ := hoa.at_ (by omega)
   obtain ⟨bb, ob, rfl, hSb, hcb⟩ := hL (fun e => by have := ints_length L; rw [e] at this; simp at this; omega)
   refine f_skip ?_
   refine f_tn (kh8 _ _ ?_)
   clear kh8
   refine f_seq fun K11 kh11 => ?_
   refine f_region ?_
   refine f_stepP rfl rfl rfl (o_loadA (vs := [_, _]) Try.isAgg24 Try.sizeOf24 rfl rfl ⟨(rdA rfl), (rdA rfl), trivial⟩) ?_
   refine f_stepP rfl rfl rfl (o_move rfl) ?_
   refine f_stepP rfl rfl rfl (o_move rfl) ?_
   refine f_step rfl rfl rfl (o_call Try.call9 rfl (fun w_ hp_ => Join_spec (n : Int) A (some ⟨ba, 0, none⟩) l cap La ca (b : Int) w_ (hr.up0 hp_) hl hN hok (roOwn (b := ba) hp_ (fun j v hj => app_get hj)) (by omega)) ?_)
   rintro _ _ ⟨Lj, Aj, cj, mj, rfl, rfl, hoj, _, hj0⟩
   obtain ⟨hJ, _, _⟩ := hj0 hje
   rw [hje]
   rw [Int.toNat_natCast] at hJ
   have hLj : Lj.length = n := (right_parts hJ.right).2
   obtain ⟨bj, spj, rfl, rfl⟩ := hoj.at_ (by omega)
   dsimp only [List.cons_append, List.nil_append]
   refine f_stepP rfl rfl rfl (o_move rfl) ?_
   refine f_stepP rfl rfl rfl (o_extract rfl rfl) ?_
   refine f_stepP rfl rfl rfl (o_extract rfl rfl) ?_
   refine f_stepP rfl rfl rfl (o_assign rfl) ?_
   refine f_stepP rfl rfl rfl (o_assign rfl) ?_
   refine f_done ?_
   refine f_tn (kh11 _ _ ?_)
   clear kh11
   refine f_seq fun K12 kh12 => ?_
   refine f_seq fun K13 kh13 => ?_
   refine f_region ?_
   refine f_stepP rfl rfl rfl (o_move rfl) ?_
   refine f_stepP rfl rfl rfl (o_neq rfl rfl) ?_
   refine f_stepP rfl rfl rfl (o_move rfl) ?_
   refine f_falseL 38 rfl (by simp) ?_
   refine f_stepPY rfl rfl rfl rfl rfl (o_loadA (vs := [_, _]) Try.isAgg24 Try.sizeOf24 rfl rfl ⟨(rdA rfl), (rdA rfl), trivial⟩) ?_
   refine f_stepPY rfl rfl rfl rfl rfl (o_move rfl) ?_
   refine f_stepPY rfl rfl rfl rfl rfl (o_move rfl) ?_
   refine f_stepY rfl rfl rfl rfl rfl (o_call Try.call10 rfl (fun w_ hp_ => bounded_spec n A l cap (some ⟨ba, 0, none⟩) La ca (b : Int) w_ (hr.up0 hp_) hl hN hok (roOwn (b := ba) hp_ (fun j v hj => app_get hj)) (by omega) hg hRa hSa) ?_)
   rintro _ _ ⟨rfl, rfl⟩
   dsimp only [List.cons_append, List.nil_append]
   refine f_stepPY rfl rfl rfl rfl rfl (o_not rfl) ?_
   refine f_stepP rfl rfl rfl (o_pickF rfl rfl) ?_
   refine f_stepP rfl rfl rfl (o_move rfl) ?_
   refine f_stepPY rfl rfl rfl rfl rfl (o_loadA (vs := [_, _]) Try.isAgg24 Try.sizeOf24 rfl rfl ⟨(rdA rfl), (rdA rfl), trivial⟩) ?_
   refine f_stepPY rfl rfl rfl rfl rfl (o_move rfl) ?_
   refine f_stepPY rfl rfl rfl rfl rfl (o_move rfl) ?_
   refine f_stepY rfl rfl rfl rfl rfl (o_call Try.call10 rfl (fun w_ hp_ => bounded_spec n A l cap (some ⟨bj, 0, none⟩) Lj cj (b : Int) w_ (hr.up0 hp_) hl hN hok (roOwn (b := bj) hp_ (fun j v hj => app_get hj)) (by omega) hg hJ.right hJ.size) ?_)
   rintro _ _ ⟨rfl, rfl⟩
   dsimp only [List.cons_append, List.nil_append]
   refine f_stepPY rfl rfl rfl rfl rfl (o_not rfl) ?_
   refine f_stepP rfl rfl rfl (o_pickF rfl rfl) ?_
   refine f_done ?_
   refine f_tn (kh13 _ _ ?_)
   clear kh13
   refine f_condF rfl ?_
   refine f_skip ?_
   refine f_tn (kh12 _ _ ?_)
   clear kh12
   refine f_seq fun K14 kh14 => ?_
   refine f_seq fun K15 kh15 => ?_
   refine f_region ?_
   refine f_stepP rfl rfl rfl (o_move rfl) ?_
   refine f_stepP rfl rfl rfl (o_len sl25 rfl) ?_
   refine f_stepP rfl rfl rfl (o_move rfl) ?_
   refine f_done ?_
   refine f_tn (kh15 _ _ ?_)
   clear kh15
   refine f_block ?_
   refine f_loop (α := Nat) [1, 7, 9, 53] (fun v => [(54, .int .i64 (v : Int))]) (fun v => [[(ba, blk (ints La ++ spa) 3)], [(bj, blk (ints Lj ++ spj) 3)]]) (fun v => v ≤ n) (fun v => n - v) (0) ?_ ?_ ?_ ?_
   · exact (by repeat (first | exact trivial | refine ⟨rfl, ?_⟩))
   · repeat (first | exact Sub.nil | refine Sub.pick ?_ | refine Sub.castO rfl ?_ | refine Sub.skip ?_)
   · exact Nat.zero_le _
   ·
    rintro v hvn
    refine f_seq fun K16 kh16 => ?_
    refine f_region ?_
    refine f_stepP rfl rfl rfl (o_lss rfl rfl) ?_
    refine f_done ?_
    refine f_tn (kh16 _ _ ?_)
    clear kh16
    refine f_seq fun K17 kh17 => ?_
    refine f_cond rfl (fun c55 => ?_) (fun c55 => ?_)
    ·
     have hv : v < n := by omega
     refine f_skip ?_
     refine f_tn (kh17 _ _ ?_)
     clear kh17
     refine f_seq fun K18 kh18 => ?_
     refine f_block ?_
     refine f_seq fun K19 kh19 => ?_
     refine f_region ?_
     refine f_stepP rfl rfl rfl (o_move rfl) ?_
     refine f_stepP rfl rfl rfl (o_assign rfl) ?_
     refine f_done ?_
     refine f_tn (kh19 _ _ ?_)
     clear kh19
     refine f_seq fun K20 kh20 => ?_
     refine f_region ?_
     refine f_stepP rfl rfl rfl (o_move rfl) ?_
     refine f_stepP rfl rfl rfl (o_move rfl) ?_
     refine f_done ?_
     refine f_tn (kh20 _ _ ?_)
     clear kh20
     refine f_block ?_
     refine f_loop (α := Nat) [1, 7, 9, 11, 53, 54, 57] (fun u => [(58, .int .i64 (u : Int))]) (fun u => [[(ba, blk (ints La ++ spa) 3)], [(bj, blk (ints Lj ++ spj) 3)]]) (fun u => u ≤ v) (fun u => v - u) (0) ?_ ?_ ?_ ?_
     · exact (by repeat (first | exact trivial | refine ⟨rfl, ?_⟩))
     · repeat (first | exact Sub.nil | refine Sub.pick ?_ | refine Sub.castO rfl ?_ | refine Sub.skip ?_)
     · exact Nat.zero_le _
     ·
      rintro u huv
      refine f_envC (e := [(58, _), (1, _), (7, _), (9, _), (11, _), (53, _), (54, _), (57, _)]) (by repeat (first | exact trivial | refine ⟨rfl, ?_⟩)) ?_
      refine f_seq fun K21 kh21 => ?_
      refine f_region ?_
      refine f_stepP rfl rfl rfl (o_lss rfl rfl) ?_
      refine f_done ?_
      refine f_tn (kh21 _ _ ?_)
      clear kh21
      refine f_seq fun K22 kh22 => ?_
      refine f_cond rfl (fun c59 => ?_) (fun c59 => ?_)
      ·
       have hu : u < n := by omega
       refine f_skip ?_
       refine f_tn (kh22 _ _ ?_)
       clear kh22
       refine f_seq fun K23 kh23 => ?_
       refine f_block ?_
       refine f_seq fun K24 kh24 => ?_
       refine f_region ?_
       refine f_stepP rfl rfl rfl (o_move rfl) ?_
       refine f_stepP rfl rfl rfl (o_assign rfl) ?_
       refine f_done ?_
       refine f_tn (kh24 _ _ ?_)
       clear kh24
       refine f_seq fun K25 kh25 => ?_
       refine f_regionS rfl (by decide +kernel) ?_
       refine f_stillP rfl rfl rfl (o_move rfl) ?_
       refine f_stillP rfl rfl rfl (o_move rfl) ?_
       refine f_stillP rfl rfl rfl (o_idx sl25 rfl rfl (ob + u) ⟨by omega, by omega, by first | omega | (simp; done) | (simp; omega)⟩) ?_
       refine f_stillP rfl rfl rfl (o_load Try.isAgg3 rfl (show Rd _ _ _ _ _ (.int .i64 (lab L (u : Int))) by rw [lab_get (by omega)]; exact roOne (enc := (.int .i64 ·)) hSb hcb (by omega))) ?_
       refine f_stillP rfl rfl rfl (o_move rfl) ?_
       refine f_stillP rfl rfl rfl (o_move rfl) ?_
       refine f_stillP rfl rfl rfl (o_idx sl25 rfl rfl (ob + v) ⟨by omega, by omega, by first | omega | (simp; done) | (simp; omega)⟩) ?_
       refine f_stillP rfl rfl rfl (o_load Try.isAgg3 rfl (show Rd _ _ _ _ _ (.int .i64 (lab L (v : Int))) by rw [lab_get (by omega)]; exact roOne (enc := (.int .i64 ·)) hSb hcb (by omega))) ?_
       refine f_stillP rfl rfl rfl (o_neq rfl rfl) ?_
       refine f_stillP rfl rfl rfl (o_move rfl) ?_
       refine f_splitS 70 rfl (fun g70 => ?_) (fun g70 => ?_)
       ·
        refine f_stillPY rfl rfl rfl rfl rfl (o_move rfl) ?_
        refine f_stillPY rfl rfl rfl rfl rfl (o_move rfl) ?_
        refine f_stillPY rfl rfl rfl rfl rfl (o_idx sl25 rfl rfl (u) ⟨by omega, by omega, by first | omega | (simp; done) | (simp; omega)⟩) ?_
        refine f_stillPY rfl rfl rfl rfl rfl (o_load Try.isAgg3 rfl (rdA (v := .int .i64 (lab La (u : Int))) (app_get (labs_get (by omega))))) ?_
        refine f_stillPY rfl rfl rfl rfl rfl (o_move rfl) ?_
        refine f_stillPY rfl rfl rfl rfl rfl (o_move rfl) ?_
        refine f_stillPY rfl rfl rfl rfl rfl (o_idx sl25 rfl rfl (v) ⟨by omega, by omega, by first | omega | (simp; done) | (simp; omega)⟩) ?_
        refine f_stillPY rfl rfl rfl rfl rfl (o_load Try.isAgg3 rfl (rdA (v := .int .i64 (lab La (v : Int))) (app_get (labs_get (by omega))))) ?_
        refine f_stillPY rfl rfl rfl rfl rfl (o_eql rfl rfl) ?_
        refine f_stillP rfl rfl rfl (o_pickT rfl rfl) ?_
        refine f_stillP rfl rfl rfl (o_move rfl) ?_
        refine f_falseS 81 rfl (by have := hFa u v (by omega) (by omega); first | exact fun e => g70 (this e) | simp) ?_
        refine f_stillPY rfl rfl rfl rfl rfl (o_move rfl) ?_
        refine f_stillPY rfl rfl rfl rfl rfl (o_move rfl) ?_
        refine f_stillPY rfl rfl rfl rfl rfl (o_idx sl25 rfl rfl (u) ⟨by omega, by omega, by first | omega | (simp; done) | (simp; omega)⟩) ?_
        refine f_stillPY rfl rfl rfl rfl rfl (o_load Try.isAgg3 rfl (rdA (v := .int .i64 (lab La (u : Int))) (app_get (labs_get (by omega))))) ?_
        refine f_stillPY rfl rfl rfl rfl rfl (o_move rfl) ?_
        refine f_stillPY rfl rfl rfl rfl rfl (o_move rfl) ?_
        refine f_stillPY rfl rfl rfl rfl rfl (o_idx sl25 rfl rfl (v) ⟨by omega, by omega, by first | omega | (simp; done) | (simp; omega)⟩) ?_
        refine f_stillPY rfl rfl rfl rfl rfl (o_load Try.isAgg3 rfl (rdA (v := .int .i64 (lab La (v : Int))) (app_get (labs_get (by omega))))) ?_
        refine f_stillPY rfl rfl rfl rfl rfl (o_eql rfl rfl) ?_
        refine f_stillPY rfl rfl rfl rfl rfl (o_move rfl) ?_
        refine f_splitS 91 rfl (fun g91 => ?_) (fun g91 => ?_)
        ·
         refine f_stillPY rfl rfl rfl rfl rfl (o_move rfl) ?_
         refine f_stillPY rfl rfl rfl rfl rfl (o_move rfl) ?_
         refine f_stillPY rfl rfl rfl rfl rfl (o_idx sl25 rfl rfl (u) ⟨by omega, by omega, by first | omega | (simp; done) | (simp; omega)⟩) ?_
         refine f_stillPY rfl rfl rfl rfl rfl (o_load Try.isAgg3 rfl (rdA (v := .int .i64 (lab Lj (u : Int))) (app_get (labs_get (by omega))))) ?_
         refine f_stillPY rfl rfl rfl rfl rfl (o_move rfl) ?_
         refine f_stillPY rfl rfl rfl rfl rfl (o_move rfl) ?_
         refine f_stillPY rfl rfl rfl rfl rfl (o_idx sl25 rfl rfl (v) ⟨by omega, by omega, by first | omega | (simp; done) | (simp; omega)⟩) ?_
         refine f_stillPY rfl rfl rfl rfl rfl (o_load Try.isAgg3 rfl (rdA (v := .int .i64 (lab Lj (v : Int))) (app_get (labs_get (by omega))))) ?_
         refine f_stillPY rfl rfl rfl rfl rfl (o_neq rfl rfl) ?_
         refine f_stillPY rfl rfl rfl rfl rfl (o_pickT rfl rfl) ?_
         refine f_stillP rfl rfl rfl (o_pickF rfl rfl) ?_
         refine f_stillD ?_
         refine f_tn (kh25 _ _ ?_)
         clear kh25
         refine f_cond rfl (fun c102 => ?_) (fun c102 => ?_)
         ·
          refine f_seq fun K26 kh26 => ?_
          refine f_region ?_
          refine f_stepP rfl rfl rfl (o_assign rfl) ?_
          refine f_done ?_
          refine f_tn (kh26 _ _ ?_)
          clear kh26
          refine f_ret ?_
          refine f_br ?_
          refine f_tr ?_
          refine f_tr ?_
          refine f_br ?_
          refine f_br ?_
          refine f_tr ?_
          refine f_tr ?_
          refine f_br ?_
          refine f_tr ?_
          exact absurd (hJ.coarse u v (by omega) (by omega) g91) c102
         ·
          refine f_skip ?_
          refine f_bn ?_
          refine f_tn (kh23 _ _ ?_)
          clear kh23
          refine f_region ?_
          refine f_stepP rfl rfl rfl (o_add rfl rfl _ (wrap_i64 (by omega))) ?_
          refine f_stepP rfl rfl rfl (o_move rfl) ?_
          refine f_done ?_
          refine f_tn (f_again (u + 1) (by first | omega | (dsimp only; omega) | (simp; omega)) (by omega) ?_ ?_ ?_)
          · exact (by repeat (first | exact trivial | refine ⟨rfl, ?_⟩))
          · exact (by repeat (first | exact trivial | refine ⟨rfl, ?_⟩))
          · repeat (first | exact Sub.nil | refine Sub.pick ?_ | refine Sub.castO rfl ?_ | refine Sub.skip ?_)
        ·
         refine f_stillN rfl rfl rfl rfl rfl rfl ?_
         refine f_stillN rfl rfl rfl rfl rfl rfl ?_
         refine f_stillN rfl rfl rfl rfl rfl rfl ?_
         refine f_stillN rfl rfl rfl rfl rfl rfl ?_
         refine f_stillN rfl rfl rfl rfl rfl rfl ?_
         refine f_stillN rfl rfl rfl rfl rfl rfl ?_
         refine f_stillN rfl rfl rfl rfl rfl rfl ?_
         refine f_stillN rfl rfl rfl rfl rfl rfl ?_
         refine f_stillN rfl rfl rfl rfl rfl rfl ?_
         refine f_stillPY rfl rfl rfl rfl rfl (o_pickF rfl rfl) ?_
         refine f_stillP rfl rfl rfl (o_pickF rfl rfl) ?_
         refine f_stillD ?_
         refine f_tn (kh25 _ _ ?_)
         clear kh25
         refine f_condF rfl ?_
         refine f_skip ?_
         refine f_bn ?_
         refine f_tn (kh23 _ _ ?_)
         clear kh23
         refine f_region ?_
         refine f_stepP rfl rfl rfl (o_add rfl rfl _ (wrap_i64 (by omega))) ?_
         refine f_stepP rfl rfl rfl (o_move rfl) ?_
         refine f_done ?_
         refine f_tn (f_again (u + 1) (by first | omega | (dsimp only; omega) | (simp; omega)) (by omega) ?_ ?_ ?_)
         · exact (by repeat (first | exact trivial | refine ⟨rfl, ?_⟩))
         · exact (by repeat (first | exact trivial | refine ⟨rfl, ?_⟩))
         · repeat (first | exact Sub.nil | refine Sub.pick ?_ | refine Sub.castO rfl ?_ | refine Sub.skip ?_)
       ·
        refine f_stillN rfl rfl rfl rfl rfl rfl ?_
        refine f_stillN rfl rfl rfl rfl rfl rfl ?_
        refine f_stillN rfl rfl rfl rfl rfl rfl ?_
        refine f_stillN rfl rfl rfl rfl rfl rfl ?_
        refine f_stillN rfl rfl rfl rfl rfl rfl ?_
        refine f_stillN rfl rfl rfl rfl rfl rfl ?_
        refine f_stillN rfl rfl rfl rfl rfl rfl ?_
        refine f_stillN rfl rfl rfl rfl rfl rfl ?_
        refine f_stillN rfl rfl rfl rfl rfl rfl ?_
        refine f_stillP rfl rfl rfl (o_pickF rfl rfl) ?_
        refine f_stillP rfl rfl rfl (o_move rfl) ?_
        refine f_stillPY rfl rfl rfl rfl rfl (o_move rfl) ?_
        refine f_stillPY rfl rfl rfl rfl rfl (o_move rfl) ?_
        refine f_stillPY rfl rfl rfl rfl rfl (o_idx sl25 rfl rfl (u) ⟨by omega, by omega, by first | omega | (simp; done) | (simp; omega)⟩) ?_
        refine f_stillPY rfl rfl rfl rfl rfl (o_load Try.isAgg3 rfl (rdA (v := .int .i64 (lab La (u : Int))) (app_get (labs_get (by omega))))) ?_
        refine f_stillPY rfl rfl rfl rfl rfl (o_move rfl) ?_
        refine f_stillPY rfl rfl rfl rfl rfl (o_move rfl) ?_
        refine f_stillPY rfl rfl rfl rfl rfl (o_idx sl25 rfl rfl (v) ⟨by omega, by omega, by first | omega | (simp; done) | (simp; omega)⟩) ?_
        refine f_stillPY rfl rfl rfl rfl rfl (o_load Try.isAgg3 rfl (rdA (v := .int .i64 (lab La (v : Int))) (app_get (labs_get (by omega))))) ?_
        refine f_stillPY rfl rfl rfl rfl rfl (o_eql rfl rfl) ?_
        refine f_stillPY rfl rfl rfl rfl rfl (o_move rfl) ?_
        refine f_splitS 91 rfl (fun g91 => ?_) (fun g91 => ?_)
        ·
         refine f_stillPY rfl rfl rfl rfl rfl (o_move rfl) ?_
         refine f_stillPY rfl rfl rfl rfl rfl (o_move rfl) ?_
         refine f_stillPY rfl rfl rfl rfl rfl (o_idx sl25 rfl rfl (u) ⟨by omega, by omega, by first | omega | (simp; done) | (simp; omega)⟩) ?_
         refine f_stillPY rfl rfl rfl rfl rfl (o_load Try.isAgg3 rfl (rdA (v := .int .i64 (lab Lj (u : Int))) (app_get (labs_get (by omega))))) ?_
         refine f_stillPY rfl rfl rfl rfl rfl (o_move rfl) ?_
         refine f_stillPY rfl rfl rfl rfl rfl (o_move rfl) ?_
         refine f_stillPY rfl rfl rfl rfl rfl (o_idx sl25 rfl rfl (v) ⟨by omega, by omega, by first | omega | (simp; done) | (simp; omega)⟩) ?_
         refine f_stillPY rfl rfl rfl rfl rfl (o_load Try.isAgg3 rfl (rdA (v := .int .i64 (lab Lj (v : Int))) (app_get (labs_get (by omega))))) ?_
         refine f_stillPY rfl rfl rfl rfl rfl (o_neq rfl rfl) ?_
         refine f_stillPY rfl rfl rfl rfl rfl (o_pickT rfl rfl) ?_
         refine f_stillP rfl rfl rfl (o_pickF rfl rfl) ?_
         refine f_stillD ?_
         refine f_tn (kh25 _ _ ?_)
         clear kh25
         refine f_cond rfl (fun c102 => ?_) (fun c102 => ?_)
         ·
          refine f_seq fun K27 kh27 => ?_
          refine f_region ?_
          refine f_stepP rfl rfl rfl (o_assign rfl) ?_
          refine f_done ?_
          refine f_tn (kh27 _ _ ?_)
          clear kh27
          refine f_ret ?_
          refine f_br ?_
          refine f_tr ?_
          refine f_tr ?_
          refine f_br ?_
          refine f_br ?_
          refine f_tr ?_
          refine f_tr ?_
          refine f_br ?_
          refine f_tr ?_
          exact absurd (hJ.coarse u v (by omega) (by omega) g91) c102
         ·
          refine f_skip ?_
          refine f_bn ?_
          refine f_tn (kh23 _ _ ?_)
          clear kh23
          refine f_region ?_
          refine f_stepP rfl rfl rfl (o_add rfl rfl _ (wrap_i64 (by omega))) ?_
          refine f_stepP rfl rfl rfl (o_move rfl) ?_
          refine f_done ?_
          refine f_tn (f_again (u + 1) (by first | omega | (dsimp only; omega) | (simp; omega)) (by omega) ?_ ?_ ?_)
          · exact (by repeat (first | exact trivial | refine ⟨rfl, ?_⟩))
          · exact (by repeat (first | exact trivial | refine ⟨rfl, ?_⟩))
          · repeat (first | exact Sub.nil | refine Sub.pick ?_ | refine Sub.castO rfl ?_ | refine Sub.skip ?_)
        ·
         refine f_stillN rfl rfl rfl rfl rfl rfl ?_
         refine f_stillN rfl rfl rfl rfl rfl rfl ?_
         refine f_stillN rfl rfl rfl rfl rfl rfl ?_
         refine f_stillN rfl rfl rfl rfl rfl rfl ?_
         refine f_stillN rfl rfl rfl rfl rfl rfl ?_
         refine f_stillN rfl rfl rfl rfl rfl rfl ?_
         refine f_stillN rfl rfl rfl rfl rfl rfl ?_
         refine f_stillN rfl rfl rfl rfl rfl rfl ?_
         refine f_stillN rfl rfl rfl rfl rfl rfl ?_
         refine f_stillPY rfl rfl rfl rfl rfl (o_pickF rfl rfl) ?_
         refine f_stillP rfl rfl rfl (o_pickF rfl rfl) ?_
         refine f_stillD ?_
         refine f_tn (kh25 _ _ ?_)
         clear kh25
         refine f_condF rfl ?_
         refine f_skip ?_
         refine f_bn ?_
         refine f_tn (kh23 _ _ ?_)
         clear kh23
         refine f_region ?_
         refine f_stepP rfl rfl rfl (o_add rfl rfl _ (wrap_i64 (by omega))) ?_
         refine f_stepP rfl rfl rfl (o_move rfl) ?_
         refine f_done ?_
         refine f_tn (f_again (u + 1) (by first | omega | (dsimp only; omega) | (simp; omega)) (by omega) ?_ ?_ ?_)
         · exact (by repeat (first | exact trivial | refine ⟨rfl, ?_⟩))
         · exact (by repeat (first | exact trivial | refine ⟨rfl, ?_⟩))
         · repeat (first | exact Sub.nil | refine Sub.pick ?_ | refine Sub.castO rfl ?_ | refine Sub.skip ?_)
      ·
       refine f_exit ?_
       refine f_te ?_
       clear kh22
       refine f_te ?_
       refine f_be ?_
       refine f_bn ?_
       refine f_tn (kh18 _ _ ?_)
       clear kh18
       refine f_region ?_
       refine f_stepP rfl rfl rfl (o_add rfl rfl _ (wrap_i64 (by omega))) ?_
       refine f_stepP rfl rfl rfl (o_move rfl) ?_
       refine f_done ?_
       refine f_tn (f_again (v + 1) (by first | omega | (dsimp only; omega) | (simp; omega)) (by omega) ?_ ?_ ?_)
       · exact (by repeat (first | exact trivial | refine ⟨rfl, ?_⟩))
       · exact (by repeat (first | exact trivial | refine ⟨rfl, ?_⟩))
       · repeat (first | exact Sub.nil | refine Sub.pick ?_ | refine Sub.castO rfl ?_ | refine Sub.skip ?_)
    ·
     refine f_exit ?_
     refine f_te ?_
     clear kh17
     refine f_te ?_
     refine f_be ?_
     refine f_tn (kh14 _ _ ?_)
     clear kh14
     refine f_seq fun K28 kh28 => ?_
     refine f_region ?_
     refine f_stepP rfl rfl rfl (o_assign rfl) ?_
     refine f_done ?_
     refine f_tn (kh28 _ _ ?_)
     clear kh28
     refine f_ret ?_
     exact f_fin1 [] Try.results3 rfl Sub.nil ⟨rfl, rfl⟩

end Go.Proofs.Ytkhjckghpakliaa

/- graph.Parts: the labels of what is connected. -/
namespace Go.Proofs.Ytkhjckghpakliaa
open Go Go.RowKit Fly
set_option linter.unusedVariables false
set_option linter.unusedSimpArgs false


abbrev upSegs (bu bx : Nat) (up : List Nat) : List Seg := [[(bu, blk (nats up) 3)], [(bx, blk [.slice (some ⟨bu, 0, none⟩) up.length up.length] 25)]]

set_option maxRecDepth 100000 in
set_option maxHeartbeats 4000000 in
theorem root_spec (bu bx : Nat) (up : List Nat) (v : Nat) (w : World) (ho : Owns w (upSegs bu bx up)) (hd : Down up) (hv : v < up.length) (hn : up.length ≤ 1000000) :
    Meets Try.prog 31 [.int .i64 (v : Int), .pointer (some ⟨bx, 0, none⟩)] w (upSegs bu bx up)
      (fun u own' => u = .int .i64 (rootOf up v : Int) ∧ ∃ up', own' = upSegs bu bx up' ∧ up'.length = up.length ∧ Down up' ∧ ∀ x, rootOf up' x = rootOf up x) := by
 refine f_enter Try.func31 rfl Try.ntmps31 rfl ho ?_
 unfold upSegs
 refine f_seq fun K1 kh1 => ?_
 refine f_region ?_
 refine f_stepP rfl rfl rfl (o_assign rfl) ?_
 refine f_done ?_
 refine f_tn (kh1 _ _ ?_)
 clear kh1
 refine f_seq fun K2 kh2 => ?_
 refine f_block ?_
 refine f_loop (α := Nat × List Nat) [1] (fun ⟨v', up'⟩ => [(0, .int .i64 (v' : Int))]) (fun ⟨v', up'⟩ => [[(bu, blk (nats up') 3)], [(bx, blk [.slice (some ⟨bu, 0, none⟩) up.length up.length] 25)]]) (fun ⟨v', up'⟩ => up'.length = up.length ∧ v' < up'.length ∧ Down up' ∧ (∀ x, rootOf up' x = rootOf up x) ∧ rootOf up v' = rootOf up v) (fun ⟨v', up'⟩ => v') (v, up) ?_ ?_ ?_ ?_
 · exact (by repeat (first | exact trivial | refine ⟨rfl, ?_⟩))
 · repeat (first | exact Sub.nil | refine Sub.pick ?_ | refine Sub.castO rfl ?_ | refine Sub.skip ?_)
 · exact ⟨rfl, hv, hd, fun _ => rfl, rfl⟩
 ·
  rintro ⟨v', up'⟩ ⟨hl', hv', hd', hr', hrv⟩
  have hle := hd' v' hv'
  have h2 : up'[v'] < up'.length := by omega
  have hle2 := hd' _ h2
  refine f_seq fun K3 kh3 => ?_
  refine f_seq fun K4 kh4 => ?_
  refine f_region ?_
  refine f_stepP rfl rfl rfl (o_load Try.isAgg25 rfl (rdA rfl)) ?_
  refine f_stepP rfl rfl rfl (o_move rfl) ?_
  refine f_stepP rfl rfl rfl (o_idx sl25 rfl rfl (v') ⟨by omega, by omega, by first | omega | (simp; done) | (simp; omega)⟩) ?_
  refine f_stepP rfl rfl rfl (o_load Try.isAgg3 rfl (rdA (nats_get hv'))) ?_
  refine f_stepP rfl rfl rfl (o_move rfl) ?_
  refine f_stepP rfl rfl rfl (o_neq rfl rfl) ?_
  refine f_done ?_
  refine f_tn (kh4 _ _ ?_)
  clear kh4
  refine f_cond rfl (fun c9 => ?_) (fun c9 => ?_)
  ·
   refine f_skip ?_
   refine f_tn (kh3 _ _ ?_)
   clear kh3
   refine f_block ?_
   refine f_seq fun K5 kh5 => ?_
   refine f_regionT 10 rfl (by decide +kernel) ?_
   refine f_stillP rfl rfl rfl (o_load Try.isAgg25 rfl (rdA rfl)) ?_
   refine f_stillP rfl rfl rfl (o_move rfl) ?_
   refine f_stillP rfl rfl rfl (o_load Try.isAgg25 rfl (rdA rfl)) ?_
   refine f_stillP rfl rfl rfl (o_load Try.isAgg25 rfl (rdA rfl)) ?_
   refine f_stillP rfl rfl rfl (o_move rfl) ?_
   refine f_stillP rfl rfl rfl (o_idx sl25 rfl rfl (v') ⟨by omega, by omega, by first | omega | (simp; done) | (simp; omega)⟩) ?_
   refine f_stillP rfl rfl rfl (o_load Try.isAgg3 rfl (rdA (nats_get hv'))) ?_
   refine f_stillP rfl rfl rfl (o_idx sl25 rfl rfl (up'[v']) ⟨by omega, by omega, by first | omega | (simp; done) | (simp; omega)⟩) ?_
   refine f_stillP rfl rfl rfl (o_load Try.isAgg3 rfl (rdA (nats_get h2))) ?_
   refine f_stillP rfl rfl rfl (o_idx sl25 rfl rfl (v') ⟨by omega, by omega, by first | omega | (simp; done) | (simp; omega)⟩) ?_
   refine f_stillD (f_tail ?_)
   refine f_step0 rfl rfl (o_store Try.sizeOf3 rfl rfl rfl rfl (by rw [nats_length]; omega) (nats (up'.set v' up'[up'[v']])) (nats_set _ _ _) ?_)
   refine f_done ?_
   refine f_tn (kh5 _ _ ?_)
   clear kh5
   refine f_region ?_
   refine f_stepP rfl rfl rfl (o_load Try.isAgg25 rfl (rdA rfl)) ?_
   refine f_stepP rfl rfl rfl (o_move rfl) ?_
   refine f_stepP rfl rfl rfl (o_idx sl25 rfl rfl (v') ⟨by omega, by omega, by first | omega | (simp; done) | (simp; omega)⟩) ?_
   refine f_stepP rfl rfl rfl (o_load Try.isAgg3 rfl (rdA (nats_set_get hv'))) ?_
   refine f_stepP rfl rfl rfl (o_assign rfl) ?_
   refine f_done ?_
   refine f_bn ?_
   refine f_tn (f_again (up'[up'[v']], up'.set v' up'[up'[v']]) (by first | omega | (dsimp only; omega) | (simp; omega)) ⟨by simp [hl'], by simp; omega, down_halve hd' hv' h2, fun x => by rw [rootOf_halve hd' hv' h2]; exact hr' x, by rw [← hrv, ← hr', ← hr', rootOf_two hd' hv' h2]⟩ ?_ ?_ ?_)
   · exact (by repeat (first | exact trivial | refine ⟨rfl, ?_⟩))
   · exact (by repeat (first | exact trivial | refine ⟨rfl, ?_⟩))
   · repeat (first | exact Sub.nil | refine Sub.pick ?_ | refine Sub.castO rfl ?_ | refine Sub.skip ?_)
  ·
   refine f_exit ?_
   refine f_te ?_
   clear kh3
   refine f_te ?_
   refine f_be ?_
   refine f_tn (kh2 _ _ ?_)
   clear kh2
   refine f_seq fun K6 kh6 => ?_
   refine f_region ?_
   refine f_stepP rfl rfl rfl (o_move rfl) ?_
   refine f_stepP rfl rfl rfl (o_assign rfl) ?_
   refine f_done ?_
   refine f_tn (kh6 _ _ ?_)
   clear kh6
   refine f_ret ?_
   exact f_fin1 (upSegs bu bx up') Try.results31 rfl (by unfold upSegs; rw [hl']; exact Sub.refl) ⟨by rw [← hrv, ← hr', rootOf_stay hv' (by omega)], up', rfl, hl', hd', hr'⟩

set_option maxRecDepth 100000 in
set_option maxHeartbeats 4000000 in
theorem Parts_spec (N : Int) (A : Option Addr) (l : List Arc) (cap : Nat) (w : World) (hr : Ro (Fr w []) w A (l.flatMap arcCs)) (hl : l.length ≤ 9223372036854775807) (hN : I64 N) (hok : ∀ x ∈ l, ArcOk x) :
    Meets Try.prog 15 [.agg #[.int .i64 N, .slice A l.length cap]] w []
      (fun u own' => if (gcheck N l).2 = 0 then ∃ p b, u = .tuple #[.slice (some ⟨b, 0, none⟩) N.toNat N.toNat, .int .i64 0] ∧ own' = [[(b, blk (nats p) 3)]] ∧ IsParts N.toNat (ends2 l) p
        else u = .tuple #[.slice none 0 0, .int .i64 (gcheck N l).2] ∧ own' = []) := by
 refine f_enter Try.func15 rfl Try.ntmps15 rfl Owns.nil ?_
 refine f_seq fun K1 kh1 => ?_
 refine f_region ?_
 refine f_step rfl rfl rfl (o_box rfl rfl fun b1 => ?_)
 refine f_stepP rfl rfl rfl (o_assign rfl) ?_
 refine f_stepP rfl rfl rfl (o_assign rfl) ?_
 refine f_done ?_
 refine f_tn (kh1 _ _ ?_)
 clear kh1
 refine f_seq fun K2 kh2 => ?_
 refine f_seq fun K3 kh3 => ?_
 refine f_region ?_
 refine f_stepP rfl rfl rfl (o_loadA (vs := [_, _]) Try.isAgg24 Try.sizeOf24 rfl rfl ⟨(rdA rfl), (rdA rfl), trivial⟩) ?_
 refine f_step rfl rfl rfl (o_call Try.call28 rfl (fun w_ hp_ => Check_spec N A l cap w_ (hr.up0 hp_) hl hN hok) ?_)
 rintro _ _ ⟨rfl, rfl⟩
 dsimp only [List.cons_append, List.nil_append]
 refine f_stepP rfl rfl rfl (o_move rfl) ?_
 refine f_stepP rfl rfl rfl (o_extract rfl rfl) ?_
 refine f_stepP rfl rfl rfl (o_extract rfl rfl) ?_
 refine f_stepP rfl rfl rfl (o_assign rfl) ?_
 refine f_stepP rfl rfl rfl (o_assign rfl) ?_
 refine f_done ?_
 refine f_tn (kh3 _ _ ?_)
 clear kh3
 refine f_seq fun K4 kh4 => ?_
 refine f_region ?_
 refine f_stepP rfl rfl rfl (o_move rfl) ?_
 refine f_stepP rfl rfl rfl (o_neq rfl rfl) ?_
 refine f_done ?_
 refine f_tn (kh4 _ _ ?_)
 clear kh4
 refine f_cond rfl (fun c23 => ?_) (fun c23 => ?_)
 ·
  refine f_seq fun K5 kh5 => ?_
  refine f_region ?_
  refine f_stepP rfl rfl rfl (o_move rfl) ?_
  refine f_stepP rfl rfl rfl (o_assign rfl) ?_
  refine f_stepP rfl rfl rfl (o_assign rfl) ?_
  refine f_done ?_
  refine f_tn (kh5 _ _ ?_)
  clear kh5
  refine f_ret ?_
  refine f_tr ?_
  exact f_fin2 [] Try.results15 rfl rfl Sub.nil (by rw [if_neg (by simpa using c23)]; exact ⟨rfl, rfl⟩)
 ·
  have hc0 : (gcheck N l).2 = 0 := by simpa using c23
  obtain ⟨hN1, hN2, hlen, hgood⟩ := gcheck_zero hc0
  obtain ⟨n, rfl⟩ : ∃ n : Nat, N = n := ⟨N.toNat, by omega⟩
  clear c23
  refine f_skip ?_
  refine f_tn (kh2 _ _ ?_)
  clear kh2
  refine f_seq fun K6 kh6 => ?_
  refine f_region ?_
  refine f_stepP rfl rfl rfl (o_field fa24_0 rfl) ?_
  refine f_stepP rfl rfl rfl (o_load Try.isAgg3 rfl (rdA rfl)) ?_
  refine f_step rfl rfl rfl (o_make el25 rfl rfl n rfl (by omega) (by omega) (nats (List.replicate n 0)) (nats_replicate n) fun b27 => ?_)
  refine f_step rfl rfl rfl (o_alloc Try.zeroValue25 rfl fun b6 => ?_)
  refine f_step0 rfl rfl (o_store Try.sizeOf25 rfl rfl rfl rfl (by first | exact Nat.le_of_ble_eq_true rfl | (simp; done) | (simp; omega)) _ rfl ?_)
  refine f_done ?_
  refine f_tn (kh6 _ _ ?_)
  clear kh6
  refine f_seq fun K7 kh7 => ?_
  refine f_seq fun K8 kh8 => ?_
  refine f_region ?_
  refine f_stepP rfl rfl rfl (o_load Try.isAgg25 rfl (rdA rfl)) ?_
  refine f_stepP rfl rfl rfl (o_len sl25 rfl) ?_
  refine f_stepP rfl rfl rfl (o_move rfl) ?_
  refine f_done ?_
  refine f_tn (kh8 _ _ ?_)
  clear kh8
  refine f_block ?_
  refine f_loop (α := Nat × List Nat) [1, 6, 29] (fun ⟨k, up⟩ => [(30, .int .i64 (k : Int))]) (fun ⟨k, up⟩ => [[(b27, blk (nats up) 3)], [(b6, blk [.slice (some ⟨b27, 0, none⟩) n n] 25)], [(b1, blk [.int .i64 (n : Int), .slice A l.length cap] 24)]]) (fun ⟨k, up⟩ => k ≤ n ∧ up.length = n ∧ ∀ j (h : j < up.length), j < k → up[j] = j) (fun ⟨k, up⟩ => n - k) (0, List.replicate n 0) ?_ ?_ ?_ ?_
  · exact (by repeat (first | exact trivial | refine ⟨rfl, ?_⟩))
  · repeat (first | exact Sub.nil | refine Sub.pick ?_ | refine Sub.castO rfl ?_ | refine Sub.skip ?_)
  · exact ⟨by omega, by simp, fun j _ h => by omega⟩
  ·
   rintro ⟨k, up⟩ ⟨hkn, hul, hup⟩
   refine f_seq fun K9 kh9 => ?_
   refine f_region ?_
   refine f_stepP rfl rfl rfl (o_lss rfl rfl) ?_
   refine f_done ?_
   refine f_tn (kh9 _ _ ?_)
   clear kh9
   refine f_seq fun K10 kh10 => ?_
   refine f_cond rfl (fun c31 => ?_) (fun c31 => ?_)
   ·
    refine f_skip ?_
    refine f_tn (kh10 _ _ ?_)
    clear kh10
    refine f_seq fun K11 kh11 => ?_
    refine f_block ?_
    refine f_seq fun K12 kh12 => ?_
    refine f_region ?_
    refine f_stepP rfl rfl rfl (o_move rfl) ?_
    refine f_stepP rfl rfl rfl (o_assign rfl) ?_
    refine f_done ?_
    refine f_tn (kh12 _ _ ?_)
    clear kh12
    refine f_region ?_
    refine f_stepP rfl rfl rfl (o_load Try.isAgg25 rfl (rdA rfl)) ?_
    refine f_stepP rfl rfl rfl (o_move rfl) ?_
    refine f_stepP rfl rfl rfl (o_move rfl) ?_
    have hk : k < n := by omega
    refine f_stepP rfl rfl rfl (o_idx sl25 rfl rfl (k) ⟨by omega, by omega, by first | omega | (simp; done) | (simp; omega)⟩) ?_
    refine f_step0 rfl rfl (o_store Try.sizeOf3 rfl rfl rfl rfl (by rw [nats_length]; omega) (nats (up.set k k)) (nats_set _ _ _) ?_)
    refine f_done ?_
    refine f_bn ?_
    refine f_tn (kh11 _ _ ?_)
    clear kh11
    refine f_region ?_
    refine f_stepP rfl rfl rfl (o_add rfl rfl _ (wrap_i64 (by omega))) ?_
    refine f_stepP rfl rfl rfl (o_move rfl) ?_
    refine f_done ?_
    refine f_tn (f_again (k + 1, up.set k k) (by first | omega | (dsimp only; omega) | (simp; omega)) ⟨by omega, by simp [hul], fun j h hj => by rw [List.getElem_set]; split <;> first | assumption | exact hup j (by simpa using h) (by omega)⟩ ?_ ?_ ?_)
    · exact (by repeat (first | exact trivial | refine ⟨rfl, ?_⟩))
    · exact (by repeat (first | exact trivial | refine ⟨rfl, ?_⟩))
    · repeat (first | exact Sub.nil | refine Sub.pick ?_ | refine Sub.castO rfl ?_ | refine Sub.skip ?_)
   ·
    refine f_exit ?_
    refine f_te ?_
    clear kh10
    refine f_te ?_
    refine f_be ?_
    refine f_tn (kh7 _ _ ?_)
    clear kh7
    refine f_seq fun K13 kh13 => ?_
    refine f_region ?_
    refine f_stepP rfl rfl rfl (o_func rfl rfl) ?_
    refine f_stepP rfl rfl rfl (o_assign rfl) ?_
    refine f_done ?_
    refine f_tn (kh13 _ _ ?_)
    clear kh13
    refine f_seq fun K14 kh14 => ?_
    refine f_seq fun K15 kh15 => ?_
    refine f_region ?_
    refine f_stepP rfl rfl rfl (o_field fa24_1 rfl) ?_
    refine f_stepP rfl rfl rfl (o_load Try.isAgg22 rfl (rdA rfl)) ?_
    refine f_stepP rfl rfl rfl (o_len sl22 rfl) ?_
    refine f_stepP rfl rfl rfl (o_move rfl) ?_
    refine f_done ?_
    refine f_tn (kh15 _ _ ?_)
    clear kh15
    refine f_block ?_
    refine f_loop (α := Nat × List Nat) [1, 6, 8, 40, 41] (fun ⟨k, up⟩ => [(42, .int .i64 (k : Int))]) (fun ⟨k, up⟩ => [[(b27, blk (nats up) 3)], [(b6, blk [.slice (some ⟨b27, 0, none⟩) n n] 25)], [(b1, blk [.int .i64 (n : Int), .slice A l.length cap] 24)]]) (fun ⟨k, up⟩ => k ≤ l.length ∧ up.length = n ∧ Down up ∧ Tells up (ends2 (l.take k))) (fun ⟨k, up⟩ => l.length - k) (0, up) ?_ ?_ ?_ ?_
    · exact (by repeat (first | exact trivial | refine ⟨rfl, ?_⟩))
    · repeat (first | exact Sub.nil | refine Sub.pick ?_ | refine Sub.castO rfl ?_ | refine Sub.skip ?_)
    · exact ⟨by omega, hul, by have := up_range hul (fun j h => hup j h (by omega)); subst this; exact down_range n, by have := up_range hul (fun j h => hup j h (by omega)); subst this; exact tells_start n⟩
    ·
     rintro ⟨k, up⟩ ⟨hkl, hul, hd, ht⟩
     refine f_envC (e := [(42, _), (1, _), (6, _), (8, _), (40, _), (41, _)]) (by repeat (first | exact trivial | refine ⟨rfl, ?_⟩)) ?_
     refine f_seq fun K16 kh16 => ?_
     refine f_region ?_
     refine f_stepP rfl rfl rfl (o_lss rfl rfl) ?_
     refine f_done ?_
     refine f_tn (kh16 _ _ ?_)
     clear kh16
     refine f_seq fun K17 kh17 => ?_
     refine f_cond rfl (fun c43 => ?_) (fun c43 => ?_)
     ·
      refine f_skip ?_
      refine f_tn (kh17 _ _ ?_)
      clear kh17
      refine f_seq fun K18 kh18 => ?_
      refine f_block ?_
      refine f_seq fun K19 kh19 => ?_
      refine f_region ?_
      have hk : k < l.length := by omega
      obtain ⟨bl, off, rfl, hS, hc⟩ := hr (flat_ne arcCs arcCs_len (by omega) hk)
      obtain ⟨hs0, hs1, hd0, hd1'⟩ := hgood k hk
      have hsr : l[k].src.toNat < up.length := by omega
      have hsd : l[k].dst.toNat < up.length := by omega
      have hun : up.length ≤ 1000000 := by omega
      have esr : l[k].src = (l[k].src.toNat : Int) := by omega
      have esd : l[k].dst = (l[k].dst.toNat : Int) := by omega
      refine f_stepP rfl rfl rfl (o_idx sl22 rfl rfl (off + k * 3) ⟨by omega, by omega, by first | omega | (simp; done) | (simp; omega)⟩) ?_
      refine f_stepP rfl rfl rfl (o_loadA (vs := arcCs l[k]) Try.isAgg44 Try.sizeOf44 rfl rfl (roElem arcCs_len hS hc hk)) ?_
      refine f_step rfl rfl rfl (o_alloc Try.zeroValue44 rfl fun b10 => ?_)
      refine f_step0 rfl rfl (o_storeA Try.sizeOf44 rfl rfl rfl rfl (by first | exact Nat.le_of_ble_eq_true rfl | (simp; done) | (simp; omega)) _ rfl ?_)
      refine f_done ?_
      refine f_tn (kh19 _ _ ?_)
      clear kh19
      refine f_seq fun K20 kh20 => ?_
      refine f_regionH [[(b10, blk (arcCs l[k]) 44)]] rfl ?_
      refine f_take 0 rfl (by decide +kernel) rfl rfl rfl (by repeat (first | exact Sub.nil | refine Sub.pick ?_ | refine Sub.castO rfl ?_ | refine Sub.skip ?_)) (o_move rfl) ?_
      refine f_take 1 rfl (by decide +kernel) rfl rfl rfl (by repeat (first | exact Sub.nil | refine Sub.pick ?_ | refine Sub.castO rfl ?_ | refine Sub.skip ?_)) (o_field fa44_0 rfl) ?_
      refine f_take 2 rfl (by decide +kernel) rfl rfl rfl (by repeat (first | exact Sub.nil | refine Sub.pick ?_ | refine Sub.castO rfl ?_ | refine Sub.skip ?_)) (o_load (v := .int .i64 (l[k].src.toNat : Int)) Try.isAgg3 rfl (rdA (by rw [← esr]; rfl))) ?_
      refine f_take 4 rfl (by decide +kernel) rfl rfl rfl (by repeat (first | exact Sub.nil | refine Sub.pick ?_ | refine Sub.castO rfl ?_ | refine Sub.skip ?_)) (o_move rfl) ?_
      refine f_take 5 rfl (by decide +kernel) rfl rfl rfl (by repeat (first | exact Sub.nil | refine Sub.pick ?_ | refine Sub.castO rfl ?_ | refine Sub.skip ?_)) (o_field fa44_1 rfl) ?_
      refine f_take 6 rfl (by decide +kernel) rfl rfl rfl (by repeat (first | exact Sub.nil | refine Sub.pick ?_ | refine Sub.castO rfl ?_ | refine Sub.skip ?_)) (o_load (v := .int .i64 (l[k].dst.toNat : Int)) Try.isAgg3 rfl (rdA (by rw [← esd]; rfl))) ?_
      refine f_only 3 rfl (by decide +kernel) rfl rfl rfl (o_callV (upSegs b27 b6 up) _ Try.call31 rfl rfl (by unfold upSegs; rw [hul]; exact Sub.pick (Sub.pick Sub.refl)) (fun w_ hp_ => root_spec b27 b6 up _ w_ hp_.owns hd hsr hun) ?_)
      rintro _ _ ⟨rfl, up1, rfl, hl1, hd1, hr1⟩
      unfold upSegs
      rw [hl1, hul]
      dsimp only [List.cons_append, List.nil_append]
      refine ⟨(by repeat (first | exact Sub.nil | refine Sub.pick ?_ | refine Sub.castO rfl ?_ | refine Sub.skip ?_)), ?_⟩
      refine f_only 7 rfl (by decide +kernel) rfl rfl rfl (o_callV (upSegs b27 b6 up1) _ Try.call31 rfl rfl (by unfold upSegs; rw [hl1, hul]; exact Sub.pick (Sub.pick Sub.refl)) (fun w_ hp_ => root_spec b27 b6 up1 _ w_ hp_.owns hd1 (hl1 ▸ hsd) (hl1 ▸ hun)) ?_)
      rintro _ _ ⟨rfl, up2, rfl, hl2, hd2, hr2⟩
      unfold upSegs
      rw [hl2, hl1, hul]
      dsimp only [List.cons_append, List.nil_append]
      refine ⟨(by repeat (first | exact Sub.nil | refine Sub.pick ?_ | refine Sub.castO rfl ?_ | refine Sub.skip ?_)), ?_⟩
      refine f_only 8 rfl (by decide +kernel) rfl rfl rfl ((o_assign rfl).does ⟨(by repeat (first | exact Sub.nil | refine Sub.pick ?_ | refine Sub.castO rfl ?_ | refine Sub.skip ?_)), ?_⟩)
      refine f_only 9 rfl (by decide +kernel) rfl rfl rfl ((o_assign rfl).does ⟨(by repeat (first | exact Sub.nil | refine Sub.pick ?_ | refine Sub.castO rfl ?_ | refine Sub.skip ?_)), ?_⟩)
      refine f_over (by decide +kernel) ?_
      refine f_tn (kh20 _ _ ?_)
      clear kh20
      refine f_region ?_
      refine f_stepP rfl rfl rfl (o_load Try.isAgg25 rfl (rdA rfl)) ?_
      refine f_stepP rfl rfl rfl (o_move rfl) ?_
      refine f_stepP rfl rfl rfl (o_move rfl) ?_
      refine f_stepP rfl rfl rfl (o_max rfl rfl) ?_
      refine f_stepP rfl rfl rfl (o_move rfl) ?_
      refine f_stepP rfl rfl rfl (o_move rfl) ?_
      refine f_stepP rfl rfl rfl (o_min rfl rfl) ?_
      have e1 := hr1 l[k].dst.toNat
      have q1 := rootOf_le (up := up) l[k].src.toNat
      have q2 := rootOf_le (up := up) l[k].dst.toNat
      refine f_stepP rfl rfl rfl (o_idx sl25 rfl rfl (max (rootOf up l[k].src.toNat) (rootOf up l[k].dst.toNat)) ⟨by omega, by omega, by first | omega | (simp; done) | (simp; omega)⟩) ?_
      refine f_step0 rfl rfl (o_store Try.sizeOf3 rfl rfl rfl rfl (by rw [nats_length]; omega) (nats (up2.set (max (rootOf up l[k].src.toNat) (rootOf up l[k].dst.toNat)) (min (rootOf up l[k].src.toNat) (rootOf up l[k].dst.toNat)))) (by rw [← nats_set]; congr 2; omega) ?_)
      refine f_done ?_
      refine f_bn ?_
      refine f_tn (kh18 _ _ ?_)
      clear kh18
      refine f_region ?_
      refine f_stepP rfl rfl rfl (o_add rfl rfl _ (wrap_i64 (by omega))) ?_
      refine f_stepP rfl rfl rfl (o_move rfl) ?_
      refine f_done ?_
      refine f_tn (f_again (k + 1, up2.set (max (rootOf up l[k].src.toNat) (rootOf up l[k].dst.toNat)) (min (rootOf up l[k].src.toNat) (rootOf up l[k].dst.toNat))) (by first | omega | (dsimp only; omega) | (simp; omega)) ⟨by omega, by simp [hl2, hl1, hul], down_join hd2, by rw [ends2_take hk]; exact tells_next hd hd2 ht (hl2.trans hl1) (fun x => (hr2 x).trans (hr1 x)) (ends2_lt hul hgood k) hsr hsd⟩ ?_ ?_ ?_)
      · exact (by repeat (first | exact trivial | refine ⟨rfl, ?_⟩))
      · exact (by repeat (first | exact trivial | refine ⟨rfl, ?_⟩))
      · repeat (first | exact Sub.nil | refine Sub.pick ?_ | refine Sub.castO rfl ?_ | refine Sub.skip ?_)
     ·
      refine f_exit ?_
      refine f_te ?_
      clear kh17
      refine f_te ?_
      refine f_be ?_
      refine f_tn (kh14 _ _ ?_)
      clear kh14
      refine f_seq fun K21 kh21 => ?_
      refine f_region ?_
      refine f_stepP rfl rfl rfl (o_field fa24_0 rfl) ?_
      refine f_stepP rfl rfl rfl (o_load Try.isAgg3 rfl (rdA rfl)) ?_
      refine f_step rfl rfl rfl (o_make el25 rfl rfl n rfl (by omega) (by omega) (nats (List.replicate n 0)) (nats_replicate n) fun b65 => ?_)
      refine f_stepP rfl rfl rfl (o_assign rfl) ?_
      refine f_done ?_
      refine f_tn (kh21 _ _ ?_)
      clear kh21
      refine f_seq fun K22 kh22 => ?_
      refine f_region ?_
      refine f_stepP rfl rfl rfl (o_assign rfl) ?_
      refine f_done ?_
      refine f_tn (kh22 _ _ ?_)
      clear kh22
      refine f_seq fun K23 kh23 => ?_
      refine f_seq fun K24 kh24 => ?_
      refine f_region ?_
      refine f_stepP rfl rfl rfl (o_move rfl) ?_
      refine f_stepP rfl rfl rfl (o_len sl25 rfl) ?_
      refine f_stepP rfl rfl rfl (o_move rfl) ?_
      refine f_done ?_
      refine f_tn (kh24 _ _ ?_)
      clear kh24
      refine f_block ?_
      refine f_loop (α := Nat × List Nat × List Nat × Nat) [8, 13, 67] (fun ⟨k, up, out, nx⟩ => [(68, .int .i64 (k : Int)), (14, .int .i64 (nx : Int))]) (fun ⟨k, up, out, nx⟩ => [[(b27, blk (nats up) 3)], [(b6, blk [.slice (some ⟨b27, 0, none⟩) n n] 25)], [(b1, blk [.int .i64 (n : Int), .slice A l.length cap] 24)], [(b65, blk (nats out) 3)]]) (fun ⟨k, up, out, nx⟩ => k ≤ n ∧ up.length = n ∧ Down up ∧ Tells up (ends2 l) ∧ Labelled up k out nx) (fun ⟨k, up, out, nx⟩ => n - k) (0, up, List.replicate n 0, 0) ?_ ?_ ?_ ?_
      · exact (by repeat (first | exact trivial | refine ⟨rfl, ?_⟩))
      · repeat (first | exact Sub.nil | refine Sub.pick ?_ | refine Sub.castO rfl ?_ | refine Sub.skip ?_)
      · exact ⟨by omega, hul, hd, by rw [show l.take k = l from List.take_of_length_le (by omega)] at ht; exact ht, by have := labelled_start up; rw [hul] at this; exact this⟩
      ·
       rintro ⟨k, up, out, nx⟩ ⟨hkn, hul, hd, ht, hlab⟩
       have hol := hlab.len
       have hnx : nx ≤ k := by rw [← hlab.next]; exact nxt_le out k
       refine f_envC (e := [(68, _), (14, _), (8, _), (13, _), (67, _)]) (by repeat (first | exact trivial | refine ⟨rfl, ?_⟩)) ?_
       refine f_seq fun K25 kh25 => ?_
       refine f_region ?_
       refine f_stepP rfl rfl rfl (o_lss rfl rfl) ?_
       refine f_done ?_
       refine f_tn (kh25 _ _ ?_)
       clear kh25
       refine f_seq fun K26 kh26 => ?_
       refine f_cond rfl (fun c69 => ?_) (fun c69 => ?_)
       ·
        refine f_skip ?_
        refine f_tn (kh26 _ _ ?_)
        clear kh26
        refine f_seq fun K27 kh27 => ?_
        refine f_block ?_
        refine f_seq fun K28 kh28 => ?_
        refine f_region ?_
        refine f_stepP rfl rfl rfl (o_move rfl) ?_
        refine f_stepP rfl rfl rfl (o_assign rfl) ?_
        refine f_done ?_
        refine f_tn (kh28 _ _ ?_)
        clear kh28
        refine f_seq fun K29 kh29 => ?_
        refine f_seq fun K30 kh30 => ?_
        refine f_region ?_
        refine f_stepP rfl rfl rfl (o_move rfl) ?_
        refine f_stepP rfl rfl rfl (o_move rfl) ?_
        have hk' : k < up.length := by omega
        refine f_step rfl rfl rfl (o_callV (upSegs b27 b6 up) _ Try.call31 rfl rfl (by unfold upSegs; rw [hul]; exact Sub.pick (Sub.pick Sub.refl)) (fun w_ hp_ => root_spec b27 b6 up k w_ hp_.owns hd hk' (by omega)) ?_)
        rintro _ _ ⟨rfl, up1, rfl, hl1, hd1, hr1⟩
        unfold upSegs
        rw [hl1, hul]
        dsimp only [List.cons_append, List.nil_append]
        refine f_stepP rfl rfl rfl (o_assign rfl) ?_
        refine f_done ?_
        refine f_tn (kh30 _ _ ?_)
        clear kh30
        refine f_seq fun K31 kh31 => ?_
        refine f_region ?_
        refine f_stepP rfl rfl rfl (o_move rfl) ?_
        refine f_stepP rfl rfl rfl (o_move rfl) ?_
        refine f_stepP rfl rfl rfl (o_neq rfl rfl) ?_
        refine f_done ?_
        refine f_tn (kh31 _ _ ?_)
        clear kh31
        refine f_cond rfl (fun c76 => ?_) (fun c76 => ?_)
        ·
         refine f_seq fun K32 kh32 => ?_
         refine f_region ?_
         refine f_stepP rfl rfl rfl (o_move rfl) ?_
         refine f_stepP rfl rfl rfl (o_move rfl) ?_
         refine f_stepP rfl rfl rfl (o_move rfl) ?_
         refine f_stepP rfl rfl rfl (o_move rfl) ?_
         have hro : rootOf up k < out.length := by have := rootOf_le (up := up) k; omega
         refine f_stepP rfl rfl rfl (o_idx sl25 rfl rfl (rootOf up k) ⟨by omega, by omega, by first | omega | (simp; done) | (simp; omega)⟩) ?_
         refine f_stepP rfl rfl rfl (o_load Try.isAgg3 rfl (rdA (nats_get hro))) ?_
         refine f_stepP rfl rfl rfl (o_idx sl25 rfl rfl (k) ⟨by omega, by omega, by first | omega | (simp; done) | (simp; omega)⟩) ?_
         refine f_step0 rfl rfl (o_store Try.sizeOf3 rfl rfl rfl rfl (by rw [nats_length]; omega) (nats (out.set k out[rootOf up k])) (nats_set _ _ _) ?_)
         refine f_done ?_
         refine f_tn (kh32 _ _ ?_)
         clear kh32
         refine f_exit ?_
         refine f_te ?_
         clear kh29
         refine f_be ?_
         refine f_tn (kh27 _ _ ?_)
         clear kh27
         refine f_region ?_
         refine f_stepP rfl rfl rfl (o_add rfl rfl _ (wrap_i64 (by omega))) ?_
         refine f_stepP rfl rfl rfl (o_move rfl) ?_
         refine f_done ?_
         refine f_tn (f_again (k + 1, up1, out.set k out[rootOf up k], nx) (by first | omega | (dsimp only; omega) | (simp; omega)) ⟨by omega, hl1.trans hul, hd1, tells_roots ht hl1 hr1, by exact labelled_roots (labelled_old hd hlab hk' (by omega) hro) hl1 hr1⟩ ?_ ?_ ?_)
         · exact (by repeat (first | exact trivial | refine ⟨rfl, ?_⟩))
         · exact (by repeat (first | exact trivial | refine ⟨rfl, ?_⟩))
         · repeat (first | exact Sub.nil | refine Sub.pick ?_ | refine Sub.castO rfl ?_ | refine Sub.skip ?_)
        ·
         refine f_skip ?_
         refine f_tn (kh29 _ _ ?_)
         clear kh29
         refine f_seq fun K33 kh33 => ?_
         refine f_region ?_
         refine f_stepP rfl rfl rfl (o_move rfl) ?_
         refine f_stepP rfl rfl rfl (o_move rfl) ?_
         refine f_stepP rfl rfl rfl (o_move rfl) ?_
         refine f_stepP rfl rfl rfl (o_idx sl25 rfl rfl (k) ⟨by omega, by omega, by first | omega | (simp; done) | (simp; omega)⟩) ?_
         refine f_step0 rfl rfl (o_store Try.sizeOf3 rfl rfl rfl rfl (by rw [nats_length]; omega) (nats (out.set k nx)) (nats_set _ _ _) ?_)
         refine f_done ?_
         refine f_tn (kh33 _ _ ?_)
         clear kh33
         refine f_region ?_
         refine f_stepP rfl rfl rfl (o_move rfl) ?_
         refine f_stepP rfl rfl rfl (o_add rfl rfl _ (wrap_i64 (by omega))) ?_
         refine f_stepP rfl rfl rfl (o_assign rfl) ?_
         refine f_done ?_
         refine f_bn ?_
         refine f_tn (kh27 _ _ ?_)
         clear kh27
         refine f_region ?_
         refine f_stepP rfl rfl rfl (o_add rfl rfl _ (wrap_i64 (by omega))) ?_
         refine f_stepP rfl rfl rfl (o_move rfl) ?_
         refine f_done ?_
         refine f_tn (f_again (k + 1, up1, out.set k nx, nx + 1) (by first | omega | (dsimp only; omega) | (simp; omega)) ⟨by omega, hl1.trans hul, hd1, tells_roots ht hl1 hr1, by exact labelled_roots (labelled_new hd hlab hk' (by omega)) hl1 hr1⟩ ?_ ?_ ?_)
         · exact (by repeat (first | exact trivial | refine ⟨rfl, ?_⟩))
         · exact (by repeat (first | exact trivial | refine ⟨rfl, ?_⟩))
         · repeat (first | exact Sub.nil | refine Sub.pick ?_ | refine Sub.castO rfl ?_ | refine Sub.skip ?_)
       ·
        refine f_exit ?_
        refine f_te ?_
        clear kh26
        refine f_te ?_
        refine f_be ?_
        refine f_tn (kh23 _ _ ?_)
        clear kh23
        refine f_seq fun K34 kh34 => ?_
        refine f_region ?_
        refine f_stepP rfl rfl rfl (o_move rfl) ?_
        refine f_stepP rfl rfl rfl (o_assign rfl) ?_
        refine f_stepP rfl rfl rfl (o_assign rfl) ?_
        refine f_done ?_
        refine f_tn (kh34 _ _ ?_)
        clear kh34
        refine f_ret ?_
        exact f_fin2 [[(b65, blk (nats out) 3)]] Try.results15 rfl rfl (by repeat (first | exact Sub.nil | refine Sub.pick ?_ | refine Sub.cast rfl ?_)) (by rw [if_pos hc0]; exact ⟨out, b65, rfl, rfl, parts_end hul hlab ht (by omega)⟩)

end Go.Proofs.Ytkhjckghpakliaa

/- flyoverlaw09: SplitParts. -/
namespace Go.Proofs.Ytkhjckghpakliaa
open Go Go.RowKit Fly
set_option linter.unusedVariables false
set_option linter.unusedSimpArgs false


theorem Meets.flatS {P : Program} {f : FuncId} {args : List Value} {w : World} {own : List Seg} {Φ Ψ : Value → List Seg → Prop}
    (h : Meets P f args w own Φ) (hi : ∀ v m, Φ v m → ∃ m', Ψ v m' ∧ m'.flatten = m.flatten) : Meets P f args w own Ψ :=
  Calls.mono h fun _ _ ⟨v, m, he, hp, hf⟩ => by
    obtain ⟨m', h1, h2⟩ := hi v m hf
    exact ⟨v, m', he, by rw [h2]; exact hp, h1⟩
def natL (p : List Nat) : List Int := p.map fun x : Nat => (x : Int)
theorem natL_len (p : List Nat) : (natL p).length = p.length := by simp [natL]
theorem natL_ints (p : List Nat) : nats p = ints (natL p) := by simp [nats, natL, ints]
theorem tidy_rgo : ∀ (Q P : List Nat), (∀ k (h : k < Q.length), Q[k] ≤ nxt (P ++ Q) (P.length + k)) → rgo ((nxt P P.length : Nat) : Int) (natL Q) = true
  | [], _, _ => rfl
  | y :: Q, P, h => by
    have e0 : nxt (P ++ y :: Q) P.length = nxt P P.length := nxt_take _ _ _ fun j hj => List.getElem?_append_left hj
    have h0 := h 0 (by simp)
    simp only [List.getElem_cons_zero, Nat.add_zero] at h0
    rw [e0] at h0
    have hn : nxt (P ++ [y]) (P ++ [y]).length = if y = nxt P P.length then nxt P P.length + 1 else nxt P P.length := by
      rw [List.length_append, List.length_singleton]
      have e1 : nxt (P ++ [y]) P.length = nxt P P.length := nxt_take _ _ _ fun j hj => List.getElem?_append_left hj
      show (if (P ++ [y])[P.length]? = some (nxt (P ++ [y]) P.length) then nxt (P ++ [y]) P.length + 1 else nxt (P ++ [y]) P.length) = _
      rw [e1, List.getElem?_append_right (Nat.le_refl _), Nat.sub_self]
      by_cases hy : y = nxt P P.length
      · rw [if_pos hy]; rw [if_pos (by simp [← hy])]
      · rw [if_neg hy, if_neg (by simpa using hy)]
    have ih := tidy_rgo Q (P ++ [y]) fun k hk => by
      have := h (k + 1) (by simpa using hk)
      simp only [List.getElem_cons_succ] at this
      rw [List.length_append, List.length_singleton, List.append_assoc]
      rw [show P.length + (k + 1) = P.length + 1 + k by omega] at this
      exact this
    rw [hn] at ih
    show rgo _ ((y : Int) :: natL Q) = true
    unfold rgo
    rw [if_neg (by omega)]
    by_cases hy : y = nxt P P.length
    · rw [if_pos hy] at ih; rw [if_pos (by omega)]; exact ih
    · rw [if_neg hy] at ih; rw [if_neg (by omega)]; exact ih
theorem tidy_right {n : Nat} {p : List Nat} (h : Tidy p) (hl : p.length = n) : rightB (n : Int) (natL p) = true := by
  have := tidy_rgo p [] (fun k hk => by have := h k hk; simpa using this)
  unfold rightB
  rw [show rgo 0 (natL p) = true from this, natL_len, hl]; simp
theorem parts_join {n : Nat} {l : List Arc} {p : List Nat} {La : List Int} (hg : (gcheck (n : Int) l).2 = 0) (hp : IsParts n (ends2 l) p) (hJ : JInv n l (n : Int) (idL n) La) (hs : smL (prs n l) La (n : Int) = []) : natL p = La := by
  obtain ⟨hg1, hg2, _, hgd⟩ := gcheck_zero hg
  have hgood : ∀ a ∈ l, (0 ≤ a.src ∧ a.src < (n : Int)) ∧ 0 ≤ a.dst ∧ a.dst < (n : Int) := fun a ha => by
    obtain ⟨i, hi, rfl⟩ := List.mem_iff_getElem.1 ha
    have := hgd i hi; omega
  have hl := (right_parts hJ.right).2
  have hrg := right_range hJ.right (by omega)
  have hns := smL_none.1 hs
  have heq : ∀ q ∈ prs n l, lab La q.1 = lab La q.2 := fun q hq => Classical.byContradiction fun hne => by
    have h1 := hns q hq hne
    have h2 := cntI_two hne La
    omega
  have hpr : ∀ a ∈ l, lab La a.src = lab La a.dst := fun a ha => by
    by_cases e : a.src = a.dst
    · rw [e]
    · have hm : prOf a ∈ prs n l := (mem_prs hgood).2 (mem_prRaw.2 ⟨a, ha, e, rfl⟩)
      have := heq _ hm
      unfold prOf at this
      simp only at this
      rcases Int.le_total a.src a.dst with h | h
      · rw [Int.min_eq_left h, Int.max_eq_right h] at this; exact this
      · rw [Int.min_eq_right h, Int.max_eq_left h] at this; exact this.symm
  have hnn : ∀ u : Nat, u < n → 0 ≤ lab La (u : Int) := fun u hu => by
    rw [lab_get (by omega)]; exact (hrg _ (List.getElem_mem _)).1
  refine right_unique (tidy_right hp.tidy hp.len) hJ.right fun u v hu hv => ?_
  have hul : u < p.length := by rw [hp.len]; exact hu
  have hvl : v < p.length := by rw [hp.len]; exact hv
  have hc := hp.conn u v hul hvl
  have e1 : ∀ x : Nat, ∀ hx : x < p.length, lab (natL p) (x : Int) = (p[x] : Int) := fun x hx => by rw [lab_get (by rw [natL_len]; exact hx)]; simp [natL]
  rw [e1 u hul, e1 v hvl]
  constructor
  · intro h
    have := conn_eq_of_up (f := fun u : Nat => (lab La (u : Int)).toNat) (fun e he => by
      obtain ⟨a, ha, rfl⟩ := List.mem_map.1 he
      have h1 := hgood a ha
      show (lab La ((a.src.toNat : Nat) : Int)).toNat = (lab La ((a.dst.toNat : Nat) : Int)).toNat
      rw [Int.toNat_of_nonneg h1.1.1, Int.toNat_of_nonneg h1.2.1, hpr a ha]) (hc.1 (by omega))
    have h1 := hnn u hu
    have h2 := hnn v hv
    omega
  · intro h
    have hG := hJ.gen (fun u => p.getD u 0) (fun x y hx hy e => by
      rw [idL_lab hx, idL_lab hy] at e
      have : x = y := by omega
      rw [this]) (fun q hq => by
      obtain ⟨a, ha, hne, rfl⟩ := mem_prRaw.1 ((mem_prs hgood).1 hq)
      have h1 := hgood a ha
      have hs' : a.src.toNat < p.length := by rw [hp.len]; omega
      have hd' : a.dst.toNat < p.length := by rw [hp.len]; omega
      have hcc : p[a.src.toNat] = p[a.dst.toNat] := (hp.conn _ _ hs' hd').2 (Conn.edge (.inl (List.mem_map.2 ⟨a, ha, rfl⟩)))
      have hk : p.getD a.src.toNat 0 = p.getD a.dst.toNat 0 := by
        rw [List.getD_eq_getElem?_getD, List.getD_eq_getElem?_getD, List.getElem?_eq_getElem hs', List.getElem?_eq_getElem hd']; simpa using hcc
      show p.getD (min a.src a.dst).toNat 0 = p.getD (max a.src a.dst).toNat 0
      rcases Int.le_total a.src a.dst with h | h
      · rw [Int.min_eq_left h, Int.max_eq_right h]; exact hk
      · rw [Int.min_eq_right h, Int.max_eq_left h]; exact hk.symm) u v hu hv h
    simp only [List.getD_eq_getElem?_getD, List.getElem?_eq_getElem hul, List.getElem?_eq_getElem hvl, Option.getD_some] at hG
    omega
/-- Zeros, of which the first are single vertices. -/
def sgTo (n k : Nat) : List Int := (List.range n).map fun i : Nat => if i < k then (i : Int) else 0
theorem sgTo_len (n k : Nat) : (sgTo n k).length = n := by simp [sgTo]
theorem sgTo_zero (n : Nat) : sgTo n 0 = List.replicate n 0 := by
  refine List.ext_getElem (by simp [sgTo]) fun i h1 h2 => ?_
  simp [sgTo]
theorem sgTo_all (n : Nat) : sgTo n n = idL n := by
  refine List.ext_getElem (by simp [sgTo, idL]) fun i h1 h2 => ?_
  have : i < n := by simpa [idL] using h2
  simp [sgTo, idL, this]
theorem sgTo_next {n k : Nat} (h : k < n) : (sgTo n k).set k (k : Int) = sgTo n (k + 1) := by
  refine List.ext_getElem (by simp [sgTo]) fun i h1 h2 => ?_
  by_cases hi : k = i
  · subst hi; simp [sgTo]
  · rw [List.getElem_set_ne hi]
    simp only [sgTo, List.getElem_map, List.getElem_range]
    split <;> split <;> first | rfl | omega
theorem cnt_idL (n : Nat) (y : Int) : cntI (idL n) y ≤ 1 := by
  have hnd : (idL n).Nodup := by
    unfold idL
    rw [List.Nodup, List.pairwise_map]
    exact List.pairwise_lt_range.imp fun {a b} h e => by have : (a : Int) = (b : Int) := e; omega
  have := List.Nodup.length_le_of_subset (l₂ := [y]) (hnd.filter fun x => decide (x = y)) (fun x hx => by have := (List.mem_filter.1 hx).2; simpa using this)
  unfold cntI
  simpa using this


theorem PartsU_spec (N : Int) (A : Option Addr) (l : List Arc) (cap : Nat) (w : World) (hr : Ro (Fr w []) w A (l.flatMap arcCs)) (hl : l.length ≤ 9223372036854775807) (hN : I64 N) (hok : ∀ x ∈ l, ArcOk x) :
    Meets Try.prog 15 [.agg #[.int .i64 N, .slice A l.length cap]] w [] (fun u own' => ∃ (P : List Int) (A' : Option Addr) (c : Nat) (m' : Seg), u = .tuple #[.slice A' P.length c, .int .i64 (gcheck N l).2] ∧ own' = [m'] ∧ Own 3 1 (.slice A' P.length c) P.length (ints P) m' ∧ ((gcheck N l).2 = 0 → ∃ p, P = natL p ∧ IsParts N.toNat (ends2 l) p)) := by
  refine Meets.flatS (Parts_spec N A l cap w hr hl hN hok) fun v m h => ?_
  by_cases hg : (gcheck N l).2 = 0
  · rw [if_pos hg] at h
    obtain ⟨p, b, rfl, rfl, hp⟩ := h
    have hlen : (natL p).length = N.toNat := by rw [natL_len, hp.len]
    have hb := gcheck_zero hg
    refine ⟨_, ⟨natL p, some ⟨b, 0, none⟩, N.toNat, [(b, blk (nats p) 3)], by rw [hlen, hg], rfl, ?_, fun _ => ⟨p, rfl, hp⟩⟩, rfl⟩
    rw [natL_ints, hlen]
    exact Own.mk (by rw [ints_length, hlen]; omega) (by omega)
  · rw [if_neg hg] at h
    obtain ⟨rfl, rfl⟩ := h
    exact ⟨[[]], ⟨[], none, 0, [], rfl, rfl, Own.nil _ _, fun h => absurd h hg⟩, rfl⟩

set_option maxRecDepth 100000 in
set_option maxHeartbeats 4000000 in
theorem SplitParts_spec (N : Int) (A : Option Addr) (l : List Arc) (cap : Nat) (w : World) (hr : Ro (Fr w []) w A (l.flatMap arcCs)) (hl : l.length ≤ 9223372036854775807) (hN : I64 N) (hok : ∀ x ∈ l, ArcOk x) :
    Meets Try.prog 5 [.agg #[.int .i64 N, .slice A l.length cap]] w [] (fun u m => u = .bool true ∧ m = []) := by
 refine f_enter Try.func5 rfl Try.ntmps5 rfl Owns.nil ?_
 refine f_seq fun K1 kh1 => ?_
 refine f_region ?_
 refine f_step rfl rfl rfl (o_box rfl rfl fun b1 => ?_)
 refine f_stepP rfl rfl rfl (o_assign rfl) ?_
 refine f_done ?_
 refine f_tn (kh1 _ _ ?_)
 clear kh1
 refine f_seq fun K2 kh2 => ?_
 refine f_seq fun K3 kh3 => ?_
 refine f_region ?_
 refine f_step rfl rfl rfl (o_call Try.call6 rfl (fun w_ hp_ => works_spec w_) ?_)
 rintro _ _ ⟨rfl, rfl⟩
 dsimp only [List.cons_append, List.nil_append]
 refine f_stepP rfl rfl rfl (o_not rfl) ?_
 refine f_done ?_
 refine f_tn (kh3 _ _ ?_)
 clear kh3
 refine f_condF rfl ?_
 refine f_skip ?_
 refine f_tn (kh2 _ _ ?_)
 clear kh2
 refine f_seq fun K4 kh4 => ?_
 refine f_region ?_
 refine f_stepP rfl rfl rfl (o_loadA (vs := [_, _]) Try.isAgg24 Try.sizeOf24 rfl rfl ⟨(rdA rfl), (rdA rfl), trivial⟩) ?_
 refine f_step rfl rfl rfl (o_call Try.call15 rfl (fun w_ hp_ => PartsU_spec N A l cap w_ (hr.up0 hp_) hl hN hok) ?_)
 rintro _ _ ⟨P, AP, cP, mP, rfl, rfl, hoP, hP0⟩
 dsimp only [List.cons_append, List.nil_append]
 refine f_stepP rfl rfl rfl (o_move rfl) ?_
 refine f_stepP rfl rfl rfl (o_extract rfl rfl) ?_
 refine f_stepP rfl rfl rfl (o_extract rfl rfl) ?_
 refine f_stepP rfl rfl rfl (o_assign rfl) ?_
 refine f_stepP rfl rfl rfl (o_assign rfl) ?_
 refine f_done ?_
 refine f_tn (kh4 _ _ ?_)
 clear kh4
 refine f_seq fun K5 kh5 => ?_
 refine f_seq fun K6 kh6 => ?_
 refine f_region ?_
 refine f_stepP rfl rfl rfl (o_move rfl) ?_
 refine f_stepP rfl rfl rfl (o_neq rfl rfl) ?_
 refine f_stepP rfl rfl rfl (o_move rfl) ?_
 refine f_splitL 22 rfl (fun g22 => ?_) (fun g22 => ?_)
 ·
  refine f_stepN rfl rfl rfl rfl rfl rfl ?_
  refine f_stepN rfl rfl rfl rfl rfl rfl ?_
  refine f_stepP rfl rfl rfl (o_pickT rfl rfl) ?_
  refine f_done ?_
  refine f_tn (kh6 _ _ ?_)
  clear kh6
  refine f_condT rfl ?_
  refine f_seq fun K7 kh7 => ?_
  refine f_region ?_
  refine f_stepP rfl rfl rfl (o_assign rfl) ?_
  refine f_done ?_
  refine f_tn (kh7 _ _ ?_)
  clear kh7
  refine f_ret ?_
  refine f_tr ?_
  exact f_fin1 [] Try.results5 rfl Sub.nil ⟨rfl, rfl⟩
 ·
  refine f_stepPY rfl rfl rfl rfl rfl (o_loadA (vs := [_, _]) Try.isAgg24 Try.sizeOf24 rfl rfl ⟨(rdA rfl), (rdA rfl), trivial⟩) ?_
  refine f_stepY rfl rfl rfl rfl rfl (o_call Try.call7 rfl (fun w_ hp_ => large_spec N A l cap w_ (hr.up0 hp_) hl hN hok) ?_)
  rintro _ _ ⟨bL, rfl, rfl⟩
  dsimp only [List.cons_append, List.nil_append]
  refine f_stepP rfl rfl rfl (o_pickF rfl rfl) ?_
  refine f_done ?_
  refine f_tn (kh6 _ _ ?_)
  clear kh6
  refine f_condB rfl (fun c25 => ?_) (fun c25 => ?_)
  ·
   refine f_seq fun K8 kh8 => ?_
   refine f_region ?_
   refine f_stepP rfl rfl rfl (o_assign rfl) ?_
   refine f_done ?_
   refine f_tn (kh8 _ _ ?_)
   clear kh8
   refine f_ret ?_
   refine f_tr ?_
   exact f_fin1 [] Try.results5 rfl Sub.nil ⟨rfl, rfl⟩
  ·
   refine f_skip ?_
   refine f_tn (kh5 _ _ ?_)
   clear kh5
   refine f_seq fun K9 kh9 => ?_
   have hg : (gcheck N l).2 = 0 := by simpa using g22
   obtain ⟨hg1, hg2, hl8, _⟩ := gcheck_zero hg
   obtain ⟨n, rfl⟩ : ∃ n : Nat, N = (n : Int) := ⟨N.toNat, by omega⟩
   have hn1 : 1 ≤ n := by omega
   have hn2 : n ≤ 1024 := by omega
   obtain ⟨p, hPp, hIp⟩ := hP0 hg
   rw [Int.toNat_natCast] at hIp
   have hRP : rightB (n : Int) P = true := by rw [hPp]; exact tidy_right hIp.tidy hIp.len
   have hPl := (right_parts hRP).2
   have hj1 := joinE_zero (bd := (n : Int)) hg (idL_right n) hn1 (by omega) (fun y => by have := cntI_le (idL n) y; rw [idL_len] at this; omega)
   have hj2 := joinE_zero (bd := 1) hg (idL_right n) hn1 (by omega) (fun y => by have := cnt_idL n y; omega)
   have hz1 := spE_one (bd := 1) hg hRP (by omega)
   refine f_region ?_
   refine f_stepP rfl rfl rfl (o_field fa24_0 rfl) ?_
   refine f_stepP rfl rfl rfl (o_load Try.isAgg3 rfl (rdA rfl)) ?_
   refine f_step rfl rfl rfl (o_make el25 rfl rfl n rfl (by omega) (by omega) (ints (sgTo n 0)) (by rw [sgTo_zero]; simp [ints, List.flatten_replicate_singleton]) fun b28 => ?_)
   refine f_stepP rfl rfl rfl (o_assign rfl) ?_
   refine f_done ?_
   refine f_tn (kh9 _ _ ?_)
   clear kh9
   refine f_seq fun K10 kh10 => ?_
   refine f_seq fun K11 kh11 => ?_
   refine f_region ?_
   refine f_stepP rfl rfl rfl (o_move rfl) ?_
   refine f_stepP rfl rfl rfl (o_len sl25 rfl) ?_
   refine f_stepP rfl rfl rfl (o_move rfl) ?_
   refine f_done ?_
   refine f_tn (kh11 _ _ ?_)
   clear kh11
   refine f_block ?_
   refine f_loop (α := Nat) [1, 3, 5, 30] (fun k => [(31, .int .i64 (k : Int))]) (fun k => [[(b28, blk (ints (sgTo n k)) 3)], mP, [(b1, blk [.int .i64 (n : Int), .slice A l.length cap] 24)]]) (fun k => k ≤ n) (fun k => n - k) (0) ?_ ?_ ?_ ?_
   · exact (by repeat (first | exact trivial | refine ⟨rfl, ?_⟩))
   · repeat (first | exact Sub.nil | refine Sub.pick ?_ | refine Sub.castO rfl ?_ | refine Sub.skip ?_)
   · exact Nat.zero_le _
   ·
    rintro k hkn
    refine f_seq fun K12 kh12 => ?_
    refine f_region ?_
    refine f_stepP rfl rfl rfl (o_lss rfl rfl) ?_
    refine f_done ?_
    refine f_tn (kh12 _ _ ?_)
    clear kh12
    refine f_seq fun K13 kh13 => ?_
    refine f_cond rfl (fun c32 => ?_) (fun c32 => ?_)
    ·
     have hk : k < n := by omega
     refine f_skip ?_
     refine f_tn (kh13 _ _ ?_)
     clear kh13
     refine f_seq fun K14 kh14 => ?_
     refine f_block ?_
     refine f_seq fun K15 kh15 => ?_
     refine f_region ?_
     refine f_stepP rfl rfl rfl (o_move rfl) ?_
     refine f_stepP rfl rfl rfl (o_assign rfl) ?_
     refine f_done ?_
     refine f_tn (kh15 _ _ ?_)
     clear kh15
     refine f_region ?_
     refine f_stepP rfl rfl rfl (o_move rfl) ?_
     refine f_stepP rfl rfl rfl (o_move rfl) ?_
     refine f_stepP rfl rfl rfl (o_move rfl) ?_
     refine f_stepP rfl rfl rfl (o_idx sl25 rfl rfl (k) ⟨by omega, by omega, by first | omega | (simp; done) | (simp; omega)⟩) ?_
     refine f_step0 rfl rfl (o_store Try.sizeOf3 rfl rfl rfl rfl (by rw [ints_length, sgTo_len]; omega) (ints (sgTo n (k + 1))) (by rw [← sgTo_next hk]; simp [ints]) ?_)
     refine f_done ?_
     refine f_bn ?_
     refine f_tn (kh14 _ _ ?_)
     clear kh14
     refine f_region ?_
     refine f_stepP rfl rfl rfl (o_add rfl rfl _ (wrap_i64 (by omega))) ?_
     refine f_stepP rfl rfl rfl (o_move rfl) ?_
     refine f_done ?_
     refine f_tn (f_again (k + 1) (by first | omega | (dsimp only; omega) | (simp; omega)) (by omega) ?_ ?_ ?_)
     · exact (by repeat (first | exact trivial | refine ⟨rfl, ?_⟩))
     · exact (by repeat (first | exact trivial | refine ⟨rfl, ?_⟩))
     · repeat (first | exact Sub.nil | refine Sub.pick ?_ | refine Sub.castO rfl ?_ | refine Sub.skip ?_)
    ·
     refine f_exit ?_
     refine f_te ?_
     clear kh13
     refine f_te ?_
     refine f_be ?_
     refine f_tn (kh10 _ _ ?_)
     clear kh10
     refine f_seq fun K16 kh16 => ?_
     obtain rfl : n = k := by omega
     rw [sgTo_all]
     refine f_region ?_
     refine f_stepP rfl rfl rfl (o_loadA (vs := [_, _]) Try.isAgg24 Try.sizeOf24 rfl rfl ⟨(rdA rfl), (rdA rfl), trivial⟩) ?_
     refine f_stepP rfl rfl rfl (o_move rfl) ?_
     refine f_stepP rfl rfl rfl (o_field fa24_0 rfl) ?_
     refine f_stepP rfl rfl rfl (o_load Try.isAgg3 rfl (rdA rfl)) ?_
     refine f_step rfl rfl rfl (o_call Try.call9 rfl (fun w_ hp_ => (by have h := Join_spec (n : Int) A (some ⟨b28, 0, none⟩) l cap (idL n) n (n : Int) w_ (hr.up0 hp_) hl hN hok (roOwn (b := b28) hp_ (cs := ints (idL n)) (fun j v hj => hj)) (by rw [idL_len]; omega); rw [idL_len] at h; exact h)) ?_)
     rintro _ _ ⟨La, Aa, ca, ma, rfl, rfl, hoa, _, ha0⟩
     obtain ⟨hJa, hna, _⟩ := ha0 hj1
     rw [Int.toNat_natCast] at hJa hna
     obtain rfl : P = La := hPp.trans (parts_join hg hIp hJa hna)
     rw [hj1]
     dsimp only [List.cons_append, List.nil_append]
     refine f_stepP rfl rfl rfl (o_move rfl) ?_
     refine f_stepP rfl rfl rfl (o_extract rfl rfl) ?_
     refine f_stepP rfl rfl rfl (o_extract rfl rfl) ?_
     refine f_stepP rfl rfl rfl (o_assign rfl) ?_
     refine f_stepP rfl rfl rfl (o_assign rfl) ?_
     refine f_done ?_
     refine f_tn (kh16 _ _ ?_)
     clear kh16
     refine f_seq fun K17 kh17 => ?_
     refine f_region ?_
     refine f_stepP rfl rfl rfl (o_loadA (vs := [_, _]) Try.isAgg24 Try.sizeOf24 rfl rfl ⟨(rdA rfl), (rdA rfl), trivial⟩) ?_
     refine f_stepP rfl rfl rfl (o_move rfl) ?_
     refine f_step rfl rfl rfl (o_call Try.call8 rfl (fun w_ hp_ => CutUp_spec (n : Int) A AP l cap P cP 1 w_ (hr.up0 hp_) hl hN hok (seen_ro (hoP.seen hp_)) (by omega)) ?_)
     rintro _ _ ⟨Lb, Ab, cb_, mb, rfl, rfl, hob, _, hb0⟩
     obtain ⟨hb1, hb2, _⟩ := cut_holds (l := l) hRP hn1 hn2 hl8 (b := 1) (by omega)
     obtain rfl : Lb = idL n := (hb0 hz1).trans (right_single hb1 hb2)
     rw [hz1, idL_len]
     dsimp only [List.cons_append, List.nil_append]
     refine f_stepP rfl rfl rfl (o_move rfl) ?_
     refine f_stepP rfl rfl rfl (o_extract rfl rfl) ?_
     refine f_stepP rfl rfl rfl (o_extract rfl rfl) ?_
     refine f_stepP rfl rfl rfl (o_assign rfl) ?_
     refine f_stepP rfl rfl rfl (o_assign rfl) ?_
     refine f_done ?_
     refine f_tn (kh17 _ _ ?_)
     clear kh17
     refine f_seq fun K18 kh18 => ?_
     refine f_region ?_
     refine f_stepP rfl rfl rfl (o_loadA (vs := [_, _]) Try.isAgg24 Try.sizeOf24 rfl rfl ⟨(rdA rfl), (rdA rfl), trivial⟩) ?_
     refine f_stepP rfl rfl rfl (o_move rfl) ?_
     refine f_step rfl rfl rfl (o_call Try.call9 rfl (fun w_ hp_ => (by have h := Join_spec (n : Int) A (some ⟨b28, 0, none⟩) l cap (idL n) n 1 w_ (hr.up0 hp_) hl hN hok (roOwn (b := b28) hp_ (cs := ints (idL n)) (fun j v hj => hj)) (by rw [idL_len]; omega); rw [idL_len] at h; exact h)) ?_)
     rintro _ _ ⟨Lc, Ac, cc, mc, rfl, rfl, hoc, _, hc0⟩
     obtain ⟨hJc, _, _⟩ := hc0 hj2
     rw [Int.toNat_natCast] at hJc
     obtain rfl : Lc = idL n := right_single hJc.right (fun y => by have := hJc.size y; omega)
     rw [hj2, idL_len]
     dsimp only [List.cons_append, List.nil_append]
     refine f_stepP rfl rfl rfl (o_move rfl) ?_
     refine f_stepP rfl rfl rfl (o_extract rfl rfl) ?_
     refine f_stepP rfl rfl rfl (o_extract rfl rfl) ?_
     refine f_stepP rfl rfl rfl (o_assign rfl) ?_
     refine f_stepP rfl rfl rfl (o_assign rfl) ?_
     refine f_done ?_
     refine f_tn (kh18 _ _ ?_)
     clear kh18
     refine f_seq fun K19 kh19 => ?_
     refine f_region ?_
     refine f_stepP rfl rfl rfl (o_move rfl) ?_
     refine f_stepP rfl rfl rfl (o_eql rfl rfl) ?_
     refine f_stepP rfl rfl rfl (o_move rfl) ?_
     refine f_trueL 61 rfl (rfl) ?_
     refine f_stepPY rfl rfl rfl rfl rfl (o_move rfl) ?_
     refine f_stepPY rfl rfl rfl rfl rfl (o_eql rfl rfl) ?_
     refine f_stepP rfl rfl rfl (o_pickT rfl rfl) ?_
     refine f_stepP rfl rfl rfl (o_move rfl) ?_
     refine f_trueL 65 rfl (rfl) ?_
     refine f_stepPY rfl rfl rfl rfl rfl (o_move rfl) ?_
     refine f_stepPY rfl rfl rfl rfl rfl (o_eql rfl rfl) ?_
     refine f_stepP rfl rfl rfl (o_pickT rfl rfl) ?_
     refine f_stepP rfl rfl rfl (o_move rfl) ?_
     refine f_trueL 69 rfl (rfl) ?_
     refine f_stepPY rfl rfl rfl rfl rfl (o_move rfl) ?_
     refine f_stepPY rfl rfl rfl rfl rfl (o_move rfl) ?_
     refine f_stepY rfl rfl rfl rfl rfl (o_call Try.call14 rfl (fun w_ hp_ => SameInts_spec Aa AP P P ca cP w_ (seen_ro (hoa.seen hp_)) (seen_ro (hoP.seen hp_)) (by omega)) ?_)
     rintro _ _ ⟨rfl, rfl⟩
     rw [decide_eq_true rfl]
     dsimp only [List.cons_append, List.nil_append]
     refine f_stepP rfl rfl rfl (o_pickT rfl rfl) ?_
     refine f_stepP rfl rfl rfl (o_move rfl) ?_
     refine f_stepPY rfl rfl rfl rfl rfl (o_move rfl) ?_
     refine f_stepPY rfl rfl rfl rfl rfl (o_move rfl) ?_
     refine f_stepY rfl rfl rfl rfl rfl (o_call Try.call14 rfl (fun w_ hp_ => (by have h := SameInts_spec Ab (some ⟨b28, 0, none⟩) (idL n) (idL n) cb_ n w_ (seen_ro (hob.seen hp_)) (roOwn (b := b28) hp_ (cs := ints (idL n)) (fun j v hj => hj)) (by rw [idL_len]; omega); rw [idL_len] at h; exact h)) ?_)
     rintro _ _ ⟨rfl, rfl⟩
     rw [decide_eq_true rfl]
     dsimp only [List.cons_append, List.nil_append]
     refine f_stepP rfl rfl rfl (o_pickT rfl rfl) ?_
     refine f_stepP rfl rfl rfl (o_move rfl) ?_
     refine f_stepPY rfl rfl rfl rfl rfl (o_move rfl) ?_
     refine f_stepPY rfl rfl rfl rfl rfl (o_move rfl) ?_
     refine f_stepY rfl rfl rfl rfl rfl (o_call Try.call14 rfl (fun w_ hp_ => (by have h := SameInts_spec Ac (some ⟨b28, 0, none⟩) (idL n) (idL n) cc n w_ (seen_ro (hoc.seen hp_)) (roOwn (b := b28) hp_ (cs := ints (idL n)) (fun j v hj => hj)) (by rw [idL_len]; omega); rw [idL_len] at h; exact h)) ?_)
     rintro _ _ ⟨rfl, rfl⟩
     rw [decide_eq_true rfl]
     dsimp only [List.cons_append, List.nil_append]
     refine f_stepP rfl rfl rfl (o_pickT rfl rfl) ?_
     refine f_stepP rfl rfl rfl (o_assign rfl) ?_
     refine f_done ?_
     refine f_tn (kh19 _ _ ?_)
     clear kh19
     refine f_ret ?_
     exact f_fin1 [] Try.results5 rfl Sub.nil ⟨rfl, rfl⟩

end Go.Proofs.Ytkhjckghpakliaa

/- How graphs of this program read. -/
namespace Go.Proofs.Ytkhjckghpakliaa
open Go Go.RowKit Fly
set_option linter.unusedVariables false
set_option linter.unusedSimpArgs false


theorem rdArc {H : Type} {enc : TypeId × Value → H} (W : World) : Reads enc Try.prog W 44 arcCs ArcOk :=
  reads_arc Try.underlying44 (by kernel_rfl) ⟨rfl, by kernel_rfl⟩ ⟨rfl, by kernel_rfl⟩ ⟨rfl, by kernel_rfl⟩ Try.underlying3 Try.underlying3 Try.underlying42
theorem rdGraph {H : Type} {enc : TypeId × Value → H} (W : World) : Reads enc Try.prog W 24 (fun x : Int × Option Addr × List Arc × Nat => [.int .i64 x.1, .slice x.2.1 x.2.2.1.length x.2.2.2]) (fun x => GrIn W x.1 x.2.1 x.2.2.1 x.2.2.2) :=
  reads_graph Try.underlying24 (by kernel_rfl) ⟨rfl, by kernel_rfl⟩ ⟨rfl, by kernel_rfl⟩ Try.underlying3 Try.underlying22 (by kernel_rfl) (rdArc W)

end Go.Proofs.Ytkhjckghpakliaa
