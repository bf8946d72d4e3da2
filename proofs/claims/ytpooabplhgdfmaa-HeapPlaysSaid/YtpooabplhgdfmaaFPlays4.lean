/- flyoverlaw04: step, HeapPlays, HeapTwo. -/
import Derived.Test.YtpooabplhgdfmaaFRef4
namespace Go.Proofs.Ytpooabplhgdfmaa
open Go Go.RowKit Fly
set_option linter.unusedVariables false
set_option linter.unusedSimpArgs false


/-- A call, of the table. -/
def stepT (T : List (Option Int)) (a : HAct) : List (Option Int) :=
  if a.kind % 5 = 0 then (lowerR T a.id a.key).1 else if a.kind % 5 = 1 then popT T else if a.kind % 5 = 2 then T else if a.kind % 5 = 3 then (dropR T a.id).1 else T
theorem stepT_len (T : List (Option Int)) (a : HAct) : (stepT T a).length = T.length := by
  unfold stepT
  split
  · exact lowerR_len ..
  · split
    · exact popT_len _
    · split
      · rfl
      · split
        · exact dropR_len ..
        · rfl

set_option maxRecDepth 100000 in
set_option maxHeartbeats 4000000 in
theorem step_spec (T : List (Option Int)) (bH bG : Nat) (hm gm : Seg) (a : HAct) (w : World) (hH : HRep T bH hm) (hG : RRep T bG gm) (hw : Owns w [hm, gm]) :
    Meets Try.prog 18 [.pointer (some ⟨bH, 0, none⟩), .pointer (some ⟨bG, 0, none⟩), .agg (hactCs a).toArray] w [hm, gm] (fun u own' => u = .bool true ∧ ∃ hm2 gm2, own' = [hm2, gm2] ∧ HRep (stepT T a) bH hm2 ∧ RRep (stepT T a) bG gm2) := by
  refine f_enter Try.func18 rfl Try.ntmps18 rfl hw ?_
  refine f_seq fun K1 kh1 => ?_
  refine f_region ?_
  refine f_step rfl rfl rfl (o_box rfl rfl fun b5 => ?_)
  refine f_stepP rfl rfl rfl (o_assign rfl) ?_
  refine f_done ?_
  refine f_tn (kh1 _ _ ?_)
  clear kh1
  refine f_seq fun K2 kh2 => ?_
  refine f_seq fun K3 kh3 => ?_
  refine f_region ?_
  refine f_stepP rfl rfl rfl (o_field fa40_0 rfl) ?_
  refine f_stepP rfl rfl rfl (o_load Try.isAgg3 rfl (rdA rfl)) ?_
  refine f_step rfl rfl rfl (o_call Try.call13 rfl (fun w_ hp_ => among_spec a.kind 5 w_ (by decide)) ?_)
  rintro _ _ ⟨rfl, rfl⟩
  dsimp only [List.cons_append, List.nil_append]
  refine f_done ?_
  refine f_tn (kh3 _ _ ?_)
  clear kh3
  refine f_block ?_
  refine f_seq fun K4 kh4 => ?_
  refine f_region ?_
  refine f_stepP rfl rfl rfl (o_eql rfl rfl) ?_
  refine f_stepP rfl rfl rfl (o_assign rfl) ?_
  refine f_done ?_
  refine f_tn (kh4 _ _ ?_)
  clear kh4
  refine f_cond rfl (fun c36 => ?_) (fun c36 => ?_)
  · skip
    refine f_seq fun K5 kh5 => ?_
    refine f_region ?_
    refine f_stepP rfl rfl rfl (o_move rfl) ?_
    refine f_stepP rfl rfl rfl (o_field fa40_1 rfl) ?_
    refine f_stepP rfl rfl rfl (o_load Try.isAgg3 rfl (rdA rfl)) ?_
    refine f_stepP rfl rfl rfl (o_field fa40_2 rfl) ?_
    refine f_stepP rfl rfl rfl (o_load Try.isAgg29 rfl (rdA rfl)) ?_
    refine f_step rfl rfl rfl (o_callM [hm] _ Try.call10 rfl (Sub.pick Sub.refl) (fun w_ hp_ => Lower_spec T bH hm a.id a.key w_ hH hp_.owns) ?_)
    rintro _ _ ⟨rfl, hm2, rfl, hH2⟩
    dsimp only [List.cons_append, List.nil_append]
    refine f_stepP rfl rfl rfl (o_move rfl) ?_
    refine f_stepP rfl rfl rfl (o_extract rfl rfl) ?_
    refine f_stepP rfl rfl rfl (o_extract rfl rfl) ?_
    refine f_stepP rfl rfl rfl (o_assign rfl) ?_
    refine f_stepP rfl rfl rfl (o_assign rfl) ?_
    refine f_done ?_
    refine f_tn (kh5 _ _ ?_)
    clear kh5
    refine f_seq fun K6 kh6 => ?_
    refine f_region ?_
    refine f_stepP rfl rfl rfl (o_move rfl) ?_
    refine f_stepP rfl rfl rfl (o_field fa40_1 rfl) ?_
    refine f_stepP rfl rfl rfl (o_load Try.isAgg3 rfl (rdA rfl)) ?_
    refine f_stepP rfl rfl rfl (o_field fa40_2 rfl) ?_
    refine f_stepP rfl rfl rfl (o_load Try.isAgg29 rfl (rdA rfl)) ?_
    refine f_step rfl rfl rfl (o_callM [gm] _ Try.call26 rfl (Sub.pick Sub.refl) (fun w_ hp_ => RLower_spec T bG gm a.id a.key w_ hG hp_.owns) ?_)
    rintro _ _ ⟨rfl, gm2, rfl, hG2⟩
    dsimp only [List.cons_append, List.nil_append]
    refine f_stepP rfl rfl rfl (o_move rfl) ?_
    refine f_stepP rfl rfl rfl (o_extract rfl rfl) ?_
    refine f_stepP rfl rfl rfl (o_extract rfl rfl) ?_
    refine f_stepP rfl rfl rfl (o_assign rfl) ?_
    refine f_stepP rfl rfl rfl (o_assign rfl) ?_
    refine f_done ?_
    refine f_tn (kh6 _ _ ?_)
    clear kh6
    refine f_seq fun K7 kh7 => ?_
    refine f_region ?_
    refine f_stepP rfl rfl rfl (o_move rfl) ?_
    refine f_stepP rfl rfl rfl (o_move rfl) ?_
    refine f_stepP rfl rfl rfl (o_eqlB Try.underlying4 rfl rfl) ?_
    refine f_stepP rfl rfl rfl (o_move rfl) ?_
    refine f_trueL 59 rfl (rfl) ?_
    refine f_stepPY rfl rfl rfl rfl rfl (o_move rfl) ?_
    refine f_stepPY rfl rfl rfl rfl rfl (o_move rfl) ?_
    refine f_stepPY rfl rfl rfl rfl rfl (o_eql rfl rfl) ?_
    refine f_stepP rfl rfl rfl (o_pickT rfl rfl) ?_
    refine f_stepP rfl rfl rfl (o_assign rfl) ?_
    refine f_done ?_
    refine f_tn (kh7 _ _ ?_)
    clear kh7
    refine f_ret ?_
    refine f_br ?_
    refine f_tr ?_
    have hs : stepT T a = (lowerR T a.id a.key).1 := by unfold stepT; rw [if_pos c36]
    exact f_fin1 [hm2, gm2] Try.results18 rfl (by repeat (first | exact Sub.nil | refine Sub.pick ?_)) ⟨by simp, hm2, gm2, rfl, by rw [hs]; exact hH2, by rw [hs]; exact hG2⟩
  · skip
    refine f_seq fun K8 kh8 => ?_
    refine f_region ?_
    refine f_stepP rfl rfl rfl (o_eql rfl rfl) ?_
    refine f_stepP rfl rfl rfl (o_assign rfl) ?_
    refine f_done ?_
    refine f_tn (kh8 _ _ ?_)
    clear kh8
    refine f_cond rfl (fun c64 => ?_) (fun c64 => ?_)
    · skip
      refine f_seq fun K9 kh9 => ?_
      refine f_region ?_
      refine f_stepP rfl rfl rfl (o_move rfl) ?_
      refine f_step rfl rfl rfl (o_callM [hm] _ Try.call12 rfl (Sub.pick Sub.refl) (fun w_ hp_ => HPop_spec T bH hm w_ hH hp_.owns) ?_)
      rintro _ _ ⟨rfl, hm2, rfl, hH2⟩
      dsimp only [List.cons_append, List.nil_append]
      refine f_stepP rfl rfl rfl (o_move rfl) ?_
      refine f_stepP rfl rfl rfl (o_extract rfl rfl) ?_
      refine f_stepP rfl rfl rfl (o_extract rfl rfl) ?_
      refine f_stepP rfl rfl rfl (o_extract rfl rfl) ?_
      refine f_stepP rfl rfl rfl (o_assign rfl) ?_
      refine f_stepP rfl rfl rfl (o_assign rfl) ?_
      refine f_stepP rfl rfl rfl (o_assign rfl) ?_
      refine f_done ?_
      refine f_tn (kh9 _ _ ?_)
      clear kh9
      refine f_seq fun K10 kh10 => ?_
      refine f_region ?_
      refine f_stepP rfl rfl rfl (o_move rfl) ?_
      refine f_step rfl rfl rfl (o_callM [gm] _ Try.call27 rfl (Sub.pick Sub.refl) (fun w_ hp_ => RPop_spec T bG gm w_ hG hp_.owns) ?_)
      rintro _ _ ⟨rfl, gm2, rfl, hG2⟩
      dsimp only [List.cons_append, List.nil_append]
      refine f_stepP rfl rfl rfl (o_move rfl) ?_
      refine f_stepP rfl rfl rfl (o_extract rfl rfl) ?_
      refine f_stepP rfl rfl rfl (o_extract rfl rfl) ?_
      refine f_stepP rfl rfl rfl (o_extract rfl rfl) ?_
      refine f_stepP rfl rfl rfl (o_assign rfl) ?_
      refine f_stepP rfl rfl rfl (o_assign rfl) ?_
      refine f_stepP rfl rfl rfl (o_assign rfl) ?_
      refine f_done ?_
      refine f_tn (kh10 _ _ ?_)
      clear kh10
      refine f_seq fun K11 kh11 => ?_
      refine f_region ?_
      refine f_stepP rfl rfl rfl (o_move rfl) ?_
      refine f_stepP rfl rfl rfl (o_move rfl) ?_
      refine f_stepP rfl rfl rfl (o_eql rfl rfl) ?_
      refine f_stepP rfl rfl rfl (o_move rfl) ?_
      refine f_trueL 81 rfl (rfl) ?_
      refine f_stepPY rfl rfl rfl rfl rfl (o_move rfl) ?_
      refine f_stepPY rfl rfl rfl rfl rfl (o_move rfl) ?_
      refine f_stepPY rfl rfl rfl rfl rfl (o_eql rfl rfl) ?_
      refine f_stepP rfl rfl rfl (o_pickT rfl rfl) ?_
      refine f_stepP rfl rfl rfl (o_move rfl) ?_
      refine f_trueL 86 rfl (rfl) ?_
      refine f_stepPY rfl rfl rfl rfl rfl (o_move rfl) ?_
      refine f_stepPY rfl rfl rfl rfl rfl (o_move rfl) ?_
      refine f_stepPY rfl rfl rfl rfl rfl (o_eql rfl rfl) ?_
      refine f_stepP rfl rfl rfl (o_pickT rfl rfl) ?_
      refine f_stepP rfl rfl rfl (o_assign rfl) ?_
      refine f_done ?_
      refine f_tn (kh11 _ _ ?_)
      clear kh11
      refine f_ret ?_
      refine f_br ?_
      refine f_tr ?_
      have hs : stepT T a = popT T := by unfold stepT; rw [if_neg c36, if_pos c64]
      exact f_fin1 [hm2, gm2] Try.results18 rfl (by repeat (first | exact Sub.nil | refine Sub.pick ?_)) ⟨by simp, hm2, gm2, rfl, by rw [hs]; exact hH2, by rw [hs]; exact hG2⟩
    · skip
      refine f_seq fun K12 kh12 => ?_
      refine f_region ?_
      refine f_stepP rfl rfl rfl (o_eql rfl rfl) ?_
      refine f_stepP rfl rfl rfl (o_assign rfl) ?_
      refine f_done ?_
      refine f_tn (kh12 _ _ ?_)
      clear kh12
      refine f_cond rfl (fun c91 => ?_) (fun c91 => ?_)
      · skip
        refine f_seq fun K13 kh13 => ?_
        refine f_region ?_
        refine f_stepP rfl rfl rfl (o_move rfl) ?_
        refine f_step rfl rfl rfl (o_callM [hm] _ Try.call14 rfl (Sub.pick Sub.refl) (fun w_ hp_ => Top_spec T bH hm w_ hH hp_.owns) ?_)
        rintro _ _ ⟨rfl, rfl⟩
        dsimp only [List.cons_append, List.nil_append]
        refine f_stepP rfl rfl rfl (o_move rfl) ?_
        refine f_stepP rfl rfl rfl (o_extract rfl rfl) ?_
        refine f_stepP rfl rfl rfl (o_extract rfl rfl) ?_
        refine f_stepP rfl rfl rfl (o_extract rfl rfl) ?_
        refine f_stepP rfl rfl rfl (o_assign rfl) ?_
        refine f_stepP rfl rfl rfl (o_assign rfl) ?_
        refine f_stepP rfl rfl rfl (o_assign rfl) ?_
        refine f_done ?_
        refine f_tn (kh13 _ _ ?_)
        clear kh13
        refine f_seq fun K14 kh14 => ?_
        refine f_region ?_
        refine f_stepP rfl rfl rfl (o_move rfl) ?_
        refine f_step rfl rfl rfl (o_callM [gm] _ Try.call28 rfl (Sub.pick Sub.refl) (fun w_ hp_ => RTop_spec T bG gm w_ hG hp_.owns) ?_)
        rintro _ _ ⟨rfl, rfl⟩
        dsimp only [List.cons_append, List.nil_append]
        refine f_stepP rfl rfl rfl (o_move rfl) ?_
        refine f_stepP rfl rfl rfl (o_extract rfl rfl) ?_
        refine f_stepP rfl rfl rfl (o_extract rfl rfl) ?_
        refine f_stepP rfl rfl rfl (o_extract rfl rfl) ?_
        refine f_stepP rfl rfl rfl (o_assign rfl) ?_
        refine f_stepP rfl rfl rfl (o_assign rfl) ?_
        refine f_stepP rfl rfl rfl (o_assign rfl) ?_
        refine f_done ?_
        refine f_tn (kh14 _ _ ?_)
        clear kh14
        refine f_seq fun K15 kh15 => ?_
        refine f_region ?_
        refine f_stepP rfl rfl rfl (o_move rfl) ?_
        refine f_stepP rfl rfl rfl (o_move rfl) ?_
        refine f_stepP rfl rfl rfl (o_eql rfl rfl) ?_
        refine f_stepP rfl rfl rfl (o_move rfl) ?_
        refine f_trueL 108 rfl (rfl) ?_
        refine f_stepPY rfl rfl rfl rfl rfl (o_move rfl) ?_
        refine f_stepPY rfl rfl rfl rfl rfl (o_move rfl) ?_
        refine f_stepPY rfl rfl rfl rfl rfl (o_eql rfl rfl) ?_
        refine f_stepP rfl rfl rfl (o_pickT rfl rfl) ?_
        refine f_stepP rfl rfl rfl (o_move rfl) ?_
        refine f_trueL 113 rfl (rfl) ?_
        refine f_stepPY rfl rfl rfl rfl rfl (o_move rfl) ?_
        refine f_stepPY rfl rfl rfl rfl rfl (o_move rfl) ?_
        refine f_stepPY rfl rfl rfl rfl rfl (o_eql rfl rfl) ?_
        refine f_stepP rfl rfl rfl (o_pickT rfl rfl) ?_
        refine f_stepP rfl rfl rfl (o_assign rfl) ?_
        refine f_done ?_
        refine f_tn (kh15 _ _ ?_)
        clear kh15
        refine f_ret ?_
        refine f_br ?_
        refine f_tr ?_
        have hs : stepT T a = T := by unfold stepT; rw [if_neg c36, if_neg c64, if_pos c91]
        exact f_fin1 [hm, gm] Try.results18 rfl (by repeat (first | exact Sub.nil | refine Sub.pick ?_)) ⟨by simp, hm, gm, rfl, by rw [hs]; exact hH, by rw [hs]; exact hG⟩
      · skip
        refine f_seq fun K16 kh16 => ?_
        refine f_region ?_
        refine f_stepP rfl rfl rfl (o_eql rfl rfl) ?_
        refine f_stepP rfl rfl rfl (o_assign rfl) ?_
        refine f_done ?_
        refine f_tn (kh16 _ _ ?_)
        clear kh16
        refine f_cond rfl (fun c118 => ?_) (fun c118 => ?_)
        · skip
          refine f_seq fun K17 kh17 => ?_
          refine f_region ?_
          refine f_stepP rfl rfl rfl (o_move rfl) ?_
          refine f_stepP rfl rfl rfl (o_field fa40_1 rfl) ?_
          refine f_stepP rfl rfl rfl (o_load Try.isAgg3 rfl (rdA rfl)) ?_
          refine f_step rfl rfl rfl (o_callM [hm] _ Try.call16 rfl (Sub.pick Sub.refl) (fun w_ hp_ => Drop_spec T bH hm a.id w_ hH hp_.owns) ?_)
          rintro _ _ ⟨rfl, hm2, rfl, hH2⟩
          dsimp only [List.cons_append, List.nil_append]
          refine f_stepP rfl rfl rfl (o_move rfl) ?_
          refine f_stepP rfl rfl rfl (o_extract rfl rfl) ?_
          refine f_stepP rfl rfl rfl (o_extract rfl rfl) ?_
          refine f_stepP rfl rfl rfl (o_assign rfl) ?_
          refine f_stepP rfl rfl rfl (o_assign rfl) ?_
          refine f_done ?_
          refine f_tn (kh17 _ _ ?_)
          clear kh17
          refine f_seq fun K18 kh18 => ?_
          refine f_region ?_
          refine f_stepP rfl rfl rfl (o_move rfl) ?_
          refine f_stepP rfl rfl rfl (o_field fa40_1 rfl) ?_
          refine f_stepP rfl rfl rfl (o_load Try.isAgg3 rfl (rdA rfl)) ?_
          refine f_step rfl rfl rfl (o_callM [gm] _ Try.call29 rfl (Sub.pick Sub.refl) (fun w_ hp_ => RDrop_spec T bG gm a.id w_ hG hp_.owns) ?_)
          rintro _ _ ⟨rfl, gm2, rfl, hG2⟩
          dsimp only [List.cons_append, List.nil_append]
          refine f_stepP rfl rfl rfl (o_move rfl) ?_
          refine f_stepP rfl rfl rfl (o_extract rfl rfl) ?_
          refine f_stepP rfl rfl rfl (o_extract rfl rfl) ?_
          refine f_stepP rfl rfl rfl (o_assign rfl) ?_
          refine f_stepP rfl rfl rfl (o_assign rfl) ?_
          refine f_done ?_
          refine f_tn (kh18 _ _ ?_)
          clear kh18
          refine f_seq fun K19 kh19 => ?_
          refine f_region ?_
          refine f_stepP rfl rfl rfl (o_move rfl) ?_
          refine f_stepP rfl rfl rfl (o_move rfl) ?_
          refine f_stepP rfl rfl rfl (o_eqlB Try.underlying4 rfl rfl) ?_
          refine f_stepP rfl rfl rfl (o_move rfl) ?_
          refine f_trueL 137 rfl (rfl) ?_
          refine f_stepPY rfl rfl rfl rfl rfl (o_move rfl) ?_
          refine f_stepPY rfl rfl rfl rfl rfl (o_move rfl) ?_
          refine f_stepPY rfl rfl rfl rfl rfl (o_eql rfl rfl) ?_
          refine f_stepP rfl rfl rfl (o_pickT rfl rfl) ?_
          refine f_stepP rfl rfl rfl (o_assign rfl) ?_
          refine f_done ?_
          refine f_tn (kh19 _ _ ?_)
          clear kh19
          refine f_ret ?_
          refine f_br ?_
          refine f_tr ?_
          have hs : stepT T a = (dropR T a.id).1 := by unfold stepT; rw [if_neg c36, if_neg c64, if_neg c91, if_pos c118]
          exact f_fin1 [hm2, gm2] Try.results18 rfl (by repeat (first | exact Sub.nil | refine Sub.pick ?_)) ⟨by simp, hm2, gm2, rfl, by rw [hs]; exact hH2, by rw [hs]; exact hG2⟩
        · skip
          refine f_skip ?_
          refine f_bn ?_
          refine f_tn (kh2 _ _ ?_)
          clear kh2
          refine f_seq fun K20 kh20 => ?_
          refine f_region ?_
          refine f_stepP rfl rfl rfl (o_move rfl) ?_
          refine f_stepP rfl rfl rfl (o_field fa40_1 rfl) ?_
          refine f_stepP rfl rfl rfl (o_load Try.isAgg3 rfl (rdA rfl)) ?_
          refine f_step rfl rfl rfl (o_callM [hm] _ Try.call15 rfl (Sub.pick Sub.refl) (fun w_ hp_ => Key_spec T bH hm a.id w_ hH hp_.owns) ?_)
          rintro _ _ ⟨rfl, rfl⟩
          dsimp only [List.cons_append, List.nil_append]
          refine f_stepP rfl rfl rfl (o_move rfl) ?_
          refine f_stepP rfl rfl rfl (o_extract rfl rfl) ?_
          refine f_stepP rfl rfl rfl (o_extract rfl rfl) ?_
          refine f_stepP rfl rfl rfl (o_extract rfl rfl) ?_
          refine f_stepP rfl rfl rfl (o_assign rfl) ?_
          refine f_stepP rfl rfl rfl (o_assign rfl) ?_
          refine f_stepP rfl rfl rfl (o_assign rfl) ?_
          refine f_done ?_
          refine f_tn (kh20 _ _ ?_)
          clear kh20
          refine f_seq fun K21 kh21 => ?_
          refine f_region ?_
          refine f_stepP rfl rfl rfl (o_move rfl) ?_
          refine f_stepP rfl rfl rfl (o_field fa40_1 rfl) ?_
          refine f_stepP rfl rfl rfl (o_load Try.isAgg3 rfl (rdA rfl)) ?_
          refine f_step rfl rfl rfl (o_callM [gm] _ Try.call30 rfl (Sub.pick Sub.refl) (fun w_ hp_ => RKey_spec T bG gm a.id w_ hG hp_.owns) ?_)
          rintro _ _ ⟨rfl, rfl⟩
          dsimp only [List.cons_append, List.nil_append]
          refine f_stepP rfl rfl rfl (o_move rfl) ?_
          refine f_stepP rfl rfl rfl (o_extract rfl rfl) ?_
          refine f_stepP rfl rfl rfl (o_extract rfl rfl) ?_
          refine f_stepP rfl rfl rfl (o_extract rfl rfl) ?_
          refine f_stepP rfl rfl rfl (o_assign rfl) ?_
          refine f_stepP rfl rfl rfl (o_assign rfl) ?_
          refine f_stepP rfl rfl rfl (o_assign rfl) ?_
          refine f_done ?_
          refine f_tn (kh21 _ _ ?_)
          clear kh21
          refine f_seq fun K22 kh22 => ?_
          refine f_region ?_
          refine f_stepP rfl rfl rfl (o_move rfl) ?_
          refine f_stepP rfl rfl rfl (o_move rfl) ?_
          refine f_stepP rfl rfl rfl (o_eql rfl rfl) ?_
          refine f_stepP rfl rfl rfl (o_move rfl) ?_
          refine f_trueL 161 rfl (rfl) ?_
          refine f_stepPY rfl rfl rfl rfl rfl (o_move rfl) ?_
          refine f_stepPY rfl rfl rfl rfl rfl (o_move rfl) ?_
          refine f_stepPY rfl rfl rfl rfl rfl (o_eqlB Try.underlying4 rfl rfl) ?_
          refine f_stepP rfl rfl rfl (o_pickT rfl rfl) ?_
          refine f_stepP rfl rfl rfl (o_move rfl) ?_
          refine f_trueL 166 rfl (rfl) ?_
          refine f_stepPY rfl rfl rfl rfl rfl (o_move rfl) ?_
          refine f_stepPY rfl rfl rfl rfl rfl (o_move rfl) ?_
          refine f_stepPY rfl rfl rfl rfl rfl (o_eql rfl rfl) ?_
          refine f_stepP rfl rfl rfl (o_pickT rfl rfl) ?_
          refine f_stepP rfl rfl rfl (o_assign rfl) ?_
          refine f_done ?_
          refine f_tn (kh22 _ _ ?_)
          clear kh22
          refine f_ret ?_
          have hs : stepT T a = T := by unfold stepT; rw [if_neg c36, if_neg c64, if_neg c91, if_neg c118]
          exact f_fin1 [hm, gm] Try.results18 rfl (by repeat (first | exact Sub.nil | refine Sub.pick ?_)) ⟨by simp, hm, gm, rfl, by rw [hs]; exact hH, by rw [hs]; exact hG⟩

set_option maxRecDepth 100000 in
set_option maxHeartbeats 4000000 in
theorem HeapPlays_nil (n : Int) (A : Option Addr) (acts : List HAct) (cap : Nat) (w : World) (hn : n < 0 ∨ 16384 < n) :
    Meets Try.prog 6 [.int .i64 n, .slice A acts.length cap] w [] (fun u m => u = .bool true ∧ m = []) := by
  refine f_enter Try.func6 rfl Try.ntmps6 rfl Owns.nil ?_
  refine f_seq fun K1 kh1 => ?_
  refine f_region ?_
  refine f_stepP rfl rfl rfl (o_assign rfl) ?_
  refine f_done ?_
  refine f_tn (kh1 _ _ ?_)
  clear kh1
  refine f_seq fun K2 kh2 => ?_
  refine f_region ?_
  refine f_stepP rfl rfl rfl (o_move rfl) ?_
  refine f_step rfl rfl rfl (o_call Try.call9 rfl (fun w_ hp_ => New_spec n w_) ?_)
  rintro v12 m12 hN
  unfold NewΦ at hN
  rw [if_pos hn] at hN
  obtain ⟨rfl, rfl⟩ := hN
  dsimp only [List.cons_append, List.nil_append]
  refine f_stepP rfl rfl rfl (o_move rfl) ?_
  refine f_stepP rfl rfl rfl (o_extract rfl rfl) ?_
  refine f_stepP rfl rfl rfl (o_extract rfl rfl) ?_
  refine f_stepP rfl rfl rfl (o_assign rfl) ?_
  refine f_stepP rfl rfl rfl (o_assign rfl) ?_
  refine f_done ?_
  refine f_tn (kh2 _ _ ?_)
  clear kh2
  refine f_seq fun K3 kh3 => ?_
  refine f_region ?_
  refine f_stepP rfl rfl rfl (o_move rfl) ?_
  refine f_step rfl rfl rfl (o_call Try.call17 rfl (fun w_ hp_ => RNew_spec n w_) ?_)
  rintro v17 m17 hN
  unfold RNewΦ at hN
  rw [if_pos hn] at hN
  obtain ⟨rfl, rfl⟩ := hN
  dsimp only [List.cons_append, List.nil_append]
  refine f_stepP rfl rfl rfl (o_move rfl) ?_
  refine f_stepP rfl rfl rfl (o_extract rfl rfl) ?_
  refine f_stepP rfl rfl rfl (o_extract rfl rfl) ?_
  refine f_stepP rfl rfl rfl (o_assign rfl) ?_
  refine f_stepP rfl rfl rfl (o_assign rfl) ?_
  refine f_done ?_
  refine f_tn (kh3 _ _ ?_)
  clear kh3
  refine f_seq fun K4 kh4 => ?_
  refine f_seq fun K5 kh5 => ?_
  refine f_region ?_
  refine f_stepP rfl rfl rfl (o_move rfl) ?_
  refine f_stepP rfl rfl rfl (o_move rfl) ?_
  refine f_stepP rfl rfl rfl (o_neq rfl rfl) ?_
  refine f_stepP rfl rfl rfl (o_move rfl) ?_
  refine f_falseL 23 rfl (by simp) ?_
  refine f_stepPY rfl rfl rfl rfl rfl (o_move rfl) ?_
  refine f_stepPY rfl rfl rfl rfl rfl (o_eqlN (by kernel_rfl) rfl rfl) ?_
  refine f_stepPY rfl rfl rfl rfl rfl (o_move rfl) ?_
  refine f_stepPY rfl rfl rfl rfl rfl (o_eqlN (by kernel_rfl) rfl rfl) ?_
  refine f_stepPY rfl rfl rfl rfl rfl (o_neqB Try.underlying4 rfl rfl) ?_
  refine f_stepP rfl rfl rfl (o_pickF rfl rfl) ?_
  refine f_done ?_
  refine f_tn (kh5 _ _ ?_)
  clear kh5
  refine f_condN rfl (by simp) ?_
  refine f_skip ?_
  refine f_tn (kh4 _ _ ?_)
  clear kh4
  refine f_seq fun K6 kh6 => ?_
  refine f_seq fun K7 kh7 => ?_
  refine f_region ?_
  refine f_stepP rfl rfl rfl (o_assign rfl) ?_
  refine f_done ?_
  refine f_tn (kh7 _ _ ?_)
  clear kh7
  refine f_block ?_
  refine f_loop (α := Unit) [1, 5, 7] (fun x_ => [(9, .int .i64 0)]) (fun x_ => []) (fun x_ => True) (fun x_ => 0) (()) ?_ ?_ ?_ ?_
  · exact (by repeat (first | exact trivial | refine ⟨rfl, ?_⟩))
  · repeat (first | exact Sub.nil | refine Sub.pick ?_ | refine Sub.castO rfl ?_ | refine Sub.skip ?_)
  · trivial
  · rintro x_ _
    refine f_seq fun K8 kh8 => ?_
    refine f_seq fun K9 kh9 => ?_
    refine f_region ?_
    refine f_stepP rfl rfl rfl (o_move rfl) ?_
    refine f_stepP rfl rfl rfl (o_neqN (by kernel_rfl) rfl rfl) ?_
    refine f_stepP rfl rfl rfl (o_move rfl) ?_
    refine f_stepN rfl rfl rfl rfl rfl rfl ?_
    refine f_stepN rfl rfl rfl rfl rfl rfl ?_
    refine f_stepN rfl rfl rfl rfl rfl rfl ?_
    refine f_stepN rfl rfl rfl rfl rfl rfl ?_
    refine f_stepP rfl rfl rfl (o_pickF rfl rfl) ?_
    refine f_stepP rfl rfl rfl (o_move rfl) ?_
    refine f_stepN rfl rfl rfl rfl rfl rfl ?_
    refine f_stepN rfl rfl rfl rfl rfl rfl ?_
    refine f_stepP rfl rfl rfl (o_pickF rfl rfl) ?_
    refine f_done ?_
    refine f_tn (kh9 _ _ ?_)
    clear kh9
    refine f_condF rfl ?_
    refine f_exit ?_
    refine f_te ?_
    clear kh8
    refine f_te ?_
    refine f_be ?_
    refine f_tn (kh6 _ _ ?_)
    clear kh6
    refine f_seq fun K10 kh10 => ?_
    refine f_region ?_
    refine f_step rfl rfl rfl (o_call Try.call8 rfl (fun w_ hp_ => works_spec w_) ?_)
    rintro _ _ ⟨rfl, rfl⟩
    dsimp only [List.cons_append, List.nil_append]
    refine f_stepP rfl rfl rfl (o_assign rfl) ?_
    refine f_done ?_
    refine f_tn (kh10 _ _ ?_)
    clear kh10
    refine f_ret ?_
    exact f_fin1 [] Try.results6 rfl Sub.nil ⟨rfl, rfl⟩

set_option maxRecDepth 100000 in
set_option maxHeartbeats 4000000 in
theorem HeapPlays_ok (n : Int) (A : Option Addr) (acts : List HAct) (cap : Nat) (w : World) (hr : Ro (Fr w []) w A (acts.flatMap hactCs)) (hl : acts.length ≤ 9223372036854775807) (hn : ¬ (n < 0 ∨ 16384 < n)) :
    Meets Try.prog 6 [.int .i64 n, .slice A acts.length cap] w [] (fun u m => u = .bool true ∧ m = []) := by
  refine f_enter Try.func6 rfl Try.ntmps6 rfl Owns.nil ?_
  refine f_seq fun K1 kh1 => ?_
  refine f_region ?_
  refine f_stepP rfl rfl rfl (o_assign rfl) ?_
  refine f_done ?_
  refine f_tn (kh1 _ _ ?_)
  clear kh1
  refine f_seq fun K2 kh2 => ?_
  refine f_region ?_
  refine f_stepP rfl rfl rfl (o_move rfl) ?_
  refine f_step rfl rfl rfl (o_call Try.call9 rfl (fun w_ hp_ => New_spec n w_) ?_)
  rintro v12 m12 hN
  unfold NewΦ at hN
  rw [if_neg hn] at hN
  obtain ⟨bH, hm1, rfl, rfl, hH1⟩ := hN
  dsimp only [List.cons_append, List.nil_append]
  refine f_stepP rfl rfl rfl (o_move rfl) ?_
  refine f_stepP rfl rfl rfl (o_extract rfl rfl) ?_
  refine f_stepP rfl rfl rfl (o_extract rfl rfl) ?_
  refine f_stepP rfl rfl rfl (o_assign rfl) ?_
  refine f_stepP rfl rfl rfl (o_assign rfl) ?_
  refine f_done ?_
  refine f_tn (kh2 _ _ ?_)
  clear kh2
  refine f_seq fun K3 kh3 => ?_
  refine f_region ?_
  refine f_stepP rfl rfl rfl (o_move rfl) ?_
  refine f_step rfl rfl rfl (o_call Try.call17 rfl (fun w_ hp_ => RNew_spec n w_) ?_)
  rintro v17 m17 hN
  unfold RNewΦ at hN
  rw [if_neg hn] at hN
  obtain ⟨bG, gm1, rfl, rfl, hG1⟩ := hN
  dsimp only [List.cons_append, List.nil_append]
  refine f_stepP rfl rfl rfl (o_move rfl) ?_
  refine f_stepP rfl rfl rfl (o_extract rfl rfl) ?_
  refine f_stepP rfl rfl rfl (o_extract rfl rfl) ?_
  refine f_stepP rfl rfl rfl (o_assign rfl) ?_
  refine f_stepP rfl rfl rfl (o_assign rfl) ?_
  refine f_done ?_
  refine f_tn (kh3 _ _ ?_)
  clear kh3
  refine f_seq fun K4 kh4 => ?_
  refine f_seq fun K5 kh5 => ?_
  refine f_region ?_
  refine f_stepP rfl rfl rfl (o_move rfl) ?_
  refine f_stepP rfl rfl rfl (o_move rfl) ?_
  refine f_stepP rfl rfl rfl (o_neq rfl rfl) ?_
  refine f_stepP rfl rfl rfl (o_move rfl) ?_
  refine f_falseL 23 rfl (by simp) ?_
  refine f_stepPY rfl rfl rfl rfl rfl (o_move rfl) ?_
  refine f_stepPY rfl rfl rfl rfl rfl (o_eqlN (by kernel_rfl) rfl rfl) ?_
  refine f_stepPY rfl rfl rfl rfl rfl (o_move rfl) ?_
  refine f_stepPY rfl rfl rfl rfl rfl (o_eqlN (by kernel_rfl) rfl rfl) ?_
  refine f_stepPY rfl rfl rfl rfl rfl (o_neqB Try.underlying4 rfl rfl) ?_
  refine f_stepP rfl rfl rfl (o_pickF rfl rfl) ?_
  refine f_done ?_
  refine f_tn (kh5 _ _ ?_)
  clear kh5
  refine f_condN rfl (by simp) ?_
  refine f_skip ?_
  refine f_tn (kh4 _ _ ?_)
  clear kh4
  refine f_seq fun K6 kh6 => ?_
  refine f_seq fun K7 kh7 => ?_
  refine f_region ?_
  refine f_stepP rfl rfl rfl (o_assign rfl) ?_
  refine f_done ?_
  refine f_tn (kh7 _ _ ?_)
  clear kh7
  refine f_block ?_
  refine f_loop (α := Nat × List (Option Int) × Seg × Seg) [1, 5, 7] (fun ⟨i, T, hm, gm⟩ => [(9, .int .i64 (i : Int))]) (fun ⟨i, T, hm, gm⟩ => [gm, hm]) (fun ⟨i, T, hm, gm⟩ => i ≤ acts.length ∧ HRep T bH hm ∧ RRep T bG gm) (fun ⟨i, T, hm, gm⟩ => acts.length - i) (0, List.replicate n.toNat none, hm1, gm1) ?_ ?_ ?_ ?_
  · exact (by repeat (first | exact trivial | refine ⟨rfl, ?_⟩))
  · repeat (first | exact Sub.nil | refine Sub.pick ?_ | refine Sub.castO rfl ?_ | refine Sub.skip ?_)
  · exact ⟨Nat.zero_le _, hH1, hG1⟩
  · rintro ⟨i, T, hm, gm⟩ ⟨hil, hH, hG⟩
    refine f_seq fun K8 kh8 => ?_
    refine f_seq fun K9 kh9 => ?_
    refine f_region ?_
    refine f_stepP rfl rfl rfl (o_move rfl) ?_
    refine f_stepP rfl rfl rfl (o_neqN (by kernel_rfl) rfl rfl) ?_
    refine f_stepP rfl rfl rfl (o_move rfl) ?_
    refine f_stepPY rfl rfl rfl rfl rfl (o_move rfl) ?_
    refine f_stepPY rfl rfl rfl rfl rfl (o_move rfl) ?_
    refine f_stepPY rfl rfl rfl rfl rfl (o_len sl37 rfl) ?_
    refine f_stepPY rfl rfl rfl rfl rfl (o_lss rfl rfl) ?_
    refine f_stepP rfl rfl rfl (o_pickT rfl rfl) ?_
    refine f_stepP rfl rfl rfl (o_move rfl) ?_
    refine f_splitL 38 rfl (fun g38 => ?_) (fun g38 => ?_)
    · skip
      refine f_stepPY rfl rfl rfl rfl rfl (o_move rfl) ?_
      refine f_stepPY rfl rfl rfl rfl rfl (o_lss rfl rfl) ?_
      refine f_stepP rfl rfl rfl (o_pickT rfl rfl) ?_
      refine f_done ?_
      refine f_tn (kh9 _ _ ?_)
      clear kh9
      refine f_cond rfl (fun c41 => ?_) (fun c41 => ?_)
      · skip
        refine f_skip ?_
        refine f_tn (kh8 _ _ ?_)
        clear kh8
        refine f_seq fun K10 kh10 => ?_
        refine f_block ?_
        refine f_seq fun K11 kh11 => ?_
        refine f_region ?_
        refine f_stepP rfl rfl rfl (o_move rfl) ?_
        refine f_stepP rfl rfl rfl (o_move rfl) ?_
        refine f_stepP rfl rfl rfl (o_move rfl) ?_
        refine f_stepP rfl rfl rfl (o_move rfl) ?_
        have hi : i < acts.length := by omega
        obtain ⟨bl, off, rfl, hS, hc⟩ := hr (flat_ne hactCs hactCs_len (by omega) hi)
        refine f_stepP rfl rfl rfl (o_idx sl37 rfl rfl (off + i * 3) ⟨by omega, by omega, by first | omega | (simp; done) | (simp; omega)⟩) ?_
        refine f_stepP rfl rfl rfl (o_loadA (vs := hactCs acts[i]) Try.isAgg40 Try.sizeOf40 rfl rfl (roElem hactCs_len hS hc hi)) ?_
        refine f_step rfl rfl rfl (o_callM [hm, gm] _ Try.call18 rfl (Sub.pick (Sub.pick Sub.refl)) (fun w_ hp_ => step_spec T bH bG hm gm acts[i] w_ hH hG hp_.owns) ?_)
        rintro _ _ ⟨rfl, hm2, gm2, rfl, hH2, hG2⟩
        dsimp only [List.cons_append, List.nil_append]
        refine f_stepP rfl rfl rfl (o_not rfl) ?_
        refine f_stepP rfl rfl rfl (o_move rfl) ?_
        refine f_stepPY rfl rfl rfl rfl rfl (o_move rfl) ?_
        refine f_stepY rfl rfl rfl rfl rfl (o_callM [hm2] _ Try.call11 rfl (Sub.pick Sub.refl) (fun w_ hp_ => Len_spec (stepT T acts[i]) bH hm2 w_ hH2 hp_.owns) ?_)
        rintro _ _ ⟨rfl, rfl⟩
        dsimp only [List.cons_append, List.nil_append]
        refine f_stepPY rfl rfl rfl rfl rfl (o_move rfl) ?_
        refine f_stepY rfl rfl rfl rfl rfl (o_callM [gm2] _ Try.call19 rfl (Sub.pick Sub.refl) (fun w_ hp_ => RLen_spec (stepT T acts[i]) bG gm2 w_ hG2 hp_.owns) ?_)
        rintro _ _ ⟨rfl, rfl⟩
        dsimp only [List.cons_append, List.nil_append]
        refine f_stepPY rfl rfl rfl rfl rfl (o_neq rfl rfl) ?_
        refine f_stepP rfl rfl rfl (o_pickF rfl rfl) ?_
        refine f_done ?_
        refine f_tn (kh11 _ _ ?_)
        clear kh11
        refine f_condN rfl (by simp) ?_
        refine f_skip ?_
        refine f_bn ?_
        refine f_tn (kh10 _ _ ?_)
        clear kh10
        refine f_region ?_
        refine f_stepP rfl rfl rfl (o_move rfl) ?_
        refine f_stepP rfl rfl rfl (o_add rfl rfl _ (wrap_i64 (by omega))) ?_
        refine f_stepP rfl rfl rfl (o_assign rfl) ?_
        refine f_done ?_
        refine f_tn (f_again (i + 1, stepT T acts[i], hm2, gm2) (by first | omega | (dsimp only; omega) | (simp; omega)) ⟨by omega, hH2, hG2⟩ ?_ ?_ ?_)
        · exact (by repeat (first | exact trivial | refine ⟨rfl, ?_⟩))
        · exact (by repeat (first | exact trivial | refine ⟨rfl, ?_⟩))
        · repeat (first | exact Sub.nil | refine Sub.pick ?_ | refine Sub.castO rfl ?_ | refine Sub.skip ?_)
      · skip
        refine f_exit ?_
        refine f_te ?_
        clear kh8
        refine f_te ?_
        refine f_be ?_
        refine f_tn (kh6 _ _ ?_)
        clear kh6
        refine f_seq fun K12 kh12 => ?_
        refine f_region ?_
        refine f_step rfl rfl rfl (o_call Try.call8 rfl (fun w_ hp_ => works_spec w_) ?_)
        rintro _ _ ⟨rfl, rfl⟩
        dsimp only [List.cons_append, List.nil_append]
        refine f_stepP rfl rfl rfl (o_assign rfl) ?_
        refine f_done ?_
        refine f_tn (kh12 _ _ ?_)
        clear kh12
        refine f_ret ?_
        exact f_fin1 [] Try.results6 rfl Sub.nil ⟨rfl, rfl⟩
    · skip
      refine f_stepN rfl rfl rfl rfl rfl rfl ?_
      refine f_stepN rfl rfl rfl rfl rfl rfl ?_
      refine f_stepP rfl rfl rfl (o_pickF rfl rfl) ?_
      refine f_done ?_
      refine f_tn (kh9 _ _ ?_)
      clear kh9
      refine f_condF rfl ?_
      refine f_exit ?_
      refine f_te ?_
      clear kh8
      refine f_te ?_
      refine f_be ?_
      refine f_tn (kh6 _ _ ?_)
      clear kh6
      refine f_seq fun K13 kh13 => ?_
      refine f_region ?_
      refine f_step rfl rfl rfl (o_call Try.call8 rfl (fun w_ hp_ => works_spec w_) ?_)
      rintro _ _ ⟨rfl, rfl⟩
      dsimp only [List.cons_append, List.nil_append]
      refine f_stepP rfl rfl rfl (o_assign rfl) ?_
      refine f_done ?_
      refine f_tn (kh13 _ _ ?_)
      clear kh13
      refine f_ret ?_
      exact f_fin1 [] Try.results6 rfl Sub.nil ⟨rfl, rfl⟩


theorem HeapPlays_spec (n : Int) (A : Option Addr) (acts : List HAct) (cap : Nat) (w : World) (hr : Ro (Fr w []) w A (acts.flatMap hactCs)) (hl : acts.length ≤ 9223372036854775807) :
    Meets Try.prog 6 [.int .i64 n, .slice A acts.length cap] w [] (fun u m => u = .bool true ∧ m = []) := by
  by_cases hn : n < 0 ∨ 16384 < n
  · exact HeapPlays_nil n A acts cap w hn
  · exact HeapPlays_ok n A acts cap w hr hl hn

set_option maxRecDepth 100000 in
set_option maxHeartbeats 4000000 in
theorem HeapTwo_spec (n0 : Int) (A : Option Addr) (acts : List HAct) (cap : Nat) (w : World) (hr : Ro (Fr w []) w A (acts.flatMap hactCs)) (hl : acts.length ≤ 9223372036854775807) :
    Meets Try.prog 7 [.int .i64 n0, .slice A acts.length cap] w [] (fun u m => u = .bool true ∧ m = []) := by
  refine f_enter Try.func7 rfl Try.ntmps7 rfl Owns.nil ?_
  refine f_seq fun K1 kh1 => ?_
  refine f_region ?_
  refine f_stepP rfl rfl rfl (o_assign rfl) ?_
  refine f_done ?_
  refine f_tn (kh1 _ _ ?_)
  clear kh1
  refine f_seq fun K2 kh2 => ?_
  refine f_region ?_
  refine f_stepP rfl rfl rfl (o_move rfl) ?_
  refine f_step rfl rfl rfl (o_call Try.call13 rfl (fun w_ hp_ => among_spec n0 50 w_ (by decide)) ?_)
  rintro _ _ ⟨rfl, rfl⟩
  obtain ⟨n, hn⟩ : ∃ n : Nat, n0 % 50 = (n : Int) := ⟨(n0 % 50).toNat, by omega⟩
  rw [hn]
  dsimp only [List.cons_append, List.nil_append]
  refine f_stepP rfl rfl rfl (o_assign rfl) ?_
  refine f_done ?_
  refine f_tn (kh2 _ _ ?_)
  clear kh2
  refine f_seq fun K3 kh3 => ?_
  refine f_region ?_
  refine f_stepP rfl rfl rfl (o_move rfl) ?_
  refine f_step rfl rfl rfl (o_call Try.call9 rfl (fun w_ hp_ => New_spec (n : Int) w_) ?_)
  rintro _ _ hN
  rw [NewΦ, if_neg (by omega), Int.toNat_natCast] at hN
  obtain ⟨ba, hma0, rfl, rfl, hHa0⟩ := hN
  dsimp only [List.cons_append, List.nil_append]
  refine f_stepP rfl rfl rfl (o_move rfl) ?_
  refine f_stepP rfl rfl rfl (o_extract rfl rfl) ?_
  refine f_stepP rfl rfl rfl (o_extract rfl rfl) ?_
  refine f_stepP rfl rfl rfl (o_assign rfl) ?_
  refine f_stepP rfl rfl rfl (o_assign rfl) ?_
  refine f_done ?_
  refine f_tn (kh3 _ _ ?_)
  clear kh3
  refine f_seq fun K4 kh4 => ?_
  refine f_region ?_
  refine f_stepP rfl rfl rfl (o_move rfl) ?_
  refine f_step rfl rfl rfl (o_call Try.call9 rfl (fun w_ hp_ => New_spec (n : Int) w_) ?_)
  rintro _ _ hN
  rw [NewΦ, if_neg (by omega), Int.toNat_natCast] at hN
  obtain ⟨bb, hmb0, rfl, rfl, hHb0⟩ := hN
  dsimp only [List.cons_append, List.nil_append]
  refine f_stepP rfl rfl rfl (o_move rfl) ?_
  refine f_stepP rfl rfl rfl (o_extract rfl rfl) ?_
  refine f_stepP rfl rfl rfl (o_extract rfl rfl) ?_
  refine f_stepP rfl rfl rfl (o_assign rfl) ?_
  refine f_stepP rfl rfl rfl (o_assign rfl) ?_
  refine f_done ?_
  refine f_tn (kh4 _ _ ?_)
  clear kh4
  refine f_seq fun K5 kh5 => ?_
  refine f_region ?_
  refine f_stepP rfl rfl rfl (o_move rfl) ?_
  refine f_step rfl rfl rfl (o_call Try.call17 rfl (fun w_ hp_ => RNew_spec (n : Int) w_) ?_)
  rintro _ _ hN
  rw [RNewΦ, if_neg (by omega), Int.toNat_natCast] at hN
  obtain ⟨bc, gma0, rfl, rfl, hGa0⟩ := hN
  dsimp only [List.cons_append, List.nil_append]
  refine f_stepP rfl rfl rfl (o_move rfl) ?_
  refine f_stepP rfl rfl rfl (o_extract rfl rfl) ?_
  refine f_stepP rfl rfl rfl (o_extract rfl rfl) ?_
  refine f_stepP rfl rfl rfl (o_assign rfl) ?_
  refine f_stepP rfl rfl rfl (o_assign rfl) ?_
  refine f_done ?_
  refine f_tn (kh5 _ _ ?_)
  clear kh5
  refine f_seq fun K6 kh6 => ?_
  refine f_region ?_
  refine f_stepP rfl rfl rfl (o_move rfl) ?_
  refine f_step rfl rfl rfl (o_call Try.call17 rfl (fun w_ hp_ => RNew_spec (n : Int) w_) ?_)
  rintro _ _ hN
  rw [RNewΦ, if_neg (by omega), Int.toNat_natCast] at hN
  obtain ⟨bd, gmb0, rfl, rfl, hGb0⟩ := hN
  dsimp only [List.cons_append, List.nil_append]
  refine f_stepP rfl rfl rfl (o_move rfl) ?_
  refine f_stepP rfl rfl rfl (o_extract rfl rfl) ?_
  refine f_stepP rfl rfl rfl (o_extract rfl rfl) ?_
  refine f_stepP rfl rfl rfl (o_assign rfl) ?_
  refine f_stepP rfl rfl rfl (o_assign rfl) ?_
  refine f_done ?_
  refine f_tn (kh6 _ _ ?_)
  clear kh6
  refine f_seq fun K7 kh7 => ?_
  refine f_seq fun K8 kh8 => ?_
  refine f_region ?_
  refine f_stepP rfl rfl rfl (o_move rfl) ?_
  refine f_stepP rfl rfl rfl (o_neq rfl rfl) ?_
  refine f_stepP rfl rfl rfl (o_move rfl) ?_
  refine f_falseL 40 rfl (by simp) ?_
  refine f_stepPY rfl rfl rfl rfl rfl (o_move rfl) ?_
  refine f_stepPY rfl rfl rfl rfl rfl (o_neq rfl rfl) ?_
  refine f_stepP rfl rfl rfl (o_pickF rfl rfl) ?_
  refine f_stepP rfl rfl rfl (o_move rfl) ?_
  refine f_falseL 44 rfl (by simp) ?_
  refine f_stepPY rfl rfl rfl rfl rfl (o_move rfl) ?_
  refine f_stepPY rfl rfl rfl rfl rfl (o_eqlN (by kernel_rfl) rfl rfl) ?_
  refine f_stepP rfl rfl rfl (o_pickF rfl rfl) ?_
  refine f_stepP rfl rfl rfl (o_move rfl) ?_
  refine f_stepPY rfl rfl rfl rfl rfl (o_move rfl) ?_
  refine f_stepPY rfl rfl rfl rfl rfl (o_eqlN (by kernel_rfl) rfl rfl) ?_
  refine f_stepP rfl rfl rfl (o_pickF rfl rfl) ?_
  refine f_done ?_
  refine f_tn (kh8 _ _ ?_)
  clear kh8
  refine f_condF rfl ?_
  refine f_skip ?_
  refine f_tn (kh7 _ _ ?_)
  clear kh7
  refine f_seq fun K9 kh9 => ?_
  refine f_seq fun K10 kh10 => ?_
  refine f_region ?_
  refine f_stepP rfl rfl rfl (o_assign rfl) ?_
  refine f_done ?_
  refine f_tn (kh10 _ _ ?_)
  clear kh10
  refine f_block ?_
  refine f_loop (α := Nat × List (Option Int) × List (Option Int) × Seg × Seg × Seg × Seg) [1, 5, 7, 9, 11] (fun ⟨i, Ta, Tb, hma, hmb, gma, gmb⟩ => [(13, .int .i64 (i : Int))]) (fun ⟨i, Ta, Tb, hma, hmb, gma, gmb⟩ => [gmb, gma, hmb, hma]) (fun ⟨i, Ta, Tb, hma, hmb, gma, gmb⟩ => i ≤ acts.length ∧ HRep Ta ba hma ∧ HRep Tb bb hmb ∧ RRep Ta bc gma ∧ RRep Tb bd gmb) (fun ⟨i, Ta, Tb, hma, hmb, gma, gmb⟩ => acts.length - i) (0, List.replicate n none, List.replicate n none, hma0, hmb0, gma0, gmb0) ?_ ?_ ?_ ?_
  · exact (by repeat (first | exact trivial | refine ⟨rfl, ?_⟩))
  · repeat (first | exact Sub.nil | refine Sub.pick ?_ | refine Sub.castO rfl ?_ | refine Sub.skip ?_)
  · exact ⟨Nat.zero_le _, hHa0, hHb0, hGa0, hGb0⟩
  · rintro ⟨i, Ta, Tb, hma, hmb, gma, gmb⟩ ⟨hil, hHa, hHb, hGa, hGb⟩
    refine f_seq fun K11 kh11 => ?_
    refine f_seq fun K12 kh12 => ?_
    refine f_region ?_
    refine f_stepP rfl rfl rfl (o_move rfl) ?_
    refine f_stepP rfl rfl rfl (o_move rfl) ?_
    refine f_stepP rfl rfl rfl (o_len sl37 rfl) ?_
    refine f_stepP rfl rfl rfl (o_lss rfl rfl) ?_
    refine f_stepP rfl rfl rfl (o_move rfl) ?_
    refine f_splitL 56 rfl (fun g56 => ?_) (fun g56 => ?_)
    · skip
      refine f_stepPY rfl rfl rfl rfl rfl (o_move rfl) ?_
      refine f_stepPY rfl rfl rfl rfl rfl (o_lss rfl rfl) ?_
      refine f_stepP rfl rfl rfl (o_pickT rfl rfl) ?_
      refine f_done ?_
      refine f_tn (kh12 _ _ ?_)
      clear kh12
      refine f_cond rfl (fun c59 => ?_) (fun c59 => ?_)
      · skip
        refine f_skip ?_
        refine f_tn (kh11 _ _ ?_)
        clear kh11
        refine f_seq fun K13 kh13 => ?_
        refine f_block ?_
        refine f_seq fun K14 kh14 => ?_
        refine f_region ?_
        refine f_stepP rfl rfl rfl (o_move rfl) ?_
        refine f_stepP rfl rfl rfl (o_move rfl) ?_
        refine f_stepP rfl rfl rfl (o_assign rfl) ?_
        refine f_stepP rfl rfl rfl (o_assign rfl) ?_
        refine f_done ?_
        refine f_tn (kh14 _ _ ?_)
        clear kh14
        refine f_seq fun K15 kh15 => ?_
        refine f_seq fun K16 kh16 => ?_
        refine f_region ?_
        refine f_stepP rfl rfl rfl (o_move rfl) ?_
        refine f_stepP rfl rfl rfl (o_rem rfl rfl (by decide) ((i % 2 : Nat) : Int) rfl) ?_
        refine f_stepP rfl rfl rfl (o_eql rfl rfl) ?_
        refine f_done ?_
        refine f_tn (kh16 _ _ ?_)
        clear kh16
        refine f_cond rfl (fun c66 => ?_) (fun c66 => ?_)
        · skip
          refine f_region ?_
          refine f_stepP rfl rfl rfl (o_move rfl) ?_
          refine f_stepP rfl rfl rfl (o_move rfl) ?_
          refine f_stepP rfl rfl rfl (o_assign rfl) ?_
          refine f_stepP rfl rfl rfl (o_assign rfl) ?_
          refine f_done ?_
          refine f_tn (kh15 _ _ ?_)
          clear kh15
          refine f_seq fun K17 kh17 => ?_
          refine f_region ?_
          refine f_stepP rfl rfl rfl (o_move rfl) ?_
          refine f_stepP rfl rfl rfl (o_move rfl) ?_
          refine f_stepP rfl rfl rfl (o_move rfl) ?_
          refine f_stepP rfl rfl rfl (o_move rfl) ?_
          have hi : i < acts.length := by omega
          obtain ⟨bl, off, rfl, hS, hc⟩ := hr (flat_ne hactCs hactCs_len (by omega) hi)
          refine f_stepP rfl rfl rfl (o_idx sl37 rfl rfl (off + i * 3) ⟨by omega, by omega, by first | omega | (simp; done) | (simp; omega)⟩) ?_
          refine f_stepP rfl rfl rfl (o_loadA (vs := hactCs acts[i]) Try.isAgg40 Try.sizeOf40 rfl rfl (roElem hactCs_len hS hc hi)) ?_
          refine f_step rfl rfl rfl (o_callM [hmb, gmb] _ Try.call18 rfl (Sub.pick (Sub.pick Sub.refl)) (fun w_ hp_ => step_spec Tb bb bd hmb gmb acts[i] w_ hHb hGb hp_.owns) ?_)
          rintro _ _ ⟨rfl, hm2, gm2, rfl, hH2, hG2⟩
          dsimp only [List.cons_append, List.nil_append]
          refine f_stepP rfl rfl rfl (o_not rfl) ?_
          refine f_stepP rfl rfl rfl (o_move rfl) ?_
          refine f_stepPY rfl rfl rfl rfl rfl (o_move rfl) ?_
          refine f_stepY rfl rfl rfl rfl rfl (o_callM [hma] _ Try.call11 rfl (Sub.pick Sub.refl) (fun w_ hp_ => Len_spec Ta ba hma w_ hHa hp_.owns) ?_)
          rintro _ _ ⟨rfl, rfl⟩
          dsimp only [List.cons_append, List.nil_append]
          refine f_stepPY rfl rfl rfl rfl rfl (o_move rfl) ?_
          refine f_stepY rfl rfl rfl rfl rfl (o_callM [gma] _ Try.call19 rfl (Sub.pick Sub.refl) (fun w_ hp_ => RLen_spec Ta bc gma w_ hGa hp_.owns) ?_)
          rintro _ _ ⟨rfl, rfl⟩
          dsimp only [List.cons_append, List.nil_append]
          refine f_stepPY rfl rfl rfl rfl rfl (o_neq rfl rfl) ?_
          refine f_stepP rfl rfl rfl (o_pickF rfl rfl) ?_
          refine f_stepP rfl rfl rfl (o_move rfl) ?_
          refine f_falseL 84 rfl (by simp) ?_
          refine f_stepPY rfl rfl rfl rfl rfl (o_move rfl) ?_
          refine f_stepY rfl rfl rfl rfl rfl (o_callM [hm2] _ Try.call11 rfl (Sub.pick Sub.refl) (fun w_ hp_ => Len_spec (stepT Tb acts[i]) bb hm2 w_ hH2 hp_.owns) ?_)
          rintro _ _ ⟨rfl, rfl⟩
          dsimp only [List.cons_append, List.nil_append]
          refine f_stepPY rfl rfl rfl rfl rfl (o_move rfl) ?_
          refine f_stepY rfl rfl rfl rfl rfl (o_callM [gm2] _ Try.call19 rfl (Sub.pick Sub.refl) (fun w_ hp_ => RLen_spec (stepT Tb acts[i]) bd gm2 w_ hG2 hp_.owns) ?_)
          rintro _ _ ⟨rfl, rfl⟩
          dsimp only [List.cons_append, List.nil_append]
          refine f_stepPY rfl rfl rfl rfl rfl (o_neq rfl rfl) ?_
          refine f_stepP rfl rfl rfl (o_pickF rfl rfl) ?_
          refine f_done ?_
          refine f_tn (kh17 _ _ ?_)
          clear kh17
          refine f_condN rfl (by simp) ?_
          refine f_skip ?_
          refine f_bn ?_
          refine f_tn (kh13 _ _ ?_)
          clear kh13
          refine f_region ?_
          refine f_stepP rfl rfl rfl (o_move rfl) ?_
          refine f_stepP rfl rfl rfl (o_add rfl rfl _ (wrap_i64 (by omega))) ?_
          refine f_stepP rfl rfl rfl (o_assign rfl) ?_
          refine f_done ?_
          refine f_tn (f_again (i + 1, Ta, stepT Tb acts[i], hma, hm2, gma, gm2) (by first | omega | (dsimp only; omega) | (simp; omega)) ⟨by omega, hHa, hH2, hGa, hG2⟩ ?_ ?_ ?_)
          · exact (by repeat (first | exact trivial | refine ⟨rfl, ?_⟩))
          · exact (by repeat (first | exact trivial | refine ⟨rfl, ?_⟩))
          · repeat (first | exact Sub.nil | refine Sub.pick ?_ | refine Sub.castO rfl ?_ | refine Sub.skip ?_)
        · skip
          refine f_skip ?_
          refine f_tn (kh15 _ _ ?_)
          clear kh15
          refine f_seq fun K18 kh18 => ?_
          refine f_region ?_
          refine f_stepP rfl rfl rfl (o_move rfl) ?_
          refine f_stepP rfl rfl rfl (o_move rfl) ?_
          refine f_stepP rfl rfl rfl (o_move rfl) ?_
          refine f_stepP rfl rfl rfl (o_move rfl) ?_
          have hi : i < acts.length := by omega
          obtain ⟨bl, off, rfl, hS, hc⟩ := hr (flat_ne hactCs hactCs_len (by omega) hi)
          refine f_stepP rfl rfl rfl (o_idx sl37 rfl rfl (off + i * 3) ⟨by omega, by omega, by first | omega | (simp; done) | (simp; omega)⟩) ?_
          refine f_stepP rfl rfl rfl (o_loadA (vs := hactCs acts[i]) Try.isAgg40 Try.sizeOf40 rfl rfl (roElem hactCs_len hS hc hi)) ?_
          refine f_step rfl rfl rfl (o_callM [hma, gma] _ Try.call18 rfl (Sub.pick (Sub.pick Sub.refl)) (fun w_ hp_ => step_spec Ta ba bc hma gma acts[i] w_ hHa hGa hp_.owns) ?_)
          rintro _ _ ⟨rfl, hm2, gm2, rfl, hH2, hG2⟩
          dsimp only [List.cons_append, List.nil_append]
          refine f_stepP rfl rfl rfl (o_not rfl) ?_
          refine f_stepP rfl rfl rfl (o_move rfl) ?_
          refine f_stepPY rfl rfl rfl rfl rfl (o_move rfl) ?_
          refine f_stepY rfl rfl rfl rfl rfl (o_callM [hm2] _ Try.call11 rfl (Sub.pick Sub.refl) (fun w_ hp_ => Len_spec (stepT Ta acts[i]) ba hm2 w_ hH2 hp_.owns) ?_)
          rintro _ _ ⟨rfl, rfl⟩
          dsimp only [List.cons_append, List.nil_append]
          refine f_stepPY rfl rfl rfl rfl rfl (o_move rfl) ?_
          refine f_stepY rfl rfl rfl rfl rfl (o_callM [gm2] _ Try.call19 rfl (Sub.pick Sub.refl) (fun w_ hp_ => RLen_spec (stepT Ta acts[i]) bc gm2 w_ hG2 hp_.owns) ?_)
          rintro _ _ ⟨rfl, rfl⟩
          dsimp only [List.cons_append, List.nil_append]
          refine f_stepPY rfl rfl rfl rfl rfl (o_neq rfl rfl) ?_
          refine f_stepP rfl rfl rfl (o_pickF rfl rfl) ?_
          refine f_stepP rfl rfl rfl (o_move rfl) ?_
          refine f_falseL 84 rfl (by simp) ?_
          refine f_stepPY rfl rfl rfl rfl rfl (o_move rfl) ?_
          refine f_stepY rfl rfl rfl rfl rfl (o_callM [hmb] _ Try.call11 rfl (Sub.pick Sub.refl) (fun w_ hp_ => Len_spec Tb bb hmb w_ hHb hp_.owns) ?_)
          rintro _ _ ⟨rfl, rfl⟩
          dsimp only [List.cons_append, List.nil_append]
          refine f_stepPY rfl rfl rfl rfl rfl (o_move rfl) ?_
          refine f_stepY rfl rfl rfl rfl rfl (o_callM [gmb] _ Try.call19 rfl (Sub.pick Sub.refl) (fun w_ hp_ => RLen_spec Tb bd gmb w_ hGb hp_.owns) ?_)
          rintro _ _ ⟨rfl, rfl⟩
          dsimp only [List.cons_append, List.nil_append]
          refine f_stepPY rfl rfl rfl rfl rfl (o_neq rfl rfl) ?_
          refine f_stepP rfl rfl rfl (o_pickF rfl rfl) ?_
          refine f_done ?_
          refine f_tn (kh18 _ _ ?_)
          clear kh18
          refine f_condN rfl (by simp) ?_
          refine f_skip ?_
          refine f_bn ?_
          refine f_tn (kh13 _ _ ?_)
          clear kh13
          refine f_region ?_
          refine f_stepP rfl rfl rfl (o_move rfl) ?_
          refine f_stepP rfl rfl rfl (o_add rfl rfl _ (wrap_i64 (by omega))) ?_
          refine f_stepP rfl rfl rfl (o_assign rfl) ?_
          refine f_done ?_
          refine f_tn (f_again (i + 1, stepT Ta acts[i], Tb, hm2, hmb, gm2, gmb) (by first | omega | (dsimp only; omega) | (simp; omega)) ⟨by omega, hH2, hHb, hG2, hGb⟩ ?_ ?_ ?_)
          · exact (by repeat (first | exact trivial | refine ⟨rfl, ?_⟩))
          · exact (by repeat (first | exact trivial | refine ⟨rfl, ?_⟩))
          · repeat (first | exact Sub.nil | refine Sub.pick ?_ | refine Sub.castO rfl ?_ | refine Sub.skip ?_)
      · skip
        refine f_exit ?_
        refine f_te ?_
        clear kh11
        refine f_te ?_
        refine f_be ?_
        refine f_tn (kh9 _ _ ?_)
        clear kh9
        refine f_seq fun K19 kh19 => ?_
        refine f_region ?_
        refine f_step rfl rfl rfl (o_call Try.call8 rfl (fun w_ hp_ => works_spec w_) ?_)
        rintro _ _ ⟨rfl, rfl⟩
        dsimp only [List.cons_append, List.nil_append]
        refine f_stepP rfl rfl rfl (o_assign rfl) ?_
        refine f_done ?_
        refine f_tn (kh19 _ _ ?_)
        clear kh19
        refine f_ret ?_
        exact f_fin1 [] Try.results7 rfl Sub.nil ⟨rfl, rfl⟩
    · skip
      refine f_stepN rfl rfl rfl rfl rfl rfl ?_
      refine f_stepN rfl rfl rfl rfl rfl rfl ?_
      refine f_stepP rfl rfl rfl (o_pickF rfl rfl) ?_
      refine f_done ?_
      refine f_tn (kh12 _ _ ?_)
      clear kh12
      refine f_condF rfl ?_
      refine f_exit ?_
      refine f_te ?_
      clear kh11
      refine f_te ?_
      refine f_be ?_
      refine f_tn (kh9 _ _ ?_)
      clear kh9
      refine f_seq fun K20 kh20 => ?_
      refine f_region ?_
      refine f_step rfl rfl rfl (o_call Try.call8 rfl (fun w_ hp_ => works_spec w_) ?_)
      rintro _ _ ⟨rfl, rfl⟩
      dsimp only [List.cons_append, List.nil_append]
      refine f_stepP rfl rfl rfl (o_assign rfl) ?_
      refine f_done ?_
      refine f_tn (kh20 _ _ ?_)
      clear kh20
      refine f_ret ?_
      exact f_fin1 [] Try.results7 rfl Sub.nil ⟨rfl, rfl⟩

end Go.Proofs.Ytpooabplhgdfmaa
