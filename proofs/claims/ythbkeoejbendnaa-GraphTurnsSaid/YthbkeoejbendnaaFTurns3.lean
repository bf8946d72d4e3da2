/- flyoverlaw03.GraphTurns answers true. -/
import Derived.Test.YthbkeoejbendnaaFRev
import Derived.Test.YthbkeoejbendnaaFWorks3
namespace Go.Proofs.Ythbkeoejbendnaa
open Go Go.RowKit Fly
set_option linter.unusedVariables false
set_option linter.unusedSimpArgs false


theorem ends2_rev (l : List Arc) : ends2 (l.map revArc) = (ends2 l).map (fun e => (e.2, e.1)) := by
  unfold ends2; rw [List.map_map, List.map_map]; rfl
theorem conn_rev {l : List Arc} {u v : Nat} : Conn (ends2 l) u v ↔ Conn (ends2 (l.map revArc)) u v := by
  rw [ends2_rev]
  constructor
  · intro h
    induction h with
    | refl => exact .refl _
    | step _ he ih =>
      refine .step ih ?_
      rcases he with he | he
      · exact .inr (List.mem_map.2 ⟨_, he, rfl⟩)
      · exact .inl (List.mem_map.2 ⟨_, he, rfl⟩)
  · intro h
    induction h with
    | refl => exact .refl _
    | step _ he ih =>
      refine .step ih ?_
      rcases he with he | he
      · obtain ⟨⟨a, b⟩, hm, e⟩ := List.mem_map.1 he
        simp only [Prod.mk.injEq] at e
        obtain ⟨rfl, rfl⟩ := e
        exact .inr hm
      · obtain ⟨⟨a, b⟩, hm, e⟩ := List.mem_map.1 he
        simp only [Prod.mk.injEq] at e
        obtain ⟨rfl, rfl⟩ := e
        exact .inl hm
theorem nats_ints (l : List Nat) : nats l = ints (l.map (fun x : Nat => (x : Int))) := by
  unfold nats ints; rw [List.map_map]; rfl

set_option maxRecDepth 100000 in
theorem GraphTurns_spec (N : Int) (A : Option Addr) (l : List Arc) (cap : Nat) (w : World) (hr : Ro (Fr w []) w A (l.flatMap arcCs)) (hl : l.length ≤ 9223372036854775807) (hN : I64 N) (hok : ∀ x ∈ l, ArcOk x) :
    Meets Try.prog 4 [.agg #[.int .i64 N, .slice A l.length cap]] w [] (fun u m => u = .bool true ∧ m = []) := by
  refine f_enter Try.func4 rfl Try.ntmps4 rfl Owns.nil ?_
  refine f_seq fun K1 kh1 => ?_
  refine f_region ?_
  refine f_step rfl rfl rfl (o_box rfl rfl fun b1 => ?_)
  refine f_stepP rfl rfl rfl (o_assign rfl) ?_
  refine f_done ?_
  refine f_tn (kh1 _ _ ?_)
  clear kh1
  refine f_seq fun K2 kh2 => ?_
  refine f_seq fun K3 kh3 => ?_
  refine f_region ?_
  refine f_step rfl rfl rfl (o_call Try.call9 rfl (fun w_ hp_ => works_spec w_) ?_)
  rintro _ _ ⟨rfl, rfl⟩
  dsimp only [List.cons_append, List.nil_append]
  refine f_stepP rfl rfl rfl (o_not rfl) ?_
  refine f_done ?_
  refine f_tn (kh3 _ _ ?_)
  clear kh3
  refine f_condF rfl ?_
  refine f_skip ?_
  refine f_tn (kh2 _ _ ?_)
  clear kh2
  refine f_seq fun K4 kh4 => ?_
  refine f_region ?_
  refine f_stepP rfl rfl rfl (o_loadA (vs := [_, _]) Try.isAgg24 Try.sizeOf24 rfl rfl ⟨(rdA rfl), (rdA rfl), trivial⟩) ?_
  refine f_step rfl rfl rfl (o_call Try.call13 rfl (fun w_ hp_ => Reverse_spec N A l cap w_ (hr.up0 hp_) hl hN hok) ?_)
  rintro v15 m15 hR
  by_cases hc0 : (gcheck N l).2 = 0
  rotate_left
  · rw [RevΦ, if_neg hc0] at hR
    obtain ⟨rfl, rfl⟩ := hR
    dsimp only [List.cons_append, List.nil_append]
    refine f_stepP rfl rfl rfl (o_move rfl) ?_
    refine f_stepP rfl rfl rfl (o_extract rfl rfl) ?_
    refine f_stepP rfl rfl rfl (o_extract rfl rfl) ?_
    refine f_step rfl rfl rfl (o_alloc Try.zeroValue24 rfl fun b3 => ?_)
    refine f_step0 rfl rfl (o_storeA Try.sizeOf24 rfl rfl rfl rfl (by first | exact Nat.le_of_ble_eq_true rfl | (simp; done) | (simp; omega)) _ rfl ?_)
    refine f_stepP rfl rfl rfl (o_assign rfl) ?_
    refine f_done ?_
    refine f_tn (kh4 _ _ ?_)
    clear kh4
    refine f_seq fun K5 kh5 => ?_
    refine f_seq fun K6 kh6 => ?_
    refine f_region ?_
    refine f_stepP rfl rfl rfl (o_move rfl) ?_
    refine f_stepP rfl rfl rfl (o_neq rfl rfl) ?_
    refine f_done ?_
    refine f_tn (kh6 _ _ ?_)
    clear kh6
    refine f_condY rfl (hc0) ?_
    refine f_seq fun K7 kh7 => ?_
    refine f_region ?_
    refine f_stepP rfl rfl rfl (o_field fa24_1 rfl) ?_
    refine f_stepP rfl rfl rfl (o_load Try.isAgg22 rfl (rdA rfl)) ?_
    refine f_stepP rfl rfl rfl (o_len sl22 rfl) ?_
    refine f_stepP rfl rfl rfl (o_eql rfl rfl) ?_
    refine f_stepP rfl rfl rfl (o_move rfl) ?_
    refine f_trueL 24 rfl (rfl) ?_
    refine f_stepPY rfl rfl rfl rfl rfl (o_field fa24_0 rfl) ?_
    refine f_stepPY rfl rfl rfl rfl rfl (o_load Try.isAgg3 rfl (rdA rfl)) ?_
    refine f_stepPY rfl rfl rfl rfl rfl (o_eql rfl rfl) ?_
    refine f_stepP rfl rfl rfl (o_pickT rfl rfl) ?_
    refine f_stepP rfl rfl rfl (o_assign rfl) ?_
    refine f_done ?_
    refine f_tn (kh7 _ _ ?_)
    clear kh7
    refine f_ret ?_
    refine f_tr ?_
    exact f_fin1 [] Try.results4 rfl Sub.nil ⟨rfl, rfl⟩
  rw [RevΦ, if_pos hc0] at hR
  obtain ⟨b, rfl, rfl⟩ := hR
  have hlr : (l.map revArc).length = l.length := List.length_map _
  obtain ⟨hN1, hN2, hlen, hgood⟩ := gcheck_zero hc0
  dsimp only [List.cons_append, List.nil_append]
  refine f_stepP rfl rfl rfl (o_move rfl) ?_
  refine f_stepP rfl rfl rfl (o_extract rfl rfl) ?_
  refine f_stepP rfl rfl rfl (o_extract rfl rfl) ?_
  refine f_step rfl rfl rfl (o_alloc Try.zeroValue24 rfl fun b3 => ?_)
  refine f_step0 rfl rfl (o_storeA Try.sizeOf24 rfl rfl rfl rfl (by first | exact Nat.le_of_ble_eq_true rfl | (simp; done) | (simp; omega)) _ rfl ?_)
  refine f_stepP rfl rfl rfl (o_assign rfl) ?_
  refine f_done ?_
  refine f_tn (kh4 _ _ ?_)
  clear kh4
  refine f_seq fun K8 kh8 => ?_
  refine f_seq fun K9 kh9 => ?_
  refine f_region ?_
  refine f_stepP rfl rfl rfl (o_move rfl) ?_
  refine f_stepP rfl rfl rfl (o_neq rfl rfl) ?_
  refine f_done ?_
  refine f_tn (kh9 _ _ ?_)
  clear kh9
  refine f_condN rfl (by simp) ?_
  refine f_skip ?_
  refine f_tn (kh8 _ _ ?_)
  clear kh8
  refine f_seq fun K10 kh10 => ?_
  refine f_region ?_
  refine f_stepP rfl rfl rfl (o_loadA (vs := [_, _]) Try.isAgg24 Try.sizeOf24 rfl rfl ⟨(rdA rfl), (rdA rfl), trivial⟩) ?_
  refine f_step rfl rfl rfl (o_call Try.call13 rfl (fun w_ hp_ => Reverse_spec N (some ⟨b, 0, none⟩) (l.map revArc) (l.map revArc).length w_ (roOwn (b := b) hp_ (cs := (l.map revArc).flatMap arcCs) (fun j v hj => hj)) (by omega) hN (rev_ok hok)) ?_)
  rintro v31 m31 hR
  rw [RevΦ, if_pos (gcheck_rev hc0), rev_rev] at hR
  obtain ⟨b', rfl, rfl⟩ := hR
  dsimp only [List.cons_append, List.nil_append]
  refine f_stepP rfl rfl rfl (o_move rfl) ?_
  refine f_stepP rfl rfl rfl (o_extract rfl rfl) ?_
  refine f_stepP rfl rfl rfl (o_extract rfl rfl) ?_
  refine f_step rfl rfl rfl (o_alloc Try.zeroValue24 rfl fun b5 => ?_)
  refine f_step0 rfl rfl (o_storeA Try.sizeOf24 rfl rfl rfl rfl (by first | exact Nat.le_of_ble_eq_true rfl | (simp; done) | (simp; omega)) _ rfl ?_)
  refine f_stepP rfl rfl rfl (o_assign rfl) ?_
  refine f_done ?_
  refine f_tn (kh10 _ _ ?_)
  clear kh10
  refine f_seq fun K11 kh11 => ?_
  refine f_region ?_
  refine f_stepP rfl rfl rfl (o_loadA (vs := [_, _]) Try.isAgg24 Try.sizeOf24 rfl rfl ⟨(rdA rfl), (rdA rfl), trivial⟩) ?_
  refine f_step rfl rfl rfl (o_call Try.call14 rfl (fun w_ hp_ => Parts_spec N A l cap w_ (hr.up0 hp_) hl hN hok) ?_)
  rintro _ _ hP
  rw [if_pos hc0] at hP
  obtain ⟨p, bp, rfl, rfl, hp⟩ := hP
  dsimp only [List.cons_append, List.nil_append]
  refine f_stepP rfl rfl rfl (o_move rfl) ?_
  refine f_stepP rfl rfl rfl (o_extract rfl rfl) ?_
  refine f_stepP rfl rfl rfl (o_extract rfl rfl) ?_
  refine f_stepP rfl rfl rfl (o_assign rfl) ?_
  refine f_stepP rfl rfl rfl (o_assign rfl) ?_
  refine f_done ?_
  refine f_tn (kh11 _ _ ?_)
  clear kh11
  refine f_seq fun K12 kh12 => ?_
  refine f_region ?_
  refine f_stepP rfl rfl rfl (o_loadA (vs := [_, _]) Try.isAgg24 Try.sizeOf24 rfl rfl ⟨(rdA rfl), (rdA rfl), trivial⟩) ?_
  refine f_step rfl rfl rfl (o_call Try.call14 rfl (fun w_ hp_ => Parts_spec N (some ⟨b, 0, none⟩) (l.map revArc) (l.map revArc).length w_ (roOwn (b := b) hp_ (cs := (l.map revArc).flatMap arcCs) (fun j v hj => hj)) (by omega) hN (rev_ok hok)) ?_)
  rintro _ _ hP
  rw [if_pos (gcheck_rev hc0)] at hP
  obtain ⟨q, bq, rfl, rfl, hq⟩ := hP
  obtain rfl := hp.unique hq (fun u v _ _ => conn_rev)
  rw [← hp.len, nats_ints]
  dsimp only [List.cons_append, List.nil_append]
  refine f_stepP rfl rfl rfl (o_move rfl) ?_
  refine f_stepP rfl rfl rfl (o_extract rfl rfl) ?_
  refine f_stepP rfl rfl rfl (o_extract rfl rfl) ?_
  refine f_stepP rfl rfl rfl (o_assign rfl) ?_
  refine f_stepP rfl rfl rfl (o_assign rfl) ?_
  refine f_done ?_
  refine f_tn (kh12 _ _ ?_)
  clear kh12
  refine f_seq fun K13 kh13 => ?_
  refine f_region ?_
  refine f_stepP rfl rfl rfl (o_move rfl) ?_
  refine f_stepP rfl rfl rfl (o_eql rfl rfl) ?_
  refine f_stepP rfl rfl rfl (o_move rfl) ?_
  refine f_trueL 46 rfl (rfl) ?_
  refine f_stepPY rfl rfl rfl rfl rfl (o_loadA (vs := [_, _]) Try.isAgg24 Try.sizeOf24 rfl rfl ⟨(rdA rfl), (rdA rfl), trivial⟩) ?_
  refine f_stepPY rfl rfl rfl rfl rfl (o_loadA (vs := [_, _]) Try.isAgg24 Try.sizeOf24 rfl rfl ⟨(rdA rfl), (rdA rfl), trivial⟩) ?_
  refine f_stepY rfl rfl rfl rfl rfl (o_call Try.call15 rfl (fun w_ hp_ => SameGraph_spec N N (some ⟨b', 0, none⟩) A l l l.length cap w_ (roOwn (b := b') hp_ (cs := l.flatMap arcCs) (fun j v hj => hj)) (hr.up0 hp_) hl) ?_)
  rintro _ _ ⟨rfl, rfl⟩
  rw [decide_eq_true (show N = N ∧ l = l from ⟨rfl, rfl⟩)]
  dsimp only [List.cons_append, List.nil_append]
  refine f_stepP rfl rfl rfl (o_pickT rfl rfl) ?_
  refine f_stepP rfl rfl rfl (o_move rfl) ?_
  refine f_stepPY rfl rfl rfl rfl rfl (o_move rfl) ?_
  refine f_stepPY rfl rfl rfl rfl rfl (o_eql rfl rfl) ?_
  refine f_stepP rfl rfl rfl (o_pickT rfl rfl) ?_
  refine f_stepP rfl rfl rfl (o_move rfl) ?_
  refine f_trueL 55 rfl (rfl) ?_
  refine f_stepPY rfl rfl rfl rfl rfl (o_move rfl) ?_
  refine f_stepPY rfl rfl rfl rfl rfl (o_eql rfl rfl) ?_
  refine f_stepP rfl rfl rfl (o_pickT rfl rfl) ?_
  refine f_stepP rfl rfl rfl (o_move rfl) ?_
  refine f_trueL 59 rfl (rfl) ?_
  refine f_stepPY rfl rfl rfl rfl rfl (o_move rfl) ?_
  refine f_stepPY rfl rfl rfl rfl rfl (o_move rfl) ?_
  refine f_stepY rfl rfl rfl rfl rfl (o_call Try.call16 rfl (fun w_ hp_ => (by have h := SameInts_spec (some ⟨bp, 0, none⟩) (some ⟨bq, 0, none⟩) (p.map (fun x : Nat => (x : Int))) (p.map (fun x : Nat => (x : Int))) p.length p.length w_ (roOwn (b := bp) hp_ (fun j v hj => hj)) (roOwn (b := bq) hp_ (fun j v hj => hj)) (by rw [List.length_map, hp.len]; omega); rw [List.length_map] at h; exact h)) ?_)
  rintro _ _ ⟨rfl, rfl⟩
  rw [decide_eq_true rfl]
  dsimp only [List.cons_append, List.nil_append]
  refine f_stepP rfl rfl rfl (o_pickT rfl rfl) ?_
  refine f_stepP rfl rfl rfl (o_assign rfl) ?_
  refine f_done ?_
  refine f_tn (kh13 _ _ ?_)
  clear kh13
  refine f_ret ?_
  exact f_fin1 [] Try.results4 rfl Sub.nil ⟨rfl, rfl⟩

end Go.Proofs.Ythbkeoejbendnaa
