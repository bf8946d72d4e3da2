/- flyoverlaw05.NearMore answers true. -/
import Derived.Test.YtegkdbicomedjaaFTight5
import Derived.Test.YtegkdbicomedjaaPMore
namespace Go.Proofs.Ytegkdbicomedjaa
open Go Go.RowKit Fly
set_option linter.unusedVariables false
set_option linter.unusedSimpArgs false


theorem arcs_one (l : List Arc) : (l.flatMap arcCs).all (·.oneCell') = true := by
  induction l with
  | nil => rfl
  | cons x l ih => rw [List.flatMap_cons, List.all_append, ih]; rfl
theorem rds_ro {S : Nat → Prop} {w0 : World} {segs : List Seg} {A : Option Addr} {cs : List Value} (h : Ro S w0 A cs) : cs ≠ [] → ∃ b off, A = some ⟨b, off, none⟩ ∧ Rds S w0 segs b off cs := fun hne => by
  obtain ⟨b, off, e, hS, hc⟩ := h hne
  exact ⟨b, off, e, Seen.rds fun _ => ⟨hS, hc⟩⟩
theorem gok_more {n : Nat} {l : List Arc} {a : Arc} (h : GOk n l) (hl : l.length < 8192) (h1 : 0 ≤ a.src ∧ a.src < (n : Int)) (h2 : 0 ≤ a.dst ∧ a.dst < (n : Int)) : gcheck (n : Int) (l ++ [a]) = (0, 0) := by
  have := h.n1
  refine gcheck_ok ⟨by omega, by omega⟩ (by simp; omega) fun j hj => ?_
  by_cases hjl : j < l.length
  · have := h.good j hjl
    rw [List.getElem_append_left hjl]; unfold arcBad; simp; omega
  · have e : j = l.length := by simp at hj; omega
    subst e
    rw [List.getElem_append_right (Nat.le_refl _)]; unfold arcBad; simp; omega
theorem fw_more (l : List Arc) (a : Arc) : (l ++ [a]).map (trn false) = l.map (trn false) ++ [a] := by rw [List.map_append]; rfl
theorem look1 {n : Nat} {l : List Arc} {k : Int} (h : (gcheck (n : Int) l).2 = 0) (hk : 0 ≤ k ∧ k < (n : Int)) : nlooked (n : Int) l [k] = 0 := by
  unfold nlooked; rw [if_neg (by omega), if_neg (by simp; omega)]

set_option maxRecDepth 100000 in
set_option maxHeartbeats 4000000 in
theorem large_spec (N : Int) (A : Option Addr) (len cap : Nat) (w : World) : Meets Try.prog 10 [.agg #[.int .i64 N, .slice A len cap]] w [] (fun u m => u = .bool (decide (200 < N ∧ 2000 < len)) ∧ m = []) := by
  refine f_enter Try.func10 rfl Try.ntmps10 rfl Owns.nil ?_
  refine f_seq fun K1 kh1 => ?_
  refine f_region ?_
  refine f_step rfl rfl rfl (o_box rfl rfl fun b1 => ?_)
  refine f_stepP rfl rfl rfl (o_assign rfl) ?_
  refine f_done ?_
  refine f_tn (kh1 _ _ ?_)
  clear kh1
  refine f_seq fun K2 kh2 => ?_
  refine f_region ?_
  refine f_stepP rfl rfl rfl (o_field fa24_0 rfl) ?_
  refine f_stepP rfl rfl rfl (o_load Try.isAgg3 rfl (rdA rfl)) ?_
  refine f_stepP rfl rfl rfl (o_gtr rfl rfl) ?_
  refine f_stepP rfl rfl rfl (o_move rfl) ?_
  refine f_splitL 6 rfl (fun g6 => ?_) (fun g6 => ?_)
  · skip
    refine f_stepPY rfl rfl rfl rfl rfl (o_field fa24_1 rfl) ?_
    refine f_stepPY rfl rfl rfl rfl rfl (o_load Try.isAgg22 rfl (rdA rfl)) ?_
    refine f_stepPY rfl rfl rfl rfl rfl (o_len sl22 rfl) ?_
    refine f_stepPY rfl rfl rfl rfl rfl (o_gtr rfl rfl) ?_
    refine f_stepP rfl rfl rfl (o_pickT rfl rfl) ?_
    refine f_stepP rfl rfl rfl (o_assign rfl) ?_
    refine f_done ?_
    refine f_tn (kh2 _ _ ?_)
    clear kh2
    refine f_ret ?_
    exact f_fin1 [] Try.results10 rfl Sub.nil ⟨by congr 1; exact decide_eq_decide.2 (by omega), rfl⟩
  · skip
    refine f_stepN rfl rfl rfl rfl rfl rfl ?_
    refine f_stepN rfl rfl rfl rfl rfl rfl ?_
    refine f_stepN rfl rfl rfl rfl rfl rfl ?_
    refine f_stepN rfl rfl rfl rfl rfl rfl ?_
    refine f_stepP rfl rfl rfl (o_pickF rfl rfl) ?_
    refine f_stepP rfl rfl rfl (o_assign rfl) ?_
    refine f_done ?_
    refine f_tn (kh2 _ _ ?_)
    clear kh2
    refine f_ret ?_
    exact f_fin1 [] Try.results10 rfl Sub.nil ⟨by rw [decide_eq_false (by omega)], rfl⟩

set_option maxRecDepth 100000 in
set_option maxHeartbeats 4000000 in
theorem NearMore_spec (N : Int) (A : Option Addr) (l : List Arc) (cap : Nat) (s : Int) (a : Arc) (w : World) (hr : Ro (Fr w []) w A (l.flatMap arcCs)) (hl : l.length ≤ 9223372036854775807) (hN : I64 N) (hok : ∀ x ∈ l, ArcOk x) (hoka : ArcOk a) :
    Meets Try.prog 6 [.agg #[.int .i64 N, .slice A l.length cap], .int .i64 s, .agg (arcCs a).toArray] w [] (fun u m => u = .bool true ∧ m = []) := by
  refine f_enter Try.func6 rfl Try.ntmps6 rfl Owns.nil ?_
  refine f_seq fun K1 kh1 => ?_
  refine f_region ?_
  refine f_step rfl rfl rfl (o_box rfl rfl fun b3 => ?_)
  refine f_step rfl rfl rfl (o_box rfl rfl fun b5 => ?_)
  refine f_stepP rfl rfl rfl (o_assign rfl) ?_
  refine f_done ?_
  refine f_tn (kh1 _ _ ?_)
  clear kh1
  refine f_seq fun K2 kh2 => ?_
  refine f_seq fun K3 kh3 => ?_
  refine f_region ?_
  refine f_step rfl rfl rfl (o_call Try.call11 rfl (fun w_ hp_ => works_spec w_) ?_)
  rintro _ _ ⟨rfl, rfl⟩
  dsimp only [List.cons_append, List.nil_append]
  refine f_stepP rfl rfl rfl (o_not rfl) ?_
  refine f_done ?_
  refine f_tn (kh3 _ _ ?_)
  clear kh3
  refine f_condF rfl ?_
  refine f_skip ?_
  refine f_tn (kh2 _ _ ?_)
  clear kh2
  refine f_seq fun K4 kh4 => ?_
  refine f_region ?_
  refine f_stepP rfl rfl rfl (o_loadA (vs := [_, _]) Try.isAgg24 Try.sizeOf24 rfl rfl ⟨(rdA rfl), (rdA rfl), trivial⟩) ?_
  refine f_stepP rfl rfl rfl (o_move rfl) ?_
  refine f_step rfl rfl rfl (o_call Try.call17 rfl (fun w_ hp_ => From_spec N A l cap s w_ (hr.up0 hp_) hl hN hok) ?_)
  rintro _ _ ⟨vD, mD, D, rfl, rfl, hoD, hD1, hD0⟩
  obtain ⟨AD, cD, rfl, hcD⟩ := hoD.val
  dsimp only [List.cons_append, List.nil_append]
  refine f_stepP rfl rfl rfl (o_move rfl) ?_
  refine f_stepP rfl rfl rfl (o_extract rfl rfl) ?_
  refine f_stepP rfl rfl rfl (o_extract rfl rfl) ?_
  refine f_stepP rfl rfl rfl (o_assign rfl) ?_
  refine f_stepP rfl rfl rfl (o_assign rfl) ?_
  refine f_done ?_
  refine f_tn (kh4 _ _ ?_)
  clear kh4
  refine f_seq fun K5 kh5 => ?_
  refine f_seq fun K6 kh6 => ?_
  refine f_region ?_
  refine f_stepP rfl rfl rfl (o_move rfl) ?_
  refine f_stepP rfl rfl rfl (o_neq rfl rfl) ?_
  refine f_stepP rfl rfl rfl (o_move rfl) ?_
  refine f_splitL 26 rfl (fun g26 => ?_) (fun g26 => ?_)
  · skip
    obtain rfl := hD1 g26
    refine f_stepN rfl rfl rfl rfl rfl rfl ?_
    refine f_stepN rfl rfl rfl rfl rfl rfl ?_
    refine f_stepP rfl rfl rfl (o_pickT rfl rfl) ?_
    refine f_stepP rfl rfl rfl (o_move rfl) ?_
    refine f_stepN rfl rfl rfl rfl rfl rfl ?_
    refine f_stepN rfl rfl rfl rfl rfl rfl ?_
    refine f_stepN rfl rfl rfl rfl rfl rfl ?_
    refine f_stepN rfl rfl rfl rfl rfl rfl ?_
    refine f_stepP rfl rfl rfl (o_pickT rfl rfl) ?_
    refine f_stepP rfl rfl rfl (o_move rfl) ?_
    refine f_stepN rfl rfl rfl rfl rfl rfl ?_
    refine f_stepN rfl rfl rfl rfl rfl rfl ?_
    refine f_stepN rfl rfl rfl rfl rfl rfl ?_
    refine f_stepP rfl rfl rfl (o_pickT rfl rfl) ?_
    refine f_stepP rfl rfl rfl (o_move rfl) ?_
    refine f_stepN rfl rfl rfl rfl rfl rfl ?_
    refine f_stepN rfl rfl rfl rfl rfl rfl ?_
    refine f_stepN rfl rfl rfl rfl rfl rfl ?_
    refine f_stepN rfl rfl rfl rfl rfl rfl ?_
    refine f_stepN rfl rfl rfl rfl rfl rfl ?_
    refine f_stepP rfl rfl rfl (o_pickT rfl rfl) ?_
    refine f_stepP rfl rfl rfl (o_move rfl) ?_
    refine f_stepN rfl rfl rfl rfl rfl rfl ?_
    refine f_stepN rfl rfl rfl rfl rfl rfl ?_
    refine f_stepN rfl rfl rfl rfl rfl rfl ?_
    refine f_stepP rfl rfl rfl (o_pickT rfl rfl) ?_
    refine f_stepP rfl rfl rfl (o_move rfl) ?_
    refine f_stepN rfl rfl rfl rfl rfl rfl ?_
    refine f_stepN rfl rfl rfl rfl rfl rfl ?_
    refine f_stepN rfl rfl rfl rfl rfl rfl ?_
    refine f_stepN rfl rfl rfl rfl rfl rfl ?_
    refine f_stepN rfl rfl rfl rfl rfl rfl ?_
    refine f_stepP rfl rfl rfl (o_pickT rfl rfl) ?_
    refine f_done ?_
    refine f_tn (kh6 _ _ ?_)
    clear kh6
    refine f_condT rfl ?_
    refine f_seq fun K7 kh7 => ?_
    refine f_region ?_
    refine f_stepP rfl rfl rfl (o_move rfl) ?_
    refine f_stepP rfl rfl rfl (o_eql rfl rfl) ?_
    refine f_stepP rfl rfl rfl (o_move rfl) ?_
    refine f_splitL 62 rfl (fun g62 => ?_) (fun g62 => ?_)
    · skip
      refine f_stepN rfl rfl rfl rfl rfl rfl ?_
      refine f_stepN rfl rfl rfl rfl rfl rfl ?_
      refine f_stepN rfl rfl rfl rfl rfl rfl ?_
      refine f_stepP rfl rfl rfl (o_pickT rfl rfl) ?_
      refine f_stepP rfl rfl rfl (o_assign rfl) ?_
      refine f_done ?_
      refine f_tn (kh7 _ _ ?_)
      clear kh7
      refine f_ret ?_
      refine f_tr ?_
      exact f_fin1 [] Try.results6 rfl Sub.nil ⟨by first | rfl | (simp; done) | exact absurd hz g62, rfl⟩
    · skip
      refine f_stepPY rfl rfl rfl rfl rfl (o_move rfl) ?_
      refine f_stepPY rfl rfl rfl rfl rfl (o_len sl38 rfl) ?_
      refine f_stepPY rfl rfl rfl rfl rfl (o_eql rfl rfl) ?_
      refine f_stepP rfl rfl rfl (o_pickF rfl rfl) ?_
      refine f_stepP rfl rfl rfl (o_assign rfl) ?_
      refine f_done ?_
      refine f_tn (kh7 _ _ ?_)
      clear kh7
      refine f_ret ?_
      refine f_tr ?_
      exact f_fin1 [] Try.results6 rfl Sub.nil ⟨by first | rfl | (simp; done) | exact absurd hz g62, rfl⟩
  · skip
    have hz : nlooked N l [s] = 0 := by simpa using g26
    refine f_stepPY rfl rfl rfl rfl rfl (o_loadA (vs := [_, _]) Try.isAgg24 Try.sizeOf24 rfl rfl ⟨(rdA rfl), (rdA rfl), trivial⟩) ?_
    refine f_stepY rfl rfl rfl rfl rfl (o_call Try.call10 rfl (fun w_ hp_ => large_spec N A l.length cap w_) ?_)
    rintro _ _ ⟨rfl, rfl⟩
    dsimp only [List.cons_append, List.nil_append]
    refine f_stepP rfl rfl rfl (o_pickF rfl rfl) ?_
    refine f_stepP rfl rfl rfl (o_move rfl) ?_
    refine f_splitL 30 rfl (fun g30 => ?_) (fun g30 => ?_)
    · skip
      refine f_stepN rfl rfl rfl rfl rfl rfl ?_
      refine f_stepN rfl rfl rfl rfl rfl rfl ?_
      refine f_stepN rfl rfl rfl rfl rfl rfl ?_
      refine f_stepN rfl rfl rfl rfl rfl rfl ?_
      refine f_stepP rfl rfl rfl (o_pickT rfl rfl) ?_
      refine f_stepP rfl rfl rfl (o_move rfl) ?_
      refine f_stepN rfl rfl rfl rfl rfl rfl ?_
      refine f_stepN rfl rfl rfl rfl rfl rfl ?_
      refine f_stepN rfl rfl rfl rfl rfl rfl ?_
      refine f_stepP rfl rfl rfl (o_pickT rfl rfl) ?_
      refine f_stepP rfl rfl rfl (o_move rfl) ?_
      refine f_stepN rfl rfl rfl rfl rfl rfl ?_
      refine f_stepN rfl rfl rfl rfl rfl rfl ?_
      refine f_stepN rfl rfl rfl rfl rfl rfl ?_
      refine f_stepN rfl rfl rfl rfl rfl rfl ?_
      refine f_stepN rfl rfl rfl rfl rfl rfl ?_
      refine f_stepP rfl rfl rfl (o_pickT rfl rfl) ?_
      refine f_stepP rfl rfl rfl (o_move rfl) ?_
      refine f_stepN rfl rfl rfl rfl rfl rfl ?_
      refine f_stepN rfl rfl rfl rfl rfl rfl ?_
      refine f_stepN rfl rfl rfl rfl rfl rfl ?_
      refine f_stepP rfl rfl rfl (o_pickT rfl rfl) ?_
      refine f_stepP rfl rfl rfl (o_move rfl) ?_
      refine f_stepN rfl rfl rfl rfl rfl rfl ?_
      refine f_stepN rfl rfl rfl rfl rfl rfl ?_
      refine f_stepN rfl rfl rfl rfl rfl rfl ?_
      refine f_stepN rfl rfl rfl rfl rfl rfl ?_
      refine f_stepN rfl rfl rfl rfl rfl rfl ?_
      refine f_stepP rfl rfl rfl (o_pickT rfl rfl) ?_
      refine f_done ?_
      refine f_tn (kh6 _ _ ?_)
      clear kh6
      refine f_condT rfl ?_
      refine f_seq fun K8 kh8 => ?_
      refine f_region ?_
      refine f_stepP rfl rfl rfl (o_move rfl) ?_
      refine f_stepP rfl rfl rfl (o_eql rfl rfl) ?_
      refine f_stepP rfl rfl rfl (o_move rfl) ?_
      refine f_splitL 62 rfl (fun g62 => ?_) (fun g62 => ?_)
      · skip
        refine f_stepN rfl rfl rfl rfl rfl rfl ?_
        refine f_stepN rfl rfl rfl rfl rfl rfl ?_
        refine f_stepN rfl rfl rfl rfl rfl rfl ?_
        refine f_stepP rfl rfl rfl (o_pickT rfl rfl) ?_
        refine f_stepP rfl rfl rfl (o_assign rfl) ?_
        refine f_done ?_
        refine f_tn (kh8 _ _ ?_)
        clear kh8
        refine f_ret ?_
        refine f_tr ?_
        exact f_fin1 [] Try.results6 rfl Sub.nil ⟨by first | rfl | (simp; done) | exact absurd hz g62, rfl⟩
      · skip
        refine f_stepPY rfl rfl rfl rfl rfl (o_move rfl) ?_
        refine f_stepPY rfl rfl rfl rfl rfl (o_len sl38 rfl) ?_
        refine f_stepPY rfl rfl rfl rfl rfl (o_eql rfl rfl) ?_
        refine f_stepP rfl rfl rfl (o_pickF rfl rfl) ?_
        refine f_stepP rfl rfl rfl (o_assign rfl) ?_
        refine f_done ?_
        refine f_tn (kh8 _ _ ?_)
        clear kh8
        refine f_ret ?_
        refine f_tr ?_
        exact f_fin1 [] Try.results6 rfl Sub.nil ⟨by first | rfl | (simp; done) | exact absurd hz g62, rfl⟩
    · skip
      refine f_stepPY rfl rfl rfl rfl rfl (o_field fa24_1 rfl) ?_
      refine f_stepPY rfl rfl rfl rfl rfl (o_load Try.isAgg22 rfl (rdA rfl)) ?_
      refine f_stepPY rfl rfl rfl rfl rfl (o_len sl22 rfl) ?_
      refine f_stepPY rfl rfl rfl rfl rfl (o_geq rfl rfl) ?_
      refine f_stepP rfl rfl rfl (o_pickF rfl rfl) ?_
      refine f_stepP rfl rfl rfl (o_move rfl) ?_
      refine f_splitL 36 rfl (fun g36 => ?_) (fun g36 => ?_)
      · skip
        refine f_stepN rfl rfl rfl rfl rfl rfl ?_
        refine f_stepN rfl rfl rfl rfl rfl rfl ?_
        refine f_stepN rfl rfl rfl rfl rfl rfl ?_
        refine f_stepP rfl rfl rfl (o_pickT rfl rfl) ?_
        refine f_stepP rfl rfl rfl (o_move rfl) ?_
        refine f_stepN rfl rfl rfl rfl rfl rfl ?_
        refine f_stepN rfl rfl rfl rfl rfl rfl ?_
        refine f_stepN rfl rfl rfl rfl rfl rfl ?_
        refine f_stepN rfl rfl rfl rfl rfl rfl ?_
        refine f_stepN rfl rfl rfl rfl rfl rfl ?_
        refine f_stepP rfl rfl rfl (o_pickT rfl rfl) ?_
        refine f_stepP rfl rfl rfl (o_move rfl) ?_
        refine f_stepN rfl rfl rfl rfl rfl rfl ?_
        refine f_stepN rfl rfl rfl rfl rfl rfl ?_
        refine f_stepN rfl rfl rfl rfl rfl rfl ?_
        refine f_stepP rfl rfl rfl (o_pickT rfl rfl) ?_
        refine f_stepP rfl rfl rfl (o_move rfl) ?_
        refine f_stepN rfl rfl rfl rfl rfl rfl ?_
        refine f_stepN rfl rfl rfl rfl rfl rfl ?_
        refine f_stepN rfl rfl rfl rfl rfl rfl ?_
        refine f_stepN rfl rfl rfl rfl rfl rfl ?_
        refine f_stepN rfl rfl rfl rfl rfl rfl ?_
        refine f_stepP rfl rfl rfl (o_pickT rfl rfl) ?_
        refine f_done ?_
        refine f_tn (kh6 _ _ ?_)
        clear kh6
        refine f_condT rfl ?_
        refine f_seq fun K9 kh9 => ?_
        refine f_region ?_
        refine f_stepP rfl rfl rfl (o_move rfl) ?_
        refine f_stepP rfl rfl rfl (o_eql rfl rfl) ?_
        refine f_stepP rfl rfl rfl (o_move rfl) ?_
        refine f_splitL 62 rfl (fun g62 => ?_) (fun g62 => ?_)
        · skip
          refine f_stepN rfl rfl rfl rfl rfl rfl ?_
          refine f_stepN rfl rfl rfl rfl rfl rfl ?_
          refine f_stepN rfl rfl rfl rfl rfl rfl ?_
          refine f_stepP rfl rfl rfl (o_pickT rfl rfl) ?_
          refine f_stepP rfl rfl rfl (o_assign rfl) ?_
          refine f_done ?_
          refine f_tn (kh9 _ _ ?_)
          clear kh9
          refine f_ret ?_
          refine f_tr ?_
          exact f_fin1 [] Try.results6 rfl Sub.nil ⟨by first | rfl | (simp; done) | exact absurd hz g62, rfl⟩
        · skip
          refine f_stepPY rfl rfl rfl rfl rfl (o_move rfl) ?_
          refine f_stepPY rfl rfl rfl rfl rfl (o_len sl38 rfl) ?_
          refine f_stepPY rfl rfl rfl rfl rfl (o_eql rfl rfl) ?_
          refine f_stepP rfl rfl rfl (o_pickF rfl rfl) ?_
          refine f_stepP rfl rfl rfl (o_assign rfl) ?_
          refine f_done ?_
          refine f_tn (kh9 _ _ ?_)
          clear kh9
          refine f_ret ?_
          refine f_tr ?_
          exact f_fin1 [] Try.results6 rfl Sub.nil ⟨by first | rfl | (simp; done) | exact absurd hz g62, rfl⟩
      · skip
        refine f_stepPY rfl rfl rfl rfl rfl (o_field fa44_0 rfl) ?_
        refine f_stepPY rfl rfl rfl rfl rfl (o_load Try.isAgg3 rfl (rdA rfl)) ?_
        refine f_stepPY rfl rfl rfl rfl rfl (o_lss rfl rfl) ?_
        refine f_stepP rfl rfl rfl (o_pickF rfl rfl) ?_
        refine f_stepP rfl rfl rfl (o_move rfl) ?_
        refine f_splitL 41 rfl (fun g41 => ?_) (fun g41 => ?_)
        · skip
          refine f_stepN rfl rfl rfl rfl rfl rfl ?_
          refine f_stepN rfl rfl rfl rfl rfl rfl ?_
          refine f_stepN rfl rfl rfl rfl rfl rfl ?_
          refine f_stepN rfl rfl rfl rfl rfl rfl ?_
          refine f_stepN rfl rfl rfl rfl rfl rfl ?_
          refine f_stepP rfl rfl rfl (o_pickT rfl rfl) ?_
          refine f_stepP rfl rfl rfl (o_move rfl) ?_
          refine f_stepN rfl rfl rfl rfl rfl rfl ?_
          refine f_stepN rfl rfl rfl rfl rfl rfl ?_
          refine f_stepN rfl rfl rfl rfl rfl rfl ?_
          refine f_stepP rfl rfl rfl (o_pickT rfl rfl) ?_
          refine f_stepP rfl rfl rfl (o_move rfl) ?_
          refine f_stepN rfl rfl rfl rfl rfl rfl ?_
          refine f_stepN rfl rfl rfl rfl rfl rfl ?_
          refine f_stepN rfl rfl rfl rfl rfl rfl ?_
          refine f_stepN rfl rfl rfl rfl rfl rfl ?_
          refine f_stepN rfl rfl rfl rfl rfl rfl ?_
          refine f_stepP rfl rfl rfl (o_pickT rfl rfl) ?_
          refine f_done ?_
          refine f_tn (kh6 _ _ ?_)
          clear kh6
          refine f_condT rfl ?_
          refine f_seq fun K10 kh10 => ?_
          refine f_region ?_
          refine f_stepP rfl rfl rfl (o_move rfl) ?_
          refine f_stepP rfl rfl rfl (o_eql rfl rfl) ?_
          refine f_stepP rfl rfl rfl (o_move rfl) ?_
          refine f_splitL 62 rfl (fun g62 => ?_) (fun g62 => ?_)
          · skip
            refine f_stepN rfl rfl rfl rfl rfl rfl ?_
            refine f_stepN rfl rfl rfl rfl rfl rfl ?_
            refine f_stepN rfl rfl rfl rfl rfl rfl ?_
            refine f_stepP rfl rfl rfl (o_pickT rfl rfl) ?_
            refine f_stepP rfl rfl rfl (o_assign rfl) ?_
            refine f_done ?_
            refine f_tn (kh10 _ _ ?_)
            clear kh10
            refine f_ret ?_
            refine f_tr ?_
            exact f_fin1 [] Try.results6 rfl Sub.nil ⟨by first | rfl | (simp; done) | exact absurd hz g62, rfl⟩
          · skip
            refine f_stepPY rfl rfl rfl rfl rfl (o_move rfl) ?_
            refine f_stepPY rfl rfl rfl rfl rfl (o_len sl38 rfl) ?_
            refine f_stepPY rfl rfl rfl rfl rfl (o_eql rfl rfl) ?_
            refine f_stepP rfl rfl rfl (o_pickF rfl rfl) ?_
            refine f_stepP rfl rfl rfl (o_assign rfl) ?_
            refine f_done ?_
            refine f_tn (kh10 _ _ ?_)
            clear kh10
            refine f_ret ?_
            refine f_tr ?_
            exact f_fin1 [] Try.results6 rfl Sub.nil ⟨by first | rfl | (simp; done) | exact absurd hz g62, rfl⟩
        · skip
          refine f_stepPY rfl rfl rfl rfl rfl (o_field fa44_0 rfl) ?_
          refine f_stepPY rfl rfl rfl rfl rfl (o_load Try.isAgg3 rfl (rdA rfl)) ?_
          refine f_stepPY rfl rfl rfl rfl rfl (o_field fa24_0 rfl) ?_
          refine f_stepPY rfl rfl rfl rfl rfl (o_load Try.isAgg3 rfl (rdA rfl)) ?_
          refine f_stepPY rfl rfl rfl rfl rfl (o_geq rfl rfl) ?_
          refine f_stepP rfl rfl rfl (o_pickF rfl rfl) ?_
          refine f_stepP rfl rfl rfl (o_move rfl) ?_
          refine f_splitL 48 rfl (fun g48 => ?_) (fun g48 => ?_)
          · skip
            refine f_stepN rfl rfl rfl rfl rfl rfl ?_
            refine f_stepN rfl rfl rfl rfl rfl rfl ?_
            refine f_stepN rfl rfl rfl rfl rfl rfl ?_
            refine f_stepP rfl rfl rfl (o_pickT rfl rfl) ?_
            refine f_stepP rfl rfl rfl (o_move rfl) ?_
            refine f_stepN rfl rfl rfl rfl rfl rfl ?_
            refine f_stepN rfl rfl rfl rfl rfl rfl ?_
            refine f_stepN rfl rfl rfl rfl rfl rfl ?_
            refine f_stepN rfl rfl rfl rfl rfl rfl ?_
            refine f_stepN rfl rfl rfl rfl rfl rfl ?_
            refine f_stepP rfl rfl rfl (o_pickT rfl rfl) ?_
            refine f_done ?_
            refine f_tn (kh6 _ _ ?_)
            clear kh6
            refine f_condT rfl ?_
            refine f_seq fun K11 kh11 => ?_
            refine f_region ?_
            refine f_stepP rfl rfl rfl (o_move rfl) ?_
            refine f_stepP rfl rfl rfl (o_eql rfl rfl) ?_
            refine f_stepP rfl rfl rfl (o_move rfl) ?_
            refine f_splitL 62 rfl (fun g62 => ?_) (fun g62 => ?_)
            · skip
              refine f_stepN rfl rfl rfl rfl rfl rfl ?_
              refine f_stepN rfl rfl rfl rfl rfl rfl ?_
              refine f_stepN rfl rfl rfl rfl rfl rfl ?_
              refine f_stepP rfl rfl rfl (o_pickT rfl rfl) ?_
              refine f_stepP rfl rfl rfl (o_assign rfl) ?_
              refine f_done ?_
              refine f_tn (kh11 _ _ ?_)
              clear kh11
              refine f_ret ?_
              refine f_tr ?_
              exact f_fin1 [] Try.results6 rfl Sub.nil ⟨by first | rfl | (simp; done) | exact absurd hz g62, rfl⟩
            · skip
              refine f_stepPY rfl rfl rfl rfl rfl (o_move rfl) ?_
              refine f_stepPY rfl rfl rfl rfl rfl (o_len sl38 rfl) ?_
              refine f_stepPY rfl rfl rfl rfl rfl (o_eql rfl rfl) ?_
              refine f_stepP rfl rfl rfl (o_pickF rfl rfl) ?_
              refine f_stepP rfl rfl rfl (o_assign rfl) ?_
              refine f_done ?_
              refine f_tn (kh11 _ _ ?_)
              clear kh11
              refine f_ret ?_
              refine f_tr ?_
              exact f_fin1 [] Try.results6 rfl Sub.nil ⟨by first | rfl | (simp; done) | exact absurd hz g62, rfl⟩
          · skip
            refine f_stepPY rfl rfl rfl rfl rfl (o_field fa44_1 rfl) ?_
            refine f_stepPY rfl rfl rfl rfl rfl (o_load Try.isAgg3 rfl (rdA rfl)) ?_
            refine f_stepPY rfl rfl rfl rfl rfl (o_lss rfl rfl) ?_
            refine f_stepP rfl rfl rfl (o_pickF rfl rfl) ?_
            refine f_stepP rfl rfl rfl (o_move rfl) ?_
            refine f_splitL 53 rfl (fun g53 => ?_) (fun g53 => ?_)
            · skip
              refine f_stepN rfl rfl rfl rfl rfl rfl ?_
              refine f_stepN rfl rfl rfl rfl rfl rfl ?_
              refine f_stepN rfl rfl rfl rfl rfl rfl ?_
              refine f_stepN rfl rfl rfl rfl rfl rfl ?_
              refine f_stepN rfl rfl rfl rfl rfl rfl ?_
              refine f_stepP rfl rfl rfl (o_pickT rfl rfl) ?_
              refine f_done ?_
              refine f_tn (kh6 _ _ ?_)
              clear kh6
              refine f_condT rfl ?_
              refine f_seq fun K12 kh12 => ?_
              refine f_region ?_
              refine f_stepP rfl rfl rfl (o_move rfl) ?_
              refine f_stepP rfl rfl rfl (o_eql rfl rfl) ?_
              refine f_stepP rfl rfl rfl (o_move rfl) ?_
              refine f_splitL 62 rfl (fun g62 => ?_) (fun g62 => ?_)
              · skip
                refine f_stepN rfl rfl rfl rfl rfl rfl ?_
                refine f_stepN rfl rfl rfl rfl rfl rfl ?_
                refine f_stepN rfl rfl rfl rfl rfl rfl ?_
                refine f_stepP rfl rfl rfl (o_pickT rfl rfl) ?_
                refine f_stepP rfl rfl rfl (o_assign rfl) ?_
                refine f_done ?_
                refine f_tn (kh12 _ _ ?_)
                clear kh12
                refine f_ret ?_
                refine f_tr ?_
                exact f_fin1 [] Try.results6 rfl Sub.nil ⟨by first | rfl | (simp; done) | exact absurd hz g62, rfl⟩
              · skip
                refine f_stepPY rfl rfl rfl rfl rfl (o_move rfl) ?_
                refine f_stepPY rfl rfl rfl rfl rfl (o_len sl38 rfl) ?_
                refine f_stepPY rfl rfl rfl rfl rfl (o_eql rfl rfl) ?_
                refine f_stepP rfl rfl rfl (o_pickF rfl rfl) ?_
                refine f_stepP rfl rfl rfl (o_assign rfl) ?_
                refine f_done ?_
                refine f_tn (kh12 _ _ ?_)
                clear kh12
                refine f_ret ?_
                refine f_tr ?_
                exact f_fin1 [] Try.results6 rfl Sub.nil ⟨by first | rfl | (simp; done) | exact absurd hz g62, rfl⟩
            · skip
              refine f_stepPY rfl rfl rfl rfl rfl (o_field fa44_1 rfl) ?_
              refine f_stepPY rfl rfl rfl rfl rfl (o_load Try.isAgg3 rfl (rdA rfl)) ?_
              refine f_stepPY rfl rfl rfl rfl rfl (o_field fa24_0 rfl) ?_
              refine f_stepPY rfl rfl rfl rfl rfl (o_load Try.isAgg3 rfl (rdA rfl)) ?_
              refine f_stepPY rfl rfl rfl rfl rfl (o_geq rfl rfl) ?_
              refine f_stepP rfl rfl rfl (o_pickF rfl rfl) ?_
              refine f_done ?_
              refine f_tn (kh6 _ _ ?_)
              clear kh6
              refine f_cond rfl (fun c59 => ?_) (fun c59 => ?_)
              · skip
                refine f_seq fun K13 kh13 => ?_
                refine f_region ?_
                refine f_stepP rfl rfl rfl (o_move rfl) ?_
                refine f_stepP rfl rfl rfl (o_eql rfl rfl) ?_
                refine f_stepP rfl rfl rfl (o_move rfl) ?_
                refine f_splitL 62 rfl (fun g62 => ?_) (fun g62 => ?_)
                · skip
                  refine f_stepN rfl rfl rfl rfl rfl rfl ?_
                  refine f_stepN rfl rfl rfl rfl rfl rfl ?_
                  refine f_stepN rfl rfl rfl rfl rfl rfl ?_
                  refine f_stepP rfl rfl rfl (o_pickT rfl rfl) ?_
                  refine f_stepP rfl rfl rfl (o_assign rfl) ?_
                  refine f_done ?_
                  refine f_tn (kh13 _ _ ?_)
                  clear kh13
                  refine f_ret ?_
                  refine f_tr ?_
                  exact f_fin1 [] Try.results6 rfl Sub.nil ⟨by first | rfl | (simp; done) | exact absurd hz g62, rfl⟩
                · skip
                  refine f_stepPY rfl rfl rfl rfl rfl (o_move rfl) ?_
                  refine f_stepPY rfl rfl rfl rfl rfl (o_len sl38 rfl) ?_
                  refine f_stepPY rfl rfl rfl rfl rfl (o_eql rfl rfl) ?_
                  refine f_stepP rfl rfl rfl (o_pickF rfl rfl) ?_
                  refine f_stepP rfl rfl rfl (o_assign rfl) ?_
                  refine f_done ?_
                  refine f_tn (kh13 _ _ ?_)
                  clear kh13
                  refine f_ret ?_
                  refine f_tr ?_
                  exact f_fin1 [] Try.results6 rfl Sub.nil ⟨by first | rfl | (simp; done) | exact absurd hz g62, rfl⟩
              · skip
                obtain ⟨hg0, hv⟩ := nlooked_zero hz
                have hv1 := hv s (by simp)
                obtain ⟨n, rfl⟩ : ∃ n : Nat, N = n := ⟨N.toNat, by omega⟩
                obtain ⟨k, rfl⟩ : ∃ k : Nat, s = k := ⟨s.toNat, by omega⟩
                have hg := gok_of hg0 hok
                have hkn : k < n := by omega
                have hn1 := hg.n1
                have hlen := hg.len
                obtain ⟨hD, hDb⟩ := hD0 hz
                rw [Int.toNat_natCast, Int.toNat_natCast] at hD
                rw [Int.toNat_natCast] at hDb
                have hDl := hD.len
                obtain ⟨bD, spD, rfl, rfl⟩ := hoD.at_ (by omega)
                have hgm := gok_more hg (a := a) (by omega) (by omega) (by omega)
                have hz2 := look1 (l := l ++ [a]) (k := (k : Int)) (by rw [hgm]) hv1
                have hz3 := look1 (l := l) (k := a.dst) hg0 (by omega)
                have hoka2 : ∀ x ∈ l ++ [a], ArcOk x := fun x hx => by
                  rcases List.mem_append.1 hx with h | h
                  · exact hok x h
                  · rw [List.mem_singleton.1 h]; exact hoka
                have hla : (l ++ [a]).length = l.length + 1 := by simp
                refine f_skip ?_
                refine f_tn (kh5 _ _ ?_)
                clear kh5
                refine f_meet (α := Nat × Value × Seg) [1, 3, 5, 7] (fun ⟨b9, s9, m9⟩ => [(9, .pointer (some ⟨b9, 0, none⟩))]) (fun ⟨b9, s9, m9⟩ => [[(b9, blk [.int .i64 (n : Int), s9] 24)], m9, [(bD, blk (u64s D ++ spD) 30)], [(b3, blk [.int .i64 (n : Int), .slice A l.length cap] 24)], [(b5, blk (arcCs a) 44)]]) (fun ⟨b9, s9, m9⟩ => Own 44 3 s9 (l ++ [a]).length ((l ++ [a]).flatMap arcCs) m9) ?_ ?_
                · intro K14 kh14
                  refine f_regionH [[(b3, blk [.int .i64 (n : Int), .slice A l.length cap] 24)], [(b5, blk (arcCs a) 44)]] rfl ?_
                  refine f_take 0 rfl (by decide +kernel) rfl rfl rfl (by repeat (first | exact Sub.nil | refine Sub.pick ?_ | refine Sub.castO rfl ?_ | refine Sub.skip ?_)) (o_field fa24_0 rfl) ?_
                  refine f_take 1 rfl (by decide +kernel) rfl rfl rfl (by repeat (first | exact Sub.nil | refine Sub.pick ?_ | refine Sub.castO rfl ?_ | refine Sub.skip ?_)) (o_load Try.isAgg3 rfl (rdA rfl)) ?_
                  refine f_take 3 rfl (by decide +kernel) rfl rfl rfl (by repeat (first | exact Sub.nil | refine Sub.pick ?_ | refine Sub.castO rfl ?_ | refine Sub.skip ?_)) (o_field fa24_1 rfl) ?_
                  refine f_take 4 rfl (by decide +kernel) rfl rfl rfl (by repeat (first | exact Sub.nil | refine Sub.pick ?_ | refine Sub.castO rfl ?_ | refine Sub.skip ?_)) (o_load Try.isAgg22 rfl (rdA rfl)) ?_
                  refine f_take 6 rfl (by decide +kernel) rfl rfl rfl (by repeat (first | exact Sub.nil | refine Sub.pick ?_ | refine Sub.castO rfl ?_ | refine Sub.skip ?_)) (o_loadA (vs := [_, _, _]) Try.isAgg44 Try.sizeOf44 rfl rfl ⟨(rdA rfl), (rdA rfl), (rdA rfl), trivial⟩) ?_
                  refine f_three 2 7 10 rfl rfl rfl (by decide +kernel) rfl rfl rfl rfl rfl rfl rfl rfl rfl ?_ ?_ ?_
                  · skip
                    refine (o_slice0 el22 fun b69 => ⟨(by repeat (first | exact Sub.nil | refine Sub.pick ?_ | refine Sub.castO rfl ?_ | refine Sub.skip ?_)), ?_⟩)
                    refine f_three 5 7 10 rfl rfl rfl (by decide +kernel) rfl rfl rfl rfl rfl rfl rfl rfl rfl ?_ ?_ ?_
                    · skip
                      refine (o_appendQ el22 rfl rfl (Own.mk (b := b69) (cs := []) (len := 0) rfl (by omega)) (ys := l.flatMap arcCs) (rds_ro hr) (flat_length arcCs arcCs_len l) (arcs_one l) (by omega) (by omega) fun v72 m72 o72 => ⟨(by repeat (first | exact Sub.nil | refine Sub.pick ?_ | refine Sub.castO rfl ?_ | refine Sub.skip ?_)), ?_⟩)
                      refine f_two 7 10 rfl rfl (by decide +kernel) rfl rfl rfl rfl rfl rfl ?_ ?_
                      · skip
                        refine (o_slice1 el22 (by omega) rfl rfl rfl fun b74 => ⟨(by repeat (first | exact Sub.nil | refine Sub.pick ?_ | refine Sub.castO rfl ?_ | refine Sub.skip ?_)), ?_⟩)
                        refine f_two 8 10 rfl rfl (by decide +kernel) rfl rfl rfl rfl rfl rfl ?_ ?_
                        · skip
                          refine (o_append el22 rfl rfl o72 (ys := arcCs a) ⟨(rdA rfl), (rdA rfl), (rdA rfl), trivial⟩ rfl rfl (by omega) (by omega) fun v75 m75 o75 => ⟨(by repeat (first | exact Sub.nil | refine Sub.pick ?_ | refine Sub.castO rfl ?_ | refine Sub.skip ?_)), ?_⟩)
                          obtain ⟨A75, cap75, rfl, _⟩ := o75.val
                          refine f_take 9 rfl (by decide +kernel) rfl rfl rfl (by repeat (first | exact Sub.nil | refine Sub.pick ?_ | refine Sub.castO rfl ?_ | refine Sub.skip ?_)) (o_build st24 rfl rfl) ?_
                          refine f_only 10 rfl (by decide +kernel) rfl rfl rfl (o_alloc Try.zeroValue24 rfl fun b9 => ⟨(by repeat (first | exact Sub.nil | refine Sub.pick ?_ | refine Sub.castO rfl ?_ | refine Sub.skip ?_)), ?_⟩)
                          refine f_only0 11 rfl (by decide +kernel) rfl rfl (o_storeA Try.sizeOf24 rfl rfl rfl rfl (by first | exact Nat.le_of_ble_eq_true rfl | (simp; done) | (simp; omega)) _ rfl ⟨(by repeat (first | exact Sub.nil | refine Sub.pick ?_ | refine Sub.castO rfl ?_ | refine Sub.skip ?_)), ?_⟩)
                          refine f_over (by decide +kernel) ?_
                          refine f_tn (kh14 _ _ (b9, .slice A75 (0 + l.length + 1) cap75, m75) (by rw [hla, List.flatMap_append]; rw [Nat.zero_add] at o75 ⊢; simpa using o75) ?_ ?_ ?_)
                          · exact (by repeat (first | exact trivial | refine ⟨rfl, ?_⟩))
                          · exact (by repeat (first | exact trivial | refine ⟨rfl, ?_⟩))
                          · repeat (first | exact Sub.nil | refine Sub.pick ?_ | refine Sub.castO rfl ?_ | refine Sub.skip ?_)
                        · skip
                          refine (o_alloc Try.zeroValue24 rfl fun b9 => ⟨(by repeat (first | exact Sub.nil | refine Sub.pick ?_ | refine Sub.castO rfl ?_ | refine Sub.skip ?_)), ?_⟩)
                          refine f_only 8 rfl (by decide +kernel) rfl rfl rfl (o_append el22 rfl rfl o72 (ys := arcCs a) ⟨(rdA rfl), (rdA rfl), (rdA rfl), trivial⟩ rfl rfl (by omega) (by omega) fun v75 m75 o75 => ⟨(by repeat (first | exact Sub.nil | refine Sub.pick ?_ | refine Sub.castO rfl ?_ | refine Sub.skip ?_)), ?_⟩)
                          obtain ⟨A75, cap75, rfl, _⟩ := o75.val
                          refine f_take 9 rfl (by decide +kernel) rfl rfl rfl (by repeat (first | exact Sub.nil | refine Sub.pick ?_ | refine Sub.castO rfl ?_ | refine Sub.skip ?_)) (o_build st24 rfl rfl) ?_
                          refine f_only0 11 rfl (by decide +kernel) rfl rfl (o_storeA Try.sizeOf24 rfl rfl rfl rfl (by first | exact Nat.le_of_ble_eq_true rfl | (simp; done) | (simp; omega)) _ rfl ⟨(by repeat (first | exact Sub.nil | refine Sub.pick ?_ | refine Sub.castO rfl ?_ | refine Sub.skip ?_)), ?_⟩)
                          refine f_over (by decide +kernel) ?_
                          refine f_tn (kh14 _ _ (b9, .slice A75 (0 + l.length + 1) cap75, m75) (by rw [hla, List.flatMap_append]; rw [Nat.zero_add] at o75 ⊢; simpa using o75) ?_ ?_ ?_)
                          · exact (by repeat (first | exact trivial | refine ⟨rfl, ?_⟩))
                          · exact (by repeat (first | exact trivial | refine ⟨rfl, ?_⟩))
                          · repeat (first | exact Sub.nil | refine Sub.pick ?_ | refine Sub.castO rfl ?_ | refine Sub.skip ?_)
                      · skip
                        refine (o_alloc Try.zeroValue24 rfl fun b9 => ⟨(by repeat (first | exact Sub.nil | refine Sub.pick ?_ | refine Sub.castO rfl ?_ | refine Sub.skip ?_)), ?_⟩)
                        refine f_only 7 rfl (by decide +kernel) rfl rfl rfl (o_slice1 el22 (by omega) rfl rfl rfl fun b74 => ⟨(by repeat (first | exact Sub.nil | refine Sub.pick ?_ | refine Sub.castO rfl ?_ | refine Sub.skip ?_)), ?_⟩)
                        refine f_only 8 rfl (by decide +kernel) rfl rfl rfl (o_append el22 rfl rfl o72 (ys := arcCs a) ⟨(rdA rfl), (rdA rfl), (rdA rfl), trivial⟩ rfl rfl (by omega) (by omega) fun v75 m75 o75 => ⟨(by repeat (first | exact Sub.nil | refine Sub.pick ?_ | refine Sub.castO rfl ?_ | refine Sub.skip ?_)), ?_⟩)
                        obtain ⟨A75, cap75, rfl, _⟩ := o75.val
                        refine f_take 9 rfl (by decide +kernel) rfl rfl rfl (by repeat (first | exact Sub.nil | refine Sub.pick ?_ | refine Sub.castO rfl ?_ | refine Sub.skip ?_)) (o_build st24 rfl rfl) ?_
                        refine f_only0 11 rfl (by decide +kernel) rfl rfl (o_storeA Try.sizeOf24 rfl rfl rfl rfl (by first | exact Nat.le_of_ble_eq_true rfl | (simp; done) | (simp; omega)) _ rfl ⟨(by repeat (first | exact Sub.nil | refine Sub.pick ?_ | refine Sub.castO rfl ?_ | refine Sub.skip ?_)), ?_⟩)
                        refine f_over (by decide +kernel) ?_
                        refine f_tn (kh14 _ _ (b9, .slice A75 (0 + l.length + 1) cap75, m75) (by rw [hla, List.flatMap_append]; rw [Nat.zero_add] at o75 ⊢; simpa using o75) ?_ ?_ ?_)
                        · exact (by repeat (first | exact trivial | refine ⟨rfl, ?_⟩))
                        · exact (by repeat (first | exact trivial | refine ⟨rfl, ?_⟩))
                        · repeat (first | exact Sub.nil | refine Sub.pick ?_ | refine Sub.castO rfl ?_ | refine Sub.skip ?_)
                    · skip
                      refine (o_slice1 el22 (by omega) rfl rfl rfl fun b74 => ⟨(by repeat (first | exact Sub.nil | refine Sub.pick ?_ | refine Sub.castO rfl ?_ | refine Sub.skip ?_)), ?_⟩)
                      refine f_two 5 10 rfl rfl (by decide +kernel) rfl rfl rfl rfl rfl rfl ?_ ?_
                      · skip
                        refine (o_appendQ el22 rfl rfl (Own.mk (b := b69) (cs := []) (len := 0) rfl (by omega)) (ys := l.flatMap arcCs) (rds_ro hr) (flat_length arcCs arcCs_len l) (arcs_one l) (by omega) (by omega) fun v72 m72 o72 => ⟨(by repeat (first | exact Sub.nil | refine Sub.pick ?_ | refine Sub.castO rfl ?_ | refine Sub.skip ?_)), ?_⟩)
                        refine f_two 8 10 rfl rfl (by decide +kernel) rfl rfl rfl rfl rfl rfl ?_ ?_
                        · skip
                          refine (o_append el22 rfl rfl o72 (ys := arcCs a) ⟨(rdA rfl), (rdA rfl), (rdA rfl), trivial⟩ rfl rfl (by omega) (by omega) fun v75 m75 o75 => ⟨(by repeat (first | exact Sub.nil | refine Sub.pick ?_ | refine Sub.castO rfl ?_ | refine Sub.skip ?_)), ?_⟩)
                          obtain ⟨A75, cap75, rfl, _⟩ := o75.val
                          refine f_take 9 rfl (by decide +kernel) rfl rfl rfl (by repeat (first | exact Sub.nil | refine Sub.pick ?_ | refine Sub.castO rfl ?_ | refine Sub.skip ?_)) (o_build st24 rfl rfl) ?_
                          refine f_only 10 rfl (by decide +kernel) rfl rfl rfl (o_alloc Try.zeroValue24 rfl fun b9 => ⟨(by repeat (first | exact Sub.nil | refine Sub.pick ?_ | refine Sub.castO rfl ?_ | refine Sub.skip ?_)), ?_⟩)
                          refine f_only0 11 rfl (by decide +kernel) rfl rfl (o_storeA Try.sizeOf24 rfl rfl rfl rfl (by first | exact Nat.le_of_ble_eq_true rfl | (simp; done) | (simp; omega)) _ rfl ⟨(by repeat (first | exact Sub.nil | refine Sub.pick ?_ | refine Sub.castO rfl ?_ | refine Sub.skip ?_)), ?_⟩)
                          refine f_over (by decide +kernel) ?_
                          refine f_tn (kh14 _ _ (b9, .slice A75 (0 + l.length + 1) cap75, m75) (by rw [hla, List.flatMap_append]; rw [Nat.zero_add] at o75 ⊢; simpa using o75) ?_ ?_ ?_)
                          · exact (by repeat (first | exact trivial | refine ⟨rfl, ?_⟩))
                          · exact (by repeat (first | exact trivial | refine ⟨rfl, ?_⟩))
                          · repeat (first | exact Sub.nil | refine Sub.pick ?_ | refine Sub.castO rfl ?_ | refine Sub.skip ?_)
                        · skip
                          refine (o_alloc Try.zeroValue24 rfl fun b9 => ⟨(by repeat (first | exact Sub.nil | refine Sub.pick ?_ | refine Sub.castO rfl ?_ | refine Sub.skip ?_)), ?_⟩)
                          refine f_only 8 rfl (by decide +kernel) rfl rfl rfl (o_append el22 rfl rfl o72 (ys := arcCs a) ⟨(rdA rfl), (rdA rfl), (rdA rfl), trivial⟩ rfl rfl (by omega) (by omega) fun v75 m75 o75 => ⟨(by repeat (first | exact Sub.nil | refine Sub.pick ?_ | refine Sub.castO rfl ?_ | refine Sub.skip ?_)), ?_⟩)
                          obtain ⟨A75, cap75, rfl, _⟩ := o75.val
                          refine f_take 9 rfl (by decide +kernel) rfl rfl rfl (by repeat (first | exact Sub.nil | refine Sub.pick ?_ | refine Sub.castO rfl ?_ | refine Sub.skip ?_)) (o_build st24 rfl rfl) ?_
                          refine f_only0 11 rfl (by decide +kernel) rfl rfl (o_storeA Try.sizeOf24 rfl rfl rfl rfl (by first | exact Nat.le_of_ble_eq_true rfl | (simp; done) | (simp; omega)) _ rfl ⟨(by repeat (first | exact Sub.nil | refine Sub.pick ?_ | refine Sub.castO rfl ?_ | refine Sub.skip ?_)), ?_⟩)
                          refine f_over (by decide +kernel) ?_
                          refine f_tn (kh14 _ _ (b9, .slice A75 (0 + l.length + 1) cap75, m75) (by rw [hla, List.flatMap_append]; rw [Nat.zero_add] at o75 ⊢; simpa using o75) ?_ ?_ ?_)
                          · exact (by repeat (first | exact trivial | refine ⟨rfl, ?_⟩))
                          · exact (by repeat (first | exact trivial | refine ⟨rfl, ?_⟩))
                          · repeat (first | exact Sub.nil | refine Sub.pick ?_ | refine Sub.castO rfl ?_ | refine Sub.skip ?_)
                      · skip
                        refine (o_alloc Try.zeroValue24 rfl fun b9 => ⟨(by repeat (first | exact Sub.nil | refine Sub.pick ?_ | refine Sub.castO rfl ?_ | refine Sub.skip ?_)), ?_⟩)
                        refine f_only 5 rfl (by decide +kernel) rfl rfl rfl (o_appendQ el22 rfl rfl (Own.mk (b := b69) (cs := []) (len := 0) rfl (by omega)) (ys := l.flatMap arcCs) (rds_ro hr) (flat_length arcCs arcCs_len l) (arcs_one l) (by omega) (by omega) fun v72 m72 o72 => ⟨(by repeat (first | exact Sub.nil | refine Sub.pick ?_ | refine Sub.castO rfl ?_ | refine Sub.skip ?_)), ?_⟩)
                        refine f_only 8 rfl (by decide +kernel) rfl rfl rfl (o_append el22 rfl rfl o72 (ys := arcCs a) ⟨(rdA rfl), (rdA rfl), (rdA rfl), trivial⟩ rfl rfl (by omega) (by omega) fun v75 m75 o75 => ⟨(by repeat (first | exact Sub.nil | refine Sub.pick ?_ | refine Sub.castO rfl ?_ | refine Sub.skip ?_)), ?_⟩)
                        obtain ⟨A75, cap75, rfl, _⟩ := o75.val
                        refine f_take 9 rfl (by decide +kernel) rfl rfl rfl (by repeat (first | exact Sub.nil | refine Sub.pick ?_ | refine Sub.castO rfl ?_ | refine Sub.skip ?_)) (o_build st24 rfl rfl) ?_
                        refine f_only0 11 rfl (by decide +kernel) rfl rfl (o_storeA Try.sizeOf24 rfl rfl rfl rfl (by first | exact Nat.le_of_ble_eq_true rfl | (simp; done) | (simp; omega)) _ rfl ⟨(by repeat (first | exact Sub.nil | refine Sub.pick ?_ | refine Sub.castO rfl ?_ | refine Sub.skip ?_)), ?_⟩)
                        refine f_over (by decide +kernel) ?_
                        refine f_tn (kh14 _ _ (b9, .slice A75 (0 + l.length + 1) cap75, m75) (by rw [hla, List.flatMap_append]; rw [Nat.zero_add] at o75 ⊢; simpa using o75) ?_ ?_ ?_)
                        · exact (by repeat (first | exact trivial | refine ⟨rfl, ?_⟩))
                        · exact (by repeat (first | exact trivial | refine ⟨rfl, ?_⟩))
                        · repeat (first | exact Sub.nil | refine Sub.pick ?_ | refine Sub.castO rfl ?_ | refine Sub.skip ?_)
                    · skip
                      refine (o_alloc Try.zeroValue24 rfl fun b9 => ⟨(by repeat (first | exact Sub.nil | refine Sub.pick ?_ | refine Sub.castO rfl ?_ | refine Sub.skip ?_)), ?_⟩)
                      refine f_two 5 7 rfl rfl (by decide +kernel) rfl rfl rfl rfl rfl rfl ?_ ?_
                      · skip
                        refine (o_appendQ el22 rfl rfl (Own.mk (b := b69) (cs := []) (len := 0) rfl (by omega)) (ys := l.flatMap arcCs) (rds_ro hr) (flat_length arcCs arcCs_len l) (arcs_one l) (by omega) (by omega) fun v72 m72 o72 => ⟨(by repeat (first | exact Sub.nil | refine Sub.pick ?_ | refine Sub.castO rfl ?_ | refine Sub.skip ?_)), ?_⟩)
                        refine f_only 7 rfl (by decide +kernel) rfl rfl rfl (o_slice1 el22 (by omega) rfl rfl rfl fun b74 => ⟨(by repeat (first | exact Sub.nil | refine Sub.pick ?_ | refine Sub.castO rfl ?_ | refine Sub.skip ?_)), ?_⟩)
                        refine f_only 8 rfl (by decide +kernel) rfl rfl rfl (o_append el22 rfl rfl o72 (ys := arcCs a) ⟨(rdA rfl), (rdA rfl), (rdA rfl), trivial⟩ rfl rfl (by omega) (by omega) fun v75 m75 o75 => ⟨(by repeat (first | exact Sub.nil | refine Sub.pick ?_ | refine Sub.castO rfl ?_ | refine Sub.skip ?_)), ?_⟩)
                        obtain ⟨A75, cap75, rfl, _⟩ := o75.val
                        refine f_take 9 rfl (by decide +kernel) rfl rfl rfl (by repeat (first | exact Sub.nil | refine Sub.pick ?_ | refine Sub.castO rfl ?_ | refine Sub.skip ?_)) (o_build st24 rfl rfl) ?_
                        refine f_only0 11 rfl (by decide +kernel) rfl rfl (o_storeA Try.sizeOf24 rfl rfl rfl rfl (by first | exact Nat.le_of_ble_eq_true rfl | (simp; done) | (simp; omega)) _ rfl ⟨(by repeat (first | exact Sub.nil | refine Sub.pick ?_ | refine Sub.castO rfl ?_ | refine Sub.skip ?_)), ?_⟩)
                        refine f_over (by decide +kernel) ?_
                        refine f_tn (kh14 _ _ (b9, .slice A75 (0 + l.length + 1) cap75, m75) (by rw [hla, List.flatMap_append]; rw [Nat.zero_add] at o75 ⊢; simpa using o75) ?_ ?_ ?_)
                        · exact (by repeat (first | exact trivial | refine ⟨rfl, ?_⟩))
                        · exact (by repeat (first | exact trivial | refine ⟨rfl, ?_⟩))
                        · repeat (first | exact Sub.nil | refine Sub.pick ?_ | refine Sub.castO rfl ?_ | refine Sub.skip ?_)
                      · skip
                        refine (o_slice1 el22 (by omega) rfl rfl rfl fun b74 => ⟨(by repeat (first | exact Sub.nil | refine Sub.pick ?_ | refine Sub.castO rfl ?_ | refine Sub.skip ?_)), ?_⟩)
                        refine f_only 5 rfl (by decide +kernel) rfl rfl rfl (o_appendQ el22 rfl rfl (Own.mk (b := b69) (cs := []) (len := 0) rfl (by omega)) (ys := l.flatMap arcCs) (rds_ro hr) (flat_length arcCs arcCs_len l) (arcs_one l) (by omega) (by omega) fun v72 m72 o72 => ⟨(by repeat (first | exact Sub.nil | refine Sub.pick ?_ | refine Sub.castO rfl ?_ | refine Sub.skip ?_)), ?_⟩)
                        refine f_only 8 rfl (by decide +kernel) rfl rfl rfl (o_append el22 rfl rfl o72 (ys := arcCs a) ⟨(rdA rfl), (rdA rfl), (rdA rfl), trivial⟩ rfl rfl (by omega) (by omega) fun v75 m75 o75 => ⟨(by repeat (first | exact Sub.nil | refine Sub.pick ?_ | refine Sub.castO rfl ?_ | refine Sub.skip ?_)), ?_⟩)
                        obtain ⟨A75, cap75, rfl, _⟩ := o75.val
                        refine f_take 9 rfl (by decide +kernel) rfl rfl rfl (by repeat (first | exact Sub.nil | refine Sub.pick ?_ | refine Sub.castO rfl ?_ | refine Sub.skip ?_)) (o_build st24 rfl rfl) ?_
                        refine f_only0 11 rfl (by decide +kernel) rfl rfl (o_storeA Try.sizeOf24 rfl rfl rfl rfl (by first | exact Nat.le_of_ble_eq_true rfl | (simp; done) | (simp; omega)) _ rfl ⟨(by repeat (first | exact Sub.nil | refine Sub.pick ?_ | refine Sub.castO rfl ?_ | refine Sub.skip ?_)), ?_⟩)
                        refine f_over (by decide +kernel) ?_
                        refine f_tn (kh14 _ _ (b9, .slice A75 (0 + l.length + 1) cap75, m75) (by rw [hla, List.flatMap_append]; rw [Nat.zero_add] at o75 ⊢; simpa using o75) ?_ ?_ ?_)
                        · exact (by repeat (first | exact trivial | refine ⟨rfl, ?_⟩))
                        · exact (by repeat (first | exact trivial | refine ⟨rfl, ?_⟩))
                        · repeat (first | exact Sub.nil | refine Sub.pick ?_ | refine Sub.castO rfl ?_ | refine Sub.skip ?_)
                  · skip
                    refine (o_slice1 el22 (by omega) rfl rfl rfl fun b74 => ⟨(by repeat (first | exact Sub.nil | refine Sub.pick ?_ | refine Sub.castO rfl ?_ | refine Sub.skip ?_)), ?_⟩)
                    refine f_two 2 10 rfl rfl (by decide +kernel) rfl rfl rfl rfl rfl rfl ?_ ?_
                    · skip
                      refine (o_slice0 el22 fun b69 => ⟨(by repeat (first | exact Sub.nil | refine Sub.pick ?_ | refine Sub.castO rfl ?_ | refine Sub.skip ?_)), ?_⟩)
                      refine f_two 5 10 rfl rfl (by decide +kernel) rfl rfl rfl rfl rfl rfl ?_ ?_
                      · skip
                        refine (o_appendQ el22 rfl rfl (Own.mk (b := b69) (cs := []) (len := 0) rfl (by omega)) (ys := l.flatMap arcCs) (rds_ro hr) (flat_length arcCs arcCs_len l) (arcs_one l) (by omega) (by omega) fun v72 m72 o72 => ⟨(by repeat (first | exact Sub.nil | refine Sub.pick ?_ | refine Sub.castO rfl ?_ | refine Sub.skip ?_)), ?_⟩)
                        refine f_two 8 10 rfl rfl (by decide +kernel) rfl rfl rfl rfl rfl rfl ?_ ?_
                        · skip
                          refine (o_append el22 rfl rfl o72 (ys := arcCs a) ⟨(rdA rfl), (rdA rfl), (rdA rfl), trivial⟩ rfl rfl (by omega) (by omega) fun v75 m75 o75 => ⟨(by repeat (first | exact Sub.nil | refine Sub.pick ?_ | refine Sub.castO rfl ?_ | refine Sub.skip ?_)), ?_⟩)
                          obtain ⟨A75, cap75, rfl, _⟩ := o75.val
                          refine f_take 9 rfl (by decide +kernel) rfl rfl rfl (by repeat (first | exact Sub.nil | refine Sub.pick ?_ | refine Sub.castO rfl ?_ | refine Sub.skip ?_)) (o_build st24 rfl rfl) ?_
                          refine f_only 10 rfl (by decide +kernel) rfl rfl rfl (o_alloc Try.zeroValue24 rfl fun b9 => ⟨(by repeat (first | exact Sub.nil | refine Sub.pick ?_ | refine Sub.castO rfl ?_ | refine Sub.skip ?_)), ?_⟩)
                          refine f_only0 11 rfl (by decide +kernel) rfl rfl (o_storeA Try.sizeOf24 rfl rfl rfl rfl (by first | exact Nat.le_of_ble_eq_true rfl | (simp; done) | (simp; omega)) _ rfl ⟨(by repeat (first | exact Sub.nil | refine Sub.pick ?_ | refine Sub.castO rfl ?_ | refine Sub.skip ?_)), ?_⟩)
                          refine f_over (by decide +kernel) ?_
                          refine f_tn (kh14 _ _ (b9, .slice A75 (0 + l.length + 1) cap75, m75) (by rw [hla, List.flatMap_append]; rw [Nat.zero_add] at o75 ⊢; simpa using o75) ?_ ?_ ?_)
                          · exact (by repeat (first | exact trivial | refine ⟨rfl, ?_⟩))
                          · exact (by repeat (first | exact trivial | refine ⟨rfl, ?_⟩))
                          · repeat (first | exact Sub.nil | refine Sub.pick ?_ | refine Sub.castO rfl ?_ | refine Sub.skip ?_)
                        · skip
                          refine (o_alloc Try.zeroValue24 rfl fun b9 => ⟨(by repeat (first | exact Sub.nil | refine Sub.pick ?_ | refine Sub.castO rfl ?_ | refine Sub.skip ?_)), ?_⟩)
                          refine f_only 8 rfl (by decide +kernel) rfl rfl rfl (o_append el22 rfl rfl o72 (ys := arcCs a) ⟨(rdA rfl), (rdA rfl), (rdA rfl), trivial⟩ rfl rfl (by omega) (by omega) fun v75 m75 o75 => ⟨(by repeat (first | exact Sub.nil | refine Sub.pick ?_ | refine Sub.castO rfl ?_ | refine Sub.skip ?_)), ?_⟩)
                          obtain ⟨A75, cap75, rfl, _⟩ := o75.val
                          refine f_take 9 rfl (by decide +kernel) rfl rfl rfl (by repeat (first | exact Sub.nil | refine Sub.pick ?_ | refine Sub.castO rfl ?_ | refine Sub.skip ?_)) (o_build st24 rfl rfl) ?_
                          refine f_only0 11 rfl (by decide +kernel) rfl rfl (o_storeA Try.sizeOf24 rfl rfl rfl rfl (by first | exact Nat.le_of_ble_eq_true rfl | (simp; done) | (simp; omega)) _ rfl ⟨(by repeat (first | exact Sub.nil | refine Sub.pick ?_ | refine Sub.castO rfl ?_ | refine Sub.skip ?_)), ?_⟩)
                          refine f_over (by decide +kernel) ?_
                          refine f_tn (kh14 _ _ (b9, .slice A75 (0 + l.length + 1) cap75, m75) (by rw [hla, List.flatMap_append]; rw [Nat.zero_add] at o75 ⊢; simpa using o75) ?_ ?_ ?_)
                          · exact (by repeat (first | exact trivial | refine ⟨rfl, ?_⟩))
                          · exact (by repeat (first | exact trivial | refine ⟨rfl, ?_⟩))
                          · repeat (first | exact Sub.nil | refine Sub.pick ?_ | refine Sub.castO rfl ?_ | refine Sub.skip ?_)
                      · skip
                        refine (o_alloc Try.zeroValue24 rfl fun b9 => ⟨(by repeat (first | exact Sub.nil | refine Sub.pick ?_ | refine Sub.castO rfl ?_ | refine Sub.skip ?_)), ?_⟩)
                        refine f_only 5 rfl (by decide +kernel) rfl rfl rfl (o_appendQ el22 rfl rfl (Own.mk (b := b69) (cs := []) (len := 0) rfl (by omega)) (ys := l.flatMap arcCs) (rds_ro hr) (flat_length arcCs arcCs_len l) (arcs_one l) (by omega) (by omega) fun v72 m72 o72 => ⟨(by repeat (first | exact Sub.nil | refine Sub.pick ?_ | refine Sub.castO rfl ?_ | refine Sub.skip ?_)), ?_⟩)
                        refine f_only 8 rfl (by decide +kernel) rfl rfl rfl (o_append el22 rfl rfl o72 (ys := arcCs a) ⟨(rdA rfl), (rdA rfl), (rdA rfl), trivial⟩ rfl rfl (by omega) (by omega) fun v75 m75 o75 => ⟨(by repeat (first | exact Sub.nil | refine Sub.pick ?_ | refine Sub.castO rfl ?_ | refine Sub.skip ?_)), ?_⟩)
                        obtain ⟨A75, cap75, rfl, _⟩ := o75.val
                        refine f_take 9 rfl (by decide +kernel) rfl rfl rfl (by repeat (first | exact Sub.nil | refine Sub.pick ?_ | refine Sub.castO rfl ?_ | refine Sub.skip ?_)) (o_build st24 rfl rfl) ?_
                        refine f_only0 11 rfl (by decide +kernel) rfl rfl (o_storeA Try.sizeOf24 rfl rfl rfl rfl (by first | exact Nat.le_of_ble_eq_true rfl | (simp; done) | (simp; omega)) _ rfl ⟨(by repeat (first | exact Sub.nil | refine Sub.pick ?_ | refine Sub.castO rfl ?_ | refine Sub.skip ?_)), ?_⟩)
                        refine f_over (by decide +kernel) ?_
                        refine f_tn (kh14 _ _ (b9, .slice A75 (0 + l.length + 1) cap75, m75) (by rw [hla, List.flatMap_append]; rw [Nat.zero_add] at o75 ⊢; simpa using o75) ?_ ?_ ?_)
                        · exact (by repeat (first | exact trivial | refine ⟨rfl, ?_⟩))
                        · exact (by repeat (first | exact trivial | refine ⟨rfl, ?_⟩))
                        · repeat (first | exact Sub.nil | refine Sub.pick ?_ | refine Sub.castO rfl ?_ | refine Sub.skip ?_)
                    · skip
                      refine (o_alloc Try.zeroValue24 rfl fun b9 => ⟨(by repeat (first | exact Sub.nil | refine Sub.pick ?_ | refine Sub.castO rfl ?_ | refine Sub.skip ?_)), ?_⟩)
                      refine f_only 2 rfl (by decide +kernel) rfl rfl rfl (o_slice0 el22 fun b69 => ⟨(by repeat (first | exact Sub.nil | refine Sub.pick ?_ | refine Sub.castO rfl ?_ | refine Sub.skip ?_)), ?_⟩)
                      refine f_only 5 rfl (by decide +kernel) rfl rfl rfl (o_appendQ el22 rfl rfl (Own.mk (b := b69) (cs := []) (len := 0) rfl (by omega)) (ys := l.flatMap arcCs) (rds_ro hr) (flat_length arcCs arcCs_len l) (arcs_one l) (by omega) (by omega) fun v72 m72 o72 => ⟨(by repeat (first | exact Sub.nil | refine Sub.pick ?_ | refine Sub.castO rfl ?_ | refine Sub.skip ?_)), ?_⟩)
                      refine f_only 8 rfl (by decide +kernel) rfl rfl rfl (o_append el22 rfl rfl o72 (ys := arcCs a) ⟨(rdA rfl), (rdA rfl), (rdA rfl), trivial⟩ rfl rfl (by omega) (by omega) fun v75 m75 o75 => ⟨(by repeat (first | exact Sub.nil | refine Sub.pick ?_ | refine Sub.castO rfl ?_ | refine Sub.skip ?_)), ?_⟩)
                      obtain ⟨A75, cap75, rfl, _⟩ := o75.val
                      refine f_take 9 rfl (by decide +kernel) rfl rfl rfl (by repeat (first | exact Sub.nil | refine Sub.pick ?_ | refine Sub.castO rfl ?_ | refine Sub.skip ?_)) (o_build st24 rfl rfl) ?_
                      refine f_only0 11 rfl (by decide +kernel) rfl rfl (o_storeA Try.sizeOf24 rfl rfl rfl rfl (by first | exact Nat.le_of_ble_eq_true rfl | (simp; done) | (simp; omega)) _ rfl ⟨(by repeat (first | exact Sub.nil | refine Sub.pick ?_ | refine Sub.castO rfl ?_ | refine Sub.skip ?_)), ?_⟩)
                      refine f_over (by decide +kernel) ?_
                      refine f_tn (kh14 _ _ (b9, .slice A75 (0 + l.length + 1) cap75, m75) (by rw [hla, List.flatMap_append]; rw [Nat.zero_add] at o75 ⊢; simpa using o75) ?_ ?_ ?_)
                      · exact (by repeat (first | exact trivial | refine ⟨rfl, ?_⟩))
                      · exact (by repeat (first | exact trivial | refine ⟨rfl, ?_⟩))
                      · repeat (first | exact Sub.nil | refine Sub.pick ?_ | refine Sub.castO rfl ?_ | refine Sub.skip ?_)
                  · skip
                    refine (o_alloc Try.zeroValue24 rfl fun b9 => ⟨(by repeat (first | exact Sub.nil | refine Sub.pick ?_ | refine Sub.castO rfl ?_ | refine Sub.skip ?_)), ?_⟩)
                    refine f_two 2 7 rfl rfl (by decide +kernel) rfl rfl rfl rfl rfl rfl ?_ ?_
                    · skip
                      refine (o_slice0 el22 fun b69 => ⟨(by repeat (first | exact Sub.nil | refine Sub.pick ?_ | refine Sub.castO rfl ?_ | refine Sub.skip ?_)), ?_⟩)
                      refine f_two 5 7 rfl rfl (by decide +kernel) rfl rfl rfl rfl rfl rfl ?_ ?_
                      · skip
                        refine (o_appendQ el22 rfl rfl (Own.mk (b := b69) (cs := []) (len := 0) rfl (by omega)) (ys := l.flatMap arcCs) (rds_ro hr) (flat_length arcCs arcCs_len l) (arcs_one l) (by omega) (by omega) fun v72 m72 o72 => ⟨(by repeat (first | exact Sub.nil | refine Sub.pick ?_ | refine Sub.castO rfl ?_ | refine Sub.skip ?_)), ?_⟩)
                        refine f_only 7 rfl (by decide +kernel) rfl rfl rfl (o_slice1 el22 (by omega) rfl rfl rfl fun b74 => ⟨(by repeat (first | exact Sub.nil | refine Sub.pick ?_ | refine Sub.castO rfl ?_ | refine Sub.skip ?_)), ?_⟩)
                        refine f_only 8 rfl (by decide +kernel) rfl rfl rfl (o_append el22 rfl rfl o72 (ys := arcCs a) ⟨(rdA rfl), (rdA rfl), (rdA rfl), trivial⟩ rfl rfl (by omega) (by omega) fun v75 m75 o75 => ⟨(by repeat (first | exact Sub.nil | refine Sub.pick ?_ | refine Sub.castO rfl ?_ | refine Sub.skip ?_)), ?_⟩)
                        obtain ⟨A75, cap75, rfl, _⟩ := o75.val
                        refine f_take 9 rfl (by decide +kernel) rfl rfl rfl (by repeat (first | exact Sub.nil | refine Sub.pick ?_ | refine Sub.castO rfl ?_ | refine Sub.skip ?_)) (o_build st24 rfl rfl) ?_
                        refine f_only0 11 rfl (by decide +kernel) rfl rfl (o_storeA Try.sizeOf24 rfl rfl rfl rfl (by first | exact Nat.le_of_ble_eq_true rfl | (simp; done) | (simp; omega)) _ rfl ⟨(by repeat (first | exact Sub.nil | refine Sub.pick ?_ | refine Sub.castO rfl ?_ | refine Sub.skip ?_)), ?_⟩)
                        refine f_over (by decide +kernel) ?_
                        refine f_tn (kh14 _ _ (b9, .slice A75 (0 + l.length + 1) cap75, m75) (by rw [hla, List.flatMap_append]; rw [Nat.zero_add] at o75 ⊢; simpa using o75) ?_ ?_ ?_)
                        · exact (by repeat (first | exact trivial | refine ⟨rfl, ?_⟩))
                        · exact (by repeat (first | exact trivial | refine ⟨rfl, ?_⟩))
                        · repeat (first | exact Sub.nil | refine Sub.pick ?_ | refine Sub.castO rfl ?_ | refine Sub.skip ?_)
                      · skip
                        refine (o_slice1 el22 (by omega) rfl rfl rfl fun b74 => ⟨(by repeat (first | exact Sub.nil | refine Sub.pick ?_ | refine Sub.castO rfl ?_ | refine Sub.skip ?_)), ?_⟩)
                        refine f_only 5 rfl (by decide +kernel) rfl rfl rfl (o_appendQ el22 rfl rfl (Own.mk (b := b69) (cs := []) (len := 0) rfl (by omega)) (ys := l.flatMap arcCs) (rds_ro hr) (flat_length arcCs arcCs_len l) (arcs_one l) (by omega) (by omega) fun v72 m72 o72 => ⟨(by repeat (first | exact Sub.nil | refine Sub.pick ?_ | refine Sub.castO rfl ?_ | refine Sub.skip ?_)), ?_⟩)
                        refine f_only 8 rfl (by decide +kernel) rfl rfl rfl (o_append el22 rfl rfl o72 (ys := arcCs a) ⟨(rdA rfl), (rdA rfl), (rdA rfl), trivial⟩ rfl rfl (by omega) (by omega) fun v75 m75 o75 => ⟨(by repeat (first | exact Sub.nil | refine Sub.pick ?_ | refine Sub.castO rfl ?_ | refine Sub.skip ?_)), ?_⟩)
                        obtain ⟨A75, cap75, rfl, _⟩ := o75.val
                        refine f_take 9 rfl (by decide +kernel) rfl rfl rfl (by repeat (first | exact Sub.nil | refine Sub.pick ?_ | refine Sub.castO rfl ?_ | refine Sub.skip ?_)) (o_build st24 rfl rfl) ?_
                        refine f_only0 11 rfl (by decide +kernel) rfl rfl (o_storeA Try.sizeOf24 rfl rfl rfl rfl (by first | exact Nat.le_of_ble_eq_true rfl | (simp; done) | (simp; omega)) _ rfl ⟨(by repeat (first | exact Sub.nil | refine Sub.pick ?_ | refine Sub.castO rfl ?_ | refine Sub.skip ?_)), ?_⟩)
                        refine f_over (by decide +kernel) ?_
                        refine f_tn (kh14 _ _ (b9, .slice A75 (0 + l.length + 1) cap75, m75) (by rw [hla, List.flatMap_append]; rw [Nat.zero_add] at o75 ⊢; simpa using o75) ?_ ?_ ?_)
                        · exact (by repeat (first | exact trivial | refine ⟨rfl, ?_⟩))
                        · exact (by repeat (first | exact trivial | refine ⟨rfl, ?_⟩))
                        · repeat (first | exact Sub.nil | refine Sub.pick ?_ | refine Sub.castO rfl ?_ | refine Sub.skip ?_)
                    · skip
                      refine (o_slice1 el22 (by omega) rfl rfl rfl fun b74 => ⟨(by repeat (first | exact Sub.nil | refine Sub.pick ?_ | refine Sub.castO rfl ?_ | refine Sub.skip ?_)), ?_⟩)
                      refine f_only 2 rfl (by decide +kernel) rfl rfl rfl (o_slice0 el22 fun b69 => ⟨(by repeat (first | exact Sub.nil | refine Sub.pick ?_ | refine Sub.castO rfl ?_ | refine Sub.skip ?_)), ?_⟩)
                      refine f_only 5 rfl (by decide +kernel) rfl rfl rfl (o_appendQ el22 rfl rfl (Own.mk (b := b69) (cs := []) (len := 0) rfl (by omega)) (ys := l.flatMap arcCs) (rds_ro hr) (flat_length arcCs arcCs_len l) (arcs_one l) (by omega) (by omega) fun v72 m72 o72 => ⟨(by repeat (first | exact Sub.nil | refine Sub.pick ?_ | refine Sub.castO rfl ?_ | refine Sub.skip ?_)), ?_⟩)
                      refine f_only 8 rfl (by decide +kernel) rfl rfl rfl (o_append el22 rfl rfl o72 (ys := arcCs a) ⟨(rdA rfl), (rdA rfl), (rdA rfl), trivial⟩ rfl rfl (by omega) (by omega) fun v75 m75 o75 => ⟨(by repeat (first | exact Sub.nil | refine Sub.pick ?_ | refine Sub.castO rfl ?_ | refine Sub.skip ?_)), ?_⟩)
                      obtain ⟨A75, cap75, rfl, _⟩ := o75.val
                      refine f_take 9 rfl (by decide +kernel) rfl rfl rfl (by repeat (first | exact Sub.nil | refine Sub.pick ?_ | refine Sub.castO rfl ?_ | refine Sub.skip ?_)) (o_build st24 rfl rfl) ?_
                      refine f_only0 11 rfl (by decide +kernel) rfl rfl (o_storeA Try.sizeOf24 rfl rfl rfl rfl (by first | exact Nat.le_of_ble_eq_true rfl | (simp; done) | (simp; omega)) _ rfl ⟨(by repeat (first | exact Sub.nil | refine Sub.pick ?_ | refine Sub.castO rfl ?_ | refine Sub.skip ?_)), ?_⟩)
                      refine f_over (by decide +kernel) ?_
                      refine f_tn (kh14 _ _ (b9, .slice A75 (0 + l.length + 1) cap75, m75) (by rw [hla, List.flatMap_append]; rw [Nat.zero_add] at o75 ⊢; simpa using o75) ?_ ?_ ?_)
                      · exact (by repeat (first | exact trivial | refine ⟨rfl, ?_⟩))
                      · exact (by repeat (first | exact trivial | refine ⟨rfl, ?_⟩))
                      · repeat (first | exact Sub.nil | refine Sub.pick ?_ | refine Sub.castO rfl ?_ | refine Sub.skip ?_)
                · rintro ⟨b9, s9, m9⟩ o9
                  obtain ⟨A9, cap9, rfl, hc9⟩ := o9.val
                  refine f_seq fun K15 kh15 => ?_
                  refine f_region ?_
                  refine f_stepP rfl rfl rfl (o_loadA (vs := [_, _]) Try.isAgg24 Try.sizeOf24 rfl rfl ⟨(rdA rfl), (rdA rfl), trivial⟩) ?_
                  refine f_stepP rfl rfl rfl (o_move rfl) ?_
                  refine f_step rfl rfl rfl (o_call Try.call17 rfl (fun w_ hp_ => From_spec (n : Int) A9 (l ++ [a]) cap9 (k : Int) w_ (seen_ro (o9.seen hp_)) (by simp; omega) hN hoka2) ?_)
                  rintro _ _ ⟨vX, mX, X, rfl, rfl, hoX, hX1, hX0⟩
                  obtain ⟨AX, cX, rfl, hcX⟩ := hoX.val
                  rw [hz2] at hX0 ⊢
                  obtain ⟨hX, _⟩ := hX0 rfl
                  rw [Int.toNat_natCast, Int.toNat_natCast, fw_more] at hX
                  have hXl := hX.len
                  obtain ⟨bX, spX, rfl, rfl⟩ := hoX.at_ (by omega)
                  dsimp only [List.cons_append, List.nil_append]
                  refine f_stepP rfl rfl rfl (o_move rfl) ?_
                  refine f_stepP rfl rfl rfl (o_extract rfl rfl) ?_
                  refine f_stepP rfl rfl rfl (o_extract rfl rfl) ?_
                  refine f_stepP rfl rfl rfl (o_assign rfl) ?_
                  refine f_stepP rfl rfl rfl (o_assign rfl) ?_
                  refine f_done ?_
                  refine f_tn (kh15 _ _ ?_)
                  clear kh15
                  refine f_seq fun K16 kh16 => ?_
                  refine f_region ?_
                  refine f_stepP rfl rfl rfl (o_loadA (vs := [_, _]) Try.isAgg24 Try.sizeOf24 rfl rfl ⟨(rdA rfl), (rdA rfl), trivial⟩) ?_
                  refine f_stepP rfl rfl rfl (o_field fa44_1 rfl) ?_
                  refine f_stepP rfl rfl rfl (o_load Try.isAgg3 rfl (rdA rfl)) ?_
                  refine f_step rfl rfl rfl (o_call Try.call17 rfl (fun w_ hp_ => From_spec (n : Int) A l cap a.dst w_ (hr.up0 hp_) hl hN hok) ?_)
                  rintro _ _ ⟨vY, mY, Y, rfl, rfl, hoY, hY1, hY0⟩
                  obtain ⟨AY, cY, rfl, hcY⟩ := hoY.val
                  rw [hz3] at hY0 ⊢
                  obtain ⟨hY, hYb⟩ := hY0 rfl
                  rw [Int.toNat_natCast] at hY hYb
                  have hYl := hY.len
                  obtain ⟨bY, spY, rfl, rfl⟩ := hoY.at_ (by omega)
                  have hM := hX.unique (more_is hD hY hkn (by omega) (by omega) hoka.wt.1 (hg.wt false) (hg.src false) (hg.dst false) (fun v hv h1 h2 => by have := hDb _ (by omega) h1; have := hYb v hv h2; have := hoka.wt.2; unfold INF; omega))
                  dsimp only [List.cons_append, List.nil_append]
                  refine f_stepP rfl rfl rfl (o_move rfl) ?_
                  refine f_stepP rfl rfl rfl (o_extract rfl rfl) ?_
                  refine f_stepP rfl rfl rfl (o_extract rfl rfl) ?_
                  refine f_stepP rfl rfl rfl (o_assign rfl) ?_
                  refine f_stepP rfl rfl rfl (o_assign rfl) ?_
                  refine f_done ?_
                  refine f_tn (kh16 _ _ ?_)
                  clear kh16
                  refine f_seq fun K17 kh17 => ?_
                  refine f_seq fun K18 kh18 => ?_
                  refine f_region ?_
                  refine f_stepP rfl rfl rfl (o_move rfl) ?_
                  refine f_stepP rfl rfl rfl (o_neq rfl rfl) ?_
                  refine f_stepP rfl rfl rfl (o_move rfl) ?_
                  refine f_falseL 92 rfl (by simp) ?_
                  refine f_stepPY rfl rfl rfl rfl rfl (o_move rfl) ?_
                  refine f_stepPY rfl rfl rfl rfl rfl (o_neq rfl rfl) ?_
                  refine f_stepP rfl rfl rfl (o_pickF rfl rfl) ?_
                  refine f_stepP rfl rfl rfl (o_move rfl) ?_
                  refine f_falseL 96 rfl (by simp) ?_
                  refine f_stepPY rfl rfl rfl rfl rfl (o_move rfl) ?_
                  refine f_stepPY rfl rfl rfl rfl rfl (o_len sl38 rfl) ?_
                  refine f_stepPY rfl rfl rfl rfl rfl (o_move rfl) ?_
                  refine f_stepPY rfl rfl rfl rfl rfl (o_len sl38 rfl) ?_
                  refine f_stepPY rfl rfl rfl rfl rfl (o_neq rfl rfl) ?_
                  refine f_stepP rfl rfl rfl (o_pickF rfl rfl) ?_
                  refine f_done ?_
                  refine f_tn (kh18 _ _ ?_)
                  clear kh18
                  refine f_condN rfl (by simp; omega) ?_
                  refine f_skip ?_
                  refine f_tn (kh17 _ _ ?_)
                  clear kh17
                  refine f_seq fun K19 kh19 => ?_
                  refine f_seq fun K20 kh20 => ?_
                  refine f_region ?_
                  refine f_stepP rfl rfl rfl (o_move rfl) ?_
                  refine f_stepP rfl rfl rfl (o_len sl38 rfl) ?_
                  refine f_stepP rfl rfl rfl (o_move rfl) ?_
                  refine f_done ?_
                  refine f_tn (kh20 _ _ ?_)
                  clear kh20
                  refine f_block ?_
                  refine f_loop (α := Nat) [5, 7, 10, 12, 104] (fun v => [(105, .int .i64 (v : Int))]) (fun v => [[(bX, blk (u64s X ++ spX) 30)], [(bD, blk (u64s D ++ spD) 30)], [(bY, blk (u64s Y ++ spY) 30)], [(b5, blk (arcCs a) 44)]]) (fun v => v ≤ n) (fun v => n - v) (0) ?_ ?_ ?_ ?_
                  · exact (by repeat (first | exact trivial | refine ⟨rfl, ?_⟩))
                  · repeat (first | exact Sub.nil | refine Sub.pick ?_ | refine Sub.castO rfl ?_ | refine Sub.skip ?_)
                  · exact Nat.zero_le _
                  · rintro v hvn
                    refine f_seq fun K21 kh21 => ?_
                    refine f_region ?_
                    refine f_stepP rfl rfl rfl (o_lss rfl rfl) ?_
                    refine f_done ?_
                    refine f_tn (kh21 _ _ ?_)
                    clear kh21
                    refine f_seq fun K22 kh22 => ?_
                    refine f_cond rfl (fun c106 => ?_) (fun c106 => ?_)
                    · skip
                      refine f_skip ?_
                      refine f_tn (kh22 _ _ ?_)
                      clear kh22
                      refine f_seq fun K23 kh23 => ?_
                      refine f_block ?_
                      refine f_seq fun K24 kh24 => ?_
                      refine f_region ?_
                      refine f_stepP rfl rfl rfl (o_move rfl) ?_
                      refine f_stepP rfl rfl rfl (o_assign rfl) ?_
                      refine f_done ?_
                      refine f_tn (kh24 _ _ ?_)
                      clear kh24
                      refine f_seq fun K25 kh25 => ?_
                      refine f_region ?_
                      refine f_stepP rfl rfl rfl (o_assign rfl) ?_
                      refine f_done ?_
                      refine f_tn (kh25 _ _ ?_)
                      clear kh25
                      refine f_seq fun K26 kh26 => ?_
                      refine f_seq fun K27 kh27 => ?_
                      have hvn' : v < n := by omega
                      refine f_region ?_
                      have hvn' : v < n := by omega
                      refine f_stepP rfl rfl rfl (o_move rfl) ?_
                      refine f_stepP rfl rfl rfl (o_field fa44_0 rfl) ?_
                      refine f_stepP rfl rfl rfl (o_load Try.isAgg3 rfl (rdA rfl)) ?_
                      have hvn' : v < n := by omega
                      refine f_stepP rfl rfl rfl (o_idx sl38 rfl rfl (a.src.toNat) ⟨by omega, by omega, by first | omega | (simp; done) | (simp; omega)⟩) ?_
                      refine f_stepP rfl rfl rfl (o_load Try.isAgg30 rfl (rdA (app_get (u64s_at (dg_at (by omega)))))) ?_
                      refine f_stepP rfl rfl rfl (o_lss rfl rfl) ?_
                      refine f_stepP rfl rfl rfl (o_move rfl) ?_
                      refine f_splitL 114 rfl (fun g114 => ?_) (fun g114 => ?_)
                      · skip
                        refine f_stepPY rfl rfl rfl rfl rfl (o_move rfl) ?_
                        refine f_stepPY rfl rfl rfl rfl rfl (o_move rfl) ?_
                        refine f_stepPY rfl rfl rfl rfl rfl (o_idx sl38 rfl rfl (v) ⟨by omega, by omega, by first | omega | (simp; done) | (simp; omega)⟩) ?_
                        refine f_stepPY rfl rfl rfl rfl rfl (o_load Try.isAgg30 rfl (rdA (app_get (u64s_at (dg_at (by omega)))))) ?_
                        refine f_stepPY rfl rfl rfl rfl rfl (o_lss rfl rfl) ?_
                        refine f_stepP rfl rfl rfl (o_pickT rfl rfl) ?_
                        refine f_done ?_
                        refine f_tn (kh27 _ _ ?_)
                        clear kh27
                        refine f_cond rfl (fun c120 => ?_) (fun c120 => ?_)
                        · skip
                          refine f_regionT 14 rfl (by decide +kernel) ?_
                          refine f_stillP rfl rfl rfl (o_move rfl) ?_
                          refine f_stillP rfl rfl rfl (o_field fa44_0 rfl) ?_
                          refine f_stillP rfl rfl rfl (o_load Try.isAgg3 rfl (rdA rfl)) ?_
                          refine f_stillP rfl rfl rfl (o_idx sl38 rfl rfl (a.src.toNat) ⟨by omega, by omega, by first | omega | (simp; done) | (simp; omega)⟩) ?_
                          refine f_stillP rfl rfl rfl (o_load Try.isAgg30 rfl (rdA (app_get (u64s_at (dg_at (by omega)))))) ?_
                          refine f_stillP rfl rfl rfl (o_field fa44_2 rfl) ?_
                          refine f_stillP rfl rfl rfl (o_load Try.isAgg42 rfl (rdA rfl)) ?_
                          refine f_stillP rfl rfl rfl (o_conv Try.runUnderlying42 Try.runUnderlying30 rfl _ (wrap_u64 (by have := hoka.wt; omega))) ?_
                          refine f_stillP rfl rfl rfl (o_add rfl rfl _ (wrap_u64 (by have := hDb _ (by omega) g114; have := (hD.rng a.src.toNat (by omega)).1; have := hoka.wt; omega))) ?_
                          refine f_stillP rfl rfl rfl (o_move rfl) ?_
                          refine f_stillP rfl rfl rfl (o_move rfl) ?_
                          refine f_stillP rfl rfl rfl (o_idx sl38 rfl rfl (v) ⟨by omega, by omega, by first | omega | (simp; done) | (simp; omega)⟩) ?_
                          refine f_stillP rfl rfl rfl (o_load Try.isAgg30 rfl (rdA (app_get (u64s_at (dg_at (by omega)))))) ?_
                          refine f_stillP rfl rfl rfl (o_add rfl rfl _ (wrap_u64 (by have := hDb _ (by omega) g114; have := (hD.rng a.src.toNat (by omega)).1; have := hYb v hvn' c120; have := (hY.rng v hvn').1; have := hoka.wt; omega))) ?_
                          refine f_stillD (f_tail ?_)
                          refine f_stepP rfl rfl rfl (o_assign rfl) ?_
                          refine f_done ?_
                          refine f_tn (kh26 _ _ ?_)
                          clear kh26
                          refine f_seq fun K28 kh28 => ?_
                          refine f_regionS rfl (by decide +kernel) ?_
                          refine f_stillP rfl rfl rfl (o_move rfl) ?_
                          refine f_stillP rfl rfl rfl (o_move rfl) ?_
                          refine f_stillP rfl rfl rfl (o_idx sl38 rfl rfl (v) ⟨by omega, by omega, by first | omega | (simp; done) | (simp; omega)⟩) ?_
                          refine f_stillP rfl rfl rfl (o_load Try.isAgg30 rfl (rdA (app_get (u64s_at (dg_at (by omega)))))) ?_
                          refine f_stillP rfl rfl rfl (o_move rfl) ?_
                          refine f_stillP rfl rfl rfl (o_move rfl) ?_
                          refine f_stillP rfl rfl rfl (o_idx sl38 rfl rfl (v) ⟨by omega, by omega, by first | omega | (simp; done) | (simp; omega)⟩) ?_
                          refine f_stillP rfl rfl rfl (o_load Try.isAgg30 rfl (rdA (app_get (u64s_at (dg_at (by omega)))))) ?_
                          refine f_stillP rfl rfl rfl (o_move rfl) ?_
                          refine f_stillP rfl rfl rfl (o_min rfl rfl) ?_
                          refine f_stillP rfl rfl rfl (o_neq rfl rfl) ?_
                          refine f_stillD ?_
                          refine f_tn (kh28 _ _ ?_)
                          clear kh28
                          refine f_condN rfl (by have hv' := congrArg (fun d => dg d v) hM; rw [dg_eq (d := List.map _ _) (by simpa using hvn')] at hv'; simp only [List.getElem_map, List.getElem_range, over] at hv'; first | (rw [if_pos ⟨g114, c120⟩] at hv'; simpa using hv') | (rw [if_neg (fun h => c120 h.2)] at hv'; simpa using hv') | (rw [if_neg (fun h => g114 h.1)] at hv'; simpa using hv')) ?_
                          refine f_skip ?_
                          refine f_bn ?_
                          refine f_tn (kh23 _ _ ?_)
                          clear kh23
                          refine f_region ?_
                          refine f_stepP rfl rfl rfl (o_add rfl rfl _ (wrap_i64 (by omega))) ?_
                          refine f_stepP rfl rfl rfl (o_move rfl) ?_
                          refine f_done ?_
                          refine f_tn (f_again (v + 1) (by first | omega | (dsimp only; omega) | (simp; omega)) (by omega) ?_ ?_ ?_)
                          · exact (by repeat (first | exact trivial | refine ⟨rfl, ?_⟩))
                          · exact (by repeat (first | exact trivial | refine ⟨rfl, ?_⟩))
                          · repeat (first | exact Sub.nil | refine Sub.pick ?_ | refine Sub.castO rfl ?_ | refine Sub.skip ?_)
                        · skip
                          refine f_skip ?_
                          refine f_tn (kh26 _ _ ?_)
                          clear kh26
                          refine f_seq fun K29 kh29 => ?_
                          refine f_regionS rfl (by decide +kernel) ?_
                          refine f_stillP rfl rfl rfl (o_move rfl) ?_
                          refine f_stillP rfl rfl rfl (o_move rfl) ?_
                          refine f_stillP rfl rfl rfl (o_idx sl38 rfl rfl (v) ⟨by omega, by omega, by first | omega | (simp; done) | (simp; omega)⟩) ?_
                          refine f_stillP rfl rfl rfl (o_load Try.isAgg30 rfl (rdA (app_get (u64s_at (dg_at (by omega)))))) ?_
                          refine f_stillP rfl rfl rfl (o_move rfl) ?_
                          refine f_stillP rfl rfl rfl (o_move rfl) ?_
                          refine f_stillP rfl rfl rfl (o_idx sl38 rfl rfl (v) ⟨by omega, by omega, by first | omega | (simp; done) | (simp; omega)⟩) ?_
                          refine f_stillP rfl rfl rfl (o_load Try.isAgg30 rfl (rdA (app_get (u64s_at (dg_at (by omega)))))) ?_
                          refine f_stillP rfl rfl rfl (o_move rfl) ?_
                          refine f_stillP rfl rfl rfl (o_min rfl rfl) ?_
                          refine f_stillP rfl rfl rfl (o_neq rfl rfl) ?_
                          refine f_stillD ?_
                          refine f_tn (kh29 _ _ ?_)
                          clear kh29
                          refine f_condN rfl (by have hv' := congrArg (fun d => dg d v) hM; rw [dg_eq (d := List.map _ _) (by simpa using hvn')] at hv'; simp only [List.getElem_map, List.getElem_range, over] at hv'; first | (rw [if_pos ⟨g114, c120⟩] at hv'; simpa using hv') | (rw [if_neg (fun h => c120 h.2)] at hv'; simpa using hv') | (rw [if_neg (fun h => g114 h.1)] at hv'; simpa using hv')) ?_
                          refine f_skip ?_
                          refine f_bn ?_
                          refine f_tn (kh23 _ _ ?_)
                          clear kh23
                          refine f_region ?_
                          refine f_stepP rfl rfl rfl (o_add rfl rfl _ (wrap_i64 (by omega))) ?_
                          refine f_stepP rfl rfl rfl (o_move rfl) ?_
                          refine f_done ?_
                          refine f_tn (f_again (v + 1) (by first | omega | (dsimp only; omega) | (simp; omega)) (by omega) ?_ ?_ ?_)
                          · exact (by repeat (first | exact trivial | refine ⟨rfl, ?_⟩))
                          · exact (by repeat (first | exact trivial | refine ⟨rfl, ?_⟩))
                          · repeat (first | exact Sub.nil | refine Sub.pick ?_ | refine Sub.castO rfl ?_ | refine Sub.skip ?_)
                      · skip
                        refine f_stepN rfl rfl rfl rfl rfl rfl ?_
                        refine f_stepN rfl rfl rfl rfl rfl rfl ?_
                        refine f_stepN rfl rfl rfl rfl rfl rfl ?_
                        refine f_stepN rfl rfl rfl rfl rfl rfl ?_
                        refine f_stepN rfl rfl rfl rfl rfl rfl ?_
                        refine f_stepP rfl rfl rfl (o_pickF rfl rfl) ?_
                        refine f_done ?_
                        refine f_tn (kh27 _ _ ?_)
                        clear kh27
                        refine f_condF rfl ?_
                        refine f_skip ?_
                        refine f_tn (kh26 _ _ ?_)
                        clear kh26
                        refine f_seq fun K30 kh30 => ?_
                        refine f_regionS rfl (by decide +kernel) ?_
                        refine f_stillP rfl rfl rfl (o_move rfl) ?_
                        refine f_stillP rfl rfl rfl (o_move rfl) ?_
                        refine f_stillP rfl rfl rfl (o_idx sl38 rfl rfl (v) ⟨by omega, by omega, by first | omega | (simp; done) | (simp; omega)⟩) ?_
                        refine f_stillP rfl rfl rfl (o_load Try.isAgg30 rfl (rdA (app_get (u64s_at (dg_at (by omega)))))) ?_
                        refine f_stillP rfl rfl rfl (o_move rfl) ?_
                        refine f_stillP rfl rfl rfl (o_move rfl) ?_
                        refine f_stillP rfl rfl rfl (o_idx sl38 rfl rfl (v) ⟨by omega, by omega, by first | omega | (simp; done) | (simp; omega)⟩) ?_
                        refine f_stillP rfl rfl rfl (o_load Try.isAgg30 rfl (rdA (app_get (u64s_at (dg_at (by omega)))))) ?_
                        refine f_stillP rfl rfl rfl (o_move rfl) ?_
                        refine f_stillP rfl rfl rfl (o_min rfl rfl) ?_
                        refine f_stillP rfl rfl rfl (o_neq rfl rfl) ?_
                        refine f_stillD ?_
                        refine f_tn (kh30 _ _ ?_)
                        clear kh30
                        refine f_condN rfl (by have hv' := congrArg (fun d => dg d v) hM; rw [dg_eq (d := List.map _ _) (by simpa using hvn')] at hv'; simp only [List.getElem_map, List.getElem_range, over] at hv'; first | (rw [if_pos ⟨g114, c120⟩] at hv'; simpa using hv') | (rw [if_neg (fun h => c120 h.2)] at hv'; simpa using hv') | (rw [if_neg (fun h => g114 h.1)] at hv'; simpa using hv')) ?_
                        refine f_skip ?_
                        refine f_bn ?_
                        refine f_tn (kh23 _ _ ?_)
                        clear kh23
                        refine f_region ?_
                        refine f_stepP rfl rfl rfl (o_add rfl rfl _ (wrap_i64 (by omega))) ?_
                        refine f_stepP rfl rfl rfl (o_move rfl) ?_
                        refine f_done ?_
                        refine f_tn (f_again (v + 1) (by first | omega | (dsimp only; omega) | (simp; omega)) (by omega) ?_ ?_ ?_)
                        · exact (by repeat (first | exact trivial | refine ⟨rfl, ?_⟩))
                        · exact (by repeat (first | exact trivial | refine ⟨rfl, ?_⟩))
                        · repeat (first | exact Sub.nil | refine Sub.pick ?_ | refine Sub.castO rfl ?_ | refine Sub.skip ?_)
                    · skip
                      refine f_exit ?_
                      refine f_te ?_
                      clear kh22
                      refine f_te ?_
                      refine f_be ?_
                      refine f_tn (kh19 _ _ ?_)
                      clear kh19
                      refine f_seq fun K31 kh31 => ?_
                      refine f_region ?_
                      refine f_stepP rfl rfl rfl (o_assign rfl) ?_
                      refine f_done ?_
                      refine f_tn (kh31 _ _ ?_)
                      clear kh31
                      refine f_ret ?_
                      exact f_fin1 [] Try.results6 rfl Sub.nil ⟨by first | rfl | (simp; done) | exact absurd hz g62, rfl⟩

end Go.Proofs.Ytegkdbicomedjaa
