/- flyoverlaw06: FlowCuts, FlowMost. -/
import Derived.Test.YtnagjidfenfdbaaFLaw6b
import Derived.Test.YtnagjidfenfdbaaFRef6b
import Derived.Test.YtnagjidfenfdbaaFSame6
namespace Go.Proofs.Ytnagjidfenfdbaa
open Go Go.RowKit Fly
set_option linter.unusedVariables false
set_option linter.unusedSimpArgs false


theorem side_list {n : Nat} {sd sd2 : List Bool} (h1 : sd.length = n) (h2 : sd2.length = n) (h : ∀ v, v < n → sd.getD v false = sd2.getD v false) : sd = sd2 :=
  List.ext_getElem (by omega) fun j a b => by have := h j (by omega); simpa [List.getD_eq_getElem?_getD, a, b] using this
theorem cuts_same {N : Int} {l : List Arc} {s t : Int} {V V2 : Int} {sd sd2 : List Bool} {W W2 : List Int} (hok : ∀ x ∈ l, ArcOk x)
    (h1 : flooked N l s t ≠ 0 → V = 0 ∧ sd = [] ∧ W = []) (h0 : flooked N l s t = 0 → sd.length = N.toNat ∧ W = idxs (cutP sd) l ∧ (∃ f, Flow N.toNat l s.toNat t.toNat f V ∧ Side N.toNat l s.toNat t.toNat f (fun v => sd.getD v false)) ∧ 0 ≤ V ∧ V ≤ 70368744161280)
    (g1 : flooked N l s t ≠ 0 → V2 = 0 ∧ sd2 = [] ∧ W2 = []) (g0 : flooked N l s t = 0 → sd2.length = N.toNat ∧ W2 = idxs (cutP sd2) l ∧ (∃ f, Flow N.toNat l s.toNat t.toNat f V2 ∧ Side N.toNat l s.toNat t.toNat f (fun v => sd2.getD v false)) ∧ 0 ≤ V2 ∧ V2 ≤ 70368744161280) :
    V = V2 ∧ sd = sd2 ∧ W = W2 := by
  by_cases hz : flooked N l s t = 0
  · obtain ⟨a1, a2, ⟨f, hF, hA⟩, _⟩ := h0 hz
    obtain ⟨b1, b2, ⟨g, hG, hB⟩, _⟩ := g0 hz
    obtain ⟨hg0, hs0, hs1, ht0, ht1, _⟩ := flooked_zero hz
    have hN1 := ncheck_zero hg0
    have hn : NOk N.toNat l := nok_of (by rw [Int.toNat_of_nonneg (by omega)]; exact hg0) hok
    obtain ⟨e1, e2⟩ := Side.same hn.net (by omega) hF hG hA hB
    have e3 := side_list a1 b1 e2
    exact ⟨e1, e3, by rw [a2, b2, e3]⟩
  · obtain ⟨a1, a2, a3⟩ := h1 hz
    obtain ⟨b1, b2, b3⟩ := g1 hz
    exact ⟨by rw [a1, b1], by rw [a2, b2], by rw [a3, b3]⟩
theorem cuts_len {N : Int} {l : List Arc} {s t : Int} {sd : List Bool} {W : List Int} {V : Int} (h1 : flooked N l s t ≠ 0 → V = 0 ∧ sd = [] ∧ W = []) (h0 : flooked N l s t = 0 → sd.length = N.toNat ∧ W = idxs (cutP sd) l ∧ (∃ f, Flow N.toNat l s.toNat t.toNat f V ∧ Side N.toNat l s.toNat t.toNat f (fun v => sd.getD v false)) ∧ 0 ≤ V ∧ V ≤ 70368744161280) : sd.length ≤ 9223372036854775807 := by
  by_cases hz : flooked N l s t = 0
  · have := (h0 hz).1
    have := ncheck_zero (flooked_zero hz).1
    omega
  · rw [(h1 hz).2.1]; simp

set_option maxRecDepth 100000 in
set_option maxHeartbeats 4000000 in
theorem FlowCuts_spec (N : Int) (A : Option Addr) (l : List Arc) (cap : Nat) (s t : Int) (w : World) (hr : Ro (Fr w []) w A (l.flatMap arcCs)) (hl : l.length ≤ 9223372036854775807) (hN : I64 N) (hok : ∀ x ∈ l, ArcOk x) (hz0 : l.length * 24 ≤ 140737488351232) :
    Meets Try.prog 3 [.agg #[.int .i64 N, .slice A l.length cap], .int .i64 s, .int .i64 t] w [] (fun u m => u = .bool true ∧ m = []) := by
  refine f_enter Try.func3 rfl Try.ntmps3 rfl Owns.nil ?_
  refine f_seq fun K1 kh1 => ?_
  refine f_region ?_
  refine f_step rfl rfl rfl (o_box rfl rfl fun b3 => ?_)
  refine f_stepP rfl rfl rfl (o_assign rfl) ?_
  refine f_done ?_
  refine f_tn (kh1 _ _ ?_)
  clear kh1
  refine f_seq fun K2 kh2 => ?_
  refine f_seq fun K3 kh3 => ?_
  refine f_region ?_
  refine f_stepP rfl rfl rfl (o_loadA (vs := [_, _]) Try.isAgg24 Try.sizeOf24 rfl rfl ⟨(rdA rfl), (rdA rfl), trivial⟩) ?_
  refine f_step rfl rfl rfl (o_call Try.call9 rfl (fun w_ hp_ => large6_spec N A l.length cap w_) ?_)
  rintro _ _ ⟨rfl, rfl⟩
  dsimp only [List.cons_append, List.nil_append]
  refine f_done ?_
  refine f_tn (kh3 _ _ ?_)
  clear kh3
  refine f_cond rfl (fun c21 => ?_) (fun c21 => ?_)
  · skip
    refine f_seq fun K4 kh4 => ?_
    refine f_region ?_
    refine f_step rfl rfl rfl (o_call Try.call10 rfl (fun w_ hp_ => works6_spec w_) ?_)
    rintro _ _ ⟨rfl, rfl⟩
    dsimp only [List.cons_append, List.nil_append]
    refine f_stepP rfl rfl rfl (o_assign rfl) ?_
    refine f_done ?_
    refine f_tn (kh4 _ _ ?_)
    clear kh4
    refine f_ret ?_
    refine f_tr ?_
    exact f_fin1 [] Try.results3 rfl Sub.nil ⟨rfl, rfl⟩
  · skip
    refine f_skip ?_
    refine f_tn (kh2 _ _ ?_)
    clear kh2
    refine f_seq fun K5 kh5 => ?_
    refine f_region ?_
    refine f_stepP rfl rfl rfl (o_loadA (vs := [_, _]) Try.isAgg24 Try.sizeOf24 rfl rfl ⟨(rdA rfl), (rdA rfl), trivial⟩) ?_
    refine f_step rfl rfl rfl (o_call Try.call11 rfl (fun w_ hp_ => lent_spec N A l cap w_ (hr.up0 hp_) hz0) ?_)
    rintro _ _ ⟨Am, cm, mm, rfl, rfl, hoM⟩
    dsimp only [List.cons_append, List.nil_append]
    refine f_step rfl rfl rfl (o_alloc Try.zeroValue24 rfl fun b7 => ?_)
    refine f_step0 rfl rfl (o_storeA Try.sizeOf24 rfl rfl rfl rfl (by first | exact Nat.le_of_ble_eq_true rfl | (simp; done) | (simp; omega)) [.int .i64 N, .slice Am l.length cm] rfl ?_)
    refine f_done ?_
    refine f_tn (kh5 _ _ ?_)
    clear kh5
    refine f_seq fun K6 kh6 => ?_
    refine f_region ?_
    refine f_stepP rfl rfl rfl (o_loadA (vs := [_, _]) Try.isAgg24 Try.sizeOf24 rfl rfl ⟨(rdA rfl), (rdA rfl), trivial⟩) ?_
    refine f_step rfl rfl rfl (o_call Try.call12 rfl (fun w_ hp_ => FCheck_spec N Am l cm w_ (seen_ro (hoM.seen hp_)) hl hN hok) ?_)
    rintro _ _ ⟨rfl, rfl⟩
    dsimp only [List.cons_append, List.nil_append]
    refine f_stepP rfl rfl rfl (o_move rfl) ?_
    refine f_stepP rfl rfl rfl (o_extract rfl rfl) ?_
    refine f_stepP rfl rfl rfl (o_extract rfl rfl) ?_
    refine f_stepP rfl rfl rfl (o_assign rfl) ?_
    refine f_stepP rfl rfl rfl (o_assign rfl) ?_
    refine f_done ?_
    refine f_tn (kh6 _ _ ?_)
    clear kh6
    refine f_seq fun K7 kh7 => ?_
    refine f_region ?_
    refine f_stepP rfl rfl rfl (o_loadA (vs := [_, _]) Try.isAgg24 Try.sizeOf24 rfl rfl ⟨(rdA rfl), (rdA rfl), trivial⟩) ?_
    refine f_step rfl rfl rfl (o_call Try.call13 rfl (fun w_ hp_ => RNCheck_spec N A l cap w_ (hr.up0 hp_) hl hN hok) ?_)
    rintro _ _ ⟨rfl, rfl⟩
    dsimp only [List.cons_append, List.nil_append]
    refine f_stepP rfl rfl rfl (o_move rfl) ?_
    refine f_stepP rfl rfl rfl (o_extract rfl rfl) ?_
    refine f_stepP rfl rfl rfl (o_extract rfl rfl) ?_
    refine f_stepP rfl rfl rfl (o_assign rfl) ?_
    refine f_stepP rfl rfl rfl (o_assign rfl) ?_
    refine f_done ?_
    refine f_tn (kh7 _ _ ?_)
    clear kh7
    refine f_seq fun K8 kh8 => ?_
    refine f_region ?_
    refine f_stepP rfl rfl rfl (o_loadA (vs := [_, _]) Try.isAgg24 Try.sizeOf24 rfl rfl ⟨(rdA rfl), (rdA rfl), trivial⟩) ?_
    refine f_stepP rfl rfl rfl (o_move rfl) ?_
    refine f_stepP rfl rfl rfl (o_move rfl) ?_
    refine f_step rfl rfl rfl (o_call Try.call14 rfl (fun w_ hp_ => Cut_spec2 N Am l cm s t w_ (seen_ro (hoM.seen hp_)) hl hN hok) ?_)
    rintro _ _ ⟨V, vS, mS, sd, A11, c11, mW, W, rfl, rfl, hoB, hoW, hx1, hx0⟩
    have hsl := cuts_len hx1 hx0
    have hoS := hoB.own hsl
    obtain ⟨A10, c10, rfl, _⟩ := hoS.val
    obtain ⟨_, _, e11, hc11⟩ := hoW.val
    cases e11
    dsimp only [List.cons_append, List.nil_append]
    refine f_stepP rfl rfl rfl (o_move rfl) ?_
    refine f_stepP rfl rfl rfl (o_extract rfl rfl) ?_
    refine f_stepP rfl rfl rfl (o_extract rfl rfl) ?_
    refine f_stepP rfl rfl rfl (o_extract rfl rfl) ?_
    refine f_stepP rfl rfl rfl (o_extract rfl rfl) ?_
    refine f_stepP rfl rfl rfl (o_assign rfl) ?_
    refine f_stepP rfl rfl rfl (o_assign rfl) ?_
    refine f_stepP rfl rfl rfl (o_assign rfl) ?_
    refine f_stepP rfl rfl rfl (o_assign rfl) ?_
    refine f_done ?_
    refine f_tn (kh8 _ _ ?_)
    clear kh8
    refine f_seq fun K9 kh9 => ?_
    refine f_region ?_
    refine f_stepP rfl rfl rfl (o_loadA (vs := [_, _]) Try.isAgg24 Try.sizeOf24 rfl rfl ⟨(rdA rfl), (rdA rfl), trivial⟩) ?_
    refine f_stepP rfl rfl rfl (o_move rfl) ?_
    refine f_stepP rfl rfl rfl (o_move rfl) ?_
    refine f_step rfl rfl rfl (o_call Try.call15 rfl (fun w_ hp_ => RCut_spec N A l cap s t w_ (hr.up0 hp_) hl hN hok) ?_)
    rintro _ _ ⟨V2, vT, mT, sd2, W2, vX, mX, rfl, rfl, hoT, hoX, hy1, hy0⟩
    obtain ⟨rfl, rfl, rfl⟩ := cuts_same hok hx1 hx0 hy1 hy0
    obtain ⟨A20, c20, rfl, _⟩ := hoT.val
    obtain ⟨A21, c21, rfl, _⟩ := hoX.val
    dsimp only [List.cons_append, List.nil_append]
    refine f_stepP rfl rfl rfl (o_move rfl) ?_
    refine f_stepP rfl rfl rfl (o_extract rfl rfl) ?_
    refine f_stepP rfl rfl rfl (o_extract rfl rfl) ?_
    refine f_stepP rfl rfl rfl (o_extract rfl rfl) ?_
    refine f_stepP rfl rfl rfl (o_extract rfl rfl) ?_
    refine f_stepP rfl rfl rfl (o_assign rfl) ?_
    refine f_stepP rfl rfl rfl (o_assign rfl) ?_
    refine f_stepP rfl rfl rfl (o_assign rfl) ?_
    refine f_stepP rfl rfl rfl (o_assign rfl) ?_
    refine f_done ?_
    refine f_tn (kh9 _ _ ?_)
    clear kh9
    refine f_seq fun K10 kh10 => ?_
    refine f_seq fun K11 kh11 => ?_
    refine f_region ?_
    refine f_stepP rfl rfl rfl (o_move rfl) ?_
    refine f_stepPY rfl rfl rfl rfl rfl (o_move rfl) ?_
    refine f_stepPY rfl rfl rfl rfl rfl (o_move rfl) ?_
    refine f_stepPY rfl rfl rfl rfl rfl (o_neq rfl rfl) ?_
    refine f_stepP rfl rfl rfl (o_pickF rfl rfl) ?_
    refine f_stepP rfl rfl rfl (o_move rfl) ?_
    refine f_falseL 58 rfl (by simp) ?_
    refine f_stepPY rfl rfl rfl rfl rfl (o_move rfl) ?_
    refine f_stepPY rfl rfl rfl rfl rfl (o_move rfl) ?_
    refine f_stepPY rfl rfl rfl rfl rfl (o_neq rfl rfl) ?_
    refine f_stepP rfl rfl rfl (o_pickF rfl rfl) ?_
    refine f_stepP rfl rfl rfl (o_move rfl) ?_
    refine f_falseL 63 rfl (by simp) ?_
    refine f_stepPY rfl rfl rfl rfl rfl (o_move rfl) ?_
    refine f_stepPY rfl rfl rfl rfl rfl (o_move rfl) ?_
    refine f_stepY rfl rfl rfl rfl rfl (o_call Try.call16 rfl (fun w_ hp_ => SameBools_spec A10 A20 sd sd c10 c20 w_ (seen_ro (hoS.seen hp_)) (seen_ro (hoT.seen hp_)) hsl) ?_)
    rintro _ _ ⟨rfl, rfl⟩
    rw [decide_eq_true rfl]
    dsimp only [List.cons_append, List.nil_append]
    refine f_stepPY rfl rfl rfl rfl rfl (o_not rfl) ?_
    refine f_stepP rfl rfl rfl (o_pickF rfl rfl) ?_
    refine f_stepP rfl rfl rfl (o_move rfl) ?_
    refine f_stepPY rfl rfl rfl rfl rfl (o_move rfl) ?_
    refine f_stepPY rfl rfl rfl rfl rfl (o_move rfl) ?_
    refine f_stepY rfl rfl rfl rfl rfl (o_call Try.call17 rfl (fun w_ hp_ => SameInts_spec A11 A21 W W W.length c21 w_ (seen_ro (hoW.seen hp_)) (seen_ro (hoX.seen hp_)) (by omega)) ?_)
    rintro _ _ ⟨rfl, rfl⟩
    rw [decide_eq_true rfl]
    dsimp only [List.cons_append, List.nil_append]
    refine f_stepPY rfl rfl rfl rfl rfl (o_not rfl) ?_
    refine f_stepP rfl rfl rfl (o_pickF rfl rfl) ?_
    refine f_stepP rfl rfl rfl (o_move rfl) ?_
    refine f_stepPY rfl rfl rfl rfl rfl (o_move rfl) ?_
    refine f_stepPY rfl rfl rfl rfl rfl (o_move rfl) ?_
    refine f_stepPY rfl rfl rfl rfl rfl (o_neq rfl rfl) ?_
    refine f_stepP rfl rfl rfl (o_pickF rfl rfl) ?_
    refine f_stepP rfl rfl rfl (o_move rfl) ?_
    refine f_falseL 80 rfl (by simp) ?_
    refine f_stepPY rfl rfl rfl rfl rfl (o_move rfl) ?_
    refine f_stepPY rfl rfl rfl rfl rfl (o_move rfl) ?_
    refine f_stepPY rfl rfl rfl rfl rfl (o_neq rfl rfl) ?_
    refine f_stepP rfl rfl rfl (o_pickF rfl rfl) ?_
    refine f_done ?_
    refine f_tn (kh11 _ _ ?_)
    clear kh11
    refine f_condN rfl (by simp) ?_
    refine f_skip ?_
    refine f_tn (kh10 _ _ ?_)
    clear kh10
    refine f_seq fun K12 kh12 => ?_
    refine f_region ?_
    refine f_stepP rfl rfl rfl (o_move rfl) ?_
    refine f_step rfl rfl rfl (o_callM [mS] _ Try.call18 rfl (Sub.pick Sub.refl) (fun w_ hp_ => SpoilBools_spec _ sd mS w_ hoB hsl hp_.owns) ?_)
    rintro v_ m_ ⟨rfl, rfl⟩
    dsimp only [List.cons_append, List.nil_append]
    refine f_done ?_
    refine f_tn (kh12 _ _ ?_)
    clear kh12
    refine f_seq fun K13 kh13 => ?_
    refine f_region ?_
    refine f_stepP rfl rfl rfl (o_move rfl) ?_
    refine f_step rfl rfl rfl (o_callM [mW] _ Try.call19 rfl (Sub.pick Sub.refl) (fun w_ hp_ => SpoilIntsC_spec A11 W.length W.length c11 _ mW (-7) w_ hoW (Nat.le_refl _) hc11.1 hp_.owns) ?_)
    rintro v_ m_ ⟨rfl, rfl⟩
    dsimp only [List.cons_append, List.nil_append]
    refine f_done ?_
    refine f_tn (kh13 _ _ ?_)
    clear kh13
    refine f_seq fun K14 kh14 => ?_
    refine f_region ?_
    refine f_stepP rfl rfl rfl (o_loadA (vs := [_, _]) Try.isAgg24 Try.sizeOf24 rfl rfl ⟨(rdA rfl), (rdA rfl), trivial⟩) ?_
    refine f_stepP rfl rfl rfl (o_loadA (vs := [_, _]) Try.isAgg24 Try.sizeOf24 rfl rfl ⟨(rdA rfl), (rdA rfl), trivial⟩) ?_
    refine f_step rfl rfl rfl (o_call Try.call20 rfl (fun w_ hp_ => SameNet_spec N N Am A l l cm cap w_ (seen_ro (hoM.seen hp_)) (hr.up0 hp_) hl) ?_)
    rintro _ _ ⟨rfl, rfl⟩
    rw [decide_eq_true ⟨rfl, rfl⟩]
    dsimp only [List.cons_append, List.nil_append]
    refine f_stepP rfl rfl rfl (o_move rfl) ?_
    refine f_stepY rfl rfl rfl rfl rfl (o_call Try.call10 rfl (fun w_ hp_ => works6_spec w_) ?_)
    rintro _ _ ⟨rfl, rfl⟩
    dsimp only [List.cons_append, List.nil_append]
    refine f_stepP rfl rfl rfl (o_pickT rfl rfl) ?_
    refine f_stepP rfl rfl rfl (o_assign rfl) ?_
    refine f_done ?_
    refine f_tn (kh14 _ _ ?_)
    clear kh14
    refine f_ret ?_
    exact f_fin1 [] Try.results3 rfl Sub.nil ⟨rfl, rfl⟩

set_option maxRecDepth 100000 in
set_option maxHeartbeats 4000000 in
theorem FlowMost_spec (N : Int) (A : Option Addr) (l : List Arc) (cap : Nat) (s t : Int) (w : World) (hr : Ro (Fr w []) w A (l.flatMap arcCs)) (hl : l.length ≤ 9223372036854775807) (hN : I64 N) (hok : ∀ x ∈ l, ArcOk x) (hz0 : l.length * 24 ≤ 140737488351232) :
    Meets Try.prog 4 [.agg #[.int .i64 N, .slice A l.length cap], .int .i64 s, .int .i64 t] w [] (fun u m => u = .bool true ∧ m = []) := by
  refine f_enter Try.func4 rfl Try.ntmps4 rfl Owns.nil ?_
  refine f_seq fun K1 kh1 => ?_
  refine f_region ?_
  refine f_step rfl rfl rfl (o_box rfl rfl fun b3 => ?_)
  refine f_stepP rfl rfl rfl (o_assign rfl) ?_
  refine f_done ?_
  refine f_tn (kh1 _ _ ?_)
  clear kh1
  refine f_seq fun K2 kh2 => ?_
  refine f_seq fun K3 kh3 => ?_
  refine f_region ?_
  refine f_stepP rfl rfl rfl (o_loadA (vs := [_, _]) Try.isAgg24 Try.sizeOf24 rfl rfl ⟨(rdA rfl), (rdA rfl), trivial⟩) ?_
  refine f_step rfl rfl rfl (o_call Try.call9 rfl (fun w_ hp_ => large6_spec N A l.length cap w_) ?_)
  rintro _ _ ⟨rfl, rfl⟩
  dsimp only [List.cons_append, List.nil_append]
  refine f_done ?_
  refine f_tn (kh3 _ _ ?_)
  clear kh3
  refine f_cond rfl (fun c18 => ?_) (fun c18 => ?_)
  · skip
    refine f_seq fun K4 kh4 => ?_
    refine f_region ?_
    refine f_step rfl rfl rfl (o_call Try.call10 rfl (fun w_ hp_ => works6_spec w_) ?_)
    rintro _ _ ⟨rfl, rfl⟩
    dsimp only [List.cons_append, List.nil_append]
    refine f_stepP rfl rfl rfl (o_assign rfl) ?_
    refine f_done ?_
    refine f_tn (kh4 _ _ ?_)
    clear kh4
    refine f_ret ?_
    refine f_tr ?_
    exact f_fin1 [] Try.results4 rfl Sub.nil ⟨rfl, rfl⟩
  · skip
    refine f_skip ?_
    refine f_tn (kh2 _ _ ?_)
    clear kh2
    refine f_seq fun K5 kh5 => ?_
    refine f_region ?_
    refine f_stepP rfl rfl rfl (o_loadA (vs := [_, _]) Try.isAgg24 Try.sizeOf24 rfl rfl ⟨(rdA rfl), (rdA rfl), trivial⟩) ?_
    refine f_step rfl rfl rfl (o_call Try.call11 rfl (fun w_ hp_ => lent_spec N A l cap w_ (hr.up0 hp_) hz0) ?_)
    rintro _ _ ⟨Am, cm, mm, rfl, rfl, hoM⟩
    dsimp only [List.cons_append, List.nil_append]
    refine f_step rfl rfl rfl (o_alloc Try.zeroValue24 rfl fun b7 => ?_)
    refine f_step0 rfl rfl (o_storeA Try.sizeOf24 rfl rfl rfl rfl (by first | exact Nat.le_of_ble_eq_true rfl | (simp; done) | (simp; omega)) [.int .i64 N, .slice Am l.length cm] rfl ?_)
    refine f_done ?_
    refine f_tn (kh5 _ _ ?_)
    clear kh5
    refine f_seq fun K6 kh6 => ?_
    refine f_region ?_
    refine f_stepP rfl rfl rfl (o_loadA (vs := [_, _]) Try.isAgg24 Try.sizeOf24 rfl rfl ⟨(rdA rfl), (rdA rfl), trivial⟩) ?_
    refine f_stepP rfl rfl rfl (o_move rfl) ?_
    refine f_stepP rfl rfl rfl (o_move rfl) ?_
    refine f_step rfl rfl rfl (o_call Try.call21 rfl (fun w_ hp_ => Max_spec N Am l cm s t w_ (seen_ro (hoM.seen hp_)) hl hN hok) ?_)
    rintro _ _ ⟨V, v11, m11, f, rfl, rfl, hoF, hx1, hx0⟩
    obtain ⟨Af, cf, rfl, _⟩ := hoF.val
    dsimp only [List.cons_append, List.nil_append]
    refine f_stepP rfl rfl rfl (o_move rfl) ?_
    refine f_stepP rfl rfl rfl (o_extract rfl rfl) ?_
    refine f_stepP rfl rfl rfl (o_extract rfl rfl) ?_
    refine f_stepP rfl rfl rfl (o_extract rfl rfl) ?_
    refine f_stepP rfl rfl rfl (o_assign rfl) ?_
    refine f_stepP rfl rfl rfl (o_assign rfl) ?_
    refine f_stepP rfl rfl rfl (o_assign rfl) ?_
    refine f_done ?_
    refine f_tn (kh6 _ _ ?_)
    clear kh6
    refine f_seq fun K7 kh7 => ?_
    refine f_region ?_
    refine f_stepP rfl rfl rfl (o_loadA (vs := [_, _]) Try.isAgg24 Try.sizeOf24 rfl rfl ⟨(rdA rfl), (rdA rfl), trivial⟩) ?_
    refine f_stepP rfl rfl rfl (o_move rfl) ?_
    refine f_stepP rfl rfl rfl (o_move rfl) ?_
    refine f_step rfl rfl rfl (o_call Try.call22 rfl (fun w_ hp_ => Wrong_spec N A l cap s t w_ (hr.up0 hp_) hl hN hok) ?_)
    rintro _ _ ⟨rfl, rfl⟩
    dsimp only [List.cons_append, List.nil_append]
    refine f_stepP rfl rfl rfl (o_assign rfl) ?_
    refine f_done ?_
    refine f_tn (kh7 _ _ ?_)
    clear kh7
    refine f_seq fun K8 kh8 => ?_
    refine f_seq fun K9 kh9 => ?_
    refine f_region ?_
    refine f_stepP rfl rfl rfl (o_move rfl) ?_
    refine f_stepP rfl rfl rfl (o_move rfl) ?_
    refine f_stepP rfl rfl rfl (o_neq rfl rfl) ?_
    refine f_stepP rfl rfl rfl (o_move rfl) ?_
    refine f_falseL 37 rfl (by simp) ?_
    refine f_stepPY rfl rfl rfl rfl rfl (o_loadA (vs := [_, _]) Try.isAgg24 Try.sizeOf24 rfl rfl ⟨(rdA rfl), (rdA rfl), trivial⟩) ?_
    refine f_stepPY rfl rfl rfl rfl rfl (o_loadA (vs := [_, _]) Try.isAgg24 Try.sizeOf24 rfl rfl ⟨(rdA rfl), (rdA rfl), trivial⟩) ?_
    refine f_stepY rfl rfl rfl rfl rfl (o_call Try.call20 rfl (fun w_ hp_ => SameNet_spec N N Am A l l cm cap w_ (seen_ro (hoM.seen hp_)) (hr.up0 hp_) hl) ?_)
    rintro _ _ ⟨rfl, rfl⟩
    rw [decide_eq_true ⟨rfl, rfl⟩]
    dsimp only [List.cons_append, List.nil_append]
    refine f_stepPY rfl rfl rfl rfl rfl (o_not rfl) ?_
    refine f_stepP rfl rfl rfl (o_pickF rfl rfl) ?_
    refine f_stepP rfl rfl rfl (o_move rfl) ?_
    refine f_stepY rfl rfl rfl rfl rfl (o_call Try.call10 rfl (fun w_ hp_ => works6_spec w_) ?_)
    rintro _ _ ⟨rfl, rfl⟩
    dsimp only [List.cons_append, List.nil_append]
    refine f_stepPY rfl rfl rfl rfl rfl (o_not rfl) ?_
    refine f_stepP rfl rfl rfl (o_pickF rfl rfl) ?_
    refine f_done ?_
    refine f_tn (kh9 _ _ ?_)
    clear kh9
    refine f_condF rfl ?_
    refine f_skip ?_
    refine f_tn (kh8 _ _ ?_)
    clear kh8
    refine f_seq fun K10 kh10 => ?_
    refine f_seq fun K11 kh11 => ?_
    refine f_region ?_
    refine f_stepP rfl rfl rfl (o_move rfl) ?_
    refine f_stepP rfl rfl rfl (o_neq rfl rfl) ?_
    refine f_done ?_
    refine f_tn (kh11 _ _ ?_)
    clear kh11
    refine f_cond rfl (fun c48 => ?_) (fun c48 => ?_)
    · skip
      obtain ⟨rfl, rfl⟩ := hx1 c48
      refine f_seq fun K12 kh12 => ?_
      refine f_region ?_
      refine f_stepP rfl rfl rfl (o_move rfl) ?_
      refine f_stepP rfl rfl rfl (o_eql rfl rfl) ?_
      refine f_stepP rfl rfl rfl (o_move rfl) ?_
      refine f_trueL 51 rfl (rfl) ?_
      refine f_stepPY rfl rfl rfl rfl rfl (o_move rfl) ?_
      refine f_stepPY rfl rfl rfl rfl rfl (o_len sl42 rfl) ?_
      refine f_stepPY rfl rfl rfl rfl rfl (o_eql rfl rfl) ?_
      refine f_stepP rfl rfl rfl (o_pickT rfl rfl) ?_
      refine f_stepP rfl rfl rfl (o_assign rfl) ?_
      refine f_done ?_
      refine f_tn (kh12 _ _ ?_)
      clear kh12
      refine f_ret ?_
      refine f_tr ?_
      exact f_fin1 [] Try.results4 rfl Sub.nil ⟨by rw [decide_eq_true (by simp)], rfl⟩
    · skip
      have hz : flooked N l s t = 0 := by simpa using c48
      obtain ⟨hg0, hs0, hs1, ht0, ht1, hst0'⟩ := flooked_zero hz
      have hN1 := ncheck_zero hg0
      obtain ⟨n, rfl⟩ : ∃ n : Nat, N = n := ⟨N.toNat, by omega⟩
      obtain ⟨a, rfl⟩ : ∃ k : Nat, s = k := ⟨s.toNat, by omega⟩
      obtain ⟨b, rfl⟩ : ∃ k : Nat, t = k := ⟨t.toNat, by omega⟩
      have hn := nok_of hg0 hok
      have hn1 := hn.n1
      have hel := hn.len
      have han : a < n := by omega
      have hbn : b < n := by omega
      have hwts : ∀ x ∈ l, 0 ≤ x.wt ∧ x.wt ≤ 4294967295 := fun x hx => (hok x hx).wt
      have hst0 : a ≠ b := by omega
      obtain ⟨hF, ⟨Bq, hA⟩, hV0, hV1⟩ := hx0 hz
      rw [Int.toNat_natCast, Int.toNat_natCast, Int.toNat_natCast] at hF hA
      refine f_skip ?_
      refine f_tn (kh10 _ _ ?_)
      clear kh10
      refine f_seq fun K13 kh13 => ?_
      refine f_region ?_
      refine f_stepP rfl rfl rfl (o_loadA (vs := [_, _]) Try.isAgg24 Try.sizeOf24 rfl rfl ⟨(rdA rfl), (rdA rfl), trivial⟩) ?_
      refine f_stepP rfl rfl rfl (o_move rfl) ?_
      refine f_stepP rfl rfl rfl (o_move rfl) ?_
      refine f_step rfl rfl rfl (o_call Try.call23 rfl (fun w_ hp_ => Most_spec n A l cap a b w_ (hr.up0 hp_) hn han hbn hst0) ?_)
      rintro _ _ ⟨V2, f2, v27, sd, m1, b2, rfl, rfl, hO2, hF2, hA2, _, _, _⟩
      obtain ⟨rfl, _⟩ := Side.same hn.net han hF hF2 hA hA2
      dsimp only [List.cons_append, List.nil_append]
      refine f_stepP rfl rfl rfl (o_move rfl) ?_
      refine f_stepP rfl rfl rfl (o_extract rfl rfl) ?_
      refine f_stepP rfl rfl rfl (o_extract rfl rfl) ?_
      refine f_stepP rfl rfl rfl (o_extract rfl rfl) ?_
      refine f_stepP rfl rfl rfl (o_assign rfl) ?_
      refine f_stepP rfl rfl rfl (o_assign rfl) ?_
      refine f_stepP rfl rfl rfl (o_assign rfl) ?_
      refine f_done ?_
      refine f_tn (kh13 _ _ ?_)
      clear kh13
      refine f_seq fun K14 kh14 => ?_
      refine f_region ?_
      refine f_stepP rfl rfl rfl (o_loadA (vs := [_, _]) Try.isAgg24 Try.sizeOf24 rfl rfl ⟨(rdA rfl), (rdA rfl), trivial⟩) ?_
      refine f_stepP rfl rfl rfl (o_move rfl) ?_
      refine f_stepP rfl rfl rfl (o_move rfl) ?_
      refine f_stepP rfl rfl rfl (o_move rfl) ?_
      refine f_step rfl rfl rfl (o_call Try.call24 rfl (fun w_ hp_ => Value_spec n A l cap a b Af f cf V w_ (hr.up0 hp_) hn han hbn hst0 (seen_ro (hoF.seen hp_)) hF hV0) ?_)
      rintro _ _ ⟨rfl, rfl⟩
      dsimp only [List.cons_append, List.nil_append]
      refine f_stepP rfl rfl rfl (o_move rfl) ?_
      refine f_stepP rfl rfl rfl (o_extract rfl rfl) ?_
      refine f_stepP rfl rfl rfl (o_extract rfl rfl) ?_
      refine f_stepP rfl rfl rfl (o_assign rfl) ?_
      refine f_stepP rfl rfl rfl (o_assign rfl) ?_
      refine f_done ?_
      refine f_tn (kh14 _ _ ?_)
      clear kh14
      refine f_seq fun K15 kh15 => ?_
      refine f_region ?_
      refine f_stepP rfl rfl rfl (o_move rfl) ?_
      refine f_stepP rfl rfl rfl (o_move rfl) ?_
      refine f_stepP rfl rfl rfl (o_eql rfl rfl) ?_
      refine f_stepP rfl rfl rfl (o_move rfl) ?_
      refine f_trueL 75 rfl (rfl) ?_
      refine f_stepPY rfl rfl rfl rfl rfl (o_move rfl) ?_
      refine f_stepP rfl rfl rfl (o_pickT rfl rfl) ?_
      refine f_stepP rfl rfl rfl (o_move rfl) ?_
      refine f_splitLB 78 rfl (fun g78 => ?_) (fun g78 => ?_)
      · skip
        refine f_stepPY rfl rfl rfl rfl rfl (o_move rfl) ?_
        refine f_stepPY rfl rfl rfl rfl rfl (o_move rfl) ?_
        refine f_stepPY rfl rfl rfl rfl rfl (o_eql rfl rfl) ?_
        refine f_stepP rfl rfl rfl (o_pickT rfl rfl) ?_
        refine f_stepP rfl rfl rfl (o_assign rfl) ?_
        refine f_done ?_
        refine f_tn (kh15 _ _ ?_)
        clear kh15
        refine f_ret ?_
        exact f_fin1 [] Try.results4 rfl Sub.nil ⟨by rw [decide_eq_true rfl], rfl⟩
      · skip
        cases g78 -- closed

end Go.Proofs.Ytnagjidfenfdbaa
