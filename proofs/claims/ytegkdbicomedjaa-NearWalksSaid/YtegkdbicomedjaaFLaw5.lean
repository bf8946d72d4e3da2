/- flyoverlaw05: works, NearTight, NearSame. -/
import Derived.Test.YtegkdbicomedjaaFWalk
namespace Go.Proofs.Ytegkdbicomedjaa
open Go Go.RowKit Fly
set_option linter.unusedVariables false
set_option linter.unusedSimpArgs false


def wA : List Arc := [⟨0, 1, 5⟩, ⟨1, 2, 7⟩, ⟨0, 2, 20⟩]
theorem wOk : ∀ x ∈ wA, ArcOk x := by
  intro x hx
  simp only [wA, List.mem_cons, List.not_mem_nil, or_false] at hx
  rcases hx with rfl | rfl | rfl <;> exact ⟨⟨by decide, by decide⟩, ⟨by decide, by decide⟩, by decide⟩
theorem w0 : nlooked 3 wA [0] = 0 := by decide
theorem w02 : nlooked 3 wA [0, 2] = 0 := by decide
theorem w20 : nlooked 3 wA [2, 0] = 0 := by decide
abbrev wE : List Arc := wA.map (trn false)
theorem wD0 : IsD 3 wE every 0 [0, 5, 12] where
  len := rfl
  rng := by decide
  zero := by decide
  arcs := by decide
  walk := fun v hv hlt => by
    have h1 : Wk wE every 0 1 5 := Wk.step (e := wE) (i := 0) (by decide) rfl .nil
    have h2 : Wk wE every 0 2 12 := Wk.step (e := wE) (i := 1) (by decide) rfl h1
    have : v = 0 ∨ v = 1 ∨ v = 2 := by omega
    rcases this with rfl | rfl | rfl
    · exact .nil
    · exact h1
    · exact h2
theorem wD2 : IsD 3 wE every 2 [INF, INF, 0] where
  len := rfl
  rng := by decide
  zero := by decide
  arcs := by decide
  walk := fun v hv hlt => by
    have : v = 0 ∨ v = 1 ∨ v = 2 := by omega
    rcases this with rfl | rfl | rfl
    · exact absurd hlt (by decide)
    · exact absurd hlt (by decide)
    · exact .nil
theorem wW {W : List Nat} (h : Told wE 0 2 W 12) : W = [0, 1] := by
  have hs := h.sum
  have hc := h.chain
  match W, hc, hs with
  | [], hc, _ => exact absurd hc (by show ¬ (0 = 2); decide)
  | i :: r, ⟨hi, h1, hc⟩, hs =>
    have hi3 : i = 0 ∨ i = 1 ∨ i = 2 := by have : i < 3 := hi; omega
    rcases hi3 with rfl | rfl | rfl
    · match r, hc, hs with
      | [], hc, _ => exact absurd hc (by show ¬ (1 = 2); decide)
      | j :: r, ⟨hj, h2, hc⟩, hs =>
        have hj3 : j = 0 ∨ j = 1 ∨ j = 2 := by have : j < 3 := hj; omega
        rcases hj3 with rfl | rfl | rfl
        · exact absurd h2 (by simp [wA, trn])
        · match r, hc with
          | [], _ => rfl
          | k :: r, ⟨hk, h3, _⟩ =>
            have hk3 : k = 0 ∨ k = 1 ∨ k = 2 := by have : k < 3 := hk; omega
            rcases hk3 with rfl | rfl | rfl <;> exact absurd h3 (by simp [wA, trn])
        · exact absurd h2 (by simp [wA, trn])
    · exact absurd h1 (by simp [wA, trn])
    · match r, hc, hs with
      | [], _, hs => exact absurd hs (by decide)
      | j :: r, ⟨hj, h2, hc⟩, hs =>
        have hj3 : j = 0 ∨ j = 1 ∨ j = 2 := by have : j < 3 := hj; omega
        rcases hj3 with rfl | rfl | rfl <;> exact absurd h2 (by simp [wA, trn])

set_option maxRecDepth 100000 in
set_option maxHeartbeats 4000000 in
theorem works_spec (w : World) : Meets Try.prog 11 [] w [] (fun u m => u = .bool true ∧ m = []) := by
  refine f_enter Try.func11 rfl Try.ntmps11 rfl Owns.nil ?_
  refine f_seq fun K1 kh1 => ?_
  refine f_region ?_
  refine f_stepP rfl rfl rfl (o_assign rfl) ?_
  refine f_done ?_
  refine f_tn (kh1 _ _ ?_)
  clear kh1
  refine f_seq fun K2 kh2 => ?_
  refine f_region ?_
  refine f_stepP rfl rfl rfl (o_build st44 rfl rfl) ?_
  refine f_stepP rfl rfl rfl (o_build st44 rfl rfl) ?_
  refine f_stepP rfl rfl rfl (o_build st44 rfl rfl) ?_
  refine f_step rfl rfl rfl (o_sliceN (len := 3) el22 (by omega) rfl rfl fun b12 => ?_)
  refine f_stepP rfl rfl rfl (o_build st24 rfl rfl) ?_
  refine f_step rfl rfl rfl (o_alloc Try.zeroValue24 rfl fun b1 => ?_)
  refine f_step0 rfl rfl (o_storeA Try.sizeOf24 rfl rfl rfl rfl (by first | exact Nat.le_of_ble_eq_true rfl | (simp; done) | (simp; omega)) _ rfl ?_)
  refine f_done ?_
  refine f_tn (kh2 _ _ ?_)
  clear kh2
  refine f_seq fun K3 kh3 => ?_
  refine f_region ?_
  refine f_stepP rfl rfl rfl (o_loadA (vs := [_, _]) Try.isAgg24 Try.sizeOf24 rfl rfl ⟨(rdA rfl), (rdA rfl), trivial⟩) ?_
  refine f_step rfl rfl rfl (o_call Try.call17 rfl (fun w_ hp_ => From_spec 3 (some ⟨b12, 0, none⟩) wA 3 0 w_ (roOwn (b := b12) hp_ (cs := wA.flatMap arcCs) (fun j v hj => hj)) (by decide) (by decide) wOk) ?_)
  rintro _ _ ⟨v2, m2, D, rfl, rfl, hoD, _, hD⟩
  rw [w0] at hD ⊢
  obtain rfl := (hD rfl).1.unique wD0
  obtain ⟨bD, cD, sD, rfl, rfl⟩ := hoD.block (by decide)
  dsimp only [List.cons_append, List.nil_append]
  refine f_stepP rfl rfl rfl (o_move rfl) ?_
  refine f_stepP rfl rfl rfl (o_extract rfl rfl) ?_
  refine f_stepP rfl rfl rfl (o_extract rfl rfl) ?_
  refine f_stepP rfl rfl rfl (o_assign rfl) ?_
  refine f_stepP rfl rfl rfl (o_assign rfl) ?_
  refine f_done ?_
  refine f_tn (kh3 _ _ ?_)
  clear kh3
  refine f_seq fun K4 kh4 => ?_
  refine f_region ?_
  refine f_stepP rfl rfl rfl (o_loadA (vs := [_, _]) Try.isAgg24 Try.sizeOf24 rfl rfl ⟨(rdA rfl), (rdA rfl), trivial⟩) ?_
  refine f_step rfl rfl rfl (o_call Try.call13 rfl (fun w_ hp_ => Walk_spec 3 (some ⟨b12, 0, none⟩) wA 3 0 2 w_ (roOwn (b := b12) hp_ (cs := wA.flatMap arcCs) (fun j v hj => hj)) (by decide) (by decide) wOk) ?_)
  rintro _ _ ⟨v4, m4, W, x, rfl, rfl, hoW, _, hW⟩
  rw [w02] at hW ⊢
  obtain ⟨_, hxB, _, hxT, _⟩ := hW rfl
  obtain rfl : x = 12 := hxB.unique (wD0.isB (t := 2) (by decide))
  obtain rfl := wW (hxT (by decide))
  obtain ⟨bW, cW, sW, rfl, rfl⟩ := hoW.block (by decide)
  dsimp only [List.cons_append, List.nil_append]
  refine f_stepP rfl rfl rfl (o_move rfl) ?_
  refine f_stepP rfl rfl rfl (o_extract rfl rfl) ?_
  refine f_stepP rfl rfl rfl (o_extract rfl rfl) ?_
  refine f_stepP rfl rfl rfl (o_extract rfl rfl) ?_
  refine f_stepP rfl rfl rfl (o_assign rfl) ?_
  refine f_stepP rfl rfl rfl (o_assign rfl) ?_
  refine f_stepP rfl rfl rfl (o_assign rfl) ?_
  refine f_done ?_
  refine f_tn (kh4 _ _ ?_)
  clear kh4
  refine f_seq fun K5 kh5 => ?_
  refine f_region ?_
  refine f_stepP rfl rfl rfl (o_loadA (vs := [_, _]) Try.isAgg24 Try.sizeOf24 rfl rfl ⟨(rdA rfl), (rdA rfl), trivial⟩) ?_
  refine f_step rfl rfl rfl (o_call Try.call19 rfl (fun w_ hp_ => Between_spec 3 (some ⟨b12, 0, none⟩) wA 3 2 0 w_ (roOwn (b := b12) hp_ (cs := wA.flatMap arcCs) (fun j v hj => hj)) (by decide) (by decide) wOk) ?_)
  rintro _ _ ⟨y, rfl, rfl, _, hy⟩
  rw [w20] at hy ⊢
  obtain rfl : y = INF := (hy rfl).2.unique (wD2.isB (t := 0) (by decide))
  dsimp only [List.cons_append, List.nil_append]
  refine f_stepP rfl rfl rfl (o_move rfl) ?_
  refine f_stepP rfl rfl rfl (o_extract rfl rfl) ?_
  refine f_stepP rfl rfl rfl (o_extract rfl rfl) ?_
  refine f_stepP rfl rfl rfl (o_assign rfl) ?_
  refine f_stepP rfl rfl rfl (o_assign rfl) ?_
  refine f_done ?_
  refine f_tn (kh5 _ _ ?_)
  clear kh5
  refine f_seq fun K6 kh6 => ?_
  refine f_region ?_
  refine f_stepP rfl rfl rfl (o_move rfl) ?_
  refine f_stepP rfl rfl rfl (o_eql rfl rfl) ?_
  refine f_stepP rfl rfl rfl (o_move rfl) ?_
  refine f_trueL 32 rfl (rfl) ?_
  refine f_stepPY rfl rfl rfl rfl rfl (o_move rfl) ?_
  refine f_stepPY rfl rfl rfl rfl rfl (o_len sl38 rfl) ?_
  refine f_stepPY rfl rfl rfl rfl rfl (o_eql rfl rfl) ?_
  refine f_stepP rfl rfl rfl (o_pickT rfl rfl) ?_
  refine f_stepP rfl rfl rfl (o_move rfl) ?_
  refine f_trueL 37 rfl (rfl) ?_
  refine f_stepPY rfl rfl rfl rfl rfl (o_move rfl) ?_
  refine f_stepPY rfl rfl rfl rfl rfl (o_idx sl38 rfl rfl _ ⟨by decide, by decide, rfl⟩) ?_
  refine f_stepPY rfl rfl rfl rfl rfl (o_load Try.isAgg30 rfl (rdA rfl)) ?_
  refine f_stepPY rfl rfl rfl rfl rfl (o_eql rfl rfl) ?_
  refine f_stepP rfl rfl rfl (o_pickT rfl rfl) ?_
  refine f_stepP rfl rfl rfl (o_move rfl) ?_
  refine f_trueL 43 rfl (rfl) ?_
  refine f_stepPY rfl rfl rfl rfl rfl (o_move rfl) ?_
  refine f_stepPY rfl rfl rfl rfl rfl (o_eql rfl rfl) ?_
  refine f_stepP rfl rfl rfl (o_pickT rfl rfl) ?_
  refine f_stepP rfl rfl rfl (o_move rfl) ?_
  refine f_trueL 47 rfl (rfl) ?_
  refine f_stepPY rfl rfl rfl rfl rfl (o_move rfl) ?_
  refine f_stepPY rfl rfl rfl rfl rfl (o_len sl28 rfl) ?_
  refine f_stepPY rfl rfl rfl rfl rfl (o_eql rfl rfl) ?_
  refine f_stepP rfl rfl rfl (o_pickT rfl rfl) ?_
  refine f_stepP rfl rfl rfl (o_move rfl) ?_
  refine f_trueL 52 rfl (rfl) ?_
  refine f_stepPY rfl rfl rfl rfl rfl (o_move rfl) ?_
  refine f_stepPY rfl rfl rfl rfl rfl (o_idx sl28 rfl rfl _ ⟨by decide, by decide, rfl⟩) ?_
  refine f_stepPY rfl rfl rfl rfl rfl (o_load Try.isAgg3 rfl (rdA rfl)) ?_
  refine f_stepPY rfl rfl rfl rfl rfl (o_eql rfl rfl) ?_
  refine f_stepP rfl rfl rfl (o_pickT rfl rfl) ?_
  refine f_stepP rfl rfl rfl (o_move rfl) ?_
  refine f_trueL 58 rfl (rfl) ?_
  refine f_stepPY rfl rfl rfl rfl rfl (o_move rfl) ?_
  refine f_stepPY rfl rfl rfl rfl rfl (o_eql rfl rfl) ?_
  refine f_stepP rfl rfl rfl (o_pickT rfl rfl) ?_
  refine f_stepP rfl rfl rfl (o_move rfl) ?_
  refine f_trueL 62 rfl (rfl) ?_
  refine f_stepPY rfl rfl rfl rfl rfl (o_move rfl) ?_
  refine f_stepPY rfl rfl rfl rfl rfl (o_eql rfl rfl) ?_
  refine f_stepP rfl rfl rfl (o_pickT rfl rfl) ?_
  refine f_stepP rfl rfl rfl (o_move rfl) ?_
  refine f_trueL 66 rfl (rfl) ?_
  refine f_stepPY rfl rfl rfl rfl rfl (o_move rfl) ?_
  refine f_stepPY rfl rfl rfl rfl rfl (o_eql rfl rfl) ?_
  refine f_stepP rfl rfl rfl (o_pickT rfl rfl) ?_
  refine f_stepP rfl rfl rfl (o_assign rfl) ?_
  refine f_done ?_
  refine f_tn (kh6 _ _ ?_)
  clear kh6
  refine f_ret ?_
  exact f_fin1 [] Try.results11 rfl Sub.nil ⟨rfl, rfl⟩

end Go.Proofs.Ytegkdbicomedjaa
