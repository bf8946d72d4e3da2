/- flyoverlaw03.works: the chapter's first example answers true. -/
import Derived.Test.YthbkeoejbendnaaFOuts
import Derived.Test.YthbkeoejbendnaaFParts
namespace Go.Proofs.Ythbkeoejbendnaa
open Go Go.RowKit Fly
set_option linter.unusedVariables false
set_option linter.unusedSimpArgs false


/-- The example's arcs. -/
def wArcs : List Arc := [⟨0, 1, 5⟩, ⟨1, 2, 7⟩, ⟨0, 2, 20⟩]
theorem wOk : ∀ x ∈ wArcs, ArcOk x := by
  intro x hx
  simp only [wArcs, List.mem_cons, List.not_mem_nil, or_false] at hx
  rcases hx with rfl | rfl | rfl <;> exact ⟨⟨by decide, by decide⟩, ⟨by decide, by decide⟩, by decide⟩
theorem wCheck : gcheck 3 wArcs = (0, 0) := by decide
theorem wOut : gends 3 wArcs 0 (fun x => decide (x.src = 0)) = [0, 2] := by decide
theorem wLooked : glooked 3 wArcs 0 = 0 := by decide
theorem wParts {p : List Nat} (h : IsParts 3 (ends2 wArcs) p) : p = [0, 0, 0] := by
  have hc : ∀ u v, u < 3 → v < 3 → Conn (ends2 wArcs) u v := by
    have h0 : ∀ v, v < 3 → Conn (ends2 wArcs) 0 v := by
      intro v hv
      have : v = 0 ∨ v = 1 ∨ v = 2 := by omega
      rcases this with rfl | rfl | rfl
      · exact .refl 0
      · exact .edge (.inl (by decide))
      · exact .edge (.inl (by decide))
    exact fun u v hu hv => (h0 u hu).symm.trans (h0 v hv)
  refine h.unique (q := [0, 0, 0]) (es' := ends2 wArcs) ⟨rfl, ?_, ?_⟩ fun u v _ _ => Iff.rfl
  · intro k hk
    have : k = 0 ∨ k = 1 ∨ k = 2 := by simp at hk; omega
    rcases this with rfl | rfl | rfl <;> exact Nat.le_of_ble_eq_true rfl
  · intro u v hu hv
    have hu' : u = 0 ∨ u = 1 ∨ u = 2 := by simp at hu; omega
    have hv' : v = 0 ∨ v = 1 ∨ v = 2 := by simp at hv; omega
    refine ⟨fun _ => hc u v (by simpa using hu) (by simpa using hv), fun _ => ?_⟩
    rcases hu' with rfl | rfl | rfl <;> rcases hv' with rfl | rfl | rfl <;> rfl
theorem bad1 : gcheck 1 [⟨0, 1, 0⟩] = (0, 30) := by decide

set_option maxRecDepth 100000 in
set_option maxHeartbeats 4000000 in
theorem works_spec (w : World) : Meets Try.prog 9 [] w [] (fun u m => u = .bool true ∧ m = []) := by
  refine f_enter Try.func9 rfl Try.ntmps9 rfl Owns.nil ?_
  refine f_seq fun K1 kh1 => ?_
  refine f_region ?_
  refine f_stepP rfl rfl rfl (o_assign rfl) ?_
  refine f_done ?_
  refine f_tn (kh1 _ _ ?_)
  clear kh1
  refine f_seq fun K2 kh2 => ?_
  refine f_region ?_
  refine f_stepP rfl rfl rfl (o_build st34 rfl rfl) ?_
  refine f_stepP rfl rfl rfl (o_build st34 rfl rfl) ?_
  refine f_stepP rfl rfl rfl (o_build st34 rfl rfl) ?_
  refine f_step rfl rfl rfl (o_sliceN (len := 3) el22 (by omega) rfl rfl fun b11 => ?_)
  refine f_stepP rfl rfl rfl (o_build st24 rfl rfl) ?_
  refine f_step rfl rfl rfl (o_alloc Try.zeroValue24 rfl fun b1 => ?_)
  refine f_step0 rfl rfl (o_storeA Try.sizeOf24 rfl rfl rfl rfl (by first | exact Nat.le_of_ble_eq_true rfl | (simp; done) | (simp; omega)) _ rfl ?_)
  refine f_done ?_
  refine f_tn (kh2 _ _ ?_)
  clear kh2
  refine f_seq fun K3 kh3 => ?_
  refine f_region ?_
  refine f_stepP rfl rfl rfl (o_loadA (vs := [_, _]) Try.isAgg24 Try.sizeOf24 rfl rfl ⟨(rdA rfl), (rdA rfl), trivial⟩) ?_
  refine f_step rfl rfl rfl (o_call Try.call11 rfl (fun w_ hp_ => Out_spec 3 (some ⟨b11, 0, none⟩) wArcs 3 0 w_ (roOwn (b := b11) hp_ (cs := wArcs.flatMap arcCs) (fun j v hj => hj)) (by decide) (by decide) wOk) ?_)
  rintro _ _ ⟨s, ms, rfl, rfl, hown⟩
  rw [wOut] at hown
  obtain ⟨bo, co, so, rfl, rfl⟩ := hown.block (by decide)
  rw [wLooked]
  dsimp only [List.cons_append, List.nil_append]
  refine f_stepP rfl rfl rfl (o_move rfl) ?_
  refine f_stepP rfl rfl rfl (o_extract rfl rfl) ?_
  refine f_stepP rfl rfl rfl (o_extract rfl rfl) ?_
  refine f_stepP rfl rfl rfl (o_assign rfl) ?_
  refine f_stepP rfl rfl rfl (o_assign rfl) ?_
  refine f_done ?_
  refine f_tn (kh3 _ _ ?_)
  clear kh3
  refine f_seq fun K4 kh4 => ?_
  refine f_region ?_
  refine f_stepP rfl rfl rfl (o_loadA (vs := [_, _]) Try.isAgg24 Try.sizeOf24 rfl rfl ⟨(rdA rfl), (rdA rfl), trivial⟩) ?_
  refine f_step rfl rfl rfl (o_call Try.call14 rfl (fun w_ hp_ => Parts_spec 3 (some ⟨b11, 0, none⟩) wArcs 3 w_ (roOwn (b := b11) hp_ (cs := wArcs.flatMap arcCs) (fun j v hj => hj)) (by decide) (by decide) wOk) ?_)
  rintro _ _ hP
  rw [if_pos (by rw [wCheck])] at hP
  obtain ⟨p, bp, rfl, rfl, hp⟩ := hP
  obtain rfl := wParts hp
  dsimp only [List.cons_append, List.nil_append]
  refine f_stepP rfl rfl rfl (o_move rfl) ?_
  refine f_stepP rfl rfl rfl (o_extract rfl rfl) ?_
  refine f_stepP rfl rfl rfl (o_extract rfl rfl) ?_
  refine f_stepP rfl rfl rfl (o_assign rfl) ?_
  refine f_stepP rfl rfl rfl (o_assign rfl) ?_
  refine f_done ?_
  refine f_tn (kh4 _ _ ?_)
  clear kh4
  refine f_seq fun K5 kh5 => ?_
  refine f_region ?_
  refine f_stepP rfl rfl rfl (o_build (cs := arcCs ⟨0, 1, 0⟩) st34 rfl rfl) ?_
  refine f_step rfl rfl rfl (o_slice1 el22 (by omega) rfl rfl rfl fun b25 => ?_)
  refine f_stepP rfl rfl rfl (o_build st24 rfl rfl) ?_
  refine f_step rfl rfl rfl (o_call Try.call10 rfl (fun w_ hp_ => Check_spec 1 (some ⟨b25, 0, none⟩) [⟨0, 1, 0⟩] 1 w_ (roOwn (b := b25) hp_ (cs := ([⟨0, 1, 0⟩] : List Arc).flatMap arcCs) (fun j v hj => hj)) (by decide) (by decide) (by intro x hx; simp at hx; subst hx; exact ⟨⟨by decide, by decide⟩, ⟨by decide, by decide⟩, by decide⟩)) ?_)
  rintro _ _ ⟨rfl, rfl⟩
  rw [bad1]
  dsimp only [List.cons_append, List.nil_append]
  refine f_stepP rfl rfl rfl (o_move rfl) ?_
  refine f_stepP rfl rfl rfl (o_extract rfl rfl) ?_
  refine f_stepP rfl rfl rfl (o_extract rfl rfl) ?_
  refine f_stepP rfl rfl rfl (o_assign rfl) ?_
  refine f_stepP rfl rfl rfl (o_assign rfl) ?_
  refine f_done ?_
  refine f_tn (kh5 _ _ ?_)
  clear kh5
  refine f_seq fun K6 kh6 => ?_
  refine f_region ?_
  refine f_stepP rfl rfl rfl (o_move rfl) ?_
  refine f_stepP rfl rfl rfl (o_eql rfl rfl) ?_
  refine f_stepP rfl rfl rfl (o_move rfl) ?_
  refine f_trueL 32 rfl (rfl) ?_
  refine f_stepPY rfl rfl rfl rfl rfl (o_move rfl) ?_
  refine f_stepPY rfl rfl rfl rfl rfl (o_len sl29 rfl) ?_
  refine f_stepPY rfl rfl rfl rfl rfl (o_eql rfl rfl) ?_
  refine f_stepP rfl rfl rfl (o_pickT rfl rfl) ?_
  refine f_stepP rfl rfl rfl (o_move rfl) ?_
  refine f_trueL 37 rfl (rfl) ?_
  refine f_stepPY rfl rfl rfl rfl rfl (o_move rfl) ?_
  refine f_stepPY rfl rfl rfl rfl rfl (o_idx sl29 rfl rfl _ ⟨by decide, by decide, rfl⟩) ?_
  refine f_stepPY rfl rfl rfl rfl rfl (o_load Try.isAgg3 rfl (rdA rfl)) ?_
  refine f_stepPY rfl rfl rfl rfl rfl (o_eql rfl rfl) ?_
  refine f_stepP rfl rfl rfl (o_pickT rfl rfl) ?_
  refine f_stepP rfl rfl rfl (o_move rfl) ?_
  refine f_trueL 43 rfl (rfl) ?_
  refine f_stepPY rfl rfl rfl rfl rfl (o_move rfl) ?_
  refine f_stepPY rfl rfl rfl rfl rfl (o_idx sl29 rfl rfl _ ⟨by decide, by decide, rfl⟩) ?_
  refine f_stepPY rfl rfl rfl rfl rfl (o_load Try.isAgg3 rfl (rdA rfl)) ?_
  refine f_stepPY rfl rfl rfl rfl rfl (o_eql rfl rfl) ?_
  refine f_stepP rfl rfl rfl (o_pickT rfl rfl) ?_
  refine f_stepP rfl rfl rfl (o_move rfl) ?_
  refine f_trueL 49 rfl (rfl) ?_
  refine f_stepPY rfl rfl rfl rfl rfl (o_move rfl) ?_
  refine f_stepPY rfl rfl rfl rfl rfl (o_eql rfl rfl) ?_
  refine f_stepP rfl rfl rfl (o_pickT rfl rfl) ?_
  refine f_stepP rfl rfl rfl (o_move rfl) ?_
  refine f_trueL 53 rfl (rfl) ?_
  refine f_stepPY rfl rfl rfl rfl rfl (o_move rfl) ?_
  refine f_stepPY rfl rfl rfl rfl rfl (o_len sl29 rfl) ?_
  refine f_stepPY rfl rfl rfl rfl rfl (o_eql rfl rfl) ?_
  refine f_stepP rfl rfl rfl (o_pickT rfl rfl) ?_
  refine f_stepP rfl rfl rfl (o_move rfl) ?_
  refine f_trueL 58 rfl (rfl) ?_
  refine f_stepPY rfl rfl rfl rfl rfl (o_move rfl) ?_
  refine f_stepPY rfl rfl rfl rfl rfl (o_idx sl29 rfl rfl _ ⟨by decide, by decide, rfl⟩) ?_
  refine f_stepPY rfl rfl rfl rfl rfl (o_load Try.isAgg3 rfl (rdA rfl)) ?_
  refine f_stepPY rfl rfl rfl rfl rfl (o_eql rfl rfl) ?_
  refine f_stepP rfl rfl rfl (o_pickT rfl rfl) ?_
  refine f_stepP rfl rfl rfl (o_move rfl) ?_
  refine f_trueL 64 rfl (rfl) ?_
  refine f_stepPY rfl rfl rfl rfl rfl (o_move rfl) ?_
  refine f_stepPY rfl rfl rfl rfl rfl (o_eql rfl rfl) ?_
  refine f_stepP rfl rfl rfl (o_pickT rfl rfl) ?_
  refine f_stepP rfl rfl rfl (o_assign rfl) ?_
  refine f_done ?_
  refine f_tn (kh6 _ _ ?_)
  clear kh6
  refine f_ret ?_
  exact f_fin1 [] Try.results9 rfl Sub.nil ⟨rfl, rfl⟩

end Go.Proofs.Ythbkeoejbendnaa
