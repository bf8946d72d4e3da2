/- graph.Out, graph.In: the arcs out of a vertex, and into it. -/
import Derived.Test.YthbkeoejbendnaaFGraph
import Derived.Test.YthbkeoejbendnaaPParts
namespace Go.Proofs.Ythbkeoejbendnaa
open Go Go.RowKit Fly
set_option linter.unusedVariables false
set_option linter.unusedSimpArgs false


/-- The answer of Out and In. -/
def gends (N : Int) (l : List Arc) (v : Int) (p : Arc → Bool) : List Int := if glooked N l v = 0 then idxs p l else []
def OutΦ (N : Int) (l : List Arc) (v : Int) (p : Arc → Bool) (u : Value) (own : List Seg) : Prop :=
  ∃ s ms, u = .tuple #[s, .int .i64 (glooked N l v)] ∧ own = [ms] ∧ Own 3 1 s (gends N l v p).length (ints (gends N l v p)) ms
theorem glooked_zero {N : Int} {l : List Arc} {v : Int} (h : glooked N l v = 0) : (gcheck N l).2 = 0 ∧ 0 ≤ v ∧ v < N := by
  unfold glooked at h
  split at h
  · rename_i h1; exact absurd h h1
  · split at h
    · simp at h
    · rename_i h1 h2; exact ⟨by simpa using h1, by omega, by omega⟩

set_option maxRecDepth 100000 in
set_option maxHeartbeats 4000000 in
theorem ends_spec (N : Int) (A : Option Addr) (l : List Arc) (cap : Nat) (fi : FuncId) (capi : List Value) (p : Arc → Bool) (w : World) (hr : Ro (Fr w []) w A (l.flatMap arcCs)) (hl : l.length ≤ 8192)
    (hci : ∀ args w, (callFunc fi args).run Try.prog w = .ok (.enter fi args) w)
    (his : ∀ w', (∀ k, Fr w [] k → w'.heap[k]? = w.heap[k]?) → ∀ x, Meets Try.prog fi ([.agg (arcCs x).toArray] ++ capi) w' [] (fun u m => u = .bool (p x) ∧ m = [])) :
    Meets Try.prog 30 [.agg #[.int .i64 N, .slice A l.length cap], .func (.func fi) #[] capi.toArray] w [] (fun u own' => ∃ ms, own' = [ms] ∧ Own 3 1 u (idxs p l).length (ints (idxs p l)) ms) := by
  refine f_enter Try.func30 rfl Try.ntmps30 rfl Owns.nil ?_
  refine f_seq fun K1 kh1 => ?_
  refine f_region ?_
  refine f_step rfl rfl rfl (o_box rfl rfl fun b2 => ?_)
  refine f_stepP rfl rfl rfl (o_assign rfl) ?_
  refine f_done ?_
  refine f_tn (kh1 _ _ ?_)
  clear kh1
  refine f_seq fun K2 kh2 => ?_
  refine f_region ?_
  refine f_stepP rfl rfl rfl (o_build st72 rfl rfl) ?_
  refine f_step rfl rfl rfl (o_box rfl rfl fun b8 => ?_)
  refine f_stepP rfl rfl rfl (o_assign rfl) ?_
  refine f_done ?_
  refine f_tn (kh2 _ _ ?_)
  clear kh2
  refine f_seq fun K3 kh3 => ?_
  refine f_region ?_
  refine f_stepP rfl rfl rfl (o_move rfl) ?_
  refine f_stepP rfl rfl rfl (o_func rfl rfl) ?_
  refine f_stepP rfl rfl rfl (o_assign rfl) ?_
  refine f_done ?_
  refine f_tn (kh3 _ _ ?_)
  clear kh3
  refine f_seq fun K4 kh4 => ?_
  refine f_region ?_
  refine f_stepP rfl rfl rfl (o_loadA (vs := [_, _]) Try.isAgg24 Try.sizeOf24 rfl rfl ⟨(rdA rfl), (rdA rfl), trivial⟩) ?_
  refine f_stepP rfl rfl rfl (o_move rfl) ?_
  refine f_stepP rfl rfl rfl (o_move rfl) ?_
  refine f_step rfl rfl rfl (o_callM [[(b8, blk [.slice none 0 0] 72)], []] _ Try.call45 rfl (Sub.pick Sub.addNil) (fun w_ hp_ => each_spec N A l cap fi capi p b8 72 (.slice none 0 0) [] [] w_ hp_.owns (hr.up hp_) hl (Own.nil _ _) (by simp) hci (fun w' hs x => his w' (hp_.chain hs) x)) ?_)
  rintro _ _ ⟨rfl, s, ms, rfl, hown⟩
  rw [List.nil_append] at hown
  dsimp only [List.cons_append, List.nil_append]
  refine f_done ?_
  refine f_tn (kh4 _ _ ?_)
  clear kh4
  refine f_seq fun K5 kh5 => ?_
  refine f_region ?_
  refine f_stepP rfl rfl rfl (o_move rfl) ?_
  refine f_stepP rfl rfl rfl (o_nil rfl) ?_
  refine f_stepP rfl rfl rfl (o_field fa72_0 rfl) ?_
  refine f_stepP rfl rfl rfl (o_load Try.isAgg29 rfl (rdA rfl)) ?_
  refine f_stepP rfl rfl rfl (o_assign rfl) ?_
  refine f_done ?_
  refine f_tn (kh5 _ _ ?_)
  clear kh5
  refine f_ret ?_
  exact f_fin1 [ms] Try.results30 rfl (by repeat (first | exact Sub.nil | refine Sub.pick ?_)) ⟨ms, rfl, hown⟩

set_option maxRecDepth 100000 in
set_option maxHeartbeats 4000000 in
theorem Out_spec (N : Int) (A : Option Addr) (l : List Arc) (cap : Nat) (v : Int) (w : World) (hr : Ro (Fr w []) w A (l.flatMap arcCs)) (hl : l.length ≤ 9223372036854775807) (hN : I64 N) (hok : ∀ x ∈ l, ArcOk x) :
    Meets Try.prog 11 [.agg #[.int .i64 N, .slice A l.length cap], .int .i64 v] w [] (OutΦ N l v fun x => decide (x.src = v)) := by
  refine f_enter Try.func11 rfl Try.ntmps11 rfl Owns.nil ?_
  refine f_seq fun K1 kh1 => ?_
  refine f_region ?_
  refine f_step rfl rfl rfl (o_box rfl rfl fun b2 => ?_)
  refine f_step rfl rfl rfl (o_box rfl rfl fun b3 => ?_)
  refine f_stepP rfl rfl rfl (o_assign rfl) ?_
  refine f_stepP rfl rfl rfl (o_assign rfl) ?_
  refine f_done ?_
  refine f_tn (kh1 _ _ ?_)
  clear kh1
  refine f_seq fun K2 kh2 => ?_
  refine f_seq fun K3 kh3 => ?_
  refine f_region ?_
  refine f_stepP rfl rfl rfl (o_loadA (vs := [_, _]) Try.isAgg24 Try.sizeOf24 rfl rfl ⟨(rdA rfl), (rdA rfl), trivial⟩) ?_
  refine f_stepP rfl rfl rfl (o_load Try.isAgg3 rfl (rdA rfl)) ?_
  refine f_step rfl rfl rfl (o_call Try.call29 rfl (fun w_ hp_ => looked_spec N A l cap v w_ (hr.up0 hp_) hl hN hok) ?_)
  rintro _ _ ⟨rfl, rfl⟩
  dsimp only [List.cons_append, List.nil_append]
  refine f_stepP rfl rfl rfl (o_assign rfl) ?_
  refine f_done ?_
  refine f_tn (kh3 _ _ ?_)
  clear kh3
  refine f_seq fun K4 kh4 => ?_
  refine f_region ?_
  refine f_stepP rfl rfl rfl (o_move rfl) ?_
  refine f_stepP rfl rfl rfl (o_neq rfl rfl) ?_
  refine f_done ?_
  refine f_tn (kh4 _ _ ?_)
  clear kh4
  refine f_cond rfl (fun c11 => ?_) (fun c11 => ?_)
  · skip
    refine f_seq fun K5 kh5 => ?_
    refine f_region ?_
    refine f_stepP rfl rfl rfl (o_move rfl) ?_
    refine f_stepP rfl rfl rfl (o_assign rfl) ?_
    refine f_stepP rfl rfl rfl (o_assign rfl) ?_
    refine f_done ?_
    refine f_tn (kh5 _ _ ?_)
    clear kh5
    refine f_ret ?_
    refine f_tr ?_
    exact f_fin2 [[]] Try.results11 rfl rfl Sub.empty ⟨_, _, rfl, rfl, by rw [gends, if_neg (by simpa using c11)]; exact Own.nil _ _⟩
  · skip
    have hz : glooked N l v = 0 := by simpa using c11
    refine f_skip ?_
    refine f_tn (kh2 _ _ ?_)
    clear kh2
    refine f_seq fun K6 kh6 => ?_
    refine f_region ?_
    refine f_stepP rfl rfl rfl (o_loadA (vs := [_, _]) Try.isAgg24 Try.sizeOf24 rfl rfl ⟨(rdA rfl), (rdA rfl), trivial⟩) ?_
    refine f_stepP rfl rfl rfl (o_func rfl rfl) ?_
    refine f_step rfl rfl rfl (o_call Try.call30 rfl (fun w_ hp_ => ends_spec N A l cap 31 [.pointer (some ⟨b3, 0, none⟩)] (fun x => decide (x.src = v)) w_ (hr.up0 hp_) (gcheck_zero (glooked_zero hz).1).2.2.1 Try.call31 (fun w' hs x => have h := heldCell (b := b3) (i := 0) hp_ rfl hs; Out1_spec x b3 v w' h.1 h.2)) ?_)
    rintro s _ ⟨ms, rfl, hown⟩
    dsimp only [List.cons_append, List.nil_append]
    refine f_stepP rfl rfl rfl (o_assign rfl) ?_
    refine f_stepP rfl rfl rfl (o_assign rfl) ?_
    refine f_done ?_
    refine f_tn (kh6 _ _ ?_)
    clear kh6
    refine f_ret ?_
    exact f_fin2 [ms] Try.results11 rfl rfl (by repeat (first | exact Sub.nil | refine Sub.pick ?_)) ⟨_, _, by rw [hz], rfl, by rw [gends, if_pos hz]; exact hown⟩

set_option maxRecDepth 100000 in
set_option maxHeartbeats 4000000 in
theorem In_spec (N : Int) (A : Option Addr) (l : List Arc) (cap : Nat) (v : Int) (w : World) (hr : Ro (Fr w []) w A (l.flatMap arcCs)) (hl : l.length ≤ 9223372036854775807) (hN : I64 N) (hok : ∀ x ∈ l, ArcOk x) :
    Meets Try.prog 12 [.agg #[.int .i64 N, .slice A l.length cap], .int .i64 v] w [] (OutΦ N l v fun x => decide (x.dst = v)) := by
  refine f_enter Try.func12 rfl Try.ntmps12 rfl Owns.nil ?_
  refine f_seq fun K1 kh1 => ?_
  refine f_region ?_
  refine f_step rfl rfl rfl (o_box rfl rfl fun b2 => ?_)
  refine f_step rfl rfl rfl (o_box rfl rfl fun b3 => ?_)
  refine f_stepP rfl rfl rfl (o_assign rfl) ?_
  refine f_stepP rfl rfl rfl (o_assign rfl) ?_
  refine f_done ?_
  refine f_tn (kh1 _ _ ?_)
  clear kh1
  refine f_seq fun K2 kh2 => ?_
  refine f_seq fun K3 kh3 => ?_
  refine f_region ?_
  refine f_stepP rfl rfl rfl (o_loadA (vs := [_, _]) Try.isAgg24 Try.sizeOf24 rfl rfl ⟨(rdA rfl), (rdA rfl), trivial⟩) ?_
  refine f_stepP rfl rfl rfl (o_load Try.isAgg3 rfl (rdA rfl)) ?_
  refine f_step rfl rfl rfl (o_call Try.call29 rfl (fun w_ hp_ => looked_spec N A l cap v w_ (hr.up0 hp_) hl hN hok) ?_)
  rintro _ _ ⟨rfl, rfl⟩
  dsimp only [List.cons_append, List.nil_append]
  refine f_stepP rfl rfl rfl (o_assign rfl) ?_
  refine f_done ?_
  refine f_tn (kh3 _ _ ?_)
  clear kh3
  refine f_seq fun K4 kh4 => ?_
  refine f_region ?_
  refine f_stepP rfl rfl rfl (o_move rfl) ?_
  refine f_stepP rfl rfl rfl (o_neq rfl rfl) ?_
  refine f_done ?_
  refine f_tn (kh4 _ _ ?_)
  clear kh4
  refine f_cond rfl (fun c11 => ?_) (fun c11 => ?_)
  · skip
    refine f_seq fun K5 kh5 => ?_
    refine f_region ?_
    refine f_stepP rfl rfl rfl (o_move rfl) ?_
    refine f_stepP rfl rfl rfl (o_assign rfl) ?_
    refine f_stepP rfl rfl rfl (o_assign rfl) ?_
    refine f_done ?_
    refine f_tn (kh5 _ _ ?_)
    clear kh5
    refine f_ret ?_
    refine f_tr ?_
    exact f_fin2 [[]] Try.results12 rfl rfl Sub.empty ⟨_, _, rfl, rfl, by rw [gends, if_neg (by simpa using c11)]; exact Own.nil _ _⟩
  · skip
    have hz : glooked N l v = 0 := by simpa using c11
    refine f_skip ?_
    refine f_tn (kh2 _ _ ?_)
    clear kh2
    refine f_seq fun K6 kh6 => ?_
    refine f_region ?_
    refine f_stepP rfl rfl rfl (o_loadA (vs := [_, _]) Try.isAgg24 Try.sizeOf24 rfl rfl ⟨(rdA rfl), (rdA rfl), trivial⟩) ?_
    refine f_stepP rfl rfl rfl (o_func rfl rfl) ?_
    refine f_step rfl rfl rfl (o_call Try.call30 rfl (fun w_ hp_ => ends_spec N A l cap 32 [.pointer (some ⟨b3, 0, none⟩)] (fun x => decide (x.dst = v)) w_ (hr.up0 hp_) (gcheck_zero (glooked_zero hz).1).2.2.1 Try.call32 (fun w' hs x => have h := heldCell (b := b3) (i := 0) hp_ rfl hs; In1_spec x b3 v w' h.1 h.2)) ?_)
    rintro s _ ⟨ms, rfl, hown⟩
    dsimp only [List.cons_append, List.nil_append]
    refine f_stepP rfl rfl rfl (o_assign rfl) ?_
    refine f_stepP rfl rfl rfl (o_assign rfl) ?_
    refine f_done ?_
    refine f_tn (kh6 _ _ ?_)
    clear kh6
    refine f_ret ?_
    exact f_fin2 [ms] Try.results12 rfl rfl (by repeat (first | exact Sub.nil | refine Sub.pick ?_)) ⟨_, _, by rw [hz], rfl, by rw [gends, if_pos hz]; exact hown⟩

end Go.Proofs.Ythbkeoejbendnaa
