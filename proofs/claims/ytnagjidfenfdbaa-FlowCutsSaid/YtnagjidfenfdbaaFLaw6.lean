/- flyoverlaw06: works, FlowIsCut, FlowFewer, FlowTurns. -/
import Derived.Test.YtnagjidfenfdbaaFFlow5
import Derived.Test.YtnagjidfenfdbaaPFlow3
namespace Go.Proofs.Ytnagjidfenfdbaa
open Go Go.RowKit Fly
set_option linter.unusedVariables false
set_option linter.unusedSimpArgs false


def wF : List Arc := [⟨0, 1, 3⟩, ⟨1, 2, 2⟩, ⟨0, 2, 1⟩]
theorem wFok : ∀ x ∈ wF, ArcOk x := by
  intro x hx
  simp only [wF, List.mem_cons, List.not_mem_nil, or_false] at hx
  rcases hx with rfl | rfl | rfl <;> exact ⟨⟨by decide, by decide⟩, ⟨by decide, by decide⟩, by decide⟩
theorem wF0 : flooked 3 wF 0 2 = 0 := by decide
theorem wFnet : NetOk 3 wF := by unfold NetOk; decide
theorem wFlow : Flow 3 wF 0 2 [2, 2, 1] 3 := ⟨⟨rfl, by decide⟩, by decide⟩
theorem wSide : Side 3 wF 0 2 [2, 2, 1] (fun v => decide (v < 2)) where
  src := rfl
  dst := rfl
  shut := by unfold Shut; decide
  reach := fun v hv h => by
    have : v = 0 ∨ v = 1 := by simp at h; omega
    rcases this with rfl | rfl
    · exact .refl
    · exact Reach.step (e := wF) (k := 0) .refl (by decide) (by decide)
theorem sat {n : Nat} {e : List Arc} {s t : Nat} {f g : List Int} {V W : Int} {A : Nat → Bool} (he : NetOk n e) (hs : s < n) (hf : Flow n e s t f V) (hB : ∃ B, Side n e s t f B) (hg : Flow n e s t g W) (hA : Side n e s t g A) :
    V = W ∧ W = capA A e ∧ ∀ i (hi : i < e.length), (A e[i].src.toNat = true → A e[i].dst.toNat = false → flAt f i = e[i].wt) ∧ (A e[i].src.toNat = false → A e[i].dst.toNat = true → flAt f i = 0) := by
  obtain ⟨B, hB⟩ := hB
  have e1 := (Side.same he hs hf hg hB hA).1
  have e2 := (hg.shut he hs hA.src hA.dst).2 hA.shut
  refine ⟨e1, e2, fun i hi => ?_⟩
  have h3 := (hf.shut he hs hA.src hA.dst).1 (by omega)
  have h4 := (slack_zero A e f hf.fits).1 ((slack_shut hf.fits).2 h3) i hi
  rwa [arcAt_eq hi] at h4
theorem idxs_prefix {α : Type} (p : α → Bool) (l : List α) (k : Nat) : ∃ r, idxs p l = idxs p (l.take k) ++ r := by
  conv => enter [1, r, 1]; rw [← List.take_append_drop k l]
  unfold idxs
  rw [List.zipIdx_append, List.filter_append, List.map_append]
  exact ⟨_, rfl⟩
theorem idxs_at {α : Type} {p : α → Bool} {l : List α} {k : Nat} (hk : k < l.length) (h : p l[k] = true) : ∃ h' : (idxs p (l.take k)).length < (idxs p l).length, (idxs p l)[(idxs p (l.take k)).length] = (k : Int) := by
  obtain ⟨r, hr⟩ := idxs_prefix p l (k + 1)
  rw [idxs_yes hk h] at hr
  have hlt : (idxs p (l.take k)).length < (idxs p l).length := by rw [hr]; simp
  refine ⟨hlt, ?_⟩
  have : (idxs p l)[(idxs p (l.take k)).length]? = some (k : Int) := by rw [hr, List.append_assoc, List.getElem?_append_right (Nat.le_refl _), Nat.sub_self]; rfl
  rw [List.getElem?_eq_getElem hlt] at this
  exact Option.some.inj this
theorem rds_roE {S : Nat → Prop} {w0 : World} {segs : List Seg} {A : Option Addr} {cs : List Value} (h : Ro S w0 A cs) : cs ≠ [] → ∃ b off, A = some ⟨b, off, none⟩ ∧ Rds S w0 segs b off cs := fun hne => by
  obtain ⟨b, off, e, hS, hc⟩ := h hne
  exact ⟨b, off, e, Seen.rds fun _ => ⟨hS, hc⟩⟩
theorem arcs_oneE (l : List Arc) : (l.flatMap arcCs).all (·.oneCell') = true := by
  induction l with
  | nil => rfl
  | cons x l ih => rw [List.flatMap_cons, List.all_append, ih]; rfl
theorem idxs_le {α : Type} (p : α → Bool) (l : List α) (i : Nat) : (idxs p (l.take i)).length ≤ i := by
  unfold idxs
  rw [List.length_map]
  refine Nat.le_trans (List.length_filter_le _ _) ?_
  rw [List.length_zipIdx, List.length_take]; omega
def LentΦ (N : Int) (l : List Arc) (u : Value) (own : List Seg) : Prop :=
  ∃ A c m, u = .agg #[.int .i64 N, .slice A l.length c] ∧ own = [m] ∧ Own 52 3 (.slice A l.length c) l.length (l.flatMap arcCs) m

set_option maxRecDepth 100000 in
set_option maxHeartbeats 4000000 in
theorem large6_spec (N : Int) (A : Option Addr) (len cap : Nat) (w : World) : Meets Try.prog 9 [.agg #[.int .i64 N, .slice A len cap]] w [] (fun u m => u = .bool (decide (400 < len ∧ 60 < N)) ∧ m = []) := by
  refine f_enter Try.func9 rfl Try.ntmps9 rfl Owns.nil ?_
  refine f_seq fun K1 kh1 => ?_
  refine f_region ?_
  refine f_step rfl rfl rfl (o_box rfl rfl fun b1 => ?_)
  refine f_stepP rfl rfl rfl (o_assign rfl) ?_
  refine f_done ?_
  refine f_tn (kh1 _ _ ?_)
  clear kh1
  refine f_seq fun K2 kh2 => ?_
  refine f_region ?_
  refine f_stepP rfl rfl rfl (o_field fa24_1 rfl) ?_
  refine f_stepP rfl rfl rfl (o_load Try.isAgg22 rfl (rdA rfl)) ?_
  refine f_stepP rfl rfl rfl (o_len sl22 rfl) ?_
  refine f_stepP rfl rfl rfl (o_gtr rfl rfl) ?_
  refine f_stepP rfl rfl rfl (o_move rfl) ?_
  refine f_splitL 7 rfl (fun g7 => ?_) (fun g7 => ?_)
  · skip
    refine f_stepPY rfl rfl rfl rfl rfl (o_field fa24_0 rfl) ?_
    refine f_stepPY rfl rfl rfl rfl rfl (o_load Try.isAgg3 rfl (rdA rfl)) ?_
    refine f_stepPY rfl rfl rfl rfl rfl (o_gtr rfl rfl) ?_
    refine f_stepP rfl rfl rfl (o_pickT rfl rfl) ?_
    refine f_stepP rfl rfl rfl (o_assign rfl) ?_
    refine f_done ?_
    refine f_tn (kh2 _ _ ?_)
    clear kh2
    refine f_ret ?_
    exact f_fin1 [] Try.results9 rfl Sub.nil ⟨by congr 1; exact decide_eq_decide.2 (by omega), rfl⟩
  · skip
    refine f_stepN rfl rfl rfl rfl rfl rfl ?_
    refine f_stepN rfl rfl rfl rfl rfl rfl ?_
    refine f_stepN rfl rfl rfl rfl rfl rfl ?_
    refine f_stepP rfl rfl rfl (o_pickF rfl rfl) ?_
    refine f_stepP rfl rfl rfl (o_assign rfl) ?_
    refine f_done ?_
    refine f_tn (kh2 _ _ ?_)
    clear kh2
    refine f_ret ?_
    exact f_fin1 [] Try.results9 rfl Sub.nil ⟨by rw [decide_eq_false (by omega)], rfl⟩

set_option maxRecDepth 100000 in
set_option maxHeartbeats 4000000 in
theorem lent_spec (N : Int) (A : Option Addr) (l : List Arc) (cap : Nat) (w : World) (hr : Ro (Fr w []) w A (l.flatMap arcCs)) (hb : l.length * 24 ≤ 140737488351232) :
    Meets Try.prog 11 [.agg #[.int .i64 N, .slice A l.length cap]] w [] (LentΦ N l) := by
  refine f_enter Try.func11 rfl Try.ntmps11 rfl Owns.nil ?_
  refine f_seq fun K1 kh1 => ?_
  refine f_region ?_
  refine f_step rfl rfl rfl (o_box rfl rfl fun b1 => ?_)
  refine f_step rfl rfl rfl (o_alloc Try.zeroValue24 rfl fun b2 => ?_)
  refine f_done ?_
  refine f_tn (kh1 _ _ ?_)
  clear kh1
  refine f_seq fun K2 kh2 => ?_
  refine f_regionH [[(b1, blk [.int .i64 N, .slice A l.length cap] 24)]] rfl ?_
  refine f_take 0 rfl (by decide +kernel) rfl rfl rfl (by repeat (first | exact Sub.nil | refine Sub.pick ?_ | refine Sub.castO rfl ?_ | refine Sub.skip ?_)) (o_field fa24_0 rfl) ?_
  refine f_take 1 rfl (by decide +kernel) rfl rfl rfl (by repeat (first | exact Sub.nil | refine Sub.pick ?_ | refine Sub.castO rfl ?_ | refine Sub.skip ?_)) (o_load Try.isAgg3 rfl (rdA rfl)) ?_
  refine f_take 3 rfl (by decide +kernel) rfl rfl rfl (by repeat (first | exact Sub.nil | refine Sub.pick ?_ | refine Sub.castO rfl ?_ | refine Sub.skip ?_)) (o_field fa24_1 rfl) ?_
  refine f_take 4 rfl (by decide +kernel) rfl rfl rfl (by repeat (first | exact Sub.nil | refine Sub.pick ?_ | refine Sub.castO rfl ?_ | refine Sub.skip ?_)) (o_load Try.isAgg22 rfl (rdA rfl)) ?_
  refine f_only 2 rfl (by decide +kernel) rfl rfl rfl (o_slice0 el22 fun b5 => ⟨(by repeat (first | exact Sub.nil | refine Sub.pick ?_ | refine Sub.castO rfl ?_ | refine Sub.skip ?_)), ?_⟩)
  refine f_only 5 rfl (by decide +kernel) rfl rfl rfl (o_appendQ el22 rfl rfl (Own.mk (b := b5) (cs := []) (len := 0) rfl (by omega)) (ys := l.flatMap arcCs) (rds_roE hr) (flat_length arcCs arcCs_len l) (arcs_oneE l) (by omega) (by omega) ?_)
  rintro v8 m8 o8
  rw [Nat.zero_add, List.nil_append] at o8
  obtain ⟨A8, c8, rfl, _⟩ := o8.val
  refine ⟨(by repeat (first | exact Sub.nil | refine Sub.pick ?_ | refine Sub.castO rfl ?_ | refine Sub.skip ?_)), ?_⟩
  refine f_take 6 rfl (by decide +kernel) rfl rfl rfl (by repeat (first | exact Sub.nil | refine Sub.pick ?_ | refine Sub.castO rfl ?_ | refine Sub.skip ?_)) (o_build (cs := [.int .i64 N, .slice A8 l.length c8]) st24 rfl rfl) ?_
  refine f_only0 7 rfl (by decide +kernel) rfl rfl (o_storeA Try.sizeOf24 rfl rfl rfl rfl (by first | exact Nat.le_of_ble_eq_true rfl | (simp; done) | (simp; omega)) [.int .i64 N, .slice A8 l.length c8] rfl ⟨(by repeat (first | exact Sub.nil | refine Sub.pick ?_ | refine Sub.castO rfl ?_ | refine Sub.skip ?_)), ?_⟩)
  refine f_over (by decide +kernel) ?_
  refine f_tn (kh2 _ _ ?_)
  clear kh2
  refine f_ret ?_
  exact f_finR1 [m8] Try.results11 (rvA (vs := [.int .i64 N, .slice A8 l.length c8]) Try.isAgg24 Try.sizeOf24 rfl rfl ⟨(rdA rfl), (rdA rfl), trivial⟩) (by repeat (first | exact Sub.nil | refine Sub.pick ?_)) ⟨_, _, m8, rfl, rfl, o8⟩

set_option maxRecDepth 100000 in
set_option maxHeartbeats 4000000 in
theorem works6_spec (w : World) : Meets Try.prog 10 [] w [] (fun u m => u = .bool true ∧ m = []) := by
  refine f_enter Try.func10 rfl Try.ntmps10 rfl Owns.nil ?_
  refine f_seq fun K1 kh1 => ?_
  refine f_region ?_
  refine f_stepP rfl rfl rfl (o_assign rfl) ?_
  refine f_done ?_
  refine f_tn (kh1 _ _ ?_)
  clear kh1
  refine f_seq fun K2 kh2 => ?_
  refine f_region ?_
  refine f_stepP rfl rfl rfl (o_build st52 rfl rfl) ?_
  refine f_stepP rfl rfl rfl (o_build st52 rfl rfl) ?_
  refine f_stepP rfl rfl rfl (o_build st52 rfl rfl) ?_
  refine f_step rfl rfl rfl (o_sliceN (len := 3) el22 (by omega) rfl rfl fun b12 => ?_)
  refine f_stepP rfl rfl rfl (o_build st24 rfl rfl) ?_
  refine f_step rfl rfl rfl (o_alloc Try.zeroValue24 rfl fun b1 => ?_)
  refine f_step0 rfl rfl (o_storeA Try.sizeOf24 rfl rfl rfl rfl (by first | exact Nat.le_of_ble_eq_true rfl | (simp; done) | (simp; omega)) _ rfl ?_)
  refine f_done ?_
  refine f_tn (kh2 _ _ ?_)
  clear kh2
  refine f_seq fun K3 kh3 => ?_
  refine f_region ?_
  refine f_stepP rfl rfl rfl (o_loadA (vs := [_, _]) Try.isAgg24 Try.sizeOf24 rfl rfl ⟨(rdA rfl), (rdA rfl), trivial⟩) ?_
  refine f_step rfl rfl rfl (o_call Try.call21 rfl (fun w_ hp_ => Max_spec 3 (some ⟨b12, 0, none⟩) wF 3 0 2 w_ (roOwn (b := b12) hp_ (cs := wF.flatMap arcCs) (fun j v hj => hj)) (by decide) (by decide) wFok) ?_)
  rintro _ _ ⟨V, v3, m3, f, rfl, rfl, hoF, _, hx0⟩
  rw [wF0] at hx0 ⊢
  obtain ⟨hF, hB, _, _⟩ := hx0 rfl
  obtain ⟨rfl, _, hsat⟩ := sat wFnet (by decide) hF hB wFlow wSide
  have hf1 := (hsat 1 (by decide)).1 rfl rfl
  have hfl : f.length = 3 := hF.fits.len
  obtain ⟨bF, cF, sF, rfl, rfl⟩ := hoF.block (by omega)
  dsimp only [List.cons_append, List.nil_append]
  refine f_stepP rfl rfl rfl (o_move rfl) ?_
  refine f_stepP rfl rfl rfl (o_extract rfl rfl) ?_
  refine f_stepP rfl rfl rfl (o_extract rfl rfl) ?_
  refine f_stepP rfl rfl rfl (o_extract rfl rfl) ?_
  refine f_stepP rfl rfl rfl (o_assign rfl) ?_
  refine f_stepP rfl rfl rfl (o_assign rfl) ?_
  refine f_stepP rfl rfl rfl (o_assign rfl) ?_
  refine f_done ?_
  refine f_tn (kh3 _ _ ?_)
  clear kh3
  refine f_seq fun K4 kh4 => ?_
  refine f_region ?_
  refine f_stepP rfl rfl rfl (o_loadA (vs := [_, _]) Try.isAgg24 Try.sizeOf24 rfl rfl ⟨(rdA rfl), (rdA rfl), trivial⟩) ?_
  refine f_step rfl rfl rfl (o_call Try.call14 rfl (fun w_ hp_ => Cut_spec 3 (some ⟨b12, 0, none⟩) wF 3 0 2 w_ (roOwn (b := b12) hp_ (cs := wF.flatMap arcCs) (fun j v hj => hj)) (by decide) (by decide) wFok) ?_)
  rintro _ _ ⟨V2, v5, m5, sd, A6, c6, m6, W, rfl, rfl, hoS, hoW, _, hy0⟩
  rw [wF0] at hy0 ⊢
  obtain ⟨hsl, hWe, ⟨f2, hF2, hA2⟩, _, _⟩ := hy0 rfl
  obtain ⟨rfl, hAA⟩ := Side.same wFnet (by decide) hF2 wFlow hA2 wSide
  obtain rfl : sd = [true, true, false] := List.ext_getElem hsl fun j h1 h2 => by
    have hj : j < 3 := by simpa using h2
    have := hAA j hj
    rw [List.getD_eq_getElem?_getD, List.getElem?_eq_getElem h1] at this
    have hj3 : j = 0 ∨ j = 1 ∨ j = 2 := by omega
    rcases hj3 with rfl | rfl | rfl <;> simpa using this
  obtain rfl : W = [1, 2] := hWe.trans (by decide)
  obtain ⟨bS, cS, sS, rfl, rfl⟩ := hoS.block (by decide)
  dsimp only [List.cons_append, List.nil_append]
  refine f_stepP rfl rfl rfl (o_move rfl) ?_
  refine f_stepP rfl rfl rfl (o_extract rfl rfl) ?_
  refine f_stepP rfl rfl rfl (o_extract rfl rfl) ?_
  refine f_stepP rfl rfl rfl (o_extract rfl rfl) ?_
  refine f_stepP rfl rfl rfl (o_extract rfl rfl) ?_
  refine f_stepP rfl rfl rfl (o_assign rfl) ?_
  refine f_stepP rfl rfl rfl (o_assign rfl) ?_
  refine f_stepP rfl rfl rfl (o_assign rfl) ?_
  refine f_stepP rfl rfl rfl (o_assign rfl) ?_
  refine f_done ?_
  refine f_tn (kh4 _ _ ?_)
  clear kh4
  refine f_seq fun K5 kh5 => ?_
  refine f_region ?_
  refine f_stepP rfl rfl rfl (o_move rfl) ?_
  refine f_stepP rfl rfl rfl (o_eql rfl rfl) ?_
  refine f_stepP rfl rfl rfl (o_move rfl) ?_
  refine f_trueL 29 rfl (rfl) ?_
  refine f_stepPY rfl rfl rfl rfl rfl (o_move rfl) ?_
  refine f_stepPY rfl rfl rfl rfl rfl (o_len sl42 rfl) ?_
  refine f_stepPY rfl rfl rfl rfl rfl (o_eql rfl rfl) ?_
  refine f_stepP rfl rfl rfl (o_pickT rfl rfl) ?_
  refine f_stepP rfl rfl rfl (o_move rfl) ?_
  refine f_trueL 34 rfl (by omega) ?_
  refine f_stepPY rfl rfl rfl rfl rfl (o_move rfl) ?_
  refine f_stepPY rfl rfl rfl rfl rfl (o_idx sl42 rfl rfl (1) ⟨by omega, by omega, by first | omega | (simp; done) | (simp; omega)⟩) ?_
  refine f_stepPY rfl rfl rfl rfl rfl (o_load Try.isAgg50 rfl (rdA (v := .int .u32 2) (app_get (by rw [u32s_at (by omega), hf1]; rfl)))) ?_
  refine f_stepPY rfl rfl rfl rfl rfl (o_eql rfl rfl) ?_
  refine f_stepP rfl rfl rfl (o_pickT rfl rfl) ?_
  refine f_stepP rfl rfl rfl (o_move rfl) ?_
  refine f_trueL 40 rfl (rfl) ?_
  refine f_stepPY rfl rfl rfl rfl rfl (o_move rfl) ?_
  refine f_stepPY rfl rfl rfl rfl rfl (o_eql rfl rfl) ?_
  refine f_stepP rfl rfl rfl (o_pickT rfl rfl) ?_
  refine f_stepP rfl rfl rfl (o_move rfl) ?_
  refine f_trueL 44 rfl (rfl) ?_
  refine f_stepPY rfl rfl rfl rfl rfl (o_move rfl) ?_
  refine f_stepPY rfl rfl rfl rfl rfl (o_eql rfl rfl) ?_
  refine f_stepP rfl rfl rfl (o_pickT rfl rfl) ?_
  refine f_stepP rfl rfl rfl (o_move rfl) ?_
  refine f_trueL 48 rfl (rfl) ?_
  refine f_stepPY rfl rfl rfl rfl rfl (o_move rfl) ?_
  refine f_stepPY rfl rfl rfl rfl rfl (o_eql rfl rfl) ?_
  refine f_stepP rfl rfl rfl (o_pickT rfl rfl) ?_
  refine f_stepP rfl rfl rfl (o_move rfl) ?_
  refine f_trueL 52 rfl (rfl) ?_
  refine f_stepPY rfl rfl rfl rfl rfl (o_move rfl) ?_
  refine f_stepPY rfl rfl rfl rfl rfl (o_len sl31 rfl) ?_
  refine f_stepPY rfl rfl rfl rfl rfl (o_eql rfl rfl) ?_
  refine f_stepP rfl rfl rfl (o_pickT rfl rfl) ?_
  refine f_stepP rfl rfl rfl (o_move rfl) ?_
  refine f_trueL 57 rfl (rfl) ?_
  refine f_stepPY rfl rfl rfl rfl rfl (o_move rfl) ?_
  refine f_stepPY rfl rfl rfl rfl rfl (o_idx sl31 rfl rfl (1) ⟨by omega, by omega, by first | omega | (simp; done) | (simp; omega)⟩) ?_
  refine f_stepPY rfl rfl rfl rfl rfl (o_load Try.isAgg4 rfl (rdA (v := .bool true) rfl)) ?_
  refine f_stepP rfl rfl rfl (o_pickT rfl rfl) ?_
  refine f_stepP rfl rfl rfl (o_move rfl) ?_
  refine f_splitLB 62 rfl (fun g62 => ?_) (fun g62 => ?_)
  · skip
    refine f_stepPY rfl rfl rfl rfl rfl (o_move rfl) ?_
    refine f_stepPY rfl rfl rfl rfl rfl (o_idx sl31 rfl rfl (2) ⟨by omega, by omega, by first | omega | (simp; done) | (simp; omega)⟩) ?_
    refine f_stepPY rfl rfl rfl rfl rfl (o_load Try.isAgg4 rfl (rdA (v := .bool false) rfl)) ?_
    refine f_stepPY rfl rfl rfl rfl rfl (o_not rfl) ?_
    refine f_stepP rfl rfl rfl (o_pickT rfl rfl) ?_
    refine f_stepP rfl rfl rfl (o_move rfl) ?_
    refine f_splitLB 68 rfl (fun g68 => ?_) (fun g68 => ?_)
    · skip
      refine f_stepPY rfl rfl rfl rfl rfl (o_move rfl) ?_
      refine f_stepPY rfl rfl rfl rfl rfl (o_len sl32 rfl) ?_
      refine f_stepPY rfl rfl rfl rfl rfl (o_eql rfl rfl) ?_
      refine f_stepP rfl rfl rfl (o_pickT rfl rfl) ?_
      refine f_stepP rfl rfl rfl (o_assign rfl) ?_
      refine f_done ?_
      refine f_tn (kh5 _ _ ?_)
      clear kh5
      refine f_ret ?_
      exact f_fin1 [] Try.results10 rfl Sub.nil ⟨rfl, rfl⟩
    · skip
      exact absurd g68 (by decide) -- closed
  · skip
    cases g62 -- closed

set_option maxRecDepth 100000 in
set_option maxHeartbeats 4000000 in
theorem FlowIsCut_spec (N : Int) (A : Option Addr) (l : List Arc) (cap : Nat) (s t : Int) (w : World) (hr : Ro (Fr w []) w A (l.flatMap arcCs)) (hl : l.length ≤ 9223372036854775807) (hN : I64 N) (hok : ∀ x ∈ l, ArcOk x) :
    Meets Try.prog 5 [.agg #[.int .i64 N, .slice A l.length cap], .int .i64 s, .int .i64 t] w [] (fun u m => u = .bool true ∧ m = []) := by
  refine f_enter Try.func5 rfl Try.ntmps5 rfl Owns.nil ?_
  refine f_seq fun K1 kh1 => ?_
  refine f_region ?_
  refine f_step rfl rfl rfl (o_box rfl rfl fun b3 => ?_)
  refine f_stepP rfl rfl rfl (o_assign rfl) ?_
  refine f_done ?_
  refine f_tn (kh1 _ _ ?_)
  clear kh1
  refine f_seq fun K2 kh2 => ?_
  refine f_seq fun K3 kh3 => ?_
  refine f_region ?_
  refine f_step rfl rfl rfl (o_call Try.call10 rfl (fun w_ hp_ => works6_spec w_) ?_)
  rintro _ _ ⟨rfl, rfl⟩
  dsimp only [List.cons_append, List.nil_append]
  refine f_stepP rfl rfl rfl (o_not rfl) ?_
  refine f_done ?_
  refine f_tn (kh3 _ _ ?_)
  clear kh3
  refine f_condF rfl ?_
  refine f_skip ?_
  refine f_tn (kh2 _ _ ?_)
  clear kh2
  refine f_seq fun K4 kh4 => ?_
  refine f_seq fun K5 kh5 => ?_
  refine f_region ?_
  refine f_stepP rfl rfl rfl (o_loadA (vs := [_, _]) Try.isAgg24 Try.sizeOf24 rfl rfl ⟨(rdA rfl), (rdA rfl), trivial⟩) ?_
  refine f_step rfl rfl rfl (o_call Try.call9 rfl (fun w_ hp_ => large6_spec N A l.length cap w_) ?_)
  rintro _ _ ⟨rfl, rfl⟩
  dsimp only [List.cons_append, List.nil_append]
  refine f_done ?_
  refine f_tn (kh5 _ _ ?_)
  clear kh5
  refine f_cond rfl (fun c21 => ?_) (fun c21 => ?_)
  · skip
    refine f_seq fun K6 kh6 => ?_
    refine f_region ?_
    refine f_stepP rfl rfl rfl (o_assign rfl) ?_
    refine f_done ?_
    refine f_tn (kh6 _ _ ?_)
    clear kh6
    refine f_ret ?_
    refine f_tr ?_
    exact f_fin1 [] Try.results5 rfl Sub.nil ⟨rfl, rfl⟩
  · skip
    refine f_skip ?_
    refine f_tn (kh4 _ _ ?_)
    clear kh4
    refine f_seq fun K7 kh7 => ?_
    refine f_region ?_
    refine f_stepP rfl rfl rfl (o_loadA (vs := [_, _]) Try.isAgg24 Try.sizeOf24 rfl rfl ⟨(rdA rfl), (rdA rfl), trivial⟩) ?_
    refine f_stepP rfl rfl rfl (o_move rfl) ?_
    refine f_stepP rfl rfl rfl (o_move rfl) ?_
    refine f_step rfl rfl rfl (o_call Try.call21 rfl (fun w_ hp_ => Max_spec N A l cap s t w_ (hr.up0 hp_) hl hN hok) ?_)
    rintro _ _ ⟨V, v8, m8, f, rfl, rfl, hoF, hx1, hx0⟩
    obtain ⟨A8, c8, rfl, hc8⟩ := hoF.val
    dsimp only [List.cons_append, List.nil_append]
    refine f_stepP rfl rfl rfl (o_move rfl) ?_
    refine f_stepP rfl rfl rfl (o_extract rfl rfl) ?_
    refine f_stepP rfl rfl rfl (o_extract rfl rfl) ?_
    refine f_stepP rfl rfl rfl (o_extract rfl rfl) ?_
    refine f_stepP rfl rfl rfl (o_assign rfl) ?_
    refine f_stepP rfl rfl rfl (o_assign rfl) ?_
    refine f_stepP rfl rfl rfl (o_assign rfl) ?_
    refine f_done ?_
    refine f_tn (kh7 _ _ ?_)
    clear kh7
    refine f_seq fun K8 kh8 => ?_
    refine f_region ?_
    refine f_stepP rfl rfl rfl (o_loadA (vs := [_, _]) Try.isAgg24 Try.sizeOf24 rfl rfl ⟨(rdA rfl), (rdA rfl), trivial⟩) ?_
    refine f_stepP rfl rfl rfl (o_move rfl) ?_
    refine f_stepP rfl rfl rfl (o_move rfl) ?_
    refine f_step rfl rfl rfl (o_call Try.call14 rfl (fun w_ hp_ => Cut_spec N A l cap s t w_ (hr.up0 hp_) hl hN hok) ?_)
    rintro _ _ ⟨V2, v10, m10, sd, A11, c11, m11, W, rfl, rfl, hoS, hoW, hy1, hy0⟩
    obtain ⟨A10, c10, rfl, hc10⟩ := hoS.val
    dsimp only [List.cons_append, List.nil_append]
    refine f_stepP rfl rfl rfl (o_move rfl) ?_
    refine f_stepP rfl rfl rfl (o_extract rfl rfl) ?_
    refine f_stepP rfl rfl rfl (o_extract rfl rfl) ?_
    refine f_stepP rfl rfl rfl (o_extract rfl rfl) ?_
    refine f_stepP rfl rfl rfl (o_extract rfl rfl) ?_
    refine f_stepP rfl rfl rfl (o_assign rfl) ?_
    refine f_stepP rfl rfl rfl (o_assign rfl) ?_
    refine f_stepP rfl rfl rfl (o_assign rfl) ?_
    refine f_stepP rfl rfl rfl (o_assign rfl) ?_
    refine f_done ?_
    refine f_tn (kh8 _ _ ?_)
    clear kh8
    refine f_seq fun K9 kh9 => ?_
    refine f_seq fun K10 kh10 => ?_
    refine f_region ?_
    refine f_stepP rfl rfl rfl (o_move rfl) ?_
    refine f_stepP rfl rfl rfl (o_neq rfl rfl) ?_
    refine f_done ?_
    refine f_tn (kh10 _ _ ?_)
    clear kh10
    refine f_cond rfl (fun c40 => ?_) (fun c40 => ?_)
    · skip
      obtain ⟨rfl, rfl⟩ := hx1 c40
      obtain ⟨rfl, rfl, rfl⟩ := hy1 c40
      refine f_seq fun K11 kh11 => ?_
      refine f_region ?_
      refine f_stepP rfl rfl rfl (o_move rfl) ?_
      refine f_stepP rfl rfl rfl (o_move rfl) ?_
      refine f_stepP rfl rfl rfl (o_eql rfl rfl) ?_
      refine f_stepP rfl rfl rfl (o_move rfl) ?_
      refine f_trueL 44 rfl (rfl) ?_
      refine f_stepPY rfl rfl rfl rfl rfl (o_move rfl) ?_
      refine f_stepPY rfl rfl rfl rfl rfl (o_eql rfl rfl) ?_
      refine f_stepP rfl rfl rfl (o_pickT rfl rfl) ?_
      refine f_stepP rfl rfl rfl (o_move rfl) ?_
      refine f_trueL 48 rfl (rfl) ?_
      refine f_stepPY rfl rfl rfl rfl rfl (o_move rfl) ?_
      refine f_stepPY rfl rfl rfl rfl rfl (o_eql rfl rfl) ?_
      refine f_stepP rfl rfl rfl (o_pickT rfl rfl) ?_
      refine f_stepP rfl rfl rfl (o_move rfl) ?_
      refine f_trueL 52 rfl (rfl) ?_
      refine f_stepPY rfl rfl rfl rfl rfl (o_move rfl) ?_
      refine f_stepPY rfl rfl rfl rfl rfl (o_len sl42 rfl) ?_
      refine f_stepPY rfl rfl rfl rfl rfl (o_move rfl) ?_
      refine f_stepPY rfl rfl rfl rfl rfl (o_len sl32 rfl) ?_
      refine f_stepPY rfl rfl rfl rfl rfl (o_add rfl rfl _ (wrap_i64 (by first | omega | simp))) ?_
      refine f_stepPY rfl rfl rfl rfl rfl (o_move rfl) ?_
      refine f_stepPY rfl rfl rfl rfl rfl (o_len sl31 rfl) ?_
      refine f_stepPY rfl rfl rfl rfl rfl (o_add rfl rfl _ (wrap_i64 (by first | omega | simp))) ?_
      refine f_stepPY rfl rfl rfl rfl rfl (o_eql rfl rfl) ?_
      refine f_stepP rfl rfl rfl (o_pickT rfl rfl) ?_
      refine f_stepP rfl rfl rfl (o_assign rfl) ?_
      refine f_done ?_
      refine f_tn (kh11 _ _ ?_)
      clear kh11
      refine f_ret ?_
      refine f_tr ?_
      exact f_fin1 [] Try.results5 rfl Sub.nil ⟨rfl, rfl⟩
    · skip
      have hz : flooked N l s t = 0 := by simpa using c40
      obtain ⟨hg0, hs0, hs1, ht0, ht1, hst0⟩ := flooked_zero hz
      have hN1 := ncheck_zero hg0
      obtain ⟨n, rfl⟩ : ∃ n : Nat, N = n := ⟨N.toNat, by omega⟩
      obtain ⟨a, rfl⟩ : ∃ k : Nat, s = k := ⟨s.toNat, by omega⟩
      obtain ⟨b, rfl⟩ : ∃ k : Nat, t = k := ⟨t.toNat, by omega⟩
      have hn := nok_of hg0 hok
      have hn1 := hn.n1
      have hel := hn.len
      have han : a < n := by omega
      have hbn : b < n := by omega
      have hwts : ∀ x ∈ l, 0 ≤ x.wt ∧ x.wt ≤ 4294967295 := fun x hx => (hok x hx).wt
      obtain ⟨hF, hB, hV0, hV1⟩ := hx0 hz
      obtain ⟨hsl, rfl, ⟨f2, hF2, hA2⟩, _, _⟩ := hy0 hz
      rw [Int.toNat_natCast, Int.toNat_natCast, Int.toNat_natCast] at hF hB hF2 hA2
      rw [Int.toNat_natCast] at hsl
      obtain ⟨rfl, hVc, hsat⟩ := sat hn.net han hF hB hF2 hA2
      have hfl := hF.fits.len
      obtain ⟨bS, spS, rfl, rfl⟩ := hoS.at_ (by omega)
      refine f_skip ?_
      refine f_tn (kh9 _ _ ?_)
      clear kh9
      refine f_seq fun K12 kh12 => ?_
      refine f_seq fun K13 kh13 => ?_
      refine f_region ?_
      refine f_stepP rfl rfl rfl (o_move rfl) ?_
      refine f_stepP rfl rfl rfl (o_neq rfl rfl) ?_
      refine f_stepP rfl rfl rfl (o_move rfl) ?_
      refine f_falseL 65 rfl (by simpa using hz) ?_
      refine f_stepPY rfl rfl rfl rfl rfl (o_move rfl) ?_
      refine f_stepPY rfl rfl rfl rfl rfl (o_move rfl) ?_
      refine f_stepPY rfl rfl rfl rfl rfl (o_neq rfl rfl) ?_
      refine f_stepP rfl rfl rfl (o_pickF rfl rfl) ?_
      refine f_stepP rfl rfl rfl (o_move rfl) ?_
      refine f_falseL 70 rfl (by simp) ?_
      refine f_stepPY rfl rfl rfl rfl rfl (o_move rfl) ?_
      refine f_stepPY rfl rfl rfl rfl rfl (o_len sl42 rfl) ?_
      refine f_stepPY rfl rfl rfl rfl rfl (o_field fa24_1 rfl) ?_
      refine f_stepPY rfl rfl rfl rfl rfl (o_load Try.isAgg22 rfl (rdA rfl)) ?_
      refine f_stepPY rfl rfl rfl rfl rfl (o_len sl22 rfl) ?_
      refine f_stepPY rfl rfl rfl rfl rfl (o_neq rfl rfl) ?_
      refine f_stepP rfl rfl rfl (o_pickF rfl rfl) ?_
      refine f_stepP rfl rfl rfl (o_move rfl) ?_
      refine f_falseL 78 rfl (by omega) ?_
      refine f_stepPY rfl rfl rfl rfl rfl (o_move rfl) ?_
      refine f_stepPY rfl rfl rfl rfl rfl (o_len sl31 rfl) ?_
      refine f_stepPY rfl rfl rfl rfl rfl (o_field fa24_0 rfl) ?_
      refine f_stepPY rfl rfl rfl rfl rfl (o_load Try.isAgg3 rfl (rdA rfl)) ?_
      refine f_stepPY rfl rfl rfl rfl rfl (o_neq rfl rfl) ?_
      refine f_stepP rfl rfl rfl (o_pickF rfl rfl) ?_
      refine f_stepP rfl rfl rfl (o_move rfl) ?_
      refine f_falseL 85 rfl (by omega) ?_
      refine f_stepPY rfl rfl rfl rfl rfl (o_move rfl) ?_
      refine f_stepPY rfl rfl rfl rfl rfl (o_move rfl) ?_
      refine f_stepPY rfl rfl rfl rfl rfl (o_idx sl31 rfl rfl (a) ⟨by omega, by omega, by first | omega | (simp; done) | (simp; omega)⟩) ?_
      refine f_stepPY rfl rfl rfl rfl rfl (o_load Try.isAgg4 rfl (rdA (v := .bool true) (app_get (by rw [bools_at (by omega)]; exact congrArg (fun x => some (Value.bool x)) hA2.src)))) ?_
      refine f_stepPY rfl rfl rfl rfl rfl (o_not rfl) ?_
      refine f_stepP rfl rfl rfl (o_pickF rfl rfl) ?_
      refine f_stepP rfl rfl rfl (o_move rfl) ?_
      refine f_splitLB 92 rfl (fun g92 => ?_) (fun g92 => ?_)
      · skip
        exact absurd g92 (by decide) -- closed
      · skip
        refine f_stepPY rfl rfl rfl rfl rfl (o_move rfl) ?_
        refine f_stepPY rfl rfl rfl rfl rfl (o_move rfl) ?_
        refine f_stepPY rfl rfl rfl rfl rfl (o_idx sl31 rfl rfl (b) ⟨by omega, by omega, by first | omega | (simp; done) | (simp; omega)⟩) ?_
        refine f_stepPY rfl rfl rfl rfl rfl (o_load Try.isAgg4 rfl (rdA (v := .bool false) (app_get (by rw [bools_at (by omega)]; exact congrArg (fun x => some (Value.bool x)) hA2.dst)))) ?_
        refine f_stepP rfl rfl rfl (o_pickF rfl rfl) ?_
        refine f_done ?_
        refine f_tn (kh13 _ _ ?_)
        clear kh13
        refine f_condF rfl ?_
        refine f_skip ?_
        refine f_tn (kh12 _ _ ?_)
        clear kh12
        refine f_seq fun K14 kh14 => ?_
        refine f_region ?_
        refine f_stepP rfl rfl rfl (o_assign rfl) ?_
        refine f_stepP rfl rfl rfl (o_assign rfl) ?_
        refine f_done ?_
        refine f_tn (kh14 _ _ ?_)
        clear kh14
        refine f_seq fun K15 kh15 => ?_
        refine f_seq fun K16 kh16 => ?_
        refine f_region ?_
        refine f_stepP rfl rfl rfl (o_field fa24_1 rfl) ?_
        refine f_stepP rfl rfl rfl (o_load Try.isAgg22 rfl (rdA rfl)) ?_
        refine f_stepP rfl rfl rfl (o_len sl22 rfl) ?_
        refine f_stepP rfl rfl rfl (o_move rfl) ?_
        refine f_done ?_
        refine f_tn (kh16 _ _ ?_)
        clear kh16
        refine f_block ?_
        refine f_loop (α := Nat × Int × Int) [8, 10, 11, 12, 99, 100] (fun ⟨i, sum, at_⟩ => [(101, .int .i64 (i : Int)), (14, .int .u64 sum), (15, .int .i64 at_)]) (fun ⟨i, sum, at_⟩ => [m8, [(bS, blk (sd.map .bool ++ spS) 4)], m11]) (fun ⟨i, sum, at_⟩ => i ≤ l.length ∧ sum = capA (fun v => sd.getD v false) (l.take i) ∧ at_ = ((idxs (cutP sd) (l.take i)).length : Int)) (fun ⟨i, sum, at_⟩ => l.length - i) (0, 0, 0) ?_ ?_ ?_ ?_
        · exact (by repeat (first | exact trivial | refine ⟨rfl, ?_⟩))
        · repeat (first | exact Sub.nil | refine Sub.pick ?_ | refine Sub.castO rfl ?_ | refine Sub.skip ?_)
        · exact ⟨Nat.zero_le _, rfl, rfl⟩
        · rintro ⟨i, sum, at_⟩ ⟨hil, hsum, hat⟩
          have hsb := capA_take (A := (fun v => sd.getD v false)) hwts i (Int.le_refl _) hel
          have hic := idxs_le (cutP sd) l i
          refine f_seq fun K17 kh17 => ?_
          refine f_region ?_
          refine f_stepP rfl rfl rfl (o_lss rfl rfl) ?_
          refine f_done ?_
          refine f_tn (kh17 _ _ ?_)
          clear kh17
          refine f_seq fun K18 kh18 => ?_
          refine f_cond rfl (fun c102 => ?_) (fun c102 => ?_)
          · skip
            refine f_skip ?_
            refine f_tn (kh18 _ _ ?_)
            clear kh18
            refine f_seq fun K19 kh19 => ?_
            refine f_block ?_
            refine f_seq fun K20 kh20 => ?_
            refine f_region ?_
            refine f_stepP rfl rfl rfl (o_move rfl) ?_
            have hi : i < l.length := by omega
            obtain ⟨bq, off, rfl, hS, hc⟩ := hr (flat_ne arcCs arcCs_len (by omega) hi)
            have hgi := hn.good i hi
            have hwi := hwts _ (List.getElem_mem hi)
            refine f_stepP rfl rfl rfl (o_idx sl22 rfl rfl (off + i * 3) ⟨by omega, by omega, by first | omega | (simp; done) | (simp; omega)⟩) ?_
            refine f_stepP rfl rfl rfl (o_loadA (vs := arcCs l[i]) Try.isAgg52 Try.sizeOf52 rfl rfl (roElem arcCs_len hS hc hi)) ?_
            refine f_step rfl rfl rfl (o_alloc Try.zeroValue52 rfl fun b17 => ?_)
            refine f_stepP rfl rfl rfl (o_assign rfl) ?_
            refine f_step0 rfl rfl (o_storeA Try.sizeOf52 rfl rfl rfl rfl (by first | exact Nat.le_of_ble_eq_true rfl | (simp; done) | (simp; omega)) (arcCs l[i]) rfl ?_)
            refine f_done ?_
            refine f_tn (kh20 _ _ ?_)
            clear kh20
            refine f_block ?_
            refine f_seq fun K21 kh21 => ?_
            obtain ⟨bF, spF, rfl, rfl⟩ := hoF.at_ (by omega)
            refine f_region ?_
            refine f_stepP rfl rfl rfl (o_move rfl) ?_
            refine f_stepP rfl rfl rfl (o_field fa52_0 rfl) ?_
            refine f_stepP rfl rfl rfl (o_load Try.isAgg3 rfl (rdA rfl)) ?_
            refine f_stepP rfl rfl rfl (o_idx sl31 rfl rfl (l[i].src.toNat) ⟨by omega, by omega, by first | omega | (simp; done) | (simp; omega)⟩) ?_
            refine f_stepP rfl rfl rfl (o_load Try.isAgg4 rfl (rdA (app_get (bools_at (by omega))))) ?_
            refine f_stepP rfl rfl rfl (o_move rfl) ?_
            refine f_splitLB 112 rfl (fun g112 => ?_) (fun g112 => ?_)
            · skip
              refine f_stepPY rfl rfl rfl rfl rfl (o_move rfl) ?_
              refine f_stepPY rfl rfl rfl rfl rfl (o_field fa52_1 rfl) ?_
              refine f_stepPY rfl rfl rfl rfl rfl (o_load Try.isAgg3 rfl (rdA rfl)) ?_
              refine f_stepPY rfl rfl rfl rfl rfl (o_idx sl31 rfl rfl (l[i].dst.toNat) ⟨by omega, by omega, by first | omega | (simp; done) | (simp; omega)⟩) ?_
              refine f_stepPY rfl rfl rfl rfl rfl (o_load Try.isAgg4 rfl (rdA (app_get (bools_at (by omega))))) ?_
              refine f_stepPY rfl rfl rfl rfl rfl (o_not rfl) ?_
              refine f_stepP rfl rfl rfl (o_pickT rfl rfl) ?_
              refine f_stepP rfl rfl rfl (o_assign rfl) ?_
              refine f_done ?_
              refine f_tn (kh21 _ _ ?_)
              clear kh21
              refine f_condB rfl (fun c106 => ?_) (fun c106 => ?_)
              · skip
                refine f_seq fun K22 kh22 => ?_
                refine f_seq fun K23 kh23 => ?_
                have hcp : cutP sd l[i] = true := by unfold cutP; rw [g112]; exact c106
                obtain ⟨hatl, _⟩ := idxs_at hi hcp
                obtain ⟨bW, spW, rfl, rfl⟩ := hoW.at_ (by obtain ⟨h', _⟩ := idxs_at hi hcp; omega)
                refine f_regionS rfl (by decide +kernel) ?_
                refine f_stillP rfl rfl rfl (o_move rfl) ?_
                refine f_stillP rfl rfl rfl (o_move rfl) ?_
                refine f_stillP rfl rfl rfl (o_idx sl42 rfl rfl (i) ⟨by omega, by omega, by first | omega | (simp; done) | (simp; omega)⟩) ?_
                refine f_stillP rfl rfl rfl (o_load Try.isAgg50 rfl (rdA (app_get (u32s_at (by omega))))) ?_
                refine f_stillP rfl rfl rfl (o_field fa52_2 rfl) ?_
                refine f_stillP rfl rfl rfl (o_load Try.isAgg50 rfl (rdA rfl)) ?_
                refine f_stillP rfl rfl rfl (o_neq rfl rfl) ?_
                refine f_stillP rfl rfl rfl (o_move rfl) ?_
                refine f_falseS 127 rfl (by have := (hsat i hi).1 g112 (by simpa using c106); omega) ?_
                refine f_stillPY rfl rfl rfl rfl rfl (o_move rfl) ?_
                refine f_stillPY rfl rfl rfl rfl rfl (o_move rfl) ?_
                refine f_stillPY rfl rfl rfl rfl rfl (o_len sl32 rfl) ?_
                refine f_stillPY rfl rfl rfl rfl rfl (o_geq rfl rfl) ?_
                refine f_stillP rfl rfl rfl (o_pickF rfl rfl) ?_
                refine f_stillP rfl rfl rfl (o_move rfl) ?_
                refine f_falseS 133 rfl (by obtain ⟨h', _⟩ := idxs_at hi hcp; omega) ?_
                refine f_stillPY rfl rfl rfl rfl rfl (o_move rfl) ?_
                refine f_stillPY rfl rfl rfl rfl rfl (o_move rfl) ?_
                refine f_stillPY rfl rfl rfl rfl rfl (o_idx sl32 rfl rfl ((idxs (cutP sd) (l.take i)).length) ⟨by omega, by omega, by first | omega | (simp; done) | (simp; omega)⟩) ?_
                refine f_stillPY rfl rfl rfl rfl rfl (o_load Try.isAgg3 rfl (rdA (v := .int .i64 (i : Int)) (app_get (by obtain ⟨h', h2⟩ := idxs_at hi hcp; rw [ints_get h', h2])))) ?_
                refine f_stillPY rfl rfl rfl rfl rfl (o_move rfl) ?_
                refine f_stillPY rfl rfl rfl rfl rfl (o_neq rfl rfl) ?_
                refine f_stillP rfl rfl rfl (o_pickF rfl rfl) ?_
                refine f_stillD ?_
                refine f_tn (kh23 _ _ ?_)
                clear kh23
                refine f_condN rfl (by omega) ?_
                refine f_skip ?_
                refine f_tn (kh22 _ _ ?_)
                clear kh22
                refine f_seq fun K24 kh24 => ?_
                refine f_region ?_
                refine f_stepP rfl rfl rfl (o_move rfl) ?_
                refine f_stepP rfl rfl rfl (o_field fa52_2 rfl) ?_
                refine f_stepP rfl rfl rfl (o_load Try.isAgg50 rfl (rdA rfl)) ?_
                refine f_stepP rfl rfl rfl (o_conv Try.runUnderlying50 Try.runUnderlying33 rfl _ (wrap_u64 (by omega))) ?_
                refine f_stepP rfl rfl rfl (o_add rfl rfl _ (wrap_u64 (by omega))) ?_
                refine f_stepP rfl rfl rfl (o_assign rfl) ?_
                refine f_done ?_
                refine f_tn (kh24 _ _ ?_)
                clear kh24
                refine f_region ?_
                refine f_stepP rfl rfl rfl (o_move rfl) ?_
                refine f_stepP rfl rfl rfl (o_add rfl rfl _ (wrap_i64 (by omega))) ?_
                refine f_stepP rfl rfl rfl (o_assign rfl) ?_
                refine f_done ?_
                refine f_bn ?_
                refine f_bn ?_
                refine f_tn (kh19 _ _ ?_)
                clear kh19
                refine f_region ?_
                refine f_stepP rfl rfl rfl (o_add rfl rfl _ (wrap_i64 (by omega))) ?_
                refine f_stepP rfl rfl rfl (o_move rfl) ?_
                refine f_done ?_
                refine f_tn (f_again (i + 1, sum + l[i].wt, at_ + 1) (by first | omega | (dsimp only; omega) | (simp; omega)) ⟨by omega, by rw [capA_next hi, if_pos (by rw [g112]; exact c106), hsum], by rw [idxs_yes hi hcp, List.length_append, hat]; simp⟩ ?_ ?_ ?_)
                · exact (by repeat (first | exact trivial | refine ⟨rfl, ?_⟩))
                · exact (by repeat (first | exact trivial | refine ⟨rfl, ?_⟩))
                · repeat (first | exact Sub.nil | refine Sub.pick ?_ | refine Sub.castO rfl ?_ | refine Sub.skip ?_)
              · skip
                refine f_seq fun K25 kh25 => ?_
                refine f_region ?_
                refine f_stepP rfl rfl rfl (o_move rfl) ?_
                refine f_stepP rfl rfl rfl (o_field fa52_0 rfl) ?_
                refine f_stepP rfl rfl rfl (o_load Try.isAgg3 rfl (rdA rfl)) ?_
                refine f_stepP rfl rfl rfl (o_idx sl31 rfl rfl (l[i].src.toNat) ⟨by omega, by omega, by first | omega | (simp; done) | (simp; omega)⟩) ?_
                refine f_stepP rfl rfl rfl (o_load Try.isAgg4 rfl (rdA (app_get (bools_at (by omega))))) ?_
                refine f_stepP rfl rfl rfl (o_not rfl) ?_
                refine f_stepP rfl rfl rfl (o_move rfl) ?_
                refine f_splitLB 155 rfl (fun g155 => ?_) (fun g155 => ?_)
                · skip
                  refine f_stepPY rfl rfl rfl rfl rfl (o_move rfl) ?_
                  refine f_stepPY rfl rfl rfl rfl rfl (o_field fa52_1 rfl) ?_
                  refine f_stepPY rfl rfl rfl rfl rfl (o_load Try.isAgg3 rfl (rdA rfl)) ?_
                  refine f_stepPY rfl rfl rfl rfl rfl (o_idx sl31 rfl rfl (l[i].dst.toNat) ⟨by omega, by omega, by first | omega | (simp; done) | (simp; omega)⟩) ?_
                  refine f_stepPY rfl rfl rfl rfl rfl (o_load Try.isAgg4 rfl (rdA (app_get (bools_at (by omega))))) ?_
                  refine f_stepP rfl rfl rfl (o_pickT rfl rfl) ?_
                  refine f_stepP rfl rfl rfl (o_move rfl) ?_
                  refine f_splitLB 162 rfl (fun g162 => ?_) (fun g162 => ?_)
                  · skip
                    refine f_stepPY rfl rfl rfl rfl rfl (o_move rfl) ?_
                    refine f_stepPY rfl rfl rfl rfl rfl (o_move rfl) ?_
                    refine f_stepPY rfl rfl rfl rfl rfl (o_idx sl42 rfl rfl (i) ⟨by omega, by omega, by first | omega | (simp; done) | (simp; omega)⟩) ?_
                    refine f_stepPY rfl rfl rfl rfl rfl (o_load Try.isAgg50 rfl (rdA (app_get (u32s_at (by omega))))) ?_
                    refine f_stepPY rfl rfl rfl rfl rfl (o_neq rfl rfl) ?_
                    refine f_stepP rfl rfl rfl (o_pickT rfl rfl) ?_
                    refine f_stepP rfl rfl rfl (o_assign rfl) ?_
                    refine f_done ?_
                    refine f_tn (kh25 _ _ ?_)
                    clear kh25
                    refine f_condN rfl (by have := (hsat i hi).2 (by simpa using g155) g162; omega) ?_
                    refine f_skip ?_
                    refine f_bn ?_
                    refine f_bn ?_
                    refine f_tn (kh19 _ _ ?_)
                    clear kh19
                    refine f_region ?_
                    refine f_stepP rfl rfl rfl (o_add rfl rfl _ (wrap_i64 (by omega))) ?_
                    refine f_stepP rfl rfl rfl (o_move rfl) ?_
                    refine f_done ?_
                    refine f_tn (f_again (i + 1, sum, at_) (by first | omega | (dsimp only; omega) | (simp; omega)) ⟨by omega, by rw [capA_next hi, if_neg (by first | (intro h; simp at h; simp [h] at g112; done) | (intro h; simp at h; simp [h] at c106; done)), hsum]; omega, by rw [idxs_no hi (by unfold cutP; first | (rw [g112]; rfl) | (rw [c106]; exact Bool.and_false _)), hat]⟩ ?_ ?_ ?_)
                    · exact (by repeat (first | exact trivial | refine ⟨rfl, ?_⟩))
                    · exact (by repeat (first | exact trivial | refine ⟨rfl, ?_⟩))
                    · repeat (first | exact Sub.nil | refine Sub.pick ?_ | refine Sub.castO rfl ?_ | refine Sub.skip ?_)
                  · skip
                    refine f_stepN rfl rfl rfl rfl rfl rfl ?_
                    refine f_stepN rfl rfl rfl rfl rfl rfl ?_
                    refine f_stepN rfl rfl rfl rfl rfl rfl ?_
                    refine f_stepN rfl rfl rfl rfl rfl rfl ?_
                    refine f_stepN rfl rfl rfl rfl rfl rfl ?_
                    refine f_stepP rfl rfl rfl (o_pickF rfl rfl) ?_
                    refine f_stepP rfl rfl rfl (o_assign rfl) ?_
                    refine f_done ?_
                    refine f_tn (kh25 _ _ ?_)
                    clear kh25
                    refine f_condF rfl ?_
                    refine f_skip ?_
                    refine f_bn ?_
                    refine f_bn ?_
                    refine f_tn (kh19 _ _ ?_)
                    clear kh19
                    refine f_region ?_
                    refine f_stepP rfl rfl rfl (o_add rfl rfl _ (wrap_i64 (by omega))) ?_
                    refine f_stepP rfl rfl rfl (o_move rfl) ?_
                    refine f_done ?_
                    refine f_tn (f_again (i + 1, sum, at_) (by first | omega | (dsimp only; omega) | (simp; omega)) ⟨by omega, by rw [capA_next hi, if_neg (by first | (intro h; simp at h; simp [h] at g112; done) | (intro h; simp at h; simp [h] at c106; done)), hsum]; omega, by rw [idxs_no hi (by unfold cutP; first | (rw [g112]; rfl) | (rw [c106]; exact Bool.and_false _)), hat]⟩ ?_ ?_ ?_)
                    · exact (by repeat (first | exact trivial | refine ⟨rfl, ?_⟩))
                    · exact (by repeat (first | exact trivial | refine ⟨rfl, ?_⟩))
                    · repeat (first | exact Sub.nil | refine Sub.pick ?_ | refine Sub.castO rfl ?_ | refine Sub.skip ?_)
                · skip
                  refine f_stepN rfl rfl rfl rfl rfl rfl ?_
                  refine f_stepN rfl rfl rfl rfl rfl rfl ?_
                  refine f_stepN rfl rfl rfl rfl rfl rfl ?_
                  refine f_stepN rfl rfl rfl rfl rfl rfl ?_
                  refine f_stepN rfl rfl rfl rfl rfl rfl ?_
                  refine f_stepP rfl rfl rfl (o_pickF rfl rfl) ?_
                  refine f_stepP rfl rfl rfl (o_move rfl) ?_
                  refine f_stepN rfl rfl rfl rfl rfl rfl ?_
                  refine f_stepN rfl rfl rfl rfl rfl rfl ?_
                  refine f_stepN rfl rfl rfl rfl rfl rfl ?_
                  refine f_stepN rfl rfl rfl rfl rfl rfl ?_
                  refine f_stepN rfl rfl rfl rfl rfl rfl ?_
                  refine f_stepP rfl rfl rfl (o_pickF rfl rfl) ?_
                  refine f_stepP rfl rfl rfl (o_assign rfl) ?_
                  refine f_done ?_
                  refine f_tn (kh25 _ _ ?_)
                  clear kh25
                  refine f_condF rfl ?_
                  refine f_skip ?_
                  refine f_bn ?_
                  refine f_bn ?_
                  refine f_tn (kh19 _ _ ?_)
                  clear kh19
                  refine f_region ?_
                  refine f_stepP rfl rfl rfl (o_add rfl rfl _ (wrap_i64 (by omega))) ?_
                  refine f_stepP rfl rfl rfl (o_move rfl) ?_
                  refine f_done ?_
                  refine f_tn (f_again (i + 1, sum, at_) (by first | omega | (dsimp only; omega) | (simp; omega)) ⟨by omega, by rw [capA_next hi, if_neg (by first | (intro h; simp at h; simp [h] at g112; done) | (intro h; simp at h; simp [h] at c106; done)), hsum]; omega, by rw [idxs_no hi (by unfold cutP; first | (rw [g112]; rfl) | (rw [c106]; exact Bool.and_false _)), hat]⟩ ?_ ?_ ?_)
                  · exact (by repeat (first | exact trivial | refine ⟨rfl, ?_⟩))
                  · exact (by repeat (first | exact trivial | refine ⟨rfl, ?_⟩))
                  · repeat (first | exact Sub.nil | refine Sub.pick ?_ | refine Sub.castO rfl ?_ | refine Sub.skip ?_)
            · skip
              refine f_stepN rfl rfl rfl rfl rfl rfl ?_
              refine f_stepN rfl rfl rfl rfl rfl rfl ?_
              refine f_stepN rfl rfl rfl rfl rfl rfl ?_
              refine f_stepN rfl rfl rfl rfl rfl rfl ?_
              refine f_stepN rfl rfl rfl rfl rfl rfl ?_
              refine f_stepN rfl rfl rfl rfl rfl rfl ?_
              refine f_stepP rfl rfl rfl (o_pickF rfl rfl) ?_
              refine f_stepP rfl rfl rfl (o_assign rfl) ?_
              refine f_done ?_
              refine f_tn (kh21 _ _ ?_)
              clear kh21
              refine f_condF rfl ?_
              refine f_seq fun K26 kh26 => ?_
              refine f_region ?_
              refine f_stepP rfl rfl rfl (o_move rfl) ?_
              refine f_stepP rfl rfl rfl (o_field fa52_0 rfl) ?_
              refine f_stepP rfl rfl rfl (o_load Try.isAgg3 rfl (rdA rfl)) ?_
              refine f_stepP rfl rfl rfl (o_idx sl31 rfl rfl (l[i].src.toNat) ⟨by omega, by omega, by first | omega | (simp; done) | (simp; omega)⟩) ?_
              refine f_stepP rfl rfl rfl (o_load Try.isAgg4 rfl (rdA (app_get (bools_at (by omega))))) ?_
              refine f_stepP rfl rfl rfl (o_not rfl) ?_
              refine f_stepP rfl rfl rfl (o_move rfl) ?_
              refine f_splitLB 155 rfl (fun g155 => ?_) (fun g155 => ?_)
              · skip
                refine f_stepPY rfl rfl rfl rfl rfl (o_move rfl) ?_
                refine f_stepPY rfl rfl rfl rfl rfl (o_field fa52_1 rfl) ?_
                refine f_stepPY rfl rfl rfl rfl rfl (o_load Try.isAgg3 rfl (rdA rfl)) ?_
                refine f_stepPY rfl rfl rfl rfl rfl (o_idx sl31 rfl rfl (l[i].dst.toNat) ⟨by omega, by omega, by first | omega | (simp; done) | (simp; omega)⟩) ?_
                refine f_stepPY rfl rfl rfl rfl rfl (o_load Try.isAgg4 rfl (rdA (app_get (bools_at (by omega))))) ?_
                refine f_stepP rfl rfl rfl (o_pickT rfl rfl) ?_
                refine f_stepP rfl rfl rfl (o_move rfl) ?_
                refine f_splitLB 162 rfl (fun g162 => ?_) (fun g162 => ?_)
                · skip
                  refine f_stepPY rfl rfl rfl rfl rfl (o_move rfl) ?_
                  refine f_stepPY rfl rfl rfl rfl rfl (o_move rfl) ?_
                  refine f_stepPY rfl rfl rfl rfl rfl (o_idx sl42 rfl rfl (i) ⟨by omega, by omega, by first | omega | (simp; done) | (simp; omega)⟩) ?_
                  refine f_stepPY rfl rfl rfl rfl rfl (o_load Try.isAgg50 rfl (rdA (app_get (u32s_at (by omega))))) ?_
                  refine f_stepPY rfl rfl rfl rfl rfl (o_neq rfl rfl) ?_
                  refine f_stepP rfl rfl rfl (o_pickT rfl rfl) ?_
                  refine f_stepP rfl rfl rfl (o_assign rfl) ?_
                  refine f_done ?_
                  refine f_tn (kh26 _ _ ?_)
                  clear kh26
                  refine f_condN rfl (by have := (hsat i hi).2 (by simpa using g155) g162; omega) ?_
                  refine f_skip ?_
                  refine f_bn ?_
                  refine f_bn ?_
                  refine f_tn (kh19 _ _ ?_)
                  clear kh19
                  refine f_region ?_
                  refine f_stepP rfl rfl rfl (o_add rfl rfl _ (wrap_i64 (by omega))) ?_
                  refine f_stepP rfl rfl rfl (o_move rfl) ?_
                  refine f_done ?_
                  refine f_tn (f_again (i + 1, sum, at_) (by first | omega | (dsimp only; omega) | (simp; omega)) ⟨by omega, by rw [capA_next hi, if_neg (by first | (intro h; simp at h; simp [h] at g112; done) | (intro h; simp at h; simp [h] at c106; done)), hsum]; omega, by rw [idxs_no hi (by unfold cutP; first | (rw [g112]; rfl) | (rw [c106]; exact Bool.and_false _)), hat]⟩ ?_ ?_ ?_)
                  · exact (by repeat (first | exact trivial | refine ⟨rfl, ?_⟩))
                  · exact (by repeat (first | exact trivial | refine ⟨rfl, ?_⟩))
                  · repeat (first | exact Sub.nil | refine Sub.pick ?_ | refine Sub.castO rfl ?_ | refine Sub.skip ?_)
                · skip
                  refine f_stepN rfl rfl rfl rfl rfl rfl ?_
                  refine f_stepN rfl rfl rfl rfl rfl rfl ?_
                  refine f_stepN rfl rfl rfl rfl rfl rfl ?_
                  refine f_stepN rfl rfl rfl rfl rfl rfl ?_
                  refine f_stepN rfl rfl rfl rfl rfl rfl ?_
                  refine f_stepP rfl rfl rfl (o_pickF rfl rfl) ?_
                  refine f_stepP rfl rfl rfl (o_assign rfl) ?_
                  refine f_done ?_
                  refine f_tn (kh26 _ _ ?_)
                  clear kh26
                  refine f_condF rfl ?_
                  refine f_skip ?_
                  refine f_bn ?_
                  refine f_bn ?_
                  refine f_tn (kh19 _ _ ?_)
                  clear kh19
                  refine f_region ?_
                  refine f_stepP rfl rfl rfl (o_add rfl rfl _ (wrap_i64 (by omega))) ?_
                  refine f_stepP rfl rfl rfl (o_move rfl) ?_
                  refine f_done ?_
                  refine f_tn (f_again (i + 1, sum, at_) (by first | omega | (dsimp only; omega) | (simp; omega)) ⟨by omega, by rw [capA_next hi, if_neg (by first | (intro h; simp at h; simp [h] at g112; done) | (intro h; simp at h; simp [h] at c106; done)), hsum]; omega, by rw [idxs_no hi (by unfold cutP; first | (rw [g112]; rfl) | (rw [c106]; exact Bool.and_false _)), hat]⟩ ?_ ?_ ?_)
                  · exact (by repeat (first | exact trivial | refine ⟨rfl, ?_⟩))
                  · exact (by repeat (first | exact trivial | refine ⟨rfl, ?_⟩))
                  · repeat (first | exact Sub.nil | refine Sub.pick ?_ | refine Sub.castO rfl ?_ | refine Sub.skip ?_)
              · skip
                refine f_stepN rfl rfl rfl rfl rfl rfl ?_
                refine f_stepN rfl rfl rfl rfl rfl rfl ?_
                refine f_stepN rfl rfl rfl rfl rfl rfl ?_
                refine f_stepN rfl rfl rfl rfl rfl rfl ?_
                refine f_stepN rfl rfl rfl rfl rfl rfl ?_
                refine f_stepP rfl rfl rfl (o_pickF rfl rfl) ?_
                refine f_stepP rfl rfl rfl (o_move rfl) ?_
                refine f_stepN rfl rfl rfl rfl rfl rfl ?_
                refine f_stepN rfl rfl rfl rfl rfl rfl ?_
                refine f_stepN rfl rfl rfl rfl rfl rfl ?_
                refine f_stepN rfl rfl rfl rfl rfl rfl ?_
                refine f_stepN rfl rfl rfl rfl rfl rfl ?_
                refine f_stepP rfl rfl rfl (o_pickF rfl rfl) ?_
                refine f_stepP rfl rfl rfl (o_assign rfl) ?_
                refine f_done ?_
                refine f_tn (kh26 _ _ ?_)
                clear kh26
                refine f_condF rfl ?_
                refine f_skip ?_
                refine f_bn ?_
                refine f_bn ?_
                refine f_tn (kh19 _ _ ?_)
                clear kh19
                refine f_region ?_
                refine f_stepP rfl rfl rfl (o_add rfl rfl _ (wrap_i64 (by omega))) ?_
                refine f_stepP rfl rfl rfl (o_move rfl) ?_
                refine f_done ?_
                refine f_tn (f_again (i + 1, sum, at_) (by first | omega | (dsimp only; omega) | (simp; omega)) ⟨by omega, by rw [capA_next hi, if_neg (by first | (intro h; simp at h; simp [h] at g112; done) | (intro h; simp at h; simp [h] at c106; done)), hsum]; omega, by rw [idxs_no hi (by unfold cutP; first | (rw [g112]; rfl) | (rw [c106]; exact Bool.and_false _)), hat]⟩ ?_ ?_ ?_)
                · exact (by repeat (first | exact trivial | refine ⟨rfl, ?_⟩))
                · exact (by repeat (first | exact trivial | refine ⟨rfl, ?_⟩))
                · repeat (first | exact Sub.nil | refine Sub.pick ?_ | refine Sub.castO rfl ?_ | refine Sub.skip ?_)
          · skip
            refine f_exit ?_
            refine f_te ?_
            clear kh18
            refine f_te ?_
            refine f_be ?_
            refine f_tn (kh15 _ _ ?_)
            clear kh15
            refine f_seq fun K27 kh27 => ?_
            refine f_region ?_
            refine f_stepP rfl rfl rfl (o_move rfl) ?_
            refine f_stepP rfl rfl rfl (o_move rfl) ?_
            refine f_stepP rfl rfl rfl (o_eql rfl rfl) ?_
            refine f_stepP rfl rfl rfl (o_move rfl) ?_
            refine f_trueL 173 rfl (by have := List.take_of_length_le (l := l) (i := i) (by omega); rw [this] at hsum; omega) ?_
            refine f_stepPY rfl rfl rfl rfl rfl (o_move rfl) ?_
            refine f_stepPY rfl rfl rfl rfl rfl (o_move rfl) ?_
            refine f_stepPY rfl rfl rfl rfl rfl (o_len sl32 rfl) ?_
            refine f_stepPY rfl rfl rfl rfl rfl (o_eql rfl rfl) ?_
            refine f_stepP rfl rfl rfl (o_pickT rfl rfl) ?_
            refine f_stepP rfl rfl rfl (o_assign rfl) ?_
            refine f_done ?_
            refine f_tn (kh27 _ _ ?_)
            clear kh27
            refine f_ret ?_
            exact f_fin1 [] Try.results5 rfl Sub.nil ⟨by rw [decide_eq_true (by have := List.take_of_length_le (l := l) (i := i) (by omega); rw [this] at hat; omega)], rfl⟩

end Go.Proofs.Ytnagjidfenfdbaa
