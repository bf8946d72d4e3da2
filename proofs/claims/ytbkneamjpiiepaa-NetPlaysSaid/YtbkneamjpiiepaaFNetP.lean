/- The net's law NetPlays. -/
import Derived.Test.YtbkneamjpiiepaaFNetS
namespace Go.Proofs.Ytbkneamjpiiepaa
open Go Go.RowKit Fly
set_option linter.unusedVariables false
set_option linter.unusedSimpArgs false


theorem prefix_next {α : Type} {l r : List α} {k : Nat} (hl : l.length = r.length) (hk : k < l.length) (h : ∀ j (a : j < l.length) (b : j < r.length), j < k → l[j] = r[j]) (e : l[k] = r[k]'(hl ▸ hk)) :
    ∀ j (a : j < l.length) (b : j < r.length), j < k + 1 → l[j] = r[j] := fun j a b hj => by
  by_cases hjk : j = k
  · subst hjk; exact e
  · exact h j a b (by omega)
theorem prefix_all {α : Type} {l r : List α} {k : Nat} (hl : l.length = r.length) (hk : l.length ≤ k) (h : ∀ j (a : j < l.length) (b : j < r.length), j < k → l[j] = r[j]) : l = r :=
  List.ext_getElem hl fun j a b => h j a b (by omega)
theorem ne_at {α : Type} {l r : List α} {k : Nat} (hk : k < l.length) (hk' : k < r.length) (e : l[k] ≠ r[k]) : l ≠ r := fun h => by subst h; exact e rfl
theorem strs_flat (l : List ByteArray) : l.flatMap (fun s => [Value.string s]) = strs l := by
  induction l with
  | nil => rfl
  | cons a l ih => simp only [List.flatMap_cons, ih, strs, List.map_cons, List.singleton_append]
theorem eqP2 (x y : Int × Int) (w : World) : (Op.equalIn 10000 60 (.agg (prCs x).toArray) (.agg (prCs y).toArray)).run Try.prog w = .ok (decide (x = y)) w := by
  have ha : ∀ w, (isAgg 3).run Try.prog w = .ok false w := fun w => by simp [isAgg, run_underlying Try.underlying3]
  have := fun (p q : Int) w => run_equalIn_int (P := Try.prog) w 9998 3 .i64 .i64 p q Try.underlying3
  have hc : Try.prog.cellsOf 3 = 1 := by kernel_rfl
  rw [run_equalIn_array (P := Try.prog) (w := w) 9999 _ _ Try.underlying60 (Option.eq_some_of_isSome (by kernel_rfl)), hc]
  simp only [prCs, show List.range 2 = [0, 1] from rfl, Op.eqItems, part, Sem.run_bind, ha, Result.andThen_ok, this]
  obtain ⟨a, b⟩ := x
  obtain ⟨c, d⟩ := y
  by_cases h1 : a = c <;> by_cases h2 : b = d <;> simp [h1, h2, part, ha, this]
theorem Sub.pairR {segs out : List Seg} {m : Seg} (h : Sub segs (m :: out)) : Sub segs [m, out.flatten] := by
  obtain ⟨rest, h⟩ := h
  exact ⟨rest, by simpa using h⟩
theorem NetRep.tno {A : NetM} {bn : Nat} {m : Seg} (h : NetRep A bn m) : ∀ t ∈ A.timers, 0 ≤ t.1 ∧ t.1 < (A.down.length : Int) := by
  obtain ⟨bd, bm, ents, clk, tv, mt, G, _, hA⟩ := h
  exact hA.tno
theorem NetRep.timl {A : NetM} {bn : Nat} {m : Seg} (h : NetRep A bn m) : A.timers.length ≤ 16384 := by
  obtain ⟨bd, bm, ents, clk, tv, mt, G, _, hA⟩ := h
  exact hA.timl
theorem NetRep.tick_len {A : NetM} {bn : Nat} {m : Seg} (h : NetRep A bn m) : A.tick.1.1.length ≤ 16384 := by
  unfold NetM.tick
  split
  · exact Nat.zero_le _
  · have hd : ∀ t ∈ A.due, 0 ≤ t.1 ∧ t.1 < 65 := fun t ht => by
      have := h.tno t (List.mem_filter.1 ht).1
      have := h.lens.1
      omega
    show (byNode A.due).length ≤ 16384
    rw [(byNode_len hd).length_eq]
    exact Nat.le_trans (List.length_filter_le _ _) h.timl

set_option maxRecDepth 100000 in
set_option maxHeartbeats 4000000 in
theorem SameTexts_spec (A B : Option Addr) (l r : List ByteArray) (ca cb : Nat) (w : World) (hl : Ro (Fr w []) w A (strs l)) (hr : Ro (Fr w []) w B (strs r)) (hm : l.length ≤ 1000000000) :
    Meets Try.prog 45 [.slice A l.length ca, .slice B r.length cb] w [] (fun u m => u = .bool (decide (l = r)) ∧ m = []) := by
  refine f_enter Try.func45 rfl Try.ntmps45 rfl Owns.nil ?_
  refine f_seq fun K1 kh1 => ?_
  refine f_region ?_
  refine f_stepP rfl rfl rfl (o_assign rfl) ?_
  refine f_done ?_
  refine f_tn (kh1 _ _ ?_)
  clear kh1
  refine f_seq fun K2 kh2 => ?_
  refine f_seq fun K3 kh3 => ?_
  refine f_region ?_
  refine f_stepP rfl rfl rfl (o_move rfl) ?_
  refine f_stepP rfl rfl rfl (o_len sl32 rfl) ?_
  refine f_stepP rfl rfl rfl (o_move rfl) ?_
  refine f_stepP rfl rfl rfl (o_len sl32 rfl) ?_
  refine f_stepP rfl rfl rfl (o_neq rfl rfl) ?_
  refine f_done ?_
  refine f_tn (kh3 _ _ ?_)
  clear kh3
  refine f_cond rfl (fun c10 => ?_) (fun c10 => ?_)
  · skip
    refine f_seq fun K4 kh4 => ?_
    refine f_region ?_
    refine f_stepP rfl rfl rfl (o_assign rfl) ?_
    refine f_done ?_
    refine f_tn (kh4 _ _ ?_)
    clear kh4
    refine f_ret ?_
    refine f_tr ?_
    exact f_fin1 [] Try.results45 rfl Sub.nil ⟨by rw [decide_eq_false]; intro e; subst e; omega, rfl⟩
  · skip
    have hlr : l.length = r.length := by omega
    refine f_skip ?_
    refine f_tn (kh2 _ _ ?_)
    clear kh2
    refine f_seq fun K5 kh5 => ?_
    refine f_seq fun K6 kh6 => ?_
    refine f_region ?_
    refine f_stepP rfl rfl rfl (o_assign rfl) ?_
    refine f_done ?_
    refine f_tn (kh6 _ _ ?_)
    clear kh6
    refine f_block ?_
    refine f_loopK (α := Nat) [0, 1] (fun k => [(5, .int .i64 (k : Int))]) (fun k => k ≤ l.length ∧ ∀ j (a : j < l.length) (b : j < r.length), j < k → l[j] = r[j]) (fun k => l.length - k) (0) ?_ ?_ ?_
    · exact (by repeat (first | exact trivial | refine ⟨rfl, ?_⟩))
    · exact ⟨by omega, fun j _ _ hj => by omega⟩
    · rintro k ⟨hkl, hpre⟩
      refine f_seq fun K7 kh7 => ?_
      refine f_seq fun K8 kh8 => ?_
      refine f_region ?_
      refine f_stepP rfl rfl rfl (o_move rfl) ?_
      refine f_stepP rfl rfl rfl (o_move rfl) ?_
      refine f_stepP rfl rfl rfl (o_len sl32 rfl) ?_
      refine f_stepP rfl rfl rfl (o_lss rfl rfl) ?_
      refine f_done ?_
      refine f_tn (kh8 _ _ ?_)
      clear kh8
      refine f_cond rfl (fun c14 => ?_) (fun c14 => ?_)
      · skip
        have hk : k < l.length := by omega
        have hk' : k < r.length := by omega
        obtain ⟨b1, o1, rfl, hS1, hc1⟩ := hl (fun e => by have := strs_length l; rw [e] at this; simp at this; omega)
        obtain ⟨b2, o2, rfl, hS2, hc2⟩ := hr (fun e => by have := strs_length r; rw [e] at this; simp at this; omega)
        refine f_skip ?_
        refine f_tn (kh7 _ _ ?_)
        clear kh7
        refine f_seq fun K9 kh9 => ?_
        refine f_block ?_
        refine f_seq fun K10 kh10 => ?_
        refine f_regionS rfl (by decide +kernel) ?_
        refine f_stillP rfl rfl rfl (o_move rfl) ?_
        refine f_stillP rfl rfl rfl (o_move rfl) ?_
        refine f_stillP rfl rfl rfl (o_idx sl32 rfl rfl (o1 + k) ⟨by omega, by omega, by first | omega | (simp; done) | (simp; omega)⟩) ?_
        refine f_stillP rfl rfl rfl (o_load Try.isAgg9 rfl (roOne (enc := Value.string) hS1 hc1 hk)) ?_
        refine f_stillP rfl rfl rfl (o_move rfl) ?_
        refine f_stillP rfl rfl rfl (o_move rfl) ?_
        refine f_stillP rfl rfl rfl (o_idx sl32 rfl rfl (o2 + k) ⟨by omega, by omega, by first | omega | (simp; done) | (simp; omega)⟩) ?_
        refine f_stillP rfl rfl rfl (o_load Try.isAgg9 rfl (roOne (enc := Value.string) hS2 hc2 hk')) ?_
        refine f_stillP rfl rfl rfl (o_neqS rfl rfl) ?_
        refine f_stillD ?_
        refine f_tn (kh10 _ _ ?_)
        clear kh10
        refine f_cond rfl (fun c25 => ?_) (fun c25 => ?_)
        · skip
          refine f_seq fun K11 kh11 => ?_
          refine f_region ?_
          refine f_stepP rfl rfl rfl (o_assign rfl) ?_
          refine f_done ?_
          refine f_tn (kh11 _ _ ?_)
          clear kh11
          refine f_ret ?_
          refine f_br ?_
          refine f_tr ?_
          refine f_tr ?_
          refine f_br ?_
          refine f_tr ?_
          exact f_fin1 [] Try.results45 rfl Sub.nil ⟨by rw [decide_eq_false]; exact ne_at hk hk' c25, rfl⟩
        · skip
          refine f_skip ?_
          refine f_bn ?_
          refine f_tn (kh9 _ _ ?_)
          clear kh9
          refine f_region ?_
          refine f_stepP rfl rfl rfl (o_move rfl) ?_
          refine f_stepP rfl rfl rfl (o_add rfl rfl _ (wrap_i64 (by omega))) ?_
          refine f_stepP rfl rfl rfl (o_assign rfl) ?_
          refine f_done ?_
          refine f_tn (f_again (k + 1) (by first | omega | (dsimp only; omega) | (simp; omega)) ⟨by omega, prefix_next hlr hk hpre (by simpa using c25)⟩ ?_ ?_ ?_)
          · exact (by repeat (first | exact trivial | refine ⟨rfl, ?_⟩))
          · exact (by repeat (first | exact trivial | refine ⟨rfl, ?_⟩))
          · repeat (first | exact Sub.nil | refine Sub.pick ?_ | refine Sub.castO rfl ?_ | refine Sub.skip ?_)
      · skip
        refine f_exit ?_
        refine f_te ?_
        clear kh7
        refine f_te ?_
        refine f_be ?_
        refine f_tn (kh5 _ _ ?_)
        clear kh5
        refine f_seq fun K12 kh12 => ?_
        refine f_region ?_
        refine f_stepP rfl rfl rfl (o_assign rfl) ?_
        refine f_done ?_
        refine f_tn (kh12 _ _ ?_)
        clear kh12
        refine f_ret ?_
        exact f_fin1 [] Try.results45 rfl Sub.nil ⟨by rw [decide_eq_true]; exact prefix_all hlr (by omega) hpre, rfl⟩

set_option maxRecDepth 100000 in
set_option maxHeartbeats 4000000 in
theorem sameTimers_spec (A B : Option Addr) (l r : List T3) (ca cb : Nat) (w : World) (hl : Ro (Fr w []) w A (l.flatMap timCs)) (hr : Ro (Fr w []) w B (r.flatMap timCs)) (hm : l.length ≤ 1000000000) :
    Meets Try.prog 50 [.slice A l.length ca, .slice B r.length cb] w [] (fun u m => u = .bool (decide (l = r)) ∧ m = []) := by
  refine f_enter Try.func50 rfl Try.ntmps50 rfl Owns.nil ?_
  refine f_seq fun K1 kh1 => ?_
  refine f_region ?_
  refine f_stepP rfl rfl rfl (o_assign rfl) ?_
  refine f_done ?_
  refine f_tn (kh1 _ _ ?_)
  clear kh1
  refine f_seq fun K2 kh2 => ?_
  refine f_seq fun K3 kh3 => ?_
  refine f_region ?_
  refine f_stepP rfl rfl rfl (o_move rfl) ?_
  refine f_stepP rfl rfl rfl (o_len sl36 rfl) ?_
  refine f_stepP rfl rfl rfl (o_move rfl) ?_
  refine f_stepP rfl rfl rfl (o_len sl36 rfl) ?_
  refine f_stepP rfl rfl rfl (o_neq rfl rfl) ?_
  refine f_done ?_
  refine f_tn (kh3 _ _ ?_)
  clear kh3
  refine f_cond rfl (fun c10 => ?_) (fun c10 => ?_)
  · skip
    refine f_seq fun K4 kh4 => ?_
    refine f_region ?_
    refine f_stepP rfl rfl rfl (o_assign rfl) ?_
    refine f_done ?_
    refine f_tn (kh4 _ _ ?_)
    clear kh4
    refine f_ret ?_
    refine f_tr ?_
    exact f_fin1 [] Try.results50 rfl Sub.nil ⟨by rw [decide_eq_false]; intro e; subst e; omega, rfl⟩
  · skip
    have hlr : l.length = r.length := by omega
    refine f_skip ?_
    refine f_tn (kh2 _ _ ?_)
    clear kh2
    refine f_seq fun K5 kh5 => ?_
    refine f_seq fun K6 kh6 => ?_
    refine f_region ?_
    refine f_stepP rfl rfl rfl (o_assign rfl) ?_
    refine f_done ?_
    refine f_tn (kh6 _ _ ?_)
    clear kh6
    refine f_block ?_
    refine f_loopK (α := Nat) [0, 1] (fun k => [(5, .int .i64 (k : Int))]) (fun k => k ≤ l.length ∧ ∀ j (a : j < l.length) (b : j < r.length), j < k → l[j] = r[j]) (fun k => l.length - k) (0) ?_ ?_ ?_
    · exact (by repeat (first | exact trivial | refine ⟨rfl, ?_⟩))
    · exact ⟨by omega, fun j _ _ hj => by omega⟩
    · rintro k ⟨hkl, hpre⟩
      refine f_seq fun K7 kh7 => ?_
      refine f_seq fun K8 kh8 => ?_
      refine f_region ?_
      refine f_stepP rfl rfl rfl (o_move rfl) ?_
      refine f_stepP rfl rfl rfl (o_move rfl) ?_
      refine f_stepP rfl rfl rfl (o_len sl36 rfl) ?_
      refine f_stepP rfl rfl rfl (o_lss rfl rfl) ?_
      refine f_done ?_
      refine f_tn (kh8 _ _ ?_)
      clear kh8
      refine f_cond rfl (fun c14 => ?_) (fun c14 => ?_)
      · skip
        have hk : k < l.length := by omega
        have hk' : k < r.length := by omega
        obtain ⟨b1, o1, rfl, hS1, hc1⟩ := hl (flat_ne timCs timCs_len (by omega) hk)
        obtain ⟨b2, o2, rfl, hS2, hc2⟩ := hr (flat_ne timCs timCs_len (by omega) hk')
        refine f_skip ?_
        refine f_tn (kh7 _ _ ?_)
        clear kh7
        refine f_seq fun K9 kh9 => ?_
        refine f_block ?_
        refine f_seq fun K10 kh10 => ?_
        refine f_regionS rfl (by decide +kernel) ?_
        refine f_stillP rfl rfl rfl (o_move rfl) ?_
        refine f_stillP rfl rfl rfl (o_move rfl) ?_
        refine f_stillP rfl rfl rfl (o_idx sl36 rfl rfl (o1 + k * 3) ⟨by omega, by omega, by first | omega | (simp; done) | (simp; omega)⟩) ?_
        refine f_stillP rfl rfl rfl (o_loadA (vs := timCs l[k]) Try.isAgg41 Try.sizeOf41 rfl rfl (roElem timCs_len hS1 hc1 hk)) ?_
        refine f_stillP rfl rfl rfl (o_move rfl) ?_
        refine f_stillP rfl rfl rfl (o_move rfl) ?_
        refine f_stillP rfl rfl rfl (o_idx sl36 rfl rfl (o2 + k * 3) ⟨by omega, by omega, by first | omega | (simp; done) | (simp; omega)⟩) ?_
        refine f_stillP rfl rfl rfl (o_loadA (vs := timCs r[k]) Try.isAgg41 Try.sizeOf41 rfl rfl (roElem timCs_len hS2 hc2 hk')) ?_
        refine f_stillP rfl rfl rfl (o_neqA Try.eqGuardType41 (eqTim l[k] r[k]) rfl rfl) ?_
        refine f_stillD ?_
        refine f_tn (kh10 _ _ ?_)
        clear kh10
        refine f_cond rfl (fun c25 => ?_) (fun c25 => ?_)
        · skip
          refine f_seq fun K11 kh11 => ?_
          refine f_region ?_
          refine f_stepP rfl rfl rfl (o_assign rfl) ?_
          refine f_done ?_
          refine f_tn (kh11 _ _ ?_)
          clear kh11
          refine f_ret ?_
          refine f_br ?_
          refine f_tr ?_
          refine f_tr ?_
          refine f_br ?_
          refine f_tr ?_
          exact f_fin1 [] Try.results50 rfl Sub.nil ⟨by rw [decide_eq_false]; exact ne_at hk hk' c25, rfl⟩
        · skip
          refine f_skip ?_
          refine f_bn ?_
          refine f_tn (kh9 _ _ ?_)
          clear kh9
          refine f_region ?_
          refine f_stepP rfl rfl rfl (o_move rfl) ?_
          refine f_stepP rfl rfl rfl (o_add rfl rfl _ (wrap_i64 (by omega))) ?_
          refine f_stepP rfl rfl rfl (o_assign rfl) ?_
          refine f_done ?_
          refine f_tn (f_again (k + 1) (by first | omega | (dsimp only; omega) | (simp; omega)) ⟨by omega, prefix_next hlr hk hpre (by simpa using c25)⟩ ?_ ?_ ?_)
          · exact (by repeat (first | exact trivial | refine ⟨rfl, ?_⟩))
          · exact (by repeat (first | exact trivial | refine ⟨rfl, ?_⟩))
          · repeat (first | exact Sub.nil | refine Sub.pick ?_ | refine Sub.castO rfl ?_ | refine Sub.skip ?_)
      · skip
        refine f_exit ?_
        refine f_te ?_
        clear kh7
        refine f_te ?_
        refine f_be ?_
        refine f_tn (kh5 _ _ ?_)
        clear kh5
        refine f_seq fun K12 kh12 => ?_
        refine f_region ?_
        refine f_stepP rfl rfl rfl (o_assign rfl) ?_
        refine f_done ?_
        refine f_tn (kh12 _ _ ?_)
        clear kh12
        refine f_ret ?_
        exact f_fin1 [] Try.results50 rfl Sub.nil ⟨by rw [decide_eq_true]; exact prefix_all hlr (by omega) hpre, rfl⟩

set_option maxRecDepth 100000 in
set_option maxHeartbeats 4000000 in
theorem names_spec (w : World) : Meets Try.prog 23 [] w [] (fun u m => u = .bool true ∧ m = []) := by
  refine f_enter Try.func23 rfl Try.ntmps23 rfl Owns.nil ?_
  refine f_seq fun K1 kh1 => ?_
  refine f_region ?_
  refine f_stepP rfl rfl rfl (o_assign rfl) ?_
  refine f_done ?_
  refine f_tn (kh1 _ _ ?_)
  clear kh1
  refine f_seq fun K2 kh2 => ?_
  refine f_region ?_
  refine f_stepP rfl rfl rfl (o_assign rfl) ?_
  refine f_done ?_
  refine f_tn (kh2 _ _ ?_)
  clear kh2
  refine f_ret ?_
  exact f_fin1 [] Try.results23 rfl Sub.nil ⟨rfl, rfl⟩

set_option maxRecDepth 100000 in
set_option maxHeartbeats 4000000 in
theorem step_spec (A : NetM) (R : NetR) (bn rn : Nat) (mA mR : Seg) (a : NAct) (w : World) (hA : NetRep A bn mA) (hR : RNet R rn mR) (hS : Sim A R) (hle : R.lts.length < 1000000) (hw : Owns w [mA, mR]) :
    Meets Try.prog 24 [.pointer (some ⟨bn, 0, none⟩), .pointer (some ⟨rn, 0, none⟩), .agg (nactCs a).toArray] w [mA, mR]
      (fun u own' => u = .bool true ∧ ∃ A' R' mA' mR', own' = [mA', mR'] ∧ NetRep A' bn mA' ∧ RNet R' rn mR' ∧ Sim A' R' ∧ R'.lts.length ≤ R.lts.length + 1) := by
  refine f_enter Try.func24 rfl Try.ntmps24 rfl hw ?_
  refine f_seq fun K1 kh1 => ?_
  refine f_region ?_
  refine f_step rfl rfl rfl (o_box rfl rfl fun b5 => ?_)
  refine f_stepP rfl rfl rfl (o_assign rfl) ?_
  refine f_done ?_
  refine f_tn (kh1 _ _ ?_)
  clear kh1
  refine f_seq fun K2 kh2 => ?_
  refine f_seq fun K3 kh3 => ?_
  refine f_region ?_
  refine f_stepP rfl rfl rfl (o_field fa45_0 rfl) ?_
  refine f_stepP rfl rfl rfl (o_load Try.isAgg3 rfl (rdA rfl)) ?_
  refine f_step rfl rfl rfl (o_call Try.call13 rfl (fun w_ hp_ => among_spec a.kind 9 w_ (by decide)) ?_)
  rintro _ _ ⟨⟨kd, rfl, hk0, hk1⟩, rfl⟩
  dsimp only [List.cons_append, List.nil_append]
  refine f_done ?_
  refine f_tn (kh3 _ _ ?_)
  clear kh3
  refine f_block ?_
  refine f_seq fun K4 kh4 => ?_
  refine f_region ?_
  refine f_stepP rfl rfl rfl (o_eql rfl rfl) ?_
  refine f_stepP rfl rfl rfl (o_assign rfl) ?_
  refine f_done ?_
  refine f_tn (kh4 _ _ ?_)
  clear kh4
  refine f_cond rfl (fun c22 => ?_) (fun c22 => ?_)
  · skip
    refine f_seq fun K5 kh5 => ?_
    refine f_regionH [[(b5, blk (nactCs a) 45)]] rfl ?_
    refine f_take 0 rfl (by decide +kernel) rfl rfl rfl (by repeat (first | exact Sub.nil | refine Sub.pick ?_ | refine Sub.castO rfl ?_ | refine Sub.skip ?_)) (o_move rfl) ?_
    refine f_take 1 rfl (by decide +kernel) rfl rfl rfl (by repeat (first | exact Sub.nil | refine Sub.pick ?_ | refine Sub.castO rfl ?_ | refine Sub.skip ?_)) (o_field fa45_1 rfl) ?_
    refine f_take 2 rfl (by decide +kernel) rfl rfl rfl (by repeat (first | exact Sub.nil | refine Sub.pick ?_ | refine Sub.castO rfl ?_ | refine Sub.skip ?_)) (o_load Try.isAgg3 rfl (rdA rfl)) ?_
    refine f_take 3 rfl (by decide +kernel) rfl rfl rfl (by repeat (first | exact Sub.nil | refine Sub.pick ?_ | refine Sub.castO rfl ?_ | refine Sub.skip ?_)) (o_field fa45_2 rfl) ?_
    refine f_take 4 rfl (by decide +kernel) rfl rfl rfl (by repeat (first | exact Sub.nil | refine Sub.pick ?_ | refine Sub.castO rfl ?_ | refine Sub.skip ?_)) (o_load Try.isAgg3 rfl (rdA rfl)) ?_
    refine f_take 5 rfl (by decide +kernel) rfl rfl rfl (by repeat (first | exact Sub.nil | refine Sub.pick ?_ | refine Sub.castO rfl ?_ | refine Sub.skip ?_)) (o_field fa45_4 rfl) ?_
    refine f_take 6 rfl (by decide +kernel) rfl rfl rfl (by repeat (first | exact Sub.nil | refine Sub.pick ?_ | refine Sub.castO rfl ?_ | refine Sub.skip ?_)) (o_load Try.isAgg9 rfl (rdA rfl)) ?_
    refine f_take 8 rfl (by decide +kernel) rfl rfl rfl (by repeat (first | exact Sub.nil | refine Sub.pick ?_ | refine Sub.castO rfl ?_ | refine Sub.skip ?_)) (o_move rfl) ?_
    refine f_take 9 rfl (by decide +kernel) rfl rfl rfl (by repeat (first | exact Sub.nil | refine Sub.pick ?_ | refine Sub.castO rfl ?_ | refine Sub.skip ?_)) (o_field fa45_1 rfl) ?_
    refine f_take 10 rfl (by decide +kernel) rfl rfl rfl (by repeat (first | exact Sub.nil | refine Sub.pick ?_ | refine Sub.castO rfl ?_ | refine Sub.skip ?_)) (o_load Try.isAgg3 rfl (rdA rfl)) ?_
    refine f_take 11 rfl (by decide +kernel) rfl rfl rfl (by repeat (first | exact Sub.nil | refine Sub.pick ?_ | refine Sub.castO rfl ?_ | refine Sub.skip ?_)) (o_field fa45_2 rfl) ?_
    refine f_take 12 rfl (by decide +kernel) rfl rfl rfl (by repeat (first | exact Sub.nil | refine Sub.pick ?_ | refine Sub.castO rfl ?_ | refine Sub.skip ?_)) (o_load Try.isAgg3 rfl (rdA rfl)) ?_
    refine f_take 13 rfl (by decide +kernel) rfl rfl rfl (by repeat (first | exact Sub.nil | refine Sub.pick ?_ | refine Sub.castO rfl ?_ | refine Sub.skip ?_)) (o_field fa45_4 rfl) ?_
    refine f_take 14 rfl (by decide +kernel) rfl rfl rfl (by repeat (first | exact Sub.nil | refine Sub.pick ?_ | refine Sub.castO rfl ?_ | refine Sub.skip ?_)) (o_load Try.isAgg9 rfl (rdA rfl)) ?_
    refine f_only 7 rfl (by decide +kernel) rfl rfl rfl (o_callM [mA] _ Try.call10 rfl (Sub.pick Sub.refl) (fun w_ hp_ => Send_spec A bn mA (a.fr, a.dst) a.body w_ hA hp_.owns) ?_)
    rintro _ _ ⟨rfl, mA2, rfl, hA2⟩
    dsimp only [List.cons_append, List.nil_append]
    refine ⟨(by repeat (first | exact Sub.nil | refine Sub.pick ?_ | refine Sub.castO rfl ?_ | refine Sub.skip ?_)), ?_⟩
    refine f_only 15 rfl (by decide +kernel) rfl rfl rfl (o_callM [mR] _ Try.call40 rfl (Sub.pick Sub.refl) (fun w_ hp_ => RSend_spec R rn mR (a.fr, a.dst) a.body w_ hR hp_.owns (by omega)) ?_)
    rintro _ _ ⟨rfl, mR2, rfl, hR2⟩
    have hal := hS.send (a.fr, a.dst) a.body
    rw [hal.eq]
    dsimp only [List.cons_append, List.nil_append]
    refine ⟨(by repeat (first | exact Sub.nil | refine Sub.pick ?_ | refine Sub.castO rfl ?_ | refine Sub.skip ?_)), ?_⟩
    refine f_take 16 rfl (by decide +kernel) rfl rfl rfl (by repeat (first | exact Sub.nil | refine Sub.pick ?_ | refine Sub.castO rfl ?_ | refine Sub.skip ?_)) (o_eql rfl rfl) ?_
    refine f_only 17 rfl (by decide +kernel) rfl rfl rfl ((o_assign rfl).does ⟨(by repeat (first | exact Sub.nil | refine Sub.pick ?_ | refine Sub.castO rfl ?_ | refine Sub.skip ?_)), ?_⟩)
    refine f_over (by decide +kernel) ?_
    refine f_tn (kh5 _ _ ?_)
    clear kh5
    refine f_ret ?_
    refine f_br ?_
    refine f_tr ?_
    exact f_fin1 [mA2, mR2] Try.results24 rfl (by repeat (first | exact Sub.nil | refine Sub.pick ?_)) ⟨by simp, _, _, mA2, mR2, rfl, hA2, hR2, hal.sim, hal.more⟩
  · skip
    refine f_seq fun K6 kh6 => ?_
    refine f_region ?_
    refine f_stepP rfl rfl rfl (o_eql rfl rfl) ?_
    refine f_stepP rfl rfl rfl (o_assign rfl) ?_
    refine f_done ?_
    refine f_tn (kh6 _ _ ?_)
    clear kh6
    refine f_cond rfl (fun c41 => ?_) (fun c41 => ?_)
    · skip
      refine f_seq fun K7 kh7 => ?_
      refine f_region ?_
      refine f_stepP rfl rfl rfl (o_move rfl) ?_
      refine f_stepP rfl rfl rfl (o_field fa45_1 rfl) ?_
      refine f_stepP rfl rfl rfl (o_load Try.isAgg3 rfl (rdA rfl)) ?_
      refine f_stepP rfl rfl rfl (o_field fa45_2 rfl) ?_
      refine f_stepP rfl rfl rfl (o_load Try.isAgg3 rfl (rdA rfl)) ?_
      refine f_stepP rfl rfl rfl (o_field fa45_3 rfl) ?_
      refine f_stepP rfl rfl rfl (o_load Try.isAgg3 rfl (rdA rfl)) ?_
      refine f_step rfl rfl rfl (o_callM [mA] _ Try.call12 rfl (Sub.pick Sub.refl) (fun w_ hp_ => Take_spec A bn mA (a.fr, a.dst) a.k w_ hA hp_.owns) ?_)
      rintro _ _ ⟨rfl, mA2, rfl, hA2⟩
      dsimp only [List.cons_append, List.nil_append]
      refine f_stepP rfl rfl rfl (o_move rfl) ?_
      refine f_stepP rfl rfl rfl (o_extract rfl rfl) ?_
      refine f_stepP rfl rfl rfl (o_extract rfl rfl) ?_
      refine f_stepP rfl rfl rfl (o_assign rfl) ?_
      refine f_stepP rfl rfl rfl (o_assign rfl) ?_
      refine f_done ?_
      refine f_tn (kh7 _ _ ?_)
      clear kh7
      refine f_seq fun K8 kh8 => ?_
      refine f_region ?_
      refine f_stepP rfl rfl rfl (o_move rfl) ?_
      refine f_stepP rfl rfl rfl (o_field fa45_1 rfl) ?_
      refine f_stepP rfl rfl rfl (o_load Try.isAgg3 rfl (rdA rfl)) ?_
      refine f_stepP rfl rfl rfl (o_field fa45_2 rfl) ?_
      refine f_stepP rfl rfl rfl (o_load Try.isAgg3 rfl (rdA rfl)) ?_
      refine f_stepP rfl rfl rfl (o_field fa45_3 rfl) ?_
      refine f_stepP rfl rfl rfl (o_load Try.isAgg3 rfl (rdA rfl)) ?_
      refine f_step rfl rfl rfl (o_callM [mR] _ Try.call41 rfl (Sub.pick Sub.refl) (fun w_ hp_ => RTake_spec R rn mR (a.fr, a.dst) a.k w_ hR hp_.owns) ?_)
      rintro _ _ ⟨rfl, mR2, rfl, hR2⟩
      have hal := hS.take (a.fr, a.dst) a.k
      rw [hal.eq]
      dsimp only [List.cons_append, List.nil_append]
      refine f_stepP rfl rfl rfl (o_move rfl) ?_
      refine f_stepP rfl rfl rfl (o_extract rfl rfl) ?_
      refine f_stepP rfl rfl rfl (o_extract rfl rfl) ?_
      refine f_stepP rfl rfl rfl (o_assign rfl) ?_
      refine f_stepP rfl rfl rfl (o_assign rfl) ?_
      refine f_done ?_
      refine f_tn (kh8 _ _ ?_)
      clear kh8
      refine f_seq fun K9 kh9 => ?_
      refine f_region ?_
      refine f_stepP rfl rfl rfl (o_move rfl) ?_
      refine f_stepP rfl rfl rfl (o_move rfl) ?_
      refine f_stepP rfl rfl rfl (o_eqlS rfl rfl) ?_
      refine f_stepP rfl rfl rfl (o_move rfl) ?_
      refine f_splitL 68 rfl (fun g68 => ?_) (fun g68 => ?_)
      · skip
        refine f_stepPY rfl rfl rfl rfl rfl (o_move rfl) ?_
        refine f_stepPY rfl rfl rfl rfl rfl (o_move rfl) ?_
        refine f_stepPY rfl rfl rfl rfl rfl (o_eql rfl rfl) ?_
        refine f_stepP rfl rfl rfl (o_pickT rfl rfl) ?_
        refine f_stepP rfl rfl rfl (o_assign rfl) ?_
        refine f_done ?_
        refine f_tn (kh9 _ _ ?_)
        clear kh9
        refine f_ret ?_
        refine f_br ?_
        refine f_tr ?_
        exact f_fin1 [mA2, mR2] Try.results24 rfl (by repeat (first | exact Sub.nil | refine Sub.pick ?_)) ⟨by simp, _, _, mA2, mR2, rfl, hA2, hR2, hal.sim, hal.more⟩
      · skip
        refine f_stepN rfl rfl rfl rfl rfl rfl ?_
        refine f_stepN rfl rfl rfl rfl rfl rfl ?_
        refine f_stepN rfl rfl rfl rfl rfl rfl ?_
        refine f_stepP rfl rfl rfl (o_pickF rfl rfl) ?_
        refine f_stepP rfl rfl rfl (o_assign rfl) ?_
        refine f_done ?_
        refine f_tn (kh9 _ _ ?_)
        clear kh9
        refine f_ret ?_
        refine f_br ?_
        refine f_tr ?_
        exact absurd rfl g68
    · skip
      refine f_seq fun K10 kh10 => ?_
      refine f_region ?_
      refine f_stepP rfl rfl rfl (o_eql rfl rfl) ?_
      refine f_stepP rfl rfl rfl (o_assign rfl) ?_
      refine f_done ?_
      refine f_tn (kh10 _ _ ?_)
      clear kh10
      refine f_cond rfl (fun c73 => ?_) (fun c73 => ?_)
      · skip
        refine f_seq fun K11 kh11 => ?_
        refine f_regionH [[(b5, blk (nactCs a) 45)]] rfl ?_
        refine f_take 0 rfl (by decide +kernel) rfl rfl rfl (by repeat (first | exact Sub.nil | refine Sub.pick ?_ | refine Sub.castO rfl ?_ | refine Sub.skip ?_)) (o_move rfl) ?_
        refine f_take 1 rfl (by decide +kernel) rfl rfl rfl (by repeat (first | exact Sub.nil | refine Sub.pick ?_ | refine Sub.castO rfl ?_ | refine Sub.skip ?_)) (o_field fa45_1 rfl) ?_
        refine f_take 2 rfl (by decide +kernel) rfl rfl rfl (by repeat (first | exact Sub.nil | refine Sub.pick ?_ | refine Sub.castO rfl ?_ | refine Sub.skip ?_)) (o_load Try.isAgg3 rfl (rdA rfl)) ?_
        refine f_take 3 rfl (by decide +kernel) rfl rfl rfl (by repeat (first | exact Sub.nil | refine Sub.pick ?_ | refine Sub.castO rfl ?_ | refine Sub.skip ?_)) (o_field fa45_2 rfl) ?_
        refine f_take 4 rfl (by decide +kernel) rfl rfl rfl (by repeat (first | exact Sub.nil | refine Sub.pick ?_ | refine Sub.castO rfl ?_ | refine Sub.skip ?_)) (o_load Try.isAgg3 rfl (rdA rfl)) ?_
        refine f_take 5 rfl (by decide +kernel) rfl rfl rfl (by repeat (first | exact Sub.nil | refine Sub.pick ?_ | refine Sub.castO rfl ?_ | refine Sub.skip ?_)) (o_field fa45_3 rfl) ?_
        refine f_take 6 rfl (by decide +kernel) rfl rfl rfl (by repeat (first | exact Sub.nil | refine Sub.pick ?_ | refine Sub.castO rfl ?_ | refine Sub.skip ?_)) (o_load Try.isAgg3 rfl (rdA rfl)) ?_
        refine f_take 8 rfl (by decide +kernel) rfl rfl rfl (by repeat (first | exact Sub.nil | refine Sub.pick ?_ | refine Sub.castO rfl ?_ | refine Sub.skip ?_)) (o_move rfl) ?_
        refine f_take 9 rfl (by decide +kernel) rfl rfl rfl (by repeat (first | exact Sub.nil | refine Sub.pick ?_ | refine Sub.castO rfl ?_ | refine Sub.skip ?_)) (o_field fa45_1 rfl) ?_
        refine f_take 10 rfl (by decide +kernel) rfl rfl rfl (by repeat (first | exact Sub.nil | refine Sub.pick ?_ | refine Sub.castO rfl ?_ | refine Sub.skip ?_)) (o_load Try.isAgg3 rfl (rdA rfl)) ?_
        refine f_take 11 rfl (by decide +kernel) rfl rfl rfl (by repeat (first | exact Sub.nil | refine Sub.pick ?_ | refine Sub.castO rfl ?_ | refine Sub.skip ?_)) (o_field fa45_2 rfl) ?_
        refine f_take 12 rfl (by decide +kernel) rfl rfl rfl (by repeat (first | exact Sub.nil | refine Sub.pick ?_ | refine Sub.castO rfl ?_ | refine Sub.skip ?_)) (o_load Try.isAgg3 rfl (rdA rfl)) ?_
        refine f_take 13 rfl (by decide +kernel) rfl rfl rfl (by repeat (first | exact Sub.nil | refine Sub.pick ?_ | refine Sub.castO rfl ?_ | refine Sub.skip ?_)) (o_field fa45_3 rfl) ?_
        refine f_take 14 rfl (by decide +kernel) rfl rfl rfl (by repeat (first | exact Sub.nil | refine Sub.pick ?_ | refine Sub.castO rfl ?_ | refine Sub.skip ?_)) (o_load Try.isAgg3 rfl (rdA rfl)) ?_
        refine f_only 7 rfl (by decide +kernel) rfl rfl rfl (o_callM [mA] _ Try.call11 rfl (Sub.pick Sub.refl) (fun w_ hp_ => Copy_spec A bn mA (a.fr, a.dst) a.k w_ hA hp_.owns) ?_)
        rintro _ _ ⟨rfl, mA2, rfl, hA2⟩
        dsimp only [List.cons_append, List.nil_append]
        refine ⟨(by repeat (first | exact Sub.nil | refine Sub.pick ?_ | refine Sub.castO rfl ?_ | refine Sub.skip ?_)), ?_⟩
        refine f_only 15 rfl (by decide +kernel) rfl rfl rfl (o_callM [mR] _ Try.call42 rfl (Sub.pick Sub.refl) (fun w_ hp_ => RCopy_spec R rn mR (a.fr, a.dst) a.k w_ hR (by omega) hp_.owns) ?_)
        rintro _ _ ⟨rfl, mR2, rfl, hR2⟩
        have hal := hS.copy (a.fr, a.dst) a.k
        rw [hal.eq]
        dsimp only [List.cons_append, List.nil_append]
        refine ⟨(by repeat (first | exact Sub.nil | refine Sub.pick ?_ | refine Sub.castO rfl ?_ | refine Sub.skip ?_)), ?_⟩
        refine f_take 16 rfl (by decide +kernel) rfl rfl rfl (by repeat (first | exact Sub.nil | refine Sub.pick ?_ | refine Sub.castO rfl ?_ | refine Sub.skip ?_)) (o_eql rfl rfl) ?_
        refine f_only 17 rfl (by decide +kernel) rfl rfl rfl ((o_assign rfl).does ⟨(by repeat (first | exact Sub.nil | refine Sub.pick ?_ | refine Sub.castO rfl ?_ | refine Sub.skip ?_)), ?_⟩)
        refine f_over (by decide +kernel) ?_
        refine f_tn (kh11 _ _ ?_)
        clear kh11
        refine f_ret ?_
        refine f_br ?_
        refine f_tr ?_
        exact f_fin1 [mA2, mR2] Try.results24 rfl (by repeat (first | exact Sub.nil | refine Sub.pick ?_)) ⟨by simp, _, _, mA2, mR2, rfl, hA2, hR2, hal.sim, hal.more⟩
      · skip
        refine f_seq fun K12 kh12 => ?_
        refine f_region ?_
        refine f_stepP rfl rfl rfl (o_eql rfl rfl) ?_
        refine f_stepP rfl rfl rfl (o_assign rfl) ?_
        refine f_done ?_
        refine f_tn (kh12 _ _ ?_)
        clear kh12
        refine f_cond rfl (fun c92 => ?_) (fun c92 => ?_)
        · skip
          refine f_seq fun K13 kh13 => ?_
          refine f_regionH [[(b5, blk (nactCs a) 45)]] rfl ?_
          refine f_take 0 rfl (by decide +kernel) rfl rfl rfl (by repeat (first | exact Sub.nil | refine Sub.pick ?_ | refine Sub.castO rfl ?_ | refine Sub.skip ?_)) (o_move rfl) ?_
          refine f_take 1 rfl (by decide +kernel) rfl rfl rfl (by repeat (first | exact Sub.nil | refine Sub.pick ?_ | refine Sub.castO rfl ?_ | refine Sub.skip ?_)) (o_field fa45_1 rfl) ?_
          refine f_take 2 rfl (by decide +kernel) rfl rfl rfl (by repeat (first | exact Sub.nil | refine Sub.pick ?_ | refine Sub.castO rfl ?_ | refine Sub.skip ?_)) (o_load Try.isAgg3 rfl (rdA rfl)) ?_
          refine f_take 3 rfl (by decide +kernel) rfl rfl rfl (by repeat (first | exact Sub.nil | refine Sub.pick ?_ | refine Sub.castO rfl ?_ | refine Sub.skip ?_)) (o_field fa45_2 rfl) ?_
          refine f_take 4 rfl (by decide +kernel) rfl rfl rfl (by repeat (first | exact Sub.nil | refine Sub.pick ?_ | refine Sub.castO rfl ?_ | refine Sub.skip ?_)) (o_load Try.isAgg3 rfl (rdA rfl)) ?_
          refine f_take 5 rfl (by decide +kernel) rfl rfl rfl (by repeat (first | exact Sub.nil | refine Sub.pick ?_ | refine Sub.castO rfl ?_ | refine Sub.skip ?_)) (o_field fa45_3 rfl) ?_
          refine f_take 6 rfl (by decide +kernel) rfl rfl rfl (by repeat (first | exact Sub.nil | refine Sub.pick ?_ | refine Sub.castO rfl ?_ | refine Sub.skip ?_)) (o_load Try.isAgg3 rfl (rdA rfl)) ?_
          refine f_take 8 rfl (by decide +kernel) rfl rfl rfl (by repeat (first | exact Sub.nil | refine Sub.pick ?_ | refine Sub.castO rfl ?_ | refine Sub.skip ?_)) (o_move rfl) ?_
          refine f_take 9 rfl (by decide +kernel) rfl rfl rfl (by repeat (first | exact Sub.nil | refine Sub.pick ?_ | refine Sub.castO rfl ?_ | refine Sub.skip ?_)) (o_field fa45_1 rfl) ?_
          refine f_take 10 rfl (by decide +kernel) rfl rfl rfl (by repeat (first | exact Sub.nil | refine Sub.pick ?_ | refine Sub.castO rfl ?_ | refine Sub.skip ?_)) (o_load Try.isAgg3 rfl (rdA rfl)) ?_
          refine f_take 11 rfl (by decide +kernel) rfl rfl rfl (by repeat (first | exact Sub.nil | refine Sub.pick ?_ | refine Sub.castO rfl ?_ | refine Sub.skip ?_)) (o_field fa45_2 rfl) ?_
          refine f_take 12 rfl (by decide +kernel) rfl rfl rfl (by repeat (first | exact Sub.nil | refine Sub.pick ?_ | refine Sub.castO rfl ?_ | refine Sub.skip ?_)) (o_load Try.isAgg3 rfl (rdA rfl)) ?_
          refine f_take 13 rfl (by decide +kernel) rfl rfl rfl (by repeat (first | exact Sub.nil | refine Sub.pick ?_ | refine Sub.castO rfl ?_ | refine Sub.skip ?_)) (o_field fa45_3 rfl) ?_
          refine f_take 14 rfl (by decide +kernel) rfl rfl rfl (by repeat (first | exact Sub.nil | refine Sub.pick ?_ | refine Sub.castO rfl ?_ | refine Sub.skip ?_)) (o_load Try.isAgg3 rfl (rdA rfl)) ?_
          refine f_only 7 rfl (by decide +kernel) rfl rfl rfl (o_callM [mA] _ Try.call18 rfl (Sub.pick Sub.refl) (fun w_ hp_ => Lose_spec A bn mA (a.fr, a.dst) a.k w_ hA hp_.owns) ?_)
          rintro _ _ ⟨rfl, mA2, rfl, hA2⟩
          dsimp only [List.cons_append, List.nil_append]
          refine ⟨(by repeat (first | exact Sub.nil | refine Sub.pick ?_ | refine Sub.castO rfl ?_ | refine Sub.skip ?_)), ?_⟩
          refine f_only 15 rfl (by decide +kernel) rfl rfl rfl (o_callM [mR] _ Try.call43 rfl (Sub.pick Sub.refl) (fun w_ hp_ => RLose_spec R rn mR (a.fr, a.dst) a.k w_ hR hp_.owns) ?_)
          rintro _ _ ⟨rfl, mR2, rfl, hR2⟩
          have hal := hS.lose (a.fr, a.dst) a.k
          rw [hal.eq]
          dsimp only [List.cons_append, List.nil_append]
          refine ⟨(by repeat (first | exact Sub.nil | refine Sub.pick ?_ | refine Sub.castO rfl ?_ | refine Sub.skip ?_)), ?_⟩
          refine f_take 16 rfl (by decide +kernel) rfl rfl rfl (by repeat (first | exact Sub.nil | refine Sub.pick ?_ | refine Sub.castO rfl ?_ | refine Sub.skip ?_)) (o_eql rfl rfl) ?_
          refine f_only 17 rfl (by decide +kernel) rfl rfl rfl ((o_assign rfl).does ⟨(by repeat (first | exact Sub.nil | refine Sub.pick ?_ | refine Sub.castO rfl ?_ | refine Sub.skip ?_)), ?_⟩)
          refine f_over (by decide +kernel) ?_
          refine f_tn (kh13 _ _ ?_)
          clear kh13
          refine f_ret ?_
          refine f_br ?_
          refine f_tr ?_
          exact f_fin1 [mA2, mR2] Try.results24 rfl (by repeat (first | exact Sub.nil | refine Sub.pick ?_)) ⟨by simp, _, _, mA2, mR2, rfl, hA2, hR2, hal.sim, hal.more⟩
        · skip
          refine f_seq fun K14 kh14 => ?_
          refine f_region ?_
          refine f_stepP rfl rfl rfl (o_eql rfl rfl) ?_
          refine f_stepP rfl rfl rfl (o_assign rfl) ?_
          refine f_done ?_
          refine f_tn (kh14 _ _ ?_)
          clear kh14
          refine f_cond rfl (fun c111 => ?_) (fun c111 => ?_)
          · skip
            refine f_seq fun K15 kh15 => ?_
            refine f_region ?_
            refine f_stepP rfl rfl rfl (o_move rfl) ?_
            refine f_stepP rfl rfl rfl (o_field fa45_1 rfl) ?_
            refine f_stepP rfl rfl rfl (o_load Try.isAgg3 rfl (rdA rfl)) ?_
            refine f_stepP rfl rfl rfl (o_field fa45_2 rfl) ?_
            refine f_stepP rfl rfl rfl (o_load Try.isAgg3 rfl (rdA rfl)) ?_
            refine f_step rfl rfl rfl (o_callM [mA] _ Try.call20 rfl (Sub.pick Sub.refl) (fun w_ hp_ => Bag_spec A bn mA (a.fr, a.dst) w_ hA hp_.owns) ?_)
            rintro _ _ ⟨s1, ms1, mA2, rfl, rfl, hA2, ho1⟩
            obtain ⟨As1, cs1, rfl, _⟩ := ho1.val
            have hbl := hA2.lens.2 (a.fr, a.dst)
            dsimp only [List.cons_append, List.nil_append]
            refine f_stepP rfl rfl rfl (o_move rfl) ?_
            refine f_stepP rfl rfl rfl (o_extract rfl rfl) ?_
            refine f_stepP rfl rfl rfl (o_extract rfl rfl) ?_
            refine f_stepP rfl rfl rfl (o_assign rfl) ?_
            refine f_stepP rfl rfl rfl (o_assign rfl) ?_
            refine f_done ?_
            refine f_tn (kh15 _ _ ?_)
            clear kh15
            refine f_seq fun K16 kh16 => ?_
            refine f_region ?_
            refine f_stepP rfl rfl rfl (o_move rfl) ?_
            refine f_stepP rfl rfl rfl (o_field fa45_1 rfl) ?_
            refine f_stepP rfl rfl rfl (o_load Try.isAgg3 rfl (rdA rfl)) ?_
            refine f_stepP rfl rfl rfl (o_field fa45_2 rfl) ?_
            refine f_stepP rfl rfl rfl (o_load Try.isAgg3 rfl (rdA rfl)) ?_
            refine f_step rfl rfl rfl (o_callM [mR] _ Try.call44 rfl (by repeat (first | exact Sub.refl | refine Sub.pick ?_)) (fun w_ hp_ => RBag_spec R rn mR (a.fr, a.dst) w_ hR hp_.owns) ?_)
            rintro _ _ ⟨s2, ms2, mR2, rfl, rfl, hR2, ho2⟩
            rw [hS.looked, ← hS.bag] at ho2
            rw [hS.looked]
            obtain ⟨As2, cs2, rfl, _⟩ := ho2.val
            dsimp only [List.cons_append, List.nil_append]
            refine f_stepP rfl rfl rfl (o_move rfl) ?_
            refine f_stepP rfl rfl rfl (o_extract rfl rfl) ?_
            refine f_stepP rfl rfl rfl (o_extract rfl rfl) ?_
            refine f_stepP rfl rfl rfl (o_assign rfl) ?_
            refine f_stepP rfl rfl rfl (o_assign rfl) ?_
            refine f_done ?_
            refine f_tn (kh16 _ _ ?_)
            clear kh16
            refine f_seq fun K17 kh17 => ?_
            refine f_region ?_
            refine f_stepP rfl rfl rfl (o_move rfl) ?_
            refine f_stepP rfl rfl rfl (o_move rfl) ?_
            refine f_step rfl rfl rfl (o_call Try.call45 rfl (fun w_ hp_ => SameTexts_spec As1 As2 _ _ cs1 cs2 w_ (seen_ro (ho1.seen hp_)) (seen_ro (ho2.seen hp_)) (by split <;> first | omega | simp)) ?_)
            rintro _ _ ⟨rfl, rfl⟩
            dsimp only [List.cons_append, List.nil_append]
            refine f_stepP rfl rfl rfl (o_move rfl) ?_
            refine f_splitL 134 rfl (fun g134 => ?_) (fun g134 => ?_)
            · skip
              refine f_stepPY rfl rfl rfl rfl rfl (o_move rfl) ?_
              refine f_stepPY rfl rfl rfl rfl rfl (o_move rfl) ?_
              refine f_stepPY rfl rfl rfl rfl rfl (o_eql rfl rfl) ?_
              refine f_stepP rfl rfl rfl (o_pickT rfl rfl) ?_
              refine f_stepP rfl rfl rfl (o_assign rfl) ?_
              refine f_done ?_
              refine f_tn (kh17 _ _ ?_)
              clear kh17
              refine f_ret ?_
              refine f_br ?_
              refine f_tr ?_
              exact f_fin1 [mA2, mR2] Try.results24 rfl (by repeat (first | exact Sub.nil | refine Sub.pick ?_)) ⟨by simp, A, R, mA2, mR2, rfl, hA2, hR2, hS, by omega⟩
            · skip
              refine f_stepN rfl rfl rfl rfl rfl rfl ?_
              refine f_stepN rfl rfl rfl rfl rfl rfl ?_
              refine f_stepN rfl rfl rfl rfl rfl rfl ?_
              refine f_stepP rfl rfl rfl (o_pickF rfl rfl) ?_
              refine f_stepP rfl rfl rfl (o_assign rfl) ?_
              refine f_done ?_
              refine f_tn (kh17 _ _ ?_)
              clear kh17
              refine f_ret ?_
              refine f_br ?_
              refine f_tr ?_
              exact absurd rfl g134
          · skip
            refine f_seq fun K18 kh18 => ?_
            refine f_region ?_
            refine f_stepP rfl rfl rfl (o_eql rfl rfl) ?_
            refine f_stepP rfl rfl rfl (o_assign rfl) ?_
            refine f_done ?_
            refine f_tn (kh18 _ _ ?_)
            clear kh18
            refine f_cond rfl (fun c139 => ?_) (fun c139 => ?_)
            · skip
              refine f_seq fun K19 kh19 => ?_
              refine f_regionH [[(b5, blk (nactCs a) 45)]] rfl ?_
              refine f_take 0 rfl (by decide +kernel) rfl rfl rfl (by repeat (first | exact Sub.nil | refine Sub.pick ?_ | refine Sub.castO rfl ?_ | refine Sub.skip ?_)) (o_move rfl) ?_
              refine f_take 1 rfl (by decide +kernel) rfl rfl rfl (by repeat (first | exact Sub.nil | refine Sub.pick ?_ | refine Sub.castO rfl ?_ | refine Sub.skip ?_)) (o_field fa45_1 rfl) ?_
              refine f_take 2 rfl (by decide +kernel) rfl rfl rfl (by repeat (first | exact Sub.nil | refine Sub.pick ?_ | refine Sub.castO rfl ?_ | refine Sub.skip ?_)) (o_load Try.isAgg3 rfl (rdA rfl)) ?_
              refine f_take 4 rfl (by decide +kernel) rfl rfl rfl (by repeat (first | exact Sub.nil | refine Sub.pick ?_ | refine Sub.castO rfl ?_ | refine Sub.skip ?_)) (o_move rfl) ?_
              refine f_take 5 rfl (by decide +kernel) rfl rfl rfl (by repeat (first | exact Sub.nil | refine Sub.pick ?_ | refine Sub.castO rfl ?_ | refine Sub.skip ?_)) (o_field fa45_1 rfl) ?_
              refine f_take 6 rfl (by decide +kernel) rfl rfl rfl (by repeat (first | exact Sub.nil | refine Sub.pick ?_ | refine Sub.castO rfl ?_ | refine Sub.skip ?_)) (o_load Try.isAgg3 rfl (rdA rfl)) ?_
              refine f_only 3 rfl (by decide +kernel) rfl rfl rfl (o_callM [mA] _ Try.call15 rfl (Sub.pick Sub.refl) (fun w_ hp_ => Down_spec A bn mA a.fr w_ hA hp_.owns) ?_)
              rintro _ _ ⟨rfl, mA2, rfl, hA2⟩
              dsimp only [List.cons_append, List.nil_append]
              refine ⟨(by repeat (first | exact Sub.nil | refine Sub.pick ?_ | refine Sub.castO rfl ?_ | refine Sub.skip ?_)), ?_⟩
              refine f_only 7 rfl (by decide +kernel) rfl rfl rfl (o_callM [mR] _ Try.call46 rfl (Sub.pick Sub.refl) (fun w_ hp_ => RDown_spec R rn mR a.fr w_ hR hp_.owns) ?_)
              rintro _ _ ⟨rfl, mR2, rfl, hR2⟩
              have hal := hS.down a.fr
              rw [hal.eq]
              dsimp only [List.cons_append, List.nil_append]
              refine ⟨(by repeat (first | exact Sub.nil | refine Sub.pick ?_ | refine Sub.castO rfl ?_ | refine Sub.skip ?_)), ?_⟩
              refine f_take 8 rfl (by decide +kernel) rfl rfl rfl (by repeat (first | exact Sub.nil | refine Sub.pick ?_ | refine Sub.castO rfl ?_ | refine Sub.skip ?_)) (o_eql rfl rfl) ?_
              refine f_only 9 rfl (by decide +kernel) rfl rfl rfl ((o_assign rfl).does ⟨(by repeat (first | exact Sub.nil | refine Sub.pick ?_ | refine Sub.castO rfl ?_ | refine Sub.skip ?_)), ?_⟩)
              refine f_over (by decide +kernel) ?_
              refine f_tn (kh19 _ _ ?_)
              clear kh19
              refine f_ret ?_
              refine f_br ?_
              refine f_tr ?_
              exact f_fin1 [mA2, mR2] Try.results24 rfl (by repeat (first | exact Sub.nil | refine Sub.pick ?_)) ⟨by simp, _, _, mA2, mR2, rfl, hA2, hR2, hal.sim, hal.more⟩
            · skip
              refine f_seq fun K20 kh20 => ?_
              refine f_region ?_
              refine f_stepP rfl rfl rfl (o_eql rfl rfl) ?_
              refine f_stepP rfl rfl rfl (o_assign rfl) ?_
              refine f_done ?_
              refine f_tn (kh20 _ _ ?_)
              clear kh20
              refine f_cond rfl (fun c150 => ?_) (fun c150 => ?_)
              · skip
                refine f_seq fun K21 kh21 => ?_
                refine f_regionH [[(b5, blk (nactCs a) 45)]] rfl ?_
                refine f_take 0 rfl (by decide +kernel) rfl rfl rfl (by repeat (first | exact Sub.nil | refine Sub.pick ?_ | refine Sub.castO rfl ?_ | refine Sub.skip ?_)) (o_move rfl) ?_
                refine f_take 1 rfl (by decide +kernel) rfl rfl rfl (by repeat (first | exact Sub.nil | refine Sub.pick ?_ | refine Sub.castO rfl ?_ | refine Sub.skip ?_)) (o_field fa45_1 rfl) ?_
                refine f_take 2 rfl (by decide +kernel) rfl rfl rfl (by repeat (first | exact Sub.nil | refine Sub.pick ?_ | refine Sub.castO rfl ?_ | refine Sub.skip ?_)) (o_load Try.isAgg3 rfl (rdA rfl)) ?_
                refine f_take 4 rfl (by decide +kernel) rfl rfl rfl (by repeat (first | exact Sub.nil | refine Sub.pick ?_ | refine Sub.castO rfl ?_ | refine Sub.skip ?_)) (o_move rfl) ?_
                refine f_take 5 rfl (by decide +kernel) rfl rfl rfl (by repeat (first | exact Sub.nil | refine Sub.pick ?_ | refine Sub.castO rfl ?_ | refine Sub.skip ?_)) (o_field fa45_1 rfl) ?_
                refine f_take 6 rfl (by decide +kernel) rfl rfl rfl (by repeat (first | exact Sub.nil | refine Sub.pick ?_ | refine Sub.castO rfl ?_ | refine Sub.skip ?_)) (o_load Try.isAgg3 rfl (rdA rfl)) ?_
                refine f_only 3 rfl (by decide +kernel) rfl rfl rfl (o_callM [mA] _ Try.call19 rfl (Sub.pick Sub.refl) (fun w_ hp_ => Up_spec A bn mA a.fr w_ hA hp_.owns) ?_)
                rintro _ _ ⟨rfl, mA2, rfl, hA2⟩
                dsimp only [List.cons_append, List.nil_append]
                refine ⟨(by repeat (first | exact Sub.nil | refine Sub.pick ?_ | refine Sub.castO rfl ?_ | refine Sub.skip ?_)), ?_⟩
                refine f_only 7 rfl (by decide +kernel) rfl rfl rfl (o_callM [mR] _ Try.call47 rfl (Sub.pick Sub.refl) (fun w_ hp_ => RRise_spec R rn mR a.fr w_ hR hp_.owns) ?_)
                rintro _ _ ⟨rfl, mR2, rfl, hR2⟩
                have hal := hS.turn a.fr
                rw [hal.eq]
                dsimp only [List.cons_append, List.nil_append]
                refine ⟨(by repeat (first | exact Sub.nil | refine Sub.pick ?_ | refine Sub.castO rfl ?_ | refine Sub.skip ?_)), ?_⟩
                refine f_take 8 rfl (by decide +kernel) rfl rfl rfl (by repeat (first | exact Sub.nil | refine Sub.pick ?_ | refine Sub.castO rfl ?_ | refine Sub.skip ?_)) (o_eql rfl rfl) ?_
                refine f_only 9 rfl (by decide +kernel) rfl rfl rfl ((o_assign rfl).does ⟨(by repeat (first | exact Sub.nil | refine Sub.pick ?_ | refine Sub.castO rfl ?_ | refine Sub.skip ?_)), ?_⟩)
                refine f_over (by decide +kernel) ?_
                refine f_tn (kh21 _ _ ?_)
                clear kh21
                refine f_ret ?_
                refine f_br ?_
                refine f_tr ?_
                exact f_fin1 [mA2, mR2] Try.results24 rfl (by repeat (first | exact Sub.nil | refine Sub.pick ?_)) ⟨by simp, _, _, mA2, mR2, rfl, hA2, hR2, hal.sim, hal.more⟩
              · skip
                refine f_seq fun K22 kh22 => ?_
                refine f_region ?_
                refine f_stepP rfl rfl rfl (o_eql rfl rfl) ?_
                refine f_stepP rfl rfl rfl (o_assign rfl) ?_
                refine f_done ?_
                refine f_tn (kh22 _ _ ?_)
                clear kh22
                refine f_cond rfl (fun c161 => ?_) (fun c161 => ?_)
                · skip
                  refine f_seq fun K23 kh23 => ?_
                  refine f_regionH [[(b5, blk (nactCs a) 45)]] rfl ?_
                  refine f_take 0 rfl (by decide +kernel) rfl rfl rfl (by repeat (first | exact Sub.nil | refine Sub.pick ?_ | refine Sub.castO rfl ?_ | refine Sub.skip ?_)) (o_move rfl) ?_
                  refine f_take 1 rfl (by decide +kernel) rfl rfl rfl (by repeat (first | exact Sub.nil | refine Sub.pick ?_ | refine Sub.castO rfl ?_ | refine Sub.skip ?_)) (o_field fa45_1 rfl) ?_
                  refine f_take 2 rfl (by decide +kernel) rfl rfl rfl (by repeat (first | exact Sub.nil | refine Sub.pick ?_ | refine Sub.castO rfl ?_ | refine Sub.skip ?_)) (o_load Try.isAgg3 rfl (rdA rfl)) ?_
                  refine f_take 3 rfl (by decide +kernel) rfl rfl rfl (by repeat (first | exact Sub.nil | refine Sub.pick ?_ | refine Sub.castO rfl ?_ | refine Sub.skip ?_)) (o_field fa45_3 rfl) ?_
                  refine f_take 4 rfl (by decide +kernel) rfl rfl rfl (by repeat (first | exact Sub.nil | refine Sub.pick ?_ | refine Sub.castO rfl ?_ | refine Sub.skip ?_)) (o_load Try.isAgg3 rfl (rdA rfl)) ?_
                  refine f_take 5 rfl (by decide +kernel) rfl rfl rfl (by repeat (first | exact Sub.nil | refine Sub.pick ?_ | refine Sub.castO rfl ?_ | refine Sub.skip ?_)) (o_field fa45_2 rfl) ?_
                  refine f_take 6 rfl (by decide +kernel) rfl rfl rfl (by repeat (first | exact Sub.nil | refine Sub.pick ?_ | refine Sub.castO rfl ?_ | refine Sub.skip ?_)) (o_load Try.isAgg3 rfl (rdA rfl)) ?_
                  refine f_take 8 rfl (by decide +kernel) rfl rfl rfl (by repeat (first | exact Sub.nil | refine Sub.pick ?_ | refine Sub.castO rfl ?_ | refine Sub.skip ?_)) (o_move rfl) ?_
                  refine f_take 9 rfl (by decide +kernel) rfl rfl rfl (by repeat (first | exact Sub.nil | refine Sub.pick ?_ | refine Sub.castO rfl ?_ | refine Sub.skip ?_)) (o_field fa45_1 rfl) ?_
                  refine f_take 10 rfl (by decide +kernel) rfl rfl rfl (by repeat (first | exact Sub.nil | refine Sub.pick ?_ | refine Sub.castO rfl ?_ | refine Sub.skip ?_)) (o_load Try.isAgg3 rfl (rdA rfl)) ?_
                  refine f_take 11 rfl (by decide +kernel) rfl rfl rfl (by repeat (first | exact Sub.nil | refine Sub.pick ?_ | refine Sub.castO rfl ?_ | refine Sub.skip ?_)) (o_field fa45_3 rfl) ?_
                  refine f_take 12 rfl (by decide +kernel) rfl rfl rfl (by repeat (first | exact Sub.nil | refine Sub.pick ?_ | refine Sub.castO rfl ?_ | refine Sub.skip ?_)) (o_load Try.isAgg3 rfl (rdA rfl)) ?_
                  refine f_take 13 rfl (by decide +kernel) rfl rfl rfl (by repeat (first | exact Sub.nil | refine Sub.pick ?_ | refine Sub.castO rfl ?_ | refine Sub.skip ?_)) (o_field fa45_2 rfl) ?_
                  refine f_take 14 rfl (by decide +kernel) rfl rfl rfl (by repeat (first | exact Sub.nil | refine Sub.pick ?_ | refine Sub.castO rfl ?_ | refine Sub.skip ?_)) (o_load Try.isAgg3 rfl (rdA rfl)) ?_
                  refine f_only 7 rfl (by decide +kernel) rfl rfl rfl (o_callM [mA] _ Try.call14 rfl (Sub.pick Sub.refl) (fun w_ hp_ => Set_spec A bn mA a.fr a.k a.dst w_ hA hp_.owns) ?_)
                  rintro _ _ ⟨rfl, mA2, rfl, hA2⟩
                  dsimp only [List.cons_append, List.nil_append]
                  refine ⟨(by repeat (first | exact Sub.nil | refine Sub.pick ?_ | refine Sub.castO rfl ?_ | refine Sub.skip ?_)), ?_⟩
                  refine f_only 15 rfl (by decide +kernel) rfl rfl rfl (o_callM [mR] _ Try.call48 rfl (Sub.pick Sub.refl) (fun w_ hp_ => RSet_spec R rn mR a.fr a.k a.dst w_ hR hp_.owns) ?_)
                  rintro _ _ ⟨rfl, mR2, rfl, hR2⟩
                  have hal := hS.setT a.fr a.k a.dst
                  rw [hal.eq]
                  dsimp only [List.cons_append, List.nil_append]
                  refine ⟨(by repeat (first | exact Sub.nil | refine Sub.pick ?_ | refine Sub.castO rfl ?_ | refine Sub.skip ?_)), ?_⟩
                  refine f_take 16 rfl (by decide +kernel) rfl rfl rfl (by repeat (first | exact Sub.nil | refine Sub.pick ?_ | refine Sub.castO rfl ?_ | refine Sub.skip ?_)) (o_eql rfl rfl) ?_
                  refine f_only 17 rfl (by decide +kernel) rfl rfl rfl ((o_assign rfl).does ⟨(by repeat (first | exact Sub.nil | refine Sub.pick ?_ | refine Sub.castO rfl ?_ | refine Sub.skip ?_)), ?_⟩)
                  refine f_over (by decide +kernel) ?_
                  refine f_tn (kh23 _ _ ?_)
                  clear kh23
                  refine f_ret ?_
                  refine f_br ?_
                  refine f_tr ?_
                  exact f_fin1 [mA2, mR2] Try.results24 rfl (by repeat (first | exact Sub.nil | refine Sub.pick ?_)) ⟨by simp, _, _, mA2, mR2, rfl, hA2, hR2, hal.sim, hal.more⟩
                · skip
                  refine f_skip ?_
                  refine f_bn ?_
                  refine f_tn (kh2 _ _ ?_)
                  clear kh2
                  refine f_seq fun K24 kh24 => ?_
                  refine f_region ?_
                  refine f_stepP rfl rfl rfl (o_move rfl) ?_
                  refine f_step rfl rfl rfl (o_callM [mA] _ Try.call16 rfl (Sub.pick Sub.refl) (fun w_ hp_ => Tick_spec A bn mA w_ hA hp_.owns) ?_)
                  rintro _ _ ⟨s1, ms1, mA2, rfl, rfl, hA2, ho1⟩
                  obtain ⟨As1, cs1, rfl, _⟩ := ho1.val
                  dsimp only [List.cons_append, List.nil_append]
                  refine f_stepP rfl rfl rfl (o_move rfl) ?_
                  refine f_stepP rfl rfl rfl (o_extract rfl rfl) ?_
                  refine f_stepP rfl rfl rfl (o_extract rfl rfl) ?_
                  refine f_stepP rfl rfl rfl (o_assign rfl) ?_
                  refine f_stepP rfl rfl rfl (o_assign rfl) ?_
                  refine f_done ?_
                  refine f_tn (kh24 _ _ ?_)
                  clear kh24
                  refine f_seq fun K25 kh25 => ?_
                  refine f_region ?_
                  refine f_stepP rfl rfl rfl (o_move rfl) ?_
                  refine f_step rfl rfl rfl (o_callM [mR] _ Try.call49 rfl (by repeat (first | exact Sub.refl | refine Sub.pick ?_)) (fun w_ hp_ => RTick_spec R rn mR w_ hR hp_.owns) ?_)
                  rintro _ _ ⟨s2, ms2, mR2, rfl, rfl, hR2, ho2⟩
                  have hal := hS.tick hA.tno hA.lens.1
                  rw [hal.eq] at ho2 ⊢
                  obtain ⟨As2, cs2, rfl, _⟩ := ho2.val
                  have htk := hA.tick_len
                  dsimp only [List.cons_append, List.nil_append]
                  refine f_stepP rfl rfl rfl (o_move rfl) ?_
                  refine f_stepP rfl rfl rfl (o_extract rfl rfl) ?_
                  refine f_stepP rfl rfl rfl (o_extract rfl rfl) ?_
                  refine f_stepP rfl rfl rfl (o_assign rfl) ?_
                  refine f_stepP rfl rfl rfl (o_assign rfl) ?_
                  refine f_done ?_
                  refine f_tn (kh25 _ _ ?_)
                  clear kh25
                  refine f_seq fun K26 kh26 => ?_
                  refine f_region ?_
                  refine f_stepP rfl rfl rfl (o_move rfl) ?_
                  refine f_stepP rfl rfl rfl (o_move rfl) ?_
                  refine f_step rfl rfl rfl (o_call Try.call50 rfl (fun w_ hp_ => sameTimers_spec As1 As2 _ _ cs1 cs2 w_ (seen_ro (ho1.seen hp_)) (seen_ro (ho2.seen hp_)) (by omega)) ?_)
                  rintro _ _ ⟨rfl, rfl⟩
                  dsimp only [List.cons_append, List.nil_append]
                  refine f_stepP rfl rfl rfl (o_move rfl) ?_
                  refine f_splitL 193 rfl (fun g193 => ?_) (fun g193 => ?_)
                  · skip
                    refine f_stepPY rfl rfl rfl rfl rfl (o_move rfl) ?_
                    refine f_stepPY rfl rfl rfl rfl rfl (o_move rfl) ?_
                    refine f_stepPY rfl rfl rfl rfl rfl (o_eql rfl rfl) ?_
                    refine f_stepP rfl rfl rfl (o_pickT rfl rfl) ?_
                    refine f_stepP rfl rfl rfl (o_assign rfl) ?_
                    refine f_done ?_
                    refine f_tn (kh26 _ _ ?_)
                    clear kh26
                    refine f_ret ?_
                    exact f_fin1 [mA2, mR2] Try.results24 rfl (by repeat (first | exact Sub.nil | refine Sub.pick ?_)) ⟨by simp, _, _, mA2, mR2, rfl, hA2, hR2, hal.sim, hal.more⟩
                  · skip
                    refine f_stepN rfl rfl rfl rfl rfl rfl ?_
                    refine f_stepN rfl rfl rfl rfl rfl rfl ?_
                    refine f_stepN rfl rfl rfl rfl rfl rfl ?_
                    refine f_stepP rfl rfl rfl (o_pickF rfl rfl) ?_
                    refine f_stepP rfl rfl rfl (o_assign rfl) ?_
                    refine f_done ?_
                    refine f_tn (kh26 _ _ ?_)
                    clear kh26
                    refine f_ret ?_
                    exact absurd rfl g193

set_option maxRecDepth 100000 in
set_option maxHeartbeats 4000000 in
theorem same_spec (A : NetM) (R : NetR) (bn rn : Nat) (mA mR : Seg) (w : World) (hA : NetRep A bn mA) (hR : RNet R rn mR) (hS : Sim A R) (hw : Owns w [mA, mR]) :
    Meets Try.prog 25 [.pointer (some ⟨bn, 0, none⟩), .pointer (some ⟨rn, 0, none⟩)] w [mA, mR]
      (fun u own' => u = .bool true ∧ ∃ mA' mR', own' = [mA', mR'] ∧ NetRep A bn mA' ∧ RNet R rn mR') := by
  refine f_enter Try.func25 rfl Try.ntmps25 rfl hw ?_
  refine f_seq fun K1 kh1 => ?_
  refine f_region ?_
  refine f_stepP rfl rfl rfl (o_assign rfl) ?_
  refine f_done ?_
  refine f_tn (kh1 _ _ ?_)
  clear kh1
  refine f_seq fun K2 kh2 => ?_
  refine f_region ?_
  refine f_stepP rfl rfl rfl (o_move rfl) ?_
  refine f_step rfl rfl rfl (o_callM [mA] _ Try.call21 rfl (Sub.pick Sub.refl) (fun w_ hp_ => Links_spec A bn mA w_ hA hp_.owns) ?_)
  rintro v1_ _ ⟨ms1, mA2, rfl, hA2, ho1⟩
  obtain ⟨A1, c1, rfl, _⟩ := ho1.val
  dsimp only [List.cons_append, List.nil_append]
  refine f_stepP rfl rfl rfl (o_move rfl) ?_
  refine f_step rfl rfl rfl (o_callM [mR] _ Try.call51 rfl (by repeat (first | exact Sub.refl | refine Sub.pick ?_)) (fun w_ hp_ => RLinks_spec R rn mR w_ hR hp_.owns) ?_)
  rintro v2_ _ ⟨ms2, mR2, rfl, hR2, ho2⟩
  rw [hS.links] at ho2
  obtain ⟨A2, c2, rfl, _⟩ := ho2.val
  have hll := links_len A hA2.lens.1
  dsimp only [List.cons_append, List.nil_append]
  refine f_stepP rfl rfl rfl (o_assign rfl) ?_
  refine f_stepP rfl rfl rfl (o_assign rfl) ?_
  refine f_done ?_
  refine f_tn (kh2 _ _ ?_)
  clear kh2
  refine f_seq fun K3 kh3 => ?_
  refine f_seq fun K4 kh4 => ?_
  obtain ⟨uv, lv, tv, mu, ml, mt, hm, hRA⟩ := hR2
  refine f_subC (Sub.opened hm) ?_
  dsimp only [rSegs, List.cons_append, List.nil_append]
  have hck := hS.clk
  refine f_regionH [[(rn, blk [uv, lv, tv, .int .i64 R.clk] 78)]] rfl ?_
  refine f_take 0 rfl (by decide +kernel) rfl rfl rfl (by repeat (first | exact Sub.nil | refine Sub.pick ?_ | refine Sub.castO rfl ?_ | refine Sub.skip ?_)) (o_move rfl) ?_
  refine f_take 1 rfl (by decide +kernel) rfl rfl rfl (by repeat (first | exact Sub.nil | refine Sub.pick ?_ | refine Sub.castO rfl ?_ | refine Sub.skip ?_)) (o_len sl48 rfl) ?_
  refine f_take 2 rfl (by decide +kernel) rfl rfl rfl (by repeat (first | exact Sub.nil | refine Sub.pick ?_ | refine Sub.castO rfl ?_ | refine Sub.skip ?_)) (o_move rfl) ?_
  refine f_take 3 rfl (by decide +kernel) rfl rfl rfl (by repeat (first | exact Sub.nil | refine Sub.pick ?_ | refine Sub.castO rfl ?_ | refine Sub.skip ?_)) (o_len sl48 rfl) ?_
  refine f_take 4 rfl (by decide +kernel) rfl rfl rfl (by repeat (first | exact Sub.nil | refine Sub.pick ?_ | refine Sub.castO rfl ?_ | refine Sub.skip ?_)) (o_neq rfl rfl) ?_
  refine f_take 5 rfl (by decide +kernel) rfl rfl rfl (by repeat (first | exact Sub.nil | refine Sub.pick ?_ | refine Sub.castO rfl ?_ | refine Sub.skip ?_)) (o_move rfl) ?_
  refine f_splitH 17 rfl (fun g17 => ?_) (fun g17 => ?_)
  · skip
    refine f_takeN 6 rfl (by decide +kernel) rfl rfl rfl rfl rfl rfl (by repeat (first | exact Sub.nil | refine Sub.pick ?_ | refine Sub.castO rfl ?_ | refine Sub.skip ?_)) ?_
    refine f_takeN 7 rfl (by decide +kernel) rfl rfl rfl rfl rfl rfl (by repeat (first | exact Sub.nil | refine Sub.pick ?_ | refine Sub.castO rfl ?_ | refine Sub.skip ?_)) ?_
    refine f_takeN 8 rfl (by decide +kernel) rfl rfl rfl rfl rfl rfl (by repeat (first | exact Sub.nil | refine Sub.pick ?_ | refine Sub.castO rfl ?_ | refine Sub.skip ?_)) ?_
    refine f_takeN 9 rfl (by decide +kernel) rfl rfl rfl rfl rfl rfl (by repeat (first | exact Sub.nil | refine Sub.pick ?_ | refine Sub.castO rfl ?_ | refine Sub.skip ?_)) ?_
    refine f_takeN 10 rfl (by decide +kernel) rfl rfl rfl rfl rfl rfl (by repeat (first | exact Sub.nil | refine Sub.pick ?_ | refine Sub.castO rfl ?_ | refine Sub.skip ?_)) ?_
    refine f_takeN 11 rfl (by decide +kernel) rfl rfl rfl rfl rfl rfl (by repeat (first | exact Sub.nil | refine Sub.pick ?_ | refine Sub.castO rfl ?_ | refine Sub.skip ?_)) ?_
    refine f_takeN 12 rfl (by decide +kernel) rfl rfl rfl rfl rfl rfl (by repeat (first | exact Sub.nil | refine Sub.pick ?_ | refine Sub.castO rfl ?_ | refine Sub.skip ?_)) ?_
    refine f_take 13 rfl (by decide +kernel) rfl rfl rfl (by repeat (first | exact Sub.nil | refine Sub.pick ?_ | refine Sub.castO rfl ?_ | refine Sub.skip ?_)) (o_pickT rfl rfl) ?_
    refine f_over (by decide +kernel) ?_
    refine f_tn (kh4 _ _ ?_)
    clear kh4
    refine f_condT rfl ?_
    refine f_seq fun K5 kh5 => ?_
    refine f_region ?_
    refine f_stepP rfl rfl rfl (o_assign rfl) ?_
    refine f_done ?_
    refine f_tn (kh5 _ _ ?_)
    clear kh5
    refine f_ret ?_
    refine f_tr ?_
    exact absurd rfl g17
  · skip
    refine f_takeY 6 rfl (by decide +kernel) rfl rfl rfl rfl rfl (by repeat (first | exact Sub.nil | refine Sub.pick ?_ | refine Sub.castO rfl ?_ | refine Sub.skip ?_)) (o_move rfl) ?_
    refine f_takeY 8 rfl (by decide +kernel) rfl rfl rfl rfl rfl (by repeat (first | exact Sub.nil | refine Sub.pick ?_ | refine Sub.castO rfl ?_ | refine Sub.skip ?_)) (o_move rfl) ?_
    refine f_takeY 9 rfl (by decide +kernel) rfl rfl rfl rfl rfl (by repeat (first | exact Sub.nil | refine Sub.pick ?_ | refine Sub.castO rfl ?_ | refine Sub.skip ?_)) (o_nil rfl) ?_
    refine f_takeY 10 rfl (by decide +kernel) rfl rfl rfl rfl rfl (by repeat (first | exact Sub.nil | refine Sub.pick ?_ | refine Sub.castO rfl ?_ | refine Sub.skip ?_)) (o_field fa78_3 rfl) ?_
    refine f_takeY 11 rfl (by decide +kernel) rfl rfl rfl rfl rfl (by repeat (first | exact Sub.nil | refine Sub.pick ?_ | refine Sub.castO rfl ?_ | refine Sub.skip ?_)) (o_load Try.isAgg3 rfl (rdA rfl)) ?_
    refine f_onlyY 7 rfl (by decide +kernel) rfl rfl rfl rfl rfl (o_callM [mA2] _ Try.call17 rfl (by repeat (first | exact Sub.refl | refine Sub.pick ?_)) (fun w_ hp_ => Now_spec A bn mA2 w_ hA2 hp_.owns) ?_)
    rintro _ _ ⟨rfl, rfl⟩
    dsimp only [List.cons_append, List.nil_append]
    refine ⟨(by repeat (first | exact Sub.nil | refine Sub.pick ?_ | refine Sub.castO rfl ?_ | refine Sub.skip ?_)), ?_⟩
    refine f_takeY 12 rfl (by decide +kernel) rfl rfl rfl rfl rfl (by repeat (first | exact Sub.nil | refine Sub.pick ?_ | refine Sub.castO rfl ?_ | refine Sub.skip ?_)) (o_neq rfl rfl) ?_
    refine f_take 13 rfl (by decide +kernel) rfl rfl rfl (by repeat (first | exact Sub.nil | refine Sub.pick ?_ | refine Sub.castO rfl ?_ | refine Sub.skip ?_)) (o_pickF rfl rfl) ?_
    refine f_over (by decide +kernel) ?_
    refine f_tn (kh4 _ _ ?_)
    clear kh4
    refine f_cond rfl (fun c25 => ?_) (fun c25 => ?_)
    · skip
      refine f_seq fun K6 kh6 => ?_
      refine f_region ?_
      refine f_stepP rfl rfl rfl (o_assign rfl) ?_
      refine f_done ?_
      refine f_tn (kh6 _ _ ?_)
      clear kh6
      refine f_ret ?_
      refine f_tr ?_
      exact absurd hck.symm c25
    · skip
      refine f_skip ?_
      refine f_tn (kh3 _ _ ?_)
      clear kh3
      refine f_seq fun K7 kh7 => ?_
      refine f_seq fun K8 kh8 => ?_
      refine f_region ?_
      refine f_stepP rfl rfl rfl (o_assign rfl) ?_
      refine f_done ?_
      refine f_tn (kh8 _ _ ?_)
      clear kh8
      refine f_block ?_
      refine f_loopK (α := Nat) [5, 6] (fun k => [(7, .int .i64 (k : Int))]) (fun k => k ≤ A.links.length) (fun k => A.links.length - k) (0) ?_ ?_ ?_
      · exact (by repeat (first | exact trivial | refine ⟨rfl, ?_⟩))
      · exact Nat.zero_le _
      · rintro k hkl
        refine f_seq fun K9 kh9 => ?_
        refine f_seq fun K10 kh10 => ?_
        refine f_region ?_
        refine f_stepP rfl rfl rfl (o_move rfl) ?_
        refine f_stepP rfl rfl rfl (o_move rfl) ?_
        refine f_stepP rfl rfl rfl (o_len sl48 rfl) ?_
        refine f_stepP rfl rfl rfl (o_lss rfl rfl) ?_
        refine f_done ?_
        refine f_tn (kh10 _ _ ?_)
        clear kh10
        refine f_cond rfl (fun c29 => ?_) (fun c29 => ?_)
        · skip
          have hk : k < A.links.length := by omega
          obtain ⟨b1, sp1, rfl, rfl⟩ := ho1.at_ (by omega)
          obtain ⟨b2, sp2, rfl, rfl⟩ := ho2.at_ (by omega)
          refine f_skip ?_
          refine f_tn (kh9 _ _ ?_)
          clear kh9
          refine f_seq fun K11 kh11 => ?_
          refine f_block ?_
          refine f_seq fun K12 kh12 => ?_
          refine f_regionS rfl (by decide +kernel) ?_
          refine f_stillP rfl rfl rfl (o_move rfl) ?_
          refine f_stillP rfl rfl rfl (o_move rfl) ?_
          refine f_stillP rfl rfl rfl (o_idx sl48 rfl rfl (k * 2) ⟨by omega, by omega, by first | omega | (simp; done) | (simp; omega)⟩) ?_
          refine f_stillP rfl rfl rfl (o_loadA (vs := prCs A.links[k]) Try.isAgg60 Try.sizeOf60 rfl rfl (rdsOwn prCs_len hk)) ?_
          refine f_stillP rfl rfl rfl (o_move rfl) ?_
          refine f_stillP rfl rfl rfl (o_move rfl) ?_
          refine f_stillP rfl rfl rfl (o_idx sl48 rfl rfl (k * 2) ⟨by omega, by omega, by first | omega | (simp; done) | (simp; omega)⟩) ?_
          refine f_stillP rfl rfl rfl (o_loadA (vs := prCs A.links[k]) Try.isAgg60 Try.sizeOf60 rfl rfl (rdsOwn prCs_len hk)) ?_
          refine f_stillP rfl rfl rfl (o_neqA Try.eqGuardType60 (eqP2 A.links[k] A.links[k]) rfl rfl) ?_
          refine f_stillD ?_
          refine f_tn (kh12 _ _ ?_)
          clear kh12
          refine f_condN rfl (by simp) ?_
          refine f_skip ?_
          refine f_bn ?_
          refine f_tn (kh11 _ _ ?_)
          clear kh11
          refine f_region ?_
          refine f_stepP rfl rfl rfl (o_move rfl) ?_
          refine f_stepP rfl rfl rfl (o_add rfl rfl _ (wrap_i64 (by omega))) ?_
          refine f_stepP rfl rfl rfl (o_assign rfl) ?_
          refine f_done ?_
          refine f_tn (f_again (k + 1) (by first | omega | (dsimp only; omega) | (simp; omega)) (by omega) ?_ ?_ ?_)
          · exact (by repeat (first | exact trivial | refine ⟨rfl, ?_⟩))
          · exact (by repeat (first | exact trivial | refine ⟨rfl, ?_⟩))
          · repeat (first | exact Sub.nil | refine Sub.pick ?_ | refine Sub.castO rfl ?_ | refine Sub.skip ?_)
        · skip
          refine f_exit ?_
          refine f_te ?_
          clear kh9
          refine f_te ?_
          refine f_be ?_
          refine f_tn (kh7 _ _ ?_)
          clear kh7
          refine f_seq fun K13 kh13 => ?_
          refine f_region ?_
          refine f_stepP rfl rfl rfl (o_assign rfl) ?_
          refine f_done ?_
          refine f_tn (kh13 _ _ ?_)
          clear kh13
          refine f_ret ?_
          exact f_fin1 [mA2, (rSegs R rn uv lv tv mu ml mt).flatten] Try.results25 rfl (Sub.pairR (by repeat (first | exact Sub.nil | refine Sub.pick ?_))) ⟨rfl, mA2, _, rfl, hA2, RNet.mk hRA⟩

set_option maxRecDepth 100000 in
set_option maxHeartbeats 4000000 in
theorem NetPlays_nil (n : Int) (A : Option Addr) (acts : List NAct) (cap : Nat) (w : World) (hn : ¬ (1 ≤ n ∧ n ≤ 65)) :
    Meets Try.prog 7 [.int .i64 n, .slice A acts.length cap] w [] (fun u m => u = .bool true ∧ m = []) := by
  refine f_enter Try.func7 rfl Try.ntmps7 rfl Owns.nil ?_
  refine f_seq fun K1 kh1 => ?_
  refine f_region ?_
  refine f_stepP rfl rfl rfl (o_assign rfl) ?_
  refine f_done ?_
  refine f_tn (kh1 _ _ ?_)
  clear kh1
  refine f_seq fun K2 kh2 => ?_
  refine f_region ?_
  refine f_stepP rfl rfl rfl (o_move rfl) ?_
  refine f_step rfl rfl rfl (o_call Try.call8 rfl (fun w_ hp_ => New_spec n w_) ?_)
  rintro v12 m12 hN
  rw [if_neg hn] at hN
  obtain ⟨rfl, rfl⟩ := hN
  dsimp only [List.cons_append, List.nil_append]
  refine f_stepP rfl rfl rfl (o_move rfl) ?_
  refine f_stepP rfl rfl rfl (o_extract rfl rfl) ?_
  refine f_stepP rfl rfl rfl (o_extract rfl rfl) ?_
  refine f_stepP rfl rfl rfl (o_assign rfl) ?_
  refine f_stepP rfl rfl rfl (o_assign rfl) ?_
  refine f_done ?_
  refine f_tn (kh2 _ _ ?_)
  clear kh2
  refine f_seq fun K3 kh3 => ?_
  refine f_region ?_
  refine f_stepP rfl rfl rfl (o_move rfl) ?_
  refine f_step rfl rfl rfl (o_call Try.call22 rfl (fun w_ hp_ => RNew_spec n w_) ?_)
  rintro v17 m17 hN
  rw [if_neg hn] at hN
  obtain ⟨rfl, rfl⟩ := hN
  dsimp only [List.cons_append, List.nil_append]
  refine f_stepP rfl rfl rfl (o_move rfl) ?_
  refine f_stepP rfl rfl rfl (o_extract rfl rfl) ?_
  refine f_stepP rfl rfl rfl (o_extract rfl rfl) ?_
  refine f_stepP rfl rfl rfl (o_assign rfl) ?_
  refine f_stepP rfl rfl rfl (o_assign rfl) ?_
  refine f_done ?_
  refine f_tn (kh3 _ _ ?_)
  clear kh3
  refine f_seq fun K4 kh4 => ?_
  refine f_seq fun K5 kh5 => ?_
  refine f_region ?_
  refine f_step rfl rfl rfl (o_call Try.call23 rfl (fun w_ hp_ => names_spec w_) ?_)
  rintro _ _ ⟨rfl, rfl⟩
  dsimp only [List.cons_append, List.nil_append]
  refine f_stepP rfl rfl rfl (o_not rfl) ?_
  refine f_stepP rfl rfl rfl (o_move rfl) ?_
  refine f_stepPY rfl rfl rfl rfl rfl (o_move rfl) ?_
  refine f_stepPY rfl rfl rfl rfl rfl (o_move rfl) ?_
  refine f_stepPY rfl rfl rfl rfl rfl (o_neq rfl rfl) ?_
  refine f_stepP rfl rfl rfl (o_pickF rfl rfl) ?_
  refine f_stepP rfl rfl rfl (o_move rfl) ?_
  refine f_splitL 27 rfl (fun g27 => ?_) (fun g27 => ?_)
  · skip
    refine f_stepN rfl rfl rfl rfl rfl rfl ?_
    refine f_stepN rfl rfl rfl rfl rfl rfl ?_
    refine f_stepN rfl rfl rfl rfl rfl rfl ?_
    refine f_stepN rfl rfl rfl rfl rfl rfl ?_
    refine f_stepN rfl rfl rfl rfl rfl rfl ?_
    refine f_stepP rfl rfl rfl (o_pickT rfl rfl) ?_
    refine f_done ?_
    refine f_tn (kh5 _ _ ?_)
    clear kh5
    refine f_condT rfl ?_
    refine f_seq fun K6 kh6 => ?_
    refine f_region ?_
    refine f_stepP rfl rfl rfl (o_assign rfl) ?_
    refine f_done ?_
    refine f_tn (kh6 _ _ ?_)
    clear kh6
    refine f_ret ?_
    refine f_tr ?_
    exact absurd rfl g27
  · skip
    refine f_stepPY rfl rfl rfl rfl rfl (o_move rfl) ?_
    refine f_stepPY rfl rfl rfl rfl rfl (o_eqlN (by kernel_rfl) rfl rfl) ?_
    refine f_stepPY rfl rfl rfl rfl rfl (o_move rfl) ?_
    refine f_stepPY rfl rfl rfl rfl rfl (o_eqlN (by kernel_rfl) rfl rfl) ?_
    refine f_stepPY rfl rfl rfl rfl rfl (o_neqB Try.underlying4 rfl rfl) ?_
    refine f_stepP rfl rfl rfl (o_pickF rfl rfl) ?_
    refine f_done ?_
    refine f_tn (kh5 _ _ ?_)
    clear kh5
    refine f_cond rfl (fun c33 => ?_) (fun c33 => ?_)
    · skip
      refine f_seq fun K7 kh7 => ?_
      refine f_region ?_
      refine f_stepP rfl rfl rfl (o_assign rfl) ?_
      refine f_done ?_
      refine f_tn (kh7 _ _ ?_)
      clear kh7
      refine f_ret ?_
      refine f_tr ?_
      exact absurd c33 (by simp)
    · skip
      refine f_skip ?_
      refine f_tn (kh4 _ _ ?_)
      clear kh4
      refine f_seq fun K8 kh8 => ?_
      refine f_seq fun K9 kh9 => ?_
      refine f_region ?_
      refine f_stepP rfl rfl rfl (o_assign rfl) ?_
      refine f_done ?_
      refine f_tn (kh9 _ _ ?_)
      clear kh9
      refine f_block ?_
      refine f_loop (α := Unit) [1, 5, 7] (fun x_ => [(9, .int .i64 0)]) (fun x_ => []) (fun x_ => True) (fun x_ => 0) (()) ?_ ?_ ?_ ?_
      · exact (by repeat (first | exact trivial | refine ⟨rfl, ?_⟩))
      · repeat (first | exact Sub.nil | refine Sub.pick ?_ | refine Sub.castO rfl ?_ | refine Sub.skip ?_)
      · trivial
      · rintro x_ _
        refine f_seq fun K10 kh10 => ?_
        refine f_seq fun K11 kh11 => ?_
        refine f_region ?_
        refine f_stepP rfl rfl rfl (o_move rfl) ?_
        refine f_stepP rfl rfl rfl (o_neqN (by kernel_rfl) rfl rfl) ?_
        refine f_stepP rfl rfl rfl (o_move rfl) ?_
        refine f_stepN rfl rfl rfl rfl rfl rfl ?_
        refine f_stepN rfl rfl rfl rfl rfl rfl ?_
        refine f_stepN rfl rfl rfl rfl rfl rfl ?_
        refine f_stepN rfl rfl rfl rfl rfl rfl ?_
        refine f_stepP rfl rfl rfl (o_pickF rfl rfl) ?_
        refine f_stepP rfl rfl rfl (o_move rfl) ?_
        refine f_stepN rfl rfl rfl rfl rfl rfl ?_
        refine f_stepN rfl rfl rfl rfl rfl rfl ?_
        refine f_stepP rfl rfl rfl (o_pickF rfl rfl) ?_
        refine f_done ?_
        refine f_tn (kh11 _ _ ?_)
        clear kh11
        refine f_condF rfl ?_
        refine f_exit ?_
        refine f_te ?_
        clear kh10
        refine f_te ?_
        refine f_be ?_
        refine f_tn (kh8 _ _ ?_)
        clear kh8
        refine f_seq fun K12 kh12 => ?_
        refine f_region ?_
        refine f_step rfl rfl rfl (o_call Try.call9 rfl (fun w_ hp_ => works_spec w_) ?_)
        rintro _ _ ⟨rfl, rfl⟩
        dsimp only [List.cons_append, List.nil_append]
        refine f_stepP rfl rfl rfl (o_assign rfl) ?_
        refine f_done ?_
        refine f_tn (kh12 _ _ ?_)
        clear kh12
        refine f_ret ?_
        exact f_fin1 [] Try.results7 rfl Sub.nil ⟨rfl, rfl⟩

set_option maxRecDepth 100000 in
set_option maxHeartbeats 4000000 in
theorem NetPlays_ok (n : Int) (A : Option Addr) (acts : List NAct) (cap : Nat) (w : World) (hr : Ro (Fr w []) w A (acts.flatMap nactCs)) (hl : acts.length ≤ 9223372036854775807) (hn : 1 ≤ n ∧ n ≤ 65) :
    Meets Try.prog 7 [.int .i64 n, .slice A acts.length cap] w [] (fun u m => u = .bool true ∧ m = []) := by
  refine f_enter Try.func7 rfl Try.ntmps7 rfl Owns.nil ?_
  refine f_seq fun K1 kh1 => ?_
  refine f_region ?_
  refine f_stepP rfl rfl rfl (o_assign rfl) ?_
  refine f_done ?_
  refine f_tn (kh1 _ _ ?_)
  clear kh1
  refine f_seq fun K2 kh2 => ?_
  refine f_region ?_
  refine f_stepP rfl rfl rfl (o_move rfl) ?_
  refine f_step rfl rfl rfl (o_call Try.call8 rfl (fun w_ hp_ => New_spec n w_) ?_)
  rintro v12 m12 hN
  rw [if_pos hn] at hN
  obtain ⟨bn, mA0, rfl, rfl, hA0⟩ := hN
  dsimp only [List.cons_append, List.nil_append]
  refine f_stepP rfl rfl rfl (o_move rfl) ?_
  refine f_stepP rfl rfl rfl (o_extract rfl rfl) ?_
  refine f_stepP rfl rfl rfl (o_extract rfl rfl) ?_
  refine f_stepP rfl rfl rfl (o_assign rfl) ?_
  refine f_stepP rfl rfl rfl (o_assign rfl) ?_
  refine f_done ?_
  refine f_tn (kh2 _ _ ?_)
  clear kh2
  refine f_seq fun K3 kh3 => ?_
  refine f_region ?_
  refine f_stepP rfl rfl rfl (o_move rfl) ?_
  refine f_step rfl rfl rfl (o_call Try.call22 rfl (fun w_ hp_ => RNew_spec n w_) ?_)
  rintro v17 m17 hN
  rw [if_pos hn] at hN
  obtain ⟨rn, mR0, rfl, rfl, hR0⟩ := hN
  dsimp only [List.cons_append, List.nil_append]
  refine f_stepP rfl rfl rfl (o_move rfl) ?_
  refine f_stepP rfl rfl rfl (o_extract rfl rfl) ?_
  refine f_stepP rfl rfl rfl (o_extract rfl rfl) ?_
  refine f_stepP rfl rfl rfl (o_assign rfl) ?_
  refine f_stepP rfl rfl rfl (o_assign rfl) ?_
  refine f_done ?_
  refine f_tn (kh3 _ _ ?_)
  clear kh3
  refine f_seq fun K4 kh4 => ?_
  refine f_seq fun K5 kh5 => ?_
  refine f_region ?_
  refine f_step rfl rfl rfl (o_call Try.call23 rfl (fun w_ hp_ => names_spec w_) ?_)
  rintro _ _ ⟨rfl, rfl⟩
  dsimp only [List.cons_append, List.nil_append]
  refine f_stepP rfl rfl rfl (o_not rfl) ?_
  refine f_stepP rfl rfl rfl (o_move rfl) ?_
  refine f_stepPY rfl rfl rfl rfl rfl (o_move rfl) ?_
  refine f_stepPY rfl rfl rfl rfl rfl (o_move rfl) ?_
  refine f_stepPY rfl rfl rfl rfl rfl (o_neq rfl rfl) ?_
  refine f_stepP rfl rfl rfl (o_pickF rfl rfl) ?_
  refine f_stepP rfl rfl rfl (o_move rfl) ?_
  refine f_splitL 27 rfl (fun g27 => ?_) (fun g27 => ?_)
  · skip
    refine f_stepN rfl rfl rfl rfl rfl rfl ?_
    refine f_stepN rfl rfl rfl rfl rfl rfl ?_
    refine f_stepN rfl rfl rfl rfl rfl rfl ?_
    refine f_stepN rfl rfl rfl rfl rfl rfl ?_
    refine f_stepN rfl rfl rfl rfl rfl rfl ?_
    refine f_stepP rfl rfl rfl (o_pickT rfl rfl) ?_
    refine f_done ?_
    refine f_tn (kh5 _ _ ?_)
    clear kh5
    refine f_condT rfl ?_
    refine f_seq fun K6 kh6 => ?_
    refine f_region ?_
    refine f_stepP rfl rfl rfl (o_assign rfl) ?_
    refine f_done ?_
    refine f_tn (kh6 _ _ ?_)
    clear kh6
    refine f_ret ?_
    refine f_tr ?_
    exact absurd rfl g27
  · skip
    refine f_stepPY rfl rfl rfl rfl rfl (o_move rfl) ?_
    refine f_stepPY rfl rfl rfl rfl rfl (o_eqlN (by kernel_rfl) rfl rfl) ?_
    refine f_stepPY rfl rfl rfl rfl rfl (o_move rfl) ?_
    refine f_stepPY rfl rfl rfl rfl rfl (o_eqlN (by kernel_rfl) rfl rfl) ?_
    refine f_stepPY rfl rfl rfl rfl rfl (o_neqB Try.underlying4 rfl rfl) ?_
    refine f_stepP rfl rfl rfl (o_pickF rfl rfl) ?_
    refine f_done ?_
    refine f_tn (kh5 _ _ ?_)
    clear kh5
    refine f_cond rfl (fun c33 => ?_) (fun c33 => ?_)
    · skip
      refine f_seq fun K7 kh7 => ?_
      refine f_region ?_
      refine f_stepP rfl rfl rfl (o_assign rfl) ?_
      refine f_done ?_
      refine f_tn (kh7 _ _ ?_)
      clear kh7
      refine f_ret ?_
      refine f_tr ?_
      exact absurd c33 (by simp)
    · skip
      refine f_skip ?_
      refine f_tn (kh4 _ _ ?_)
      clear kh4
      refine f_seq fun K8 kh8 => ?_
      refine f_seq fun K9 kh9 => ?_
      refine f_region ?_
      refine f_stepP rfl rfl rfl (o_assign rfl) ?_
      refine f_done ?_
      refine f_tn (kh9 _ _ ?_)
      clear kh9
      refine f_block ?_
      refine f_loop (α := Nat × NetM × NetR × Seg × Seg) [1, 5, 7] (fun ⟨i, B, R, mA, mR⟩ => [(9, .int .i64 (i : Int))]) (fun ⟨i, B, R, mA, mR⟩ => [mA, mR]) (fun ⟨i, B, R, mA, mR⟩ => i ≤ acts.length ∧ i ≤ 300 ∧ R.lts.length ≤ i ∧ NetRep B bn mA ∧ RNet R rn mR ∧ Sim B R) (fun ⟨i, B, R, mA, mR⟩ => acts.length - i) (0, NetM.new n.toNat, NetR.new n.toNat, mA0, mR0) ?_ ?_ ?_ ?_
      · exact (by repeat (first | exact trivial | refine ⟨rfl, ?_⟩))
      · repeat (first | exact Sub.nil | refine Sub.pick ?_ | refine Sub.castO rfl ?_ | refine Sub.skip ?_)
      · exact ⟨by omega, by omega, by simp [NetR.new], hA0, hR0, Sim.start _⟩
      · rintro ⟨i, B, R, mA, mR⟩ ⟨hil, hi3, hrl, hA, hR, hS⟩
        refine f_seq fun K10 kh10 => ?_
        refine f_seq fun K11 kh11 => ?_
        refine f_region ?_
        refine f_stepP rfl rfl rfl (o_move rfl) ?_
        refine f_stepP rfl rfl rfl (o_neqN (by kernel_rfl) rfl rfl) ?_
        refine f_stepP rfl rfl rfl (o_move rfl) ?_
        refine f_stepPY rfl rfl rfl rfl rfl (o_move rfl) ?_
        refine f_stepPY rfl rfl rfl rfl rfl (o_move rfl) ?_
        refine f_stepPY rfl rfl rfl rfl rfl (o_len sl43 rfl) ?_
        refine f_stepPY rfl rfl rfl rfl rfl (o_lss rfl rfl) ?_
        refine f_stepP rfl rfl rfl (o_pickT rfl rfl) ?_
        refine f_stepP rfl rfl rfl (o_move rfl) ?_
        refine f_splitL 42 rfl (fun g42 => ?_) (fun g42 => ?_)
        · skip
          refine f_stepPY rfl rfl rfl rfl rfl (o_move rfl) ?_
          refine f_stepPY rfl rfl rfl rfl rfl (o_lss rfl rfl) ?_
          refine f_stepP rfl rfl rfl (o_pickT rfl rfl) ?_
          refine f_done ?_
          refine f_tn (kh11 _ _ ?_)
          clear kh11
          refine f_cond rfl (fun c45 => ?_) (fun c45 => ?_)
          · skip
            refine f_skip ?_
            refine f_tn (kh10 _ _ ?_)
            clear kh10
            refine f_seq fun K12 kh12 => ?_
            refine f_block ?_
            refine f_seq fun K13 kh13 => ?_
            refine f_region ?_
            refine f_stepP rfl rfl rfl (o_move rfl) ?_
            refine f_stepP rfl rfl rfl (o_move rfl) ?_
            refine f_stepP rfl rfl rfl (o_move rfl) ?_
            refine f_stepP rfl rfl rfl (o_move rfl) ?_
            have hi : i < acts.length := by omega
            obtain ⟨bl, off, rfl, hSb, hc⟩ := hr (flat_ne nactCs nactCs_len (by omega) hi)
            refine f_stepP rfl rfl rfl (o_idx sl43 rfl rfl (off + i * 5) ⟨by omega, by omega, by first | omega | (simp; done) | (simp; omega)⟩) ?_
            refine f_stepP rfl rfl rfl (o_loadA (vs := nactCs acts[i]) Try.isAgg45 Try.sizeOf45 rfl rfl (roElem nactCs_len hSb hc hi)) ?_
            refine f_step rfl rfl rfl (o_callM [mA, mR] _ Try.call24 rfl (Sub.pick (Sub.pick Sub.refl)) (fun w_ hp_ => step_spec B R bn rn mA mR acts[i] w_ hA hR hS (by omega) hp_.owns) ?_)
            rintro _ _ ⟨rfl, B2, R2, mA2, mR2, rfl, hA2, hR2, hS2, hle2⟩
            dsimp only [List.cons_append, List.nil_append]
            refine f_stepP rfl rfl rfl (o_not rfl) ?_
            refine f_stepP rfl rfl rfl (o_move rfl) ?_
            refine f_stepPY rfl rfl rfl rfl rfl (o_move rfl) ?_
            refine f_stepPY rfl rfl rfl rfl rfl (o_move rfl) ?_
            refine f_stepY rfl rfl rfl rfl rfl (o_callM [mA2, mR2] _ Try.call25 rfl (Sub.pick (Sub.pick Sub.refl)) (fun w_ hp_ => same_spec B2 R2 bn rn mA2 mR2 w_ hA2 hR2 hS2 hp_.owns) ?_)
            rintro _ _ ⟨rfl, mA3, mR3, rfl, hA3, hR3⟩
            dsimp only [List.cons_append, List.nil_append]
            refine f_stepPY rfl rfl rfl rfl rfl (o_not rfl) ?_
            refine f_stepP rfl rfl rfl (o_pickF rfl rfl) ?_
            refine f_done ?_
            refine f_tn (kh13 _ _ ?_)
            clear kh13
            refine f_condF rfl ?_
            refine f_skip ?_
            refine f_bn ?_
            refine f_tn (kh12 _ _ ?_)
            clear kh12
            refine f_region ?_
            refine f_stepP rfl rfl rfl (o_move rfl) ?_
            refine f_stepP rfl rfl rfl (o_add rfl rfl _ (wrap_i64 (by omega))) ?_
            refine f_stepP rfl rfl rfl (o_assign rfl) ?_
            refine f_done ?_
            refine f_tn (f_again (i + 1, B2, R2, mA3, mR3) (by first | omega | (dsimp only; omega) | (simp; omega)) ⟨by omega, by omega, by omega, hA3, hR3, hS2⟩ ?_ ?_ ?_)
            · exact (by repeat (first | exact trivial | refine ⟨rfl, ?_⟩))
            · exact (by repeat (first | exact trivial | refine ⟨rfl, ?_⟩))
            · repeat (first | exact Sub.nil | refine Sub.pick ?_ | refine Sub.castO rfl ?_ | refine Sub.skip ?_)
          · skip
            refine f_exit ?_
            refine f_te ?_
            clear kh10
            refine f_te ?_
            refine f_be ?_
            refine f_tn (kh8 _ _ ?_)
            clear kh8
            refine f_seq fun K14 kh14 => ?_
            refine f_region ?_
            refine f_step rfl rfl rfl (o_call Try.call9 rfl (fun w_ hp_ => works_spec w_) ?_)
            rintro _ _ ⟨rfl, rfl⟩
            dsimp only [List.cons_append, List.nil_append]
            refine f_stepP rfl rfl rfl (o_assign rfl) ?_
            refine f_done ?_
            refine f_tn (kh14 _ _ ?_)
            clear kh14
            refine f_ret ?_
            exact f_fin1 [] Try.results7 rfl Sub.nil ⟨rfl, rfl⟩
        · skip
          refine f_stepN rfl rfl rfl rfl rfl rfl ?_
          refine f_stepN rfl rfl rfl rfl rfl rfl ?_
          refine f_stepP rfl rfl rfl (o_pickF rfl rfl) ?_
          refine f_done ?_
          refine f_tn (kh11 _ _ ?_)
          clear kh11
          refine f_condF rfl ?_
          refine f_exit ?_
          refine f_te ?_
          clear kh10
          refine f_te ?_
          refine f_be ?_
          refine f_tn (kh8 _ _ ?_)
          clear kh8
          refine f_seq fun K15 kh15 => ?_
          refine f_region ?_
          refine f_step rfl rfl rfl (o_call Try.call9 rfl (fun w_ hp_ => works_spec w_) ?_)
          rintro _ _ ⟨rfl, rfl⟩
          dsimp only [List.cons_append, List.nil_append]
          refine f_stepP rfl rfl rfl (o_assign rfl) ?_
          refine f_done ?_
          refine f_tn (kh15 _ _ ?_)
          clear kh15
          refine f_ret ?_
          exact f_fin1 [] Try.results7 rfl Sub.nil ⟨rfl, rfl⟩


theorem NetPlays_spec (n : Int) (A : Option Addr) (acts : List NAct) (cap : Nat) (w : World) (hr : Ro (Fr w []) w A (acts.flatMap nactCs)) (hl : acts.length ≤ 9223372036854775807) :
    Meets Try.prog 7 [.int .i64 n, .slice A acts.length cap] w [] (fun u m => u = .bool true ∧ m = []) := by
  by_cases hn : 1 ≤ n ∧ n ≤ 65
  · exact NetPlays_ok n A acts cap w hr hl hn
  · exact NetPlays_nil n A acts cap w hn

end Go.Proofs.Ytbkneamjpiiepaa
