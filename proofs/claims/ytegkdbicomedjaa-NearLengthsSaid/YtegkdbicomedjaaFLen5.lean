/- near.Length; flyoverlaw05.NearLengths answers true. -/
import Derived.Test.YtegkdbicomedjaaFRef5
namespace Go.Proofs.Ytegkdbicomedjaa
open Go Go.RowKit Fly
set_option linter.unusedVariables false
set_option linter.unusedSimpArgs false

set_option maxRecDepth 100000 in
set_option maxHeartbeats 4000000 in
theorem IdxF_spec (A : Option Addr) (l : List Int) (cap : Nat) (p : Int → Bool) (fi : FuncId) (capi : List Value) (w : World) (hr : Ro (Fr w []) w A (ints l)) (hm : l.length ≤ 9223372036854775807) (hci : ∀ args w, (callFunc fi args).run Try.prog w = .ok (.enter fi args) w)
    (his : ∀ w', (∀ k, Fr w [] k → w'.heap[k]? = w.heap[k]?) → ∀ i, i ∈ l → Meets Try.prog fi ([.int .i64 i] ++ capi) w' [] (fun u m => u = .bool (p i) ∧ m = [])) :
    Meets Try.prog 62 [.slice A l.length cap, .func (.func fi) #[] capi.toArray] w [] (fun u m => ∃ r, u = .int .i64 r ∧ m = [] ∧ decide (0 ≤ r) = l.any p) := by
  refine f_enter Try.func62 rfl Try.ntmps62 rfl Owns.nil ?_
  refine f_seq fun K1 kh1 => ?_
  refine f_region ?_
  refine f_stepP rfl rfl rfl (o_assign rfl) ?_
  refine f_done ?_
  refine f_tn (kh1 _ _ ?_)
  clear kh1
  refine f_seq fun K2 kh2 => ?_
  refine f_seq fun K3 kh3 => ?_
  refine f_region ?_
  refine f_stepP rfl rfl rfl (o_move rfl) ?_
  refine f_stepP rfl rfl rfl (o_len sl28 rfl) ?_
  refine f_stepP rfl rfl rfl (o_move rfl) ?_
  refine f_done ?_
  refine f_tn (kh3 _ _ ?_)
  clear kh3
  refine f_block ?_
  refine f_loopK (α := Nat) [0, 1, 7] (fun k => [(8, .int .i64 (k : Int))]) (fun k => k ≤ l.length ∧ ∀ j (a : j < l.length), j < k → p l[j] = false) (fun k => l.length - k) (0) ?_ ?_ ?_
  · exact (by repeat (first | exact trivial | refine ⟨rfl, ?_⟩))
  · exact ⟨Nat.zero_le _, fun j _ h => by omega⟩
  · rintro k ⟨hkl, hpre⟩
    refine f_seq fun K4 kh4 => ?_
    refine f_region ?_
    refine f_stepP rfl rfl rfl (o_lss rfl rfl) ?_
    refine f_done ?_
    refine f_tn (kh4 _ _ ?_)
    clear kh4
    refine f_seq fun K5 kh5 => ?_
    refine f_cond rfl (fun c9 => ?_) (fun c9 => ?_)
    · skip
      refine f_skip ?_
      refine f_tn (kh5 _ _ ?_)
      clear kh5
      refine f_seq fun K6 kh6 => ?_
      refine f_block ?_
      refine f_seq fun K7 kh7 => ?_
      refine f_region ?_
      refine f_stepP rfl rfl rfl (o_move rfl) ?_
      refine f_stepP rfl rfl rfl (o_assign rfl) ?_
      refine f_done ?_
      refine f_tn (kh7 _ _ ?_)
      clear kh7
      refine f_seq fun K8 kh8 => ?_
      refine f_region ?_
      refine f_stepP rfl rfl rfl (o_move rfl) ?_
      refine f_stepP rfl rfl rfl (o_move rfl) ?_
      refine f_stepP rfl rfl rfl (o_move rfl) ?_
      have hk : k < l.length := by omega
      obtain ⟨b1, o1, rfl, hS1, hc1⟩ := hr (map_ne hk)
      refine f_stepP rfl rfl rfl (o_idx sl28 rfl rfl (o1 + k) ⟨by omega, by omega, by first | omega | (simp; done) | (simp; omega)⟩) ?_
      refine f_stepP rfl rfl rfl (o_load Try.isAgg3 rfl (roOne (enc := (.int .i64 ·)) hS1 hc1 hk)) ?_
      refine f_step rfl rfl rfl (o_callV [] _ hci rfl rfl Sub.refl (fun w_ hp_ => (by have h := his w_ (fun k hk => hp_.same k hk) _ (List.getElem_mem hk); exact h)) ?_)
      rintro _ _ ⟨rfl, rfl⟩
      dsimp only [List.cons_append, List.nil_append]
      refine f_done ?_
      refine f_tn (kh8 _ _ ?_)
      clear kh8
      refine f_condB rfl (fun c16 => ?_) (fun c16 => ?_)
      · skip
        refine f_seq fun K9 kh9 => ?_
        refine f_region ?_
        refine f_stepP rfl rfl rfl (o_move rfl) ?_
        refine f_stepP rfl rfl rfl (o_assign rfl) ?_
        refine f_done ?_
        refine f_tn (kh9 _ _ ?_)
        clear kh9
        refine f_ret ?_
        refine f_br ?_
        refine f_tr ?_
        refine f_tr ?_
        refine f_br ?_
        refine f_tr ?_
        exact f_fin1 [] Try.results62 rfl Sub.nil ⟨_, rfl, rfl, by rw [any_yes hk c16]; simp⟩
      · skip
        refine f_skip ?_
        refine f_bn ?_
        refine f_tn (kh6 _ _ ?_)
        clear kh6
        refine f_region ?_
        refine f_stepP rfl rfl rfl (o_add rfl rfl _ (wrap_i64 (by omega))) ?_
        refine f_stepP rfl rfl rfl (o_move rfl) ?_
        refine f_done ?_
        refine f_tn (f_again (k + 1) (by first | omega | (dsimp only; omega) | (simp; omega)) ⟨by omega, false_next (hk := hk) hpre (by simpa using c16)⟩ ?_ ?_ ?_)
        · exact (by repeat (first | exact trivial | refine ⟨rfl, ?_⟩))
        · exact (by repeat (first | exact trivial | refine ⟨rfl, ?_⟩))
        · repeat (first | exact Sub.nil | refine Sub.pick ?_ | refine Sub.castO rfl ?_ | refine Sub.skip ?_)
    · skip
      refine f_exit ?_
      refine f_te ?_
      clear kh5
      refine f_te ?_
      refine f_be ?_
      refine f_tn (kh2 _ _ ?_)
      clear kh2
      refine f_seq fun K10 kh10 => ?_
      refine f_region ?_
      refine f_stepP rfl rfl rfl (o_assign rfl) ?_
      refine f_done ?_
      refine f_tn (kh10 _ _ ?_)
      clear kh10
      refine f_ret ?_
      exact f_fin1 [] Try.results62 rfl Sub.nil ⟨_, rfl, rfl, by rw [any_no (by omega) hpre]; rfl⟩

set_option maxRecDepth 100000 in
set_option maxHeartbeats 4000000 in
theorem ContF_spec (A : Option Addr) (l : List Int) (cap : Nat) (p : Int → Bool) (fi : FuncId) (capi : List Value) (w : World) (hr : Ro (Fr w []) w A (ints l)) (hm : l.length ≤ 9223372036854775807) (hci : ∀ args w, (callFunc fi args).run Try.prog w = .ok (.enter fi args) w)
    (his : ∀ w', (∀ k, Fr w [] k → w'.heap[k]? = w.heap[k]?) → ∀ i, i ∈ l → Meets Try.prog fi ([.int .i64 i] ++ capi) w' [] (fun u m => u = .bool (p i) ∧ m = [])) :
    Meets Try.prog 50 [.slice A l.length cap, .func (.func fi) #[] capi.toArray] w [] (fun u m => u = .bool (l.any p) ∧ m = []) := by
  refine f_enter Try.func50 rfl Try.ntmps50 rfl Owns.nil ?_
  refine f_seq fun K1 kh1 => ?_
  refine f_region ?_
  refine f_stepP rfl rfl rfl (o_assign rfl) ?_
  refine f_done ?_
  refine f_tn (kh1 _ _ ?_)
  clear kh1
  refine f_seq fun K2 kh2 => ?_
  refine f_region ?_
  refine f_stepP rfl rfl rfl (o_move rfl) ?_
  refine f_stepP rfl rfl rfl (o_move rfl) ?_
  refine f_step rfl rfl rfl (o_call Try.call62 rfl (fun w_ hp_ => IdxF_spec A l cap p fi capi w_ (hr.up0 hp_) hm hci (fun w' hs i hi => his w' (fun k hk => by rw [hs k ⟨Nat.lt_of_lt_of_le (hp_.lt k hk) hp_.size, by simp⟩]; exact hp_.same k hk) i hi)) ?_)
  rintro _ _ ⟨r, rfl, rfl, hr2⟩
  dsimp only [List.cons_append, List.nil_append]
  refine f_stepP rfl rfl rfl (o_geq rfl rfl) ?_
  refine f_stepP rfl rfl rfl (o_assign rfl) ?_
  refine f_done ?_
  refine f_tn (kh2 _ _ ?_)
  clear kh2
  refine f_ret ?_
  exact f_fin1 [] Try.results50 rfl Sub.nil ⟨by rw [← hr2], rfl⟩

set_option maxRecDepth 100000 in
set_option maxHeartbeats 4000000 in
theorem Len1_spec (N : Int) (A : Option Addr) (l : List Arc) (cap b : Nat) (i : Int) (w : World) (h2 : Ro (Fr w []) w (some ⟨b, 0, none⟩) [.int .i64 N, .slice A l.length cap]) :
    Meets Try.prog 51 ([.int .i64 i] ++ [.pointer (some ⟨b, 0, none⟩)]) w [] (fun u m => u = .bool (offs l i) ∧ m = []) := by
  obtain ⟨b', o', e', hS2, hc2⟩ := h2 (by simp)
  obtain ⟨rfl, rfl⟩ : b = b' ∧ 0 = o' := by cases e'; exact ⟨rfl, rfl⟩
  refine f_enter Try.func51 rfl Try.ntmps51 rfl Owns.nil ?_
  refine f_seq fun K1 kh1 => ?_
  refine f_region ?_
  refine f_stepP rfl rfl rfl (o_assign rfl) ?_
  refine f_done ?_
  refine f_tn (kh1 _ _ ?_)
  clear kh1
  refine f_seq fun K2 kh2 => ?_
  refine f_region ?_
  refine f_stepP rfl rfl rfl (o_move rfl) ?_
  refine f_stepP rfl rfl rfl (o_lss rfl rfl) ?_
  refine f_stepP rfl rfl rfl (o_move rfl) ?_
  refine f_splitL 6 rfl (fun g6 => ?_) (fun g6 => ?_)
  · skip
    refine f_stepN rfl rfl rfl rfl rfl rfl ?_
    refine f_stepN rfl rfl rfl rfl rfl rfl ?_
    refine f_stepN rfl rfl rfl rfl rfl rfl ?_
    refine f_stepN rfl rfl rfl rfl rfl rfl ?_
    refine f_stepN rfl rfl rfl rfl rfl rfl ?_
    refine f_stepP rfl rfl rfl (o_pickT rfl rfl) ?_
    refine f_stepP rfl rfl rfl (o_assign rfl) ?_
    refine f_done ?_
    refine f_tn (kh2 _ _ ?_)
    clear kh2
    refine f_ret ?_
    exact f_fin1 [] Try.results51 rfl Sub.nil ⟨by unfold offs; rw [decide_eq_true g6]; rfl, rfl⟩
  · skip
    refine f_stepPY rfl rfl rfl rfl rfl (o_move rfl) ?_
    refine f_stepPY rfl rfl rfl rfl rfl (o_field fa24_1 rfl) ?_
    refine f_stepPY rfl rfl rfl rfl rfl (o_load Try.isAgg22 rfl (rdS hS2 (hc2 1 _ rfl))) ?_
    refine f_stepPY rfl rfl rfl rfl rfl (o_len sl22 rfl) ?_
    refine f_stepPY rfl rfl rfl rfl rfl (o_geq rfl rfl) ?_
    refine f_stepP rfl rfl rfl (o_pickF rfl rfl) ?_
    refine f_stepP rfl rfl rfl (o_assign rfl) ?_
    refine f_done ?_
    refine f_tn (kh2 _ _ ?_)
    clear kh2
    refine f_ret ?_
    exact f_fin1 [] Try.results51 rfl Sub.nil ⟨by unfold offs; rw [decide_eq_false g6]; rfl, rfl⟩

set_option maxRecDepth 100000 in
set_option maxHeartbeats 4000000 in
theorem Length_spec (N : Int) (A : Option Addr) (l : List Arc) (cap : Nat) (s t : Int) (B : Option Addr) (arcs : List Int) (cb : Nat) (w : World) (hr : Ro (Fr w []) w A (l.flatMap arcCs)) (hl : l.length ≤ 9223372036854775807) (hN : I64 N) (hok : ∀ x ∈ l, ArcOk x) (hb : Ro (Fr w []) w B (ints arcs)) (hm : arcs.length ≤ 9223372036854775807) :
    Meets Try.prog 29 [.agg #[.int .i64 N, .slice A l.length cap], .int .i64 s, .int .i64 t, .slice B arcs.length cb] w [] (fun u m => u = .tuple #[.int .u64 (glen N l s t arcs).1, .int .i64 (glen N l s t arcs).2] ∧ m = []) := by
  refine f_enter Try.func29 rfl Try.ntmps29 rfl Owns.nil ?_
  refine f_seq fun K1 kh1 => ?_
  refine f_region ?_
  refine f_step rfl rfl rfl (o_box rfl rfl fun b4 => ?_)
  refine f_stepP rfl rfl rfl (o_assign rfl) ?_
  refine f_stepP rfl rfl rfl (o_assign rfl) ?_
  refine f_done ?_
  refine f_tn (kh1 _ _ ?_)
  clear kh1
  refine f_seq fun K2 kh2 => ?_
  refine f_seq fun K3 kh3 => ?_
  refine f_region ?_
  refine f_stepP rfl rfl rfl (o_loadA (vs := [_, _]) Try.isAgg24 Try.sizeOf24 rfl rfl ⟨(rdA rfl), (rdA rfl), trivial⟩) ?_
  refine f_stepP rfl rfl rfl (o_move rfl) ?_
  refine f_stepP rfl rfl rfl (o_move rfl) ?_
  refine f_step rfl rfl rfl (o_sliceN (len := 2) el28 (by omega) rfl rfl fun b19 => ?_)
  refine f_step rfl rfl rfl (o_call Try.call32 rfl (fun w_ hp_ => looked_spec N A l cap (some ⟨b19, 0, none⟩) [s, t] 2 w_ (hr.up0 hp_) (roOwn (b := b19) hp_ (cs := ints [s, t]) (fun j v hj => hj)) hl hN hok (by simp)) ?_)
  rintro _ _ ⟨rfl, rfl⟩
  dsimp only [List.cons_append, List.nil_append]
  refine f_stepP rfl rfl rfl (o_assign rfl) ?_
  refine f_done ?_
  refine f_tn (kh3 _ _ ?_)
  clear kh3
  refine f_seq fun K4 kh4 => ?_
  refine f_region ?_
  refine f_stepP rfl rfl rfl (o_move rfl) ?_
  refine f_stepP rfl rfl rfl (o_neq rfl rfl) ?_
  refine f_done ?_
  refine f_tn (kh4 _ _ ?_)
  clear kh4
  refine f_cond rfl (fun c22 => ?_) (fun c22 => ?_)
  · skip
    refine f_seq fun K5 kh5 => ?_
    refine f_region ?_
    refine f_stepP rfl rfl rfl (o_move rfl) ?_
    refine f_stepP rfl rfl rfl (o_assign rfl) ?_
    refine f_stepP rfl rfl rfl (o_assign rfl) ?_
    refine f_done ?_
    refine f_tn (kh5 _ _ ?_)
    clear kh5
    refine f_ret ?_
    refine f_tr ?_
    exact f_fin2 [] Try.results29 rfl rfl Sub.nil ⟨by rw [glen_looked c22], rfl⟩
  · skip
    have hz : nlooked N l [s, t] = 0 := by simpa using c22
    obtain ⟨hg0, _⟩ := nlooked_zero hz
    have hN1 := gcheck_zero hg0
    obtain ⟨n, rfl⟩ : ∃ n : Nat, N = n := ⟨N.toNat, by omega⟩
    have hg := gok_of hg0 hok
    have hlen := hg.len
    refine f_skip ?_
    refine f_tn (kh2 _ _ ?_)
    clear kh2
    refine f_seq fun K6 kh6 => ?_
    refine f_seq fun K7 kh7 => ?_
    refine f_region ?_
    refine f_stepP rfl rfl rfl (o_move rfl) ?_
    refine f_stepP rfl rfl rfl (o_len sl28 rfl) ?_
    refine f_stepP rfl rfl rfl (o_gtr rfl rfl) ?_
    refine f_done ?_
    refine f_tn (kh7 _ _ ?_)
    clear kh7
    refine f_cond rfl (fun c26 => ?_) (fun c26 => ?_)
    · skip
      refine f_seq fun K8 kh8 => ?_
      refine f_region ?_
      refine f_stepP rfl rfl rfl (o_assign rfl) ?_
      refine f_stepP rfl rfl rfl (o_assign rfl) ?_
      refine f_done ?_
      refine f_tn (kh8 _ _ ?_)
      clear kh8
      refine f_ret ?_
      refine f_tr ?_
      exact f_fin2 [] Try.results29 rfl rfl Sub.nil ⟨by rw [glen_long hz (by omega)], rfl⟩
    · skip
      refine f_skip ?_
      refine f_tn (kh6 _ _ ?_)
      clear kh6
      refine f_seq fun K9 kh9 => ?_
      refine f_seq fun K10 kh10 => ?_
      refine f_region ?_
      refine f_stepP rfl rfl rfl (o_move rfl) ?_
      refine f_stepP rfl rfl rfl (o_func rfl rfl) ?_
      refine f_step rfl rfl rfl (o_call Try.call50 rfl (fun w_ hp_ => ContF_spec B arcs cb (offs l) 51 [.pointer (some ⟨b4, 0, none⟩)] w_ (hb.up0 hp_) hm Try.call51 (fun w' hs i hi => Len1_spec (n : Int) A l cap b4 i w' (heldRo hp_ hs))) ?_)
      rintro _ _ ⟨rfl, rfl⟩
      dsimp only [List.cons_append, List.nil_append]
      refine f_done ?_
      refine f_tn (kh10 _ _ ?_)
      clear kh10
      refine f_condB rfl (fun c29 => ?_) (fun c29 => ?_)
      · skip
        refine f_seq fun K11 kh11 => ?_
        refine f_region ?_
        refine f_stepP rfl rfl rfl (o_assign rfl) ?_
        refine f_stepP rfl rfl rfl (o_assign rfl) ?_
        refine f_done ?_
        refine f_tn (kh11 _ _ ?_)
        clear kh11
        refine f_ret ?_
        refine f_tr ?_
        exact f_fin2 [] Try.results29 rfl rfl Sub.nil ⟨by rw [glen_off hz (by omega) c29], rfl⟩
      · skip
        have hno : arcs.any (offs l) = false := by simpa using c29
        refine f_skip ?_
        refine f_tn (kh9 _ _ ?_)
        clear kh9
        refine f_seq fun K12 kh12 => ?_
        refine f_region ?_
        refine f_stepP rfl rfl rfl (o_move rfl) ?_
        refine f_stepP rfl rfl rfl (o_assign rfl) ?_
        refine f_done ?_
        refine f_tn (kh12 _ _ ?_)
        clear kh12
        refine f_seq fun K13 kh13 => ?_
        refine f_region ?_
        refine f_stepP rfl rfl rfl (o_assign rfl) ?_
        refine f_done ?_
        refine f_tn (kh13 _ _ ?_)
        clear kh13
        refine f_seq fun K14 kh14 => ?_
        refine f_seq fun K15 kh15 => ?_
        refine f_region ?_
        refine f_stepP rfl rfl rfl (o_move rfl) ?_
        refine f_stepP rfl rfl rfl (o_len sl28 rfl) ?_
        refine f_stepP rfl rfl rfl (o_move rfl) ?_
        refine f_done ?_
        refine f_tn (kh15 _ _ ?_)
        clear kh15
        refine f_block ?_
        refine f_loop (α := Nat × Int × Int) [2, 4, 31, 32] (fun ⟨k, d, a⟩ => [(33, .int .i64 (k : Int)), (12, .int .u64 d), (11, .int .i64 a)]) (fun ⟨k, d, a⟩ => [[(b4, blk [.int .i64 (n : Int), .slice A l.length cap] 24)]]) (fun ⟨k, d, a⟩ => k ≤ arcs.length ∧ longGo l 0 s arcs = longGo l d a (arcs.drop k) ∧ 0 ≤ d ∧ d ≤ INF) (fun ⟨k, d, a⟩ => arcs.length - k) (0, 0, s) ?_ ?_ ?_ ?_
        · exact (by repeat (first | exact trivial | refine ⟨rfl, ?_⟩))
        · repeat (first | exact Sub.nil | refine Sub.pick ?_ | refine Sub.castO rfl ?_ | refine Sub.skip ?_)
        · exact ⟨Nat.zero_le _, rfl, Int.le_refl _, by decide⟩
        · rintro ⟨k, d, a⟩ ⟨hkl, hgo, hd0, hd1⟩
          refine f_seq fun K16 kh16 => ?_
          refine f_region ?_
          refine f_stepP rfl rfl rfl (o_lss rfl rfl) ?_
          refine f_done ?_
          refine f_tn (kh16 _ _ ?_)
          clear kh16
          refine f_seq fun K17 kh17 => ?_
          refine f_cond rfl (fun c34 => ?_) (fun c34 => ?_)
          · skip
            refine f_skip ?_
            refine f_tn (kh17 _ _ ?_)
            clear kh17
            refine f_seq fun K18 kh18 => ?_
            refine f_block ?_
            refine f_seq fun K19 kh19 => ?_
            refine f_region ?_
            have hk : k < arcs.length := by omega
            have hoff : offs l arcs[k] = false := by have := List.any_eq_false.1 hno _ (List.getElem_mem hk); simpa using this
            have hrg : 0 ≤ arcs[k] ∧ arcs[k] < (l.length : Int) := by unfold offs at hoff; simp at hoff; omega
            obtain ⟨j, hkj⟩ : ∃ j : Nat, arcs[k] = j := ⟨arcs[k].toNat, by omega⟩
            have hj : j < l.length := by omega
            obtain ⟨bl, off, rfl, hS, hc⟩ := hr (flat_ne arcCs arcCs_len (by omega) hj)
            have hwj := (hg.ok _ (List.getElem_mem hj)).wt
            obtain ⟨bi, oi, rfl, hSi, hci⟩ := hb (map_ne hk)
            refine f_stepP rfl rfl rfl (o_idx sl28 rfl rfl (oi + k) ⟨by omega, by omega, by first | omega | (simp; done) | (simp; omega)⟩) ?_
            refine f_stepP rfl rfl rfl (o_load Try.isAgg3 rfl (roOne (enc := (.int .i64 ·)) hSi hci hk)) ?_
            refine f_stepP rfl rfl rfl (o_assign rfl) ?_
            refine f_done ?_
            refine f_tn (kh19 _ _ ?_)
            clear kh19
            refine f_seq fun K20 kh20 => ?_
            refine f_region ?_
            refine f_stepP rfl rfl rfl (o_field fa24_1 rfl) ?_
            refine f_stepP rfl rfl rfl (o_load Try.isAgg22 rfl (rdA rfl)) ?_
            refine f_stepP rfl rfl rfl (o_move rfl) ?_
            refine f_stepP rfl rfl rfl (o_idx sl22 rfl rfl (off + j * 3) ⟨by omega, by omega, by first | omega | (simp; done) | (simp; omega)⟩) ?_
            refine f_stepP rfl rfl rfl (o_loadA (vs := arcCs l[j]) Try.isAgg44 Try.sizeOf44 rfl rfl (roElem arcCs_len hS hc hj)) ?_
            refine f_step rfl rfl rfl (o_alloc Try.zeroValue44 rfl fun b15 => ?_)
            refine f_step0 rfl rfl (o_storeA Try.sizeOf44 rfl rfl rfl rfl (by first | exact Nat.le_of_ble_eq_true rfl | (simp; done) | (simp; omega)) (arcCs l[j]) rfl ?_)
            refine f_done ?_
            refine f_tn (kh20 _ _ ?_)
            clear kh20
            refine f_seq fun K21 kh21 => ?_
            refine f_seq fun K22 kh22 => ?_
            refine f_region ?_
            refine f_stepP rfl rfl rfl (o_field fa44_0 rfl) ?_
            refine f_stepP rfl rfl rfl (o_load Try.isAgg3 rfl (rdA rfl)) ?_
            refine f_stepP rfl rfl rfl (o_move rfl) ?_
            refine f_stepP rfl rfl rfl (o_neq rfl rfl) ?_
            refine f_done ?_
            refine f_tn (kh22 _ _ ?_)
            clear kh22
            refine f_cond rfl (fun c45 => ?_) (fun c45 => ?_)
            · skip
              refine f_seq fun K23 kh23 => ?_
              refine f_region ?_
              refine f_stepP rfl rfl rfl (o_assign rfl) ?_
              refine f_stepP rfl rfl rfl (o_assign rfl) ?_
              refine f_done ?_
              refine f_tn (kh23 _ _ ?_)
              clear kh23
              refine f_ret ?_
              refine f_tr ?_
              refine f_br ?_
              refine f_tr ?_
              refine f_tr ?_
              refine f_br ?_
              refine f_tr ?_
              exact f_fin2 [] Try.results29 rfl rfl Sub.nil ⟨by rw [glen_none hz (by omega) hno (by rw [hgo]; exact longGo_ne hk hkj hj (by omega))], rfl⟩
            · skip
              refine f_skip ?_
              refine f_tn (kh21 _ _ ?_)
              clear kh21
              refine f_seq fun K24 kh24 => ?_
              refine f_region ?_
              refine f_stepP rfl rfl rfl (o_move rfl) ?_
              refine f_stepP rfl rfl rfl (o_field fa44_2 rfl) ?_
              refine f_stepP rfl rfl rfl (o_load Try.isAgg42 rfl (rdA rfl)) ?_
              refine f_stepP rfl rfl rfl (o_conv Try.runUnderlying42 Try.runUnderlying30 rfl _ (wrap_u64 (by omega))) ?_
              refine f_step rfl rfl rfl (o_call Try.call18 rfl (fun w_ hp_ => Add_spec d l[j].wt w_ ⟨hd0, hd1⟩ ⟨hwj.1, by unfold INF; omega⟩) ?_)
              rintro _ _ ⟨rfl, rfl⟩
              dsimp only [List.cons_append, List.nil_append]
              refine f_stepP rfl rfl rfl (o_assign rfl) ?_
              refine f_done ?_
              refine f_tn (kh24 _ _ ?_)
              clear kh24
              refine f_region ?_
              refine f_stepP rfl rfl rfl (o_field fa44_1 rfl) ?_
              refine f_stepP rfl rfl rfl (o_load Try.isAgg3 rfl (rdA rfl)) ?_
              refine f_stepP rfl rfl rfl (o_assign rfl) ?_
              refine f_done ?_
              refine f_bn ?_
              refine f_tn (kh18 _ _ ?_)
              clear kh18
              refine f_region ?_
              refine f_stepP rfl rfl rfl (o_add rfl rfl _ (wrap_i64 (by omega))) ?_
              refine f_stepP rfl rfl rfl (o_move rfl) ?_
              refine f_done ?_
              refine f_tn (f_again (k + 1, dadd d l[j].wt, l[j].dst) (by first | omega | (dsimp only; omega) | (simp; omega)) ⟨by omega, by rw [hgo]; exact longGo_step hk hkj hj (by omega), dadd0 hd0 hwj.1, dadd_inf _ _⟩ ?_ ?_ ?_)
              · exact (by repeat (first | exact trivial | refine ⟨rfl, ?_⟩))
              · exact (by repeat (first | exact trivial | refine ⟨rfl, ?_⟩))
              · repeat (first | exact Sub.nil | refine Sub.pick ?_ | refine Sub.castO rfl ?_ | refine Sub.skip ?_)
          · skip
            refine f_exit ?_
            refine f_te ?_
            clear kh17
            refine f_te ?_
            refine f_be ?_
            refine f_tn (kh14 _ _ ?_)
            clear kh14
            refine f_seq fun K25 kh25 => ?_
            refine f_seq fun K26 kh26 => ?_
            refine f_region ?_
            refine f_stepP rfl rfl rfl (o_move rfl) ?_
            refine f_stepP rfl rfl rfl (o_move rfl) ?_
            refine f_stepP rfl rfl rfl (o_neq rfl rfl) ?_
            refine f_done ?_
            refine f_tn (kh26 _ _ ?_)
            clear kh26
            refine f_cond rfl (fun c56 => ?_) (fun c56 => ?_)
            · skip
              refine f_seq fun K27 kh27 => ?_
              refine f_region ?_
              refine f_stepP rfl rfl rfl (o_assign rfl) ?_
              refine f_stepP rfl rfl rfl (o_assign rfl) ?_
              refine f_done ?_
              refine f_tn (kh27 _ _ ?_)
              clear kh27
              refine f_ret ?_
              refine f_tr ?_
              exact f_fin2 [] Try.results29 rfl rfl Sub.nil ⟨by rw [glen_some hz (by omega) hno (by rw [hgo]; exact longGo_end (by omega)), if_neg c56], rfl⟩
            · skip
              refine f_skip ?_
              refine f_tn (kh25 _ _ ?_)
              clear kh25
              refine f_seq fun K28 kh28 => ?_
              refine f_region ?_
              refine f_stepP rfl rfl rfl (o_move rfl) ?_
              refine f_stepP rfl rfl rfl (o_assign rfl) ?_
              refine f_stepP rfl rfl rfl (o_assign rfl) ?_
              refine f_done ?_
              refine f_tn (kh28 _ _ ?_)
              clear kh28
              refine f_ret ?_
              exact f_fin2 [] Try.results29 rfl rfl Sub.nil ⟨by rw [glen_some hz (by omega) hno (by rw [hgo]; exact longGo_end (by omega)), if_pos (by omega)], rfl⟩

set_option maxRecDepth 100000 in
set_option maxHeartbeats 4000000 in
theorem NearLengths_spec (N : Int) (A : Option Addr) (l : List Arc) (cap : Nat) (s t : Int) (B : Option Addr) (arcs : List Int) (cb : Nat) (w : World) (hr : Ro (Fr w []) w A (l.flatMap arcCs)) (hl : l.length ≤ 9223372036854775807) (hN : I64 N) (hok : ∀ x ∈ l, ArcOk x) (hb : Ro (Fr w []) w B (ints arcs)) (hz : l.length * 24 ≤ 140737488351232) (hzb : arcs.length * 8 ≤ 140737488351232) :
    Meets Try.prog 9 [.agg #[.int .i64 N, .slice A l.length cap], .agg #[.int .i64 s, .int .i64 t, .slice B arcs.length cb]] w [] (fun u m => u = .bool true ∧ m = []) := by
  refine f_enter Try.func9 rfl Try.ntmps9 rfl Owns.nil ?_
  refine f_seq fun K1 kh1 => ?_
  refine f_region ?_
  refine f_step rfl rfl rfl (o_box rfl rfl fun b2 => ?_)
  refine f_step rfl rfl rfl (o_box rfl rfl fun b3 => ?_)
  refine f_stepP rfl rfl rfl (o_assign rfl) ?_
  refine f_done ?_
  refine f_tn (kh1 _ _ ?_)
  clear kh1
  refine f_meet (α := Nat × Nat × Nat × List Value × Nat × Nat × List Value) [2, 3] (fun ⟨b5, bg, cg, rg, bi, ci, ri⟩ => [(5, .pointer (some ⟨b5, 0, none⟩)), (6, .slice (some ⟨bi, 0, none⟩) arcs.length ci)]) (fun ⟨b5, bg, cg, rg, bi, ci, ri⟩ => [[(b5, blk [.int .i64 N, .slice (some ⟨bg, 0, none⟩) l.length cg] 24)], [(bg, blk (l.flatMap arcCs ++ (arcCs mark ++ rg)) 44)], [(bi, blk (ints arcs ++ ([.int .i64 (-77)] ++ ri)) 3)], [(b2, blk [.int .i64 N, .slice A l.length cap] 24)], [(b3, blk [.int .i64 s, .int .i64 t, .slice B arcs.length cb] 53)]]) (fun ⟨b5, bg, cg, rg, bi, ci, ri⟩ => l.length + 1 ≤ cg ∧ cg ≤ 9223372036854775807 ∧ arcs.length + 1 ≤ ci ∧ ci ≤ 9223372036854775807) ?_ ?_
  · intro K2 kh2
    refine f_regionH [[(b2, blk [.int .i64 N, .slice A l.length cap] 24)], [(b3, blk [.int .i64 s, .int .i64 t, .slice B arcs.length cb] 53)]] rfl ?_
    refine f_take 0 rfl (by decide +kernel) rfl rfl rfl (by repeat (first | exact Sub.nil | refine Sub.pick ?_ | refine Sub.castO rfl ?_ | refine Sub.skip ?_)) (o_loadA (vs := [_, _]) Try.isAgg24 Try.sizeOf24 rfl rfl ⟨(rdA rfl), (rdA rfl), trivial⟩) ?_
    refine f_take 2 rfl (by decide +kernel) rfl rfl rfl (by repeat (first | exact Sub.nil | refine Sub.pick ?_ | refine Sub.castO rfl ?_ | refine Sub.skip ?_)) (o_field fa53_2 rfl) ?_
    refine f_take 3 rfl (by decide +kernel) rfl rfl rfl (by repeat (first | exact Sub.nil | refine Sub.pick ?_ | refine Sub.castO rfl ?_ | refine Sub.skip ?_)) (o_load Try.isAgg28 rfl (rdA rfl)) ?_
    refine f_two 1 5 rfl rfl (by decide +kernel) rfl rfl rfl rfl rfl rfl ?_ ?_
    · skip
      refine (o_call Try.call12 rfl (fun w_ hp_ => LendGraph_spec N A l cap w_ (hr.up0 hp_) hz) ?_)
      rintro _ _ ⟨bg, cg, rg, rfl, rfl, hg1, hg2⟩
      dsimp only [List.cons_append, List.nil_append]
      refine ⟨(by repeat (first | exact Sub.nil | refine Sub.pick ?_ | refine Sub.castO rfl ?_ | refine Sub.skip ?_)), ?_⟩
      refine f_two 4 5 rfl rfl (by decide +kernel) rfl rfl rfl rfl rfl rfl ?_ ?_
      · skip
        refine (o_call Try.call28 rfl (fun w_ hp_ => LendInts_spec B arcs cb w_ (hb.up0 hp_) hzb) ?_)
        rintro _ _ ⟨bi, ci, ri, rfl, rfl, hi1, hi2⟩
        dsimp only [List.cons_append, List.nil_append]
        refine ⟨(by repeat (first | exact Sub.nil | refine Sub.pick ?_ | refine Sub.castO rfl ?_ | refine Sub.skip ?_)), ?_⟩
        refine f_only 5 rfl (by decide +kernel) rfl rfl rfl (o_alloc Try.zeroValue24 rfl fun b5 => ⟨(by repeat (first | exact Sub.nil | refine Sub.pick ?_ | refine Sub.castO rfl ?_ | refine Sub.skip ?_)), ?_⟩)
        refine f_only0 6 rfl (by decide +kernel) rfl rfl (o_storeA Try.sizeOf24 rfl rfl rfl rfl (by first | exact Nat.le_of_ble_eq_true rfl | (simp; done) | (simp; omega)) [.int .i64 N, .slice (some ⟨bg, 0, none⟩) l.length cg] rfl ⟨(by repeat (first | exact Sub.nil | refine Sub.pick ?_ | refine Sub.castO rfl ?_ | refine Sub.skip ?_)), ?_⟩)
        refine f_only 7 rfl (by decide +kernel) rfl rfl rfl ((o_assign rfl).does ⟨(by repeat (first | exact Sub.nil | refine Sub.pick ?_ | refine Sub.castO rfl ?_ | refine Sub.skip ?_)), ?_⟩)
        refine f_over (by decide +kernel) ?_
        refine f_tn (kh2 _ _ (b5, bg, cg, rg, bi, ci, ri) ⟨hg1, hg2, hi1, hi2⟩ ?_ ?_ ?_)
        · exact (by repeat (first | exact trivial | refine ⟨rfl, ?_⟩))
        · exact (by repeat (first | exact trivial | refine ⟨rfl, ?_⟩))
        · repeat (first | exact Sub.nil | refine Sub.pick ?_ | refine Sub.castO rfl ?_ | refine Sub.skip ?_)
      · skip
        refine (o_alloc Try.zeroValue24 rfl fun b5 => ⟨(by repeat (first | exact Sub.nil | refine Sub.pick ?_ | refine Sub.castO rfl ?_ | refine Sub.skip ?_)), ?_⟩)
        refine f_only 4 rfl (by decide +kernel) rfl rfl rfl (o_call Try.call28 rfl (fun w_ hp_ => LendInts_spec B arcs cb w_ (hb.up0 hp_) hzb) ?_)
        rintro _ _ ⟨bi, ci, ri, rfl, rfl, hi1, hi2⟩
        dsimp only [List.cons_append, List.nil_append]
        refine ⟨(by repeat (first | exact Sub.nil | refine Sub.pick ?_ | refine Sub.castO rfl ?_ | refine Sub.skip ?_)), ?_⟩
        refine f_only0 6 rfl (by decide +kernel) rfl rfl (o_storeA Try.sizeOf24 rfl rfl rfl rfl (by first | exact Nat.le_of_ble_eq_true rfl | (simp; done) | (simp; omega)) [.int .i64 N, .slice (some ⟨bg, 0, none⟩) l.length cg] rfl ⟨(by repeat (first | exact Sub.nil | refine Sub.pick ?_ | refine Sub.castO rfl ?_ | refine Sub.skip ?_)), ?_⟩)
        refine f_only 7 rfl (by decide +kernel) rfl rfl rfl ((o_assign rfl).does ⟨(by repeat (first | exact Sub.nil | refine Sub.pick ?_ | refine Sub.castO rfl ?_ | refine Sub.skip ?_)), ?_⟩)
        refine f_over (by decide +kernel) ?_
        refine f_tn (kh2 _ _ (b5, bg, cg, rg, bi, ci, ri) ⟨hg1, hg2, hi1, hi2⟩ ?_ ?_ ?_)
        · exact (by repeat (first | exact trivial | refine ⟨rfl, ?_⟩))
        · exact (by repeat (first | exact trivial | refine ⟨rfl, ?_⟩))
        · repeat (first | exact Sub.nil | refine Sub.pick ?_ | refine Sub.castO rfl ?_ | refine Sub.skip ?_)
    · skip
      refine (o_alloc Try.zeroValue24 rfl fun b5 => ⟨(by repeat (first | exact Sub.nil | refine Sub.pick ?_ | refine Sub.castO rfl ?_ | refine Sub.skip ?_)), ?_⟩)
      refine f_only 1 rfl (by decide +kernel) rfl rfl rfl (o_call Try.call12 rfl (fun w_ hp_ => LendGraph_spec N A l cap w_ (hr.up0 hp_) hz) ?_)
      rintro _ _ ⟨bg, cg, rg, rfl, rfl, hg1, hg2⟩
      dsimp only [List.cons_append, List.nil_append]
      refine ⟨(by repeat (first | exact Sub.nil | refine Sub.pick ?_ | refine Sub.castO rfl ?_ | refine Sub.skip ?_)), ?_⟩
      refine f_only 4 rfl (by decide +kernel) rfl rfl rfl (o_call Try.call28 rfl (fun w_ hp_ => LendInts_spec B arcs cb w_ (hb.up0 hp_) hzb) ?_)
      rintro _ _ ⟨bi, ci, ri, rfl, rfl, hi1, hi2⟩
      dsimp only [List.cons_append, List.nil_append]
      refine ⟨(by repeat (first | exact Sub.nil | refine Sub.pick ?_ | refine Sub.castO rfl ?_ | refine Sub.skip ?_)), ?_⟩
      refine f_only0 6 rfl (by decide +kernel) rfl rfl (o_storeA Try.sizeOf24 rfl rfl rfl rfl (by first | exact Nat.le_of_ble_eq_true rfl | (simp; done) | (simp; omega)) [.int .i64 N, .slice (some ⟨bg, 0, none⟩) l.length cg] rfl ⟨(by repeat (first | exact Sub.nil | refine Sub.pick ?_ | refine Sub.castO rfl ?_ | refine Sub.skip ?_)), ?_⟩)
      refine f_only 7 rfl (by decide +kernel) rfl rfl rfl ((o_assign rfl).does ⟨(by repeat (first | exact Sub.nil | refine Sub.pick ?_ | refine Sub.castO rfl ?_ | refine Sub.skip ?_)), ?_⟩)
      refine f_over (by decide +kernel) ?_
      refine f_tn (kh2 _ _ (b5, bg, cg, rg, bi, ci, ri) ⟨hg1, hg2, hi1, hi2⟩ ?_ ?_ ?_)
      · exact (by repeat (first | exact trivial | refine ⟨rfl, ?_⟩))
      · exact (by repeat (first | exact trivial | refine ⟨rfl, ?_⟩))
      · repeat (first | exact Sub.nil | refine Sub.pick ?_ | refine Sub.castO rfl ?_ | refine Sub.skip ?_)
  · rintro ⟨b5, bg, cg, rg, bi, ci, ri⟩ ⟨hg1, hg2, hi1, hi2⟩
    refine f_seq fun K3 kh3 => ?_
    refine f_region ?_
    refine f_stepP rfl rfl rfl (o_loadA (vs := [_, _]) Try.isAgg24 Try.sizeOf24 rfl rfl ⟨(rdA rfl), (rdA rfl), trivial⟩) ?_
    refine f_stepP rfl rfl rfl (o_field fa53_0 rfl) ?_
    refine f_stepP rfl rfl rfl (o_load Try.isAgg3 rfl (rdA rfl)) ?_
    refine f_stepP rfl rfl rfl (o_field fa53_1 rfl) ?_
    refine f_stepP rfl rfl rfl (o_load Try.isAgg3 rfl (rdA rfl)) ?_
    refine f_stepP rfl rfl rfl (o_move rfl) ?_
    refine f_step rfl rfl rfl (o_call Try.call29 rfl (fun w_ hp_ => Length_spec N (some ⟨bg, 0, none⟩) l cg s t (some ⟨bi, 0, none⟩) arcs ci w_ (roOwn (b := bg) hp_ (fun j v hj => app_get hj)) hl hN hok (roOwn (b := bi) hp_ (fun j v hj => app_get hj)) (by omega)) ?_)
    rintro _ _ ⟨rfl, rfl⟩
    dsimp only [List.cons_append, List.nil_append]
    refine f_stepP rfl rfl rfl (o_move rfl) ?_
    refine f_stepP rfl rfl rfl (o_extract rfl rfl) ?_
    refine f_stepP rfl rfl rfl (o_extract rfl rfl) ?_
    refine f_stepP rfl rfl rfl (o_assign rfl) ?_
    refine f_stepP rfl rfl rfl (o_assign rfl) ?_
    refine f_done ?_
    refine f_tn (kh3 _ _ ?_)
    clear kh3
    refine f_seq fun K4 kh4 => ?_
    refine f_region ?_
    refine f_stepP rfl rfl rfl (o_loadA (vs := [_, _]) Try.isAgg24 Try.sizeOf24 rfl rfl ⟨(rdA rfl), (rdA rfl), trivial⟩) ?_
    refine f_stepP rfl rfl rfl (o_field fa53_0 rfl) ?_
    refine f_stepP rfl rfl rfl (o_load Try.isAgg3 rfl (rdA rfl)) ?_
    refine f_stepP rfl rfl rfl (o_field fa53_1 rfl) ?_
    refine f_stepP rfl rfl rfl (o_load Try.isAgg3 rfl (rdA rfl)) ?_
    refine f_stepP rfl rfl rfl (o_field fa53_2 rfl) ?_
    refine f_stepP rfl rfl rfl (o_load Try.isAgg28 rfl (rdA rfl)) ?_
    refine f_step rfl rfl rfl (o_call Try.call30 rfl (fun w_ hp_ => RLength_spec N A l cap s t B arcs cb w_ (hr.up0 hp_) hl hN hok (hb.up0 hp_) (by omega)) ?_)
    rintro _ _ ⟨rfl, rfl⟩
    dsimp only [List.cons_append, List.nil_append]
    refine f_stepP rfl rfl rfl (o_move rfl) ?_
    refine f_stepP rfl rfl rfl (o_extract rfl rfl) ?_
    refine f_stepP rfl rfl rfl (o_extract rfl rfl) ?_
    refine f_stepP rfl rfl rfl (o_assign rfl) ?_
    refine f_stepP rfl rfl rfl (o_assign rfl) ?_
    refine f_done ?_
    refine f_tn (kh4 _ _ ?_)
    clear kh4
    refine f_seq fun K5 kh5 => ?_
    refine f_region ?_
    refine f_stepP rfl rfl rfl (o_move rfl) ?_
    refine f_stepP rfl rfl rfl (o_move rfl) ?_
    refine f_stepP rfl rfl rfl (o_eql rfl rfl) ?_
    refine f_stepP rfl rfl rfl (o_move rfl) ?_
    refine f_trueL 40 rfl (rfl) ?_
    refine f_stepPY rfl rfl rfl rfl rfl (o_move rfl) ?_
    refine f_stepPY rfl rfl rfl rfl rfl (o_move rfl) ?_
    refine f_stepPY rfl rfl rfl rfl rfl (o_eql rfl rfl) ?_
    refine f_stepP rfl rfl rfl (o_pickT rfl rfl) ?_
    refine f_stepP rfl rfl rfl (o_move rfl) ?_
    refine f_trueL 45 rfl (rfl) ?_
    refine f_stepPY rfl rfl rfl rfl rfl (o_loadA (vs := [_, _]) Try.isAgg24 Try.sizeOf24 rfl rfl ⟨(rdA rfl), (rdA rfl), trivial⟩) ?_
    refine f_stepPY rfl rfl rfl rfl rfl (o_loadA (vs := [_, _]) Try.isAgg24 Try.sizeOf24 rfl rfl ⟨(rdA rfl), (rdA rfl), trivial⟩) ?_
    refine f_stepY rfl rfl rfl rfl rfl (o_call Try.call16 rfl (fun w_ hp_ => KeptGraph_spec N bg cg A l cap rg w_ (roOwn (b := bg) hp_ (fun j v hj => hj)) (hr.up0 hp_) hg1 hg2) ?_)
    rintro _ _ ⟨rfl, rfl⟩
    dsimp only [List.cons_append, List.nil_append]
    refine f_stepP rfl rfl rfl (o_pickT rfl rfl) ?_
    refine f_stepP rfl rfl rfl (o_move rfl) ?_
    refine f_stepPY rfl rfl rfl rfl rfl (o_move rfl) ?_
    refine f_stepPY rfl rfl rfl rfl rfl (o_field fa53_2 rfl) ?_
    refine f_stepPY rfl rfl rfl rfl rfl (o_load Try.isAgg28 rfl (rdA rfl)) ?_
    refine f_stepY rfl rfl rfl rfl rfl (o_call Try.call31 rfl (fun w_ hp_ => KeptInts_spec bi ci B arcs cb ri w_ (roOwn (b := bi) hp_ (fun j v hj => hj)) (hb.up0 hp_) hi1 hi2) ?_)
    rintro _ _ ⟨rfl, rfl⟩
    dsimp only [List.cons_append, List.nil_append]
    refine f_stepP rfl rfl rfl (o_pickT rfl rfl) ?_
    refine f_stepP rfl rfl rfl (o_move rfl) ?_
    refine f_stepY rfl rfl rfl rfl rfl (o_call Try.call11 rfl (fun w_ hp_ => works_spec w_) ?_)
    rintro _ _ ⟨rfl, rfl⟩
    dsimp only [List.cons_append, List.nil_append]
    refine f_stepP rfl rfl rfl (o_pickT rfl rfl) ?_
    refine f_stepP rfl rfl rfl (o_assign rfl) ?_
    refine f_done ?_
    refine f_tn (kh5 _ _ ?_)
    clear kh5
    refine f_ret ?_
    exact f_fin1 [] Try.results9 rfl Sub.nil ⟨rfl, rfl⟩

end Go.Proofs.Ytegkdbicomedjaa
