/- Package near: all, looked, From, To. -/
import Derived.Test.YtlllpmafhnfihaaFNear2
import Derived.Test.YtlllpmafhnfihaaPParts
import Derived.Test.YtlllpmafhnfihaaPWalk
namespace Go.Proofs.Ytlllpmafhnfihaa
open Go Go.RowKit Fly
set_option linter.unusedVariables false
set_option linter.unusedSimpArgs false


theorem GOk.wts {n : Nat} {l : List Arc} (h : GOk n l) (back : Bool) : ∀ x ∈ l.map (trn back), x.wt ≤ 4294967295 := fun x hx => by
  obtain ⟨y, hy, rfl⟩ := List.mem_map.1 hx
  rw [trn_wt]; exact (h.ok y hy).wt.2
def nlooked (N : Int) (l : List Arc) (vs : List Int) : Int := if (gcheck N l).2 ≠ 0 then (gcheck N l).2 else if vs.any (fun v => decide (v < 0) || decide (N ≤ v)) then 5 else 0
theorem gok_of {n : Nat} {l : List Arc} (h : (gcheck (n : Int) l).2 = 0) (hok : ∀ x ∈ l, ArcOk x) : GOk n l := by
  obtain ⟨h1, h2, h3, h4⟩ := gcheck_zero h
  exact ⟨by omega, h3, h4, hok⟩
theorem nlooked_zero {N : Int} {l : List Arc} {vs : List Int} (h : nlooked N l vs = 0) : (gcheck N l).2 = 0 ∧ ∀ v ∈ vs, 0 ≤ v ∧ v < N := by
  unfold nlooked at h
  split at h
  · rename_i h1; exact absurd h h1
  · split at h
    · simp at h
    · rename_i h1 h2
      exact ⟨by simpa using h1, by simpa using h2⟩
/-- Distances that are told, in new memory. -/
def DistΦ (code : Int) (n : Nat) (e : List Arc) (p : Nat → Bool) (s : Nat) (u : Value) (own : List Seg) : Prop :=
  ∃ v m D, u = .tuple #[v, .int .i64 code] ∧ own = [m] ∧ Own 49 1 v D.length (u64s D) m ∧ (code ≠ 0 → D = []) ∧ (code = 0 → IsD n e p s D ∧ ∀ v, v < n → dg D v < INF → dg D v ≤ 4398046510080)
abbrev every : Nat → Bool := fun _ => true
theorem own_dist {bd n : Nat} {d : List Int} (h : d.length = n) (hn : n ≤ 1024) : Own 49 1 (.slice (some ⟨bd, 0, none⟩) n n) d.length (u64s d) [(bd, blk (u64s d) 49)] := by
  subst h; exact Own.mk (by rw [u64s_length]; omega) (by omega)

set_option maxRecDepth 100000 in
set_option maxHeartbeats 4000000 in
theorem free_spec (i : Int) (w : World) : Meets Try.prog 41 [.int .i64 i] w [] (fun u m => u = .bool true ∧ m = []) := by
  refine f_enter Try.func41 rfl Try.ntmps41 rfl Owns.nil ?_
  refine f_seq fun K1 kh1 => ?_
  refine f_region ?_
  refine f_stepP rfl rfl rfl (o_assign rfl) ?_
  refine f_done ?_
  refine f_tn (kh1 _ _ ?_)
  clear kh1
  refine f_seq fun K2 kh2 => ?_
  refine f_region ?_
  refine f_stepP rfl rfl rfl (o_assign rfl) ?_
  refine f_done ?_
  refine f_tn (kh2 _ _ ?_)
  clear kh2
  refine f_ret ?_
  exact f_fin1 [] Try.results41 rfl Sub.nil ⟨rfl, rfl⟩

set_option maxRecDepth 100000 in
set_option maxHeartbeats 4000000 in
theorem all_spec (n : Nat) (A : Option Addr) (l : List Arc) (cap : Nat) (back : Bool) (p : Nat → Bool) (s bx bd : Nat) (d by_ : List Int) (T : List (Option Int)) (o : List Nat) (m : Seg) (fi : FuncId) (capi : List Value) (w : World) (hr : Ro (Fr w [m]) w A (l.flatMap arcCs)) (hg : GOk n l)
    (hS : SRep n A l cap back bx bd d by_ T m) (hSS : SS n (l.map (trn back)) p s d by_ T o (RF (l.map (trn back)) o))
    (hci : ∀ args w, (callFunc fi args).run Try.prog w = .ok (.enter fi args) w)
    (his : ∀ w', (∀ k, Fr w [m] k → w'.heap[k]? = w.heap[k]?) → ∀ i, i < l.length → Meets Try.prog fi ([.int .i64 (i : Int)] ++ capi) w' [] (fun u m => u = .bool (p i) ∧ m = [])) (hw : Owns w [m]) :
    Meets Try.prog 40 [.pointer (some ⟨bx, 0, none⟩), .func (.func fi) #[] capi.toArray] w [m] (fun u own' => ∃ d' by' T' o' m', u = .slice (some ⟨bd, 0, none⟩) n n ∧ own' = [m'] ∧ SRep n A l cap back bx bd d' by' T' m' ∧ SS n (l.map (trn back)) p s d' by' T' o' (RF (l.map (trn back)) o') ∧ topR T' = none) := by
  refine f_enter Try.func40 rfl Try.ntmps40 rfl hw ?_
  refine f_seq fun K1 kh1 => ?_
  refine f_region ?_
  refine f_stepP rfl rfl rfl (o_assign rfl) ?_
  refine f_done ?_
  refine f_tn (kh1 _ _ ?_)
  clear kh1
  refine f_seq fun K2 kh2 => ?_
  refine f_seq fun K3 kh3 => ?_
  refine f_region ?_
  refine f_stepP rfl rfl rfl (o_assign rfl) ?_
  refine f_done ?_
  refine f_tn (kh3 _ _ ?_)
  clear kh3
  refine f_block ?_
  refine f_loop (α := Bool × List Int × List Int × List (Option Int) × List Nat × Seg) [0, 1] (fun ⟨b, d', by', T', o', m'⟩ => [(5, .bool b)]) (fun ⟨b, d', by', T', o', m'⟩ => [m']) (fun ⟨b, d', by', T', o', m'⟩ => SRep n A l cap back bx bd d' by' T' m' ∧ SS n (l.map (trn back)) p s d' by' T' o' (RF (l.map (trn back)) o') ∧ (b = false → topR T' = none)) (fun ⟨b, d', by', T', o', m'⟩ => free n o' + (if b then 1 else 0)) (true, d, by_, T, o, m) ?_ ?_ ?_ ?_
  · exact (by repeat (first | exact trivial | refine ⟨rfl, ?_⟩))
  · repeat (first | exact Sub.nil | refine Sub.pick ?_ | refine Sub.castO rfl ?_ | refine Sub.skip ?_)
  · exact ⟨hS, hSS, fun h => by cases h⟩
  · rintro ⟨b, d', by', T', o', m'⟩ ⟨hS', hSS', hb⟩
    refine f_seq fun K4 kh4 => ?_
    refine f_seq fun K5 kh5 => ?_
    refine f_region ?_
    refine f_stepP rfl rfl rfl (o_move rfl) ?_
    refine f_done ?_
    refine f_tn (kh5 _ _ ?_)
    clear kh5
    refine f_condB rfl (fun c6 => ?_) (fun c6 => ?_)
    · skip
      refine f_skip ?_
      refine f_tn (kh4 _ _ ?_)
      clear kh4
      refine f_block ?_
      refine f_region ?_
      refine f_stepP rfl rfl rfl (o_move rfl) ?_
      refine f_stepP rfl rfl rfl (o_move rfl) ?_
      refine f_step rfl rfl rfl (o_callM [m'] _ Try.call53 rfl (Sub.pick Sub.refl) (fun w_ hp_ => next_spec n A l cap back p s bx bd d' by' T' o' m' fi capi w_ (hr.up hp_) hg hS' hSS' hci (fun w' hs i hi => his w' (hp_.chain hs) i hi) hp_.owns) ?_)
      rintro v10 m10 hN
      rcases hN with ⟨hnone, rfl, m2, rfl, hS2⟩ | ⟨v, a, d2, by2, T2, m2, ht, rfl, rfl, hS2, hvn, hvo, hdv, hSS2, _⟩
      · dsimp only [List.cons_append, List.nil_append]
        refine f_stepP rfl rfl rfl (o_move rfl) ?_
        refine f_stepP rfl rfl rfl (o_extract rfl rfl) ?_
        refine f_stepP rfl rfl rfl (o_extract rfl rfl) ?_
        refine f_stepP rfl rfl rfl (o_extract rfl rfl) ?_
        refine f_stepP rfl rfl rfl (o_assign rfl) ?_
        refine f_done ?_
        refine f_bn ?_
        refine f_tn (f_again (false, d', by', T', o', m2) (by subst c6; simp) ⟨hS2, hSS', fun _ => hnone⟩ ?_ ?_ ?_)
        · exact (by repeat (first | exact trivial | refine ⟨rfl, ?_⟩))
        · exact (by repeat (first | exact trivial | refine ⟨rfl, ?_⟩))
        · repeat (first | exact Sub.nil | refine Sub.pick ?_ | refine Sub.castO rfl ?_ | refine Sub.skip ?_)
      have hfree := free_cons hvn hvo
      dsimp only [List.cons_append, List.nil_append]
      refine f_stepP rfl rfl rfl (o_move rfl) ?_
      refine f_stepP rfl rfl rfl (o_extract rfl rfl) ?_
      refine f_stepP rfl rfl rfl (o_extract rfl rfl) ?_
      refine f_stepP rfl rfl rfl (o_extract rfl rfl) ?_
      refine f_stepP rfl rfl rfl (o_assign rfl) ?_
      refine f_done ?_
      refine f_bn ?_
      refine f_tn (f_again (true, d2, by2, T2, v :: o', m2) (by subst c6; simp; omega) ⟨hS2, hSS2, fun h => by cases h⟩ ?_ ?_ ?_)
      · exact (by repeat (first | exact trivial | refine ⟨rfl, ?_⟩))
      · exact (by repeat (first | exact trivial | refine ⟨rfl, ?_⟩))
      · repeat (first | exact Sub.nil | refine Sub.pick ?_ | refine Sub.castO rfl ?_ | refine Sub.skip ?_)
    · skip
      refine f_exit ?_
      refine f_te ?_
      clear kh4
      refine f_te ?_
      refine f_be ?_
      refine f_tn (kh2 _ _ ?_)
      clear kh2
      refine f_seq fun K6 kh6 => ?_
      obtain ⟨bo, bb, bH, vs, ms, hm, hmp, hR, hH⟩ := hS'
      refine f_subC (Sub.openF hmp) ?_
      unfold ssegs
      dsimp only [List.cons_append, List.nil_append]
      refine f_region ?_
      refine f_stepP rfl rfl rfl (o_move rfl) ?_
      refine f_stepP rfl rfl rfl (o_nil rfl) ?_
      refine f_stepP rfl rfl rfl (o_field fa80_3 rfl) ?_
      refine f_stepP rfl rfl rfl (o_load Try.isAgg45 rfl (rdA rfl)) ?_
      refine f_stepP rfl rfl rfl (o_assign rfl) ?_
      refine f_done ?_
      refine f_tn (kh6 _ _ ?_)
      clear kh6
      refine f_ret ?_
      exact f_fin1 [m'] Try.results40 rfl (Sub.transF (b := ssegs bx bo bd bb bH n A l.length cap back vs ms.flatten d' by' hm) (by unfold ssegs; repeat (first | exact Sub.nil | refine Sub.pick ?_ | refine Sub.castO rfl ?_)) ⟨[], by simpa using hmp.symm⟩) ⟨d', by', T', o', m', rfl, rfl, ⟨bo, bb, bH, vs, ms, hm, hmp, hR, hH⟩, hSS', hb c6⟩

set_option maxRecDepth 100000 in
set_option maxHeartbeats 4000000 in
theorem nrlook_spec (N : Int) (A : Option Addr) (l : List Arc) (cap : Nat) (B : Option Addr) (vs : List Int) (cb : Nat) (w : World) (hr : Ro (Fr w []) w A (l.flatMap arcCs)) (hk : Ro (Fr w []) w B (ints vs)) (hl : l.length ≤ 9223372036854775807) (hN : I64 N) (hok : ∀ x ∈ l, ArcOk x) (hvl : vs.length ≤ 1000000) :
    Meets Try.prog 38 [.agg #[.int .i64 N, .slice A l.length cap], .slice B vs.length cb] w [] (fun u m => u = .int .i64 (nlooked N l vs) ∧ m = []) := by
  refine f_enter Try.func38 rfl Try.ntmps38 rfl Owns.nil ?_
  refine f_seq fun K1 kh1 => ?_
  refine f_region ?_
  refine f_step rfl rfl rfl (o_box rfl rfl fun b2 => ?_)
  refine f_stepP rfl rfl rfl (o_assign rfl) ?_
  refine f_done ?_
  refine f_tn (kh1 _ _ ?_)
  clear kh1
  refine f_seq fun K2 kh2 => ?_
  refine f_seq fun K3 kh3 => ?_
  refine f_region ?_
  refine f_stepP rfl rfl rfl (o_loadA (vs := [_, _]) Try.isAgg24 Try.sizeOf24 rfl rfl ⟨(rdA rfl), (rdA rfl), trivial⟩) ?_
  refine f_step rfl rfl rfl (o_call Try.call23 rfl (fun w_ hp_ => Check_spec N A l cap w_ (hr.up0 hp_) hl hN hok) ?_)
  rintro _ _ ⟨rfl, rfl⟩
  dsimp only [List.cons_append, List.nil_append]
  refine f_stepP rfl rfl rfl (o_move rfl) ?_
  refine f_stepP rfl rfl rfl (o_extract rfl rfl) ?_
  refine f_stepP rfl rfl rfl (o_extract rfl rfl) ?_
  refine f_stepP rfl rfl rfl (o_assign rfl) ?_
  refine f_stepP rfl rfl rfl (o_assign rfl) ?_
  refine f_done ?_
  refine f_tn (kh3 _ _ ?_)
  clear kh3
  refine f_seq fun K4 kh4 => ?_
  refine f_region ?_
  refine f_stepP rfl rfl rfl (o_move rfl) ?_
  refine f_stepP rfl rfl rfl (o_neq rfl rfl) ?_
  refine f_done ?_
  refine f_tn (kh4 _ _ ?_)
  clear kh4
  refine f_cond rfl (fun c15 => ?_) (fun c15 => ?_)
  · skip
    refine f_seq fun K5 kh5 => ?_
    refine f_region ?_
    refine f_stepP rfl rfl rfl (o_move rfl) ?_
    refine f_stepP rfl rfl rfl (o_assign rfl) ?_
    refine f_done ?_
    refine f_tn (kh5 _ _ ?_)
    clear kh5
    refine f_ret ?_
    refine f_tr ?_
    exact f_fin1 [] Try.results38 rfl Sub.nil ⟨by unfold nlooked; rw [if_pos (by simpa using c15)], rfl⟩
  · skip
    refine f_skip ?_
    refine f_tn (kh2 _ _ ?_)
    clear kh2
    refine f_seq fun K6 kh6 => ?_
    refine f_seq fun K7 kh7 => ?_
    refine f_region ?_
    refine f_stepP rfl rfl rfl (o_move rfl) ?_
    refine f_stepP rfl rfl rfl (o_len sl28 rfl) ?_
    refine f_stepP rfl rfl rfl (o_move rfl) ?_
    refine f_done ?_
    refine f_tn (kh7 _ _ ?_)
    clear kh7
    refine f_block ?_
    refine f_loop (α := Nat) [2, 17, 18] (fun k => [(19, .int .i64 (k : Int))]) (fun k => [[(b2, blk [.int .i64 N, .slice A l.length cap] 24)]]) (fun k => k ≤ vs.length ∧ ∀ j (h : j < vs.length), j < k → (decide (vs[j] < 0) || decide (N ≤ vs[j])) = false) (fun k => vs.length - k) (0) ?_ ?_ ?_ ?_
    · exact (by repeat (first | exact trivial | refine ⟨rfl, ?_⟩))
    · repeat (first | exact Sub.nil | refine Sub.pick ?_ | refine Sub.castO rfl ?_ | refine Sub.skip ?_)
    · exact ⟨Nat.zero_le _, fun j _ h => by omega⟩
    · rintro k ⟨hkl, hpre⟩
      refine f_seq fun K8 kh8 => ?_
      refine f_region ?_
      refine f_stepP rfl rfl rfl (o_lss rfl rfl) ?_
      refine f_done ?_
      refine f_tn (kh8 _ _ ?_)
      clear kh8
      refine f_seq fun K9 kh9 => ?_
      refine f_cond rfl (fun c20 => ?_) (fun c20 => ?_)
      · skip
        refine f_skip ?_
        refine f_tn (kh9 _ _ ?_)
        clear kh9
        refine f_seq fun K10 kh10 => ?_
        refine f_block ?_
        refine f_seq fun K11 kh11 => ?_
        refine f_region ?_
        have hk' : k < vs.length := by omega
        obtain ⟨bk, ok, rfl, hSk, hck⟩ := hk (map_ne hk')
        refine f_stepP rfl rfl rfl (o_idx sl28 rfl rfl (ok + k) ⟨by omega, by omega, by first | omega | (simp; done) | (simp; omega)⟩) ?_
        refine f_stepP rfl rfl rfl (o_load Try.isAgg3 rfl (roOne (enc := (.int .i64 ·)) hSk hck hk')) ?_
        refine f_stepP rfl rfl rfl (o_assign rfl) ?_
        refine f_done ?_
        refine f_tn (kh11 _ _ ?_)
        clear kh11
        refine f_seq fun K12 kh12 => ?_
        refine f_region ?_
        refine f_stepP rfl rfl rfl (o_move rfl) ?_
        refine f_stepP rfl rfl rfl (o_lss rfl rfl) ?_
        refine f_stepP rfl rfl rfl (o_move rfl) ?_
        refine f_splitL 25 rfl (fun g25 => ?_) (fun g25 => ?_)
        · skip
          refine f_stepN rfl rfl rfl rfl rfl rfl ?_
          refine f_stepN rfl rfl rfl rfl rfl rfl ?_
          refine f_stepN rfl rfl rfl rfl rfl rfl ?_
          refine f_stepN rfl rfl rfl rfl rfl rfl ?_
          refine f_stepP rfl rfl rfl (o_pickT rfl rfl) ?_
          refine f_done ?_
          refine f_tn (kh12 _ _ ?_)
          clear kh12
          refine f_condT rfl ?_
          refine f_seq fun K13 kh13 => ?_
          refine f_region ?_
          refine f_stepP rfl rfl rfl (o_assign rfl) ?_
          refine f_done ?_
          refine f_tn (kh13 _ _ ?_)
          clear kh13
          refine f_ret ?_
          refine f_br ?_
          refine f_tr ?_
          refine f_tr ?_
          refine f_br ?_
          refine f_tr ?_
          exact f_fin1 [] Try.results38 rfl Sub.nil ⟨by unfold nlooked; rw [if_neg (by simpa using c15), if_pos (List.any_eq_true.2 ⟨_, List.getElem_mem hk', by simp [g25]⟩)], rfl⟩
        · skip
          refine f_stepPY rfl rfl rfl rfl rfl (o_move rfl) ?_
          refine f_stepPY rfl rfl rfl rfl rfl (o_field fa24_0 rfl) ?_
          refine f_stepPY rfl rfl rfl rfl rfl (o_load Try.isAgg3 rfl (rdA rfl)) ?_
          refine f_stepPY rfl rfl rfl rfl rfl (o_geq rfl rfl) ?_
          refine f_stepP rfl rfl rfl (o_pickF rfl rfl) ?_
          refine f_done ?_
          refine f_tn (kh12 _ _ ?_)
          clear kh12
          refine f_cond rfl (fun c30 => ?_) (fun c30 => ?_)
          · skip
            refine f_seq fun K14 kh14 => ?_
            refine f_region ?_
            refine f_stepP rfl rfl rfl (o_assign rfl) ?_
            refine f_done ?_
            refine f_tn (kh14 _ _ ?_)
            clear kh14
            refine f_ret ?_
            refine f_br ?_
            refine f_tr ?_
            refine f_tr ?_
            refine f_br ?_
            refine f_tr ?_
            exact f_fin1 [] Try.results38 rfl Sub.nil ⟨by unfold nlooked; rw [if_neg (by simpa using c15), if_pos (List.any_eq_true.2 ⟨_, List.getElem_mem hk', by simp; omega⟩)], rfl⟩
          · skip
            refine f_skip ?_
            refine f_bn ?_
            refine f_tn (kh10 _ _ ?_)
            clear kh10
            refine f_region ?_
            refine f_stepP rfl rfl rfl (o_add rfl rfl _ (wrap_i64 (by omega))) ?_
            refine f_stepP rfl rfl rfl (o_move rfl) ?_
            refine f_done ?_
            refine f_tn (f_again (k + 1) (by first | omega | (dsimp only; omega) | (simp; omega)) ⟨by omega, false_next (p := fun v => decide (v < 0) || decide (N ≤ v)) (l := vs) (hk := hk') hpre (by simp; omega)⟩ ?_ ?_ ?_)
            · exact (by repeat (first | exact trivial | refine ⟨rfl, ?_⟩))
            · exact (by repeat (first | exact trivial | refine ⟨rfl, ?_⟩))
            · repeat (first | exact Sub.nil | refine Sub.pick ?_ | refine Sub.castO rfl ?_ | refine Sub.skip ?_)
      · skip
        refine f_exit ?_
        refine f_te ?_
        clear kh9
        refine f_te ?_
        refine f_be ?_
        refine f_tn (kh6 _ _ ?_)
        clear kh6
        refine f_seq fun K15 kh15 => ?_
        refine f_region ?_
        refine f_stepP rfl rfl rfl (o_assign rfl) ?_
        refine f_done ?_
        refine f_tn (kh15 _ _ ?_)
        clear kh15
        refine f_ret ?_
        exact f_fin1 [] Try.results38 rfl Sub.nil ⟨by unfold nlooked; rw [if_neg (by simpa using c15), if_neg (by
                        have hf : vs.any (fun v => decide (v < 0) || decide (N ≤ v)) = false := List.any_eq_false.2 fun v hv => by
                          obtain ⟨j, hj, rfl⟩ := List.mem_iff_getElem.1 hv
                          simpa using hpre j hj (by omega)
                        rw [hf]; decide)], rfl⟩

set_option maxRecDepth 100000 in
set_option maxHeartbeats 4000000 in
theorem From_spec (N : Int) (A : Option Addr) (l : List Arc) (cap : Nat) (s : Int) (w : World) (hr : Ro (Fr w []) w A (l.flatMap arcCs)) (hl : l.length ≤ 9223372036854775807) (hN : I64 N) (hok : ∀ x ∈ l, ArcOk x) :
    Meets Try.prog 22 [.agg #[.int .i64 N, .slice A l.length cap], .int .i64 s] w [] (DistΦ (nlooked N l [s]) N.toNat (l.map (trn false)) every s.toNat) := by
  refine f_enter Try.func22 rfl Try.ntmps22 rfl Owns.nil ?_
  refine f_seq fun K1 kh1 => ?_
  refine f_region ?_
  refine f_step rfl rfl rfl (o_box rfl rfl fun b2 => ?_)
  refine f_stepP rfl rfl rfl (o_assign rfl) ?_
  refine f_stepP rfl rfl rfl (o_assign rfl) ?_
  refine f_done ?_
  refine f_tn (kh1 _ _ ?_)
  clear kh1
  refine f_seq fun K2 kh2 => ?_
  refine f_seq fun K3 kh3 => ?_
  refine f_region ?_
  refine f_stepP rfl rfl rfl (o_loadA (vs := [_, _]) Try.isAgg24 Try.sizeOf24 rfl rfl ⟨(rdA rfl), (rdA rfl), trivial⟩) ?_
  refine f_stepP rfl rfl rfl (o_move rfl) ?_
  refine f_step rfl rfl rfl (o_slice1 el28 (by omega) rfl rfl rfl fun b9 => ?_)
  refine f_step rfl rfl rfl (o_call Try.call38 rfl (fun w_ hp_ => nrlook_spec N A l cap (some ⟨b9, 0, none⟩) [s] 1 w_ (hr.up0 hp_) (roOwn (b := b9) hp_ (cs := ints [s]) (fun j v hj => hj)) hl hN hok (by simp)) ?_)
  rintro _ _ ⟨rfl, rfl⟩
  dsimp only [List.cons_append, List.nil_append]
  refine f_stepP rfl rfl rfl (o_assign rfl) ?_
  refine f_done ?_
  refine f_tn (kh3 _ _ ?_)
  clear kh3
  refine f_seq fun K4 kh4 => ?_
  refine f_region ?_
  refine f_stepP rfl rfl rfl (o_move rfl) ?_
  refine f_stepP rfl rfl rfl (o_neq rfl rfl) ?_
  refine f_done ?_
  refine f_tn (kh4 _ _ ?_)
  clear kh4
  refine f_cond rfl (fun c12 => ?_) (fun c12 => ?_)
  · skip
    refine f_seq fun K5 kh5 => ?_
    refine f_region ?_
    refine f_stepP rfl rfl rfl (o_move rfl) ?_
    refine f_stepP rfl rfl rfl (o_assign rfl) ?_
    refine f_stepP rfl rfl rfl (o_assign rfl) ?_
    refine f_done ?_
    refine f_tn (kh5 _ _ ?_)
    clear kh5
    refine f_ret ?_
    refine f_tr ?_
    exact f_fin2 [[]] Try.results22 rfl rfl Sub.empty ⟨.slice none 0 0, [], [], rfl, rfl, Own.nil _ _, fun _ => rfl, fun h => absurd h c12⟩
  · skip
    have hz : nlooked N l [s] = 0 := by simpa using c12
    obtain ⟨hg0, hv⟩ := nlooked_zero hz
    have hv1 := hv s (by simp)
    obtain ⟨n, rfl⟩ : ∃ n : Nat, N = n := ⟨N.toNat, by omega⟩
    obtain ⟨k, rfl⟩ : ∃ k : Nat, s = k := ⟨s.toNat, by omega⟩
    have hg := gok_of hg0 hok
    have hkn : k < n := by omega
    refine f_skip ?_
    refine f_tn (kh2 _ _ ?_)
    clear kh2
    refine f_seq fun K6 kh6 => ?_
    refine f_region ?_
    refine f_stepP rfl rfl rfl (o_loadA (vs := [_, _]) Try.isAgg24 Try.sizeOf24 rfl rfl ⟨(rdA rfl), (rdA rfl), trivial⟩) ?_
    refine f_stepP rfl rfl rfl (o_move rfl) ?_
    refine f_step rfl rfl rfl (o_call Try.call39 rfl (fun w_ hp_ => begin_spec n A l cap false k w_ (hr.up0 hp_) hg hkn) ?_)
    rintro _ _ ⟨bx, bd, m1, rfl, rfl, hS1⟩
    dsimp only [List.cons_append, List.nil_append]
    refine f_step rfl rfl rfl (o_callM [m1] _ Try.call40 rfl (Sub.pick Sub.refl) (fun w_ hp_ => all_spec n A l cap false every k bx bd (D0 n k) (B0 n) (T0 n k) [] m1 41 [] w_ (hr.up hp_) hg hS1 (SS_begin hkn) Try.call41 (fun w' _ i _ => free_spec i w') hp_.owns) ?_)
    rintro _ _ ⟨d2, by2, T2, o2, m2, rfl, rfl, hS2, hSS2, ht2⟩
    dsimp only [List.cons_append, List.nil_append]
    refine f_stepP rfl rfl rfl (o_assign rfl) ?_
    refine f_stepP rfl rfl rfl (o_assign rfl) ?_
    refine f_done ?_
    refine f_tn (kh6 _ _ ?_)
    clear kh6
    refine f_ret ?_
    obtain ⟨bo, bb, bH, vs, ms, hm, hmp, hR, hH⟩ := hS2
    exact f_fin2 [[(bd, blk (u64s d2) 49)]] Try.results22 rfl rfl (Sub.pickF (m := m2) hmp (by unfold ssegs; dsimp only [List.cons_append, List.nil_append]; exact Sub.pick Sub.nil)) ⟨_, _, d2, by rw [hz], rfl, own_dist hSS2.ld hg.n1.2, fun h => absurd hz h, fun _ => ⟨hSS2.done ht2 (hg.src _) (hg.dst _) (hg.wt _), hSS2.bound (hg.wts _) hg.n1.2 ht2⟩⟩

end Go.Proofs.Ytlllpmafhnfihaa
