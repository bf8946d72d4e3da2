/- flyoverlaw05: NearDists, NearWalks answer true. -/
import Derived.Test.YtegkdbicomedjaaFBell5
namespace Go.Proofs.Ytegkdbicomedjaa
open Go Go.RowKit Fly
set_option linter.unusedVariables false
set_option linter.unusedSimpArgs false


def RBtwΦ (N : Int) (l : List Arc) (s t : Int) (u : Value) (own : List Seg) : Prop :=
  ∃ x, u = .tuple #[.int .u64 x, .int .i64 (nlooked N l [s, t])] ∧ own = [] ∧ (nlooked N l [s, t] ≠ 0 → x = 0) ∧ (nlooked N l [s, t] = 0 → IsB (l.map (trn false)) every s.toNat t.toNat x)
theorem wsum_nn {l : List Arc} (hw : ∀ x ∈ l, 0 ≤ x.wt) : ∀ {W : List Nat} {u t : Nat}, Chain l u t W → 0 ≤ wsum l W
  | [], _, _, _ => by simp [wsum]
  | i :: r, _, _, ⟨h, _, hc⟩ => by rw [wsum_cons h]; have := hw _ (List.getElem_mem h); have := wsum_nn hw hc; omega
theorem longGo_chain {l : List Arc} (hw : ∀ x ∈ l, 0 ≤ x.wt) (hs : ∀ i (h : i < l.length), 0 ≤ l[i].src) (hd : ∀ i (h : i < l.length), 0 ≤ l[i].dst) :
    ∀ {W : List Nat} {u t : Nat} {d : Int}, Chain l u t W → d + wsum l W ≤ INF → longGo l d (u : Int) (natsI W) = some (d + wsum l W, (t : Int))
  | [], u, t, d, hc, _ => by
    have : u = t := hc
    subst this; simp [natsI, longGo, wsum]
  | i :: r, u, t, d, ⟨h, h1, hc⟩, hb => by
    have e1 : l[i].src = (u : Int) := by have := hs i h; omega
    have e2 : ((l[i].dst.toNat : Nat) : Int) = l[i].dst := by have := hd i h; omega
    rw [wsum_cons h] at hb ⊢
    have h0 := wsum_nn hw hc
    have ha : dadd d l[i].wt = d + l[i].wt := by unfold dadd; rw [if_neg (by omega)]
    have := longGo_chain hw hs hd (d := d + l[i].wt) hc (by omega)
    show longGo l d (u : Int) ((i : Int) :: natsI r) = _
    rw [longGo, if_pos (by omega), Int.toNat_natCast, List.getElem?_eq_getElem h]
    simp only [e1, if_true, ha]
    rw [← e2, this]
    simp only [Option.some.injEq, Prod.mk.injEq, and_true]; omega
theorem chain_head {l : List Arc} : ∀ {W : List Nat} {u t : Nat}, Chain l u t W → W ≠ [] → t ∈ heads l W
  | [], _, _, _, h => absurd rfl h
  | i :: r, u, t, ⟨h, _, hc⟩, _ => by
    rw [heads_cons h]
    cases r with
    | nil => have : l[i].dst.toNat = t := hc; rw [this]; exact List.mem_cons_self ..
    | cons j r => exact List.mem_cons_of_mem _ (chain_head hc (by simp))
theorem told_same {l : List Arc} {s : Nat} {W : List Nat} {x : Int} (h : Told l s s W x) : W = [] := by
  by_cases e : W = []
  · exact e
  · exact absurd (chain_head h.chain e) h.ns
theorem heads_len (l : List Arc) (W : List Nat) : (heads l W).length = W.length := by simp [heads]
theorem heads_get {l : List Arc} {W : List Nat} {j : Nat} (hj : j < W.length) (h : W[j] < l.length) : (heads l W)[j]'(by rw [heads_len]; exact hj) = l[W[j]].dst.toNat := by simp [heads, h]
theorem been_false {l : List Arc} {W : List Nat} {k j n : Nat} {tt : List Bool} (hj : j < W.length) (h : W[j] < l.length) (hnd : (heads l W).Nodup) (hns : k ∉ heads l W) (htl : tt.length = n) (hv : l[W[j]].dst.toNat < n)
    (hi : ∀ v : Nat, tt[v]? = some true → v = k ∨ v ∈ (heads l W).take j) : tt[l[W[j]].dst.toNat]? = some false := by
  rw [List.getElem?_eq_getElem (by omega)]
  cases hb : tt[l[W[j]].dst.toNat]'(by omega) with
  | false => rfl
  | true =>
    have hjl : j < (heads l W).length := by rw [heads_len]; exact hj
    have hg := heads_get hj h
    rcases hi l[W[j]].dst.toNat (by rw [List.getElem?_eq_getElem (by omega), hb]) with e | e
    · exact absurd (by rw [← e, ← hg]; exact List.getElem_mem _) hns
    · rw [← hg] at e
      have hnd' := hnd
      rw [← List.take_append_drop j (heads l W)] at hnd'
      have hm : (heads l W)[j] ∈ (heads l W).drop j := by rw [List.drop_eq_getElem_cons hjl]; exact List.mem_cons_self ..
      exact absurd rfl ((List.nodup_append.1 hnd').2.2 _ e _ hm)
theorem been_next {l : List Arc} {W : List Nat} {k j : Nat} {tt : List Bool} (hj : j < W.length) (h : W[j] < l.length) (hi : ∀ v : Nat, tt[v]? = some true → v = k ∨ v ∈ (heads l W).take j) :
    ∀ v : Nat, (tt.set l[W[j]].dst.toNat true)[v]? = some true → v = k ∨ v ∈ (heads l W).take (j + 1) := fun v hv => by
  have hjl : j < (heads l W).length := by rw [heads_len]; exact hj
  rw [List.take_succ_eq_append_getElem hjl, heads_get hj h]
  rw [List.getElem?_set] at hv
  split at hv
  · rename_i e; right; rw [e]; simp
  · rcases hi v hv with e | e
    · exact .inl e
    · right; exact List.mem_append_left _ e

set_option maxRecDepth 100000 in
set_option maxHeartbeats 4000000 in
theorem RFrom_spec (N : Int) (A : Option Addr) (l : List Arc) (cap : Nat) (s : Int) (w : World) (hr : Ro (Fr w []) w A (l.flatMap arcCs)) (hl : l.length ≤ 9223372036854775807) (hN : I64 N) (hok : ∀ x ∈ l, ArcOk x) :
    Meets Try.prog 20 [.agg #[.int .i64 N, .slice A l.length cap], .int .i64 s] w [] (RDistΦ (nlooked N l [s]) N.toNat (l.map (trn false)) s.toNat) := by
  refine f_enter Try.func20 rfl Try.ntmps20 rfl Owns.nil ?_
  refine f_seq fun K1 kh1 => ?_
  refine f_region ?_
  refine f_step rfl rfl rfl (o_box rfl rfl fun b2 => ?_)
  refine f_stepP rfl rfl rfl (o_assign rfl) ?_
  refine f_stepP rfl rfl rfl (o_assign rfl) ?_
  refine f_done ?_
  refine f_tn (kh1 _ _ ?_)
  clear kh1
  refine f_seq fun K2 kh2 => ?_
  refine f_seq fun K3 kh3 => ?_
  refine f_region ?_
  refine f_stepP rfl rfl rfl (o_loadA (vs := [_, _]) Try.isAgg24 Try.sizeOf24 rfl rfl ⟨(rdA rfl), (rdA rfl), trivial⟩) ?_
  refine f_stepP rfl rfl rfl (o_move rfl) ?_
  refine f_stepP rfl rfl rfl (o_move rfl) ?_
  refine f_step rfl rfl rfl (o_call Try.call43 rfl (fun w_ hp_ => RLooked_spec N A l cap s s w_ (hr.up0 hp_) hl hN hok) ?_)
  rintro _ _ ⟨rfl, rfl⟩
  dsimp only [List.cons_append, List.nil_append]
  refine f_stepP rfl rfl rfl (o_assign rfl) ?_
  refine f_done ?_
  refine f_tn (kh3 _ _ ?_)
  clear kh3
  refine f_seq fun K4 kh4 => ?_
  refine f_region ?_
  refine f_stepP rfl rfl rfl (o_move rfl) ?_
  refine f_stepP rfl rfl rfl (o_neq rfl rfl) ?_
  refine f_done ?_
  refine f_tn (kh4 _ _ ?_)
  clear kh4
  refine f_cond rfl (fun c12 => ?_) (fun c12 => ?_)
  · skip
    refine f_seq fun K5 kh5 => ?_
    refine f_region ?_
    refine f_stepP rfl rfl rfl (o_move rfl) ?_
    refine f_stepP rfl rfl rfl (o_assign rfl) ?_
    refine f_stepP rfl rfl rfl (o_assign rfl) ?_
    refine f_done ?_
    refine f_tn (kh5 _ _ ?_)
    clear kh5
    refine f_ret ?_
    refine f_tr ?_
    exact f_fin2 [[]] Try.results20 rfl rfl Sub.empty ⟨.slice none 0 0, [], [], by rw [nlooked_dup], rfl, Own.nil _ _, fun _ => rfl, fun h => absurd h (by rw [nlooked_dup] at c12; exact c12)⟩
  · skip
    rw [nlooked_dup] at c12
    have hz : nlooked N l [s] = 0 := by simpa using c12
    obtain ⟨hg0, hv⟩ := nlooked_zero hz
    have hv1 := hv s (by simp)
    obtain ⟨n, rfl⟩ : ∃ n : Nat, N = n := ⟨N.toNat, by omega⟩
    obtain ⟨k, rfl⟩ : ∃ k : Nat, s = k := ⟨s.toNat, by omega⟩
    have hg := gok_of hg0 hok
    have hkn : k < n := by omega
    have hn1 := hg.n1
    have hlen := hg.len
    refine f_skip ?_
    refine f_tn (kh2 _ _ ?_)
    clear kh2
    refine f_seq fun K6 kh6 => ?_
    refine f_regionH [[(b2, blk [.int .i64 (n : Int), .slice A l.length cap] 24)]] rfl ?_
    refine f_take 0 rfl (by decide +kernel) rfl rfl rfl (by repeat (first | exact Sub.nil | refine Sub.pick ?_ | refine Sub.castO rfl ?_ | refine Sub.skip ?_)) (o_loadA (vs := [_, _]) Try.isAgg24 Try.sizeOf24 rfl rfl ⟨(rdA rfl), (rdA rfl), trivial⟩) ?_
    refine f_take 1 rfl (by decide +kernel) rfl rfl rfl (by repeat (first | exact Sub.nil | refine Sub.pick ?_ | refine Sub.castO rfl ?_ | refine Sub.skip ?_)) (o_move rfl) ?_
    refine f_take 2 rfl (by decide +kernel) rfl rfl rfl (by repeat (first | exact Sub.nil | refine Sub.pick ?_ | refine Sub.castO rfl ?_ | refine Sub.skip ?_)) (o_loadA (vs := [_, _]) Try.isAgg24 Try.sizeOf24 rfl rfl ⟨(rdA rfl), (rdA rfl), trivial⟩) ?_
    refine f_only 3 rfl (by decide +kernel) rfl rfl rfl (o_call Try.call45 rfl (fun w_ hp_ => Every_spec n A l cap w_ (by omega)) ?_)
    rintro _ _ ⟨be, rfl, rfl⟩
    dsimp only [List.cons_append, List.nil_append]
    refine ⟨(by repeat (first | exact Sub.nil | refine Sub.pick ?_ | refine Sub.castO rfl ?_ | refine Sub.skip ?_)), ?_⟩
    refine f_only 4 rfl (by decide +kernel) rfl rfl rfl (o_call Try.call44 rfl (fun w_ hp_ => RDists_spec n A l cap k be n w_ (hr.up0 hp_) (roOwn (b := be) hp_ (fun j v hj => hj)) hg hkn) ?_)
    rintro _ _ ⟨bd, D, rfl, rfl, hD⟩
    dsimp only [List.cons_append, List.nil_append]
    refine ⟨(by repeat (first | exact Sub.nil | refine Sub.pick ?_ | refine Sub.castO rfl ?_ | refine Sub.skip ?_)), ?_⟩
    refine f_only 5 rfl (by decide +kernel) rfl rfl rfl ((o_assign rfl).does ⟨(by repeat (first | exact Sub.nil | refine Sub.pick ?_ | refine Sub.castO rfl ?_ | refine Sub.skip ?_)), ?_⟩)
    refine f_only 6 rfl (by decide +kernel) rfl rfl rfl ((o_assign rfl).does ⟨(by repeat (first | exact Sub.nil | refine Sub.pick ?_ | refine Sub.castO rfl ?_ | refine Sub.skip ?_)), ?_⟩)
    refine f_over (by decide +kernel) ?_
    refine f_tn (kh6 _ _ ?_)
    clear kh6
    refine f_ret ?_
    exact f_fin2 [[(bd, blk (u64s D) 30)]] Try.results20 rfl rfl (by repeat (first | exact Sub.nil | refine Sub.pick ?_ | refine Sub.castO rfl ?_)) ⟨_, _, D, by rw [hz], rfl, own_dist hD.len hn1.2, fun h => absurd hz h, fun _ => by rw [Int.toNat_natCast, Int.toNat_natCast]; exact hD⟩

set_option maxRecDepth 100000 in
set_option maxHeartbeats 4000000 in
theorem RTo_spec (N : Int) (A : Option Addr) (l : List Arc) (cap : Nat) (s : Int) (w : World) (hr : Ro (Fr w []) w A (l.flatMap arcCs)) (hl : l.length ≤ 9223372036854775807) (hN : I64 N) (hok : ∀ x ∈ l, ArcOk x) :
    Meets Try.prog 23 [.agg #[.int .i64 N, .slice A l.length cap], .int .i64 s] w [] (RDistΦ (nlooked N l [s]) N.toNat (l.map (trn true)) s.toNat) := by
  refine f_enter Try.func23 rfl Try.ntmps23 rfl Owns.nil ?_
  refine f_seq fun K1 kh1 => ?_
  refine f_region ?_
  refine f_step rfl rfl rfl (o_box rfl rfl fun b2 => ?_)
  refine f_stepP rfl rfl rfl (o_assign rfl) ?_
  refine f_stepP rfl rfl rfl (o_assign rfl) ?_
  refine f_done ?_
  refine f_tn (kh1 _ _ ?_)
  clear kh1
  refine f_seq fun K2 kh2 => ?_
  refine f_seq fun K3 kh3 => ?_
  refine f_region ?_
  refine f_stepP rfl rfl rfl (o_loadA (vs := [_, _]) Try.isAgg24 Try.sizeOf24 rfl rfl ⟨(rdA rfl), (rdA rfl), trivial⟩) ?_
  refine f_stepP rfl rfl rfl (o_move rfl) ?_
  refine f_stepP rfl rfl rfl (o_move rfl) ?_
  refine f_step rfl rfl rfl (o_call Try.call43 rfl (fun w_ hp_ => RLooked_spec N A l cap s s w_ (hr.up0 hp_) hl hN hok) ?_)
  rintro _ _ ⟨rfl, rfl⟩
  dsimp only [List.cons_append, List.nil_append]
  refine f_stepP rfl rfl rfl (o_assign rfl) ?_
  refine f_done ?_
  refine f_tn (kh3 _ _ ?_)
  clear kh3
  refine f_seq fun K4 kh4 => ?_
  refine f_region ?_
  refine f_stepP rfl rfl rfl (o_move rfl) ?_
  refine f_stepP rfl rfl rfl (o_neq rfl rfl) ?_
  refine f_done ?_
  refine f_tn (kh4 _ _ ?_)
  clear kh4
  refine f_cond rfl (fun c12 => ?_) (fun c12 => ?_)
  · skip
    refine f_seq fun K5 kh5 => ?_
    refine f_region ?_
    refine f_stepP rfl rfl rfl (o_move rfl) ?_
    refine f_stepP rfl rfl rfl (o_assign rfl) ?_
    refine f_stepP rfl rfl rfl (o_assign rfl) ?_
    refine f_done ?_
    refine f_tn (kh5 _ _ ?_)
    clear kh5
    refine f_ret ?_
    refine f_tr ?_
    exact f_fin2 [[]] Try.results23 rfl rfl Sub.empty ⟨.slice none 0 0, [], [], by rw [nlooked_dup], rfl, Own.nil _ _, fun _ => rfl, fun h => absurd h (by rw [nlooked_dup] at c12; exact c12)⟩
  · skip
    rw [nlooked_dup] at c12
    have hz : nlooked N l [s] = 0 := by simpa using c12
    obtain ⟨hg0, hv⟩ := nlooked_zero hz
    have hv1 := hv s (by simp)
    obtain ⟨n, rfl⟩ : ∃ n : Nat, N = n := ⟨N.toNat, by omega⟩
    obtain ⟨k, rfl⟩ : ∃ k : Nat, s = k := ⟨s.toNat, by omega⟩
    have hg := gok_of hg0 hok
    have hkn : k < n := by omega
    have hn1 := hg.n1
    have hlen := hg.len
    refine f_skip ?_
    refine f_tn (kh2 _ _ ?_)
    clear kh2
    refine f_seq fun K6 kh6 => ?_
    refine f_regionH [[(b2, blk [.int .i64 (n : Int), .slice A l.length cap] 24)]] rfl ?_
    refine f_take 0 rfl (by decide +kernel) rfl rfl rfl (by repeat (first | exact Sub.nil | refine Sub.pick ?_ | refine Sub.castO rfl ?_ | refine Sub.skip ?_)) (o_loadA (vs := [_, _]) Try.isAgg24 Try.sizeOf24 rfl rfl ⟨(rdA rfl), (rdA rfl), trivial⟩) ?_
    refine f_take 2 rfl (by decide +kernel) rfl rfl rfl (by repeat (first | exact Sub.nil | refine Sub.pick ?_ | refine Sub.castO rfl ?_ | refine Sub.skip ?_)) (o_move rfl) ?_
    refine f_take 3 rfl (by decide +kernel) rfl rfl rfl (by repeat (first | exact Sub.nil | refine Sub.pick ?_ | refine Sub.castO rfl ?_ | refine Sub.skip ?_)) (o_loadA (vs := [_, _]) Try.isAgg24 Try.sizeOf24 rfl rfl ⟨(rdA rfl), (rdA rfl), trivial⟩) ?_
    refine f_only 1 rfl (by decide +kernel) rfl rfl rfl (o_call Try.call46 rfl (fun w_ hp_ => Turned_spec (n : Int) A l cap w_ (hr.up0 hp_) hlen) ?_)
    rintro _ _ ⟨v15, m15, rfl, rfl, o15⟩
    obtain ⟨A15, c15, rfl, _⟩ := o15.val
    dsimp only [List.cons_append, List.nil_append]
    refine ⟨(by repeat (first | exact Sub.nil | refine Sub.pick ?_ | refine Sub.castO rfl ?_ | refine Sub.skip ?_)), ?_⟩
    refine f_only 4 rfl (by decide +kernel) rfl rfl rfl (o_call Try.call45 rfl (fun w_ hp_ => Every_spec n A l cap w_ (by omega)) ?_)
    rintro _ _ ⟨be, rfl, rfl⟩
    dsimp only [List.cons_append, List.nil_append]
    refine ⟨(by repeat (first | exact Sub.nil | refine Sub.pick ?_ | refine Sub.castO rfl ?_ | refine Sub.skip ?_)), ?_⟩
    refine f_only 5 rfl (by decide +kernel) rfl rfl rfl (o_call Try.call44 rfl (fun w_ hp_ => RDists_spec n A15 (l.map revArc) c15 k be n w_ (seen_ro (o15.seen hp_)) (roOwn (b := be) hp_ (fun j v hj => hj)) (gok_of (gcheck_rev hg0) (rev_ok hok)) hkn) ?_)
    rintro _ _ ⟨bd, D, rfl, rfl, hD⟩
    rw [rev_fw] at hD
    dsimp only [List.cons_append, List.nil_append]
    refine ⟨(by repeat (first | exact Sub.nil | refine Sub.pick ?_ | refine Sub.castO rfl ?_ | refine Sub.skip ?_)), ?_⟩
    refine f_only 6 rfl (by decide +kernel) rfl rfl rfl ((o_assign rfl).does ⟨(by repeat (first | exact Sub.nil | refine Sub.pick ?_ | refine Sub.castO rfl ?_ | refine Sub.skip ?_)), ?_⟩)
    refine f_only 7 rfl (by decide +kernel) rfl rfl rfl ((o_assign rfl).does ⟨(by repeat (first | exact Sub.nil | refine Sub.pick ?_ | refine Sub.castO rfl ?_ | refine Sub.skip ?_)), ?_⟩)
    refine f_over (by decide +kernel) ?_
    refine f_tn (kh6 _ _ ?_)
    clear kh6
    refine f_ret ?_
    exact f_fin2 [[(bd, blk (u64s D) 30)]] Try.results23 rfl rfl (by repeat (first | exact Sub.nil | refine Sub.pick ?_ | refine Sub.castO rfl ?_)) ⟨_, _, D, by rw [hz], rfl, own_dist hD.len hn1.2, fun h => absurd hz h, fun _ => by rw [Int.toNat_natCast, Int.toNat_natCast]; exact hD⟩

set_option maxRecDepth 100000 in
set_option maxHeartbeats 4000000 in
theorem RBetween_spec (N : Int) (A : Option Addr) (l : List Arc) (cap : Nat) (s t : Int) (w : World) (hr : Ro (Fr w []) w A (l.flatMap arcCs)) (hl : l.length ≤ 9223372036854775807) (hN : I64 N) (hok : ∀ x ∈ l, ArcOk x) :
    Meets Try.prog 24 [.agg #[.int .i64 N, .slice A l.length cap], .int .i64 s, .int .i64 t] w [] (RBtwΦ N l s t) := by
  refine f_enter Try.func24 rfl Try.ntmps24 rfl Owns.nil ?_
  refine f_seq fun K1 kh1 => ?_
  refine f_region ?_
  refine f_step rfl rfl rfl (o_box rfl rfl fun b3 => ?_)
  refine f_stepP rfl rfl rfl (o_assign rfl) ?_
  refine f_stepP rfl rfl rfl (o_assign rfl) ?_
  refine f_done ?_
  refine f_tn (kh1 _ _ ?_)
  clear kh1
  refine f_seq fun K2 kh2 => ?_
  refine f_seq fun K3 kh3 => ?_
  refine f_region ?_
  refine f_stepP rfl rfl rfl (o_loadA (vs := [_, _]) Try.isAgg24 Try.sizeOf24 rfl rfl ⟨(rdA rfl), (rdA rfl), trivial⟩) ?_
  refine f_stepP rfl rfl rfl (o_move rfl) ?_
  refine f_stepP rfl rfl rfl (o_move rfl) ?_
  refine f_step rfl rfl rfl (o_call Try.call43 rfl (fun w_ hp_ => RLooked_spec N A l cap s t w_ (hr.up0 hp_) hl hN hok) ?_)
  rintro _ _ ⟨rfl, rfl⟩
  dsimp only [List.cons_append, List.nil_append]
  refine f_stepP rfl rfl rfl (o_assign rfl) ?_
  refine f_done ?_
  refine f_tn (kh3 _ _ ?_)
  clear kh3
  refine f_seq fun K4 kh4 => ?_
  refine f_region ?_
  refine f_stepP rfl rfl rfl (o_move rfl) ?_
  refine f_stepP rfl rfl rfl (o_neq rfl rfl) ?_
  refine f_done ?_
  refine f_tn (kh4 _ _ ?_)
  clear kh4
  refine f_cond rfl (fun c14 => ?_) (fun c14 => ?_)
  · skip
    refine f_seq fun K5 kh5 => ?_
    refine f_region ?_
    refine f_stepP rfl rfl rfl (o_move rfl) ?_
    refine f_stepP rfl rfl rfl (o_assign rfl) ?_
    refine f_stepP rfl rfl rfl (o_assign rfl) ?_
    refine f_done ?_
    refine f_tn (kh5 _ _ ?_)
    clear kh5
    refine f_ret ?_
    refine f_tr ?_
    exact f_fin2 [] Try.results24 rfl rfl Sub.nil ⟨0, rfl, rfl, fun _ => rfl, fun h => absurd h c14⟩
  · skip
    have hz : nlooked N l [s, t] = 0 := by simpa using c14
    obtain ⟨hg0, hv⟩ := nlooked_zero hz
    have hv1 := hv s (by simp)
    have hv2 := hv t (by simp)
    obtain ⟨n, rfl⟩ : ∃ n : Nat, N = n := ⟨N.toNat, by omega⟩
    obtain ⟨k, rfl⟩ : ∃ k : Nat, s = k := ⟨s.toNat, by omega⟩
    obtain ⟨j, rfl⟩ : ∃ k : Nat, t = k := ⟨t.toNat, by omega⟩
    have hg := gok_of hg0 hok
    have hkn : k < n := by omega
    have hjn : j < n := by omega
    have hn1 := hg.n1
    have hlen := hg.len
    refine f_skip ?_
    refine f_tn (kh2 _ _ ?_)
    clear kh2
    refine f_seq fun K6 kh6 => ?_
    refine f_regionH [[(b3, blk [.int .i64 (n : Int), .slice A l.length cap] 24)]] rfl ?_
    refine f_take 0 rfl (by decide +kernel) rfl rfl rfl (by repeat (first | exact Sub.nil | refine Sub.pick ?_ | refine Sub.castO rfl ?_ | refine Sub.skip ?_)) (o_loadA (vs := [_, _]) Try.isAgg24 Try.sizeOf24 rfl rfl ⟨(rdA rfl), (rdA rfl), trivial⟩) ?_
    refine f_take 1 rfl (by decide +kernel) rfl rfl rfl (by repeat (first | exact Sub.nil | refine Sub.pick ?_ | refine Sub.castO rfl ?_ | refine Sub.skip ?_)) (o_move rfl) ?_
    refine f_take 2 rfl (by decide +kernel) rfl rfl rfl (by repeat (first | exact Sub.nil | refine Sub.pick ?_ | refine Sub.castO rfl ?_ | refine Sub.skip ?_)) (o_loadA (vs := [_, _]) Try.isAgg24 Try.sizeOf24 rfl rfl ⟨(rdA rfl), (rdA rfl), trivial⟩) ?_
    refine f_take 5 rfl (by decide +kernel) rfl rfl rfl (by repeat (first | exact Sub.nil | refine Sub.pick ?_ | refine Sub.castO rfl ?_ | refine Sub.skip ?_)) (o_move rfl) ?_
    refine f_only 3 rfl (by decide +kernel) rfl rfl rfl (o_call Try.call45 rfl (fun w_ hp_ => Every_spec n A l cap w_ (by omega)) ?_)
    rintro _ _ ⟨be, rfl, rfl⟩
    dsimp only [List.cons_append, List.nil_append]
    refine ⟨(by repeat (first | exact Sub.nil | refine Sub.pick ?_ | refine Sub.castO rfl ?_ | refine Sub.skip ?_)), ?_⟩
    refine f_only 4 rfl (by decide +kernel) rfl rfl rfl (o_call Try.call44 rfl (fun w_ hp_ => RDists_spec n A l cap k be n w_ (hr.up0 hp_) (roOwn (b := be) hp_ (fun j v hj => hj)) hg hkn) ?_)
    rintro _ _ ⟨bd, D, rfl, rfl, hD⟩
    have hDl := hD.len
    dsimp only [List.cons_append, List.nil_append]
    refine ⟨(by repeat (first | exact Sub.nil | refine Sub.pick ?_ | refine Sub.castO rfl ?_ | refine Sub.skip ?_)), ?_⟩
    refine f_take 6 rfl (by decide +kernel) rfl rfl rfl (by repeat (first | exact Sub.nil | refine Sub.pick ?_ | refine Sub.castO rfl ?_ | refine Sub.skip ?_)) (o_idx sl38 rfl rfl (j) ⟨by omega, by omega, by first | omega | (simp; done) | (simp; omega)⟩) ?_
    refine f_only 7 rfl (by decide +kernel) rfl rfl rfl ((o_load Try.isAgg30 rfl (rdA (u64s_at (dg_at (by omega))))).does ⟨(by repeat (first | exact Sub.nil | refine Sub.pick ?_ | refine Sub.castO rfl ?_ | refine Sub.skip ?_)), ?_⟩)
    refine f_only 8 rfl (by decide +kernel) rfl rfl rfl ((o_assign rfl).does ⟨(by repeat (first | exact Sub.nil | refine Sub.pick ?_ | refine Sub.castO rfl ?_ | refine Sub.skip ?_)), ?_⟩)
    refine f_only 9 rfl (by decide +kernel) rfl rfl rfl ((o_assign rfl).does ⟨(by repeat (first | exact Sub.nil | refine Sub.pick ?_ | refine Sub.castO rfl ?_ | refine Sub.skip ?_)), ?_⟩)
    refine f_over (by decide +kernel) ?_
    refine f_tn (kh6 _ _ ?_)
    clear kh6
    refine f_ret ?_
    exact f_fin2 [] Try.results24 rfl rfl Sub.empty ⟨_, by rw [hz], rfl, fun h => absurd hz h, fun _ => by rw [Int.toNat_natCast, Int.toNat_natCast]; exact hD.isB hjn⟩

set_option maxRecDepth 100000 in
set_option maxHeartbeats 4000000 in
theorem Told_spec (N : Int) (A : Option Addr) (l : List Arc) (cap : Nat) (s t : Int) (V : Option Addr) (W : List Nat) (cw : Nat) (x : Int) (w : World) (hr : Ro (Fr w []) w A (l.flatMap arcCs)) (hl : l.length ≤ 9223372036854775807) (hN : I64 N) (hok : ∀ x ∈ l, ArcOk x) (hW : Ro (Fr w []) w V (ints (natsI W))) (h1 : nlooked N l [s, t] ≠ 0 → W = [] ∧ x = 0)
    (h0 : nlooked N l [s, t] = 0 → 0 ≤ x ∧ IsB (l.map (trn false)) every s.toNat t.toNat x ∧ (x = INF → W = []) ∧ (x < INF → Told (l.map (trn false)) s.toNat t.toNat W x) ∧ W.length ≤ 1024 ∧ ∀ i, i ∈ W → i < l.length) :
    Meets Try.prog 14 [.agg #[.int .i64 N, .slice A l.length cap], .int .i64 s, .int .i64 t, .slice V W.length cw, .int .u64 x, .int .i64 (nlooked N l [s, t])] w [] (fun u m => u = .bool true ∧ m = []) := by
  refine f_enter Try.func14 rfl Try.ntmps14 rfl Owns.nil ?_
  refine f_seq fun K1 kh1 => ?_
  refine f_region ?_
  refine f_step rfl rfl rfl (o_box rfl rfl fun b6 => ?_)
  refine f_stepP rfl rfl rfl (o_assign rfl) ?_
  refine f_done ?_
  refine f_tn (kh1 _ _ ?_)
  clear kh1
  refine f_seq fun K2 kh2 => ?_
  refine f_region ?_
  refine f_stepP rfl rfl rfl (o_loadA (vs := [_, _]) Try.isAgg24 Try.sizeOf24 rfl rfl ⟨(rdA rfl), (rdA rfl), trivial⟩) ?_
  refine f_stepP rfl rfl rfl (o_move rfl) ?_
  refine f_stepP rfl rfl rfl (o_move rfl) ?_
  refine f_step rfl rfl rfl (o_call Try.call24 rfl (fun w_ hp_ => RBetween_spec N A l cap s t w_ (hr.up0 hp_) hl hN hok) ?_)
  rintro _ _ ⟨y, rfl, rfl, hy1, hy0⟩
  dsimp only [List.cons_append, List.nil_append]
  refine f_stepP rfl rfl rfl (o_move rfl) ?_
  refine f_stepP rfl rfl rfl (o_extract rfl rfl) ?_
  refine f_stepP rfl rfl rfl (o_extract rfl rfl) ?_
  refine f_stepP rfl rfl rfl (o_assign rfl) ?_
  refine f_stepP rfl rfl rfl (o_assign rfl) ?_
  refine f_done ?_
  refine f_tn (kh2 _ _ ?_)
  clear kh2
  refine f_seq fun K3 kh3 => ?_
  refine f_seq fun K4 kh4 => ?_
  refine f_region ?_
  refine f_stepP rfl rfl rfl (o_move rfl) ?_
  refine f_stepP rfl rfl rfl (o_neq rfl rfl) ?_
  refine f_stepP rfl rfl rfl (o_move rfl) ?_
  refine f_splitL 29 rfl (fun g29 => ?_) (fun g29 => ?_)
  · skip
    obtain ⟨rfl, rfl⟩ := h1 g29
    refine f_stepN rfl rfl rfl rfl rfl rfl ?_
    refine f_stepN rfl rfl rfl rfl rfl rfl ?_
    refine f_stepN rfl rfl rfl rfl rfl rfl ?_
    refine f_stepP rfl rfl rfl (o_pickT rfl rfl) ?_
    refine f_done ?_
    refine f_tn (kh4 _ _ ?_)
    clear kh4
    refine f_condT rfl ?_
    refine f_seq fun K5 kh5 => ?_
    refine f_region ?_
    refine f_stepP rfl rfl rfl (o_move rfl) ?_
    refine f_stepP rfl rfl rfl (o_move rfl) ?_
    refine f_stepP rfl rfl rfl (o_eql rfl rfl) ?_
    refine f_stepP rfl rfl rfl (o_move rfl) ?_
    refine f_trueL 37 rfl (rfl) ?_
    refine f_stepPY rfl rfl rfl rfl rfl (o_move rfl) ?_
    refine f_stepPY rfl rfl rfl rfl rfl (o_len sl28 rfl) ?_
    refine f_stepPY rfl rfl rfl rfl rfl (o_eql rfl rfl) ?_
    refine f_stepP rfl rfl rfl (o_pickT rfl rfl) ?_
    refine f_stepP rfl rfl rfl (o_move rfl) ?_
    refine f_trueL 42 rfl (by simp) ?_
    refine f_stepPY rfl rfl rfl rfl rfl (o_move rfl) ?_
    refine f_stepPY rfl rfl rfl rfl rfl (o_eql rfl rfl) ?_
    refine f_stepP rfl rfl rfl (o_pickT rfl rfl) ?_
    refine f_stepP rfl rfl rfl (o_assign rfl) ?_
    refine f_done ?_
    refine f_tn (kh5 _ _ ?_)
    clear kh5
    refine f_ret ?_
    refine f_tr ?_
    exact f_fin1 [] Try.results14 rfl Sub.nil ⟨by simp, rfl⟩
  · skip
    have hz : nlooked N l [s, t] = 0 := by simpa using g29
    obtain ⟨hx0, hxB, hxI, hxT, hWl, hWi⟩ := h0 hz
    obtain rfl : x = y := hxB.unique (hy0 hz)
    refine f_stepPY rfl rfl rfl rfl rfl (o_move rfl) ?_
    refine f_stepPY rfl rfl rfl rfl rfl (o_move rfl) ?_
    refine f_stepPY rfl rfl rfl rfl rfl (o_neq rfl rfl) ?_
    refine f_stepP rfl rfl rfl (o_pickF rfl rfl) ?_
    refine f_done ?_
    refine f_tn (kh4 _ _ ?_)
    clear kh4
    refine f_condN rfl (by simp) ?_
    refine f_skip ?_
    refine f_tn (kh3 _ _ ?_)
    clear kh3
    refine f_seq fun K6 kh6 => ?_
    refine f_seq fun K7 kh7 => ?_
    refine f_region ?_
    refine f_stepP rfl rfl rfl (o_move rfl) ?_
    refine f_stepP rfl rfl rfl (o_eql rfl rfl) ?_
    refine f_stepP rfl rfl rfl (o_move rfl) ?_
    refine f_splitL 48 rfl (fun g48 => ?_) (fun g48 => ?_)
    · skip
      obtain rfl := hxI g48
      refine f_stepN rfl rfl rfl rfl rfl rfl ?_
      refine f_stepN rfl rfl rfl rfl rfl rfl ?_
      refine f_stepN rfl rfl rfl rfl rfl rfl ?_
      refine f_stepP rfl rfl rfl (o_pickT rfl rfl) ?_
      refine f_done ?_
      refine f_tn (kh7 _ _ ?_)
      clear kh7
      refine f_condT rfl ?_
      refine f_seq fun K8 kh8 => ?_
      refine f_region ?_
      refine f_stepP rfl rfl rfl (o_move rfl) ?_
      refine f_stepP rfl rfl rfl (o_len sl28 rfl) ?_
      refine f_stepP rfl rfl rfl (o_eql rfl rfl) ?_
      refine f_stepP rfl rfl rfl (o_move rfl) ?_
      refine f_trueL 56 rfl (by simp) ?_
      refine f_stepPY rfl rfl rfl rfl rfl (o_move rfl) ?_
      refine f_stepPY rfl rfl rfl rfl rfl (o_move rfl) ?_
      refine f_stepPY rfl rfl rfl rfl rfl (o_eql rfl rfl) ?_
      refine f_stepP rfl rfl rfl (o_pickT rfl rfl) ?_
      refine f_stepP rfl rfl rfl (o_assign rfl) ?_
      refine f_done ?_
      refine f_tn (kh8 _ _ ?_)
      clear kh8
      refine f_ret ?_
      refine f_tr ?_
      exact f_fin1 [] Try.results14 rfl Sub.nil ⟨by simp, rfl⟩
    · skip
      refine f_stepPY rfl rfl rfl rfl rfl (o_move rfl) ?_
      refine f_stepPY rfl rfl rfl rfl rfl (o_move rfl) ?_
      refine f_stepPY rfl rfl rfl rfl rfl (o_eql rfl rfl) ?_
      refine f_stepP rfl rfl rfl (o_pickF rfl rfl) ?_
      refine f_done ?_
      refine f_tn (kh7 _ _ ?_)
      clear kh7
      refine f_cond rfl (fun c52 => ?_) (fun c52 => ?_)
      · skip
        obtain rfl := (show s = t from c52)
        obtain rfl := told_same (hxT (by have := hxB.le; unfold INF at this ⊢; omega))
        refine f_seq fun K9 kh9 => ?_
        refine f_region ?_
        refine f_stepP rfl rfl rfl (o_move rfl) ?_
        refine f_stepP rfl rfl rfl (o_len sl28 rfl) ?_
        refine f_stepP rfl rfl rfl (o_eql rfl rfl) ?_
        refine f_stepP rfl rfl rfl (o_move rfl) ?_
        refine f_trueL 56 rfl (by simp) ?_
        refine f_stepPY rfl rfl rfl rfl rfl (o_move rfl) ?_
        refine f_stepPY rfl rfl rfl rfl rfl (o_move rfl) ?_
        refine f_stepPY rfl rfl rfl rfl rfl (o_eql rfl rfl) ?_
        refine f_stepP rfl rfl rfl (o_pickT rfl rfl) ?_
        refine f_stepP rfl rfl rfl (o_assign rfl) ?_
        refine f_done ?_
        refine f_tn (kh9 _ _ ?_)
        clear kh9
        refine f_ret ?_
        refine f_tr ?_
        exact f_fin1 [] Try.results14 rfl Sub.nil ⟨by simp, rfl⟩
      · skip
        have hT := hxT (by have := hxB.le; unfold INF at this ⊢; omega)
        rw [fw_id] at hT
        obtain ⟨hg0, hv⟩ := nlooked_zero hz
        have hv1 := hv s (by simp)
        have hv2 := hv t (by simp)
        obtain ⟨n, rfl⟩ : ∃ n : Nat, N = n := ⟨N.toNat, by omega⟩
        obtain ⟨k, rfl⟩ : ∃ k : Nat, s = k := ⟨s.toNat, by omega⟩
        obtain ⟨q, rfl⟩ : ∃ k : Nat, t = k := ⟨t.toNat, by omega⟩
        rw [Int.toNat_natCast, Int.toNat_natCast] at hT
        have hg := gok_of hg0 hok
        have hkn : k < n := by omega
        have hn1 := hg.n1
        have hlen := hg.len
        have hlong : longR l (k : Int) (q : Int) (natsI W) = (x, true) := by
          unfold longR
          rw [longGo_chain (fun y hy => (hok y hy).wt.1) (fun i h => (hg.good i h).1) (fun i h => (hg.good i h).2.2.1) hT.chain (by rw [hT.sum]; have := hxB.le; omega)]
          simp [hT.sum]
        refine f_skip ?_
        refine f_tn (kh6 _ _ ?_)
        clear kh6
        refine f_seq fun K10 kh10 => ?_
        refine f_region ?_
        refine f_stepP rfl rfl rfl (o_loadA (vs := [_, _]) Try.isAgg24 Try.sizeOf24 rfl rfl ⟨(rdA rfl), (rdA rfl), trivial⟩) ?_
        refine f_stepP rfl rfl rfl (o_move rfl) ?_
        refine f_stepP rfl rfl rfl (o_move rfl) ?_
        refine f_stepP rfl rfl rfl (o_move rfl) ?_
        refine f_step rfl rfl rfl (o_call Try.call37 rfl (fun w_ hp_ => (by have h := Long_spec n A l cap (k : Int) (q : Int) V (natsI W) cw w_ (hr.up0 hp_) (hW.up0 hp_) hg (by rw [natsI_len]; omega); rw [natsI_len] at h; exact h)) ?_)
        rintro _ _ ⟨rfl, rfl⟩
        rw [hlong]
        dsimp only [List.cons_append, List.nil_append]
        refine f_stepP rfl rfl rfl (o_move rfl) ?_
        refine f_stepP rfl rfl rfl (o_extract rfl rfl) ?_
        refine f_stepP rfl rfl rfl (o_extract rfl rfl) ?_
        refine f_stepP rfl rfl rfl (o_assign rfl) ?_
        refine f_stepP rfl rfl rfl (o_assign rfl) ?_
        refine f_done ?_
        refine f_tn (kh10 _ _ ?_)
        clear kh10
        refine f_seq fun K11 kh11 => ?_
        refine f_seq fun K12 kh12 => ?_
        refine f_region ?_
        refine f_stepP rfl rfl rfl (o_move rfl) ?_
        refine f_stepP rfl rfl rfl (o_not rfl) ?_
        refine f_stepP rfl rfl rfl (o_move rfl) ?_
        refine f_splitLB 71 rfl (fun g71 => ?_) (fun g71 => ?_)
        · skip
          exact absurd g71 (by decide) -- closed
        · skip
          refine f_stepPY rfl rfl rfl rfl rfl (o_move rfl) ?_
          refine f_stepPY rfl rfl rfl rfl rfl (o_move rfl) ?_
          refine f_stepPY rfl rfl rfl rfl rfl (o_neq rfl rfl) ?_
          refine f_stepP rfl rfl rfl (o_pickF rfl rfl) ?_
          refine f_stepP rfl rfl rfl (o_move rfl) ?_
          refine f_falseL 76 rfl (by simp) ?_
          refine f_stepPY rfl rfl rfl rfl rfl (o_move rfl) ?_
          refine f_stepPY rfl rfl rfl rfl rfl (o_move rfl) ?_
          refine f_stepPY rfl rfl rfl rfl rfl (o_neq rfl rfl) ?_
          refine f_stepP rfl rfl rfl (o_pickF rfl rfl) ?_
          refine f_done ?_
          refine f_tn (kh12 _ _ ?_)
          clear kh12
          refine f_condN rfl (by simp) ?_
          refine f_skip ?_
          refine f_tn (kh11 _ _ ?_)
          clear kh11
          refine f_seq fun K13 kh13 => ?_
          refine f_region ?_
          refine f_stepP rfl rfl rfl (o_field fa24_0 rfl) ?_
          refine f_stepP rfl rfl rfl (o_load Try.isAgg3 rfl (rdA rfl)) ?_
          refine f_step rfl rfl rfl (o_make el41 rfl rfl n rfl (by omega) (by omega) ((List.replicate n false).map .bool) (bools_rep false n) fun b83 => ?_)
          refine f_stepP rfl rfl rfl (o_assign rfl) ?_
          refine f_done ?_
          refine f_tn (kh13 _ _ ?_)
          clear kh13
          refine f_seq fun K14 kh14 => ?_
          refine f_region ?_
          refine f_stepP rfl rfl rfl (o_move rfl) ?_
          refine f_stepP rfl rfl rfl (o_move rfl) ?_
          refine f_stepP rfl rfl rfl (o_idx sl41 rfl rfl (k) ⟨by omega, by omega, by first | omega | (simp; done) | (simp; omega)⟩) ?_
          refine f_step0 rfl rfl (o_store Try.sizeOf4 rfl rfl rfl rfl (by rw [List.length_map, List.length_replicate]; omega) (((List.replicate n false).set k true).map .bool) (bools_set _ _ _) ?_)
          refine f_done ?_
          refine f_tn (kh14 _ _ ?_)
          clear kh14
          refine f_seq fun K15 kh15 => ?_
          refine f_seq fun K16 kh16 => ?_
          refine f_region ?_
          refine f_stepP rfl rfl rfl (o_assign rfl) ?_
          refine f_done ?_
          refine f_tn (kh16 _ _ ?_)
          clear kh16
          refine f_block ?_
          refine f_loop (α := Nat × List Bool) [3, 6, 17] (fun ⟨j, tt⟩ => [(18, .int .i64 (j : Int))]) (fun ⟨j, tt⟩ => [[(b83, blk (tt.map .bool) 4)], [(b6, blk [.int .i64 (n : Int), .slice A l.length cap] 24)]]) (fun ⟨j, tt⟩ => j ≤ W.length ∧ tt.length = n ∧ ∀ v : Nat, tt[v]? = some true → v = k ∨ v ∈ (heads l W).take j) (fun ⟨j, tt⟩ => W.length - j) (0, (List.replicate n false).set k true) ?_ ?_ ?_ ?_
          · exact (by repeat (first | exact trivial | refine ⟨rfl, ?_⟩))
          · repeat (first | exact Sub.nil | refine Sub.pick ?_ | refine Sub.castO rfl ?_ | refine Sub.skip ?_)
          · exact ⟨Nat.zero_le _, by simp, fun v hv => by
            rw [List.getElem?_set] at hv
            split at hv
            · rename_i e; exact .inl e.symm
            · rw [List.getElem?_replicate] at hv; split at hv <;> simp at hv⟩
          · rintro ⟨j, tt⟩ ⟨hjl, htl, htv⟩
            refine f_seq fun K17 kh17 => ?_
            refine f_seq fun K18 kh18 => ?_
            refine f_region ?_
            refine f_stepP rfl rfl rfl (o_move rfl) ?_
            refine f_stepP rfl rfl rfl (o_move rfl) ?_
            refine f_stepP rfl rfl rfl (o_len sl28 rfl) ?_
            refine f_stepP rfl rfl rfl (o_lss rfl rfl) ?_
            refine f_done ?_
            refine f_tn (kh18 _ _ ?_)
            clear kh18
            refine f_cond rfl (fun c90 => ?_) (fun c90 => ?_)
            · skip
              refine f_skip ?_
              refine f_tn (kh17 _ _ ?_)
              clear kh17
              refine f_seq fun K19 kh19 => ?_
              refine f_block ?_
              refine f_seq fun K20 kh20 => ?_
              have hj : j < W.length := by omega
              have hWj : W[j] < l.length := hWi _ (List.getElem_mem hj)
              have hgj := hg.good W[j] hWj
              obtain ⟨bl, off, rfl, hS, hc⟩ := hr (flat_ne arcCs arcCs_len (by omega) hWj)
              obtain ⟨bi, oi, rfl, hSi, hci⟩ := hW (map_ne (k := j) (by rw [natsI_len]; exact hj))
              have hcj := hci j (.int .i64 (W[j] : Int)) (by simp [natsI, ints, hj])
              have hbf := been_false hj hWj hT.nd hT.ns htl (by omega) htv
              refine f_regionT 9 rfl (by decide +kernel) ?_
              refine f_stillP rfl rfl rfl (o_field fa24_1 rfl) ?_
              refine f_stillP rfl rfl rfl (o_load Try.isAgg22 rfl (rdA rfl)) ?_
              refine f_stillP rfl rfl rfl (o_move rfl) ?_
              refine f_stillP rfl rfl rfl (o_move rfl) ?_
              refine f_stillP rfl rfl rfl (o_idx sl28 rfl rfl (oi + j) ⟨by omega, by omega, by first | omega | (simp; done) | (simp; omega)⟩) ?_
              refine f_stillP rfl rfl rfl (o_load Try.isAgg3 rfl (rdS hSi hcj)) ?_
              refine f_stillP rfl rfl rfl (o_idx sl22 rfl rfl (off + W[j] * 3) ⟨by omega, by omega, by first | omega | (simp; done) | (simp; omega)⟩) ?_
              refine f_stillP rfl rfl rfl (o_field fa44_1 rfl) ?_
              refine f_stillP rfl rfl rfl (o_load Try.isAgg3 rfl (rdS hS (by have := hc (W[j] * 3 + 1) _ (by rw [flat_get arcCs arcCs_len l W[j] 1 hWj (by omega)]; rfl); rwa [← Nat.add_assoc] at this))) ?_
              refine f_stillD (f_tail ?_)
              refine f_stepP rfl rfl rfl (o_assign rfl) ?_
              refine f_done ?_
              refine f_tn (kh20 _ _ ?_)
              clear kh20
              refine f_seq fun K21 kh21 => ?_
              refine f_seq fun K22 kh22 => ?_
              refine f_region ?_
              refine f_stepP rfl rfl rfl (o_move rfl) ?_
              refine f_stepP rfl rfl rfl (o_move rfl) ?_
              refine f_stepP rfl rfl rfl (o_idx sl41 rfl rfl (l[W[j]].dst.toNat) ⟨by omega, by omega, by first | omega | (simp; done) | (simp; omega)⟩) ?_
              refine f_stepP rfl rfl rfl (o_load Try.isAgg4 rfl (rdA (v := .bool false) (by rw [List.getElem?_map, hbf]; rfl))) ?_
              refine f_done ?_
              refine f_tn (kh22 _ _ ?_)
              clear kh22
              refine f_condF rfl ?_
              refine f_skip ?_
              refine f_tn (kh21 _ _ ?_)
              clear kh21
              refine f_region ?_
              refine f_stepP rfl rfl rfl (o_move rfl) ?_
              refine f_stepP rfl rfl rfl (o_move rfl) ?_
              refine f_stepP rfl rfl rfl (o_idx sl41 rfl rfl (l[W[j]].dst.toNat) ⟨by omega, by omega, by first | omega | (simp; done) | (simp; omega)⟩) ?_
              refine f_step0 rfl rfl (o_store Try.sizeOf4 rfl rfl rfl rfl (by rw [List.length_map]; omega) ((tt.set l[W[j]].dst.toNat true).map .bool) (bools_set _ _ _) ?_)
              refine f_done ?_
              refine f_bn ?_
              refine f_tn (kh19 _ _ ?_)
              clear kh19
              refine f_region ?_
              refine f_stepP rfl rfl rfl (o_move rfl) ?_
              refine f_stepP rfl rfl rfl (o_add rfl rfl _ (wrap_i64 (by omega))) ?_
              refine f_stepP rfl rfl rfl (o_assign rfl) ?_
              refine f_done ?_
              refine f_tn (f_again (j + 1, tt.set l[W[j]].dst.toNat true) (by first | omega | (dsimp only; omega) | (simp; omega)) ⟨by omega, by simpa using htl, been_next hj hWj htv⟩ ?_ ?_ ?_)
              · exact (by repeat (first | exact trivial | refine ⟨rfl, ?_⟩))
              · exact (by repeat (first | exact trivial | refine ⟨rfl, ?_⟩))
              · repeat (first | exact Sub.nil | refine Sub.pick ?_ | refine Sub.castO rfl ?_ | refine Sub.skip ?_)
            · skip
              refine f_exit ?_
              refine f_te ?_
              clear kh17
              refine f_te ?_
              refine f_be ?_
              refine f_tn (kh15 _ _ ?_)
              clear kh15
              refine f_seq fun K23 kh23 => ?_
              refine f_region ?_
              refine f_stepP rfl rfl rfl (o_assign rfl) ?_
              refine f_done ?_
              refine f_tn (kh23 _ _ ?_)
              clear kh23
              refine f_ret ?_
              exact f_fin1 [] Try.results14 rfl Sub.nil ⟨rfl, rfl⟩

set_option maxRecDepth 100000 in
set_option maxHeartbeats 4000000 in
theorem NearDists_spec (N : Int) (A : Option Addr) (l : List Arc) (cap : Nat) (s t : Int) (w : World) (hr : Ro (Fr w []) w A (l.flatMap arcCs)) (hl : l.length ≤ 9223372036854775807) (hN : I64 N) (hok : ∀ x ∈ l, ArcOk x) (hz : l.length * 24 ≤ 140737488351232) :
    Meets Try.prog 7 [.agg #[.int .i64 N, .slice A l.length cap], .int .i64 s, .int .i64 t] w [] (fun u m => u = .bool true ∧ m = []) := by
  refine f_enter Try.func7 rfl Try.ntmps7 rfl Owns.nil ?_
  refine f_seq fun K1 kh1 => ?_
  refine f_region ?_
  refine f_step rfl rfl rfl (o_box rfl rfl fun b3 => ?_)
  refine f_stepP rfl rfl rfl (o_assign rfl) ?_
  refine f_done ?_
  refine f_tn (kh1 _ _ ?_)
  clear kh1
  refine f_seq fun K2 kh2 => ?_
  refine f_seq fun K3 kh3 => ?_
  refine f_region ?_
  refine f_stepP rfl rfl rfl (o_loadA (vs := [_, _]) Try.isAgg24 Try.sizeOf24 rfl rfl ⟨(rdA rfl), (rdA rfl), trivial⟩) ?_
  refine f_step rfl rfl rfl (o_call Try.call10 rfl (fun w_ hp_ => large_spec N A l.length cap w_) ?_)
  rintro _ _ ⟨rfl, rfl⟩
  dsimp only [List.cons_append, List.nil_append]
  refine f_done ?_
  refine f_tn (kh3 _ _ ?_)
  clear kh3
  refine f_cond rfl (fun c21 => ?_) (fun c21 => ?_)
  · skip
    refine f_seq fun K4 kh4 => ?_
    refine f_region ?_
    refine f_step rfl rfl rfl (o_call Try.call11 rfl (fun w_ hp_ => works_spec w_) ?_)
    rintro _ _ ⟨rfl, rfl⟩
    dsimp only [List.cons_append, List.nil_append]
    refine f_stepP rfl rfl rfl (o_assign rfl) ?_
    refine f_done ?_
    refine f_tn (kh4 _ _ ?_)
    clear kh4
    refine f_ret ?_
    refine f_tr ?_
    exact f_fin1 [] Try.results7 rfl Sub.nil ⟨rfl, rfl⟩
  · skip
    refine f_skip ?_
    refine f_tn (kh2 _ _ ?_)
    clear kh2
    refine f_seq fun K5 kh5 => ?_
    refine f_region ?_
    refine f_stepP rfl rfl rfl (o_loadA (vs := [_, _]) Try.isAgg24 Try.sizeOf24 rfl rfl ⟨(rdA rfl), (rdA rfl), trivial⟩) ?_
    refine f_step rfl rfl rfl (o_call Try.call12 rfl (fun w_ hp_ => LendGraph_spec N A l cap w_ (hr.up0 hp_) hz) ?_)
    rintro _ _ ⟨bg, cg, rg, rfl, rfl, hg1, hg2⟩
    dsimp only [List.cons_append, List.nil_append]
    refine f_step rfl rfl rfl (o_alloc Try.zeroValue24 rfl fun b7 => ?_)
    refine f_step0 rfl rfl (o_storeA Try.sizeOf24 rfl rfl rfl rfl (by first | exact Nat.le_of_ble_eq_true rfl | (simp; done) | (simp; omega)) [.int .i64 N, .slice (some ⟨bg, 0, none⟩) l.length cg] rfl ?_)
    refine f_done ?_
    refine f_tn (kh5 _ _ ?_)
    clear kh5
    refine f_seq fun K6 kh6 => ?_
    refine f_region ?_
    refine f_stepP rfl rfl rfl (o_loadA (vs := [_, _]) Try.isAgg24 Try.sizeOf24 rfl rfl ⟨(rdA rfl), (rdA rfl), trivial⟩) ?_
    refine f_stepP rfl rfl rfl (o_move rfl) ?_
    refine f_step rfl rfl rfl (o_call Try.call17 rfl (fun w_ hp_ => From_spec N (some ⟨bg, 0, none⟩) l cg s w_ (roOwn (b := bg) hp_ (fun j v hj => app_get hj)) hl hN hok) ?_)
    rintro _ _ ⟨vA, mA, DA, rfl, rfl, hoA, hA1, hA0⟩
    obtain ⟨AA, cA, rfl, hcA⟩ := hoA.val
    dsimp only [List.cons_append, List.nil_append]
    refine f_stepP rfl rfl rfl (o_move rfl) ?_
    refine f_stepP rfl rfl rfl (o_extract rfl rfl) ?_
    refine f_stepP rfl rfl rfl (o_extract rfl rfl) ?_
    refine f_stepP rfl rfl rfl (o_assign rfl) ?_
    refine f_stepP rfl rfl rfl (o_assign rfl) ?_
    refine f_done ?_
    refine f_tn (kh6 _ _ ?_)
    clear kh6
    refine f_seq fun K7 kh7 => ?_
    refine f_region ?_
    refine f_stepP rfl rfl rfl (o_loadA (vs := [_, _]) Try.isAgg24 Try.sizeOf24 rfl rfl ⟨(rdA rfl), (rdA rfl), trivial⟩) ?_
    refine f_stepP rfl rfl rfl (o_move rfl) ?_
    refine f_step rfl rfl rfl (o_call Try.call20 rfl (fun w_ hp_ => RFrom_spec N A l cap s w_ (hr.up0 hp_) hl hN hok) ?_)
    rintro _ _ ⟨vB, mB, DB, rfl, rfl, hoB, hB1, hB0⟩
    obtain ⟨AB, cB, rfl, hcB⟩ := hoB.val
    obtain rfl : DA = DB := by
      by_cases hz : nlooked N l [s] = 0
      · exact (hA0 hz).1.unique (hB0 hz)
      · rw [hA1 hz, hB1 hz]
    dsimp only [List.cons_append, List.nil_append]
    refine f_stepP rfl rfl rfl (o_move rfl) ?_
    refine f_stepP rfl rfl rfl (o_extract rfl rfl) ?_
    refine f_stepP rfl rfl rfl (o_extract rfl rfl) ?_
    refine f_stepP rfl rfl rfl (o_assign rfl) ?_
    refine f_stepP rfl rfl rfl (o_assign rfl) ?_
    refine f_done ?_
    refine f_tn (kh7 _ _ ?_)
    clear kh7
    refine f_seq fun K8 kh8 => ?_
    refine f_seq fun K9 kh9 => ?_
    refine f_region ?_
    refine f_stepP rfl rfl rfl (o_move rfl) ?_
    refine f_stepP rfl rfl rfl (o_move rfl) ?_
    refine f_step rfl rfl rfl (o_call Try.call21 rfl (fun w_ hp_ => SameDists_spec AA AB DA DA cA cB w_ (seen_ro (hoA.seen hp_)) (seen_ro (hoB.seen hp_)) (by omega)) ?_)
    rintro _ _ ⟨rfl, rfl⟩
    rw [decide_eq_true rfl]
    dsimp only [List.cons_append, List.nil_append]
    refine f_stepP rfl rfl rfl (o_not rfl) ?_
    refine f_stepP rfl rfl rfl (o_move rfl) ?_
    refine f_stepPY rfl rfl rfl rfl rfl (o_move rfl) ?_
    refine f_stepPY rfl rfl rfl rfl rfl (o_move rfl) ?_
    refine f_stepPY rfl rfl rfl rfl rfl (o_neq rfl rfl) ?_
    refine f_stepP rfl rfl rfl (o_pickF rfl rfl) ?_
    refine f_done ?_
    refine f_tn (kh9 _ _ ?_)
    clear kh9
    refine f_condN rfl (by simp) ?_
    refine f_skip ?_
    refine f_tn (kh8 _ _ ?_)
    clear kh8
    refine f_seq fun K10 kh10 => ?_
    refine f_region ?_
    refine f_stepP rfl rfl rfl (o_loadA (vs := [_, _]) Try.isAgg24 Try.sizeOf24 rfl rfl ⟨(rdA rfl), (rdA rfl), trivial⟩) ?_
    refine f_stepP rfl rfl rfl (o_move rfl) ?_
    refine f_step rfl rfl rfl (o_call Try.call22 rfl (fun w_ hp_ => To_spec N (some ⟨bg, 0, none⟩) l cg t w_ (roOwn (b := bg) hp_ (fun j v hj => app_get hj)) hl hN hok) ?_)
    rintro _ _ ⟨vX, mX, DX, rfl, rfl, hoX, hX1, hX0⟩
    obtain ⟨AX, cX, rfl, hcX⟩ := hoX.val
    dsimp only [List.cons_append, List.nil_append]
    refine f_stepP rfl rfl rfl (o_move rfl) ?_
    refine f_stepP rfl rfl rfl (o_extract rfl rfl) ?_
    refine f_stepP rfl rfl rfl (o_extract rfl rfl) ?_
    refine f_stepP rfl rfl rfl (o_assign rfl) ?_
    refine f_stepP rfl rfl rfl (o_assign rfl) ?_
    refine f_done ?_
    refine f_tn (kh10 _ _ ?_)
    clear kh10
    refine f_seq fun K11 kh11 => ?_
    refine f_region ?_
    refine f_stepP rfl rfl rfl (o_loadA (vs := [_, _]) Try.isAgg24 Try.sizeOf24 rfl rfl ⟨(rdA rfl), (rdA rfl), trivial⟩) ?_
    refine f_stepP rfl rfl rfl (o_move rfl) ?_
    refine f_step rfl rfl rfl (o_call Try.call23 rfl (fun w_ hp_ => RTo_spec N A l cap t w_ (hr.up0 hp_) hl hN hok) ?_)
    rintro _ _ ⟨vY, mY, DY, rfl, rfl, hoY, hY1, hY0⟩
    obtain ⟨AY, cY, rfl, hcY⟩ := hoY.val
    obtain rfl : DX = DY := by
      by_cases hz : nlooked N l [t] = 0
      · exact (hX0 hz).1.unique (hY0 hz)
      · rw [hX1 hz, hY1 hz]
    dsimp only [List.cons_append, List.nil_append]
    refine f_stepP rfl rfl rfl (o_move rfl) ?_
    refine f_stepP rfl rfl rfl (o_extract rfl rfl) ?_
    refine f_stepP rfl rfl rfl (o_extract rfl rfl) ?_
    refine f_stepP rfl rfl rfl (o_assign rfl) ?_
    refine f_stepP rfl rfl rfl (o_assign rfl) ?_
    refine f_done ?_
    refine f_tn (kh11 _ _ ?_)
    clear kh11
    refine f_seq fun K12 kh12 => ?_
    refine f_region ?_
    refine f_stepP rfl rfl rfl (o_loadA (vs := [_, _]) Try.isAgg24 Try.sizeOf24 rfl rfl ⟨(rdA rfl), (rdA rfl), trivial⟩) ?_
    refine f_stepP rfl rfl rfl (o_move rfl) ?_
    refine f_stepP rfl rfl rfl (o_move rfl) ?_
    refine f_step rfl rfl rfl (o_call Try.call19 rfl (fun w_ hp_ => Between_spec N (some ⟨bg, 0, none⟩) l cg s t w_ (roOwn (b := bg) hp_ (fun j v hj => app_get hj)) hl hN hok) ?_)
    rintro _ _ ⟨y, rfl, rfl, hy1, hy0⟩
    dsimp only [List.cons_append, List.nil_append]
    refine f_stepP rfl rfl rfl (o_move rfl) ?_
    refine f_stepP rfl rfl rfl (o_extract rfl rfl) ?_
    refine f_stepP rfl rfl rfl (o_extract rfl rfl) ?_
    refine f_stepP rfl rfl rfl (o_assign rfl) ?_
    refine f_stepP rfl rfl rfl (o_assign rfl) ?_
    refine f_done ?_
    refine f_tn (kh12 _ _ ?_)
    clear kh12
    refine f_seq fun K13 kh13 => ?_
    refine f_region ?_
    refine f_stepP rfl rfl rfl (o_loadA (vs := [_, _]) Try.isAgg24 Try.sizeOf24 rfl rfl ⟨(rdA rfl), (rdA rfl), trivial⟩) ?_
    refine f_stepP rfl rfl rfl (o_move rfl) ?_
    refine f_stepP rfl rfl rfl (o_move rfl) ?_
    refine f_step rfl rfl rfl (o_call Try.call24 rfl (fun w_ hp_ => RBetween_spec N A l cap s t w_ (hr.up0 hp_) hl hN hok) ?_)
    rintro _ _ ⟨z, rfl, rfl, hz1, hz0⟩
    obtain rfl : y = z := by
      by_cases hz : nlooked N l [s, t] = 0
      · exact (hy0 hz).2.unique (hz0 hz)
      · rw [hy1 hz, hz1 hz]
    dsimp only [List.cons_append, List.nil_append]
    refine f_stepP rfl rfl rfl (o_move rfl) ?_
    refine f_stepP rfl rfl rfl (o_extract rfl rfl) ?_
    refine f_stepP rfl rfl rfl (o_extract rfl rfl) ?_
    refine f_stepP rfl rfl rfl (o_assign rfl) ?_
    refine f_stepP rfl rfl rfl (o_assign rfl) ?_
    refine f_done ?_
    refine f_tn (kh13 _ _ ?_)
    clear kh13
    refine f_seq fun K14 kh14 => ?_
    refine f_seq fun K15 kh15 => ?_
    refine f_region ?_
    refine f_stepP rfl rfl rfl (o_move rfl) ?_
    refine f_stepP rfl rfl rfl (o_move rfl) ?_
    refine f_step rfl rfl rfl (o_call Try.call21 rfl (fun w_ hp_ => SameDists_spec AX AY DX DX cX cY w_ (seen_ro (hoX.seen hp_)) (seen_ro (hoY.seen hp_)) (by omega)) ?_)
    rintro _ _ ⟨rfl, rfl⟩
    rw [decide_eq_true rfl]
    dsimp only [List.cons_append, List.nil_append]
    refine f_stepP rfl rfl rfl (o_not rfl) ?_
    refine f_stepP rfl rfl rfl (o_move rfl) ?_
    refine f_stepPY rfl rfl rfl rfl rfl (o_move rfl) ?_
    refine f_stepPY rfl rfl rfl rfl rfl (o_move rfl) ?_
    refine f_stepPY rfl rfl rfl rfl rfl (o_neq rfl rfl) ?_
    refine f_stepP rfl rfl rfl (o_pickF rfl rfl) ?_
    refine f_stepP rfl rfl rfl (o_move rfl) ?_
    refine f_falseL 81 rfl (by simp) ?_
    refine f_stepPY rfl rfl rfl rfl rfl (o_move rfl) ?_
    refine f_stepPY rfl rfl rfl rfl rfl (o_move rfl) ?_
    refine f_stepPY rfl rfl rfl rfl rfl (o_neq rfl rfl) ?_
    refine f_stepP rfl rfl rfl (o_pickF rfl rfl) ?_
    refine f_stepP rfl rfl rfl (o_move rfl) ?_
    refine f_falseL 86 rfl (by simp) ?_
    refine f_stepPY rfl rfl rfl rfl rfl (o_move rfl) ?_
    refine f_stepPY rfl rfl rfl rfl rfl (o_move rfl) ?_
    refine f_stepPY rfl rfl rfl rfl rfl (o_neq rfl rfl) ?_
    refine f_stepP rfl rfl rfl (o_pickF rfl rfl) ?_
    refine f_done ?_
    refine f_tn (kh15 _ _ ?_)
    clear kh15
    refine f_condN rfl (by simp) ?_
    refine f_skip ?_
    refine f_tn (kh14 _ _ ?_)
    clear kh14
    refine f_seq fun K16 kh16 => ?_
    refine f_region ?_
    refine f_stepP rfl rfl rfl (o_move rfl) ?_
    refine f_step rfl rfl rfl (o_callM [mA] _ Try.call25 rfl (Sub.pick Sub.refl) (fun w_ hp_ => SpoilDists_spec AA DA.length cA (u64s DA) mA 3 w_ hoA hp_.owns) ?_)
    rintro _ _ ⟨rfl, rfl⟩
    dsimp only [List.cons_append, List.nil_append]
    refine f_done ?_
    refine f_tn (kh16 _ _ ?_)
    clear kh16
    refine f_seq fun K17 kh17 => ?_
    refine f_region ?_
    refine f_stepP rfl rfl rfl (o_move rfl) ?_
    refine f_step rfl rfl rfl (o_callM [mX] _ Try.call25 rfl (Sub.pick Sub.refl) (fun w_ hp_ => SpoilDists_spec AX DX.length cX (u64s DX) mX 4 w_ hoX hp_.owns) ?_)
    rintro _ _ ⟨rfl, rfl⟩
    dsimp only [List.cons_append, List.nil_append]
    refine f_done ?_
    refine f_tn (kh17 _ _ ?_)
    clear kh17
    refine f_seq fun K18 kh18 => ?_
    refine f_region ?_
    refine f_stepP rfl rfl rfl (o_loadA (vs := [_, _]) Try.isAgg24 Try.sizeOf24 rfl rfl ⟨(rdA rfl), (rdA rfl), trivial⟩) ?_
    refine f_stepP rfl rfl rfl (o_loadA (vs := [_, _]) Try.isAgg24 Try.sizeOf24 rfl rfl ⟨(rdA rfl), (rdA rfl), trivial⟩) ?_
    refine f_step rfl rfl rfl (o_call Try.call16 rfl (fun w_ hp_ => KeptGraph_spec N bg cg A l cap rg w_ (roOwn (b := bg) hp_ (fun j v hj => hj)) (hr.up0 hp_) hg1 hg2) ?_)
    rintro _ _ ⟨rfl, rfl⟩
    dsimp only [List.cons_append, List.nil_append]
    refine f_stepP rfl rfl rfl (o_move rfl) ?_
    refine f_stepY rfl rfl rfl rfl rfl (o_call Try.call11 rfl (fun w_ hp_ => works_spec w_) ?_)
    rintro _ _ ⟨rfl, rfl⟩
    dsimp only [List.cons_append, List.nil_append]
    refine f_stepP rfl rfl rfl (o_pickT rfl rfl) ?_
    refine f_stepP rfl rfl rfl (o_assign rfl) ?_
    refine f_done ?_
    refine f_tn (kh18 _ _ ?_)
    clear kh18
    refine f_ret ?_
    exact f_fin1 [] Try.results7 rfl Sub.nil ⟨rfl, rfl⟩

set_option maxRecDepth 100000 in
set_option maxHeartbeats 4000000 in
theorem NearWalks_spec (N : Int) (A : Option Addr) (l : List Arc) (cap : Nat) (s t : Int) (w : World) (hr : Ro (Fr w []) w A (l.flatMap arcCs)) (hl : l.length ≤ 9223372036854775807) (hN : I64 N) (hok : ∀ x ∈ l, ArcOk x) (hz : l.length * 24 ≤ 140737488351232) :
    Meets Try.prog 3 [.agg #[.int .i64 N, .slice A l.length cap], .int .i64 s, .int .i64 t] w [] (fun u m => u = .bool true ∧ m = []) := by
  refine f_enter Try.func3 rfl Try.ntmps3 rfl Owns.nil ?_
  refine f_seq fun K1 kh1 => ?_
  refine f_region ?_
  refine f_step rfl rfl rfl (o_box rfl rfl fun b3 => ?_)
  refine f_stepP rfl rfl rfl (o_assign rfl) ?_
  refine f_done ?_
  refine f_tn (kh1 _ _ ?_)
  clear kh1
  refine f_seq fun K2 kh2 => ?_
  refine f_seq fun K3 kh3 => ?_
  refine f_region ?_
  refine f_stepP rfl rfl rfl (o_loadA (vs := [_, _]) Try.isAgg24 Try.sizeOf24 rfl rfl ⟨(rdA rfl), (rdA rfl), trivial⟩) ?_
  refine f_step rfl rfl rfl (o_call Try.call10 rfl (fun w_ hp_ => large_spec N A l.length cap w_) ?_)
  rintro _ _ ⟨rfl, rfl⟩
  dsimp only [List.cons_append, List.nil_append]
  refine f_done ?_
  refine f_tn (kh3 _ _ ?_)
  clear kh3
  refine f_cond rfl (fun c12 => ?_) (fun c12 => ?_)
  · skip
    refine f_seq fun K4 kh4 => ?_
    refine f_region ?_
    refine f_step rfl rfl rfl (o_call Try.call11 rfl (fun w_ hp_ => works_spec w_) ?_)
    rintro _ _ ⟨rfl, rfl⟩
    dsimp only [List.cons_append, List.nil_append]
    refine f_stepP rfl rfl rfl (o_assign rfl) ?_
    refine f_done ?_
    refine f_tn (kh4 _ _ ?_)
    clear kh4
    refine f_ret ?_
    refine f_tr ?_
    exact f_fin1 [] Try.results3 rfl Sub.nil ⟨rfl, rfl⟩
  · skip
    refine f_skip ?_
    refine f_tn (kh2 _ _ ?_)
    clear kh2
    refine f_seq fun K5 kh5 => ?_
    refine f_region ?_
    refine f_stepP rfl rfl rfl (o_loadA (vs := [_, _]) Try.isAgg24 Try.sizeOf24 rfl rfl ⟨(rdA rfl), (rdA rfl), trivial⟩) ?_
    refine f_step rfl rfl rfl (o_call Try.call12 rfl (fun w_ hp_ => LendGraph_spec N A l cap w_ (hr.up0 hp_) hz) ?_)
    rintro _ _ ⟨bg, cg, rg, rfl, rfl, hg1, hg2⟩
    dsimp only [List.cons_append, List.nil_append]
    refine f_step rfl rfl rfl (o_alloc Try.zeroValue24 rfl fun b7 => ?_)
    refine f_step0 rfl rfl (o_storeA Try.sizeOf24 rfl rfl rfl rfl (by first | exact Nat.le_of_ble_eq_true rfl | (simp; done) | (simp; omega)) [.int .i64 N, .slice (some ⟨bg, 0, none⟩) l.length cg] rfl ?_)
    refine f_done ?_
    refine f_tn (kh5 _ _ ?_)
    clear kh5
    refine f_seq fun K6 kh6 => ?_
    refine f_region ?_
    refine f_stepP rfl rfl rfl (o_loadA (vs := [_, _]) Try.isAgg24 Try.sizeOf24 rfl rfl ⟨(rdA rfl), (rdA rfl), trivial⟩) ?_
    refine f_stepP rfl rfl rfl (o_move rfl) ?_
    refine f_stepP rfl rfl rfl (o_move rfl) ?_
    refine f_step rfl rfl rfl (o_call Try.call13 rfl (fun w_ hp_ => Walk_spec N (some ⟨bg, 0, none⟩) l cg s t w_ (roOwn (b := bg) hp_ (fun j v hj => app_get hj)) hl hN hok) ?_)
    rintro _ _ ⟨v8, m8, W, x, rfl, rfl, hoW, hx1, hx0⟩
    obtain ⟨A8, c8, rfl, hc8⟩ := hoW.val
    dsimp only [List.cons_append, List.nil_append]
    refine f_stepP rfl rfl rfl (o_move rfl) ?_
    refine f_stepP rfl rfl rfl (o_extract rfl rfl) ?_
    refine f_stepP rfl rfl rfl (o_extract rfl rfl) ?_
    refine f_stepP rfl rfl rfl (o_extract rfl rfl) ?_
    refine f_stepP rfl rfl rfl (o_assign rfl) ?_
    refine f_stepP rfl rfl rfl (o_assign rfl) ?_
    refine f_stepP rfl rfl rfl (o_assign rfl) ?_
    refine f_done ?_
    refine f_tn (kh6 _ _ ?_)
    clear kh6
    refine f_seq fun K7 kh7 => ?_
    refine f_seq fun K8 kh8 => ?_
    refine f_region ?_
    refine f_stepP rfl rfl rfl (o_loadA (vs := [_, _]) Try.isAgg24 Try.sizeOf24 rfl rfl ⟨(rdA rfl), (rdA rfl), trivial⟩) ?_
    refine f_stepP rfl rfl rfl (o_move rfl) ?_
    refine f_stepP rfl rfl rfl (o_move rfl) ?_
    refine f_stepP rfl rfl rfl (o_move rfl) ?_
    refine f_stepP rfl rfl rfl (o_move rfl) ?_
    refine f_stepP rfl rfl rfl (o_move rfl) ?_
    refine f_step rfl rfl rfl (o_call Try.call14 rfl (fun w_ hp_ => Told_spec N A l cap s t A8 W c8 x w_ (hr.up0 hp_) hl hN hok (seen_ro (hoW.seen hp_)) hx1 hx0) ?_)
    rintro _ _ ⟨rfl, rfl⟩
    dsimp only [List.cons_append, List.nil_append]
    refine f_stepP rfl rfl rfl (o_not rfl) ?_
    refine f_done ?_
    refine f_tn (kh8 _ _ ?_)
    clear kh8
    refine f_condF rfl ?_
    refine f_skip ?_
    refine f_tn (kh7 _ _ ?_)
    clear kh7
    refine f_seq fun K9 kh9 => ?_
    refine f_region ?_
    refine f_stepP rfl rfl rfl (o_move rfl) ?_
    refine f_step rfl rfl rfl (o_callM [m8] _ Try.call15 rfl (Sub.pick Sub.refl) (fun w_ hp_ => SpoilInts_spec A8 W.length c8 (ints (natsI W)) m8 (-7) w_ hoW hp_.owns) ?_)
    rintro _ _ ⟨rfl, rfl⟩
    dsimp only [List.cons_append, List.nil_append]
    refine f_done ?_
    refine f_tn (kh9 _ _ ?_)
    clear kh9
    refine f_seq fun K10 kh10 => ?_
    refine f_region ?_
    refine f_stepP rfl rfl rfl (o_loadA (vs := [_, _]) Try.isAgg24 Try.sizeOf24 rfl rfl ⟨(rdA rfl), (rdA rfl), trivial⟩) ?_
    refine f_stepP rfl rfl rfl (o_loadA (vs := [_, _]) Try.isAgg24 Try.sizeOf24 rfl rfl ⟨(rdA rfl), (rdA rfl), trivial⟩) ?_
    refine f_step rfl rfl rfl (o_call Try.call16 rfl (fun w_ hp_ => KeptGraph_spec N bg cg A l cap rg w_ (roOwn (b := bg) hp_ (fun j v hj => hj)) (hr.up0 hp_) hg1 hg2) ?_)
    rintro _ _ ⟨rfl, rfl⟩
    dsimp only [List.cons_append, List.nil_append]
    refine f_stepP rfl rfl rfl (o_move rfl) ?_
    refine f_stepY rfl rfl rfl rfl rfl (o_call Try.call11 rfl (fun w_ hp_ => works_spec w_) ?_)
    rintro _ _ ⟨rfl, rfl⟩
    dsimp only [List.cons_append, List.nil_append]
    refine f_stepP rfl rfl rfl (o_pickT rfl rfl) ?_
    refine f_stepP rfl rfl rfl (o_assign rfl) ?_
    refine f_done ?_
    refine f_tn (kh10 _ _ ?_)
    clear kh10
    refine f_ret ?_
    exact f_fin1 [] Try.results3 rfl Sub.nil ⟨rfl, rfl⟩

end Go.Proofs.Ytegkdbicomedjaa
