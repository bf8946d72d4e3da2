/- flyoverref04: the table that is gone over. -/
import Derived.Test.YtpooabplhgdfmaaFDrops4
import Derived.Test.YtpooabplhgdfmaaFLeast4
namespace Go.Proofs.Ytpooabplhgdfmaa
open Go Go.RowKit Fly
set_option linter.unusedVariables false
set_option linter.unusedSimpArgs false


abbrev rsegs (bG bt bk N : Nat) (T : List (Option Int)) (ks : List Int) : List Seg := [[(bG, blk [.slice (some ⟨bt, 0, none⟩) N N, .slice (some ⟨bk, 0, none⟩) N N] 66)], [(bt, blk ((thereOf T).map .bool) 4)], [(bk, blk (u64s ks) 29)]]
structure RAt (T : List (Option Int)) (ks : List Int) : Prop where
  len : ks.length = T.length
  keys : ∀ (k : Nat) (x : Int), T[k]? = some (some x) → ks[k]? = some x
  max : T.length ≤ 16384
/-- The document's heap in memory. -/
def RRep (T : List (Option Int)) (bG : Nat) (gm : Seg) : Prop := ∃ bt bk ks, gm.Perm (rsegs bG bt bk T.length T ks).flatten ∧ RAt T ks
theorem RRep_mk {T : List (Option Int)} {bG bt bk N : Nat} {ks : List Int} (hN : N = T.length) (h : RAt T ks) : RRep T bG (rsegs bG bt bk N T ks).flatten := by
  subst hN; exact ⟨bt, bk, ks, List.Perm.refl _, h⟩
theorem RAt.init (n : Nat) (hn : n ≤ 16384) : RAt (List.replicate n none) (List.replicate n 0) :=
  ⟨by simp, fun k x h => by rw [List.getElem?_replicate] at h; split at h <;> simp at h, by simpa using hn⟩
theorem RAt.put {T : List (Option Int)} {ks : List Int} (h : RAt T ks) (k : Nat) (x : Int) : RAt (T.set k (some x)) (ks.set k x) :=
  ⟨by simp [h.len], fun j y hj => by
    rw [List.getElem?_set] at hj ⊢
    split at hj
    · rename_i e; subst e
      split at hj
      · rename_i hl; rw [if_pos rfl, if_pos (by rw [h.len]; exact hl)]; simpa using hj
      · simp at hj
    · rename_i e; rw [if_neg e]; exact h.keys j y hj, by simpa using h.max⟩
theorem RAt.cut {T : List (Option Int)} {ks : List Int} (h : RAt T ks) (k : Nat) : RAt (T.set k none) ks :=
  ⟨by simp [h.len], fun j y hj => h.keys j y (set_none hj), by simpa using h.max⟩
theorem there_some {T : List (Option Int)} {k : Nat} (hk : k < T.length) : ((thereOf T).map Value.bool)[k]? = some (.bool (T[k]).isSome) := by simp [thereOf, hk]
theorem isSome_at {T : List (Option Int)} {k : Nat} {hk : k < T.length} (h : (T[k]).isSome = true) : ∃ x, T[k]? = some (some x) := by
  obtain ⟨x, hx⟩ := Option.isSome_iff_exists.1 h
  exact ⟨x, by rw [List.getElem?_eq_getElem hk, hx]⟩
theorem isNone_at {T : List (Option Int)} {k : Nat} {hk : k < T.length} (h : (T[k]).isSome = false) : T[k]? = some none := by
  rw [List.getElem?_eq_getElem hk]; cases e : T[k] with
  | none => rfl
  | some x => rw [e] at h; cases h
theorem thereOf_set (T : List (Option Int)) (k : Nat) (o : Option Int) : thereOf (T.set k o) = (thereOf T).set k o.isSome := by simp [thereOf, List.map_set]
/-! ### the top, as far as the table has been gone over -/
theorem take_get {T : List (Option Int)} {i j : Nat} {y : Int} (h : (T.take i)[j]? = some (some y)) : j < i ∧ T[j]? = some (some y) := by
  rw [List.getElem?_take] at h
  split at h
  · exact ⟨by assumption, h⟩
  · cases h
theorem top_start (T : List (Option Int)) : topR (T.take 0) = none := by rw [List.take_zero]; rfl
theorem top_skip {T : List (Option Int)} {i : Nat} (hi : T[i]? = some none) : topR (T.take (i + 1)) = topR (T.take i) := by
  have hl : i < T.length := (List.getElem?_eq_some_iff.1 hi).1
  have G : ∀ (j : Nat) (y : Int), (T.take (i + 1))[j]? = some (some y) → (T.take i)[j]? = some (some y) := fun j y h => by
    obtain ⟨a, b⟩ := take_get h
    by_cases e : j = i
    · subst e; rw [hi] at b; simp at b
    · rw [List.getElem?_take, if_pos (by omega)]; exact b
  have G' : ∀ (j : Nat) (y : Int), (T.take i)[j]? = some (some y) → (T.take (i + 1))[j]? = some (some y) := fun j y h => by
    obtain ⟨a, b⟩ := take_get h
    rw [List.getElem?_take, if_pos (by omega)]; exact b
  cases e : topR (T.take i) with
  | none =>
    cases e' : topR (T.take (i + 1)) with
    | none => rfl
    | some p =>
      obtain ⟨k, x⟩ := p
      have h0 := topFrom_none e
      have := G _ _ (topR_some e').1
      unfold tcount at h0
      rw [List.countP_eq_zero] at h0
      have := h0 _ (List.mem_of_getElem? this)
      simp at this
  | some p =>
    obtain ⟨k, x⟩ := p
    have h := topR_some e
    exact IsTop.topR ⟨G' _ _ h.1, fun j y hj => h.2 j y (G j y hj)⟩
theorem top_first {T : List (Option Int)} {i : Nat} {x : Int} (hi : T[i]? = some (some x)) (h : topR (T.take i) = none) : topR (T.take (i + 1)) = some (i, x) := by
  refine IsTop.topR ⟨by rw [List.getElem?_take, if_pos (by omega)]; exact hi, fun j y hj => ?_⟩
  obtain ⟨a, b⟩ := take_get hj
  by_cases e : j = i
  · subst e; rw [hi] at b; cases b; exact ele_refl _
  · have h0 := topFrom_none h
    unfold tcount at h0
    rw [List.countP_eq_zero] at h0
    have := h0 _ (List.mem_of_getElem? (show (T.take i)[j]? = some (some y) by rw [List.getElem?_take, if_pos (by omega)]; exact b))
    simp at this
theorem top_less {T : List (Option Int)} {i q : Nat} {x y : Int} (hi : T[i]? = some (some x)) (h : topR (T.take i) = some (q, y)) (hlt : x < y) : topR (T.take (i + 1)) = some (i, x) := by
  have hq := topR_some h
  refine IsTop.topR ⟨by rw [List.getElem?_take, if_pos (by omega)]; exact hi, fun j z hj => ?_⟩
  obtain ⟨a, b⟩ := take_get hj
  by_cases e : j = i
  · subst e; rw [hi] at b; cases b; exact ele_refl _
  · refine ele_trans ?_ (hq.2 j z (by rw [List.getElem?_take, if_pos (by omega)]; exact b))
    unfold ele elt; dsimp only; omega
theorem top_more {T : List (Option Int)} {i q : Nat} {x y : Int} (hi : T[i]? = some (some x)) (h : topR (T.take i) = some (q, y)) (hlt : ¬ x < y) : topR (T.take (i + 1)) = some (q, y) := by
  have hq := topR_some h
  have hqi := (take_get hq.1).1
  refine IsTop.topR ⟨by rw [List.getElem?_take, if_pos (by omega)]; exact (take_get hq.1).2, fun j z hj => ?_⟩
  obtain ⟨a, b⟩ := take_get hj
  by_cases e : j = i
  · subst e; rw [hi] at b; cases b; unfold ele elt; dsimp only; omega
  · exact hq.2 j z (by rw [List.getElem?_take, if_pos (by omega)]; exact b)
theorem topA_bad {T : List (Option Int)} (h : ¬ (topA T).2.2 = 0) : popT T = T := by
  cases e : topR T with
  | none => exact popT_none e
  | some p => obtain ⟨k, x⟩ := p; rw [topA_some e] at h; exact absurd rfl h
/-- What New answers. -/
def RNewΦ (n : Int) (u : Value) (own : List Seg) : Prop :=
  if n < 0 ∨ 16384 < n then u = .tuple #[.pointer none, .int .i64 1] ∧ own = [] else ∃ bG gm, u = .tuple #[.pointer (some ⟨bG, 0, none⟩), .int .i64 0] ∧ own = [gm] ∧ RRep (List.replicate n.toNat none) bG gm

set_option maxRecDepth 100000 in
set_option maxHeartbeats 4000000 in
theorem none_spec (T : List (Option Int)) (bG : Nat) (gm : Seg) (id : Int) (w : World) (hG : RRep T bG gm) (hw : Owns w [gm]) : Meets Try.prog 33 [.pointer (some ⟨bG, 0, none⟩), .int .i64 id] w [gm] (fun u own' => u = .bool (decide (¬ (0 ≤ id ∧ id < T.length))) ∧ own' = [gm]) := by
  refine f_enter Try.func33 rfl Try.ntmps33 rfl hw ?_
  obtain ⟨bt, bk, ks, hm', hA⟩ := hG
  refine f_subC (Sub.permF hm') ?_
  unfold rsegs
  have hmx := hA.max
  have hkl := hA.len
  have htl := thereOf_len T
  refine f_seq fun K1 kh1 => ?_
  refine f_region ?_
  refine f_stepP rfl rfl rfl (o_assign rfl) ?_
  refine f_done ?_
  refine f_tn (kh1 _ _ ?_)
  clear kh1
  refine f_seq fun K2 kh2 => ?_
  refine f_region ?_
  refine f_stepP rfl rfl rfl (o_move rfl) ?_
  refine f_stepP rfl rfl rfl (o_lss rfl rfl) ?_
  refine f_stepP rfl rfl rfl (o_move rfl) ?_
  refine f_splitL 7 rfl (fun g7 => ?_) (fun g7 => ?_)
  · skip
    refine f_stepN rfl rfl rfl rfl rfl rfl ?_
    refine f_stepN rfl rfl rfl rfl rfl rfl ?_
    refine f_stepN rfl rfl rfl rfl rfl rfl ?_
    refine f_stepN rfl rfl rfl rfl rfl rfl ?_
    refine f_stepN rfl rfl rfl rfl rfl rfl ?_
    refine f_stepN rfl rfl rfl rfl rfl rfl ?_
    refine f_stepN rfl rfl rfl rfl rfl rfl ?_
    refine f_stepP rfl rfl rfl (o_pickT rfl rfl) ?_
    refine f_stepP rfl rfl rfl (o_assign rfl) ?_
    refine f_done ?_
    refine f_tn (kh2 _ _ ?_)
    clear kh2
    refine f_ret ?_
    exact f_fin1 [gm] Try.results33 rfl (Sub.transF (b := (rsegs bG bt bk T.length T ks)) (by unfold rsegs; repeat (first | exact Sub.nil | refine Sub.pick ?_ | refine Sub.castO rfl ?_)) ⟨[], by simpa using hm'.symm⟩) ⟨by rw [decide_eq_true (by omega)], rfl⟩
  · skip
    refine f_stepPY rfl rfl rfl rfl rfl (o_move rfl) ?_
    refine f_stepPY rfl rfl rfl rfl rfl (o_move rfl) ?_
    refine f_stepPY rfl rfl rfl rfl rfl (o_nil rfl) ?_
    refine f_stepPY rfl rfl rfl rfl rfl (o_field fa66_0 rfl) ?_
    refine f_stepPY rfl rfl rfl rfl rfl (o_load Try.isAgg30 rfl (rdA rfl)) ?_
    refine f_stepPY rfl rfl rfl rfl rfl (o_len sl30 rfl) ?_
    refine f_stepPY rfl rfl rfl rfl rfl (o_geq rfl rfl) ?_
    refine f_stepP rfl rfl rfl (o_pickF rfl rfl) ?_
    refine f_stepP rfl rfl rfl (o_assign rfl) ?_
    refine f_done ?_
    refine f_tn (kh2 _ _ ?_)
    clear kh2
    refine f_ret ?_
    exact f_fin1 [gm] Try.results33 rfl (Sub.transF (b := (rsegs bG bt bk T.length T ks)) (by unfold rsegs; repeat (first | exact Sub.nil | refine Sub.pick ?_ | refine Sub.castO rfl ?_)) ⟨[], by simpa using hm'.symm⟩) ⟨by congr 1; exact decide_eq_decide.2 (by omega), rfl⟩

set_option maxRecDepth 100000 in
set_option maxHeartbeats 4000000 in
theorem RNew_spec (n : Int) (w : World) : Meets Try.prog 17 [.int .i64 n] w [] (RNewΦ n) := by
  refine f_enter Try.func17 rfl Try.ntmps17 rfl Owns.nil ?_
  refine f_seq fun K1 kh1 => ?_
  refine f_region ?_
  refine f_stepP rfl rfl rfl (o_assign rfl) ?_
  refine f_stepP rfl rfl rfl (o_assign rfl) ?_
  refine f_done ?_
  refine f_tn (kh1 _ _ ?_)
  clear kh1
  refine f_seq fun K2 kh2 => ?_
  refine f_seq fun K3 kh3 => ?_
  refine f_region ?_
  refine f_stepP rfl rfl rfl (o_move rfl) ?_
  refine f_stepP rfl rfl rfl (o_lss rfl rfl) ?_
  refine f_stepP rfl rfl rfl (o_move rfl) ?_
  refine f_splitL 6 rfl (fun g6 => ?_) (fun g6 => ?_)
  · skip
    refine f_stepN rfl rfl rfl rfl rfl rfl ?_
    refine f_stepN rfl rfl rfl rfl rfl rfl ?_
    refine f_stepP rfl rfl rfl (o_pickT rfl rfl) ?_
    refine f_done ?_
    refine f_tn (kh3 _ _ ?_)
    clear kh3
    refine f_condT rfl ?_
    refine f_seq fun K4 kh4 => ?_
    refine f_region ?_
    refine f_stepP rfl rfl rfl (o_assign rfl) ?_
    refine f_stepP rfl rfl rfl (o_assign rfl) ?_
    refine f_done ?_
    refine f_tn (kh4 _ _ ?_)
    clear kh4
    refine f_ret ?_
    refine f_tr ?_
    exact f_fin2 [] Try.results17 rfl rfl Sub.nil (by unfold RNewΦ; rw [if_pos (by omega)]; exact ⟨rfl, rfl⟩)
  · skip
    refine f_stepPY rfl rfl rfl rfl rfl (o_move rfl) ?_
    refine f_stepPY rfl rfl rfl rfl rfl (o_gtr rfl rfl) ?_
    refine f_stepP rfl rfl rfl (o_pickF rfl rfl) ?_
    refine f_done ?_
    refine f_tn (kh3 _ _ ?_)
    clear kh3
    refine f_cond rfl (fun c9 => ?_) (fun c9 => ?_)
    · skip
      refine f_seq fun K5 kh5 => ?_
      refine f_region ?_
      refine f_stepP rfl rfl rfl (o_assign rfl) ?_
      refine f_stepP rfl rfl rfl (o_assign rfl) ?_
      refine f_done ?_
      refine f_tn (kh5 _ _ ?_)
      clear kh5
      refine f_ret ?_
      refine f_tr ?_
      exact f_fin2 [] Try.results17 rfl rfl Sub.nil (by unfold RNewΦ; rw [if_pos (by omega)]; exact ⟨rfl, rfl⟩)
    · skip
      obtain ⟨k, rfl⟩ : ∃ k : Nat, n = k := ⟨n.toNat, by omega⟩
      refine f_skip ?_
      refine f_tn (kh2 _ _ ?_)
      clear kh2
      refine f_seq fun K6 kh6 => ?_
      refine f_regionH [] rfl ?_
      refine f_take 0 rfl (by decide +kernel) rfl rfl rfl (by repeat (first | exact Sub.nil | refine Sub.pick ?_ | refine Sub.castO rfl ?_ | refine Sub.skip ?_)) (o_move rfl) ?_
      refine f_take 2 rfl (by decide +kernel) rfl rfl rfl (by repeat (first | exact Sub.nil | refine Sub.pick ?_ | refine Sub.castO rfl ?_ | refine Sub.skip ?_)) (o_move rfl) ?_
      refine f_two 1 3 rfl rfl (by decide +kernel) rfl rfl rfl rfl rfl rfl ?_ ?_
      · skip
        refine (o_make el30 rfl rfl k rfl (by omega) (by omega) ((thereOf (List.replicate k none)).map .bool) (by rw [thereOf_none]; exact bools_rep false k) fun b11 => ⟨(by repeat (first | exact Sub.nil | refine Sub.pick ?_ | refine Sub.castO rfl ?_ | refine Sub.skip ?_)), ?_⟩)
        refine f_only 3 rfl (by decide +kernel) rfl rfl rfl (o_make el22 rfl rfl k rfl (by omega) (by omega) (u64s (List.replicate k 0)) (u64s_rep k 0) fun b13 => ⟨(by repeat (first | exact Sub.nil | refine Sub.pick ?_ | refine Sub.castO rfl ?_ | refine Sub.skip ?_)), ?_⟩)
        refine f_take 4 rfl (by decide +kernel) rfl rfl rfl (by repeat (first | exact Sub.nil | refine Sub.pick ?_ | refine Sub.castO rfl ?_ | refine Sub.skip ?_)) (o_build st66 rfl rfl) ?_
        refine f_only 5 rfl (by decide +kernel) rfl rfl rfl (o_box rfl rfl fun b15 => ⟨(by repeat (first | exact Sub.nil | refine Sub.pick ?_ | refine Sub.castO rfl ?_ | refine Sub.skip ?_)), ?_⟩)
        refine f_only 6 rfl (by decide +kernel) rfl rfl rfl ((o_assign rfl).does ⟨(by repeat (first | exact Sub.nil | refine Sub.pick ?_ | refine Sub.castO rfl ?_ | refine Sub.skip ?_)), ?_⟩)
        refine f_only 7 rfl (by decide +kernel) rfl rfl rfl ((o_assign rfl).does ⟨(by repeat (first | exact Sub.nil | refine Sub.pick ?_ | refine Sub.castO rfl ?_ | refine Sub.skip ?_)), ?_⟩)
        refine f_over (by decide +kernel) ?_
        refine f_tn (kh6 _ _ ?_)
        clear kh6
        refine f_ret ?_
        exact f_fin2 [(rsegs b15 b11 b13 k (List.replicate k none) (List.replicate k 0)).flatten] Try.results17 rfl rfl (Sub.flatF (by unfold rsegs; repeat (first | exact Sub.nil | refine Sub.pick ?_ | refine Sub.castO rfl ?_))) (by unfold RNewΦ; rw [if_neg (by omega)]; exact ⟨b15, _, rfl, rfl, RRep_mk (by simp) (RAt.init k (by omega))⟩)
      · skip
        refine (o_make el22 rfl rfl k rfl (by omega) (by omega) (u64s (List.replicate k 0)) (u64s_rep k 0) fun b13 => ⟨(by repeat (first | exact Sub.nil | refine Sub.pick ?_ | refine Sub.castO rfl ?_ | refine Sub.skip ?_)), ?_⟩)
        refine f_only 1 rfl (by decide +kernel) rfl rfl rfl (o_make el30 rfl rfl k rfl (by omega) (by omega) ((thereOf (List.replicate k none)).map .bool) (by rw [thereOf_none]; exact bools_rep false k) fun b11 => ⟨(by repeat (first | exact Sub.nil | refine Sub.pick ?_ | refine Sub.castO rfl ?_ | refine Sub.skip ?_)), ?_⟩)
        refine f_take 4 rfl (by decide +kernel) rfl rfl rfl (by repeat (first | exact Sub.nil | refine Sub.pick ?_ | refine Sub.castO rfl ?_ | refine Sub.skip ?_)) (o_build st66 rfl rfl) ?_
        refine f_only 5 rfl (by decide +kernel) rfl rfl rfl (o_box rfl rfl fun b15 => ⟨(by repeat (first | exact Sub.nil | refine Sub.pick ?_ | refine Sub.castO rfl ?_ | refine Sub.skip ?_)), ?_⟩)
        refine f_only 6 rfl (by decide +kernel) rfl rfl rfl ((o_assign rfl).does ⟨(by repeat (first | exact Sub.nil | refine Sub.pick ?_ | refine Sub.castO rfl ?_ | refine Sub.skip ?_)), ?_⟩)
        refine f_only 7 rfl (by decide +kernel) rfl rfl rfl ((o_assign rfl).does ⟨(by repeat (first | exact Sub.nil | refine Sub.pick ?_ | refine Sub.castO rfl ?_ | refine Sub.skip ?_)), ?_⟩)
        refine f_over (by decide +kernel) ?_
        refine f_tn (kh6 _ _ ?_)
        clear kh6
        refine f_ret ?_
        exact f_fin2 [(rsegs b15 b11 b13 k (List.replicate k none) (List.replicate k 0)).flatten] Try.results17 rfl rfl (Sub.flatF (by unfold rsegs; repeat (first | exact Sub.nil | refine Sub.pick ?_ | refine Sub.castO rfl ?_))) (by unfold RNewΦ; rw [if_neg (by omega)]; exact ⟨b15, _, rfl, rfl, RRep_mk (by simp) (RAt.init k (by omega))⟩)

set_option maxRecDepth 100000 in
set_option maxHeartbeats 4000000 in
theorem RLower_spec (T : List (Option Int)) (bG : Nat) (gm : Seg) (id key : Int) (w : World) (hG : RRep T bG gm) (hw : Owns w [gm]) : Meets Try.prog 26 [.pointer (some ⟨bG, 0, none⟩), .int .i64 id, .int .u64 key] w [gm] (fun u own' => u = .tuple #[.bool (lowerR T id key).2.1, .int .i64 (lowerR T id key).2.2] ∧ ∃ gm2, own' = [gm2] ∧ RRep (lowerR T id key).1 bG gm2) := by
  refine f_enter Try.func26 rfl Try.ntmps26 rfl hw ?_
  refine f_seq fun K1 kh1 => ?_
  refine f_region ?_
  refine f_stepP rfl rfl rfl (o_assign rfl) ?_
  refine f_stepP rfl rfl rfl (o_assign rfl) ?_
  refine f_done ?_
  refine f_tn (kh1 _ _ ?_)
  clear kh1
  refine f_seq fun K2 kh2 => ?_
  refine f_seq fun K3 kh3 => ?_
  refine f_region ?_
  refine f_stepP rfl rfl rfl (o_move rfl) ?_
  refine f_stepP rfl rfl rfl (o_move rfl) ?_
  refine f_step rfl rfl rfl (o_callM [gm] _ Try.call33 rfl (Sub.pick Sub.refl) (fun w_ hp_ => none_spec T bG gm id w_ hG hp_.owns) ?_)
  rintro _ _ ⟨rfl, rfl⟩
  dsimp only [List.cons_append, List.nil_append]
  refine f_done ?_
  refine f_tn (kh3 _ _ ?_)
  clear kh3
  refine f_cond rfl (fun c10 => ?_) (fun c10 => ?_)
  · skip
    have hout : ¬ (0 ≤ id ∧ id < T.length) := by have h' := c10; simp at h'; omega
    refine f_seq fun K4 kh4 => ?_
    refine f_region ?_
    refine f_stepP rfl rfl rfl (o_assign rfl) ?_
    refine f_stepP rfl rfl rfl (o_assign rfl) ?_
    refine f_done ?_
    refine f_tn (kh4 _ _ ?_)
    clear kh4
    refine f_ret ?_
    refine f_tr ?_
    exact f_fin2 [gm] Try.results26 rfl rfl (by repeat (first | exact Sub.nil | refine Sub.pick ?_ | refine Sub.castO rfl ?_)) ⟨by rw [lower_out hout], gm, rfl, by rw [lower_out hout]; exact hG⟩
  · skip
    have hin : 0 ≤ id ∧ id < T.length := by have h' := c10; simp at h'; omega
    obtain ⟨k, rfl⟩ : ∃ k : Nat, id = k := ⟨id.toNat, by omega⟩
    have hk : k < T.length := by omega
    obtain ⟨bt, bk, ks, hm', hA⟩ := hG
    refine f_subC (Sub.openF hm') ?_
    unfold rsegs
    dsimp only [List.cons_append, List.nil_append]
    have hmx := hA.max
    have hkl := hA.len
    have htl := thereOf_len T
    refine f_skip ?_
    refine f_tn (kh2 _ _ ?_)
    clear kh2
    refine f_seq fun K5 kh5 => ?_
    refine f_seq fun K6 kh6 => ?_
    refine f_region ?_
    refine f_stepP rfl rfl rfl (o_move rfl) ?_
    refine f_stepP rfl rfl rfl (o_nil rfl) ?_
    refine f_stepP rfl rfl rfl (o_field fa66_0 rfl) ?_
    refine f_stepP rfl rfl rfl (o_load Try.isAgg30 rfl (rdA rfl)) ?_
    refine f_stepP rfl rfl rfl (o_move rfl) ?_
    refine f_stepP rfl rfl rfl (o_idx sl30 rfl rfl (k) ⟨by omega, by omega, by first | omega | (simp; done) | (simp; omega)⟩) ?_
    refine f_stepP rfl rfl rfl (o_load Try.isAgg4 rfl (rdA (there_some hk))) ?_
    refine f_stepP rfl rfl rfl (o_move rfl) ?_
    refine f_splitLB 18 rfl (fun g18 => ?_) (fun g18 => ?_)
    · skip
      obtain ⟨x, hx⟩ := isSome_at g18
      have hkx := hA.keys k x hx
      refine f_stepPY rfl rfl rfl rfl rfl (o_move rfl) ?_
      refine f_stepPY rfl rfl rfl rfl rfl (o_nil rfl) ?_
      refine f_stepPY rfl rfl rfl rfl rfl (o_field fa66_1 rfl) ?_
      refine f_stepPY rfl rfl rfl rfl rfl (o_load Try.isAgg22 rfl (rdA rfl)) ?_
      refine f_stepPY rfl rfl rfl rfl rfl (o_move rfl) ?_
      refine f_stepPY rfl rfl rfl rfl rfl (o_idx sl22 rfl rfl (k) ⟨by omega, by omega, by first | omega | (simp; done) | (simp; omega)⟩) ?_
      refine f_stepPY rfl rfl rfl rfl rfl (o_load Try.isAgg29 rfl (rdA (u64s_at hkx))) ?_
      refine f_stepPY rfl rfl rfl rfl rfl (o_move rfl) ?_
      refine f_stepPY rfl rfl rfl rfl rfl (o_leq rfl rfl) ?_
      refine f_stepP rfl rfl rfl (o_pickT rfl rfl) ?_
      refine f_done ?_
      refine f_tn (kh6 _ _ ?_)
      clear kh6
      refine f_cond rfl (fun c28 => ?_) (fun c28 => ?_)
      · skip
        refine f_seq fun K7 kh7 => ?_
        refine f_region ?_
        refine f_stepP rfl rfl rfl (o_assign rfl) ?_
        refine f_stepP rfl rfl rfl (o_assign rfl) ?_
        refine f_done ?_
        refine f_tn (kh7 _ _ ?_)
        clear kh7
        refine f_ret ?_
        refine f_tr ?_
        exact f_fin2 [gm] Try.results26 rfl rfl (Sub.transF (b := (rsegs bG bt bk T.length T ks)) (by unfold rsegs; repeat (first | exact Sub.nil | refine Sub.pick ?_ | refine Sub.castO rfl ?_)) ⟨[], by simpa using hm'.symm⟩) ⟨by rw [lower_no hk hx c28], gm, rfl, by rw [lower_no hk hx c28]; exact ⟨bt, bk, ks, hm', hA⟩⟩
      · skip
        refine f_skip ?_
        refine f_tn (kh5 _ _ ?_)
        clear kh5
        refine f_seq fun K8 kh8 => ?_
        refine f_regionH [[(bG, blk [.slice (some ⟨bt, 0, none⟩) T.length T.length, .slice (some ⟨bk, 0, none⟩) T.length T.length] 66)]] rfl ?_
        refine f_take 0 rfl (by decide +kernel) rfl rfl rfl (by repeat (first | exact Sub.nil | refine Sub.pick ?_ | refine Sub.castO rfl ?_ | refine Sub.skip ?_)) (o_move rfl) ?_
        refine f_take 1 rfl (by decide +kernel) rfl rfl rfl (by repeat (first | exact Sub.nil | refine Sub.pick ?_ | refine Sub.castO rfl ?_ | refine Sub.skip ?_)) (o_nil rfl) ?_
        refine f_take 2 rfl (by decide +kernel) rfl rfl rfl (by repeat (first | exact Sub.nil | refine Sub.pick ?_ | refine Sub.castO rfl ?_ | refine Sub.skip ?_)) (o_field fa66_0 rfl) ?_
        refine f_take 3 rfl (by decide +kernel) rfl rfl rfl (by repeat (first | exact Sub.nil | refine Sub.pick ?_ | refine Sub.castO rfl ?_ | refine Sub.skip ?_)) (o_load Try.isAgg30 rfl (rdA rfl)) ?_
        refine f_take 4 rfl (by decide +kernel) rfl rfl rfl (by repeat (first | exact Sub.nil | refine Sub.pick ?_ | refine Sub.castO rfl ?_ | refine Sub.skip ?_)) (o_move rfl) ?_
        refine f_take 5 rfl (by decide +kernel) rfl rfl rfl (by repeat (first | exact Sub.nil | refine Sub.pick ?_ | refine Sub.castO rfl ?_ | refine Sub.skip ?_)) (o_move rfl) ?_
        refine f_take 6 rfl (by decide +kernel) rfl rfl rfl (by repeat (first | exact Sub.nil | refine Sub.pick ?_ | refine Sub.castO rfl ?_ | refine Sub.skip ?_)) (o_nil rfl) ?_
        refine f_take 7 rfl (by decide +kernel) rfl rfl rfl (by repeat (first | exact Sub.nil | refine Sub.pick ?_ | refine Sub.castO rfl ?_ | refine Sub.skip ?_)) (o_field fa66_1 rfl) ?_
        refine f_take 8 rfl (by decide +kernel) rfl rfl rfl (by repeat (first | exact Sub.nil | refine Sub.pick ?_ | refine Sub.castO rfl ?_ | refine Sub.skip ?_)) (o_load Try.isAgg22 rfl (rdA rfl)) ?_
        refine f_take 9 rfl (by decide +kernel) rfl rfl rfl (by repeat (first | exact Sub.nil | refine Sub.pick ?_ | refine Sub.castO rfl ?_ | refine Sub.skip ?_)) (o_move rfl) ?_
        refine f_take 10 rfl (by decide +kernel) rfl rfl rfl (by repeat (first | exact Sub.nil | refine Sub.pick ?_ | refine Sub.castO rfl ?_ | refine Sub.skip ?_)) (o_move rfl) ?_
        refine f_take 11 rfl (by decide +kernel) rfl rfl rfl (by repeat (first | exact Sub.nil | refine Sub.pick ?_ | refine Sub.castO rfl ?_ | refine Sub.skip ?_)) (o_idx sl30 rfl rfl (k) ⟨by omega, by omega, by first | omega | (simp; done) | (simp; omega)⟩) ?_
        refine f_only0 12 rfl (by decide +kernel) rfl rfl (o_store Try.sizeOf4 rfl rfl rfl rfl (by rw [List.length_map, htl]; omega) ((thereOf (T.set k (some key))).map .bool) (by rw [bools_set, thereOf_set]; rfl) ⟨(by repeat (first | exact Sub.nil | refine Sub.pick ?_ | refine Sub.castO rfl ?_ | refine Sub.skip ?_)), ?_⟩)
        refine f_take 13 rfl (by decide +kernel) rfl rfl rfl (by repeat (first | exact Sub.nil | refine Sub.pick ?_ | refine Sub.castO rfl ?_ | refine Sub.skip ?_)) (o_idx sl22 rfl rfl (k) ⟨by omega, by omega, by first | omega | (simp; done) | (simp; omega)⟩) ?_
        refine f_only0 14 rfl (by decide +kernel) rfl rfl (o_store Try.sizeOf29 rfl rfl rfl rfl (by rw [u64s_length]; omega) (u64s (ks.set k key)) (u64s_set _ _ _) ⟨(by repeat (first | exact Sub.nil | refine Sub.pick ?_ | refine Sub.castO rfl ?_ | refine Sub.skip ?_)), ?_⟩)
        refine f_over (by decide +kernel) ?_
        refine f_tn (kh8 _ _ ?_)
        clear kh8
        refine f_seq fun K9 kh9 => ?_
        refine f_region ?_
        refine f_stepP rfl rfl rfl (o_assign rfl) ?_
        refine f_stepP rfl rfl rfl (o_assign rfl) ?_
        refine f_done ?_
        refine f_tn (kh9 _ _ ?_)
        clear kh9
        refine f_ret ?_
        exact f_fin2 [(rsegs bG bt bk T.length (T.set k (some key)) (ks.set k key)).flatten] Try.results26 rfl rfl (Sub.flatF (by unfold rsegs; repeat (first | exact Sub.nil | refine Sub.pick ?_ | refine Sub.castO rfl ?_))) ⟨by rw [lower_yes hk hx c28], _, rfl, by rw [lower_yes hk hx c28]; exact RRep_mk (by simp) (hA.put k key)⟩
    · skip
      have hx := isNone_at g18
      refine f_stepN rfl rfl rfl rfl rfl rfl ?_
      refine f_stepN rfl rfl rfl rfl rfl rfl ?_
      refine f_stepN rfl rfl rfl rfl rfl rfl ?_
      refine f_stepN rfl rfl rfl rfl rfl rfl ?_
      refine f_stepN rfl rfl rfl rfl rfl rfl ?_
      refine f_stepN rfl rfl rfl rfl rfl rfl ?_
      refine f_stepN rfl rfl rfl rfl rfl rfl ?_
      refine f_stepN rfl rfl rfl rfl rfl rfl ?_
      refine f_stepN rfl rfl rfl rfl rfl rfl ?_
      refine f_stepP rfl rfl rfl (o_pickF rfl rfl) ?_
      refine f_done ?_
      refine f_tn (kh6 _ _ ?_)
      clear kh6
      refine f_condF rfl ?_
      refine f_skip ?_
      refine f_tn (kh5 _ _ ?_)
      clear kh5
      refine f_seq fun K10 kh10 => ?_
      refine f_regionH [[(bG, blk [.slice (some ⟨bt, 0, none⟩) T.length T.length, .slice (some ⟨bk, 0, none⟩) T.length T.length] 66)]] rfl ?_
      refine f_take 0 rfl (by decide +kernel) rfl rfl rfl (by repeat (first | exact Sub.nil | refine Sub.pick ?_ | refine Sub.castO rfl ?_ | refine Sub.skip ?_)) (o_move rfl) ?_
      refine f_take 1 rfl (by decide +kernel) rfl rfl rfl (by repeat (first | exact Sub.nil | refine Sub.pick ?_ | refine Sub.castO rfl ?_ | refine Sub.skip ?_)) (o_nil rfl) ?_
      refine f_take 2 rfl (by decide +kernel) rfl rfl rfl (by repeat (first | exact Sub.nil | refine Sub.pick ?_ | refine Sub.castO rfl ?_ | refine Sub.skip ?_)) (o_field fa66_0 rfl) ?_
      refine f_take 3 rfl (by decide +kernel) rfl rfl rfl (by repeat (first | exact Sub.nil | refine Sub.pick ?_ | refine Sub.castO rfl ?_ | refine Sub.skip ?_)) (o_load Try.isAgg30 rfl (rdA rfl)) ?_
      refine f_take 4 rfl (by decide +kernel) rfl rfl rfl (by repeat (first | exact Sub.nil | refine Sub.pick ?_ | refine Sub.castO rfl ?_ | refine Sub.skip ?_)) (o_move rfl) ?_
      refine f_take 5 rfl (by decide +kernel) rfl rfl rfl (by repeat (first | exact Sub.nil | refine Sub.pick ?_ | refine Sub.castO rfl ?_ | refine Sub.skip ?_)) (o_move rfl) ?_
      refine f_take 6 rfl (by decide +kernel) rfl rfl rfl (by repeat (first | exact Sub.nil | refine Sub.pick ?_ | refine Sub.castO rfl ?_ | refine Sub.skip ?_)) (o_nil rfl) ?_
      refine f_take 7 rfl (by decide +kernel) rfl rfl rfl (by repeat (first | exact Sub.nil | refine Sub.pick ?_ | refine Sub.castO rfl ?_ | refine Sub.skip ?_)) (o_field fa66_1 rfl) ?_
      refine f_take 8 rfl (by decide +kernel) rfl rfl rfl (by repeat (first | exact Sub.nil | refine Sub.pick ?_ | refine Sub.castO rfl ?_ | refine Sub.skip ?_)) (o_load Try.isAgg22 rfl (rdA rfl)) ?_
      refine f_take 9 rfl (by decide +kernel) rfl rfl rfl (by repeat (first | exact Sub.nil | refine Sub.pick ?_ | refine Sub.castO rfl ?_ | refine Sub.skip ?_)) (o_move rfl) ?_
      refine f_take 10 rfl (by decide +kernel) rfl rfl rfl (by repeat (first | exact Sub.nil | refine Sub.pick ?_ | refine Sub.castO rfl ?_ | refine Sub.skip ?_)) (o_move rfl) ?_
      refine f_take 11 rfl (by decide +kernel) rfl rfl rfl (by repeat (first | exact Sub.nil | refine Sub.pick ?_ | refine Sub.castO rfl ?_ | refine Sub.skip ?_)) (o_idx sl30 rfl rfl (k) ⟨by omega, by omega, by first | omega | (simp; done) | (simp; omega)⟩) ?_
      refine f_only0 12 rfl (by decide +kernel) rfl rfl (o_store Try.sizeOf4 rfl rfl rfl rfl (by rw [List.length_map, htl]; omega) ((thereOf (T.set k (some key))).map .bool) (by rw [bools_set, thereOf_set]; rfl) ⟨(by repeat (first | exact Sub.nil | refine Sub.pick ?_ | refine Sub.castO rfl ?_ | refine Sub.skip ?_)), ?_⟩)
      refine f_take 13 rfl (by decide +kernel) rfl rfl rfl (by repeat (first | exact Sub.nil | refine Sub.pick ?_ | refine Sub.castO rfl ?_ | refine Sub.skip ?_)) (o_idx sl22 rfl rfl (k) ⟨by omega, by omega, by first | omega | (simp; done) | (simp; omega)⟩) ?_
      refine f_only0 14 rfl (by decide +kernel) rfl rfl (o_store Try.sizeOf29 rfl rfl rfl rfl (by rw [u64s_length]; omega) (u64s (ks.set k key)) (u64s_set _ _ _) ⟨(by repeat (first | exact Sub.nil | refine Sub.pick ?_ | refine Sub.castO rfl ?_ | refine Sub.skip ?_)), ?_⟩)
      refine f_over (by decide +kernel) ?_
      refine f_tn (kh10 _ _ ?_)
      clear kh10
      refine f_seq fun K11 kh11 => ?_
      refine f_region ?_
      refine f_stepP rfl rfl rfl (o_assign rfl) ?_
      refine f_stepP rfl rfl rfl (o_assign rfl) ?_
      refine f_done ?_
      refine f_tn (kh11 _ _ ?_)
      clear kh11
      refine f_ret ?_
      exact f_fin2 [(rsegs bG bt bk T.length (T.set k (some key)) (ks.set k key)).flatten] Try.results26 rfl rfl (Sub.flatF (by unfold rsegs; repeat (first | exact Sub.nil | refine Sub.pick ?_ | refine Sub.castO rfl ?_))) ⟨by rw [lower_new hk hx], _, rfl, by rw [lower_new hk hx]; exact RRep_mk (by simp) (hA.put k key)⟩

set_option maxRecDepth 100000 in
set_option maxHeartbeats 4000000 in
theorem RTop_spec (T : List (Option Int)) (bG : Nat) (gm : Seg)  (w : World) (hG : RRep T bG gm) (hw : Owns w [gm]) : Meets Try.prog 28 [.pointer (some ⟨bG, 0, none⟩)] w [gm] (fun u own' => u = .tuple #[.int .i64 (topA T).1, .int .u64 (topA T).2.1, .int .i64 (topA T).2.2] ∧ own' = [gm]) := by
  refine f_enter Try.func28 rfl Try.ntmps28 rfl hw ?_
  obtain ⟨bt, bk, ks, hm', hA⟩ := hG
  refine f_subC (Sub.permF hm') ?_
  unfold rsegs
  have hmx := hA.max
  have hkl := hA.len
  have htl := thereOf_len T
  refine f_seq fun K1 kh1 => ?_
  refine f_region ?_
  refine f_stepP rfl rfl rfl (o_assign rfl) ?_
  refine f_stepP rfl rfl rfl (o_assign rfl) ?_
  refine f_stepP rfl rfl rfl (o_assign rfl) ?_
  refine f_done ?_
  refine f_tn (kh1 _ _ ?_)
  clear kh1
  refine f_seq fun K2 kh2 => ?_
  refine f_region ?_
  refine f_stepP rfl rfl rfl (o_assign rfl) ?_
  refine f_done ?_
  refine f_tn (kh2 _ _ ?_)
  clear kh2
  refine f_seq fun K3 kh3 => ?_
  refine f_seq fun K4 kh4 => ?_
  refine f_region ?_
  refine f_stepP rfl rfl rfl (o_assign rfl) ?_
  refine f_done ?_
  refine f_tn (kh4 _ _ ?_)
  clear kh4
  refine f_block ?_
  refine f_loop (α := Nat × Int) [0] (fun ⟨i, best⟩ => [(6, .int .i64 (i : Int)), (5, .int .i64 best)]) (fun ⟨i, best⟩ => [[(bG, blk [.slice (some ⟨bt, 0, none⟩) T.length T.length, .slice (some ⟨bk, 0, none⟩) T.length T.length] 66)], [(bt, blk ((thereOf T).map .bool) 4)], [(bk, blk (u64s ks) 29)]]) (fun ⟨i, best⟩ => i ≤ T.length ∧ ((best = -1 ∧ topR (T.take i) = none) ∨ ∃ (q : Nat) (x : Int), best = q ∧ topR (T.take i) = some (q, x))) (fun ⟨i, best⟩ => T.length - i) (0, -1) ?_ ?_ ?_ ?_
  · exact (by repeat (first | exact trivial | refine ⟨rfl, ?_⟩))
  · repeat (first | exact Sub.nil | refine Sub.pick ?_ | refine Sub.castO rfl ?_ | refine Sub.skip ?_)
  · exact ⟨Nat.zero_le _, .inl ⟨rfl, top_start T⟩⟩
  · rintro ⟨i, best⟩ ⟨hil, hb⟩
    refine f_seq fun K5 kh5 => ?_
    refine f_seq fun K6 kh6 => ?_
    refine f_region ?_
    refine f_stepP rfl rfl rfl (o_move rfl) ?_
    refine f_stepP rfl rfl rfl (o_move rfl) ?_
    refine f_stepP rfl rfl rfl (o_nil rfl) ?_
    refine f_stepP rfl rfl rfl (o_field fa66_0 rfl) ?_
    refine f_stepP rfl rfl rfl (o_load Try.isAgg30 rfl (rdA rfl)) ?_
    refine f_stepP rfl rfl rfl (o_len sl30 rfl) ?_
    refine f_stepP rfl rfl rfl (o_lss rfl rfl) ?_
    refine f_done ?_
    refine f_tn (kh6 _ _ ?_)
    clear kh6
    refine f_cond rfl (fun c13 => ?_) (fun c13 => ?_)
    · skip
      refine f_skip ?_
      refine f_tn (kh5 _ _ ?_)
      clear kh5
      refine f_seq fun K7 kh7 => ?_
      refine f_block ?_
      refine f_seq fun K8 kh8 => ?_
      refine f_regionS rfl (by decide +kernel) ?_
      refine f_stillP rfl rfl rfl (o_move rfl) ?_
      refine f_stillP rfl rfl rfl (o_nil rfl) ?_
      refine f_stillP rfl rfl rfl (o_field fa66_0 rfl) ?_
      refine f_stillP rfl rfl rfl (o_load Try.isAgg30 rfl (rdA rfl)) ?_
      refine f_stillP rfl rfl rfl (o_move rfl) ?_
      have hk : i < T.length := by omega
      refine f_stillP rfl rfl rfl (o_idx sl30 rfl rfl (i) ⟨by omega, by omega, by first | omega | (simp; done) | (simp; omega)⟩) ?_
      refine f_stillP rfl rfl rfl (o_load Try.isAgg4 rfl (rdA (there_some hk))) ?_
      refine f_stillP rfl rfl rfl (o_move rfl) ?_
      refine f_splitSB 23 rfl (fun g23 => ?_) (fun g23 => ?_)
      · skip
        obtain ⟨x, hx⟩ := isSome_at g23
        have hkx := hA.keys i x hx
        refine f_stillPY rfl rfl rfl rfl rfl (o_move rfl) ?_
        refine f_stillPY rfl rfl rfl rfl rfl (o_lss rfl rfl) ?_
        refine f_stillPY rfl rfl rfl rfl rfl (o_move rfl) ?_
        refine f_splitS 26 rfl (fun g26 => ?_) (fun g26 => ?_)
        · skip
          refine f_stillN rfl rfl rfl rfl rfl rfl ?_
          refine f_stillN rfl rfl rfl rfl rfl rfl ?_
          refine f_stillN rfl rfl rfl rfl rfl rfl ?_
          refine f_stillN rfl rfl rfl rfl rfl rfl ?_
          refine f_stillN rfl rfl rfl rfl rfl rfl ?_
          refine f_stillN rfl rfl rfl rfl rfl rfl ?_
          refine f_stillN rfl rfl rfl rfl rfl rfl ?_
          refine f_stillN rfl rfl rfl rfl rfl rfl ?_
          refine f_stillN rfl rfl rfl rfl rfl rfl ?_
          refine f_stillN rfl rfl rfl rfl rfl rfl ?_
          refine f_stillN rfl rfl rfl rfl rfl rfl ?_
          refine f_stillN rfl rfl rfl rfl rfl rfl ?_
          refine f_stillN rfl rfl rfl rfl rfl rfl ?_
          refine f_stillN rfl rfl rfl rfl rfl rfl ?_
          refine f_stillN rfl rfl rfl rfl rfl rfl ?_
          refine f_stillPY rfl rfl rfl rfl rfl (o_pickT rfl rfl) ?_
          refine f_stillP rfl rfl rfl (o_pickT rfl rfl) ?_
          refine f_stillD ?_
          refine f_tn (kh8 _ _ ?_)
          clear kh8
          refine f_condT rfl ?_
          refine f_region ?_
          refine f_stepP rfl rfl rfl (o_move rfl) ?_
          refine f_stepP rfl rfl rfl (o_assign rfl) ?_
          refine f_done ?_
          refine f_bn ?_
          refine f_tn (kh7 _ _ ?_)
          clear kh7
          refine f_region ?_
          refine f_stepP rfl rfl rfl (o_move rfl) ?_
          refine f_stepP rfl rfl rfl (o_add rfl rfl _ (wrap_i64 (by omega))) ?_
          refine f_stepP rfl rfl rfl (o_assign rfl) ?_
          refine f_done ?_
          refine f_tn (f_again (i + 1, (i : Int)) (by first | omega | (dsimp only; omega) | (simp; omega)) ⟨by omega, .inr ⟨i, x, rfl, top_first hx (by rcases hb with h | ⟨q, y, rfl, h⟩ <;> first | exact h.2 | omega)⟩⟩ ?_ ?_ ?_)
          · exact (by repeat (first | exact trivial | refine ⟨rfl, ?_⟩))
          · exact (by repeat (first | exact trivial | refine ⟨rfl, ?_⟩))
          · repeat (first | exact Sub.nil | refine Sub.pick ?_ | refine Sub.castO rfl ?_ | refine Sub.skip ?_)
        · skip
          obtain ⟨q, y, rfl, hq⟩ : ∃ (q : Nat) (y : Int), best = q ∧ topR (T.take i) = some (q, y) := by rcases hb with h | h <;> first | exact h | omega
          have hky := hA.keys q y (take_get (topR_some hq).1).2
          have hqi := (take_get (topR_some hq).1).1
          refine f_stillPY rfl rfl rfl rfl rfl (o_move rfl) ?_
          refine f_stillPY rfl rfl rfl rfl rfl (o_nil rfl) ?_
          refine f_stillPY rfl rfl rfl rfl rfl (o_field fa66_1 rfl) ?_
          refine f_stillPY rfl rfl rfl rfl rfl (o_load Try.isAgg22 rfl (rdA rfl)) ?_
          refine f_stillPY rfl rfl rfl rfl rfl (o_move rfl) ?_
          refine f_stillPY rfl rfl rfl rfl rfl (o_idx sl22 rfl rfl (i) ⟨by omega, by omega, by first | omega | (simp; done) | (simp; omega)⟩) ?_
          refine f_stillPY rfl rfl rfl rfl rfl (o_load Try.isAgg29 rfl (rdA (u64s_at hkx))) ?_
          refine f_stillPY rfl rfl rfl rfl rfl (o_move rfl) ?_
          refine f_stillPY rfl rfl rfl rfl rfl (o_nil rfl) ?_
          refine f_stillPY rfl rfl rfl rfl rfl (o_field fa66_1 rfl) ?_
          refine f_stillPY rfl rfl rfl rfl rfl (o_load Try.isAgg22 rfl (rdA rfl)) ?_
          refine f_stillPY rfl rfl rfl rfl rfl (o_move rfl) ?_
          refine f_stillPY rfl rfl rfl rfl rfl (o_idx sl22 rfl rfl (q) ⟨by omega, by omega, by first | omega | (simp; done) | (simp; omega)⟩) ?_
          refine f_stillPY rfl rfl rfl rfl rfl (o_load Try.isAgg29 rfl (rdA (u64s_at hky))) ?_
          refine f_stillPY rfl rfl rfl rfl rfl (o_lss rfl rfl) ?_
          refine f_stillPY rfl rfl rfl rfl rfl (o_pickF rfl rfl) ?_
          refine f_stillP rfl rfl rfl (o_pickT rfl rfl) ?_
          refine f_stillD ?_
          refine f_tn (kh8 _ _ ?_)
          clear kh8
          refine f_cond rfl (fun c43 => ?_) (fun c43 => ?_)
          · skip
            refine f_region ?_
            refine f_stepP rfl rfl rfl (o_move rfl) ?_
            refine f_stepP rfl rfl rfl (o_assign rfl) ?_
            refine f_done ?_
            refine f_bn ?_
            refine f_tn (kh7 _ _ ?_)
            clear kh7
            refine f_region ?_
            refine f_stepP rfl rfl rfl (o_move rfl) ?_
            refine f_stepP rfl rfl rfl (o_add rfl rfl _ (wrap_i64 (by omega))) ?_
            refine f_stepP rfl rfl rfl (o_assign rfl) ?_
            refine f_done ?_
            refine f_tn (f_again (i + 1, (i : Int)) (by first | omega | (dsimp only; omega) | (simp; omega)) ⟨by omega, .inr ⟨i, x, rfl, top_less hx hq c43⟩⟩ ?_ ?_ ?_)
            · exact (by repeat (first | exact trivial | refine ⟨rfl, ?_⟩))
            · exact (by repeat (first | exact trivial | refine ⟨rfl, ?_⟩))
            · repeat (first | exact Sub.nil | refine Sub.pick ?_ | refine Sub.castO rfl ?_ | refine Sub.skip ?_)
          · skip
            refine f_skip ?_
            refine f_bn ?_
            refine f_tn (kh7 _ _ ?_)
            clear kh7
            refine f_region ?_
            refine f_stepP rfl rfl rfl (o_move rfl) ?_
            refine f_stepP rfl rfl rfl (o_add rfl rfl _ (wrap_i64 (by omega))) ?_
            refine f_stepP rfl rfl rfl (o_assign rfl) ?_
            refine f_done ?_
            refine f_tn (f_again (i + 1, (q : Int)) (by first | omega | (dsimp only; omega) | (simp; omega)) ⟨by omega, .inr ⟨q, y, rfl, top_more hx hq c43⟩⟩ ?_ ?_ ?_)
            · exact (by repeat (first | exact trivial | refine ⟨rfl, ?_⟩))
            · exact (by repeat (first | exact trivial | refine ⟨rfl, ?_⟩))
            · repeat (first | exact Sub.nil | refine Sub.pick ?_ | refine Sub.castO rfl ?_ | refine Sub.skip ?_)
      · skip
        have hx := isNone_at g23
        refine f_stillN rfl rfl rfl rfl rfl rfl ?_
        refine f_stillN rfl rfl rfl rfl rfl rfl ?_
        refine f_stillN rfl rfl rfl rfl rfl rfl ?_
        refine f_stillU rfl rfl rfl rfl rfl ?_
        refine f_stillU rfl rfl rfl rfl rfl ?_
        refine f_stillU rfl rfl rfl rfl rfl ?_
        refine f_stillU rfl rfl rfl rfl rfl ?_
        refine f_stillU rfl rfl rfl rfl rfl ?_
        refine f_stillU rfl rfl rfl rfl rfl ?_
        refine f_stillU rfl rfl rfl rfl rfl ?_
        refine f_stillU rfl rfl rfl rfl rfl ?_
        refine f_stillU rfl rfl rfl rfl rfl ?_
        refine f_stillU rfl rfl rfl rfl rfl ?_
        refine f_stillU rfl rfl rfl rfl rfl ?_
        refine f_stillU rfl rfl rfl rfl rfl ?_
        refine f_stillU rfl rfl rfl rfl rfl ?_
        refine f_stillU rfl rfl rfl rfl rfl ?_
        refine f_stillU rfl rfl rfl rfl rfl ?_
        refine f_stillN rfl rfl rfl rfl rfl rfl ?_
        refine f_stillP rfl rfl rfl (o_pickF rfl rfl) ?_
        refine f_stillD ?_
        refine f_tn (kh8 _ _ ?_)
        clear kh8
        refine f_condF rfl ?_
        refine f_skip ?_
        refine f_bn ?_
        refine f_tn (kh7 _ _ ?_)
        clear kh7
        refine f_region ?_
        refine f_stepP rfl rfl rfl (o_move rfl) ?_
        refine f_stepP rfl rfl rfl (o_add rfl rfl _ (wrap_i64 (by omega))) ?_
        refine f_stepP rfl rfl rfl (o_assign rfl) ?_
        refine f_done ?_
        refine f_tn (f_again (i + 1, best) (by first | omega | (dsimp only; omega) | (simp; omega)) ⟨by omega, by rw [top_skip hx]; exact hb⟩ ?_ ?_ ?_)
        · exact (by repeat (first | exact trivial | refine ⟨rfl, ?_⟩))
        · exact (by repeat (first | exact trivial | refine ⟨rfl, ?_⟩))
        · repeat (first | exact Sub.nil | refine Sub.pick ?_ | refine Sub.castO rfl ?_ | refine Sub.skip ?_)
    · skip
      refine f_exit ?_
      refine f_te ?_
      clear kh5
      refine f_te ?_
      refine f_be ?_
      refine f_tn (kh3 _ _ ?_)
      clear kh3
      refine f_seq fun K9 kh9 => ?_
      refine f_seq fun K10 kh10 => ?_
      refine f_region ?_
      refine f_stepP rfl rfl rfl (o_move rfl) ?_
      refine f_stepP rfl rfl rfl (o_lss rfl rfl) ?_
      refine f_done ?_
      refine f_tn (kh10 _ _ ?_)
      clear kh10
      refine f_cond rfl (fun c46 => ?_) (fun c46 => ?_)
      · skip
        have hn : topR T = none := by rcases hb with h | ⟨q, y, rfl, h⟩ <;> first | (have := h.2; rwa [List.take_of_length_le (by omega)] at this) | omega
        refine f_seq fun K11 kh11 => ?_
        refine f_region ?_
        refine f_stepP rfl rfl rfl (o_assign rfl) ?_
        refine f_stepP rfl rfl rfl (o_assign rfl) ?_
        refine f_stepP rfl rfl rfl (o_assign rfl) ?_
        refine f_done ?_
        refine f_tn (kh11 _ _ ?_)
        clear kh11
        refine f_ret ?_
        refine f_tr ?_
        exact f_fin3 [gm] Try.results28 rfl rfl rfl (Sub.transF (b := (rsegs bG bt bk T.length T ks)) (by unfold rsegs; repeat (first | exact Sub.nil | refine Sub.pick ?_ | refine Sub.castO rfl ?_)) ⟨[], by simpa using hm'.symm⟩) ⟨by rw [topA_none hn], rfl⟩
      · skip
        obtain ⟨q, y, rfl, hq⟩ : ∃ (q : Nat) (y : Int), best = q ∧ topR (T.take i) = some (q, y) := by rcases hb with h | h <;> first | exact h | omega
        rw [List.take_of_length_le (by omega)] at hq
        have hky := hA.keys q y (topR_some hq).1
        have hqi := (List.getElem?_eq_some_iff.1 (topR_some hq).1).1
        refine f_skip ?_
        refine f_tn (kh9 _ _ ?_)
        clear kh9
        refine f_seq fun K12 kh12 => ?_
        refine f_regionH [[(bG, blk [.slice (some ⟨bt, 0, none⟩) T.length T.length, .slice (some ⟨bk, 0, none⟩) T.length T.length] 66)], [(bk, blk (u64s ks) 29)]] rfl ?_
        refine f_take 0 rfl (by decide +kernel) rfl rfl rfl (by repeat (first | exact Sub.nil | refine Sub.pick ?_ | refine Sub.castO rfl ?_ | refine Sub.skip ?_)) (o_move rfl) ?_
        refine f_take 1 rfl (by decide +kernel) rfl rfl rfl (by repeat (first | exact Sub.nil | refine Sub.pick ?_ | refine Sub.castO rfl ?_ | refine Sub.skip ?_)) (o_move rfl) ?_
        refine f_take 2 rfl (by decide +kernel) rfl rfl rfl (by repeat (first | exact Sub.nil | refine Sub.pick ?_ | refine Sub.castO rfl ?_ | refine Sub.skip ?_)) (o_nil rfl) ?_
        refine f_take 3 rfl (by decide +kernel) rfl rfl rfl (by repeat (first | exact Sub.nil | refine Sub.pick ?_ | refine Sub.castO rfl ?_ | refine Sub.skip ?_)) (o_field fa66_1 rfl) ?_
        refine f_take 4 rfl (by decide +kernel) rfl rfl rfl (by repeat (first | exact Sub.nil | refine Sub.pick ?_ | refine Sub.castO rfl ?_ | refine Sub.skip ?_)) (o_load Try.isAgg22 rfl (rdA rfl)) ?_
        refine f_take 5 rfl (by decide +kernel) rfl rfl rfl (by repeat (first | exact Sub.nil | refine Sub.pick ?_ | refine Sub.castO rfl ?_ | refine Sub.skip ?_)) (o_move rfl) ?_
        refine f_take 6 rfl (by decide +kernel) rfl rfl rfl (by repeat (first | exact Sub.nil | refine Sub.pick ?_ | refine Sub.castO rfl ?_ | refine Sub.skip ?_)) (o_idx sl22 rfl rfl (q) ⟨by omega, by omega, by first | omega | (simp; done) | (simp; omega)⟩) ?_
        refine f_take 7 rfl (by decide +kernel) rfl rfl rfl (by repeat (first | exact Sub.nil | refine Sub.pick ?_ | refine Sub.castO rfl ?_ | refine Sub.skip ?_)) (o_load Try.isAgg29 rfl (rdA (u64s_at hky))) ?_
        refine f_take 8 rfl (by decide +kernel) rfl rfl rfl (by repeat (first | exact Sub.nil | refine Sub.pick ?_ | refine Sub.castO rfl ?_ | refine Sub.skip ?_)) (o_assign rfl) ?_
        refine f_take 9 rfl (by decide +kernel) rfl rfl rfl (by repeat (first | exact Sub.nil | refine Sub.pick ?_ | refine Sub.castO rfl ?_ | refine Sub.skip ?_)) (o_assign rfl) ?_
        refine f_take 10 rfl (by decide +kernel) rfl rfl rfl (by repeat (first | exact Sub.nil | refine Sub.pick ?_ | refine Sub.castO rfl ?_ | refine Sub.skip ?_)) (o_assign rfl) ?_
        refine f_over (by decide +kernel) ?_
        refine f_tn (kh12 _ _ ?_)
        clear kh12
        refine f_ret ?_
        exact f_fin3 [gm] Try.results28 rfl rfl rfl (Sub.transF (b := (rsegs bG bt bk T.length T ks)) (by unfold rsegs; repeat (first | exact Sub.nil | refine Sub.pick ?_ | refine Sub.castO rfl ?_)) ⟨[], by simpa using hm'.symm⟩) ⟨by rw [topA_some hq], rfl⟩

set_option maxRecDepth 100000 in
set_option maxHeartbeats 4000000 in
theorem RPop_spec (T : List (Option Int)) (bG : Nat) (gm : Seg)  (w : World) (hG : RRep T bG gm) (hw : Owns w [gm]) : Meets Try.prog 27 [.pointer (some ⟨bG, 0, none⟩)] w [gm] (fun u own' => u = .tuple #[.int .i64 (topA T).1, .int .u64 (topA T).2.1, .int .i64 (topA T).2.2] ∧ ∃ gm2, own' = [gm2] ∧ RRep (popT T) bG gm2) := by
  refine f_enter Try.func27 rfl Try.ntmps27 rfl hw ?_
  refine f_seq fun K1 kh1 => ?_
  refine f_region ?_
  refine f_stepP rfl rfl rfl (o_assign rfl) ?_
  refine f_stepP rfl rfl rfl (o_assign rfl) ?_
  refine f_stepP rfl rfl rfl (o_assign rfl) ?_
  refine f_done ?_
  refine f_tn (kh1 _ _ ?_)
  clear kh1
  refine f_seq fun K2 kh2 => ?_
  refine f_region ?_
  refine f_stepP rfl rfl rfl (o_move rfl) ?_
  refine f_step rfl rfl rfl (o_callM [gm] _ Try.call28 rfl (Sub.pick Sub.refl) (fun w_ hp_ => RTop_spec T bG gm w_ hG hp_.owns) ?_)
  rintro _ _ ⟨rfl, rfl⟩
  dsimp only [List.cons_append, List.nil_append]
  refine f_stepP rfl rfl rfl (o_move rfl) ?_
  refine f_stepP rfl rfl rfl (o_extract rfl rfl) ?_
  refine f_stepP rfl rfl rfl (o_extract rfl rfl) ?_
  refine f_stepP rfl rfl rfl (o_extract rfl rfl) ?_
  refine f_stepP rfl rfl rfl (o_assign rfl) ?_
  refine f_stepP rfl rfl rfl (o_assign rfl) ?_
  refine f_stepP rfl rfl rfl (o_assign rfl) ?_
  refine f_done ?_
  refine f_tn (kh2 _ _ ?_)
  clear kh2
  refine f_seq fun K3 kh3 => ?_
  refine f_seq fun K4 kh4 => ?_
  refine f_region ?_
  refine f_stepP rfl rfl rfl (o_move rfl) ?_
  refine f_stepP rfl rfl rfl (o_eql rfl rfl) ?_
  refine f_done ?_
  refine f_tn (kh4 _ _ ?_)
  clear kh4
  refine f_cond rfl (fun c15 => ?_) (fun c15 => ?_)
  · skip
    obtain ⟨q, y, hq⟩ := top_ex (T := T) (topA_err.1 c15)
    rw [topA_some hq]
    have hqi := (List.getElem?_eq_some_iff.1 (topR_some hq).1).1
    obtain ⟨bt, bk, ks, hm', hA⟩ := hG
    refine f_subC (Sub.openF hm') ?_
    unfold rsegs
    dsimp only [List.cons_append, List.nil_append]
    have hmx := hA.max
    have hkl := hA.len
    have htl := thereOf_len T
    refine f_region ?_
    refine f_stepP rfl rfl rfl (o_move rfl) ?_
    refine f_stepP rfl rfl rfl (o_nil rfl) ?_
    refine f_stepP rfl rfl rfl (o_field fa66_0 rfl) ?_
    refine f_stepP rfl rfl rfl (o_load Try.isAgg30 rfl (rdA rfl)) ?_
    refine f_stepP rfl rfl rfl (o_move rfl) ?_
    refine f_stepP rfl rfl rfl (o_idx sl30 rfl rfl (q) ⟨by omega, by omega, by first | omega | (simp; done) | (simp; omega)⟩) ?_
    refine f_step0 rfl rfl (o_store Try.sizeOf4 rfl rfl rfl rfl (by rw [List.length_map, htl]; omega) ((thereOf (T.set q none)).map .bool) (by rw [bools_set, thereOf_set]; rfl) ?_)
    refine f_done ?_
    refine f_tn (kh3 _ _ ?_)
    clear kh3
    refine f_seq fun K5 kh5 => ?_
    refine f_region ?_
    refine f_stepP rfl rfl rfl (o_move rfl) ?_
    refine f_stepP rfl rfl rfl (o_move rfl) ?_
    refine f_stepP rfl rfl rfl (o_move rfl) ?_
    refine f_stepP rfl rfl rfl (o_assign rfl) ?_
    refine f_stepP rfl rfl rfl (o_assign rfl) ?_
    refine f_stepP rfl rfl rfl (o_assign rfl) ?_
    refine f_done ?_
    refine f_tn (kh5 _ _ ?_)
    clear kh5
    refine f_ret ?_
    exact f_fin3 [(rsegs bG bt bk T.length (T.set q none) ks).flatten] Try.results27 rfl rfl rfl (Sub.flatF (by unfold rsegs; repeat (first | exact Sub.nil | refine Sub.pick ?_ | refine Sub.castO rfl ?_))) ⟨by rw [topA_some hq], _, rfl, by rw [popT_some hq]; exact RRep_mk (by simp) (hA.cut q)⟩
  · skip
    refine f_skip ?_
    refine f_tn (kh3 _ _ ?_)
    clear kh3
    refine f_seq fun K6 kh6 => ?_
    refine f_region ?_
    refine f_stepP rfl rfl rfl (o_move rfl) ?_
    refine f_stepP rfl rfl rfl (o_move rfl) ?_
    refine f_stepP rfl rfl rfl (o_move rfl) ?_
    refine f_stepP rfl rfl rfl (o_assign rfl) ?_
    refine f_stepP rfl rfl rfl (o_assign rfl) ?_
    refine f_stepP rfl rfl rfl (o_assign rfl) ?_
    refine f_done ?_
    refine f_tn (kh6 _ _ ?_)
    clear kh6
    refine f_ret ?_
    exact f_fin3 [gm] Try.results27 rfl rfl rfl (by repeat (first | exact Sub.nil | refine Sub.pick ?_ | refine Sub.castO rfl ?_)) ⟨rfl, gm, rfl, by rw [topA_bad c15]; exact hG⟩

set_option maxRecDepth 100000 in
set_option maxHeartbeats 4000000 in
theorem RDrop_spec (T : List (Option Int)) (bG : Nat) (gm : Seg) (id : Int) (w : World) (hG : RRep T bG gm) (hw : Owns w [gm]) : Meets Try.prog 29 [.pointer (some ⟨bG, 0, none⟩), .int .i64 id] w [gm] (fun u own' => u = .tuple #[.bool (dropR T id).2.1, .int .i64 (dropR T id).2.2] ∧ ∃ gm2, own' = [gm2] ∧ RRep (dropR T id).1 bG gm2) := by
  refine f_enter Try.func29 rfl Try.ntmps29 rfl hw ?_
  refine f_seq fun K1 kh1 => ?_
  refine f_region ?_
  refine f_stepP rfl rfl rfl (o_assign rfl) ?_
  refine f_stepP rfl rfl rfl (o_assign rfl) ?_
  refine f_done ?_
  refine f_tn (kh1 _ _ ?_)
  clear kh1
  refine f_seq fun K2 kh2 => ?_
  refine f_seq fun K3 kh3 => ?_
  refine f_region ?_
  refine f_stepP rfl rfl rfl (o_move rfl) ?_
  refine f_stepP rfl rfl rfl (o_move rfl) ?_
  refine f_step rfl rfl rfl (o_callM [gm] _ Try.call33 rfl (Sub.pick Sub.refl) (fun w_ hp_ => none_spec T bG gm id w_ hG hp_.owns) ?_)
  rintro _ _ ⟨rfl, rfl⟩
  dsimp only [List.cons_append, List.nil_append]
  refine f_done ?_
  refine f_tn (kh3 _ _ ?_)
  clear kh3
  refine f_cond rfl (fun c9 => ?_) (fun c9 => ?_)
  · skip
    have hout : ¬ (0 ≤ id ∧ id < T.length) := by have h' := c9; simp at h'; omega
    refine f_seq fun K4 kh4 => ?_
    refine f_region ?_
    refine f_stepP rfl rfl rfl (o_assign rfl) ?_
    refine f_stepP rfl rfl rfl (o_assign rfl) ?_
    refine f_done ?_
    refine f_tn (kh4 _ _ ?_)
    clear kh4
    refine f_ret ?_
    refine f_tr ?_
    exact f_fin2 [gm] Try.results29 rfl rfl (by repeat (first | exact Sub.nil | refine Sub.pick ?_ | refine Sub.castO rfl ?_)) ⟨by rw [drop_out hout], gm, rfl, by rw [drop_out hout]; exact hG⟩
  · skip
    have hin : 0 ≤ id ∧ id < T.length := by have h' := c9; simp at h'; omega
    obtain ⟨k, rfl⟩ : ∃ k : Nat, id = k := ⟨id.toNat, by omega⟩
    have hk : k < T.length := by omega
    obtain ⟨bt, bk, ks, hm', hA⟩ := hG
    refine f_subC (Sub.openF hm') ?_
    unfold rsegs
    dsimp only [List.cons_append, List.nil_append]
    have hmx := hA.max
    have hkl := hA.len
    have htl := thereOf_len T
    have hdr : dropR T (k : Int) = (T.set k none, (T[k]).isSome, 0) := by
      have hT : T[k]? = some T[k] := List.getElem?_eq_getElem hk
      cases e : T[k] with
      | none =>
        rw [e] at hT; rw [drop_no hk hT, show T.set k none = T from by rw [← e]; exact List.set_getElem_self hk]; rfl
      | some x => rw [e] at hT; rw [drop_yes hk hT]; rfl
    refine f_skip ?_
    refine f_tn (kh2 _ _ ?_)
    clear kh2
    refine f_seq fun K5 kh5 => ?_
    refine f_region ?_
    refine f_stepP rfl rfl rfl (o_move rfl) ?_
    refine f_stepP rfl rfl rfl (o_nil rfl) ?_
    refine f_stepP rfl rfl rfl (o_field fa66_0 rfl) ?_
    refine f_stepP rfl rfl rfl (o_load Try.isAgg30 rfl (rdA rfl)) ?_
    refine f_stepP rfl rfl rfl (o_move rfl) ?_
    refine f_stepP rfl rfl rfl (o_idx sl30 rfl rfl (k) ⟨by omega, by omega, by first | omega | (simp; done) | (simp; omega)⟩) ?_
    refine f_stepP rfl rfl rfl (o_load Try.isAgg4 rfl (rdA (there_some hk))) ?_
    refine f_stepP rfl rfl rfl (o_assign rfl) ?_
    refine f_done ?_
    refine f_tn (kh5 _ _ ?_)
    clear kh5
    refine f_seq fun K6 kh6 => ?_
    refine f_region ?_
    refine f_stepP rfl rfl rfl (o_move rfl) ?_
    refine f_stepP rfl rfl rfl (o_nil rfl) ?_
    refine f_stepP rfl rfl rfl (o_field fa66_0 rfl) ?_
    refine f_stepP rfl rfl rfl (o_load Try.isAgg30 rfl (rdA rfl)) ?_
    refine f_stepP rfl rfl rfl (o_move rfl) ?_
    refine f_stepP rfl rfl rfl (o_idx sl30 rfl rfl (k) ⟨by omega, by omega, by first | omega | (simp; done) | (simp; omega)⟩) ?_
    refine f_step0 rfl rfl (o_store Try.sizeOf4 rfl rfl rfl rfl (by rw [List.length_map, htl]; omega) ((thereOf (T.set k none)).map .bool) (by rw [bools_set, thereOf_set]; rfl) ?_)
    refine f_done ?_
    refine f_tn (kh6 _ _ ?_)
    clear kh6
    refine f_seq fun K7 kh7 => ?_
    refine f_region ?_
    refine f_stepP rfl rfl rfl (o_move rfl) ?_
    refine f_stepP rfl rfl rfl (o_assign rfl) ?_
    refine f_stepP rfl rfl rfl (o_assign rfl) ?_
    refine f_done ?_
    refine f_tn (kh7 _ _ ?_)
    clear kh7
    refine f_ret ?_
    exact f_fin2 [(rsegs bG bt bk T.length (T.set k none) ks).flatten] Try.results29 rfl rfl (Sub.flatF (by unfold rsegs; repeat (first | exact Sub.nil | refine Sub.pick ?_ | refine Sub.castO rfl ?_))) ⟨by rw [hdr], _, rfl, by rw [hdr]; exact RRep_mk (by simp) (hA.cut k)⟩

set_option maxRecDepth 100000 in
set_option maxHeartbeats 4000000 in
theorem RKey_spec (T : List (Option Int)) (bG : Nat) (gm : Seg) (id : Int) (w : World) (hG : RRep T bG gm) (hw : Owns w [gm]) : Meets Try.prog 30 [.pointer (some ⟨bG, 0, none⟩), .int .i64 id] w [gm] (fun u own' => u = .tuple #[.int .u64 (keyA T id).1, .bool (keyA T id).2.1, .int .i64 (keyA T id).2.2] ∧ own' = [gm]) := by
  refine f_enter Try.func30 rfl Try.ntmps30 rfl hw ?_
  refine f_seq fun K1 kh1 => ?_
  refine f_region ?_
  refine f_stepP rfl rfl rfl (o_assign rfl) ?_
  refine f_stepP rfl rfl rfl (o_assign rfl) ?_
  refine f_stepP rfl rfl rfl (o_assign rfl) ?_
  refine f_done ?_
  refine f_tn (kh1 _ _ ?_)
  clear kh1
  refine f_seq fun K2 kh2 => ?_
  refine f_seq fun K3 kh3 => ?_
  refine f_region ?_
  refine f_stepP rfl rfl rfl (o_move rfl) ?_
  refine f_stepP rfl rfl rfl (o_move rfl) ?_
  refine f_step rfl rfl rfl (o_callM [gm] _ Try.call33 rfl (Sub.pick Sub.refl) (fun w_ hp_ => none_spec T bG gm id w_ hG hp_.owns) ?_)
  rintro _ _ ⟨rfl, rfl⟩
  dsimp only [List.cons_append, List.nil_append]
  refine f_done ?_
  refine f_tn (kh3 _ _ ?_)
  clear kh3
  refine f_cond rfl (fun c9 => ?_) (fun c9 => ?_)
  · skip
    have hout : ¬ (0 ≤ id ∧ id < T.length) := by have h' := c9; simp at h'; omega
    refine f_seq fun K4 kh4 => ?_
    refine f_region ?_
    refine f_stepP rfl rfl rfl (o_assign rfl) ?_
    refine f_stepP rfl rfl rfl (o_assign rfl) ?_
    refine f_stepP rfl rfl rfl (o_assign rfl) ?_
    refine f_done ?_
    refine f_tn (kh4 _ _ ?_)
    clear kh4
    refine f_ret ?_
    refine f_tr ?_
    exact f_fin3 [gm] Try.results30 rfl rfl rfl (by repeat (first | exact Sub.nil | refine Sub.pick ?_ | refine Sub.castO rfl ?_)) ⟨by rw [key_out hout], rfl⟩
  · skip
    have hin : 0 ≤ id ∧ id < T.length := by have h' := c9; simp at h'; omega
    obtain ⟨k, rfl⟩ : ∃ k : Nat, id = k := ⟨id.toNat, by omega⟩
    have hk : k < T.length := by omega
    obtain ⟨bt, bk, ks, hm', hA⟩ := hG
    refine f_subC (Sub.openF hm') ?_
    unfold rsegs
    dsimp only [List.cons_append, List.nil_append]
    have hmx := hA.max
    have hkl := hA.len
    have htl := thereOf_len T
    refine f_skip ?_
    refine f_tn (kh2 _ _ ?_)
    clear kh2
    refine f_seq fun K5 kh5 => ?_
    refine f_seq fun K6 kh6 => ?_
    refine f_region ?_
    refine f_stepP rfl rfl rfl (o_move rfl) ?_
    refine f_stepP rfl rfl rfl (o_nil rfl) ?_
    refine f_stepP rfl rfl rfl (o_field fa66_0 rfl) ?_
    refine f_stepP rfl rfl rfl (o_load Try.isAgg30 rfl (rdA rfl)) ?_
    refine f_stepP rfl rfl rfl (o_move rfl) ?_
    refine f_stepP rfl rfl rfl (o_idx sl30 rfl rfl (k) ⟨by omega, by omega, by first | omega | (simp; done) | (simp; omega)⟩) ?_
    refine f_stepP rfl rfl rfl (o_load Try.isAgg4 rfl (rdA (there_some hk))) ?_
    refine f_stepP rfl rfl rfl (o_not rfl) ?_
    refine f_done ?_
    refine f_tn (kh6 _ _ ?_)
    clear kh6
    refine f_condB rfl (fun c17 => ?_) (fun c17 => ?_)
    · skip
      have hx := isNone_at (by simpa using c17)
      refine f_seq fun K7 kh7 => ?_
      refine f_region ?_
      refine f_stepP rfl rfl rfl (o_assign rfl) ?_
      refine f_stepP rfl rfl rfl (o_assign rfl) ?_
      refine f_stepP rfl rfl rfl (o_assign rfl) ?_
      refine f_done ?_
      refine f_tn (kh7 _ _ ?_)
      clear kh7
      refine f_ret ?_
      refine f_tr ?_
      exact f_fin3 [gm] Try.results30 rfl rfl rfl (Sub.transF (b := (rsegs bG bt bk T.length T ks)) (by unfold rsegs; repeat (first | exact Sub.nil | refine Sub.pick ?_ | refine Sub.castO rfl ?_)) ⟨[], by simpa using hm'.symm⟩) ⟨by rw [key_no hk hx], rfl⟩
    · skip
      obtain ⟨x, hx⟩ := isSome_at (T := T) (k := k) (hk := hk) (by simpa using c17)
      have hkx := hA.keys k x hx
      refine f_skip ?_
      refine f_tn (kh5 _ _ ?_)
      clear kh5
      refine f_seq fun K8 kh8 => ?_
      refine f_region ?_
      refine f_stepP rfl rfl rfl (o_move rfl) ?_
      refine f_stepP rfl rfl rfl (o_nil rfl) ?_
      refine f_stepP rfl rfl rfl (o_field fa66_1 rfl) ?_
      refine f_stepP rfl rfl rfl (o_load Try.isAgg22 rfl (rdA rfl)) ?_
      refine f_stepP rfl rfl rfl (o_move rfl) ?_
      refine f_stepP rfl rfl rfl (o_idx sl22 rfl rfl (k) ⟨by omega, by omega, by first | omega | (simp; done) | (simp; omega)⟩) ?_
      refine f_stepP rfl rfl rfl (o_load Try.isAgg29 rfl (rdA (u64s_at hkx))) ?_
      refine f_stepP rfl rfl rfl (o_assign rfl) ?_
      refine f_stepP rfl rfl rfl (o_assign rfl) ?_
      refine f_stepP rfl rfl rfl (o_assign rfl) ?_
      refine f_done ?_
      refine f_tn (kh8 _ _ ?_)
      clear kh8
      refine f_ret ?_
      exact f_fin3 [gm] Try.results30 rfl rfl rfl (Sub.transF (b := (rsegs bG bt bk T.length T ks)) (by unfold rsegs; repeat (first | exact Sub.nil | refine Sub.pick ?_ | refine Sub.castO rfl ?_)) ⟨[], by simpa using hm'.symm⟩) ⟨by rw [key_yes hk hx], rfl⟩

set_option maxRecDepth 100000 in
set_option maxHeartbeats 4000000 in
theorem RLen_spec (T : List (Option Int)) (bG : Nat) (gm : Seg)  (w : World) (hG : RRep T bG gm) (hw : Owns w [gm]) : Meets Try.prog 19 [.pointer (some ⟨bG, 0, none⟩)] w [gm] (fun u own' => u = .int .i64 (tcount T : Int) ∧ own' = [gm]) := by
  refine f_enter Try.func19 rfl Try.ntmps19 rfl hw ?_
  obtain ⟨bt, bk, ks, hm', hA⟩ := hG
  refine f_subC (Sub.permF hm') ?_
  unfold rsegs
  have hmx := hA.max
  have hkl := hA.len
  have htl := thereOf_len T
  refine f_seq fun K1 kh1 => ?_
  refine f_region ?_
  refine f_stepP rfl rfl rfl (o_assign rfl) ?_
  refine f_done ?_
  refine f_tn (kh1 _ _ ?_)
  clear kh1
  refine f_seq fun K2 kh2 => ?_
  refine f_region ?_
  refine f_stepP rfl rfl rfl (o_assign rfl) ?_
  refine f_done ?_
  refine f_tn (kh2 _ _ ?_)
  clear kh2
  refine f_seq fun K3 kh3 => ?_
  refine f_seq fun K4 kh4 => ?_
  refine f_region ?_
  refine f_stepP rfl rfl rfl (o_assign rfl) ?_
  refine f_done ?_
  refine f_tn (kh4 _ _ ?_)
  clear kh4
  refine f_block ?_
  refine f_loop (α := Nat × Nat) [0] (fun ⟨i, many⟩ => [(4, .int .i64 (i : Int)), (3, .int .i64 (many : Int))]) (fun ⟨i, many⟩ => [[(bG, blk [.slice (some ⟨bt, 0, none⟩) T.length T.length, .slice (some ⟨bk, 0, none⟩) T.length T.length] 66)], [(bt, blk ((thereOf T).map .bool) 4)], [(bk, blk (u64s ks) 29)]]) (fun ⟨i, many⟩ => i ≤ T.length ∧ many = (T.take i).countP Option.isSome ∧ many ≤ i) (fun ⟨i, many⟩ => T.length - i) (0, 0) ?_ ?_ ?_ ?_
  · exact (by repeat (first | exact trivial | refine ⟨rfl, ?_⟩))
  · repeat (first | exact Sub.nil | refine Sub.pick ?_ | refine Sub.castO rfl ?_ | refine Sub.skip ?_)
  · exact ⟨Nat.zero_le _, by simp, Nat.le_refl _⟩
  · rintro ⟨i, many⟩ ⟨hil, hmany, hmi⟩
    refine f_seq fun K5 kh5 => ?_
    refine f_seq fun K6 kh6 => ?_
    refine f_region ?_
    refine f_stepP rfl rfl rfl (o_move rfl) ?_
    refine f_stepP rfl rfl rfl (o_move rfl) ?_
    refine f_stepP rfl rfl rfl (o_nil rfl) ?_
    refine f_stepP rfl rfl rfl (o_field fa66_0 rfl) ?_
    refine f_stepP rfl rfl rfl (o_load Try.isAgg30 rfl (rdA rfl)) ?_
    refine f_stepP rfl rfl rfl (o_len sl30 rfl) ?_
    refine f_stepP rfl rfl rfl (o_lss rfl rfl) ?_
    refine f_done ?_
    refine f_tn (kh6 _ _ ?_)
    clear kh6
    refine f_cond rfl (fun c11 => ?_) (fun c11 => ?_)
    · skip
      refine f_skip ?_
      refine f_tn (kh5 _ _ ?_)
      clear kh5
      refine f_seq fun K7 kh7 => ?_
      refine f_block ?_
      refine f_seq fun K8 kh8 => ?_
      refine f_region ?_
      refine f_stepP rfl rfl rfl (o_move rfl) ?_
      refine f_stepP rfl rfl rfl (o_nil rfl) ?_
      refine f_stepP rfl rfl rfl (o_field fa66_0 rfl) ?_
      refine f_stepP rfl rfl rfl (o_load Try.isAgg30 rfl (rdA rfl)) ?_
      refine f_stepP rfl rfl rfl (o_move rfl) ?_
      have hk : i < T.length := by omega
      refine f_stepP rfl rfl rfl (o_idx sl30 rfl rfl (i) ⟨by omega, by omega, by first | omega | (simp; done) | (simp; omega)⟩) ?_
      refine f_stepP rfl rfl rfl (o_load Try.isAgg4 rfl (rdA (there_some hk))) ?_
      refine f_done ?_
      refine f_tn (kh8 _ _ ?_)
      clear kh8
      refine f_condB rfl (fun c20 => ?_) (fun c20 => ?_)
      · skip
        obtain ⟨x, hx⟩ := isSome_at c20
        refine f_region ?_
        refine f_stepP rfl rfl rfl (o_move rfl) ?_
        refine f_stepP rfl rfl rfl (o_add rfl rfl _ (wrap_i64 (by omega))) ?_
        refine f_stepP rfl rfl rfl (o_assign rfl) ?_
        refine f_done ?_
        refine f_bn ?_
        refine f_tn (kh7 _ _ ?_)
        clear kh7
        refine f_region ?_
        refine f_stepP rfl rfl rfl (o_move rfl) ?_
        refine f_stepP rfl rfl rfl (o_add rfl rfl _ (wrap_i64 (by omega))) ?_
        refine f_stepP rfl rfl rfl (o_assign rfl) ?_
        refine f_done ?_
        refine f_tn (f_again (i + 1, many + 1) (by first | omega | (dsimp only; omega) | (simp; omega)) ⟨by omega, by rw [count_yes hx]; omega, by omega⟩ ?_ ?_ ?_)
        · exact (by repeat (first | exact trivial | refine ⟨rfl, ?_⟩))
        · exact (by repeat (first | exact trivial | refine ⟨rfl, ?_⟩))
        · repeat (first | exact Sub.nil | refine Sub.pick ?_ | refine Sub.castO rfl ?_ | refine Sub.skip ?_)
      · skip
        refine f_skip ?_
        refine f_bn ?_
        refine f_tn (kh7 _ _ ?_)
        clear kh7
        refine f_region ?_
        refine f_stepP rfl rfl rfl (o_move rfl) ?_
        refine f_stepP rfl rfl rfl (o_add rfl rfl _ (wrap_i64 (by omega))) ?_
        refine f_stepP rfl rfl rfl (o_assign rfl) ?_
        refine f_done ?_
        refine f_tn (f_again (i + 1, many) (by first | omega | (dsimp only; omega) | (simp; omega)) ⟨by omega, by rw [count_no hk (by rw [key_is hk]; exact c20)]; omega, by omega⟩ ?_ ?_ ?_)
        · exact (by repeat (first | exact trivial | refine ⟨rfl, ?_⟩))
        · exact (by repeat (first | exact trivial | refine ⟨rfl, ?_⟩))
        · repeat (first | exact Sub.nil | refine Sub.pick ?_ | refine Sub.castO rfl ?_ | refine Sub.skip ?_)
    · skip
      refine f_exit ?_
      refine f_te ?_
      clear kh5
      refine f_te ?_
      refine f_be ?_
      refine f_tn (kh3 _ _ ?_)
      clear kh3
      refine f_seq fun K9 kh9 => ?_
      refine f_region ?_
      refine f_stepP rfl rfl rfl (o_move rfl) ?_
      refine f_stepP rfl rfl rfl (o_assign rfl) ?_
      refine f_done ?_
      refine f_tn (kh9 _ _ ?_)
      clear kh9
      refine f_ret ?_
      exact f_fin1 [gm] Try.results19 rfl (Sub.transF (b := (rsegs bG bt bk T.length T ks)) (by unfold rsegs; repeat (first | exact Sub.nil | refine Sub.pick ?_ | refine Sub.castO rfl ?_)) ⟨[], by simpa using hm'.symm⟩) ⟨by rw [hmany, List.take_of_length_le (by omega)]; rfl, rfl⟩

end Go.Proofs.Ytpooabplhgdfmaa
