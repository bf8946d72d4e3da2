/- near.Walk, slices.Reverse. -/
import Derived.Test.YtegkdbicomedjaaFNear3
import Derived.Test.YtegkdbicomedjaaFBtw
import Derived.Test.YtegkdbicomedjaaPWalk
namespace Go.Proofs.Ytegkdbicomedjaa
open Go Go.RowKit Fly
set_option linter.unusedVariables false
set_option linter.unusedSimpArgs false


def natsI (W : List Nat) : List Int := W.map (fun i : Nat => (i : Int))
/-- What Walk answers. -/
def WalkΦ (N : Int) (l : List Arc) (s t : Int) (u : Value) (own : List Seg) : Prop :=
  ∃ v m W x, u = .tuple #[v, .int .u64 x, .int .i64 (nlooked N l [s, t])] ∧ own = [m] ∧ Own 3 1 v W.length (ints (natsI W)) m ∧ (nlooked N l [s, t] ≠ 0 → W = [] ∧ x = 0) ∧
    (nlooked N l [s, t] = 0 → 0 ≤ x ∧ IsB (l.map (trn false)) every s.toNat t.toNat x ∧ (x = INF → W = []) ∧ (x < INF → Told (l.map (trn false)) s.toNat t.toNat W x) ∧ W.length ≤ 1024 ∧ ∀ i, i ∈ W → i < l.length)
theorem chain_lt {e : List Arc} : ∀ {u t : Nat} {W : List Nat}, Chain e u t W → ∀ i, i ∈ W → i < e.length
  | _, _, [], _, i, hi => by simp at hi
  | _, _, j :: r, ⟨h, _, hc⟩, i, hi => by
    rcases List.mem_cons.1 hi with rfl | hi
    · exact h
    · exact chain_lt hc i hi
theorem ints_getD {l : List Int} {i : Nat} (h : i < l.length) : (ints l)[i]? = some (.int .i64 (l.getD i 0)) := by simp [ints, List.getD_eq_getElem?_getD, h]
theorem ints_set_app {l : List Int} {i : Nat} {x : Int} {sp : List Value} (h : i < l.length) : (ints l ++ sp).set i (.int .i64 x) = ints (l.set i x) ++ sp := by
  rw [List.set_append_left _ _ (by rw [ints_length]; exact h), ints_set]

theorem natsI_len (W : List Nat) : (natsI W).length = W.length := by simp [natsI]
theorem natsI_rev (i : Nat) (W : List Nat) : ints (natsI (i :: W)).reverse = ints (natsI W).reverse ++ [.int .i64 (i : Int)] := by simp [natsI, ints]
theorem none_at {T : List (Option Int)} (h : topR T = none) {k : Nat} (hk : k < T.length) : T[k]? = some none := by
  have h0 := topFrom_none h
  unfold tcount at h0
  rw [List.countP_eq_zero] at h0
  have := h0 _ (List.getElem_mem hk)
  rw [List.getElem?_eq_getElem hk]
  cases e : T[k] with
  | none => rfl
  | some x => rw [e] at this; simp at this

set_option maxRecDepth 100000 in
set_option maxHeartbeats 4000000 in
theorem SlRev_spec (A : Option Addr) (cap : Nat) (l : List Int) (m : Seg) (w : World) (ho : Own 3 1 (.slice A l.length cap) l.length (ints l) m) (hl : l.length ≤ 1000000) (hw : Owns w [m]) :
    Meets Try.prog 36 [.slice A l.length cap] w [m] (fun u own' => u = .tuple #[] ∧ ∃ m', own' = [m'] ∧ Own 3 1 (.slice A l.length cap) l.length (ints l.reverse) m') := by
  refine f_enter Try.func36 rfl Try.ntmps36 rfl hw ?_
  refine f_seq fun K1 kh1 => ?_
  refine f_region ?_
  refine f_stepP rfl rfl rfl (o_move rfl) ?_
  refine f_stepP rfl rfl rfl (o_len sl28 rfl) ?_
  refine f_stepP rfl rfl rfl (o_sub rfl rfl _ (wrap_i64 (by omega))) ?_
  refine f_stepP rfl rfl rfl (o_assign rfl) ?_
  refine f_stepP rfl rfl rfl (o_assign rfl) ?_
  refine f_done ?_
  refine f_tn (kh1 _ _ ?_)
  clear kh1
  refine f_block ?_
  refine f_loop (α := Nat × Int × Seg) [0] (fun ⟨k, J, m'⟩ => [(2, .int .i64 (k : Int)), (3, .int .i64 J)]) (fun ⟨k, J, m'⟩ => [m']) (fun ⟨k, J, m'⟩ => 2 * k ≤ l.length + 1 ∧ J = (l.length : Int) - 1 - (k : Int) ∧ Own 3 1 (.slice A l.length cap) l.length (ints (revTo l k)) m') (fun ⟨k, J, m'⟩ => l.length - k) (0, (l.length : Int) - 1, m) ?_ ?_ ?_ ?_
  · exact (by repeat (first | exact trivial | refine ⟨rfl, ?_⟩))
  · repeat (first | exact Sub.nil | refine Sub.pick ?_ | refine Sub.castO rfl ?_ | refine Sub.skip ?_)
  · exact ⟨by omega, by omega, by rw [revTo_zero]; exact ho⟩
  · rintro ⟨k, J, m'⟩ ⟨hk, hJ, ho'⟩
    refine f_seq fun K2 kh2 => ?_
    refine f_seq fun K3 kh3 => ?_
    refine f_region ?_
    refine f_stepP rfl rfl rfl (o_move rfl) ?_
    refine f_stepP rfl rfl rfl (o_move rfl) ?_
    refine f_stepP rfl rfl rfl (o_lss rfl rfl) ?_
    refine f_done ?_
    refine f_tn (kh3 _ _ ?_)
    clear kh3
    refine f_cond rfl (fun c9 => ?_) (fun c9 => ?_)
    · skip
      refine f_skip ?_
      refine f_tn (kh2 _ _ ?_)
      clear kh2
      refine f_seq fun K4 kh4 => ?_
      refine f_block ?_
      obtain rfl : J = ((l.length - 1 - k : Nat) : Int) := by omega
      obtain ⟨br, sp, rfl, rfl, hup⟩ := ho'.upd (by omega)
      have hrl := revTo_len l k
      refine f_regionH [] rfl ?_
      refine f_take 0 rfl (by decide +kernel) rfl rfl rfl (by repeat (first | exact Sub.nil | refine Sub.pick ?_ | refine Sub.castO rfl ?_ | refine Sub.skip ?_)) (o_move rfl) ?_
      refine f_take 1 rfl (by decide +kernel) rfl rfl rfl (by repeat (first | exact Sub.nil | refine Sub.pick ?_ | refine Sub.castO rfl ?_ | refine Sub.skip ?_)) (o_move rfl) ?_
      refine f_take 2 rfl (by decide +kernel) rfl rfl rfl (by repeat (first | exact Sub.nil | refine Sub.pick ?_ | refine Sub.castO rfl ?_ | refine Sub.skip ?_)) (o_move rfl) ?_
      refine f_take 3 rfl (by decide +kernel) rfl rfl rfl (by repeat (first | exact Sub.nil | refine Sub.pick ?_ | refine Sub.castO rfl ?_ | refine Sub.skip ?_)) (o_move rfl) ?_
      refine f_take 4 rfl (by decide +kernel) rfl rfl rfl (by repeat (first | exact Sub.nil | refine Sub.pick ?_ | refine Sub.castO rfl ?_ | refine Sub.skip ?_)) (o_move rfl) ?_
      refine f_take 5 rfl (by decide +kernel) rfl rfl rfl (by repeat (first | exact Sub.nil | refine Sub.pick ?_ | refine Sub.castO rfl ?_ | refine Sub.skip ?_)) (o_move rfl) ?_
      refine f_take 6 rfl (by decide +kernel) rfl rfl rfl (by repeat (first | exact Sub.nil | refine Sub.pick ?_ | refine Sub.castO rfl ?_ | refine Sub.skip ?_)) (o_idx sl28 rfl rfl (l.length - 1 - k) ⟨by omega, by omega, by first | omega | (simp; done) | (simp; omega)⟩) ?_
      refine f_take 8 rfl (by decide +kernel) rfl rfl rfl (by repeat (first | exact Sub.nil | refine Sub.pick ?_ | refine Sub.castO rfl ?_ | refine Sub.skip ?_)) (o_move rfl) ?_
      refine f_take 9 rfl (by decide +kernel) rfl rfl rfl (by repeat (first | exact Sub.nil | refine Sub.pick ?_ | refine Sub.castO rfl ?_ | refine Sub.skip ?_)) (o_move rfl) ?_
      refine f_take 10 rfl (by decide +kernel) rfl rfl rfl (by repeat (first | exact Sub.nil | refine Sub.pick ?_ | refine Sub.castO rfl ?_ | refine Sub.skip ?_)) (o_idx sl28 rfl rfl (k) ⟨by omega, by omega, by first | omega | (simp; done) | (simp; omega)⟩) ?_
      refine f_two 7 11 rfl rfl (by decide +kernel) rfl rfl rfl rfl rfl rfl ?_ ?_
      · skip
        refine (o_load Try.isAgg3 rfl (rdA (v := .int .i64 ((revTo l k).getD (l.length - 1 - k) 0)) (app_get (ints_getD (by omega))))).does ⟨(by repeat (first | exact Sub.nil | refine Sub.pick ?_ | refine Sub.castO rfl ?_ | refine Sub.skip ?_)), ?_⟩
        refine f_only 11 rfl (by decide +kernel) rfl rfl rfl ((o_load Try.isAgg3 rfl (rdA (v := .int .i64 ((revTo l k).getD k 0)) (app_get (ints_getD (by omega))))).does ⟨(by repeat (first | exact Sub.nil | refine Sub.pick ?_ | refine Sub.castO rfl ?_ | refine Sub.skip ?_)), ?_⟩)
        refine f_take 12 rfl (by decide +kernel) rfl rfl rfl (by repeat (first | exact Sub.nil | refine Sub.pick ?_ | refine Sub.castO rfl ?_ | refine Sub.skip ?_)) (o_idx sl28 rfl rfl (k) ⟨by omega, by omega, by first | omega | (simp; done) | (simp; omega)⟩) ?_
        refine f_only0 13 rfl (by decide +kernel) rfl rfl (o_store Try.sizeOf3 rfl rfl rfl rfl (by rw [List.length_append, ints_length]; omega) (ints ((revTo l k).set k ((revTo l k).getD (l.length - 1 - k) 0)) ++ sp) (ints_set_app (by omega)) ⟨(by repeat (first | exact Sub.nil | refine Sub.pick ?_ | refine Sub.castO rfl ?_ | refine Sub.skip ?_)), ?_⟩)
        refine f_take 14 rfl (by decide +kernel) rfl rfl rfl (by repeat (first | exact Sub.nil | refine Sub.pick ?_ | refine Sub.castO rfl ?_ | refine Sub.skip ?_)) (o_idx sl28 rfl rfl (l.length - 1 - k) ⟨by omega, by omega, by first | omega | (simp; done) | (simp; omega)⟩) ?_
        refine f_only0 15 rfl (by decide +kernel) rfl rfl (o_store Try.sizeOf3 rfl rfl rfl rfl (by rw [List.length_append, ints_length, List.length_set]; omega) (ints (revTo l (k + 1)) ++ sp) (by rw [← revTo_next (by omega)]; exact ints_set_app (by simp; omega)) ⟨(by repeat (first | exact Sub.nil | refine Sub.pick ?_ | refine Sub.castO rfl ?_ | refine Sub.skip ?_)), ?_⟩)
        refine f_over (by decide +kernel) ?_
        refine f_bn ?_
        refine f_tn (kh4 _ _ ?_)
        clear kh4
        refine f_region ?_
        refine f_stepP rfl rfl rfl (o_move rfl) ?_
        refine f_stepP rfl rfl rfl (o_add rfl rfl _ (wrap_i64 (by omega))) ?_
        refine f_stepP rfl rfl rfl (o_move rfl) ?_
        refine f_stepP rfl rfl rfl (o_sub rfl rfl _ (wrap_i64 (by omega))) ?_
        refine f_stepP rfl rfl rfl (o_assign rfl) ?_
        refine f_stepP rfl rfl rfl (o_assign rfl) ?_
        refine f_done ?_
        refine f_tn (f_again (k + 1, ((l.length - 1 - k : Nat) : Int) - 1, [(br, blk (ints (revTo l (k + 1)) ++ sp) 3)]) (by first | omega | (dsimp only; omega) | (simp; omega)) ⟨by omega, by omega, hup _ (by rw [ints_length, ints_length, revTo_len, revTo_len])⟩ ?_ ?_ ?_)
        · exact (by repeat (first | exact trivial | refine ⟨rfl, ?_⟩))
        · exact (by repeat (first | exact trivial | refine ⟨rfl, ?_⟩))
        · repeat (first | exact Sub.nil | refine Sub.pick ?_ | refine Sub.castO rfl ?_ | refine Sub.skip ?_)
      · skip
        refine (o_load Try.isAgg3 rfl (rdA (v := .int .i64 ((revTo l k).getD k 0)) (app_get (ints_getD (by omega))))).does ⟨(by repeat (first | exact Sub.nil | refine Sub.pick ?_ | refine Sub.castO rfl ?_ | refine Sub.skip ?_)), ?_⟩
        refine f_only 7 rfl (by decide +kernel) rfl rfl rfl ((o_load Try.isAgg3 rfl (rdA (v := .int .i64 ((revTo l k).getD (l.length - 1 - k) 0)) (app_get (ints_getD (by omega))))).does ⟨(by repeat (first | exact Sub.nil | refine Sub.pick ?_ | refine Sub.castO rfl ?_ | refine Sub.skip ?_)), ?_⟩)
        refine f_take 12 rfl (by decide +kernel) rfl rfl rfl (by repeat (first | exact Sub.nil | refine Sub.pick ?_ | refine Sub.castO rfl ?_ | refine Sub.skip ?_)) (o_idx sl28 rfl rfl (k) ⟨by omega, by omega, by first | omega | (simp; done) | (simp; omega)⟩) ?_
        refine f_only0 13 rfl (by decide +kernel) rfl rfl (o_store Try.sizeOf3 rfl rfl rfl rfl (by rw [List.length_append, ints_length]; omega) (ints ((revTo l k).set k ((revTo l k).getD (l.length - 1 - k) 0)) ++ sp) (ints_set_app (by omega)) ⟨(by repeat (first | exact Sub.nil | refine Sub.pick ?_ | refine Sub.castO rfl ?_ | refine Sub.skip ?_)), ?_⟩)
        refine f_take 14 rfl (by decide +kernel) rfl rfl rfl (by repeat (first | exact Sub.nil | refine Sub.pick ?_ | refine Sub.castO rfl ?_ | refine Sub.skip ?_)) (o_idx sl28 rfl rfl (l.length - 1 - k) ⟨by omega, by omega, by first | omega | (simp; done) | (simp; omega)⟩) ?_
        refine f_only0 15 rfl (by decide +kernel) rfl rfl (o_store Try.sizeOf3 rfl rfl rfl rfl (by rw [List.length_append, ints_length, List.length_set]; omega) (ints (revTo l (k + 1)) ++ sp) (by rw [← revTo_next (by omega)]; exact ints_set_app (by simp; omega)) ⟨(by repeat (first | exact Sub.nil | refine Sub.pick ?_ | refine Sub.castO rfl ?_ | refine Sub.skip ?_)), ?_⟩)
        refine f_over (by decide +kernel) ?_
        refine f_bn ?_
        refine f_tn (kh4 _ _ ?_)
        clear kh4
        refine f_region ?_
        refine f_stepP rfl rfl rfl (o_move rfl) ?_
        refine f_stepP rfl rfl rfl (o_add rfl rfl _ (wrap_i64 (by omega))) ?_
        refine f_stepP rfl rfl rfl (o_move rfl) ?_
        refine f_stepP rfl rfl rfl (o_sub rfl rfl _ (wrap_i64 (by omega))) ?_
        refine f_stepP rfl rfl rfl (o_assign rfl) ?_
        refine f_stepP rfl rfl rfl (o_assign rfl) ?_
        refine f_done ?_
        refine f_tn (f_again (k + 1, ((l.length - 1 - k : Nat) : Int) - 1, [(br, blk (ints (revTo l (k + 1)) ++ sp) 3)]) (by first | omega | (dsimp only; omega) | (simp; omega)) ⟨by omega, by omega, hup _ (by rw [ints_length, ints_length, revTo_len, revTo_len])⟩ ?_ ?_ ?_)
        · exact (by repeat (first | exact trivial | refine ⟨rfl, ?_⟩))
        · exact (by repeat (first | exact trivial | refine ⟨rfl, ?_⟩))
        · repeat (first | exact Sub.nil | refine Sub.pick ?_ | refine Sub.castO rfl ?_ | refine Sub.skip ?_)
    · skip
      refine f_exit ?_
      refine f_te ?_
      clear kh2
      refine f_te ?_
      refine f_be ?_
      have e : revTo l k = l.reverse := revTo_all (by omega)
      rw [e] at ho'
      exact f_fin0n [m'] Try.results36 (by repeat (first | exact Sub.nil | refine Sub.pick ?_ | refine Sub.castO rfl ?_)) ⟨rfl, m', rfl, ho'⟩

set_option maxRecDepth 100000 in
set_option maxHeartbeats 4000000 in
theorem Walk_spec (N : Int) (A : Option Addr) (l : List Arc) (cap : Nat) (s t : Int) (w : World) (hr : Ro (Fr w []) w A (l.flatMap arcCs)) (hl : l.length ≤ 9223372036854775807) (hN : I64 N) (hok : ∀ x ∈ l, ArcOk x) :
    Meets Try.prog 13 [.agg #[.int .i64 N, .slice A l.length cap], .int .i64 s, .int .i64 t] w [] (WalkΦ N l s t) := by
  refine f_enter Try.func13 rfl Try.ntmps13 rfl Owns.nil ?_
  refine f_seq fun K1 kh1 => ?_
  refine f_region ?_
  refine f_step rfl rfl rfl (o_box rfl rfl fun b3 => ?_)
  refine f_stepP rfl rfl rfl (o_assign rfl) ?_
  refine f_stepP rfl rfl rfl (o_assign rfl) ?_
  refine f_stepP rfl rfl rfl (o_assign rfl) ?_
  refine f_done ?_
  refine f_tn (kh1 _ _ ?_)
  clear kh1
  refine f_seq fun K2 kh2 => ?_
  refine f_seq fun K3 kh3 => ?_
  refine f_region ?_
  refine f_stepP rfl rfl rfl (o_loadA (vs := [_, _]) Try.isAgg24 Try.sizeOf24 rfl rfl ⟨(rdA rfl), (rdA rfl), trivial⟩) ?_
  refine f_stepP rfl rfl rfl (o_move rfl) ?_
  refine f_stepP rfl rfl rfl (o_move rfl) ?_
  refine f_step rfl rfl rfl (o_sliceN (len := 2) el28 (by omega) rfl rfl fun b15 => ?_)
  refine f_step rfl rfl rfl (o_call Try.call32 rfl (fun w_ hp_ => looked_spec N A l cap (some ⟨b15, 0, none⟩) [s, t] 2 w_ (hr.up0 hp_) (roOwn (b := b15) hp_ (cs := ints [s, t]) (fun j v hj => hj)) hl hN hok (by simp)) ?_)
  rintro _ _ ⟨rfl, rfl⟩
  dsimp only [List.cons_append, List.nil_append]
  refine f_stepP rfl rfl rfl (o_assign rfl) ?_
  refine f_done ?_
  refine f_tn (kh3 _ _ ?_)
  clear kh3
  refine f_seq fun K4 kh4 => ?_
  refine f_region ?_
  refine f_stepP rfl rfl rfl (o_move rfl) ?_
  refine f_stepP rfl rfl rfl (o_neq rfl rfl) ?_
  refine f_done ?_
  refine f_tn (kh4 _ _ ?_)
  clear kh4
  refine f_cond rfl (fun c18 => ?_) (fun c18 => ?_)
  · skip
    refine f_seq fun K5 kh5 => ?_
    refine f_region ?_
    refine f_stepP rfl rfl rfl (o_move rfl) ?_
    refine f_stepP rfl rfl rfl (o_assign rfl) ?_
    refine f_stepP rfl rfl rfl (o_assign rfl) ?_
    refine f_stepP rfl rfl rfl (o_assign rfl) ?_
    refine f_done ?_
    refine f_tn (kh5 _ _ ?_)
    clear kh5
    refine f_ret ?_
    refine f_tr ?_
    exact f_fin3 [[]] Try.results13 rfl rfl rfl Sub.empty ⟨.slice none 0 0, [], [], 0, rfl, rfl, Own.nil _ _, fun _ => ⟨rfl, rfl⟩, fun h => absurd h c18⟩
  · skip
    have hz : nlooked N l [s, t] = 0 := by simpa using c18
    obtain ⟨hg0, hv⟩ := nlooked_zero hz
    have hv1 := hv s (by simp)
    have hv2 := hv t (by simp)
    obtain ⟨n, rfl⟩ : ∃ n : Nat, N = n := ⟨N.toNat, by omega⟩
    obtain ⟨ks, rfl⟩ : ∃ k : Nat, s = k := ⟨s.toNat, by omega⟩
    obtain ⟨kt, rfl⟩ : ∃ k : Nat, t = k := ⟨t.toNat, by omega⟩
    have hg := gok_of hg0 hok
    have hks : ks < n := by omega
    have hkt : kt < n := by omega
    have hn1 := hg.n1
    have hlen := hg.len
    refine f_skip ?_
    refine f_tn (kh2 _ _ ?_)
    clear kh2
    refine f_seq fun K6 kh6 => ?_
    refine f_region ?_
    refine f_stepP rfl rfl rfl (o_loadA (vs := [_, _]) Try.isAgg24 Try.sizeOf24 rfl rfl ⟨(rdA rfl), (rdA rfl), trivial⟩) ?_
    refine f_stepP rfl rfl rfl (o_move rfl) ?_
    refine f_step rfl rfl rfl (o_call Try.call33 rfl (fun w_ hp_ => begin_spec n A l cap false ks w_ (hr.up0 hp_) hg hks) ?_)
    rintro _ _ ⟨bx, bd, m1, rfl, rfl, hS1⟩
    dsimp only [List.cons_append, List.nil_append]
    refine f_stepP rfl rfl rfl (o_assign rfl) ?_
    refine f_done ?_
    refine f_tn (kh6 _ _ ?_)
    clear kh6
    refine f_seq fun K7 kh7 => ?_
    refine f_region ?_
    refine f_stepP rfl rfl rfl (o_move rfl) ?_
    refine f_step rfl rfl rfl (o_callM [m1] _ Try.call34 rfl (Sub.pick Sub.refl) (fun w_ hp_ => all_spec n A l cap false every ks bx bd (D0 n ks) (B0 n) (T0 n ks) [] m1 35 [] w_ (hr.up hp_) hg hS1 (SS_begin hks) Try.call35 (fun w' _ i _ => free_spec i w') hp_.owns) ?_)
    rintro _ _ ⟨d2, by2, T2, o2, m2, rfl, rfl, hS2, hSS2, ht2⟩
    have hdl := hSS2.ld
    have hbl := hSS2.lb
    have hD := hSS2.done ht2 (hg.src _) (hg.dst _) (hg.wt _)
    dsimp only [List.cons_append, List.nil_append]
    refine f_done ?_
    refine f_tn (kh7 _ _ ?_)
    clear kh7
    refine f_seq fun K8 kh8 => ?_
    refine f_seq fun K9 kh9 => ?_
    obtain ⟨bo, bb, bH, vs, ms, hm, hmp, hR, hH⟩ := hS2
    refine f_subC (Sub.openAt (m := m2) hmp) ?_
    unfold ssegs
    dsimp only [List.cons_append, List.nil_append]
    refine f_region ?_
    refine f_stepP rfl rfl rfl (o_move rfl) ?_
    refine f_stepP rfl rfl rfl (o_nil rfl) ?_
    refine f_stepP rfl rfl rfl (o_field fa70_3 rfl) ?_
    refine f_stepP rfl rfl rfl (o_load Try.isAgg38 rfl (rdA rfl)) ?_
    refine f_stepP rfl rfl rfl (o_move rfl) ?_
    refine f_stepP rfl rfl rfl (o_idx sl38 rfl rfl (kt) ⟨by omega, by omega, by first | omega | (simp; done) | (simp; omega)⟩) ?_
    refine f_stepP rfl rfl rfl (o_load Try.isAgg30 rfl (rdA (u64s_at (dg_at (by omega))))) ?_
    refine f_stepP rfl rfl rfl (o_eql rfl rfl) ?_
    refine f_done ?_
    refine f_tn (kh9 _ _ ?_)
    clear kh9
    refine f_cond rfl (fun c32 => ?_) (fun c32 => ?_)
    · skip
      refine f_seq fun K10 kh10 => ?_
      refine f_region ?_
      refine f_stepP rfl rfl rfl (o_assign rfl) ?_
      refine f_stepP rfl rfl rfl (o_assign rfl) ?_
      refine f_stepP rfl rfl rfl (o_assign rfl) ?_
      refine f_done ?_
      refine f_tn (kh10 _ _ ?_)
      clear kh10
      refine f_ret ?_
      refine f_tr ?_
      exact f_fin3 [[]] Try.results13 rfl rfl rfl Sub.empty ⟨.slice none 0 0, [], [], _, by rw [hz], rfl, Own.nil _ _, fun h => absurd hz h, fun _ => ⟨by decide, by have h := hD.isB hkt; rw [c32] at h; exact h, fun _ => rfl, fun h => absurd h (by decide), by simp, fun i hi => by simp at hi⟩⟩
    · skip
      have hfin : dg d2 kt < INF := by
        have := (hSS2.rng kt hkt).2
        unfold INF at this ⊢
        omega
      have hto : kt ∈ o2 := (hSS2.ord kt).2 ⟨hkt, hfin, none_at ht2 (by rw [hSS2.lt]; exact hkt)⟩
      obtain ⟨p1, p2, hbk0⟩ := Back.start (e := l.map (trn false)) (d := d2) hto
      have hol : o2.length ≤ n := by have := free_len hSS2.nd (fun v hv => ((hSS2.ord v).1 hv).1); omega
      refine f_skip ?_
      refine f_tn (kh8 _ _ ?_)
      clear kh8
      refine f_seq fun K11 kh11 => ?_
      refine f_seq fun K12 kh12 => ?_
      refine f_region ?_
      refine f_stepP rfl rfl rfl (o_move rfl) ?_
      refine f_stepP rfl rfl rfl (o_assign rfl) ?_
      refine f_done ?_
      refine f_tn (kh12 _ _ ?_)
      clear kh12
      refine f_block ?_
      refine f_loop (α := Nat × List Nat × List Nat × List Nat × Value × Seg) [1, 2, 3, 10] (fun ⟨v, W, o1, ob, va, ma⟩ => [(11, .int .i64 (v : Int)), (6, va)]) (fun ⟨v, W, o1, ob, va, ma⟩ => [[(bx, blk (scells n A l.length cap false bo bd bb (.pointer (some ⟨bH, 0, none⟩))) 70)], [(bo, blk vs 28)], ms.flatten, [(bd, blk (u64s d2) 30)], [(bb, blk (ints by2) 3)], hm, ma, [(b3, blk [.int .i64 (n : Int), .slice A l.length cap] 24)]]) (fun ⟨v, W, o1, ob, va, ma⟩ => Back (l.map (trn false)) d2 o2 kt v W o1 ob ∧ Own 3 1 va W.length (ints (natsI W).reverse) ma) (fun ⟨v, W, o1, ob, va, ma⟩ => ob.length) (kt, [], p1, p2, .slice none 0 0, []) ?_ ?_ ?_ ?_
      · exact (by repeat (first | exact trivial | refine ⟨rfl, ?_⟩))
      · repeat (first | exact Sub.nil | refine Sub.pick ?_ | refine Sub.castO rfl ?_ | refine Sub.skip ?_)
      · exact ⟨hbk0, Own.nil _ _⟩
      · rintro ⟨v, W, o1, ob, va, ma⟩ ⟨hbk, hoa⟩
        refine f_seq fun K13 kh13 => ?_
        refine f_seq fun K14 kh14 => ?_
        refine f_region ?_
        refine f_stepP rfl rfl rfl (o_move rfl) ?_
        refine f_stepP rfl rfl rfl (o_move rfl) ?_
        refine f_stepP rfl rfl rfl (o_neq rfl rfl) ?_
        refine f_done ?_
        refine f_tn (kh14 _ _ ?_)
        clear kh14
        refine f_cond rfl (fun c36 => ?_) (fun c36 => ?_)
        · skip
          obtain ⟨i, hi, q1, q2, hby, hbk2, hlt⟩ := hbk.next hSS2 (by omega)
          have hil : i < l.length := by simpa using hi
          have hvn : v < n := ((hSS2.ord v).1 (by rw [hbk.ho]; simp)).1
          have hW : W.length ≤ n := by have := hbk.len; have := congrArg List.length hbk.ho; simp at this; omega
          have hei : (l.map (trn false))[i] = l[i] := by rw [trn_get _ hil]; rfl
          have hgi := hg.good i hil
          obtain ⟨Aa, ca, rfl, hca⟩ := hoa.val
          obtain ⟨bl, off, rfl, hS', hc⟩ := hr (flat_ne arcCs arcCs_len (by omega) hil)
          refine f_skip ?_
          refine f_tn (kh13 _ _ ?_)
          clear kh13
          refine f_seq fun K15 kh15 => ?_
          refine f_block ?_
          refine f_region ?_
          refine f_stepP rfl rfl rfl (o_move rfl) ?_
          refine f_stepP rfl rfl rfl (o_move rfl) ?_
          refine f_stepP rfl rfl rfl (o_nil rfl) ?_
          refine f_stepP rfl rfl rfl (o_field fa70_4 rfl) ?_
          refine f_stepP rfl rfl rfl (o_load Try.isAgg28 rfl (rdA rfl)) ?_
          refine f_stepP rfl rfl rfl (o_move rfl) ?_
          refine f_stepP rfl rfl rfl (o_idx sl28 rfl rfl (v) ⟨by omega, by omega, by first | omega | (simp; done) | (simp; omega)⟩) ?_
          refine f_stepP rfl rfl rfl (o_load Try.isAgg3 rfl (rdA (v := .int .i64 (i : Int)) (ints_at hby))) ?_
          refine f_step rfl rfl rfl (o_slice1 el28 (by omega) rfl rfl rfl fun b57 => ?_)
          refine f_step rfl rfl rfl (o_append el28 rfl rfl hoa (ys := [.int .i64 (i : Int)]) ⟨(rdA rfl), trivial⟩ rfl rfl (by omega) (by omega) fun v58 m58 o58 => ?_)
          refine f_stepP rfl rfl rfl (o_assign rfl) ?_
          refine f_done ?_
          refine f_bn ?_
          refine f_tn (kh15 _ _ ?_)
          clear kh15
          refine f_regionT 12 rfl (by decide +kernel) ?_
          refine f_stillP rfl rfl rfl (o_field fa24_1 rfl) ?_
          refine f_stillP rfl rfl rfl (o_load Try.isAgg22 rfl (rdA rfl)) ?_
          refine f_stillP rfl rfl rfl (o_move rfl) ?_
          refine f_stillP rfl rfl rfl (o_nil rfl) ?_
          refine f_stillP rfl rfl rfl (o_field fa70_4 rfl) ?_
          refine f_stillP rfl rfl rfl (o_load Try.isAgg28 rfl (rdA rfl)) ?_
          refine f_stillP rfl rfl rfl (o_move rfl) ?_
          refine f_stillP rfl rfl rfl (o_idx sl28 rfl rfl (v) ⟨by omega, by omega, by first | omega | (simp; done) | (simp; omega)⟩) ?_
          refine f_stillP rfl rfl rfl (o_load Try.isAgg3 rfl (rdA (v := .int .i64 (i : Int)) (ints_at hby))) ?_
          refine f_stillP rfl rfl rfl (o_idx sl22 rfl rfl (off + i * 3) ⟨by omega, by omega, by first | omega | (simp; done) | (simp; omega)⟩) ?_
          refine f_stillP rfl rfl rfl (o_field fa44_0 rfl) ?_
          refine f_stillP rfl rfl rfl (o_load Try.isAgg3 rfl (rdS hS' (by have := hc (i * 3 + 0) _ (by rw [flat_get arcCs arcCs_len l i 0 hil (by omega)]; rfl); rwa [← Nat.add_assoc] at this))) ?_
          refine f_stillD (f_tail ?_)
          refine f_stepP rfl rfl rfl (o_assign rfl) ?_
          refine f_done ?_
          rw [show l[i].src = ((l.map (trn false))[i].src.toNat : Int) from by rw [hei]; omega]
          refine f_tn (f_again ((l.map (trn false))[i].src.toNat, i :: W, q1, q2, v58, m58) (by first | omega | (dsimp only; omega) | (simp; omega)) ⟨hbk2, by rw [natsI_rev]; exact o58⟩ ?_ ?_ ?_)
          · exact (by repeat (first | exact trivial | refine ⟨rfl, ?_⟩))
          · exact (by repeat (first | exact trivial | refine ⟨rfl, ?_⟩))
          · repeat (first | exact Sub.nil | refine Sub.pick ?_ | refine Sub.castO rfl ?_ | refine Sub.skip ?_)
        · skip
          obtain rfl : v = ks := by omega
          have htold := hbk.told hSS2.nd hSS2.zero
          have hW : W.length ≤ n := by have := hbk.len; have := congrArg List.length hbk.ho; simp at this; omega
          obtain ⟨Aa, ca, rfl, hca⟩ := hoa.val
          refine f_exit ?_
          refine f_te ?_
          clear kh13
          refine f_te ?_
          refine f_be ?_
          refine f_tn (kh11 _ _ ?_)
          clear kh11
          refine f_seq fun K16 kh16 => ?_
          refine f_region ?_
          refine f_stepP rfl rfl rfl (o_move rfl) ?_
          refine f_step rfl rfl rfl (o_callM [ma] _ Try.call36 rfl (Sub.pick Sub.refl) (fun w_ hp_ => (by have h := SlRev_spec Aa ca (natsI W).reverse ma w_ (by rw [List.length_reverse, natsI_len]; exact hoa) (by rw [List.length_reverse, natsI_len]; omega) hp_.owns; rw [List.reverse_reverse, List.length_reverse, natsI_len] at h; exact h)) ?_)
          rintro _ _ ⟨rfl, ma2, rfl, hoa2⟩
          dsimp only [List.cons_append, List.nil_append]
          refine f_done ?_
          refine f_tn (kh16 _ _ ?_)
          clear kh16
          refine f_seq fun K17 kh17 => ?_
          refine f_regionH [[(bx, blk (scells n A l.length cap false bo bd bb (.pointer (some ⟨bH, 0, none⟩))) 70)], [(bd, blk (u64s d2) 30)]] rfl ?_
          refine f_take 0 rfl (by decide +kernel) rfl rfl rfl (by repeat (first | exact Sub.nil | refine Sub.pick ?_ | refine Sub.castO rfl ?_ | refine Sub.skip ?_)) (o_move rfl) ?_
          refine f_take 1 rfl (by decide +kernel) rfl rfl rfl (by repeat (first | exact Sub.nil | refine Sub.pick ?_ | refine Sub.castO rfl ?_ | refine Sub.skip ?_)) (o_move rfl) ?_
          refine f_take 2 rfl (by decide +kernel) rfl rfl rfl (by repeat (first | exact Sub.nil | refine Sub.pick ?_ | refine Sub.castO rfl ?_ | refine Sub.skip ?_)) (o_nil rfl) ?_
          refine f_take 3 rfl (by decide +kernel) rfl rfl rfl (by repeat (first | exact Sub.nil | refine Sub.pick ?_ | refine Sub.castO rfl ?_ | refine Sub.skip ?_)) (o_field fa70_3 rfl) ?_
          refine f_take 4 rfl (by decide +kernel) rfl rfl rfl (by repeat (first | exact Sub.nil | refine Sub.pick ?_ | refine Sub.castO rfl ?_ | refine Sub.skip ?_)) (o_load Try.isAgg38 rfl (rdA rfl)) ?_
          refine f_take 5 rfl (by decide +kernel) rfl rfl rfl (by repeat (first | exact Sub.nil | refine Sub.pick ?_ | refine Sub.castO rfl ?_ | refine Sub.skip ?_)) (o_move rfl) ?_
          refine f_take 6 rfl (by decide +kernel) rfl rfl rfl (by repeat (first | exact Sub.nil | refine Sub.pick ?_ | refine Sub.castO rfl ?_ | refine Sub.skip ?_)) (o_idx sl38 rfl rfl (kt) ⟨by omega, by omega, by first | omega | (simp; done) | (simp; omega)⟩) ?_
          refine f_take 7 rfl (by decide +kernel) rfl rfl rfl (by repeat (first | exact Sub.nil | refine Sub.pick ?_ | refine Sub.castO rfl ?_ | refine Sub.skip ?_)) (o_load Try.isAgg30 rfl (rdA (u64s_at (dg_at (by omega))))) ?_
          refine f_take 8 rfl (by decide +kernel) rfl rfl rfl (by repeat (first | exact Sub.nil | refine Sub.pick ?_ | refine Sub.castO rfl ?_ | refine Sub.skip ?_)) (o_assign rfl) ?_
          refine f_take 9 rfl (by decide +kernel) rfl rfl rfl (by repeat (first | exact Sub.nil | refine Sub.pick ?_ | refine Sub.castO rfl ?_ | refine Sub.skip ?_)) (o_assign rfl) ?_
          refine f_take 10 rfl (by decide +kernel) rfl rfl rfl (by repeat (first | exact Sub.nil | refine Sub.pick ?_ | refine Sub.castO rfl ?_ | refine Sub.skip ?_)) (o_assign rfl) ?_
          refine f_over (by decide +kernel) ?_
          refine f_tn (kh17 _ _ ?_)
          clear kh17
          refine f_ret ?_
          exact f_fin3 [ma2] Try.results13 rfl rfl rfl (by repeat (first | exact Sub.nil | refine Sub.pick ?_ | refine Sub.castO rfl ?_)) ⟨_, ma2, W, dg d2 kt, by rw [hz], rfl, hoa2, fun h => absurd hz h, fun _ => ⟨(hSS2.rng kt hkt).1, hD.isB hkt, fun h => absurd h (by omega), fun _ => htold, by omega, fun i hi => by have := chain_lt htold.chain i hi; simpa using this⟩⟩

end Go.Proofs.Ytegkdbicomedjaa
