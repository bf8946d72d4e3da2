/- Package flow: Check, Max, Cut. -/
import Derived.Test.YtnagjidfenfdbaaFFlow4
import Derived.Test.YtnagjidfenfdbaaPGraph
namespace Go.Proofs.Ytnagjidfenfdbaa
open Go Go.RowKit Fly
set_option linter.unusedVariables false
set_option linter.unusedSimpArgs false


def ncheck (N : Int) (l : List Arc) : Int × Int :=
  if N < 1 ∨ 1024 < N then (0, 1) else if 16384 < l.length then (0, 2) else
  match l.findIdx? (arcBad N) with
  | some i => (i, 60)
  | none => (0, 0)
theorem ncheck_range {N : Int} {l : List Arc} (h : N < 1 ∨ 1024 < N) : ncheck N l = (0, 1) := by simp [ncheck, h]
theorem ncheck_long {N : Int} {l : List Arc} (h : 1 ≤ N ∧ N ≤ 1024) (hl : 16384 < l.length) : ncheck N l = (0, 2) := by
  have : ¬ (N < 1 ∨ 1024 < N) := by omega
  simp [ncheck, this, hl]
theorem ncheck_ok {N : Int} {l : List Arc} (h : 1 ≤ N ∧ N ≤ 1024) (hl : l.length ≤ 16384) (hall : ∀ j (h : j < l.length), arcBad N l[j] = false) : ncheck N l = (0, 0) := by
  have h1 : ¬ (N < 1 ∨ 1024 < N) := by omega
  have h2 : ¬ 16384 < l.length := by omega
  have h3 : l.findIdx? (arcBad N) = none := by
    rw [List.findIdx?_eq_none_iff]
    intro x hx
    obtain ⟨j, hj, rfl⟩ := List.mem_iff_getElem.1 hx
    exact hall j hj
  simp [ncheck, h1, h2, h3]
theorem ncheck_bad {N : Int} {l : List Arc} {k : Nat} (h : 1 ≤ N ∧ N ≤ 1024) (hl : l.length ≤ 16384) (hk : k < l.length) (hall : ∀ j (h : j < l.length), j < k → arcBad N l[j] = false) (hb : arcBad N l[k] = true) :
    ncheck N l = ((k : Int), 60) := by
  have h1 : ¬ (N < 1 ∨ 1024 < N) := by omega
  have h2 : ¬ 16384 < l.length := by omega
  have h3 : l.findIdx? (arcBad N) = some k := by
    rw [List.findIdx?_eq_some_iff_getElem]
    exact ⟨hk, hb, fun j hj => by simp [hall j (by omega) hj]⟩
  simp [ncheck, h1, h2, h3]
theorem ncheck_zero {N : Int} {l : List Arc} (h : (ncheck N l).2 = 0) : 1 ≤ N ∧ N ≤ 1024 ∧ l.length ≤ 16384 ∧ ∀ k (hk : k < l.length), 0 ≤ l[k].src ∧ l[k].src < N ∧ 0 ≤ l[k].dst ∧ l[k].dst < N := by
  unfold ncheck at h
  split at h
  · simp at h
  · split at h
    · simp at h
    · cases hf : l.findIdx? (arcBad N) with
      | some i => rw [hf] at h; simp at h
      | none =>
        rw [List.findIdx?_eq_none_iff] at hf
        refine ⟨by omega, by omega, by omega, fun k hk => ?_⟩
        have := hf _ (List.getElem_mem hk)
        unfold arcBad at this
        simp at this; omega
def flooked (N : Int) (l : List Arc) (s t : Int) : Int := if (ncheck N l).2 ≠ 0 then (ncheck N l).2 else if s < 0 ∨ N ≤ s ∨ t < 0 ∨ N ≤ t then 5 else if s = t then 4 else 0
theorem flooked_zero {N : Int} {l : List Arc} {s t : Int} (h : flooked N l s t = 0) : (ncheck N l).2 = 0 ∧ 0 ≤ s ∧ s < N ∧ 0 ≤ t ∧ t < N ∧ s ≠ t := by
  unfold flooked at h
  split at h
  · rename_i h1; exact absurd h h1
  · split at h
    · simp at h
    · split at h
      · simp at h
      · rename_i h1 h2 h3; exact ⟨by simpa using h1, by omega, by omega, by omega, by omega, h3⟩
theorem nok_of {n : Nat} {l : List Arc} (h : (ncheck (n : Int) l).2 = 0) (hok : ∀ x ∈ l, ArcOk x) : NOk n l := by
  obtain ⟨h1, h2, h3, h4⟩ := ncheck_zero h
  exact ⟨by omega, h3, h4, hok⟩
def u32s (l : List Int) : List Value := l.map (.int .u32 ·)
theorem u32s_len (l : List Int) : (u32s l).length = l.length := by simp [u32s]
theorem u32s_set (l : List Int) (i : Nat) (x : Int) : (u32s l).set i (.int .u32 x) = u32s (l.set i x) := by simp [u32s, List.map_set]
theorem u32s_at {l : List Int} {i : Nat} (h : i < l.length) : (u32s l)[i]? = some (.int .u32 (flAt l i)) := by rw [flAt_eq h]; simp [u32s, h]
theorem u32s0 (n : Nat) : (List.replicate n [Value.int .u32 0]).flatten = u32s (List.replicate n 0) := by
  induction n with
  | zero => rfl
  | succ n ih => simp only [List.replicate_succ, List.flatten_cons, ih]; rfl
theorem fl_ext {f g : List Int} (hl : f.length = g.length) (h : ∀ j, j < f.length → flAt f j = flAt g j) : f = g :=
  List.ext_getElem hl fun j a b => by have := h j a; rwa [flAt_eq a, flAt_eq b] at this
/-- What Max answers. -/
def MaxΦ (N : Int) (e : List Arc) (s t : Int) (u : Value) (own : List Seg) : Prop :=
  ∃ V v m f, u = .tuple #[.int .u64 V, v, .int .i64 (flooked N e s t)] ∧ own = [m] ∧ Own 50 1 v f.length (u32s f) m ∧ (flooked N e s t ≠ 0 → V = 0 ∧ f = []) ∧
    (flooked N e s t = 0 → Flow N.toNat e s.toNat t.toNat f V ∧ (∃ A, Side N.toNat e s.toNat t.toNat f A) ∧ 0 ≤ V ∧ V ≤ 70368744161280)
/-- The edges of a cut. -/
def cutP (sd : List Bool) (x : Arc) : Bool := sd.getD x.src.toNat false && !sd.getD x.dst.toNat false
/-- What Cut answers. -/
def CutΦ (N : Int) (e : List Arc) (s t : Int) (u : Value) (own : List Seg) : Prop :=
  ∃ V v m sd A c m2 W, u = .tuple #[v, .slice A W.length W.length, .int .u64 V, .int .i64 (flooked N e s t)] ∧ own = [m, m2] ∧ Own 4 1 v sd.length (sd.map .bool) m ∧ Own 3 1 (.slice A W.length c) W.length (ints W) m2 ∧
    (flooked N e s t ≠ 0 → V = 0 ∧ sd = [] ∧ W = []) ∧
    (flooked N e s t = 0 → sd.length = N.toNat ∧ W = idxs (cutP sd) e ∧ (∃ f, Flow N.toNat e s.toNat t.toNat f V ∧ Side N.toNat e s.toNat t.toNat f (fun v => sd.getD v false)) ∧ 0 ≤ V ∧ V ≤ 70368744161280)
theorem Side.congr {n : Nat} {e : List Arc} {s t : Nat} {f : List Int} {A B : Nat → Bool} (h : Side n e s t f A) (he : NetOk n e) (hs : s < n) (ht : t < n) (hAB : ∀ v, v < n → A v = B v) : Side n e s t f B where
  src := by rw [← hAB s hs]; exact h.src
  dst := by rw [← hAB t ht]; exact h.dst
  shut := fun k hk hl hB => by rw [← hAB _ (kto_lt he hk)]; exact h.shut k hk hl (by rw [hAB _ (kfrom_lt he hk)]; exact hB)
  reach := fun v hv hB => h.reach v hv (by rw [hAB v hv]; exact hB)
theorem bools_rep (b : Bool) (n : Nat) : (List.replicate n [Value.bool b]).flatten = (List.replicate n b).map .bool := by
  induction n with
  | zero => rfl
  | succ n ih => simp only [List.replicate_succ, List.flatten_cons, List.map_cons, ih]; rfl
theorem bools_set (l : List Bool) (i : Nat) (b : Bool) : (l.map Value.bool).set i (.bool b) = (l.set i b).map .bool := by rw [List.map_set]
theorem bools_at {l : List Bool} {i : Nat} (h : i < l.length) : (l.map Value.bool)[i]? = some (.bool (l.getD i false)) := by simp [List.getD_eq_getElem?_getD, h]

/-- Truths in memory of just their size. -/
def OwnB (v : Value) (sd : List Bool) (m : Seg) : Prop := (sd = [] ∧ v = .slice none 0 0 ∧ m = []) ∨ ∃ b, v = .slice (some ⟨b, 0, none⟩) sd.length sd.length ∧ m = [(b, blk (sd.map .bool) 4)]
theorem OwnB.own {v : Value} {sd : List Bool} {m : Seg} (h : OwnB v sd m) (hm : sd.length ≤ 9223372036854775807) : Own 4 1 v sd.length (sd.map .bool) m := by
  rcases h with ⟨rfl, rfl, rfl⟩ | ⟨b, rfl, rfl⟩
  · exact Own.nil _ _
  · exact Own.mk (by simp) hm
def CutΦ2 (N : Int) (e : List Arc) (s t : Int) (u : Value) (own : List Seg) : Prop :=
  ∃ V v m sd A c m2 W, u = .tuple #[v, .slice A W.length W.length, .int .u64 V, .int .i64 (flooked N e s t)] ∧ own = [m, m2] ∧ OwnB v sd m ∧ Own 3 1 (.slice A W.length c) W.length (ints W) m2 ∧
    (flooked N e s t ≠ 0 → V = 0 ∧ sd = [] ∧ W = []) ∧
    (flooked N e s t = 0 → sd.length = N.toNat ∧ W = idxs (cutP sd) e ∧ (∃ f, Flow N.toNat e s.toNat t.toNat f V ∧ Side N.toNat e s.toNat t.toNat f (fun v => sd.getD v false)) ∧ 0 ≤ V ∧ V ≤ 70368744161280)
theorem own_u32 {b n : Nat} {f : List Int} (h : f.length = n) (hn : n ≤ 16384) : Own 50 1 (.slice (some ⟨b, 0, none⟩) n n) f.length (u32s f) [(b, blk (u32s f) 50)] := by
  subst h; exact Own.mk (by rw [u32s_len]; omega) (by omega)
theorem own_bools {b n : Nat} {sd : List Bool} (h : sd.length = n) (hn : n ≤ 1024) : Own 4 1 (.slice (some ⟨b, 0, none⟩) n n) sd.length (sd.map .bool) [(b, blk (sd.map .bool) 4)] := by
  subst h; exact Own.mk (by simp) (by omega)

set_option maxRecDepth 100000 in
set_option maxHeartbeats 4000000 in
theorem FCheck_spec (N : Int) (A : Option Addr) (l : List Arc) (cap : Nat) (w : World) (hr : Ro (Fr w []) w A (l.flatMap arcCs)) (hl : l.length ≤ 9223372036854775807) (hN : I64 N) (hok : ∀ x ∈ l, ArcOk x) :
    Meets Try.prog 12 [.agg #[.int .i64 N, .slice A l.length cap]] w [] (fun v m => v = .tuple #[.int .i64 (ncheck N l).1, .int .i64 (ncheck N l).2] ∧ m = []) := by
  refine f_enter Try.func12 rfl Try.ntmps12 rfl Owns.nil ?_
  refine f_seq fun K1 kh1 => ?_
  refine f_region ?_
  refine f_step rfl rfl rfl (o_box rfl rfl fun b1 => ?_)
  refine f_stepP rfl rfl rfl (o_assign rfl) ?_
  refine f_stepP rfl rfl rfl (o_assign rfl) ?_
  refine f_done ?_
  refine f_tn (kh1 _ _ ?_)
  clear kh1
  refine f_seq fun K2 kh2 => ?_
  refine f_seq fun K3 kh3 => ?_
  refine f_region ?_
  refine f_stepP rfl rfl rfl (o_field fa24_0 rfl) ?_
  refine f_stepP rfl rfl rfl (o_load Try.isAgg3 rfl (rdA rfl)) ?_
  refine f_stepP rfl rfl rfl (o_lss rfl rfl) ?_
  refine f_stepP rfl rfl rfl (o_move rfl) ?_
  refine f_splitL 9 rfl (fun g9 => ?_) (fun g9 => ?_)
  · skip
    refine f_stepN rfl rfl rfl rfl rfl rfl ?_
    refine f_stepN rfl rfl rfl rfl rfl rfl ?_
    refine f_stepN rfl rfl rfl rfl rfl rfl ?_
    refine f_stepP rfl rfl rfl (o_pickT rfl rfl) ?_
    refine f_done ?_
    refine f_tn (kh3 _ _ ?_)
    clear kh3
    refine f_condT rfl ?_
    refine f_seq fun K4 kh4 => ?_
    refine f_region ?_
    refine f_stepP rfl rfl rfl (o_assign rfl) ?_
    refine f_stepP rfl rfl rfl (o_assign rfl) ?_
    refine f_done ?_
    refine f_tn (kh4 _ _ ?_)
    clear kh4
    refine f_ret ?_
    refine f_tr ?_
    exact f_fin2 [] Try.results12 rfl rfl Sub.nil ⟨by rw [ncheck_range (by omega)], rfl⟩
  · skip
    refine f_stepPY rfl rfl rfl rfl rfl (o_field fa24_0 rfl) ?_
    refine f_stepPY rfl rfl rfl rfl rfl (o_load Try.isAgg3 rfl (rdA rfl)) ?_
    refine f_stepPY rfl rfl rfl rfl rfl (o_gtr rfl rfl) ?_
    refine f_stepP rfl rfl rfl (o_pickF rfl rfl) ?_
    refine f_done ?_
    refine f_tn (kh3 _ _ ?_)
    clear kh3
    refine f_cond rfl (fun c13 => ?_) (fun c13 => ?_)
    · skip
      refine f_seq fun K5 kh5 => ?_
      refine f_region ?_
      refine f_stepP rfl rfl rfl (o_assign rfl) ?_
      refine f_stepP rfl rfl rfl (o_assign rfl) ?_
      refine f_done ?_
      refine f_tn (kh5 _ _ ?_)
      clear kh5
      refine f_ret ?_
      refine f_tr ?_
      exact f_fin2 [] Try.results12 rfl rfl Sub.nil ⟨by rw [ncheck_range (by omega)], rfl⟩
    · skip
      have hN1 : 1 ≤ N ∧ N ≤ 1024 := by omega
      refine f_skip ?_
      refine f_tn (kh2 _ _ ?_)
      clear kh2
      refine f_seq fun K6 kh6 => ?_
      refine f_seq fun K7 kh7 => ?_
      refine f_region ?_
      refine f_stepP rfl rfl rfl (o_field fa24_1 rfl) ?_
      refine f_stepP rfl rfl rfl (o_load Try.isAgg22 rfl (rdA rfl)) ?_
      refine f_stepP rfl rfl rfl (o_len sl22 rfl) ?_
      refine f_stepP rfl rfl rfl (o_gtr rfl rfl) ?_
      refine f_done ?_
      refine f_tn (kh7 _ _ ?_)
      clear kh7
      refine f_cond rfl (fun c17 => ?_) (fun c17 => ?_)
      · skip
        refine f_seq fun K8 kh8 => ?_
        refine f_region ?_
        refine f_stepP rfl rfl rfl (o_assign rfl) ?_
        refine f_stepP rfl rfl rfl (o_assign rfl) ?_
        refine f_done ?_
        refine f_tn (kh8 _ _ ?_)
        clear kh8
        refine f_ret ?_
        refine f_tr ?_
        exact f_fin2 [] Try.results12 rfl rfl Sub.nil ⟨by rw [ncheck_long hN1 (by omega)], rfl⟩
      · skip
        refine f_skip ?_
        refine f_tn (kh6 _ _ ?_)
        clear kh6
        refine f_seq fun K9 kh9 => ?_
        refine f_seq fun K10 kh10 => ?_
        refine f_region ?_
        refine f_stepP rfl rfl rfl (o_field fa24_1 rfl) ?_
        refine f_stepP rfl rfl rfl (o_load Try.isAgg22 rfl (rdA rfl)) ?_
        refine f_stepP rfl rfl rfl (o_len sl22 rfl) ?_
        refine f_stepP rfl rfl rfl (o_move rfl) ?_
        refine f_done ?_
        refine f_tn (kh10 _ _ ?_)
        clear kh10
        refine f_block ?_
        refine f_loop (α := Nat) [1, 19, 20] (fun k => [(21, .int .i64 (k : Int))]) (fun k => [[(b1, blk [.int .i64 N, .slice A l.length cap] 24)]]) (fun k => k ≤ l.length ∧ ∀ j (h : j < l.length), j < k → arcBad N l[j] = false) (fun k => l.length - k) (0) ?_ ?_ ?_ ?_
        · exact (by repeat (first | exact trivial | refine ⟨rfl, ?_⟩))
        · repeat (first | exact Sub.nil | refine Sub.pick ?_ | refine Sub.castO rfl ?_ | refine Sub.skip ?_)
        · exact ⟨by omega, fun j h hj => by omega⟩
        · rintro k ⟨hkl, hall⟩
          refine f_seq fun K11 kh11 => ?_
          refine f_region ?_
          refine f_stepP rfl rfl rfl (o_lss rfl rfl) ?_
          refine f_done ?_
          refine f_tn (kh11 _ _ ?_)
          clear kh11
          refine f_seq fun K12 kh12 => ?_
          refine f_cond rfl (fun c22 => ?_) (fun c22 => ?_)
          · skip
            refine f_skip ?_
            refine f_tn (kh12 _ _ ?_)
            clear kh12
            refine f_seq fun K13 kh13 => ?_
            refine f_block ?_
            refine f_seq fun K14 kh14 => ?_
            refine f_region ?_
            refine f_stepP rfl rfl rfl (o_move rfl) ?_
            have hk : k < l.length := by omega
            obtain ⟨b, off, rfl, hS, hc⟩ := hr (flat_ne arcCs arcCs_len (by omega) hk)
            refine f_stepP rfl rfl rfl (o_idx sl22 rfl rfl (off + k * 3) ⟨by omega, by omega, by first | omega | (simp; done) | (simp; omega)⟩) ?_
            refine f_stepP rfl rfl rfl (o_loadA (vs := arcCs l[k]) Try.isAgg52 Try.sizeOf52 rfl rfl (roElem arcCs_len hS hc hk)) ?_
            refine f_step rfl rfl rfl (o_alloc Try.zeroValue52 rfl fun b5 => ?_)
            refine f_stepP rfl rfl rfl (o_assign rfl) ?_
            refine f_step0 rfl rfl (o_storeA Try.sizeOf52 rfl rfl rfl rfl (by first | exact Nat.le_of_ble_eq_true rfl | (simp; done) | (simp; omega)) (arcCs l[k]) rfl ?_)
            refine f_done ?_
            refine f_tn (kh14 _ _ ?_)
            clear kh14
            refine f_seq fun K15 kh15 => ?_
            refine f_region ?_
            refine f_stepP rfl rfl rfl (o_field fa52_0 rfl) ?_
            refine f_stepP rfl rfl rfl (o_load Try.isAgg3 rfl (rdA rfl)) ?_
            refine f_stepP rfl rfl rfl (o_conv Try.runUnderlying3 Try.runUnderlying56 rfl _ rfl) ?_
            refine f_stepP rfl rfl rfl (o_field fa24_0 rfl) ?_
            refine f_stepP rfl rfl rfl (o_load Try.isAgg3 rfl (rdA rfl)) ?_
            refine f_stepP rfl rfl rfl (o_conv Try.runUnderlying3 Try.runUnderlying56 rfl _ rfl) ?_
            refine f_stepP rfl rfl rfl (o_geq rfl rfl) ?_
            refine f_stepP rfl rfl rfl (o_move rfl) ?_
            refine f_splitL 33 rfl (fun g33 => ?_) (fun g33 => ?_)
            · skip
              refine f_stepN rfl rfl rfl rfl rfl rfl ?_
              refine f_stepN rfl rfl rfl rfl rfl rfl ?_
              refine f_stepN rfl rfl rfl rfl rfl rfl ?_
              refine f_stepN rfl rfl rfl rfl rfl rfl ?_
              refine f_stepN rfl rfl rfl rfl rfl rfl ?_
              refine f_stepN rfl rfl rfl rfl rfl rfl ?_
              refine f_stepN rfl rfl rfl rfl rfl rfl ?_
              refine f_stepP rfl rfl rfl (o_pickT rfl rfl) ?_
              refine f_done ?_
              refine f_tn (kh15 _ _ ?_)
              clear kh15
              refine f_condT rfl ?_
              refine f_seq fun K16 kh16 => ?_
              refine f_region ?_
              refine f_stepP rfl rfl rfl (o_move rfl) ?_
              refine f_stepP rfl rfl rfl (o_assign rfl) ?_
              refine f_stepP rfl rfl rfl (o_assign rfl) ?_
              refine f_done ?_
              refine f_tn (kh16 _ _ ?_)
              clear kh16
              refine f_ret ?_
              refine f_br ?_
              refine f_tr ?_
              refine f_tr ?_
              refine f_br ?_
              refine f_tr ?_
              exact f_fin2 [] Try.results12 rfl rfl Sub.nil ⟨by rw [ncheck_bad hN1 (by omega) hk hall (arcBadL hN1 (hok _ (List.getElem_mem hk)) g33)], rfl⟩
            · skip
              refine f_stepPY rfl rfl rfl rfl rfl (o_field fa52_1 rfl) ?_
              refine f_stepPY rfl rfl rfl rfl rfl (o_load Try.isAgg3 rfl (rdA rfl)) ?_
              refine f_stepPY rfl rfl rfl rfl rfl (o_conv Try.runUnderlying3 Try.runUnderlying56 rfl _ rfl) ?_
              refine f_stepPY rfl rfl rfl rfl rfl (o_field fa24_0 rfl) ?_
              refine f_stepPY rfl rfl rfl rfl rfl (o_load Try.isAgg3 rfl (rdA rfl)) ?_
              refine f_stepPY rfl rfl rfl rfl rfl (o_conv Try.runUnderlying3 Try.runUnderlying56 rfl _ rfl) ?_
              refine f_stepPY rfl rfl rfl rfl rfl (o_geq rfl rfl) ?_
              refine f_stepP rfl rfl rfl (o_pickF rfl rfl) ?_
              refine f_done ?_
              refine f_tn (kh15 _ _ ?_)
              clear kh15
              refine f_cond rfl (fun c41 => ?_) (fun c41 => ?_)
              · skip
                refine f_seq fun K17 kh17 => ?_
                refine f_region ?_
                refine f_stepP rfl rfl rfl (o_move rfl) ?_
                refine f_stepP rfl rfl rfl (o_assign rfl) ?_
                refine f_stepP rfl rfl rfl (o_assign rfl) ?_
                refine f_done ?_
                refine f_tn (kh17 _ _ ?_)
                clear kh17
                refine f_ret ?_
                refine f_br ?_
                refine f_tr ?_
                refine f_tr ?_
                refine f_br ?_
                refine f_tr ?_
                exact f_fin2 [] Try.results12 rfl rfl Sub.nil ⟨by rw [ncheck_bad hN1 (by omega) hk hall (arcBadR hN1 (hok _ (List.getElem_mem hk)) c41)], rfl⟩
              · skip
                refine f_skip ?_
                refine f_bn ?_
                refine f_tn (kh13 _ _ ?_)
                clear kh13
                refine f_region ?_
                refine f_stepP rfl rfl rfl (o_add rfl rfl _ (wrap_i64 (by omega))) ?_
                refine f_stepP rfl rfl rfl (o_move rfl) ?_
                refine f_done ?_
                refine f_tn (f_again (k + 1) (by first | omega | (dsimp only; omega) | (simp; omega)) ⟨by omega, good_next hall (arcGood hN1 (hok _ (List.getElem_mem hk)) g33 c41)⟩ ?_ ?_ ?_)
                · exact (by repeat (first | exact trivial | refine ⟨rfl, ?_⟩))
                · exact (by repeat (first | exact trivial | refine ⟨rfl, ?_⟩))
                · repeat (first | exact Sub.nil | refine Sub.pick ?_ | refine Sub.castO rfl ?_ | refine Sub.skip ?_)
          · skip
            refine f_exit ?_
            refine f_te ?_
            clear kh12
            refine f_te ?_
            refine f_be ?_
            refine f_tn (kh9 _ _ ?_)
            clear kh9
            refine f_seq fun K18 kh18 => ?_
            refine f_region ?_
            refine f_stepP rfl rfl rfl (o_assign rfl) ?_
            refine f_stepP rfl rfl rfl (o_assign rfl) ?_
            refine f_done ?_
            refine f_tn (kh18 _ _ ?_)
            clear kh18
            refine f_ret ?_
            exact f_fin2 [] Try.results12 rfl rfl Sub.nil ⟨by rw [ncheck_ok hN1 (by omega) (fun j h => hall j h (by omega))], rfl⟩

set_option maxRecDepth 100000 in
set_option maxHeartbeats 4000000 in
theorem FLooked_spec (N : Int) (A : Option Addr) (l : List Arc) (cap : Nat) (s t : Int) (w : World) (hr : Ro (Fr w []) w A (l.flatMap arcCs)) (hl : l.length ≤ 9223372036854775807) (hN : I64 N) (hok : ∀ x ∈ l, ArcOk x) :
    Meets Try.prog 25 [.agg #[.int .i64 N, .slice A l.length cap], .int .i64 s, .int .i64 t] w [] (fun u m => u = .int .i64 (flooked N l s t) ∧ m = []) := by
  refine f_enter Try.func25 rfl Try.ntmps25 rfl Owns.nil ?_
  refine f_seq fun K1 kh1 => ?_
  refine f_region ?_
  refine f_step rfl rfl rfl (o_box rfl rfl fun b3 => ?_)
  refine f_stepP rfl rfl rfl (o_assign rfl) ?_
  refine f_done ?_
  refine f_tn (kh1 _ _ ?_)
  clear kh1
  refine f_seq fun K2 kh2 => ?_
  refine f_seq fun K3 kh3 => ?_
  refine f_region ?_
  refine f_stepP rfl rfl rfl (o_loadA (vs := [_, _]) Try.isAgg24 Try.sizeOf24 rfl rfl ⟨(rdA rfl), (rdA rfl), trivial⟩) ?_
  refine f_step rfl rfl rfl (o_call Try.call12 rfl (fun w_ hp_ => FCheck_spec N A l cap w_ (hr.up0 hp_) hl hN hok) ?_)
  rintro _ _ ⟨rfl, rfl⟩
  dsimp only [List.cons_append, List.nil_append]
  refine f_stepP rfl rfl rfl (o_move rfl) ?_
  refine f_stepP rfl rfl rfl (o_extract rfl rfl) ?_
  refine f_stepP rfl rfl rfl (o_extract rfl rfl) ?_
  refine f_stepP rfl rfl rfl (o_assign rfl) ?_
  refine f_stepP rfl rfl rfl (o_assign rfl) ?_
  refine f_done ?_
  refine f_tn (kh3 _ _ ?_)
  clear kh3
  refine f_seq fun K4 kh4 => ?_
  refine f_region ?_
  refine f_stepP rfl rfl rfl (o_move rfl) ?_
  refine f_stepP rfl rfl rfl (o_neq rfl rfl) ?_
  refine f_done ?_
  refine f_tn (kh4 _ _ ?_)
  clear kh4
  refine f_cond rfl (fun c15 => ?_) (fun c15 => ?_)
  · skip
    refine f_seq fun K5 kh5 => ?_
    refine f_region ?_
    refine f_stepP rfl rfl rfl (o_move rfl) ?_
    refine f_stepP rfl rfl rfl (o_assign rfl) ?_
    refine f_done ?_
    refine f_tn (kh5 _ _ ?_)
    clear kh5
    refine f_ret ?_
    refine f_tr ?_
    exact f_fin1 [] Try.results25 rfl Sub.nil ⟨by unfold flooked; rw [if_pos (by simpa using c15)], rfl⟩
  · skip
    refine f_skip ?_
    refine f_tn (kh2 _ _ ?_)
    clear kh2
    refine f_seq fun K6 kh6 => ?_
    refine f_block ?_
    refine f_seq fun K7 kh7 => ?_
    refine f_region ?_
    refine f_stepP rfl rfl rfl (o_move rfl) ?_
    refine f_stepP rfl rfl rfl (o_lss rfl rfl) ?_
    refine f_stepP rfl rfl rfl (o_move rfl) ?_
    refine f_splitL 20 rfl (fun g20 => ?_) (fun g20 => ?_)
    · skip
      refine f_stepN rfl rfl rfl rfl rfl rfl ?_
      refine f_stepN rfl rfl rfl rfl rfl rfl ?_
      refine f_stepN rfl rfl rfl rfl rfl rfl ?_
      refine f_stepN rfl rfl rfl rfl rfl rfl ?_
      refine f_stepP rfl rfl rfl (o_pickT rfl rfl) ?_
      refine f_stepP rfl rfl rfl (o_move rfl) ?_
      refine f_stepN rfl rfl rfl rfl rfl rfl ?_
      refine f_stepN rfl rfl rfl rfl rfl rfl ?_
      refine f_stepP rfl rfl rfl (o_pickT rfl rfl) ?_
      refine f_stepP rfl rfl rfl (o_move rfl) ?_
      refine f_stepN rfl rfl rfl rfl rfl rfl ?_
      refine f_stepN rfl rfl rfl rfl rfl rfl ?_
      refine f_stepN rfl rfl rfl rfl rfl rfl ?_
      refine f_stepN rfl rfl rfl rfl rfl rfl ?_
      refine f_stepP rfl rfl rfl (o_pickT rfl rfl) ?_
      refine f_stepP rfl rfl rfl (o_assign rfl) ?_
      refine f_done ?_
      refine f_tn (kh7 _ _ ?_)
      clear kh7
      refine f_condT rfl ?_
      refine f_seq fun K8 kh8 => ?_
      refine f_region ?_
      refine f_stepP rfl rfl rfl (o_assign rfl) ?_
      refine f_done ?_
      refine f_tn (kh8 _ _ ?_)
      clear kh8
      refine f_ret ?_
      refine f_br ?_
      refine f_tr ?_
      exact f_fin1 [] Try.results25 rfl Sub.nil ⟨by unfold flooked; rw [if_neg (by simpa using c15), if_pos (by omega)], rfl⟩
    · skip
      refine f_stepPY rfl rfl rfl rfl rfl (o_move rfl) ?_
      refine f_stepPY rfl rfl rfl rfl rfl (o_field fa24_0 rfl) ?_
      refine f_stepPY rfl rfl rfl rfl rfl (o_load Try.isAgg3 rfl (rdA rfl)) ?_
      refine f_stepPY rfl rfl rfl rfl rfl (o_geq rfl rfl) ?_
      refine f_stepP rfl rfl rfl (o_pickF rfl rfl) ?_
      refine f_stepP rfl rfl rfl (o_move rfl) ?_
      refine f_splitL 26 rfl (fun g26 => ?_) (fun g26 => ?_)
      · skip
        refine f_stepN rfl rfl rfl rfl rfl rfl ?_
        refine f_stepN rfl rfl rfl rfl rfl rfl ?_
        refine f_stepP rfl rfl rfl (o_pickT rfl rfl) ?_
        refine f_stepP rfl rfl rfl (o_move rfl) ?_
        refine f_stepN rfl rfl rfl rfl rfl rfl ?_
        refine f_stepN rfl rfl rfl rfl rfl rfl ?_
        refine f_stepN rfl rfl rfl rfl rfl rfl ?_
        refine f_stepN rfl rfl rfl rfl rfl rfl ?_
        refine f_stepP rfl rfl rfl (o_pickT rfl rfl) ?_
        refine f_stepP rfl rfl rfl (o_assign rfl) ?_
        refine f_done ?_
        refine f_tn (kh7 _ _ ?_)
        clear kh7
        refine f_condT rfl ?_
        refine f_seq fun K9 kh9 => ?_
        refine f_region ?_
        refine f_stepP rfl rfl rfl (o_assign rfl) ?_
        refine f_done ?_
        refine f_tn (kh9 _ _ ?_)
        clear kh9
        refine f_ret ?_
        refine f_br ?_
        refine f_tr ?_
        exact f_fin1 [] Try.results25 rfl Sub.nil ⟨by unfold flooked; rw [if_neg (by simpa using c15), if_pos (by omega)], rfl⟩
      · skip
        refine f_stepPY rfl rfl rfl rfl rfl (o_move rfl) ?_
        refine f_stepPY rfl rfl rfl rfl rfl (o_lss rfl rfl) ?_
        refine f_stepP rfl rfl rfl (o_pickF rfl rfl) ?_
        refine f_stepP rfl rfl rfl (o_move rfl) ?_
        refine f_splitL 30 rfl (fun g30 => ?_) (fun g30 => ?_)
        · skip
          refine f_stepN rfl rfl rfl rfl rfl rfl ?_
          refine f_stepN rfl rfl rfl rfl rfl rfl ?_
          refine f_stepN rfl rfl rfl rfl rfl rfl ?_
          refine f_stepN rfl rfl rfl rfl rfl rfl ?_
          refine f_stepP rfl rfl rfl (o_pickT rfl rfl) ?_
          refine f_stepP rfl rfl rfl (o_assign rfl) ?_
          refine f_done ?_
          refine f_tn (kh7 _ _ ?_)
          clear kh7
          refine f_condT rfl ?_
          refine f_seq fun K10 kh10 => ?_
          refine f_region ?_
          refine f_stepP rfl rfl rfl (o_assign rfl) ?_
          refine f_done ?_
          refine f_tn (kh10 _ _ ?_)
          clear kh10
          refine f_ret ?_
          refine f_br ?_
          refine f_tr ?_
          exact f_fin1 [] Try.results25 rfl Sub.nil ⟨by unfold flooked; rw [if_neg (by simpa using c15), if_pos (by omega)], rfl⟩
        · skip
          refine f_stepPY rfl rfl rfl rfl rfl (o_move rfl) ?_
          refine f_stepPY rfl rfl rfl rfl rfl (o_field fa24_0 rfl) ?_
          refine f_stepPY rfl rfl rfl rfl rfl (o_load Try.isAgg3 rfl (rdA rfl)) ?_
          refine f_stepPY rfl rfl rfl rfl rfl (o_geq rfl rfl) ?_
          refine f_stepP rfl rfl rfl (o_pickF rfl rfl) ?_
          refine f_stepP rfl rfl rfl (o_assign rfl) ?_
          refine f_done ?_
          refine f_tn (kh7 _ _ ?_)
          clear kh7
          refine f_cond rfl (fun c17 => ?_) (fun c17 => ?_)
          · skip
            refine f_seq fun K11 kh11 => ?_
            refine f_region ?_
            refine f_stepP rfl rfl rfl (o_assign rfl) ?_
            refine f_done ?_
            refine f_tn (kh11 _ _ ?_)
            clear kh11
            refine f_ret ?_
            refine f_br ?_
            refine f_tr ?_
            exact f_fin1 [] Try.results25 rfl Sub.nil ⟨by unfold flooked; rw [if_neg (by simpa using c15), if_pos (by omega)], rfl⟩
          · skip
            refine f_seq fun K12 kh12 => ?_
            refine f_region ?_
            refine f_stepP rfl rfl rfl (o_move rfl) ?_
            refine f_stepP rfl rfl rfl (o_move rfl) ?_
            refine f_stepP rfl rfl rfl (o_eql rfl rfl) ?_
            refine f_stepP rfl rfl rfl (o_assign rfl) ?_
            refine f_done ?_
            refine f_tn (kh12 _ _ ?_)
            clear kh12
            refine f_cond rfl (fun c36 => ?_) (fun c36 => ?_)
            · skip
              refine f_seq fun K13 kh13 => ?_
              refine f_region ?_
              refine f_stepP rfl rfl rfl (o_assign rfl) ?_
              refine f_done ?_
              refine f_tn (kh13 _ _ ?_)
              clear kh13
              refine f_ret ?_
              refine f_br ?_
              refine f_tr ?_
              exact f_fin1 [] Try.results25 rfl Sub.nil ⟨by unfold flooked; rw [if_neg (by simpa using c15), if_neg (by omega), if_pos (by omega)], rfl⟩
            · skip
              refine f_skip ?_
              refine f_bn ?_
              refine f_tn (kh6 _ _ ?_)
              clear kh6
              refine f_seq fun K14 kh14 => ?_
              refine f_region ?_
              refine f_stepP rfl rfl rfl (o_assign rfl) ?_
              refine f_done ?_
              refine f_tn (kh14 _ _ ?_)
              clear kh14
              refine f_ret ?_
              exact f_fin1 [] Try.results25 rfl Sub.nil ⟨by unfold flooked; rw [if_neg (by simpa using c15), if_neg (by omega), if_neg (by omega)], rfl⟩

set_option maxRecDepth 100000 in
set_option maxHeartbeats 4000000 in
theorem Max_spec (N : Int) (A : Option Addr) (l : List Arc) (cap : Nat) (s t : Int) (w : World) (hr : Ro (Fr w []) w A (l.flatMap arcCs)) (hl : l.length ≤ 9223372036854775807) (hN : I64 N) (hok : ∀ x ∈ l, ArcOk x) :
    Meets Try.prog 21 [.agg #[.int .i64 N, .slice A l.length cap], .int .i64 s, .int .i64 t] w [] (MaxΦ N l s t) := by
  refine f_enter Try.func21 rfl Try.ntmps21 rfl Owns.nil ?_
  refine f_seq fun K1 kh1 => ?_
  refine f_region ?_
  refine f_step rfl rfl rfl (o_box rfl rfl fun b3 => ?_)
  refine f_stepP rfl rfl rfl (o_assign rfl) ?_
  refine f_stepP rfl rfl rfl (o_assign rfl) ?_
  refine f_stepP rfl rfl rfl (o_assign rfl) ?_
  refine f_done ?_
  refine f_tn (kh1 _ _ ?_)
  clear kh1
  refine f_seq fun K2 kh2 => ?_
  refine f_seq fun K3 kh3 => ?_
  refine f_region ?_
  refine f_stepP rfl rfl rfl (o_loadA (vs := [_, _]) Try.isAgg24 Try.sizeOf24 rfl rfl ⟨(rdA rfl), (rdA rfl), trivial⟩) ?_
  refine f_stepP rfl rfl rfl (o_move rfl) ?_
  refine f_stepP rfl rfl rfl (o_move rfl) ?_
  refine f_step rfl rfl rfl (o_call Try.call25 rfl (fun w_ hp_ => FLooked_spec N A l cap s t w_ (hr.up0 hp_) hl hN hok) ?_)
  rintro _ _ ⟨rfl, rfl⟩
  dsimp only [List.cons_append, List.nil_append]
  refine f_stepP rfl rfl rfl (o_assign rfl) ?_
  refine f_done ?_
  refine f_tn (kh3 _ _ ?_)
  clear kh3
  refine f_seq fun K4 kh4 => ?_
  refine f_region ?_
  refine f_stepP rfl rfl rfl (o_move rfl) ?_
  refine f_stepP rfl rfl rfl (o_neq rfl rfl) ?_
  refine f_done ?_
  refine f_tn (kh4 _ _ ?_)
  clear kh4
  refine f_cond rfl (fun c18 => ?_) (fun c18 => ?_)
  · skip
    refine f_seq fun K5 kh5 => ?_
    refine f_region ?_
    refine f_stepP rfl rfl rfl (o_move rfl) ?_
    refine f_stepP rfl rfl rfl (o_assign rfl) ?_
    refine f_stepP rfl rfl rfl (o_assign rfl) ?_
    refine f_stepP rfl rfl rfl (o_assign rfl) ?_
    refine f_done ?_
    refine f_tn (kh5 _ _ ?_)
    clear kh5
    refine f_ret ?_
    refine f_tr ?_
    exact f_fin3 [[]] Try.results21 rfl rfl rfl Sub.empty ⟨0, .slice none 0 0, [], [], rfl, rfl, Own.nil _ _, fun _ => ⟨rfl, rfl⟩, fun h => absurd h c18⟩
  · skip
    have hz : flooked N l s t = 0 := by simpa using c18
    obtain ⟨hg0, hs0, hs1, ht0, ht1, hst0⟩ := flooked_zero hz
    have hN1 := ncheck_zero hg0
    obtain ⟨n, rfl⟩ : ∃ n : Nat, N = n := ⟨N.toNat, by omega⟩
    obtain ⟨a, rfl⟩ : ∃ k : Nat, s = k := ⟨s.toNat, by omega⟩
    obtain ⟨b, rfl⟩ : ∃ k : Nat, t = k := ⟨t.toNat, by omega⟩
    have hn := nok_of hg0 hok
    have hn1 := hn.n1
    have hel := hn.len
    have han : a < n := by omega
    have hbn : b < n := by omega
    have hab : a ≠ b := by omega
    refine f_skip ?_
    refine f_tn (kh2 _ _ ?_)
    clear kh2
    refine f_seq fun K6 kh6 => ?_
    refine f_region ?_
    refine f_stepP rfl rfl rfl (o_loadA (vs := [_, _]) Try.isAgg24 Try.sizeOf24 rfl rfl ⟨(rdA rfl), (rdA rfl), trivial⟩) ?_
    refine f_step rfl rfl rfl (o_call Try.call26 rfl (fun w_ hp_ => fbegin_spec n A l cap w_ (hr.up0 hp_) hn) ?_)
    rintro _ _ ⟨bx, mD, rfl, rfl, hD0⟩
    dsimp only [List.cons_append, List.nil_append]
    refine f_stepP rfl rfl rfl (o_assign rfl) ?_
    refine f_done ?_
    refine f_tn (kh6 _ _ ?_)
    clear kh6
    refine f_seq fun K7 kh7 => ?_
    refine f_region ?_
    refine f_stepP rfl rfl rfl (o_move rfl) ?_
    refine f_stepP rfl rfl rfl (o_move rfl) ?_
    refine f_stepP rfl rfl rfl (o_move rfl) ?_
    refine f_step rfl rfl rfl (o_callM [mD] _ Try.call27 rfl (Sub.pick Sub.refl) (fun w_ hp_ => run_spec n l (List.replicate n 0) (List.replicate n 0) bx mD a b w_ hn (by simp) (by simp) hD0 han hbn hab hp_.owns) ?_)
    rintro _ _ ⟨V, f, L, nx, m', rfl, rfl, hD, hF, hLy, hLt, hV0, hV1⟩
    have hfl := hF.fits.len
    have hLl := hLy.len
    dsimp only [List.cons_append, List.nil_append]
    refine f_stepP rfl rfl rfl (o_assign rfl) ?_
    refine f_done ?_
    refine f_tn (kh7 _ _ ?_)
    clear kh7
    refine f_seq fun K8 kh8 => ?_
    refine f_region ?_
    refine f_stepP rfl rfl rfl (o_field fa24_1 rfl) ?_
    refine f_stepP rfl rfl rfl (o_load Try.isAgg22 rfl (rdA rfl)) ?_
    refine f_stepP rfl rfl rfl (o_len sl22 rfl) ?_
    refine f_step rfl rfl rfl (o_make el42 rfl rfl l.length rfl (by omega) (by omega) (u32s (List.replicate l.length 0)) (u32s0 _) fun b29 => ?_)
    refine f_stepP rfl rfl rfl (o_assign rfl) ?_
    refine f_done ?_
    refine f_tn (kh8 _ _ ?_)
    clear kh8
    refine f_seq fun K9 kh9 => ?_
    refine f_seq fun K10 kh10 => ?_
    obtain ⟨bat, bl, bn, ve, vs, ms, me, hmp, hR, hE⟩ := hD
    obtain ⟨Ae, ce, rfl, _⟩ := hE.val
    refine f_subC (Sub.openAt hmp) ?_
    unfold dsegs
    dsimp only [List.cons_append, List.nil_append]
    refine f_region ?_
    refine f_stepP rfl rfl rfl (o_move rfl) ?_
    refine f_stepP rfl rfl rfl (o_nil rfl) ?_
    refine f_stepP rfl rfl rfl (o_field fa63_0 rfl) ?_
    refine f_stepP rfl rfl rfl (o_load Try.isAgg60 rfl (rdA rfl)) ?_
    refine f_stepP rfl rfl rfl (o_len sl60 rfl) ?_
    refine f_stepP rfl rfl rfl (o_move rfl) ?_
    refine f_done ?_
    refine f_tn (kh10 _ _ ?_)
    clear kh10
    refine f_block ?_
    refine f_loop (α := Nat × List Int) [6, 7, 33, 34] (fun ⟨i, g⟩ => [(35, .int .i64 (i : Int))]) (fun ⟨i, g⟩ => [[(b29, blk (u32s g) 50)], me]) (fun ⟨i, g⟩ => i ≤ l.length ∧ g.length = l.length ∧ ∀ j, j < i → flAt g j = flAt f j) (fun ⟨i, g⟩ => l.length - i) (0, List.replicate l.length 0) ?_ ?_ ?_ ?_
    · exact (by repeat (first | exact trivial | refine ⟨rfl, ?_⟩))
    · repeat (first | exact Sub.nil | refine Sub.pick ?_ | refine Sub.castO rfl ?_ | refine Sub.skip ?_)
    · exact ⟨Nat.zero_le _, by simp, fun j h => by omega⟩
    · rintro ⟨i, g⟩ ⟨hil, hgl, hgj⟩
      refine f_seq fun K11 kh11 => ?_
      refine f_region ?_
      refine f_stepP rfl rfl rfl (o_lss rfl rfl) ?_
      refine f_done ?_
      refine f_tn (kh11 _ _ ?_)
      clear kh11
      refine f_seq fun K12 kh12 => ?_
      refine f_cond rfl (fun c36 => ?_) (fun c36 => ?_)
      · skip
        refine f_skip ?_
        refine f_tn (kh12 _ _ ?_)
        clear kh12
        refine f_seq fun K13 kh13 => ?_
        refine f_block ?_
        refine f_seq fun K14 kh14 => ?_
        refine f_region ?_
        refine f_stepP rfl rfl rfl (o_move rfl) ?_
        have hi : i < l.length := by omega
        obtain ⟨be, spE, rfl, rfl, _⟩ := hE.upd (by omega)
        refine f_stepP rfl rfl rfl (o_idx sl60 rfl rfl (i * 4) ⟨by omega, by omega, by first | omega | (simp; done) | (simp; omega)⟩) ?_
        refine f_stepP rfl rfl rfl (o_loadA (vs := ecs (arcAt l i, flAt f i)) Try.isAgg68 Try.sizeOf68 rfl rfl (rds_of _ _ fun q v hq => rdA (app_get (by rw [ecells_at hfl hi (by have := (List.getElem?_eq_some_iff.1 hq).1; simpa [ecs] using this)]; exact hq)))) ?_
        refine f_step rfl rfl rfl (o_alloc Try.zeroValue68 rfl fun b12 => ?_)
        refine f_stepP rfl rfl rfl (o_assign rfl) ?_
        refine f_step0 rfl rfl (o_storeA Try.sizeOf68 rfl rfl rfl rfl (by first | exact Nat.le_of_ble_eq_true rfl | (simp; done) | (simp; omega)) (ecs (arcAt l i, flAt f i)) rfl ?_)
        refine f_done ?_
        refine f_tn (kh14 _ _ ?_)
        clear kh14
        refine f_region ?_
        refine f_stepP rfl rfl rfl (o_move rfl) ?_
        refine f_stepP rfl rfl rfl (o_move rfl) ?_
        refine f_stepP rfl rfl rfl (o_field fa68_1 rfl) ?_
        refine f_stepP rfl rfl rfl (o_idxA ar66 rfl rfl (3) ⟨by omega, by omega, by first | omega | (simp; done) | (simp; omega)⟩) ?_
        refine f_stepP rfl rfl rfl (o_load Try.isAgg50 rfl (rdA rfl)) ?_
        refine f_stepP rfl rfl rfl (o_idx sl42 rfl rfl (i) ⟨by omega, by omega, by first | omega | (simp; done) | (simp; omega)⟩) ?_
        refine f_step0 rfl rfl (o_store Try.sizeOf50 rfl rfl rfl rfl (by rw [u32s_len]; omega) (u32s (g.set i (flAt f i))) (u32s_set _ _ _) ?_)
        refine f_done ?_
        refine f_bn ?_
        refine f_tn (kh13 _ _ ?_)
        clear kh13
        refine f_region ?_
        refine f_stepP rfl rfl rfl (o_add rfl rfl _ (wrap_i64 (by omega))) ?_
        refine f_stepP rfl rfl rfl (o_move rfl) ?_
        refine f_done ?_
        refine f_tn (f_again (i + 1, g.set i (flAt f i)) (by first | omega | (dsimp only; omega) | (simp; omega)) ⟨by omega, by simpa using hgl, fun j hj => by rw [flAt_set (by omega)]; split; (rename_i e; rw [e]); exact hgj j (by omega)⟩ ?_ ?_ ?_)
        · exact (by repeat (first | exact trivial | refine ⟨rfl, ?_⟩))
        · exact (by repeat (first | exact trivial | refine ⟨rfl, ?_⟩))
        · repeat (first | exact Sub.nil | refine Sub.pick ?_ | refine Sub.castO rfl ?_ | refine Sub.skip ?_)
      · skip
        refine f_exit ?_
        refine f_te ?_
        clear kh12
        refine f_te ?_
        refine f_be ?_
        refine f_tn (kh9 _ _ ?_)
        clear kh9
        refine f_seq fun K15 kh15 => ?_
        refine f_region ?_
        refine f_stepP rfl rfl rfl (o_move rfl) ?_
        refine f_stepP rfl rfl rfl (o_move rfl) ?_
        refine f_stepP rfl rfl rfl (o_assign rfl) ?_
        refine f_stepP rfl rfl rfl (o_assign rfl) ?_
        refine f_stepP rfl rfl rfl (o_assign rfl) ?_
        refine f_done ?_
        refine f_tn (kh15 _ _ ?_)
        clear kh15
        refine f_ret ?_
        obtain rfl : g = f := fl_ext (by omega) fun j hj => hgj j (by omega)
        exact f_fin3 [[(b29, blk (u32s g) 50)]] Try.results21 rfl rfl rfl (by repeat (first | exact Sub.nil | refine Sub.pick ?_ | refine Sub.castO rfl ?_)) ⟨V, _, _, g, by rw [hz], rfl, own_u32 hgl (by omega), fun h => absurd hz h, fun _ => by rw [Int.toNat_natCast, Int.toNat_natCast, Int.toNat_natCast]; exact ⟨hF, ⟨_, hLy.side hn.net hLt⟩, hV0, hV1⟩⟩

set_option maxRecDepth 100000 in
set_option maxHeartbeats 4000000 in
theorem Clip_spec (A : Option Addr) (len cap : Nat) (w : World) (h : len ≤ cap) (hm : cap ≤ 9223372036854775807) (hA : A = none → len = 0) :
    Meets Try.prog 28 [.slice A len cap] w [] (fun u m => u = .slice A len len ∧ m = []) := by
  refine f_enter Try.func28 rfl Try.ntmps28 rfl Owns.nil ?_
  refine f_seq fun K1 kh1 => ?_
  refine f_region ?_
  refine f_stepP rfl rfl rfl (o_assign rfl) ?_
  refine f_done ?_
  refine f_tn (kh1 _ _ ?_)
  clear kh1
  refine f_seq fun K2 kh2 => ?_
  refine f_region ?_
  refine f_stepP rfl rfl rfl (o_move rfl) ?_
  refine f_stepP rfl rfl rfl (o_move rfl) ?_
  refine f_stepP rfl rfl rfl (o_len sl32 rfl) ?_
  refine f_stepP rfl rfl rfl (o_move rfl) ?_
  refine f_stepP rfl rfl rfl (o_len sl32 rfl) ?_
  refine f_stepP rfl rfl rfl (o_slice sl32 rfl rfl rfl rfl (fun _ => rfl) 0 len len (.inl ⟨rfl, rfl⟩) (.inr ⟨_, _, rfl, by omega⟩) (.inr ⟨_, _, rfl, by omega⟩) ⟨by omega, by omega, by omega⟩ (.slice A len len) (by rw [Nat.sub_zero]; congr 1; split; rfl; cases A with | none => rfl | some x => obtain ⟨p, q, r⟩ := x; cases r <;> simp [Addr.add])) ?_
  refine f_stepP rfl rfl rfl (o_assign rfl) ?_
  refine f_done ?_
  refine f_tn (kh2 _ _ ?_)
  clear kh2
  refine f_ret ?_
  exact f_fin1 [] Try.results28 rfl Sub.nil ⟨rfl, rfl⟩

set_option maxRecDepth 100000 in
set_option maxHeartbeats 4000000 in
theorem Cut_spec2 (N : Int) (A : Option Addr) (l : List Arc) (cap : Nat) (s t : Int) (w : World) (hr : Ro (Fr w []) w A (l.flatMap arcCs)) (hl : l.length ≤ 9223372036854775807) (hN : I64 N) (hok : ∀ x ∈ l, ArcOk x) :
    Meets Try.prog 14 [.agg #[.int .i64 N, .slice A l.length cap], .int .i64 s, .int .i64 t] w [] (CutΦ2 N l s t) := by
  refine f_enter Try.func14 rfl Try.ntmps14 rfl Owns.nil ?_
  refine f_seq fun K1 kh1 => ?_
  refine f_region ?_
  refine f_step rfl rfl rfl (o_box rfl rfl fun b3 => ?_)
  refine f_stepP rfl rfl rfl (o_assign rfl) ?_
  refine f_stepP rfl rfl rfl (o_assign rfl) ?_
  refine f_stepP rfl rfl rfl (o_assign rfl) ?_
  refine f_stepP rfl rfl rfl (o_assign rfl) ?_
  refine f_done ?_
  refine f_tn (kh1 _ _ ?_)
  clear kh1
  refine f_seq fun K2 kh2 => ?_
  refine f_seq fun K3 kh3 => ?_
  refine f_region ?_
  refine f_stepP rfl rfl rfl (o_loadA (vs := [_, _]) Try.isAgg24 Try.sizeOf24 rfl rfl ⟨(rdA rfl), (rdA rfl), trivial⟩) ?_
  refine f_stepP rfl rfl rfl (o_move rfl) ?_
  refine f_stepP rfl rfl rfl (o_move rfl) ?_
  refine f_step rfl rfl rfl (o_call Try.call25 rfl (fun w_ hp_ => FLooked_spec N A l cap s t w_ (hr.up0 hp_) hl hN hok) ?_)
  rintro _ _ ⟨rfl, rfl⟩
  dsimp only [List.cons_append, List.nil_append]
  refine f_stepP rfl rfl rfl (o_assign rfl) ?_
  refine f_done ?_
  refine f_tn (kh3 _ _ ?_)
  clear kh3
  refine f_seq fun K4 kh4 => ?_
  refine f_region ?_
  refine f_stepP rfl rfl rfl (o_move rfl) ?_
  refine f_stepP rfl rfl rfl (o_neq rfl rfl) ?_
  refine f_done ?_
  refine f_tn (kh4 _ _ ?_)
  clear kh4
  refine f_cond rfl (fun c21 => ?_) (fun c21 => ?_)
  · skip
    refine f_seq fun K5 kh5 => ?_
    refine f_region ?_
    refine f_stepP rfl rfl rfl (o_move rfl) ?_
    refine f_stepP rfl rfl rfl (o_assign rfl) ?_
    refine f_stepP rfl rfl rfl (o_assign rfl) ?_
    refine f_stepP rfl rfl rfl (o_assign rfl) ?_
    refine f_stepP rfl rfl rfl (o_assign rfl) ?_
    refine f_done ?_
    refine f_tn (kh5 _ _ ?_)
    clear kh5
    refine f_ret ?_
    refine f_tr ?_
    exact f_fin4 [[], []] Try.results14 rfl rfl rfl rfl (Sub.transF Sub.empty Sub.addNil) ⟨0, .slice none 0 0, [], [], none, 0, [], [], rfl, rfl, .inl ⟨rfl, rfl, rfl⟩, Own.nil _ _, fun _ => ⟨rfl, rfl, rfl⟩, fun h => absurd h c21⟩
  · skip
    have hz : flooked N l s t = 0 := by simpa using c21
    obtain ⟨hg0, hs0, hs1, ht0, ht1, hst0⟩ := flooked_zero hz
    have hN1 := ncheck_zero hg0
    obtain ⟨n, rfl⟩ : ∃ n : Nat, N = n := ⟨N.toNat, by omega⟩
    obtain ⟨a, rfl⟩ : ∃ k : Nat, s = k := ⟨s.toNat, by omega⟩
    obtain ⟨b, rfl⟩ : ∃ k : Nat, t = k := ⟨t.toNat, by omega⟩
    have hn := nok_of hg0 hok
    have hn1 := hn.n1
    have hel := hn.len
    have han : a < n := by omega
    have hbn : b < n := by omega
    have hab : a ≠ b := by omega
    refine f_skip ?_
    refine f_tn (kh2 _ _ ?_)
    clear kh2
    refine f_seq fun K6 kh6 => ?_
    refine f_region ?_
    refine f_stepP rfl rfl rfl (o_loadA (vs := [_, _]) Try.isAgg24 Try.sizeOf24 rfl rfl ⟨(rdA rfl), (rdA rfl), trivial⟩) ?_
    refine f_step rfl rfl rfl (o_call Try.call26 rfl (fun w_ hp_ => fbegin_spec n A l cap w_ (hr.up0 hp_) hn) ?_)
    rintro _ _ ⟨bx, mD, rfl, rfl, hD0⟩
    dsimp only [List.cons_append, List.nil_append]
    refine f_stepP rfl rfl rfl (o_assign rfl) ?_
    refine f_done ?_
    refine f_tn (kh6 _ _ ?_)
    clear kh6
    refine f_seq fun K7 kh7 => ?_
    refine f_region ?_
    refine f_stepP rfl rfl rfl (o_move rfl) ?_
    refine f_stepP rfl rfl rfl (o_move rfl) ?_
    refine f_stepP rfl rfl rfl (o_move rfl) ?_
    refine f_step rfl rfl rfl (o_callM [mD] _ Try.call27 rfl (Sub.pick Sub.refl) (fun w_ hp_ => run_spec n l (List.replicate n 0) (List.replicate n 0) bx mD a b w_ hn (by simp) (by simp) hD0 han hbn hab hp_.owns) ?_)
    rintro _ _ ⟨V, f, L, nx, m', rfl, rfl, hD, hF, hLy, hLt, hV0, hV1⟩
    have hfl := hF.fits.len
    have hLl := hLy.len
    dsimp only [List.cons_append, List.nil_append]
    refine f_stepP rfl rfl rfl (o_assign rfl) ?_
    refine f_done ?_
    refine f_tn (kh7 _ _ ?_)
    clear kh7
    refine f_seq fun K8 kh8 => ?_
    refine f_region ?_
    refine f_stepP rfl rfl rfl (o_field fa24_0 rfl) ?_
    refine f_stepP rfl rfl rfl (o_load Try.isAgg3 rfl (rdA rfl)) ?_
    refine f_step rfl rfl rfl (o_make el31 rfl rfl n rfl (by omega) (by omega) ((List.replicate n false).map .bool) (bools_rep false n) fun b31 => ?_)
    refine f_stepP rfl rfl rfl (o_assign rfl) ?_
    refine f_done ?_
    refine f_tn (kh8 _ _ ?_)
    clear kh8
    refine f_seq fun K9 kh9 => ?_
    refine f_seq fun K10 kh10 => ?_
    obtain ⟨bat, bl, bn, ve, vs, ms, me, hmp, hR, hE⟩ := hD
    obtain ⟨Ae, ce, rfl, _⟩ := hE.val
    refine f_subC (Sub.openAt hmp) ?_
    unfold dsegs
    dsimp only [List.cons_append, List.nil_append]
    refine f_region ?_
    refine f_stepP rfl rfl rfl (o_move rfl) ?_
    refine f_stepP rfl rfl rfl (o_nil rfl) ?_
    refine f_stepP rfl rfl rfl (o_field fa63_2 rfl) ?_
    refine f_stepP rfl rfl rfl (o_load Try.isAgg32 rfl (rdA rfl)) ?_
    refine f_stepP rfl rfl rfl (o_len sl32 rfl) ?_
    refine f_stepP rfl rfl rfl (o_move rfl) ?_
    refine f_done ?_
    refine f_tn (kh10 _ _ ?_)
    clear kh10
    refine f_block ?_
    refine f_loop (α := Nat × List Bool) [3, 6, 7, 8, 35, 36] (fun ⟨v, sd⟩ => [(37, .int .i64 (v : Int))]) (fun ⟨v, sd⟩ => [[(b31, blk (sd.map .bool) 4)], [(bl, blk (ints L) 3)], [(b3, blk [.int .i64 (n : Int), .slice A l.length cap] 24)]]) (fun ⟨v, sd⟩ => v ≤ n ∧ sd.length = n ∧ ∀ u, u < v → sd.getD u false = decide (0 ≤ flAt L u)) (fun ⟨v, sd⟩ => n - v) (0, List.replicate n false) ?_ ?_ ?_ ?_
    · exact (by repeat (first | exact trivial | refine ⟨rfl, ?_⟩))
    · repeat (first | exact Sub.nil | refine Sub.pick ?_ | refine Sub.castO rfl ?_ | refine Sub.skip ?_)
    · exact ⟨Nat.zero_le _, by simp, fun j h => by omega⟩
    · rintro ⟨v, sd⟩ ⟨hvn, hsl, hsu⟩
      refine f_seq fun K11 kh11 => ?_
      refine f_region ?_
      refine f_stepP rfl rfl rfl (o_lss rfl rfl) ?_
      refine f_done ?_
      refine f_tn (kh11 _ _ ?_)
      clear kh11
      refine f_seq fun K12 kh12 => ?_
      refine f_cond rfl (fun c38 => ?_) (fun c38 => ?_)
      · skip
        refine f_skip ?_
        refine f_tn (kh12 _ _ ?_)
        clear kh12
        refine f_seq fun K13 kh13 => ?_
        refine f_block ?_
        refine f_seq fun K14 kh14 => ?_
        refine f_region ?_
        refine f_stepP rfl rfl rfl (o_move rfl) ?_
        have hv' : v < n := by omega
        refine f_stepP rfl rfl rfl (o_idx sl32 rfl rfl (v) ⟨by omega, by omega, by first | omega | (simp; done) | (simp; omega)⟩) ?_
        refine f_stepP rfl rfl rfl (o_load Try.isAgg3 rfl (rdA (ints_fl (by omega)))) ?_
        refine f_stepP rfl rfl rfl (o_assign rfl) ?_
        refine f_stepP rfl rfl rfl (o_assign rfl) ?_
        refine f_done ?_
        refine f_tn (kh14 _ _ ?_)
        clear kh14
        refine f_region ?_
        refine f_stepP rfl rfl rfl (o_move rfl) ?_
        refine f_stepP rfl rfl rfl (o_move rfl) ?_
        refine f_stepP rfl rfl rfl (o_move rfl) ?_
        refine f_stepP rfl rfl rfl (o_geq rfl rfl) ?_
        refine f_stepP rfl rfl rfl (o_idx sl31 rfl rfl (v) ⟨by omega, by omega, by first | omega | (simp; done) | (simp; omega)⟩) ?_
        refine f_step0 rfl rfl (o_store Try.sizeOf4 rfl rfl rfl rfl (by rw [List.length_map]; omega) ((sd.set v (decide (0 ≤ flAt L v))).map .bool) (bools_set _ _ _) ?_)
        refine f_done ?_
        refine f_bn ?_
        refine f_tn (kh13 _ _ ?_)
        clear kh13
        refine f_region ?_
        refine f_stepP rfl rfl rfl (o_add rfl rfl _ (wrap_i64 (by omega))) ?_
        refine f_stepP rfl rfl rfl (o_move rfl) ?_
        refine f_done ?_
        refine f_tn (f_again (v + 1, sd.set v (decide (0 ≤ flAt L v))) (by first | omega | (dsimp only; omega) | (simp; omega)) ⟨by omega, by simpa using hsl, fun u hu => by
          rw [List.getD_eq_getElem?_getD, List.getElem?_set]
          by_cases e : v = u
          · subst e; rw [if_pos rfl, if_pos (by omega)]; rfl
          · rw [if_neg e, ← List.getD_eq_getElem?_getD]; exact hsu u (by omega)⟩ ?_ ?_ ?_)
        · exact (by repeat (first | exact trivial | refine ⟨rfl, ?_⟩))
        · exact (by repeat (first | exact trivial | refine ⟨rfl, ?_⟩))
        · repeat (first | exact Sub.nil | refine Sub.pick ?_ | refine Sub.castO rfl ?_ | refine Sub.skip ?_)
      · skip
        refine f_exit ?_
        refine f_te ?_
        clear kh12
        refine f_te ?_
        refine f_be ?_
        refine f_tn (kh9 _ _ ?_)
        clear kh9
        refine f_seq fun K15 kh15 => ?_
        refine f_seq fun K16 kh16 => ?_
        refine f_region ?_
        refine f_stepP rfl rfl rfl (o_field fa24_1 rfl) ?_
        refine f_stepP rfl rfl rfl (o_load Try.isAgg22 rfl (rdA rfl)) ?_
        refine f_stepP rfl rfl rfl (o_len sl22 rfl) ?_
        refine f_stepP rfl rfl rfl (o_move rfl) ?_
        refine f_done ?_
        refine f_tn (kh16 _ _ ?_)
        clear kh16
        refine f_block ?_
        refine f_loop (α := Nat × Value × Seg) [6, 8, 49, 50] (fun ⟨i, wv, wm⟩ => [(51, .int .i64 (i : Int)), (7, wv)]) (fun ⟨i, wv, wm⟩ => [[(b31, blk (sd.map .bool) 4)], [(b3, blk [.int .i64 (n : Int), .slice A l.length cap] 24)], wm]) (fun ⟨i, wv, wm⟩ => i ≤ l.length ∧ Own 3 1 wv (idxs (cutP sd) (l.take i)).length (ints (idxs (cutP sd) (l.take i))) wm ∧ (idxs (cutP sd) (l.take i)).length ≤ i) (fun ⟨i, wv, wm⟩ => l.length - i) (0, .slice none 0 0, []) ?_ ?_ ?_ ?_
        · exact (by repeat (first | exact trivial | refine ⟨rfl, ?_⟩))
        · repeat (first | exact Sub.nil | refine Sub.pick ?_ | refine Sub.castO rfl ?_ | refine Sub.skip ?_)
        · exact ⟨Nat.zero_le _, Own.nil _ _, Nat.le_refl _⟩
        · rintro ⟨i, wv, wm⟩ ⟨hil, hW, hWi⟩
          obtain ⟨Aw, cw, rfl, hcw⟩ := hW.val
          refine f_seq fun K17 kh17 => ?_
          refine f_region ?_
          refine f_stepP rfl rfl rfl (o_lss rfl rfl) ?_
          refine f_done ?_
          refine f_tn (kh17 _ _ ?_)
          clear kh17
          refine f_seq fun K18 kh18 => ?_
          refine f_cond rfl (fun c52 => ?_) (fun c52 => ?_)
          · skip
            refine f_skip ?_
            refine f_tn (kh18 _ _ ?_)
            clear kh18
            refine f_seq fun K19 kh19 => ?_
            refine f_block ?_
            refine f_seq fun K20 kh20 => ?_
            refine f_region ?_
            refine f_stepP rfl rfl rfl (o_move rfl) ?_
            have hi : i < l.length := by omega
            obtain ⟨bq, off, rfl, hS, hc⟩ := hr (flat_ne arcCs arcCs_len (by omega) hi)
            have hgi := hn.good i hi
            refine f_stepP rfl rfl rfl (o_idx sl22 rfl rfl (off + i * 3) ⟨by omega, by omega, by first | omega | (simp; done) | (simp; omega)⟩) ?_
            refine f_stepP rfl rfl rfl (o_loadA (vs := arcCs l[i]) Try.isAgg52 Try.sizeOf52 rfl rfl (roElem arcCs_len hS hc hi)) ?_
            refine f_step rfl rfl rfl (o_alloc Try.zeroValue52 rfl fun b15 => ?_)
            refine f_stepP rfl rfl rfl (o_assign rfl) ?_
            refine f_step0 rfl rfl (o_storeA Try.sizeOf52 rfl rfl rfl rfl (by first | exact Nat.le_of_ble_eq_true rfl | (simp; done) | (simp; omega)) (arcCs l[i]) rfl ?_)
            refine f_done ?_
            refine f_tn (kh20 _ _ ?_)
            clear kh20
            refine f_seq fun K21 kh21 => ?_
            refine f_region ?_
            refine f_stepP rfl rfl rfl (o_move rfl) ?_
            refine f_stepP rfl rfl rfl (o_field fa52_0 rfl) ?_
            refine f_stepP rfl rfl rfl (o_load Try.isAgg3 rfl (rdA rfl)) ?_
            refine f_stepP rfl rfl rfl (o_idx sl31 rfl rfl (l[i].src.toNat) ⟨by omega, by omega, by first | omega | (simp; done) | (simp; omega)⟩) ?_
            refine f_stepP rfl rfl rfl (o_load Try.isAgg4 rfl (rdA (bools_at (by omega)))) ?_
            refine f_stepP rfl rfl rfl (o_move rfl) ?_
            refine f_splitLB 61 rfl (fun g61 => ?_) (fun g61 => ?_)
            · skip
              refine f_stepPY rfl rfl rfl rfl rfl (o_move rfl) ?_
              refine f_stepPY rfl rfl rfl rfl rfl (o_field fa52_1 rfl) ?_
              refine f_stepPY rfl rfl rfl rfl rfl (o_load Try.isAgg3 rfl (rdA rfl)) ?_
              refine f_stepPY rfl rfl rfl rfl rfl (o_idx sl31 rfl rfl (l[i].dst.toNat) ⟨by omega, by omega, by first | omega | (simp; done) | (simp; omega)⟩) ?_
              refine f_stepPY rfl rfl rfl rfl rfl (o_load Try.isAgg4 rfl (rdA (bools_at (by omega)))) ?_
              refine f_stepPY rfl rfl rfl rfl rfl (o_not rfl) ?_
              refine f_stepP rfl rfl rfl (o_pickT rfl rfl) ?_
              refine f_done ?_
              refine f_tn (kh21 _ _ ?_)
              clear kh21
              refine f_condB rfl (fun c68 => ?_) (fun c68 => ?_)
              · skip
                refine f_region ?_
                refine f_stepP rfl rfl rfl (o_move rfl) ?_
                refine f_stepP rfl rfl rfl (o_move rfl) ?_
                refine f_step rfl rfl rfl (o_slice1 el32 (by omega) rfl rfl rfl fun b71 => ?_)
                refine f_step rfl rfl rfl (o_append el32 rfl rfl hW (ys := [.int .i64 (i : Int)]) ⟨(rdA rfl), trivial⟩ rfl rfl (by omega) (by omega) fun v72 m72 o72 => ?_)
                refine f_stepP rfl rfl rfl (o_assign rfl) ?_
                refine f_done ?_
                refine f_bn ?_
                refine f_tn (kh19 _ _ ?_)
                clear kh19
                refine f_region ?_
                refine f_stepP rfl rfl rfl (o_add rfl rfl _ (wrap_i64 (by omega))) ?_
                refine f_stepP rfl rfl rfl (o_move rfl) ?_
                refine f_done ?_
                refine f_tn (f_again (i + 1, v72, m72) (by first | omega | (dsimp only; omega) | (simp; omega)) ⟨by omega, by rw [idxs_yes hi (by unfold cutP; rw [g61, c68]; rfl), List.length_append, ints_append]; exact o72, by rw [idxs_yes hi (by unfold cutP; rw [g61, c68]; rfl), List.length_append]; simp; omega⟩ ?_ ?_ ?_)
                · exact (by repeat (first | exact trivial | refine ⟨rfl, ?_⟩))
                · exact (by repeat (first | exact trivial | refine ⟨rfl, ?_⟩))
                · repeat (first | exact Sub.nil | refine Sub.pick ?_ | refine Sub.castO rfl ?_ | refine Sub.skip ?_)
              · skip
                refine f_skip ?_
                refine f_bn ?_
                refine f_tn (kh19 _ _ ?_)
                clear kh19
                refine f_region ?_
                refine f_stepP rfl rfl rfl (o_add rfl rfl _ (wrap_i64 (by omega))) ?_
                refine f_stepP rfl rfl rfl (o_move rfl) ?_
                refine f_done ?_
                refine f_tn (f_again (i + 1, .slice Aw (idxs (cutP sd) (l.take i)).length cw, wm) (by first | omega | (dsimp only; omega) | (simp; omega)) ⟨by omega, by rw [idxs_no hi (by unfold cutP; first | (rw [g61, c68]; rfl) | (rw [g61]; rfl))]; exact hW, by rw [idxs_no hi (by unfold cutP; first | (rw [g61, c68]; rfl) | (rw [g61]; rfl))]; omega⟩ ?_ ?_ ?_)
                · exact (by repeat (first | exact trivial | refine ⟨rfl, ?_⟩))
                · exact (by repeat (first | exact trivial | refine ⟨rfl, ?_⟩))
                · repeat (first | exact Sub.nil | refine Sub.pick ?_ | refine Sub.castO rfl ?_ | refine Sub.skip ?_)
            · skip
              refine f_stepN rfl rfl rfl rfl rfl rfl ?_
              refine f_stepN rfl rfl rfl rfl rfl rfl ?_
              refine f_stepN rfl rfl rfl rfl rfl rfl ?_
              refine f_stepN rfl rfl rfl rfl rfl rfl ?_
              refine f_stepN rfl rfl rfl rfl rfl rfl ?_
              refine f_stepN rfl rfl rfl rfl rfl rfl ?_
              refine f_stepP rfl rfl rfl (o_pickF rfl rfl) ?_
              refine f_done ?_
              refine f_tn (kh21 _ _ ?_)
              clear kh21
              refine f_condF rfl ?_
              refine f_skip ?_
              refine f_bn ?_
              refine f_tn (kh19 _ _ ?_)
              clear kh19
              refine f_region ?_
              refine f_stepP rfl rfl rfl (o_add rfl rfl _ (wrap_i64 (by omega))) ?_
              refine f_stepP rfl rfl rfl (o_move rfl) ?_
              refine f_done ?_
              refine f_tn (f_again (i + 1, .slice Aw (idxs (cutP sd) (l.take i)).length cw, wm) (by first | omega | (dsimp only; omega) | (simp; omega)) ⟨by omega, by rw [idxs_no hi (by unfold cutP; first | (rw [g61, c68]; rfl) | (rw [g61]; rfl))]; exact hW, by rw [idxs_no hi (by unfold cutP; first | (rw [g61, c68]; rfl) | (rw [g61]; rfl))]; omega⟩ ?_ ?_ ?_)
              · exact (by repeat (first | exact trivial | refine ⟨rfl, ?_⟩))
              · exact (by repeat (first | exact trivial | refine ⟨rfl, ?_⟩))
              · repeat (first | exact Sub.nil | refine Sub.pick ?_ | refine Sub.castO rfl ?_ | refine Sub.skip ?_)
          · skip
            refine f_exit ?_
            refine f_te ?_
            clear kh18
            refine f_te ?_
            refine f_be ?_
            refine f_tn (kh15 _ _ ?_)
            clear kh15
            refine f_seq fun K22 kh22 => ?_
            refine f_region ?_
            refine f_stepP rfl rfl rfl (o_move rfl) ?_
            refine f_stepP rfl rfl rfl (o_move rfl) ?_
            refine f_step rfl rfl rfl (o_call Try.call28 rfl (fun w_ hp_ => Clip_spec Aw (idxs (cutP sd) (l.take i)).length cw w_ hcw.1 hcw.2 (own_none hW)) ?_)
            rintro _ _ ⟨rfl, rfl⟩
            dsimp only [List.cons_append, List.nil_append]
            refine f_stepP rfl rfl rfl (o_move rfl) ?_
            refine f_stepP rfl rfl rfl (o_assign rfl) ?_
            refine f_stepP rfl rfl rfl (o_assign rfl) ?_
            refine f_stepP rfl rfl rfl (o_assign rfl) ?_
            refine f_stepP rfl rfl rfl (o_assign rfl) ?_
            refine f_done ?_
            refine f_tn (kh22 _ _ ?_)
            clear kh22
            refine f_ret ?_
            have hie : l.take i = l := List.take_of_length_le (by omega)
            rw [hie] at hW ⊢
            exact f_fin4 [[(b31, blk (sd.map .bool) 4)], wm] Try.results14 rfl rfl rfl rfl (by repeat (first | exact Sub.nil | refine Sub.pick ?_ | refine Sub.castO rfl ?_)) ⟨V, _, _, sd, Aw, cw, wm, _, by rw [hz], rfl, .inr ⟨b31, by rw [hsl], rfl⟩, hW, fun h => absurd hz h, fun _ => by rw [Int.toNat_natCast, Int.toNat_natCast, Int.toNat_natCast]; exact ⟨hsl, rfl, ⟨f, hF, (hLy.side hn.net hLt).congr hn.net han hbn fun u hu => (hsu u (by omega)).symm⟩, hV0, hV1⟩⟩


theorem Cut_spec (N : Int) (A : Option Addr) (l : List Arc) (cap : Nat) (s t : Int) (w : World) (hr : Ro (Fr w []) w A (l.flatMap arcCs)) (hl : l.length ≤ 9223372036854775807) (hN : I64 N) (hok : ∀ x ∈ l, ArcOk x) :
    Meets Try.prog 14 [.agg #[.int .i64 N, .slice A l.length cap], .int .i64 s, .int .i64 t] w [] (CutΦ N l s t) := (Cut_spec2 N A l cap s t w hr hl hN hok).mono fun u m ⟨V, v, m1, sd, A1, c, m2, W, e1, e2, h1, h2, h3, h4⟩ =>
  ⟨V, v, m1, sd, A1, c, m2, W, e1, e2, h1.own (by
    by_cases hz : flooked N l s t = 0
    · have := (h4 hz).1
      obtain ⟨hg0, _⟩ := flooked_zero hz
      have := ncheck_zero hg0
      omega
    · rw [(h3 hz).2.1]; simp), h2, h3, h4⟩

end Go.Proofs.Ytnagjidfenfdbaa
