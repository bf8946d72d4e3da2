import Derived.Test.YtbjiejhdgkpjcaaAll2
import Derived.Test.YtbjiejhdgkpjcaaFlyD
import Derived.Test.YtbjiejhdgkpjcaaFlyT
import Derived.Shelf.Lays
import Derived.Test.YtbjiejhdgkpjcaaProg
import Derived.Test.YtbjiejhdgkpjcaaFlyMem
import Derived.Shelf.Sort.Plain
import Derived.Shelf.Slices.In.SortNone

/- Package flow: Check, Max, Cut. -/
namespace Go.Proofs.Ytbjiejhdgkpjcaa
open Go Go.RowKit Fly
set_option linter.unusedVariables false
set_option linter.unusedSimpArgs false


def ncheck (N : Int) (l : List Arc) : Int × Int :=
  if N < 1 ∨ 1024 < N then (0, 1) else if 16384 < l.length then (0, 2) else
  match l.findIdx? (arcBad N) with
  | some i => (i, 60)
  | none => (0, 0)
theorem ncheck_range {N : Int} {l : List Arc} (h : N < 1 ∨ 1024 < N) : ncheck N l = (0, 1) := by simp [ncheck, h]
theorem ncheck_long {N : Int} {l : List Arc} (h : 1 ≤ N ∧ N ≤ 1024) (hl : 16384 < l.length) : ncheck N l = (0, 2) := by
  have : ¬ (N < 1 ∨ 1024 < N) := by omega
  simp [ncheck, this, hl]
theorem ncheck_ok {N : Int} {l : List Arc} (h : 1 ≤ N ∧ N ≤ 1024) (hl : l.length ≤ 16384) (hall : ∀ j (h : j < l.length), arcBad N l[j] = false) : ncheck N l = (0, 0) := by
  have h1 : ¬ (N < 1 ∨ 1024 < N) := by omega
  have h2 : ¬ 16384 < l.length := by omega
  have h3 : l.findIdx? (arcBad N) = none := by
    rw [List.findIdx?_eq_none_iff]
    intro x hx
    obtain ⟨j, hj, rfl⟩ := List.mem_iff_getElem.1 hx
    exact hall j hj
  simp [ncheck, h1, h2, h3]
theorem ncheck_bad {N : Int} {l : List Arc} {k : Nat} (h : 1 ≤ N ∧ N ≤ 1024) (hl : l.length ≤ 16384) (hk : k < l.length) (hall : ∀ j (h : j < l.length), j < k → arcBad N l[j] = false) (hb : arcBad N l[k] = true) :
    ncheck N l = ((k : Int), 60) := by
  have h1 : ¬ (N < 1 ∨ 1024 < N) := by omega
  have h2 : ¬ 16384 < l.length := by omega
  have h3 : l.findIdx? (arcBad N) = some k := by
    rw [List.findIdx?_eq_some_iff_getElem]
    exact ⟨hk, hb, fun j hj => by simp [hall j (by omega) hj]⟩
  simp [ncheck, h1, h2, h3]
theorem ncheck_zero {N : Int} {l : List Arc} (h : (ncheck N l).2 = 0) : 1 ≤ N ∧ N ≤ 1024 ∧ l.length ≤ 16384 ∧ ∀ k (hk : k < l.length), 0 ≤ l[k].src ∧ l[k].src < N ∧ 0 ≤ l[k].dst ∧ l[k].dst < N := by
  unfold ncheck at h
  split at h
  · simp at h
  · split at h
    · simp at h
    · cases hf : l.findIdx? (arcBad N) with
      | some i => rw [hf] at h; simp at h
      | none =>
        rw [List.findIdx?_eq_none_iff] at hf
        refine ⟨by omega, by omega, by omega, fun k hk => ?_⟩
        have := hf _ (List.getElem_mem hk)
        unfold arcBad at this
        simp at this; omega
def flooked (N : Int) (l : List Arc) (s t : Int) : Int := if (ncheck N l).2 ≠ 0 then (ncheck N l).2 else if s < 0 ∨ N ≤ s ∨ t < 0 ∨ N ≤ t then 5 else if s = t then 4 else 0
theorem flooked_zero {N : Int} {l : List Arc} {s t : Int} (h : flooked N l s t = 0) : (ncheck N l).2 = 0 ∧ 0 ≤ s ∧ s < N ∧ 0 ≤ t ∧ t < N ∧ s ≠ t := by
  unfold flooked at h
  split at h
  · rename_i h1; exact absurd h h1
  · split at h
    · simp at h
    · split at h
      · simp at h
      · rename_i h1 h2 h3; exact ⟨by simpa using h1, by omega, by omega, by omega, by omega, h3⟩
theorem nok_of {n : Nat} {l : List Arc} (h : (ncheck (n : Int) l).2 = 0) (hok : ∀ x ∈ l, ArcOk x) : NOk n l := by
  obtain ⟨h1, h2, h3, h4⟩ := ncheck_zero h
  exact ⟨by omega, h3, h4, hok⟩
def u32s (l : List Int) : List Value := l.map (.int .u32 ·)
theorem u32s_len (l : List Int) : (u32s l).length = l.length := by simp [u32s]
theorem u32s_set (l : List Int) (i : Nat) (x : Int) : (u32s l).set i (.int .u32 x) = u32s (l.set i x) := by simp [u32s, List.map_set]
theorem u32s_at {l : List Int} {i : Nat} (h : i < l.length) : (u32s l)[i]? = some (.int .u32 (flAt l i)) := by rw [flAt_eq h]; simp [u32s, h]
theorem u32s0 (n : Nat) : (List.replicate n [Value.int .u32 0]).flatten = u32s (List.replicate n 0) := by
  induction n with
  | zero => rfl
  | succ n ih => simp only [List.replicate_succ, List.flatten_cons, ih]; rfl
theorem fl_ext {f g : List Int} (hl : f.length = g.length) (h : ∀ j, j < f.length → flAt f j = flAt g j) : f = g :=
  List.ext_getElem hl fun j a b => by have := h j a; rwa [flAt_eq a, flAt_eq b] at this
/-- What Max answers. -/
def MaxΦ (N : Int) (e : List Arc) (s t : Int) (u : Value) (own : List Seg) : Prop :=
  ∃ V v m f, u = .tuple #[.int .u64 V, v, .int .i64 (flooked N e s t)] ∧ own = [m] ∧ Own 53 1 v f.length (u32s f) m ∧ (flooked N e s t ≠ 0 → V = 0 ∧ f = []) ∧
    (flooked N e s t = 0 → Flow N.toNat e s.toNat t.toNat f V ∧ (∃ A, Side N.toNat e s.toNat t.toNat f A) ∧ 0 ≤ V ∧ V ≤ 70368744161280)
/-- The edges of a cut. -/
def cutP (sd : List Bool) (x : Arc) : Bool := sd.getD x.src.toNat false && !sd.getD x.dst.toNat false
/-- What Cut answers. -/
def CutΦ (N : Int) (e : List Arc) (s t : Int) (u : Value) (own : List Seg) : Prop :=
  ∃ V v m sd A c m2 W, u = .tuple #[v, .slice A W.length W.length, .int .u64 V, .int .i64 (flooked N e s t)] ∧ own = [m, m2] ∧ Own 4 1 v sd.length (sd.map .bool) m ∧ Own 3 1 (.slice A W.length c) W.length (ints W) m2 ∧
    (flooked N e s t ≠ 0 → V = 0 ∧ sd = [] ∧ W = []) ∧
    (flooked N e s t = 0 → sd.length = N.toNat ∧ W = idxs (cutP sd) e ∧ (∃ f, Flow N.toNat e s.toNat t.toNat f V ∧ Side N.toNat e s.toNat t.toNat f (fun v => sd.getD v false)) ∧ 0 ≤ V ∧ V ≤ 70368744161280)
theorem Side.congr {n : Nat} {e : List Arc} {s t : Nat} {f : List Int} {A B : Nat → Bool} (h : Side n e s t f A) (he : NetOk n e) (hs : s < n) (ht : t < n) (hAB : ∀ v, v < n → A v = B v) : Side n e s t f B where
  src := by rw [← hAB s hs]; exact h.src
  dst := by rw [← hAB t ht]; exact h.dst
  shut := fun k hk hl hB => by rw [← hAB _ (kto_lt he hk)]; exact h.shut k hk hl (by rw [hAB _ (kfrom_lt he hk)]; exact hB)
  reach := fun v hv hB => h.reach v hv (by rw [hAB v hv]; exact hB)
theorem bools_rep (b : Bool) (n : Nat) : (List.replicate n [Value.bool b]).flatten = (List.replicate n b).map .bool := by
  induction n with
  | zero => rfl
  | succ n ih => simp only [List.replicate_succ, List.flatten_cons, List.map_cons, ih]; rfl
theorem bools_set (l : List Bool) (i : Nat) (b : Bool) : (l.map Value.bool).set i (.bool b) = (l.set i b).map .bool := by rw [List.map_set]
theorem bools_at {l : List Bool} {i : Nat} (h : i < l.length) : (l.map Value.bool)[i]? = some (.bool (l.getD i false)) := by simp [List.getD_eq_getElem?_getD, h]

/-- Truths in memory of just their size. -/
def OwnB (v : Value) (sd : List Bool) (m : Seg) : Prop := (sd = [] ∧ v = .slice none 0 0 ∧ m = []) ∨ ∃ b, v = .slice (some ⟨b, 0, none⟩) sd.length sd.length ∧ m = [(b, blk (sd.map .bool) 4)]
theorem OwnB.own {v : Value} {sd : List Bool} {m : Seg} (h : OwnB v sd m) (hm : sd.length ≤ 9223372036854775807) : Own 4 1 v sd.length (sd.map .bool) m := by
  rcases h with ⟨rfl, rfl, rfl⟩ | ⟨b, rfl, rfl⟩
  · exact Own.nil _ _
  · exact Own.mk (by simp) hm
def CutΦ2 (N : Int) (e : List Arc) (s t : Int) (u : Value) (own : List Seg) : Prop :=
  ∃ V v m sd A c m2 W, u = .tuple #[v, .slice A W.length W.length, .int .u64 V, .int .i64 (flooked N e s t)] ∧ own = [m, m2] ∧ OwnB v sd m ∧ Own 3 1 (.slice A W.length c) W.length (ints W) m2 ∧
    (flooked N e s t ≠ 0 → V = 0 ∧ sd = [] ∧ W = []) ∧
    (flooked N e s t = 0 → sd.length = N.toNat ∧ W = idxs (cutP sd) e ∧ (∃ f, Flow N.toNat e s.toNat t.toNat f V ∧ Side N.toNat e s.toNat t.toNat f (fun v => sd.getD v false)) ∧ 0 ≤ V ∧ V ≤ 70368744161280)
theorem own_u32 {b n : Nat} {f : List Int} (h : f.length = n) (hn : n ≤ 16384) : Own 53 1 (.slice (some ⟨b, 0, none⟩) n n) f.length (u32s f) [(b, blk (u32s f) 53)] := by
  subst h; exact Own.mk (by rw [u32s_len]; omega) (by omega)
theorem own_bools {b n : Nat} {sd : List Bool} (h : sd.length = n) (hn : n ≤ 1024) : Own 4 1 (.slice (some ⟨b, 0, none⟩) n n) sd.length (sd.map .bool) [(b, blk (sd.map .bool) 4)] := by
  subst h; exact Own.mk (by simp) (by omega)

set_option maxRecDepth 100000 in
set_option maxHeartbeats 4000000 in
theorem FCheck_spec (N : Int) (A : Option Addr) (l : List Arc) (cap : Nat) (w : World) (hr : Ro (Fr w []) w A (l.flatMap arcCs)) (hl : l.length ≤ 9223372036854775807) (hN : I64 N) (hok : ∀ x ∈ l, ArcOk x) :
    Meets Try.prog 71 [.agg #[.int .i64 N, .slice A l.length cap]] w [] (fun v m => v = .tuple #[.int .i64 (ncheck N l).1, .int .i64 (ncheck N l).2] ∧ m = []) := by
 refine f_enter Try.func71 rfl Try.ntmps71 rfl Owns.nil ?_
 refine f_seq fun K1 kh1 => ?_
 refine f_region ?_
 refine f_step rfl rfl rfl (o_box rfl rfl fun b1 => ?_)
 refine f_stepP rfl rfl rfl (o_assign rfl) ?_
 refine f_stepP rfl rfl rfl (o_assign rfl) ?_
 refine f_done ?_
 refine f_tn (kh1 _ _ ?_)
 clear kh1
 refine f_seq fun K2 kh2 => ?_
 refine f_seq fun K3 kh3 => ?_
 refine f_region ?_
 refine f_stepP rfl rfl rfl (o_field fa59_0 rfl) ?_
 refine f_stepP rfl rfl rfl (o_load Try.isAgg3 rfl (rdA rfl)) ?_
 refine f_stepP rfl rfl rfl (o_lss rfl rfl) ?_
 refine f_stepP rfl rfl rfl (o_move rfl) ?_
 refine f_splitL 9 rfl (fun g9 => ?_) (fun g9 => ?_)
 ·
  refine f_stepN rfl rfl rfl rfl rfl rfl ?_
  refine f_stepN rfl rfl rfl rfl rfl rfl ?_
  refine f_stepN rfl rfl rfl rfl rfl rfl ?_
  refine f_stepP rfl rfl rfl (o_pickT rfl rfl) ?_
  refine f_done ?_
  refine f_tn (kh3 _ _ ?_)
  clear kh3
  refine f_condT rfl ?_
  refine f_seq fun K4 kh4 => ?_
  refine f_region ?_
  refine f_stepP rfl rfl rfl (o_assign rfl) ?_
  refine f_stepP rfl rfl rfl (o_assign rfl) ?_
  refine f_done ?_
  refine f_tn (kh4 _ _ ?_)
  clear kh4
  refine f_ret ?_
  refine f_tr ?_
  exact f_fin2 [] Try.results71 rfl rfl Sub.nil ⟨by rw [ncheck_range (by omega)], rfl⟩
 ·
  refine f_stepPY rfl rfl rfl rfl rfl (o_field fa59_0 rfl) ?_
  refine f_stepPY rfl rfl rfl rfl rfl (o_load Try.isAgg3 rfl (rdA rfl)) ?_
  refine f_stepPY rfl rfl rfl rfl rfl (o_gtr rfl rfl) ?_
  refine f_stepP rfl rfl rfl (o_pickF rfl rfl) ?_
  refine f_done ?_
  refine f_tn (kh3 _ _ ?_)
  clear kh3
  refine f_cond rfl (fun c13 => ?_) (fun c13 => ?_)
  ·
   refine f_seq fun K5 kh5 => ?_
   refine f_region ?_
   refine f_stepP rfl rfl rfl (o_assign rfl) ?_
   refine f_stepP rfl rfl rfl (o_assign rfl) ?_
   refine f_done ?_
   refine f_tn (kh5 _ _ ?_)
   clear kh5
   refine f_ret ?_
   refine f_tr ?_
   exact f_fin2 [] Try.results71 rfl rfl Sub.nil ⟨by rw [ncheck_range (by omega)], rfl⟩
  ·
   have hN1 : 1 ≤ N ∧ N ≤ 1024 := by omega
   refine f_skip ?_
   refine f_tn (kh2 _ _ ?_)
   clear kh2
   refine f_seq fun K6 kh6 => ?_
   refine f_seq fun K7 kh7 => ?_
   refine f_region ?_
   refine f_stepP rfl rfl rfl (o_field fa59_1 rfl) ?_
   refine f_stepP rfl rfl rfl (o_load Try.isAgg57 rfl (rdA rfl)) ?_
   refine f_stepP rfl rfl rfl (o_len sl57 rfl) ?_
   refine f_stepP rfl rfl rfl (o_gtr rfl rfl) ?_
   refine f_done ?_
   refine f_tn (kh7 _ _ ?_)
   clear kh7
   refine f_cond rfl (fun c17 => ?_) (fun c17 => ?_)
   ·
    refine f_seq fun K8 kh8 => ?_
    refine f_region ?_
    refine f_stepP rfl rfl rfl (o_assign rfl) ?_
    refine f_stepP rfl rfl rfl (o_assign rfl) ?_
    refine f_done ?_
    refine f_tn (kh8 _ _ ?_)
    clear kh8
    refine f_ret ?_
    refine f_tr ?_
    exact f_fin2 [] Try.results71 rfl rfl Sub.nil ⟨by rw [ncheck_long hN1 (by omega)], rfl⟩
   ·
    refine f_skip ?_
    refine f_tn (kh6 _ _ ?_)
    clear kh6
    refine f_seq fun K9 kh9 => ?_
    refine f_seq fun K10 kh10 => ?_
    refine f_region ?_
    refine f_stepP rfl rfl rfl (o_field fa59_1 rfl) ?_
    refine f_stepP rfl rfl rfl (o_load Try.isAgg57 rfl (rdA rfl)) ?_
    refine f_stepP rfl rfl rfl (o_len sl57 rfl) ?_
    refine f_stepP rfl rfl rfl (o_move rfl) ?_
    refine f_done ?_
    refine f_tn (kh10 _ _ ?_)
    clear kh10
    refine f_block ?_
    refine f_loop (α := Nat) [1, 19, 20] (fun k => [(21, .int .i64 (k : Int))]) (fun k => [[(b1, blk [.int .i64 N, .slice A l.length cap] 59)]]) (fun k => k ≤ l.length ∧ ∀ j (h : j < l.length), j < k → arcBad N l[j] = false) (fun k => l.length - k) (0) ?_ ?_ ?_ ?_
    · exact (by repeat (first | exact trivial | refine ⟨rfl, ?_⟩))
    · repeat (first | exact Sub.nil | refine Sub.pick ?_ | refine Sub.castO rfl ?_ | refine Sub.skip ?_)
    · exact ⟨by omega, fun j h hj => by omega⟩
    ·
     rintro k ⟨hkl, hall⟩
     refine f_seq fun K11 kh11 => ?_
     refine f_region ?_
     refine f_stepP rfl rfl rfl (o_lss rfl rfl) ?_
     refine f_done ?_
     refine f_tn (kh11 _ _ ?_)
     clear kh11
     refine f_seq fun K12 kh12 => ?_
     refine f_cond rfl (fun c22 => ?_) (fun c22 => ?_)
     ·
      refine f_skip ?_
      refine f_tn (kh12 _ _ ?_)
      clear kh12
      refine f_seq fun K13 kh13 => ?_
      refine f_block ?_
      refine f_seq fun K14 kh14 => ?_
      refine f_region ?_
      refine f_stepP rfl rfl rfl (o_move rfl) ?_
      have hk : k < l.length := by omega
      obtain ⟨b, off, rfl, hS, hc⟩ := hr (flat_ne arcCs arcCs_len (by omega) hk)
      refine f_stepP rfl rfl rfl (o_idx sl57 rfl rfl (off + k * 3) ⟨by omega, by omega, by first | omega | (simp; done) | (simp; omega)⟩) ?_
      refine f_stepP rfl rfl rfl (o_loadA (vs := arcCs l[k]) Try.isAgg62 Try.sizeOf62 rfl rfl (roElem arcCs_len hS hc hk)) ?_
      refine f_step rfl rfl rfl (o_alloc Try.zeroValue62 rfl fun b5 => ?_)
      refine f_stepP rfl rfl rfl (o_assign rfl) ?_
      refine f_step0 rfl rfl (o_storeA Try.sizeOf62 rfl rfl rfl rfl (by first | exact Nat.le_of_ble_eq_true rfl | (simp; done) | (simp; omega)) (arcCs l[k]) rfl ?_)
      refine f_done ?_
      refine f_tn (kh14 _ _ ?_)
      clear kh14
      refine f_seq fun K15 kh15 => ?_
      refine f_region ?_
      refine f_stepP rfl rfl rfl (o_field fa62_0 rfl) ?_
      refine f_stepP rfl rfl rfl (o_load Try.isAgg3 rfl (rdA rfl)) ?_
      refine f_stepP rfl rfl rfl (o_conv Try.runUnderlying3 Try.runUnderlying72 rfl _ rfl) ?_
      refine f_stepP rfl rfl rfl (o_field fa59_0 rfl) ?_
      refine f_stepP rfl rfl rfl (o_load Try.isAgg3 rfl (rdA rfl)) ?_
      refine f_stepP rfl rfl rfl (o_conv Try.runUnderlying3 Try.runUnderlying72 rfl _ rfl) ?_
      refine f_stepP rfl rfl rfl (o_geq rfl rfl) ?_
      refine f_stepP rfl rfl rfl (o_move rfl) ?_
      refine f_splitL 33 rfl (fun g33 => ?_) (fun g33 => ?_)
      ·
       refine f_stepN rfl rfl rfl rfl rfl rfl ?_
       refine f_stepN rfl rfl rfl rfl rfl rfl ?_
       refine f_stepN rfl rfl rfl rfl rfl rfl ?_
       refine f_stepN rfl rfl rfl rfl rfl rfl ?_
       refine f_stepN rfl rfl rfl rfl rfl rfl ?_
       refine f_stepN rfl rfl rfl rfl rfl rfl ?_
       refine f_stepN rfl rfl rfl rfl rfl rfl ?_
       refine f_stepP rfl rfl rfl (o_pickT rfl rfl) ?_
       refine f_done ?_
       refine f_tn (kh15 _ _ ?_)
       clear kh15
       refine f_condT rfl ?_
       refine f_seq fun K16 kh16 => ?_
       refine f_region ?_
       refine f_stepP rfl rfl rfl (o_move rfl) ?_
       refine f_stepP rfl rfl rfl (o_assign rfl) ?_
       refine f_stepP rfl rfl rfl (o_assign rfl) ?_
       refine f_done ?_
       refine f_tn (kh16 _ _ ?_)
       clear kh16
       refine f_ret ?_
       refine f_br ?_
       refine f_tr ?_
       refine f_tr ?_
       refine f_br ?_
       refine f_tr ?_
       exact f_fin2 [] Try.results71 rfl rfl Sub.nil ⟨by rw [ncheck_bad hN1 (by omega) hk hall (arcBadL hN1 (hok _ (List.getElem_mem hk)) g33)], rfl⟩
      ·
       refine f_stepPY rfl rfl rfl rfl rfl (o_field fa62_1 rfl) ?_
       refine f_stepPY rfl rfl rfl rfl rfl (o_load Try.isAgg3 rfl (rdA rfl)) ?_
       refine f_stepPY rfl rfl rfl rfl rfl (o_conv Try.runUnderlying3 Try.runUnderlying72 rfl _ rfl) ?_
       refine f_stepPY rfl rfl rfl rfl rfl (o_field fa59_0 rfl) ?_
       refine f_stepPY rfl rfl rfl rfl rfl (o_load Try.isAgg3 rfl (rdA rfl)) ?_
       refine f_stepPY rfl rfl rfl rfl rfl (o_conv Try.runUnderlying3 Try.runUnderlying72 rfl _ rfl) ?_
       refine f_stepPY rfl rfl rfl rfl rfl (o_geq rfl rfl) ?_
       refine f_stepP rfl rfl rfl (o_pickF rfl rfl) ?_
       refine f_done ?_
       refine f_tn (kh15 _ _ ?_)
       clear kh15
       refine f_cond rfl (fun c41 => ?_) (fun c41 => ?_)
       ·
        refine f_seq fun K17 kh17 => ?_
        refine f_region ?_
        refine f_stepP rfl rfl rfl (o_move rfl) ?_
        refine f_stepP rfl rfl rfl (o_assign rfl) ?_
        refine f_stepP rfl rfl rfl (o_assign rfl) ?_
        refine f_done ?_
        refine f_tn (kh17 _ _ ?_)
        clear kh17
        refine f_ret ?_
        refine f_br ?_
        refine f_tr ?_
        refine f_tr ?_
        refine f_br ?_
        refine f_tr ?_
        exact f_fin2 [] Try.results71 rfl rfl Sub.nil ⟨by rw [ncheck_bad hN1 (by omega) hk hall (arcBadR hN1 (hok _ (List.getElem_mem hk)) c41)], rfl⟩
       ·
        refine f_skip ?_
        refine f_bn ?_
        refine f_tn (kh13 _ _ ?_)
        clear kh13
        refine f_region ?_
        refine f_stepP rfl rfl rfl (o_add rfl rfl _ (wrap_i64 (by omega))) ?_
        refine f_stepP rfl rfl rfl (o_move rfl) ?_
        refine f_done ?_
        refine f_tn (f_again (k + 1) (by first | omega | (dsimp only; omega) | (simp; omega)) ⟨by omega, good_next hall (arcGood hN1 (hok _ (List.getElem_mem hk)) g33 c41)⟩ ?_ ?_ ?_)
        · exact (by repeat (first | exact trivial | refine ⟨rfl, ?_⟩))
        · exact (by repeat (first | exact trivial | refine ⟨rfl, ?_⟩))
        · repeat (first | exact Sub.nil | refine Sub.pick ?_ | refine Sub.castO rfl ?_ | refine Sub.skip ?_)
     ·
      refine f_exit ?_
      refine f_te ?_
      clear kh12
      refine f_te ?_
      refine f_be ?_
      refine f_tn (kh9 _ _ ?_)
      clear kh9
      refine f_seq fun K18 kh18 => ?_
      refine f_region ?_
      refine f_stepP rfl rfl rfl (o_assign rfl) ?_
      refine f_stepP rfl rfl rfl (o_assign rfl) ?_
      refine f_done ?_
      refine f_tn (kh18 _ _ ?_)
      clear kh18
      refine f_ret ?_
      exact f_fin2 [] Try.results71 rfl rfl Sub.nil ⟨by rw [ncheck_ok hN1 (by omega) (fun j h => hall j h (by omega))], rfl⟩

set_option maxRecDepth 100000 in
set_option maxHeartbeats 4000000 in
theorem FLooked_spec (N : Int) (A : Option Addr) (l : List Arc) (cap : Nat) (s t : Int) (w : World) (hr : Ro (Fr w []) w A (l.flatMap arcCs)) (hl : l.length ≤ 9223372036854775807) (hN : I64 N) (hok : ∀ x ∈ l, ArcOk x) :
    Meets Try.prog 52 [.agg #[.int .i64 N, .slice A l.length cap], .int .i64 s, .int .i64 t] w [] (fun u m => u = .int .i64 (flooked N l s t) ∧ m = []) := by
 refine f_enter Try.func52 rfl Try.ntmps52 rfl Owns.nil ?_
 refine f_seq fun K1 kh1 => ?_
 refine f_region ?_
 refine f_step rfl rfl rfl (o_box rfl rfl fun b3 => ?_)
 refine f_stepP rfl rfl rfl (o_assign rfl) ?_
 refine f_done ?_
 refine f_tn (kh1 _ _ ?_)
 clear kh1
 refine f_seq fun K2 kh2 => ?_
 refine f_seq fun K3 kh3 => ?_
 refine f_region ?_
 refine f_stepP rfl rfl rfl (o_loadA (vs := [_, _]) Try.isAgg59 Try.sizeOf59 rfl rfl ⟨(rdA rfl), (rdA rfl), trivial⟩) ?_
 refine f_step rfl rfl rfl (o_call Try.call71 rfl (fun w_ hp_ => FCheck_spec N A l cap w_ (hr.up0 hp_) hl hN hok) ?_)
 rintro _ _ ⟨rfl, rfl⟩
 dsimp only [List.cons_append, List.nil_append]
 refine f_stepP rfl rfl rfl (o_move rfl) ?_
 refine f_stepP rfl rfl rfl (o_extract rfl rfl) ?_
 refine f_stepP rfl rfl rfl (o_extract rfl rfl) ?_
 refine f_stepP rfl rfl rfl (o_assign rfl) ?_
 refine f_stepP rfl rfl rfl (o_assign rfl) ?_
 refine f_done ?_
 refine f_tn (kh3 _ _ ?_)
 clear kh3
 refine f_seq fun K4 kh4 => ?_
 refine f_region ?_
 refine f_stepP rfl rfl rfl (o_move rfl) ?_
 refine f_stepP rfl rfl rfl (o_neq rfl rfl) ?_
 refine f_done ?_
 refine f_tn (kh4 _ _ ?_)
 clear kh4
 refine f_cond rfl (fun c15 => ?_) (fun c15 => ?_)
 ·
  refine f_seq fun K5 kh5 => ?_
  refine f_region ?_
  refine f_stepP rfl rfl rfl (o_move rfl) ?_
  refine f_stepP rfl rfl rfl (o_assign rfl) ?_
  refine f_done ?_
  refine f_tn (kh5 _ _ ?_)
  clear kh5
  refine f_ret ?_
  refine f_tr ?_
  exact f_fin1 [] Try.results52 rfl Sub.nil ⟨by unfold flooked; rw [if_pos (by simpa using c15)], rfl⟩
 ·
  refine f_skip ?_
  refine f_tn (kh2 _ _ ?_)
  clear kh2
  refine f_seq fun K6 kh6 => ?_
  refine f_block ?_
  refine f_seq fun K7 kh7 => ?_
  refine f_region ?_
  refine f_stepP rfl rfl rfl (o_move rfl) ?_
  refine f_stepP rfl rfl rfl (o_lss rfl rfl) ?_
  refine f_stepP rfl rfl rfl (o_move rfl) ?_
  refine f_splitL 20 rfl (fun g20 => ?_) (fun g20 => ?_)
  ·
   refine f_stepN rfl rfl rfl rfl rfl rfl ?_
   refine f_stepN rfl rfl rfl rfl rfl rfl ?_
   refine f_stepN rfl rfl rfl rfl rfl rfl ?_
   refine f_stepN rfl rfl rfl rfl rfl rfl ?_
   refine f_stepP rfl rfl rfl (o_pickT rfl rfl) ?_
   refine f_stepP rfl rfl rfl (o_move rfl) ?_
   refine f_stepN rfl rfl rfl rfl rfl rfl ?_
   refine f_stepN rfl rfl rfl rfl rfl rfl ?_
   refine f_stepP rfl rfl rfl (o_pickT rfl rfl) ?_
   refine f_stepP rfl rfl rfl (o_move rfl) ?_
   refine f_stepN rfl rfl rfl rfl rfl rfl ?_
   refine f_stepN rfl rfl rfl rfl rfl rfl ?_
   refine f_stepN rfl rfl rfl rfl rfl rfl ?_
   refine f_stepN rfl rfl rfl rfl rfl rfl ?_
   refine f_stepP rfl rfl rfl (o_pickT rfl rfl) ?_
   refine f_stepP rfl rfl rfl (o_assign rfl) ?_
   refine f_done ?_
   refine f_tn (kh7 _ _ ?_)
   clear kh7
   refine f_condT rfl ?_
   refine f_seq fun K8 kh8 => ?_
   refine f_region ?_
   refine f_stepP rfl rfl rfl (o_assign rfl) ?_
   refine f_done ?_
   refine f_tn (kh8 _ _ ?_)
   clear kh8
   refine f_ret ?_
   refine f_br ?_
   refine f_tr ?_
   exact f_fin1 [] Try.results52 rfl Sub.nil ⟨by unfold flooked; rw [if_neg (by simpa using c15), if_pos (by omega)], rfl⟩
  ·
   refine f_stepPY rfl rfl rfl rfl rfl (o_move rfl) ?_
   refine f_stepPY rfl rfl rfl rfl rfl (o_field fa59_0 rfl) ?_
   refine f_stepPY rfl rfl rfl rfl rfl (o_load Try.isAgg3 rfl (rdA rfl)) ?_
   refine f_stepPY rfl rfl rfl rfl rfl (o_geq rfl rfl) ?_
   refine f_stepP rfl rfl rfl (o_pickF rfl rfl) ?_
   refine f_stepP rfl rfl rfl (o_move rfl) ?_
   refine f_splitL 26 rfl (fun g26 => ?_) (fun g26 => ?_)
   ·
    refine f_stepN rfl rfl rfl rfl rfl rfl ?_
    refine f_stepN rfl rfl rfl rfl rfl rfl ?_
    refine f_stepP rfl rfl rfl (o_pickT rfl rfl) ?_
    refine f_stepP rfl rfl rfl (o_move rfl) ?_
    refine f_stepN rfl rfl rfl rfl rfl rfl ?_
    refine f_stepN rfl rfl rfl rfl rfl rfl ?_
    refine f_stepN rfl rfl rfl rfl rfl rfl ?_
    refine f_stepN rfl rfl rfl rfl rfl rfl ?_
    refine f_stepP rfl rfl rfl (o_pickT rfl rfl) ?_
    refine f_stepP rfl rfl rfl (o_assign rfl) ?_
    refine f_done ?_
    refine f_tn (kh7 _ _ ?_)
    clear kh7
    refine f_condT rfl ?_
    refine f_seq fun K9 kh9 => ?_
    refine f_region ?_
    refine f_stepP rfl rfl rfl (o_assign rfl) ?_
    refine f_done ?_
    refine f_tn (kh9 _ _ ?_)
    clear kh9
    refine f_ret ?_
    refine f_br ?_
    refine f_tr ?_
    exact f_fin1 [] Try.results52 rfl Sub.nil ⟨by unfold flooked; rw [if_neg (by simpa using c15), if_pos (by omega)], rfl⟩
   ·
    refine f_stepPY rfl rfl rfl rfl rfl (o_move rfl) ?_
    refine f_stepPY rfl rfl rfl rfl rfl (o_lss rfl rfl) ?_
    refine f_stepP rfl rfl rfl (o_pickF rfl rfl) ?_
    refine f_stepP rfl rfl rfl (o_move rfl) ?_
    refine f_splitL 30 rfl (fun g30 => ?_) (fun g30 => ?_)
    ·
     refine f_stepN rfl rfl rfl rfl rfl rfl ?_
     refine f_stepN rfl rfl rfl rfl rfl rfl ?_
     refine f_stepN rfl rfl rfl rfl rfl rfl ?_
     refine f_stepN rfl rfl rfl rfl rfl rfl ?_
     refine f_stepP rfl rfl rfl (o_pickT rfl rfl) ?_
     refine f_stepP rfl rfl rfl (o_assign rfl) ?_
     refine f_done ?_
     refine f_tn (kh7 _ _ ?_)
     clear kh7
     refine f_condT rfl ?_
     refine f_seq fun K10 kh10 => ?_
     refine f_region ?_
     refine f_stepP rfl rfl rfl (o_assign rfl) ?_
     refine f_done ?_
     refine f_tn (kh10 _ _ ?_)
     clear kh10
     refine f_ret ?_
     refine f_br ?_
     refine f_tr ?_
     exact f_fin1 [] Try.results52 rfl Sub.nil ⟨by unfold flooked; rw [if_neg (by simpa using c15), if_pos (by omega)], rfl⟩
    ·
     refine f_stepPY rfl rfl rfl rfl rfl (o_move rfl) ?_
     refine f_stepPY rfl rfl rfl rfl rfl (o_field fa59_0 rfl) ?_
     refine f_stepPY rfl rfl rfl rfl rfl (o_load Try.isAgg3 rfl (rdA rfl)) ?_
     refine f_stepPY rfl rfl rfl rfl rfl (o_geq rfl rfl) ?_
     refine f_stepP rfl rfl rfl (o_pickF rfl rfl) ?_
     refine f_stepP rfl rfl rfl (o_assign rfl) ?_
     refine f_done ?_
     refine f_tn (kh7 _ _ ?_)
     clear kh7
     refine f_cond rfl (fun c17 => ?_) (fun c17 => ?_)
     ·
      refine f_seq fun K11 kh11 => ?_
      refine f_region ?_
      refine f_stepP rfl rfl rfl (o_assign rfl) ?_
      refine f_done ?_
      refine f_tn (kh11 _ _ ?_)
      clear kh11
      refine f_ret ?_
      refine f_br ?_
      refine f_tr ?_
      exact f_fin1 [] Try.results52 rfl Sub.nil ⟨by unfold flooked; rw [if_neg (by simpa using c15), if_pos (by omega)], rfl⟩
     ·
      refine f_seq fun K12 kh12 => ?_
      refine f_region ?_
      refine f_stepP rfl rfl rfl (o_move rfl) ?_
      refine f_stepP rfl rfl rfl (o_move rfl) ?_
      refine f_stepP rfl rfl rfl (o_eql rfl rfl) ?_
      refine f_stepP rfl rfl rfl (o_assign rfl) ?_
      refine f_done ?_
      refine f_tn (kh12 _ _ ?_)
      clear kh12
      refine f_cond rfl (fun c36 => ?_) (fun c36 => ?_)
      ·
       refine f_seq fun K13 kh13 => ?_
       refine f_region ?_
       refine f_stepP rfl rfl rfl (o_assign rfl) ?_
       refine f_done ?_
       refine f_tn (kh13 _ _ ?_)
       clear kh13
       refine f_ret ?_
       refine f_br ?_
       refine f_tr ?_
       exact f_fin1 [] Try.results52 rfl Sub.nil ⟨by unfold flooked; rw [if_neg (by simpa using c15), if_neg (by omega), if_pos (by omega)], rfl⟩
      ·
       refine f_skip ?_
       refine f_bn ?_
       refine f_tn (kh6 _ _ ?_)
       clear kh6
       refine f_seq fun K14 kh14 => ?_
       refine f_region ?_
       refine f_stepP rfl rfl rfl (o_assign rfl) ?_
       refine f_done ?_
       refine f_tn (kh14 _ _ ?_)
       clear kh14
       refine f_ret ?_
       exact f_fin1 [] Try.results52 rfl Sub.nil ⟨by unfold flooked; rw [if_neg (by simpa using c15), if_neg (by omega), if_neg (by omega)], rfl⟩

set_option maxRecDepth 100000 in
set_option maxHeartbeats 4000000 in
theorem ClipF5_spec (A : Option Addr) (len cap : Nat) (w : World) (h : len ≤ cap) (hm : cap ≤ 9223372036854775807) (hA : A = none → len = 0) :
    Meets Try.prog 55 [.slice A len cap] w [] (fun u m => u = .slice A len len ∧ m = []) := by
 refine f_enter Try.func55 rfl Try.ntmps55 rfl Owns.nil ?_
 refine f_seq fun K1 kh1 => ?_
 refine f_region ?_
 refine f_stepP rfl rfl rfl (o_assign rfl) ?_
 refine f_done ?_
 refine f_tn (kh1 _ _ ?_)
 clear kh1
 refine f_seq fun K2 kh2 => ?_
 refine f_region ?_
 refine f_stepP rfl rfl rfl (o_move rfl) ?_
 refine f_stepP rfl rfl rfl (o_move rfl) ?_
 refine f_stepP rfl rfl rfl (o_len sl35 rfl) ?_
 refine f_stepP rfl rfl rfl (o_move rfl) ?_
 refine f_stepP rfl rfl rfl (o_len sl35 rfl) ?_
 refine f_stepP rfl rfl rfl (o_slice sl35 rfl rfl rfl rfl (fun _ => rfl) 0 len len (.inl ⟨rfl, rfl⟩) (.inr ⟨_, _, rfl, by omega⟩) (.inr ⟨_, _, rfl, by omega⟩) ⟨by omega, by omega, by omega⟩ (.slice A len len) (by rw [Nat.sub_zero]; congr 1; split; rfl; cases A with | none => rfl | some x => obtain ⟨p, q, r⟩ := x; cases r <;> simp [Addr.add])) ?_
 refine f_stepP rfl rfl rfl (o_assign rfl) ?_
 refine f_done ?_
 refine f_tn (kh2 _ _ ?_)
 clear kh2
 refine f_ret ?_
 exact f_fin1 [] Try.results55 rfl Sub.nil ⟨rfl, rfl⟩

set_option maxRecDepth 100000 in
set_option maxHeartbeats 4000000 in
theorem Cut_spec2 (N : Int) (A : Option Addr) (l : List Arc) (cap : Nat) (s t : Int) (w : World) (hr : Ro (Fr w []) w A (l.flatMap arcCs)) (hl : l.length ≤ 9223372036854775807) (hN : I64 N) (hok : ∀ x ∈ l, ArcOk x) :
    Meets Try.prog 30 [.agg #[.int .i64 N, .slice A l.length cap], .int .i64 s, .int .i64 t] w [] (CutΦ2 N l s t) := by
 refine f_enter Try.func30 rfl Try.ntmps30 rfl Owns.nil ?_
 refine f_seq fun K1 kh1 => ?_
 refine f_region ?_
 refine f_step rfl rfl rfl (o_box rfl rfl fun b3 => ?_)
 refine f_stepP rfl rfl rfl (o_assign rfl) ?_
 refine f_stepP rfl rfl rfl (o_assign rfl) ?_
 refine f_stepP rfl rfl rfl (o_assign rfl) ?_
 refine f_stepP rfl rfl rfl (o_assign rfl) ?_
 refine f_done ?_
 refine f_tn (kh1 _ _ ?_)
 clear kh1
 refine f_seq fun K2 kh2 => ?_
 refine f_seq fun K3 kh3 => ?_
 refine f_region ?_
 refine f_stepP rfl rfl rfl (o_loadA (vs := [_, _]) Try.isAgg59 Try.sizeOf59 rfl rfl ⟨(rdA rfl), (rdA rfl), trivial⟩) ?_
 refine f_stepP rfl rfl rfl (o_move rfl) ?_
 refine f_stepP rfl rfl rfl (o_move rfl) ?_
 refine f_step rfl rfl rfl (o_call Try.call52 rfl (fun w_ hp_ => FLooked_spec N A l cap s t w_ (hr.up0 hp_) hl hN hok) ?_)
 rintro _ _ ⟨rfl, rfl⟩
 dsimp only [List.cons_append, List.nil_append]
 refine f_stepP rfl rfl rfl (o_assign rfl) ?_
 refine f_done ?_
 refine f_tn (kh3 _ _ ?_)
 clear kh3
 refine f_seq fun K4 kh4 => ?_
 refine f_region ?_
 refine f_stepP rfl rfl rfl (o_move rfl) ?_
 refine f_stepP rfl rfl rfl (o_neq rfl rfl) ?_
 refine f_done ?_
 refine f_tn (kh4 _ _ ?_)
 clear kh4
 refine f_cond rfl (fun c21 => ?_) (fun c21 => ?_)
 ·
  refine f_seq fun K5 kh5 => ?_
  refine f_region ?_
  refine f_stepP rfl rfl rfl (o_move rfl) ?_
  refine f_stepP rfl rfl rfl (o_assign rfl) ?_
  refine f_stepP rfl rfl rfl (o_assign rfl) ?_
  refine f_stepP rfl rfl rfl (o_assign rfl) ?_
  refine f_stepP rfl rfl rfl (o_assign rfl) ?_
  refine f_done ?_
  refine f_tn (kh5 _ _ ?_)
  clear kh5
  refine f_ret ?_
  refine f_tr ?_
  exact f_fin4 [[], []] Try.results30 rfl rfl rfl rfl (Sub.transF Sub.empty Sub.addNil) ⟨0, .slice none 0 0, [], [], none, 0, [], [], rfl, rfl, .inl ⟨rfl, rfl, rfl⟩, Own.nil _ _, fun _ => ⟨rfl, rfl, rfl⟩, fun h => absurd h c21⟩
 ·
  have hz : flooked N l s t = 0 := by simpa using c21
  obtain ⟨hg0, hs0, hs1, ht0, ht1, hst0⟩ := flooked_zero hz
  have hN1 := ncheck_zero hg0
  obtain ⟨n, rfl⟩ : ∃ n : Nat, N = n := ⟨N.toNat, by omega⟩
  obtain ⟨a, rfl⟩ : ∃ k : Nat, s = k := ⟨s.toNat, by omega⟩
  obtain ⟨b, rfl⟩ : ∃ k : Nat, t = k := ⟨t.toNat, by omega⟩
  have hn := nok_of hg0 hok
  have hn1 := hn.n1
  have hel := hn.len
  have han : a < n := by omega
  have hbn : b < n := by omega
  have hab : a ≠ b := by omega
  refine f_skip ?_
  refine f_tn (kh2 _ _ ?_)
  clear kh2
  refine f_seq fun K6 kh6 => ?_
  refine f_region ?_
  refine f_stepP rfl rfl rfl (o_loadA (vs := [_, _]) Try.isAgg59 Try.sizeOf59 rfl rfl ⟨(rdA rfl), (rdA rfl), trivial⟩) ?_
  refine f_step rfl rfl rfl (o_call Try.call53 rfl (fun w_ hp_ => fbegin_spec n A l cap w_ (hr.up0 hp_) hn) ?_)
  rintro _ _ ⟨bx, mD, rfl, rfl, hD0⟩
  dsimp only [List.cons_append, List.nil_append]
  refine f_stepP rfl rfl rfl (o_assign rfl) ?_
  refine f_done ?_
  refine f_tn (kh6 _ _ ?_)
  clear kh6
  refine f_seq fun K7 kh7 => ?_
  refine f_region ?_
  refine f_stepP rfl rfl rfl (o_move rfl) ?_
  refine f_stepP rfl rfl rfl (o_move rfl) ?_
  refine f_stepP rfl rfl rfl (o_move rfl) ?_
  refine f_step rfl rfl rfl (o_callM [mD] _ Try.call54 rfl (Sub.pick Sub.refl) (fun w_ hp_ => run_spec n l (List.replicate n 0) (List.replicate n 0) bx mD a b w_ hn (by simp) (by simp) hD0 han hbn hab hp_.owns) ?_)
  rintro _ _ ⟨V, f, L, nx, m', rfl, rfl, hD, hF, hLy, hLt, hV0, hV1⟩
  have hfl := hF.fits.len
  have hLl := hLy.len
  dsimp only [List.cons_append, List.nil_append]
  refine f_stepP rfl rfl rfl (o_assign rfl) ?_
  refine f_done ?_
  refine f_tn (kh7 _ _ ?_)
  clear kh7
  refine f_seq fun K8 kh8 => ?_
  refine f_region ?_
  refine f_stepP rfl rfl rfl (o_field fa59_0 rfl) ?_
  refine f_stepP rfl rfl rfl (o_load Try.isAgg3 rfl (rdA rfl)) ?_
  refine f_step rfl rfl rfl (o_make el42 rfl rfl n rfl (by omega) (by omega) ((List.replicate n false).map .bool) (bools_rep false n) fun b31 => ?_)
  refine f_stepP rfl rfl rfl (o_assign rfl) ?_
  refine f_done ?_
  refine f_tn (kh8 _ _ ?_)
  clear kh8
  refine f_seq fun K9 kh9 => ?_
  refine f_seq fun K10 kh10 => ?_
  obtain ⟨bat, bl, bn, ve, vs, ms, me, hmp, hR, hE⟩ := hD
  obtain ⟨Ae, ce, rfl, _⟩ := hE.val
  refine f_subC (Sub.openAt hmp) ?_
  unfold dsegs
  dsimp only [List.cons_append, List.nil_append]
  refine f_region ?_
  refine f_stepP rfl rfl rfl (o_move rfl) ?_
  refine f_stepP rfl rfl rfl (o_nil rfl) ?_
  refine f_stepP rfl rfl rfl (o_field fa95_2 rfl) ?_
  refine f_stepP rfl rfl rfl (o_load Try.isAgg35 rfl (rdA rfl)) ?_
  refine f_stepP rfl rfl rfl (o_len sl35 rfl) ?_
  refine f_stepP rfl rfl rfl (o_move rfl) ?_
  refine f_done ?_
  refine f_tn (kh10 _ _ ?_)
  clear kh10
  refine f_block ?_
  refine f_loop (α := Nat × List Bool) [3, 6, 7, 8, 35, 36] (fun ⟨v, sd⟩ => [(37, .int .i64 (v : Int))]) (fun ⟨v, sd⟩ => [[(b31, blk (sd.map .bool) 4)], [(bl, blk (ints L) 3)], [(b3, blk [.int .i64 (n : Int), .slice A l.length cap] 59)]]) (fun ⟨v, sd⟩ => v ≤ n ∧ sd.length = n ∧ ∀ u, u < v → sd.getD u false = decide (0 ≤ flAt L u)) (fun ⟨v, sd⟩ => n - v) (0, List.replicate n false) ?_ ?_ ?_ ?_
  · exact (by repeat (first | exact trivial | refine ⟨rfl, ?_⟩))
  · repeat (first | exact Sub.nil | refine Sub.pick ?_ | refine Sub.castO rfl ?_ | refine Sub.skip ?_)
  · exact ⟨Nat.zero_le _, by simp, fun j h => by omega⟩
  ·
   rintro ⟨v, sd⟩ ⟨hvn, hsl, hsu⟩
   refine f_seq fun K11 kh11 => ?_
   refine f_region ?_
   refine f_stepP rfl rfl rfl (o_lss rfl rfl) ?_
   refine f_done ?_
   refine f_tn (kh11 _ _ ?_)
   clear kh11
   refine f_seq fun K12 kh12 => ?_
   refine f_cond rfl (fun c38 => ?_) (fun c38 => ?_)
   ·
    refine f_skip ?_
    refine f_tn (kh12 _ _ ?_)
    clear kh12
    refine f_seq fun K13 kh13 => ?_
    refine f_block ?_
    refine f_seq fun K14 kh14 => ?_
    refine f_region ?_
    refine f_stepP rfl rfl rfl (o_move rfl) ?_
    have hv' : v < n := by omega
    refine f_stepP rfl rfl rfl (o_idx sl35 rfl rfl (v) ⟨by omega, by omega, by first | omega | (simp; done) | (simp; omega)⟩) ?_
    refine f_stepP rfl rfl rfl (o_load Try.isAgg3 rfl (rdA (ints_fl (by omega)))) ?_
    refine f_stepP rfl rfl rfl (o_assign rfl) ?_
    refine f_stepP rfl rfl rfl (o_assign rfl) ?_
    refine f_done ?_
    refine f_tn (kh14 _ _ ?_)
    clear kh14
    refine f_region ?_
    refine f_stepP rfl rfl rfl (o_move rfl) ?_
    refine f_stepP rfl rfl rfl (o_move rfl) ?_
    refine f_stepP rfl rfl rfl (o_move rfl) ?_
    refine f_stepP rfl rfl rfl (o_geq rfl rfl) ?_
    refine f_stepP rfl rfl rfl (o_idx sl42 rfl rfl (v) ⟨by omega, by omega, by first | omega | (simp; done) | (simp; omega)⟩) ?_
    refine f_step0 rfl rfl (o_store Try.sizeOf4 rfl rfl rfl rfl (by rw [List.length_map]; omega) ((sd.set v (decide (0 ≤ flAt L v))).map .bool) (bools_set _ _ _) ?_)
    refine f_done ?_
    refine f_bn ?_
    refine f_tn (kh13 _ _ ?_)
    clear kh13
    refine f_region ?_
    refine f_stepP rfl rfl rfl (o_add rfl rfl _ (wrap_i64 (by omega))) ?_
    refine f_stepP rfl rfl rfl (o_move rfl) ?_
    refine f_done ?_
    refine f_tn (f_again (v + 1, sd.set v (decide (0 ≤ flAt L v))) (by first | omega | (dsimp only; omega) | (simp; omega)) ⟨by omega, by simpa using hsl, fun u hu => by
      rw [List.getD_eq_getElem?_getD, List.getElem?_set]
      by_cases e : v = u
      · subst e; rw [if_pos rfl, if_pos (by omega)]; rfl
      · rw [if_neg e, ← List.getD_eq_getElem?_getD]; exact hsu u (by omega)⟩ ?_ ?_ ?_)
    · exact (by repeat (first | exact trivial | refine ⟨rfl, ?_⟩))
    · exact (by repeat (first | exact trivial | refine ⟨rfl, ?_⟩))
    · repeat (first | exact Sub.nil | refine Sub.pick ?_ | refine Sub.castO rfl ?_ | refine Sub.skip ?_)
   ·
    refine f_exit ?_
    refine f_te ?_
    clear kh12
    refine f_te ?_
    refine f_be ?_
    refine f_tn (kh9 _ _ ?_)
    clear kh9
    refine f_seq fun K15 kh15 => ?_
    refine f_seq fun K16 kh16 => ?_
    refine f_region ?_
    refine f_stepP rfl rfl rfl (o_field fa59_1 rfl) ?_
    refine f_stepP rfl rfl rfl (o_load Try.isAgg57 rfl (rdA rfl)) ?_
    refine f_stepP rfl rfl rfl (o_len sl57 rfl) ?_
    refine f_stepP rfl rfl rfl (o_move rfl) ?_
    refine f_done ?_
    refine f_tn (kh16 _ _ ?_)
    clear kh16
    refine f_block ?_
    refine f_loop (α := Nat × Value × Seg) [6, 8, 49, 50] (fun ⟨i, wv, wm⟩ => [(51, .int .i64 (i : Int)), (7, wv)]) (fun ⟨i, wv, wm⟩ => [[(b31, blk (sd.map .bool) 4)], [(b3, blk [.int .i64 (n : Int), .slice A l.length cap] 59)], wm]) (fun ⟨i, wv, wm⟩ => i ≤ l.length ∧ Own 3 1 wv (idxs (cutP sd) (l.take i)).length (ints (idxs (cutP sd) (l.take i))) wm ∧ (idxs (cutP sd) (l.take i)).length ≤ i) (fun ⟨i, wv, wm⟩ => l.length - i) (0, .slice none 0 0, []) ?_ ?_ ?_ ?_
    · exact (by repeat (first | exact trivial | refine ⟨rfl, ?_⟩))
    · repeat (first | exact Sub.nil | refine Sub.pick ?_ | refine Sub.castO rfl ?_ | refine Sub.skip ?_)
    · exact ⟨Nat.zero_le _, Own.nil _ _, Nat.le_refl _⟩
    ·
     rintro ⟨i, wv, wm⟩ ⟨hil, hW, hWi⟩
     obtain ⟨Aw, cw, rfl, hcw⟩ := hW.val
     refine f_envC (e := [(51, _), (7, _), (6, _), (8, _), (49, _), (50, _)]) (by repeat (first | exact trivial | refine ⟨rfl, ?_⟩)) ?_
     refine f_seq fun K17 kh17 => ?_
     refine f_region ?_
     refine f_stepP rfl rfl rfl (o_lss rfl rfl) ?_
     refine f_done ?_
     refine f_tn (kh17 _ _ ?_)
     clear kh17
     refine f_seq fun K18 kh18 => ?_
     refine f_cond rfl (fun c52 => ?_) (fun c52 => ?_)
     ·
      refine f_skip ?_
      refine f_tn (kh18 _ _ ?_)
      clear kh18
      refine f_seq fun K19 kh19 => ?_
      refine f_block ?_
      refine f_seq fun K20 kh20 => ?_
      refine f_region ?_
      refine f_stepP rfl rfl rfl (o_move rfl) ?_
      have hi : i < l.length := by omega
      obtain ⟨bq, off, rfl, hS, hc⟩ := hr (flat_ne arcCs arcCs_len (by omega) hi)
      have hgi := hn.good i hi
      refine f_stepP rfl rfl rfl (o_idx sl57 rfl rfl (off + i * 3) ⟨by omega, by omega, by first | omega | (simp; done) | (simp; omega)⟩) ?_
      refine f_stepP rfl rfl rfl (o_loadA (vs := arcCs l[i]) Try.isAgg62 Try.sizeOf62 rfl rfl (roElem arcCs_len hS hc hi)) ?_
      refine f_step rfl rfl rfl (o_alloc Try.zeroValue62 rfl fun b15 => ?_)
      refine f_stepP rfl rfl rfl (o_assign rfl) ?_
      refine f_step0 rfl rfl (o_storeA Try.sizeOf62 rfl rfl rfl rfl (by first | exact Nat.le_of_ble_eq_true rfl | (simp; done) | (simp; omega)) (arcCs l[i]) rfl ?_)
      refine f_done ?_
      refine f_tn (kh20 _ _ ?_)
      clear kh20
      refine f_seq fun K21 kh21 => ?_
      refine f_region ?_
      refine f_stepP rfl rfl rfl (o_move rfl) ?_
      refine f_stepP rfl rfl rfl (o_field fa62_0 rfl) ?_
      refine f_stepP rfl rfl rfl (o_load Try.isAgg3 rfl (rdA rfl)) ?_
      refine f_stepP rfl rfl rfl (o_idx sl42 rfl rfl (l[i].src.toNat) ⟨by omega, by omega, by first | omega | (simp; done) | (simp; omega)⟩) ?_
      refine f_stepP rfl rfl rfl (o_load Try.isAgg4 rfl (rdA (bools_at (by omega)))) ?_
      refine f_stepP rfl rfl rfl (o_move rfl) ?_
      refine f_splitLB 61 rfl (fun g61 => ?_) (fun g61 => ?_)
      ·
       refine f_stepPY rfl rfl rfl rfl rfl (o_move rfl) ?_
       refine f_stepPY rfl rfl rfl rfl rfl (o_field fa62_1 rfl) ?_
       refine f_stepPY rfl rfl rfl rfl rfl (o_load Try.isAgg3 rfl (rdA rfl)) ?_
       refine f_stepPY rfl rfl rfl rfl rfl (o_idx sl42 rfl rfl (l[i].dst.toNat) ⟨by omega, by omega, by first | omega | (simp; done) | (simp; omega)⟩) ?_
       refine f_stepPY rfl rfl rfl rfl rfl (o_load Try.isAgg4 rfl (rdA (bools_at (by omega)))) ?_
       refine f_stepPY rfl rfl rfl rfl rfl (o_not rfl) ?_
       refine f_stepP rfl rfl rfl (o_pickT rfl rfl) ?_
       refine f_done ?_
       refine f_tn (kh21 _ _ ?_)
       clear kh21
       refine f_condB rfl (fun c68 => ?_) (fun c68 => ?_)
       ·
        refine f_region ?_
        refine f_stepP rfl rfl rfl (o_move rfl) ?_
        refine f_stepP rfl rfl rfl (o_move rfl) ?_
        refine f_step rfl rfl rfl (o_slice1 el35 (by omega) rfl rfl rfl fun b71 => ?_)
        refine f_step rfl rfl rfl (o_append el35 rfl rfl hW (ys := [.int .i64 (i : Int)]) ⟨(rdA rfl), trivial⟩ rfl rfl (by omega) (by omega) fun v72 m72 o72 => ?_)
        refine f_stepP rfl rfl rfl (o_assign rfl) ?_
        refine f_done ?_
        refine f_bn ?_
        refine f_tn (kh19 _ _ ?_)
        clear kh19
        refine f_region ?_
        refine f_stepP rfl rfl rfl (o_add rfl rfl _ (wrap_i64 (by omega))) ?_
        refine f_stepP rfl rfl rfl (o_move rfl) ?_
        refine f_done ?_
        refine f_tn (f_again (i + 1, v72, m72) (by first | omega | (dsimp only; omega) | (simp; omega)) ⟨by omega, by rw [idxs_yes hi (by unfold cutP; rw [g61, c68]; rfl), List.length_append, ints_append]; exact o72, by rw [idxs_yes hi (by unfold cutP; rw [g61, c68]; rfl), List.length_append]; simp; omega⟩ ?_ ?_ ?_)
        · exact (by repeat (first | exact trivial | refine ⟨rfl, ?_⟩))
        · exact (by repeat (first | exact trivial | refine ⟨rfl, ?_⟩))
        · repeat (first | exact Sub.nil | refine Sub.pick ?_ | refine Sub.castO rfl ?_ | refine Sub.skip ?_)
       ·
        refine f_skip ?_
        refine f_bn ?_
        refine f_tn (kh19 _ _ ?_)
        clear kh19
        refine f_region ?_
        refine f_stepP rfl rfl rfl (o_add rfl rfl _ (wrap_i64 (by omega))) ?_
        refine f_stepP rfl rfl rfl (o_move rfl) ?_
        refine f_done ?_
        refine f_tn (f_again (i + 1, .slice Aw (idxs (cutP sd) (l.take i)).length cw, wm) (by first | omega | (dsimp only; omega) | (simp; omega)) ⟨by omega, by rw [idxs_no hi (by unfold cutP; first | (rw [g61, c68]; rfl) | (rw [g61]; rfl))]; exact hW, by rw [idxs_no hi (by unfold cutP; first | (rw [g61, c68]; rfl) | (rw [g61]; rfl))]; omega⟩ ?_ ?_ ?_)
        · exact (by repeat (first | exact trivial | refine ⟨rfl, ?_⟩))
        · exact (by repeat (first | exact trivial | refine ⟨rfl, ?_⟩))
        · repeat (first | exact Sub.nil | refine Sub.pick ?_ | refine Sub.castO rfl ?_ | refine Sub.skip ?_)
      ·
       refine f_stepN rfl rfl rfl rfl rfl rfl ?_
       refine f_stepN rfl rfl rfl rfl rfl rfl ?_
       refine f_stepN rfl rfl rfl rfl rfl rfl ?_
       refine f_stepN rfl rfl rfl rfl rfl rfl ?_
       refine f_stepN rfl rfl rfl rfl rfl rfl ?_
       refine f_stepN rfl rfl rfl rfl rfl rfl ?_
       refine f_stepP rfl rfl rfl (o_pickF rfl rfl) ?_
       refine f_done ?_
       refine f_tn (kh21 _ _ ?_)
       clear kh21
       refine f_condF rfl ?_
       refine f_skip ?_
       refine f_bn ?_
       refine f_tn (kh19 _ _ ?_)
       clear kh19
       refine f_region ?_
       refine f_stepP rfl rfl rfl (o_add rfl rfl _ (wrap_i64 (by omega))) ?_
       refine f_stepP rfl rfl rfl (o_move rfl) ?_
       refine f_done ?_
       refine f_tn (f_again (i + 1, .slice Aw (idxs (cutP sd) (l.take i)).length cw, wm) (by first | omega | (dsimp only; omega) | (simp; omega)) ⟨by omega, by rw [idxs_no hi (by unfold cutP; first | (rw [g61, c68]; rfl) | (rw [g61]; rfl))]; exact hW, by rw [idxs_no hi (by unfold cutP; first | (rw [g61, c68]; rfl) | (rw [g61]; rfl))]; omega⟩ ?_ ?_ ?_)
       · exact (by repeat (first | exact trivial | refine ⟨rfl, ?_⟩))
       · exact (by repeat (first | exact trivial | refine ⟨rfl, ?_⟩))
       · repeat (first | exact Sub.nil | refine Sub.pick ?_ | refine Sub.castO rfl ?_ | refine Sub.skip ?_)
     ·
      refine f_exit ?_
      refine f_te ?_
      clear kh18
      refine f_te ?_
      refine f_be ?_
      refine f_tn (kh15 _ _ ?_)
      clear kh15
      refine f_seq fun K22 kh22 => ?_
      refine f_region ?_
      refine f_stepP rfl rfl rfl (o_move rfl) ?_
      refine f_stepP rfl rfl rfl (o_move rfl) ?_
      refine f_step rfl rfl rfl (o_call Try.call55 rfl (fun w_ hp_ => ClipF5_spec Aw (idxs (cutP sd) (l.take i)).length cw w_ hcw.1 hcw.2 (own_none hW)) ?_)
      rintro _ _ ⟨rfl, rfl⟩
      dsimp only [List.cons_append, List.nil_append]
      refine f_stepP rfl rfl rfl (o_move rfl) ?_
      refine f_stepP rfl rfl rfl (o_assign rfl) ?_
      refine f_stepP rfl rfl rfl (o_assign rfl) ?_
      refine f_stepP rfl rfl rfl (o_assign rfl) ?_
      refine f_stepP rfl rfl rfl (o_assign rfl) ?_
      refine f_done ?_
      refine f_tn (kh22 _ _ ?_)
      clear kh22
      refine f_ret ?_
      have hie : l.take i = l := List.take_of_length_le (by omega)
      rw [hie] at hW ⊢
      exact f_fin4 [[(b31, blk (sd.map .bool) 4)], wm] Try.results30 rfl rfl rfl rfl (by repeat (first | exact Sub.nil | refine Sub.pick ?_ | refine Sub.castO rfl ?_)) ⟨V, _, _, sd, Aw, cw, wm, _, by rw [hz], rfl, .inr ⟨b31, by rw [hsl], rfl⟩, hW, fun h => absurd hz h, fun _ => by rw [Int.toNat_natCast, Int.toNat_natCast, Int.toNat_natCast]; exact ⟨hsl, rfl, ⟨f, hF, (hLy.side hn.net hLt).congr hn.net han hbn fun u hu => (hsu u (by omega)).symm⟩, hV0, hV1⟩⟩


theorem Cut_spec (N : Int) (A : Option Addr) (l : List Arc) (cap : Nat) (s t : Int) (w : World) (hr : Ro (Fr w []) w A (l.flatMap arcCs)) (hl : l.length ≤ 9223372036854775807) (hN : I64 N) (hok : ∀ x ∈ l, ArcOk x) :
    Meets Try.prog 30 [.agg #[.int .i64 N, .slice A l.length cap], .int .i64 s, .int .i64 t] w [] (CutΦ N l s t) := (Cut_spec2 N A l cap s t w hr hl hN hok).mono fun u m ⟨V, v, m1, sd, A1, c, m2, W, e1, e2, h1, h2, h3, h4⟩ =>
  ⟨V, v, m1, sd, A1, c, m2, W, e1, e2, h1.own (by
    by_cases hz : flooked N l s t = 0
    · have := (h4 hz).1
      obtain ⟨hg0, _⟩ := flooked_zero hz
      have := ncheck_zero hg0
      omega
    · rw [(h3 hz).2.1]; simp), h2, h3, h4⟩

end Go.Proofs.Ytbjiejhdgkpjcaa

/- Lists without equals side by side; rising lists. -/

namespace Go.Proofs.Ytbjiejhdgkpjcaa
open Go Fly
set_option linter.unusedVariables false
set_option linter.unusedSectionVars false
set_option linter.unusedSimpArgs false

variable {α : Type} [DecidableEq α]
/-- Of equals that stand side by side the first one. -/
def cpt : List α → List α
  | [] => []
  | [x] => [x]
  | x :: y :: r => if x = y then cpt (y :: r) else x :: cpt (y :: r)
theorem cpt_head : ∀ (x : α) (r : List α), ∃ r', cpt (x :: r) = x :: r'
  | x, [] => ⟨[], rfl⟩
  | x, y :: r => by
    obtain ⟨r', h⟩ := cpt_head y r
    by_cases e : x = y
    · subst e; exact ⟨r', by rw [cpt, if_pos rfl, h]⟩
    · exact ⟨cpt (y :: r), by rw [cpt, if_neg e]⟩
theorem cpt_snoc : ∀ (xs : List α) (z : α), cpt (xs ++ [z]) = if xs.getLast? = some z then cpt xs else cpt xs ++ [z]
  | [], z => by simp [cpt]
  | [x], z => by
    by_cases e : x = z <;> simp [cpt, e]
  | x :: y :: r, z => by
    have ih := cpt_snoc (y :: r) z
    have e1 : (x :: y :: r).getLast? = (y :: r).getLast? := by simp [List.getLast?_cons_cons]
    show cpt (x :: y :: (r ++ [z])) = _
    rw [cpt, e1]
    rw [show y :: (r ++ [z]) = (y :: r) ++ [z] from rfl, ih]
    by_cases e : x = y
    · rw [if_pos e]; rw [show cpt (x :: y :: r) = cpt (y :: r) by rw [cpt, if_pos e]]
    · rw [if_neg e]; rw [show cpt (x :: y :: r) = x :: cpt (y :: r) by rw [cpt, if_neg e]]
      split <;> simp
theorem cpt_len_le : ∀ (l : List α), (cpt l).length ≤ l.length
  | [] => Nat.le_refl _
  | [x] => Nat.le_refl _
  | x :: y :: r => by
    have := cpt_len_le (y :: r)
    simp only [cpt]; split <;> simp only [List.length_cons] at * <;> omega
theorem cpt_mem : ∀ (l : List α) (a : α), a ∈ cpt l ↔ a ∈ l
  | [], a => Iff.rfl
  | [x], a => Iff.rfl
  | x :: y :: r, a => by
    have ih := cpt_mem (y :: r) a
    simp only [cpt]
    split
    · rename_i e; subst e; rw [ih]; simp
    · simp only [List.mem_cons] at ih ⊢; rw [ih]
/-- The next one. -/
theorem cpt_next {l : List α} {j : Nat} (h0 : 0 < j) (hj : j < l.length) : cpt (l.take (j + 1)) = if l[j - 1]'(by omega) = l[j] then cpt (l.take j) else cpt (l.take j) ++ [l[j]] := by
  rw [List.take_succ_eq_append_getElem hj, cpt_snoc]
  have : (l.take j).getLast? = some (l[j - 1]'(by omega)) := by
    rw [List.getLast?_eq_getElem?, List.length_take, Nat.min_eq_left (by omega), List.getElem?_take_of_lt (by omega), List.getElem?_eq_getElem (by omega)]
  rw [this]
  by_cases e : l[j - 1]'(by omega) = l[j] <;> simp [e]
theorem cpt_one {l : List α} (h : 0 < l.length) : cpt (l.take 1) = l.take 1 := by
  cases l with
  | nil => simp at h
  | cons x r => rfl
/-- Of a rising list only one of each is left. -/
theorem cpt_rising {R : α → α → Prop} (ht : ∀ a b c, R a b → R b c → R a c) (hR : ∀ a b, R a b → a ≠ b) : ∀ {l : List α}, l.Pairwise (fun x y => x = y ∨ R x y) → (cpt l).Pairwise R
  | [], _ => List.Pairwise.nil
  | [x], _ => by simp [cpt]
  | x :: y :: r, h => by
    have h' := List.pairwise_cons.1 h
    have ih := cpt_rising ht hR h'.2
    simp only [cpt]
    split
    · exact ih
    · rename_i e
      refine List.pairwise_cons.2 ⟨fun z hz => ?_, ih⟩
      rcases h'.1 z ((cpt_mem _ _).1 hz) with h1 | h1
      · subst h1
        obtain ⟨r', hr'⟩ := cpt_head y r
        rw [hr'] at hz ih
        have h2 := (h'.1 y (List.mem_cons_self ..)).resolve_left e
        rcases List.mem_cons.1 hz with h3 | h3
        · exact absurd h3 e
        · exact absurd rfl (hR _ _ (ht _ _ _ h2 ((List.pairwise_cons.1 ih).1 x h3)))
      · exact h1
/-- Rising lists of the same members are the same. -/
theorem rising_eq {R : α → α → Prop} (ht : ∀ a b c, R a b → R b c → R a c) (hR : ∀ a b, R a b → a ≠ b) : ∀ {l r : List α}, l.Pairwise R → r.Pairwise R → (∀ a, a ∈ l ↔ a ∈ r) → l = r
  | [], [], _, _, _ => rfl
  | [], y :: r, _, _, h => by have := (h y).2 (List.mem_cons_self ..); simp at this
  | x :: l, [], _, _, h => by have := (h x).1 (List.mem_cons_self ..); simp at this
  | x :: l, y :: r, hl, hr, h => by
    rw [List.pairwise_cons] at hl hr
    have e : x = y := by
      rcases List.mem_cons.1 ((h x).1 (List.mem_cons_self ..)) with e | e
      · exact e
      · rcases List.mem_cons.1 ((h y).2 (List.mem_cons_self ..)) with e' | e'
        · exact e'.symm
        · exact absurd rfl (hR _ _ (ht _ _ _ (hl.1 y e') (hr.1 x e)))
    subst e
    congr 1
    refine rising_eq ht hR hl.2 hr.2 fun a => ⟨fun ha => ?_, fun ha => ?_⟩
    · rcases List.mem_cons.1 ((h a).1 (List.mem_cons_of_mem _ ha)) with e | e
      · exact absurd e.symm (hR _ _ (hl.1 a ha))
      · exact e
    · rcases List.mem_cons.1 ((h a).2 (List.mem_cons_of_mem _ ha)) with e | e
      · exact absurd e.symm (hR _ _ (hr.1 a ha))
      · exact e
theorem rising_int {l r : List Int} (hl : l.Pairwise (· < ·)) (hr : r.Pairwise (· < ·)) (h : ∀ a, a ∈ l ↔ a ∈ r) : l = r :=
  rising_eq (R := fun a b : Int => a < b) (fun a b c h1 h2 => Int.lt_trans h1 h2) (fun a b h e => by subst e; exact Int.lt_irrefl _ h) hl hr h
theorem cpt_int {l : List Int} (h : l.Pairwise (· ≤ ·)) : (cpt l).Pairwise (· < ·) :=
  cpt_rising (R := fun a b : Int => a < b) (fun a b c h1 h2 => Int.lt_trans h1 h2) (fun a b h e => by subst e; exact Int.lt_irrefl _ h) (h.imp fun {a b} (h : a ≤ b) => by omega)
end Go.Proofs.Ytbjiejhdgkpjcaa

/- slices.Compact, slices.Clip over numbers. -/
namespace Go.Proofs.Ytbjiejhdgkpjcaa
open Go Go.RowKit Fly
set_option linter.unusedVariables false
set_option linter.unusedSimpArgs false


theorem ints_zero {d : List Int} {i : Nat} (hi : i ≤ d.length) (sp : List Value) : setMany (ints d ++ sp) i (List.replicate (d.length - i) [Value.int .i64 0]).flatten = ints (d.take i) ++ (ints (List.replicate (d.length - i) 0) ++ sp) := by
  have e : ints d ++ sp = ints (d.take i) ++ (ints (d.drop i) ++ sp) := by rw [← List.append_assoc, ← ints_append, List.take_append_drop]
  have e2 : (List.replicate (d.length - i) [Value.int .i64 0]).flatten = ints (List.replicate (d.length - i) 0) := by
    generalize d.length - i = q
    induction q with
    | zero => rfl
    | succ q ih => simp only [List.replicate_succ, List.flatten_cons, ih]; rfl
  rw [e, e2]
  exact setMany_append _ _ _ _ _ (by rw [ints_length, List.length_take, Nat.min_eq_left hi]) (by rw [ints_length, ints_length]; simp)
theorem intsG {l : List Int} {i : Nat} (h : i < l.length) {x : Int} (e : l[i] = x) : (ints l)[i]? = some (.int .i64 x) := by rw [ints_get h, e]
theorem cpt_put {l d : List Int} {i j : Nat} (hj : j < l.length) (hij : i < j) (hd : d.length = l.length) (h0 : d.take i = cpt (l.take j)) (hdr : d.drop (j - 1) = l.drop (j - 1)) (hne : l[j] ≠ l[j - 1]'(by omega)) :
    (d.set i l[j]).take (i + 1) = cpt (l.take (j + 1)) ∧ (d.set i l[j]).drop j = l.drop j := by
  refine ⟨?_, ?_⟩
  · rw [cpt_next (by omega) hj, if_neg (fun e => hne e.symm), ← h0, List.take_succ_eq_append_getElem (show i < (d.set i l[j]).length by simp; omega), List.getElem_set_self, List.take_set_of_le (Nat.le_refl _)]
  · rw [List.drop_set_of_lt hij]
    have := congrArg (List.drop 1) hdr
    rw [List.drop_drop, List.drop_drop, show j - 1 + 1 = j by omega] at this
    exact this
theorem cpt_pass {l d : List Int} {i j : Nat} (hj : j < l.length) (hj0 : 0 < j) (h0 : d.take i = cpt (l.take j)) (hdr : d.drop (j - 1) = l.drop (j - 1)) (he : l[j] = l[j - 1]'(by omega)) : d.take i = cpt (l.take (j + 1)) ∧ d.drop j = l.drop j := by
  refine ⟨by rw [cpt_next hj0 hj, if_pos he.symm]; exact h0, ?_⟩
  have := congrArg (List.drop 1) hdr
  rw [List.drop_drop, List.drop_drop, show j - 1 + 1 = j by omega] at this
  exact this
theorem drop_get {l d : List Int} {i j : Nat} (hd : d.length = l.length) (h : d.drop i = l.drop i) (hij : i ≤ j) (hj : j < l.length) : d[j]'(by omega) = l[j] := by
  have := congrArg (fun x => x[j - i]?) h
  simp only [List.getElem?_drop, show i + (j - i) = j by omega] at this
  rw [List.getElem?_eq_getElem (by omega), List.getElem?_eq_getElem hj] at this
  exact Option.some.inj this

set_option maxRecDepth 100000 in
set_option maxHeartbeats 4000000 in
theorem Compact_spec (A : Option Addr) (cap : Nat) (l : List Int) (m : Seg) (w : World) (ho : Own 3 1 (.slice A l.length cap) l.length (ints l) m) (hl : l.length ≤ 1000000000) (hw : Owns w [m]) :
    Meets Try.prog 63 [.slice A l.length cap] w [m] (fun u own' => ∃ m', own' = [m'] ∧ Own 3 1 u (cpt l).length (ints (cpt l)) m') := by
 refine f_enter Try.func63 rfl Try.ntmps63 rfl hw ?_
 refine f_seq fun K1 kh1 => ?_
 refine f_region ?_
 refine f_stepP rfl rfl rfl (o_assign rfl) ?_
 refine f_done ?_
 refine f_tn (kh1 _ _ ?_)
 clear kh1
 refine f_seq fun K2 kh2 => ?_
 refine f_seq fun K3 kh3 => ?_
 refine f_region ?_
 refine f_stepP rfl rfl rfl (o_move rfl) ?_
 refine f_stepP rfl rfl rfl (o_len sl35 rfl) ?_
 refine f_stepP rfl rfl rfl (o_lss rfl rfl) ?_
 refine f_done ?_
 refine f_tn (kh3 _ _ ?_)
 clear kh3
 refine f_cond rfl (fun c8 => ?_) (fun c8 => ?_)
 ·
  have hcl : cpt l = l := by
    match l, c8 with
    | [], _ => rfl
    | [x], _ => rfl
    | x :: y :: r, h => simp at h; omega
  refine f_seq fun K4 kh4 => ?_
  refine f_region ?_
  refine f_stepP rfl rfl rfl (o_move rfl) ?_
  refine f_stepP rfl rfl rfl (o_assign rfl) ?_
  refine f_done ?_
  refine f_tn (kh4 _ _ ?_)
  clear kh4
  refine f_ret ?_
  refine f_tr ?_
  exact f_fin1 [m] Try.results63 rfl (Sub.pick Sub.nil) ⟨m, rfl, by rw [hcl]; exact ho⟩
 ·
  obtain ⟨b, sp, rfl, rfl, hup⟩ := ho.upd (by omega)
  obtain ⟨_, _, e_, hcap⟩ := ho.val
  cases e_
  have hspl : sp.length = cap - l.length := by
    obtain ⟨_, h | ⟨b', c', sp', e, hm, _, _, h3⟩⟩ := ho
    · omega
    · cases e
      have := List.append_cancel_left (Array.toList_inj.2 (show (ints l ++ sp).toArray = (ints l ++ sp').toArray by simpa using hm))
      rw [this]; omega
  refine f_skip ?_
  refine f_tn (kh2 _ _ ?_)
  clear kh2
  refine f_seq fun K5 kh5 => ?_
  refine f_seq fun K6 kh6 => ?_
  refine f_region ?_
  refine f_stepP rfl rfl rfl (o_assign rfl) ?_
  refine f_done ?_
  refine f_tn (kh6 _ _ ?_)
  clear kh6
  refine f_block ?_
  refine f_loopK (α := Nat) [0] (fun k => [(3, .int .i64 (k : Int))]) (fun k => 1 ≤ k ∧ k ≤ l.length ∧ cpt (l.take k) = l.take k) (fun k => l.length - k) (1) ?_ ?_ ?_
  · exact (by repeat (first | exact trivial | refine ⟨rfl, ?_⟩))
  · exact ⟨Nat.le_refl _, by omega, cpt_one (by omega)⟩
  ·
   rintro k ⟨hk1, hkl, hck⟩
   refine f_seq fun K7 kh7 => ?_
   refine f_seq fun K8 kh8 => ?_
   refine f_region ?_
   refine f_stepP rfl rfl rfl (o_move rfl) ?_
   refine f_stepP rfl rfl rfl (o_move rfl) ?_
   refine f_stepP rfl rfl rfl (o_len sl35 rfl) ?_
   refine f_stepP rfl rfl rfl (o_lss rfl rfl) ?_
   refine f_done ?_
   refine f_tn (kh8 _ _ ?_)
   clear kh8
   refine f_cond rfl (fun c13 => ?_) (fun c13 => ?_)
   ·
    refine f_skip ?_
    refine f_tn (kh7 _ _ ?_)
    clear kh7
    refine f_seq fun K9 kh9 => ?_
    refine f_block ?_
    refine f_seq fun K10 kh10 => ?_
    refine f_regionS rfl (by decide +kernel) ?_
    refine f_stillP rfl rfl rfl (o_move rfl) ?_
    refine f_stillP rfl rfl rfl (o_move rfl) ?_
    have hk : k < l.length := by omega
    refine f_stillP rfl rfl rfl (o_idx sl35 rfl rfl (k) ⟨by omega, by omega, by first | omega | (simp; done) | (simp; omega)⟩) ?_
    refine f_stillP rfl rfl rfl (o_load Try.isAgg3 rfl (rdA (app_get (ints_get hk)))) ?_
    refine f_stillP rfl rfl rfl (o_move rfl) ?_
    refine f_stillP rfl rfl rfl (o_move rfl) ?_
    refine f_stillP rfl rfl rfl (o_sub rfl rfl _ (wrap_i64 (by omega))) ?_
    refine f_stillP rfl rfl rfl (o_idx sl35 rfl rfl (k - 1) ⟨by omega, by omega, by first | omega | (simp; done) | (simp; omega)⟩) ?_
    refine f_stillP rfl rfl rfl (o_load Try.isAgg3 rfl (rdA (app_get (ints_get (by omega))))) ?_
    refine f_stillP rfl rfl rfl (o_eql rfl rfl) ?_
    refine f_stillD ?_
    refine f_tn (kh10 _ _ ?_)
    clear kh10
    refine f_cond rfl (fun c25 => ?_) (fun c25 => ?_)
    ·
     refine f_seq fun K11 kh11 => ?_
     refine f_region ?_
     refine f_stepP rfl rfl rfl (o_move rfl) ?_
     refine f_stepP rfl rfl rfl (o_move rfl) ?_
     refine f_stepP rfl rfl rfl (o_slice sl35 rfl rfl rfl rfl (fun h => by cases h) k _ _ (.inr ⟨_, _, rfl, by omega⟩) (.inl ⟨rfl, rfl⟩) (.inl ⟨rfl, rfl⟩) ⟨by omega, by omega, by omega⟩ (.slice (some ⟨b, k, none⟩) (l.length - k) (cap - k)) (by rw [if_neg (by omega)]; simp [add_at])) ?_
     refine f_stepP rfl rfl rfl (o_assign rfl) ?_
     refine f_done ?_
     refine f_tn (kh11 _ _ ?_)
     clear kh11
     refine f_seq fun K12 kh12 => ?_
     refine f_seq fun K13 kh13 => ?_
     refine f_region ?_
     refine f_stepP rfl rfl rfl (o_assign rfl) ?_
     refine f_done ?_
     refine f_tn (kh13 _ _ ?_)
     clear kh13
     refine f_block ?_
     refine f_loop (α := Nat × Nat × List Int) [0, 4] (fun ⟨q, i, d⟩ => [(5, .int .i64 (q : Int)), (3, .int .i64 (i : Int))]) (fun ⟨q, i, d⟩ => [[(b, blk (ints d ++ sp) 3)]]) (fun ⟨q, i, d⟩ => 1 ≤ q ∧ k + q ≤ l.length ∧ i < k + q ∧ d.length = l.length ∧ d.take i = cpt (l.take (k + q)) ∧ d.drop (k + q - 1) = l.drop (k + q - 1)) (fun ⟨q, i, d⟩ => l.length - (k + q)) (1, k, l) ?_ ?_ ?_ ?_
     · exact (by repeat (first | exact trivial | refine ⟨rfl, ?_⟩))
     · repeat (first | exact Sub.nil | refine Sub.pick ?_ | refine Sub.castO rfl ?_ | refine Sub.skip ?_)
     · exact ⟨Nat.le_refl _, by omega, by omega, rfl, by rw [cpt_next (by omega) hk, if_pos c25.symm, hck], rfl⟩
     ·
      rintro ⟨q, i, d⟩ ⟨hq1, hql, hik, hdl, hdt, hdd⟩
      refine f_envC (e := [(5, _), (3, _), (0, _), (4, _)]) (by repeat (first | exact trivial | refine ⟨rfl, ?_⟩)) ?_
      refine f_seq fun K14 kh14 => ?_
      refine f_seq fun K15 kh15 => ?_
      refine f_region ?_
      refine f_stepP rfl rfl rfl (o_move rfl) ?_
      refine f_stepP rfl rfl rfl (o_move rfl) ?_
      refine f_stepP rfl rfl rfl (o_len sl35 rfl) ?_
      refine f_stepP rfl rfl rfl (o_lss rfl rfl) ?_
      refine f_done ?_
      refine f_tn (kh15 _ _ ?_)
      clear kh15
      refine f_cond rfl (fun c32 => ?_) (fun c32 => ?_)
      ·
       refine f_skip ?_
       refine f_tn (kh14 _ _ ?_)
       clear kh14
       refine f_seq fun K16 kh16 => ?_
       refine f_block ?_
       refine f_seq fun K17 kh17 => ?_
       have hj' : k + q < l.length := by omega
       have hd1 := drop_get hdl hdd (j := k + q) (by omega) hj'
       have hd2 := drop_get hdl hdd (j := k + q - 1) (Nat.le_refl _) (by omega)
       refine f_regionS rfl (by decide +kernel) ?_
       refine f_stillP rfl rfl rfl (o_move rfl) ?_
       refine f_stillP rfl rfl rfl (o_move rfl) ?_
       refine f_stillP rfl rfl rfl (o_idx sl35 rfl rfl (k + q) ⟨by omega, by omega, by first | omega | (simp; done) | (simp; omega)⟩) ?_
       refine f_stillP rfl rfl rfl (o_load Try.isAgg3 rfl (rdA (app_get (intsG (by omega) hd1)))) ?_
       refine f_stillP rfl rfl rfl (o_move rfl) ?_
       refine f_stillP rfl rfl rfl (o_move rfl) ?_
       refine f_stillP rfl rfl rfl (o_sub rfl rfl _ (wrap_i64 (by omega))) ?_
       refine f_stillP rfl rfl rfl (o_idx sl35 rfl rfl (k + q - 1) ⟨by omega, by omega, by first | omega | (simp; done) | (simp; omega)⟩) ?_
       refine f_stillP rfl rfl rfl (o_load Try.isAgg3 rfl (rdA (app_get (intsG (by omega) hd2)))) ?_
       refine f_stillP rfl rfl rfl (o_neq rfl rfl) ?_
       refine f_stillD ?_
       refine f_tn (kh17 _ _ ?_)
       clear kh17
       refine f_cond rfl (fun c44 => ?_) (fun c44 => ?_)
       ·
        refine f_seq fun K18 kh18 => ?_
        refine f_region ?_
        refine f_stepP rfl rfl rfl (o_move rfl) ?_
        refine f_stepP rfl rfl rfl (o_move rfl) ?_
        refine f_stepP rfl rfl rfl (o_move rfl) ?_
        refine f_stepP rfl rfl rfl (o_move rfl) ?_
        refine f_stepP rfl rfl rfl (o_idx sl35 rfl rfl (k + q) ⟨by omega, by omega, by first | omega | (simp; done) | (simp; omega)⟩) ?_
        refine f_stepP rfl rfl rfl (o_load Try.isAgg3 rfl (rdA (app_get (intsG (by omega) hd1)))) ?_
        refine f_stepP rfl rfl rfl (o_idx sl35 rfl rfl (i) ⟨by omega, by omega, by first | omega | (simp; done) | (simp; omega)⟩) ?_
        refine f_step0 rfl rfl (o_store Try.sizeOf3 rfl rfl rfl rfl (by rw [List.length_append, ints_length]; omega) (ints (d.set i l[k + q]) ++ sp) (by rw [List.set_append_left _ _ (by rw [ints_length]; omega)]; simp [ints, List.map_set]) ?_)
        refine f_done ?_
        refine f_tn (kh18 _ _ ?_)
        clear kh18
        refine f_region ?_
        refine f_stepP rfl rfl rfl (o_move rfl) ?_
        refine f_stepP rfl rfl rfl (o_add rfl rfl _ (wrap_i64 (by omega))) ?_
        refine f_stepP rfl rfl rfl (o_assign rfl) ?_
        refine f_done ?_
        refine f_bn ?_
        refine f_tn (kh16 _ _ ?_)
        clear kh16
        refine f_region ?_
        refine f_stepP rfl rfl rfl (o_move rfl) ?_
        refine f_stepP rfl rfl rfl (o_add rfl rfl _ (wrap_i64 (by omega))) ?_
        refine f_stepP rfl rfl rfl (o_assign rfl) ?_
        refine f_done ?_
        refine f_tn (f_again (q + 1, i + 1, d.set i l[k + q]) (by first | omega | (dsimp only; omega) | (simp; omega)) ⟨by omega, by omega, by omega, by simpa using hdl, (cpt_put hj' hik hdl hdt hdd (by omega)).1, (cpt_put hj' hik hdl hdt hdd (by omega)).2⟩ ?_ ?_ ?_)
        · exact (by repeat (first | exact trivial | refine ⟨rfl, ?_⟩))
        · exact (by repeat (first | exact trivial | refine ⟨rfl, ?_⟩))
        · repeat (first | exact Sub.nil | refine Sub.pick ?_ | refine Sub.castO rfl ?_ | refine Sub.skip ?_)
       ·
        refine f_skip ?_
        refine f_bn ?_
        refine f_tn (kh16 _ _ ?_)
        clear kh16
        refine f_region ?_
        refine f_stepP rfl rfl rfl (o_move rfl) ?_
        refine f_stepP rfl rfl rfl (o_add rfl rfl _ (wrap_i64 (by omega))) ?_
        refine f_stepP rfl rfl rfl (o_assign rfl) ?_
        refine f_done ?_
        refine f_tn (f_again (q + 1, i, d) (by first | omega | (dsimp only; omega) | (simp; omega)) ⟨by omega, by omega, by omega, hdl, (cpt_pass hj' (by omega) hdt hdd (by omega)).1, (cpt_pass hj' (by omega) hdt hdd (by omega)).2⟩ ?_ ?_ ?_)
        · exact (by repeat (first | exact trivial | refine ⟨rfl, ?_⟩))
        · exact (by repeat (first | exact trivial | refine ⟨rfl, ?_⟩))
        · repeat (first | exact Sub.nil | refine Sub.pick ?_ | refine Sub.castO rfl ?_ | refine Sub.skip ?_)
      ·
       refine f_exit ?_
       refine f_te ?_
       clear kh14
       refine f_te ?_
       refine f_be ?_
       refine f_tn (kh12 _ _ ?_)
       clear kh12
       refine f_seq fun K19 kh19 => ?_
       obtain rfl : q = l.length - k := by omega
       rw [show k + (l.length - k) = l.length by omega, List.take_length] at hdt
       have hiL : (cpt l).length = i := by rw [← hdt]; simp; omega
       refine f_region ?_
       refine f_stepP rfl rfl rfl (o_move rfl) ?_
       refine f_stepP rfl rfl rfl (o_move rfl) ?_
       refine f_stepP rfl rfl rfl (o_slice sl35 rfl rfl rfl rfl (fun h => by cases h) i _ _ (.inr ⟨_, _, rfl, by omega⟩) (.inl ⟨rfl, rfl⟩) (.inl ⟨rfl, rfl⟩) ⟨by omega, by omega, by omega⟩ (.slice (some ⟨b, i, none⟩) (l.length - i) (cap - i)) (by rw [if_neg (by omega)]; simp [add_at])) ?_
       refine f_step0 rfl rfl (o_clear el35 rfl rfl (by rw [List.length_append, ints_length]; omega) (ints (d.take i) ++ (ints (List.replicate (d.length - i) 0) ++ sp)) (by rw [← hdl]; exact ints_zero (by omega) sp) ?_)
       refine f_done ?_
       refine f_tn (kh19 _ _ ?_)
       clear kh19
       refine f_seq fun K20 kh20 => ?_
       refine f_region ?_
       refine f_stepP rfl rfl rfl (o_move rfl) ?_
       refine f_stepP rfl rfl rfl (o_move rfl) ?_
       refine f_stepP rfl rfl rfl (o_slice sl35 rfl rfl rfl rfl (fun h => by cases h) 0 i cap (.inl ⟨rfl, rfl⟩) (.inr ⟨_, _, rfl, by omega⟩) (.inl ⟨rfl, rfl⟩) ⟨by omega, by omega, by omega⟩ (.slice (some ⟨b, 0, none⟩) i cap) (by rw [if_neg (by omega)]; simp [add_at])) ?_
       refine f_stepP rfl rfl rfl (o_assign rfl) ?_
       refine f_done ?_
       refine f_tn (kh20 _ _ ?_)
       clear kh20
       refine f_ret ?_
       refine f_br ?_
       refine f_tr ?_
       refine f_tr ?_
       refine f_br ?_
       refine f_tr ?_
       exact f_fin1 [[(b, blk (ints (d.take i) ++ (ints (List.replicate (d.length - i) 0) ++ sp)) 3)]] Try.results63 rfl (by repeat (first | exact Sub.nil | refine Sub.pick ?_)) ⟨_, rfl, by rw [hiL, ← hdt]; exact ⟨by rw [ints_length]; simp; omega, .inr ⟨b, cap, _, rfl, rfl, by omega, by omega, by rw [List.length_append, ints_length, List.length_replicate, hspl]; omega⟩⟩⟩
    ·
     refine f_skip ?_
     refine f_bn ?_
     refine f_tn (kh9 _ _ ?_)
     clear kh9
     refine f_region ?_
     refine f_stepP rfl rfl rfl (o_move rfl) ?_
     refine f_stepP rfl rfl rfl (o_add rfl rfl _ (wrap_i64 (by omega))) ?_
     refine f_stepP rfl rfl rfl (o_assign rfl) ?_
     refine f_done ?_
     refine f_tn (f_again (k + 1) (by first | omega | (dsimp only; omega) | (simp; omega)) ⟨by omega, by omega, by rw [cpt_next (by omega) hk, if_neg (fun e => c25 e.symm), hck, ← List.take_succ_eq_append_getElem hk]⟩ ?_ ?_ ?_)
     · exact (by repeat (first | exact trivial | refine ⟨rfl, ?_⟩))
     · exact (by repeat (first | exact trivial | refine ⟨rfl, ?_⟩))
     · repeat (first | exact Sub.nil | refine Sub.pick ?_ | refine Sub.castO rfl ?_ | refine Sub.skip ?_)
   ·
    refine f_exit ?_
    refine f_te ?_
    clear kh7
    refine f_te ?_
    refine f_be ?_
    refine f_tn (kh5 _ _ ?_)
    clear kh5
    refine f_seq fun K21 kh21 => ?_
    refine f_region ?_
    refine f_stepP rfl rfl rfl (o_move rfl) ?_
    refine f_stepP rfl rfl rfl (o_assign rfl) ?_
    refine f_done ?_
    refine f_tn (kh21 _ _ ?_)
    clear kh21
    refine f_ret ?_
    have hcl : cpt l = l := by rw [List.take_of_length_le (by omega)] at hck; exact hck
    exact f_fin1 [[(b, blk (ints l ++ sp) 3)]] Try.results63 rfl (by repeat (first | exact Sub.nil | refine Sub.pick ?_)) ⟨_, rfl, by rw [hcl]; exact ho⟩

set_option maxRecDepth 100000 in
set_option maxHeartbeats 4000000 in
theorem Clip_spec (A : Option Addr) (len cap : Nat) (w : World) (h : len ≤ cap) (hm : cap ≤ 9223372036854775807) (hA : A = none → len = 0) :
    Meets Try.prog 55 [.slice A len cap] w [] (fun u m => u = .slice A len len ∧ m = []) := by
 refine f_enter Try.func55 rfl Try.ntmps55 rfl Owns.nil ?_
 refine f_seq fun K1 kh1 => ?_
 refine f_region ?_
 refine f_stepP rfl rfl rfl (o_assign rfl) ?_
 refine f_done ?_
 refine f_tn (kh1 _ _ ?_)
 clear kh1
 refine f_seq fun K2 kh2 => ?_
 refine f_region ?_
 refine f_stepP rfl rfl rfl (o_move rfl) ?_
 refine f_stepP rfl rfl rfl (o_move rfl) ?_
 refine f_stepP rfl rfl rfl (o_len sl35 rfl) ?_
 refine f_stepP rfl rfl rfl (o_move rfl) ?_
 refine f_stepP rfl rfl rfl (o_len sl35 rfl) ?_
 refine f_stepP rfl rfl rfl (o_slice sl35 rfl rfl rfl rfl (fun _ => rfl) 0 len len (.inl ⟨rfl, rfl⟩) (.inr ⟨_, _, rfl, by omega⟩) (.inr ⟨_, _, rfl, by omega⟩) ⟨by omega, by omega, by omega⟩ (.slice A len len) (by rw [Nat.sub_zero]; congr 1; split; rfl; cases A with | none => rfl | some x => obtain ⟨p, q, r⟩ := x; cases r <;> simp [Addr.add])) ?_
 refine f_stepP rfl rfl rfl (o_assign rfl) ?_
 refine f_done ?_
 refine f_tn (kh2 _ _ ?_)
 clear kh2
 refine f_ret ?_
 exact f_fin1 [] Try.results55 rfl Sub.nil ⟨rfl, rfl⟩

end Go.Proofs.Ytbjiejhdgkpjcaa

/- What the shelf's contracts ask of this program: tables of numbers, and each fact by the kernel. -/
namespace Go.Proofs
open Go.Shelf
def Try.laysSort_ren : Go.Shelf.Ren := ⟨fun | 189 => 62 | 125 => 66 | 257 => 78 | 128 => 87 | 129 => 88 | 294 => 90 | 295 => 91 | 296 => 92 | 297 => 93 | 298 => 94 | 299 => 95 | 216 => 96 | 300 => 97 | 301 => 98 | 328 => 104 | 329 => 100 | 330 => 101 | 331 => 105 | 332 => 106 | 215 => 107 | 343 => 109 | n => n, fun | 28 => 35 | 3 => 3 | 46 => 72 | 0 => 0 | 51 => 53 | 53 => 63 | 4 => 4 | 183 => 128 | 182 => 127 | 131 => 132 | 5 => 5 | 9 => 9 | 218 => 141 | 222 => 145 | 228 => 149 | 229 => 150 | n => n, fun | n => n⟩
theorem Try.laysSort : Go.Proofs.Lays.n189 Try.prog Try.laysSort_ren := {
  mixed := by kernel_rfl
  f125 := Try.func66.trans (congrArg some (by kernel_rfl))
  f128 := Try.func87.trans (congrArg some (by kernel_rfl))
  f129 := Try.func88.trans (congrArg some (by kernel_rfl))
  f189 := Try.func62.trans (congrArg some (by kernel_rfl))
  f215 := Try.func107.trans (congrArg some (by kernel_rfl))
  f216 := Try.func96.trans (congrArg some (by kernel_rfl))
  f257 := Try.func78.trans (congrArg some (by kernel_rfl))
  f294 := Try.func90.trans (congrArg some (by kernel_rfl))
  f295 := Try.func91.trans (congrArg some (by kernel_rfl))
  f296 := Try.func92.trans (congrArg some (by kernel_rfl))
  f297 := Try.func93.trans (congrArg some (by kernel_rfl))
  f298 := Try.func94.trans (congrArg some (by kernel_rfl))
  f299 := Try.func95.trans (congrArg some (by kernel_rfl))
  f300 := Try.func97.trans (congrArg some (by kernel_rfl))
  f301 := Try.func98.trans (congrArg some (by kernel_rfl))
  f328 := Try.func104.trans (congrArg some (by kernel_rfl))
  f329 := Try.func100.trans (congrArg some (by kernel_rfl))
  f330 := Try.func101.trans (congrArg some (by kernel_rfl))
  f331 := Try.func105.trans (congrArg some (by kernel_rfl))
  f332 := Try.func106.trans (congrArg some (by kernel_rfl))
  f343 := Try.func109.trans (congrArg some (by kernel_rfl))
  t0 := Try.underlying0
  a0 := Try.isAgg0
  z0 := Try.sizeOf0
  v0 := Try.zeroValue0
  t3 := Try.underlying3
  a3 := Try.isAgg3
  z3 := Try.sizeOf3
  v3 := Try.zeroValue3
  t4 := Try.underlying4
  a4 := Try.isAgg4
  z4 := Try.sizeOf4
  v4 := Try.zeroValue4
  t5 := Try.underlying5
  a5 := Try.isAgg5
  z5 := Try.sizeOf5
  v5 := Try.zeroValue5
  t9 := Try.underlying9
  a9 := Try.isAgg9
  z9 := Try.sizeOf9
  v9 := Try.zeroValue9
  t28 := Try.underlying35
  a28 := Try.isAgg35
  z28 := Try.sizeOf35
  v28 := Try.zeroValue35
  t46 := Try.underlying72
  a46 := Try.isAgg72
  z46 := Try.sizeOf72
  v46 := Try.zeroValue72
  t51 := Try.underlying53
  a51 := Try.isAgg53
  z51 := Try.sizeOf53
  v51 := Try.zeroValue53
  t53 := Try.underlying63
  a53 := Try.isAgg63
  z53 := Try.sizeOf63
  v53 := Try.zeroValue63
  t131 := Try.underlying132
  a131 := Try.isAgg132
  z131 := Try.sizeOf132
  v131 := Try.zeroValue132
  t182 := Try.underlying127
  a182 := Try.isAgg127
  z182 := Try.sizeOf127
  v182 := Try.zeroValue127
  t183 := Try.underlying128
  a183 := Try.isAgg128
  z183 := Try.sizeOf128
  v183 := Try.zeroValue128
  t218 := Try.underlying141
  a218 := Try.isAgg141
  z218 := Try.sizeOf141
  v218 := Try.zeroValue141
  t222 := Try.underlying145
  a222 := Try.isAgg145
  z222 := Try.sizeOf145
  v222 := Try.zeroValue145
  t228 := Try.underlying149
  a228 := Try.isAgg149
  z228 := Try.sizeOf149
  v228 := Try.zeroValue149
  t229 := Try.underlying150
  a229 := Try.isAgg150
  z229 := Try.sizeOf150
  v229 := Try.zeroValue150 }
end Go.Proofs

/- slices.Sort over numbers, by the shelf's contract, in the words of the small logic. -/

namespace Go.Proofs.Ytbjiejhdgkpjcaa.Fly
open Go Go.RowKit Go.Sort
set_option linter.unusedVariables false
set_option linter.unusedSimpArgs false
set_option linter.unusedSectionVars false

/-- Numbers, rising. -/
def sortI (l : List Int) : List Int := l.mergeSort fun x y => decide (x ≤ y)
theorem sortI_len (l : List Int) : (sortI l).length = l.length := List.length_mergeSort l
theorem sortI_perm (l : List Int) : (sortI l).Perm l := List.mergeSort_perm l _
theorem sortI_sorted (l : List Int) : (sortI l).Pairwise (· ≤ ·) := by
  have h := List.pairwise_mergeSort (le := fun x y : Int => decide (x ≤ y)) (fun a b c h1 h2 => by simp at *; omega) (fun a b => by simp; omega) l
  exact h.imp fun {a b} h => by simpa using h

theorem putCells_list (ts : List Int) (cs sp : List Value) (h : cs.length = ts.length) : (putCells (Value.int .i64) 0 ts.toArray (cs ++ sp).toArray).toList = ints ts ++ sp := by
  apply List.ext_getElem?
  intro j
  rw [Array.getElem?_toList]
  simp only [putCells, Array.getElem?_mapIdx, List.getElem?_toArray]
  by_cases hj : j < ts.length
  · rw [List.getElem?_append_left (by omega), List.getElem?_append_left (by rw [ints_length]; exact hj), ints_get hj]
    simp [hj, h]
  · rw [List.getElem?_append_right (by omega), List.getElem?_append_right (by rw [ints_length]; omega), ints_length, h]
    cases sp[j - ts.length]? <;> simp [hj]

theorem meets_sort {P : Program} {ρ : Go.Shelf.Ren} (L : Lays.n189 P ρ) {E : TypeId} (A : Option Addr) (cap : Nat) (l : List Int) (m : Seg) (w : World) (ho : Own E 1 (.slice A l.length cap) l.length (ints l) m) (hl : l.length < 4611686018427387904) (hw : Owns w [m]) :
    Meets P (ρ.f 189) [.slice A l.length cap] w [m] (fun u own' => u = .tuple #[] ∧ ∃ m', own' = [m'] ∧ Own E 1 (.slice A l.length cap) l.length (ints (sortI l)) m') := by
  have ho' := ho
  obtain ⟨h0, h | ⟨b, c, sp, e, rfl, h1, h2, h3⟩⟩ := ho'
  · obtain ⟨e, hl0, rfl⟩ := h
    obtain rfl : l = [] := List.eq_nil_of_length_eq_zero hl0
    refine Calls.mono (Any.slices_Sort_int_none L A cap w) ?_
    rintro _ _ ⟨rfl, rfl⟩
    exact ⟨_, [[]], rfl, Hp.start hw, rfl, [], rfl, by rw [show sortI [] = [] from by simp [sortI]]; exact ho⟩
  · cases e
    have hb : w.heap[b]? = some (blk (ints l ++ sp) E) := hw.there b _ (by simp)
    have hlt : b < w.heap.size := by
      rcases Nat.lt_or_ge b w.heap.size with h' | h'
      · exact h'
      · rw [Array.getElem?_eq_none h'] at hb; cases hb
    have hH : Holds (Value.int .i64) w b 0 l.toArray := by
      intro j hj
      have hj' : j < l.length := by simpa using hj
      refine ⟨?_, by simp [World.frozen?, hb]⟩
      have : (ints l ++ sp)[j]? = some (.int .i64 l[j]) := by rw [List.getElem?_append_left (by rw [ints_length]; exact hj'), ints_get hj']
      simp [World.cell?, hb, this, hj']
    have hc := Any.slices_Sort_int L b 0 cap l w hH hlt hl
    refine Calls.mono hc ?_
    rintro _ _ ⟨rfl, n, os, rfl⟩
    have hnew : (grow (putRow (Value.int .i64) (Sort.ahead w n) b 0 (sortI l).toArray) os).heap[b]? = some (blk (ints (sortI l) ++ sp) E) := by
      rw [heap_grow_old _ _ (by simpa using hlt)]
      have : (putCells (Value.int .i64) 0 (sortI l).toArray (ints l ++ sp).toArray) = (ints (sortI l) ++ sp).toArray := by
        rw [← Array.toList_inj, putCells_list _ _ _ (by rw [ints_length, sortI_len])]
      simp [putRow, mapBlock, Sort.ahead, Array.getElem?_modify, hb, onCells, this]
    have hoth : ∀ k, k < w.heap.size → k ≠ b → (grow (putRow (Value.int .i64) (Sort.ahead w n) b 0 (sortI l).toArray) os).heap[k]? = w.heap[k]? := fun k hk hne => by
      rw [heap_grow_old _ _ (by simpa using hk)]
      have : b ≠ k := fun e => hne e.symm
      simp [putRow, mapBlock, Sort.ahead, Array.getElem?_modify, this]
    refine ⟨.tuple #[], [[(b, blk (ints (sortI l) ++ sp) E)]], rfl, ?_, rfl, _, rfl, by rw [ints_length] at h0; exact ⟨by rw [ints_length, sortI_len]; omega, .inr ⟨b, cap, sp, rfl, rfl, h1, h2, h3⟩⟩⟩
    refine ⟨rfl, rfl, rfl, by simp [grow], by simp [grow, putRow, mapBlock, Sort.ahead], fun k hk => hk.1, fun k hk => hoth k hk.1 fun e => hk.2 (by subst e; simp), fun k o hm => ?_, fun k o hm hk => hk.2 (by simp at hm; obtain ⟨rfl, _⟩ := hm; simp), by simp⟩
    simp only [List.flatten_cons, List.flatten_nil, List.append_nil, List.mem_singleton, Prod.mk.injEq] at hm
    obtain ⟨rfl, rfl⟩ := hm
    exact hnew
end Go.Proofs.Ytbjiejhdgkpjcaa.Fly

/- slices.Sort over numbers at this program. -/
namespace Go.Proofs.Ytbjiejhdgkpjcaa
open Go Go.RowKit Fly
set_option linter.unusedVariables false
set_option linter.unusedSimpArgs false


theorem SortInts_spec (A : Option Addr) (cap : Nat) (l : List Int) (m : Seg) (w : World) (ho : Own 3 1 (.slice A l.length cap) l.length (ints l) m) (hl : l.length < 4611686018427387904) (hw : Owns w [m]) :
    Meets Try.prog 62 [.slice A l.length cap] w [m] (fun u own' => u = .tuple #[] ∧ ∃ m', own' = [m'] ∧ Own 3 1 (.slice A l.length cap) l.length (ints (sortI l)) m') :=
  meets_sort Try.laysSort A cap l m w ho hl hw

end Go.Proofs.Ytbjiejhdgkpjcaa

/- Neighbours, told in two ways. -/

namespace Go.Proofs.Ytbjiejhdgkpjcaa
open Go Fly
set_option linter.unusedVariables false
set_option linter.unusedSectionVars false
set_option linter.unusedSimpArgs false

/-- What an arc says of the neighbours of v. -/
def nbr (v : Int) (x : Arc) : List Int := if x.src = x.dst then [] else if x.src = v then [x.dst] else if x.dst = v then [x.src] else []
def nbrs (v : Int) (l : List Arc) : List Int := cpt (sortI (l.flatMap (nbr v)))
/-- Whether an arc says that u is a neighbour of v. -/
def nbB (v u : Nat) (x : Arc) : Bool := (decide (x.src.toNat = v) && decide (x.dst.toNat = u)) || (decide (x.dst.toNat = v) && decide (x.src.toNat = u))
def trues (sd : List Bool) : List Int := idxs id sd
theorem nbr_next {v : Int} {l : List Arc} {i : Nat} (hi : i < l.length) : (l.take (i + 1)).flatMap (nbr v) = (l.take i).flatMap (nbr v) ++ nbr v l[i] := by
  rw [List.take_succ_eq_append_getElem hi, List.flatMap_append]; simp
theorem nbr_len (v : Int) (l : List Arc) : (l.flatMap (nbr v)).length ≤ l.length := by
  induction l with
  | nil => simp
  | cons x r ih =>
    rw [List.flatMap_cons, List.length_append, List.length_cons]
    have : (nbr v x).length ≤ 1 := by
      unfold nbr
      split
      · simp
      · split
        · simp
        · split <;> simp
    omega
theorem nbrs_rising (v : Int) (l : List Arc) : (nbrs v l).Pairwise (· < ·) := cpt_int (sortI_sorted _)
theorem nbrs_mem {v : Int} {l : List Arc} {u : Int} : u ∈ nbrs v l ↔ ∃ x ∈ l, u ∈ nbr v x := by
  unfold nbrs
  rw [cpt_mem, (sortI_perm _).mem_iff, List.mem_flatMap]
theorem idxs_rising {α : Type} (p : α → Bool) (l : List α) : ∀ k, k ≤ l.length → (idxs p (l.take k)).Pairwise (· < ·) ∧ ∀ x ∈ idxs p (l.take k), x < (k : Int)
  | 0, _ => by simp [idxs]
  | k + 1, h => by
    obtain ⟨h1, h2⟩ := idxs_rising p l k (by omega)
    rw [idxs_succ (by omega)]
    split
    · refine ⟨List.pairwise_append.2 ⟨h1, by simp, fun a ha b hb => by simp at hb; subst hb; exact h2 a ha⟩, fun x hx => ?_⟩
      rcases List.mem_append.1 hx with hx | hx
      · have := h2 x hx; omega
      · simp at hx; omega
    · simp only [List.append_nil]
      exact ⟨h1, fun x hx => by have := h2 x hx; omega⟩
theorem idxs_in {α : Type} {p : α → Bool} {l : List α} : ∀ k, k ≤ l.length → ∀ x : Int, x ∈ idxs p (l.take k) ↔ ∃ i, ∃ h : i < l.length, i < k ∧ x = (i : Int) ∧ p l[i] = true
  | 0, _, x => by simp [idxs]
  | k + 1, hk, x => by
    rw [idxs_succ (by omega), List.mem_append, idxs_in k (by omega) x]
    constructor
    · rintro (⟨i, h, h1, h2, h3⟩ | hx)
      · exact ⟨i, h, by omega, h2, h3⟩
      · split at hx
        · rename_i hp; simp at hx; exact ⟨k, by omega, by omega, hx, hp⟩
        · simp at hx
    · rintro ⟨i, h, h1, h2, h3⟩
      by_cases e : i = k
      · subst e; right; rw [if_pos h3]; simp [h2]
      · exact .inl ⟨i, h, by omega, h2, h3⟩
theorem trues_rising (sd : List Bool) : (trues sd).Pairwise (· < ·) := by
  have := (idxs_rising id sd sd.length (Nat.le_refl _)).1
  rwa [List.take_length] at this
theorem trues_mem {sd : List Bool} {x : Int} : x ∈ trues sd ↔ ∃ i, i < sd.length ∧ x = (i : Int) ∧ sd.getD i false = true := by
  have := idxs_in (p := id) (l := sd) sd.length (Nat.le_refl _) x
  rw [List.take_length] at this
  rw [trues, this]
  constructor
  · rintro ⟨i, h, _, h2, h3⟩; exact ⟨i, h, h2, by simpa [List.getD_eq_getElem?_getD, h] using h3⟩
  · rintro ⟨i, h, h2, h3⟩; exact ⟨i, h, h, h2, by simpa [List.getD_eq_getElem?_getD, h] using h3⟩
/-- Both ways tell the same. -/
theorem nbrs_trues {n v : Nat} {l : List Arc} {sd : List Bool} (hv : v < n) (hgood : ∀ k (hk : k < l.length), 0 ≤ l[k].src ∧ l[k].src < (n : Int) ∧ 0 ≤ l[k].dst ∧ l[k].dst < (n : Int)) (hl : sd.length = n) (hs : ∀ u, u < n → sd.getD u false = (decide (u ≠ v) && l.any (nbB v u))) : nbrs (v : Int) l = trues sd := by
  refine rising_int (nbrs_rising _ _) (trues_rising _) fun u => ?_
  rw [nbrs_mem, trues_mem]
  constructor
  · rintro ⟨x, hx, hu⟩
    obtain ⟨k, hk, rfl⟩ := List.mem_iff_getElem.1 hx
    have hg := hgood k hk
    unfold nbr at hu
    split at hu
    · simp at hu
    · rename_i h1
      split at hu
      · rename_i h2
        simp at hu
        refine ⟨u.toNat, by omega, by omega, ?_⟩
        rw [hs _ (by omega), Bool.and_eq_true, decide_eq_true_eq, List.any_eq_true]
        exact ⟨by omega, l[k], hx, by unfold nbB; simp; left; omega⟩
      · split at hu
        · rename_i h2 h3
          simp at hu
          refine ⟨u.toNat, by omega, by omega, ?_⟩
          rw [hs _ (by omega), Bool.and_eq_true, decide_eq_true_eq, List.any_eq_true]
          exact ⟨by omega, l[k], hx, by unfold nbB; simp; right; omega⟩
        · simp at hu
  · rintro ⟨i, hi, rfl, h⟩
    rw [hs i (by omega), Bool.and_eq_true, decide_eq_true_eq, List.any_eq_true] at h
    obtain ⟨hne, x, hx, hb⟩ := h
    refine ⟨x, hx, ?_⟩
    obtain ⟨k, hk, rfl⟩ := List.mem_iff_getElem.1 hx
    have hg := hgood k hk
    unfold nbB at hb
    simp at hb
    unfold nbr
    rcases hb with ⟨h1, h2⟩ | ⟨h1, h2⟩
    · rw [if_neg (by omega), if_pos (by omega)]; simp; omega
    · rw [if_neg (by omega), if_neg (by omega), if_pos (by omega)]; simp; omega
end Go.Proofs.Ytbjiejhdgkpjcaa
