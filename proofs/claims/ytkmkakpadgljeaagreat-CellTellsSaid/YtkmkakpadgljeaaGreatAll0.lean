import Derived.Test.YtkmkakpadgljeaaGreatFlyD
import Derived.Test.YtkmkakpadgljeaaGreatFlyT
import Derived.Shelf.SlSortCmp.Insertion
import Derived.Test.YtkmkakpadgljeaaGreatFlyMem
import Derived.Shelf.SlSortCmp.WholeK
import Derived.Shelf.SlSortCmp.NoneTotal
import Derived.Shelf.Sort.Plain
import Derived.Shelf.SlLaysF0
import Derived.Test.YtkmkakpadgljeaaGreatProg

/- Plain laws of graphs: no program in sight. -/

namespace Go.Proofs.YtkmkakpadgljeaaGreat
open Go Fly
set_option linter.unusedVariables false

def arcBad (N : Int) (x : Arc) : Bool := decide (x.src < 0 ∨ N ≤ x.src ∨ x.dst < 0 ∨ N ≤ x.dst)

def gcheck (N : Int) (l : List Arc) : Int × Int :=
  if N < 1 ∨ 1024 < N then (0, 1) else if 8192 < l.length then (0, 2) else
  match l.findIdx? (arcBad N) with
  | some i => (i, 30)
  | none => (0, 0)

theorem gcheck_range {N : Int} {l : List Arc} (h : N < 1 ∨ 1024 < N) : gcheck N l = (0, 1) := by simp [gcheck, h]
theorem gcheck_long {N : Int} {l : List Arc} (h : 1 ≤ N ∧ N ≤ 1024) (hl : 8192 < l.length) : gcheck N l = (0, 2) := by
  have : ¬ (N < 1 ∨ 1024 < N) := by omega
  simp [gcheck, this, hl]
theorem gcheck_ok {N : Int} {l : List Arc} (h : 1 ≤ N ∧ N ≤ 1024) (hl : l.length ≤ 8192) (hall : ∀ j (h : j < l.length), arcBad N l[j] = false) : gcheck N l = (0, 0) := by
  have h1 : ¬ (N < 1 ∨ 1024 < N) := by omega
  have h2 : ¬ 8192 < l.length := by omega
  have h3 : l.findIdx? (arcBad N) = none := by
    rw [List.findIdx?_eq_none_iff]
    intro x hx
    obtain ⟨j, hj, rfl⟩ := List.mem_iff_getElem.1 hx
    exact hall j hj
  simp [gcheck, h1, h2, h3]
theorem gcheck_bad {N : Int} {l : List Arc} {k : Nat} (h : 1 ≤ N ∧ N ≤ 1024) (hl : l.length ≤ 8192) (hk : k < l.length) (hall : ∀ j (h : j < l.length), j < k → arcBad N l[j] = false) (hb : arcBad N l[k] = true) :
    gcheck N l = ((k : Int), 30) := by
  have h1 : ¬ (N < 1 ∨ 1024 < N) := by omega
  have h2 : ¬ 8192 < l.length := by omega
  have h3 : l.findIdx? (arcBad N) = some k := by
    rw [List.findIdx?_eq_some_iff_getElem]
    exact ⟨hk, hb, fun j hj => by simp [hall j (by omega) hj]⟩
  simp [gcheck, h1, h2, h3]

theorem wrap_u64_of {x : Int} (h : I64 x) : IntKind.u64.wrap x = if x < 0 then x + 18446744073709551616 else x := by
  unfold I64 at h; unfold IntKind.wrap IntKind.bits IntKind.signed; simp only; split <;> rename_i hc <;> simp at hc <;> split <;> omega
theorem badU {N x : Int} (hN : 1 ≤ N ∧ N ≤ 1024) (h : I64 x) : IntKind.u64.wrap N ≤ IntKind.u64.wrap x ↔ (x < 0 ∨ N ≤ x) := by
  have hN' : I64 N := ⟨by omega, by omega⟩
  rw [wrap_u64_of h, wrap_u64_of hN']; unfold I64 at h; split <;> split <;> omega
theorem arcBadL {N : Int} {x : Arc} (hN : 1 ≤ N ∧ N ≤ 1024) (h : ArcOk x) (hb : IntKind.u64.wrap N ≤ IntKind.u64.wrap x.src) : arcBad N x = true := by
  have := (badU hN h.src).1 hb
  unfold arcBad; simp; omega
theorem arcBadR {N : Int} {x : Arc} (hN : 1 ≤ N ∧ N ≤ 1024) (h : ArcOk x) (hb : IntKind.u64.wrap N ≤ IntKind.u64.wrap x.dst) : arcBad N x = true := by
  have := (badU hN h.dst).1 hb
  unfold arcBad; simp; omega
theorem arcGood {N : Int} {x : Arc} (hN : 1 ≤ N ∧ N ≤ 1024) (h : ArcOk x) (h1 : ¬ IntKind.u64.wrap N ≤ IntKind.u64.wrap x.src) (h2 : ¬ IntKind.u64.wrap N ≤ IntKind.u64.wrap x.dst) : arcBad N x = false := by
  have a := mt (badU hN h.src).2 h1
  have b := mt (badU hN h.dst).2 h2
  unfold arcBad; simp; omega
theorem good_next {N : Int} {l : List Arc} {k : Nat} {hk : k < l.length} (hall : ∀ j (h : j < l.length), j < k → arcBad N l[j] = false) (hb : arcBad N l[k] = false) :
    ∀ j (h : j < l.length), j < k + 1 → arcBad N l[j] = false := fun j h hj => by
  by_cases e : j = k
  · subst e; exact hb
  · exact hall j h (by omega)

def glooked (N : Int) (l : List Arc) (v : Int) : Int := if (gcheck N l).2 ≠ 0 then (gcheck N l).2 else if v < 0 ∨ N ≤ v then 5 else 0
theorem glooked_bad {N : Int} {l : List Arc} {v : Int} (h : (gcheck N l).2 ≠ 0) : glooked N l v = (gcheck N l).2 := if_pos h
theorem glooked_none {N : Int} {l : List Arc} {v : Int} (h : (gcheck N l).2 = 0) (hv : v < 0 ∨ N ≤ v) : glooked N l v = 5 := by simp [glooked, h, hv]
theorem glooked_ok {N : Int} {l : List Arc} {v : Int} (h : (gcheck N l).2 = 0) (h0 : 0 ≤ v) (h1 : v < N) : glooked N l v = 0 := by
  have : ¬ (v < 0 ∨ N ≤ v) := by omega
  simp [glooked, h, this]

/-- The places at which something is so. -/
def idxs {α : Type} (p : α → Bool) (l : List α) : List Int := (l.zipIdx.filter (fun x => p x.1)).map (fun x => (x.2 : Int))
theorem idxs_succ {α : Type} {p : α → Bool} {l : List α} {k : Nat} (hk : k < l.length) : idxs p (l.take (k + 1)) = idxs p (l.take k) ++ (if p l[k] then [(k : Int)] else []) := by
  unfold idxs
  rw [List.take_succ_eq_append_getElem hk, List.zipIdx_append, List.filter_append, List.map_append]
  congr 1
  have : (l.take k).length = k := by simp; omega
  simp only [this, Nat.zero_add, List.zipIdx_cons, List.zipIdx_nil, List.filter_cons, List.filter_nil]
  split <;> simp
theorem idxs_yes {α : Type} {p : α → Bool} {l : List α} {k : Nat} (hk : k < l.length) (h : p l[k] = true) : idxs p (l.take (k + 1)) = idxs p (l.take k) ++ [(k : Int)] := by rw [idxs_succ hk, if_pos h]
theorem idxs_no {α : Type} {p : α → Bool} {l : List α} {k : Nat} (hk : k < l.length) (h : p l[k] = false) : idxs p (l.take (k + 1)) = idxs p (l.take k) := by rw [idxs_succ hk, h]; simp


/-- The first place at which something is so, or -1. -/
def fidx {α : Type} (p : α → Bool) (l : List α) : Int := match l.findIdx? p with
  | some i => i
  | none => -1
theorem fidx_at {α : Type} {p : α → Bool} {l : List α} {k : Nat} (hk : k < l.length) (h : p l[k] = true) (hpre : ∀ j (h : j < l.length), j < k → p l[j] = false) : fidx p l = (k : Int) := by
  have : l.findIdx? p = some k := by rw [List.findIdx?_eq_some_iff_getElem]; exact ⟨hk, h, fun j hj => by simp [hpre j (by omega) hj]⟩
  unfold fidx; rw [this]
theorem fidx_none {α : Type} {p : α → Bool} {l : List α} (h : ∀ j (h : j < l.length), p l[j] = false) : fidx p l = -1 := by
  have : l.findIdx? p = none := by
    rw [List.findIdx?_eq_none_iff]; intro x hx
    obtain ⟨j, hj, rfl⟩ := List.mem_iff_getElem.1 hx
    exact h j hj
  unfold fidx; rw [this]
theorem false_next {α : Type} {p : α → Bool} {l : List α} {k : Nat} {hk : k < l.length} (h : ∀ j (a : j < l.length), j < k → p l[j] = false) (e : p l[k] = false) : ∀ j (a : j < l.length), j < k + 1 → p l[j] = false := fun j a hj => by
  by_cases hjk : j = k
  · subst hjk; exact e
  · exact h j a (by omega)
theorem fidx_has {α : Type} {p : α → Bool} {l : List α} : decide (0 ≤ fidx p l) = l.any p := by
  unfold fidx
  cases h : l.findIdx? p with
  | none =>
    rw [List.findIdx?_eq_none_iff] at h
    have : l.any p = false := by rw [List.any_eq_false]; intro x hx; simp [h x hx]
    rw [this]; rfl
  | some i =>
    rw [List.findIdx?_eq_some_iff_getElem] at h
    obtain ⟨hi, hp, _⟩ := h
    have : l.any p = true := List.any_eq_true.2 ⟨_, List.getElem_mem hi, hp⟩
    rw [this]; simp
end Go.Proofs.YtkmkakpadgljeaaGreat

/- Package graph: what its functions do, over the lists of arcs as they are read. -/
namespace Go.Proofs.YtkmkakpadgljeaaGreat
open Go Go.RowKit Fly
set_option linter.unusedVariables false
set_option linter.unusedSimpArgs false



set_option maxRecDepth 100000 in
set_option maxHeartbeats 4000000 in
theorem Check_spec (N : Int) (A : Option Addr) (l : List Arc) (cap : Nat) (w : World) (hr : Ro (Fr w []) w A (l.flatMap arcCs)) (hl : l.length ≤ 9223372036854775807) (hN : I64 N) (hok : ∀ x ∈ l, ArcOk x) :
    Meets Tryz.prog 75 [.agg #[.int .i64 N, .slice A l.length cap]] w [] (fun v m => v = .tuple #[.int .i64 (gcheck N l).1, .int .i64 (gcheck N l).2] ∧ m = []) := by
 refine f_enter Tryz.func75 rfl Tryz.ntmps75 rfl Owns.nil ?_
 refine f_seq fun K1 kh1 => ?_
 refine f_region ?_
 refine f_step rfl rfl rfl (o_box rfl rfl fun b1 => ?_)
 refine f_stepP rfl rfl rfl (o_assign rfl) ?_
 refine f_stepP rfl rfl rfl (o_assign rfl) ?_
 refine f_done ?_
 refine f_tn (kh1 _ _ ?_)
 clear kh1
 refine f_seq fun K2 kh2 => ?_
 refine f_seq fun K3 kh3 => ?_
 refine f_region ?_
 refine f_stepP rfl rfl rfl (o_field fa24_0 rfl) ?_
 refine f_stepP rfl rfl rfl (o_load Tryz.isAgg3 rfl (rdA rfl)) ?_
 refine f_stepP rfl rfl rfl (o_lss rfl rfl) ?_
 refine f_stepP rfl rfl rfl (o_move rfl) ?_
 refine f_splitL 9 rfl (fun g9 => ?_) (fun g9 => ?_)
 ·
  refine f_stepN rfl rfl rfl rfl rfl rfl ?_
  refine f_stepN rfl rfl rfl rfl rfl rfl ?_
  refine f_stepN rfl rfl rfl rfl rfl rfl ?_
  refine f_stepP rfl rfl rfl (o_pickT rfl rfl) ?_
  refine f_done ?_
  refine f_tn (kh3 _ _ ?_)
  clear kh3
  refine f_condT rfl ?_
  refine f_seq fun K4 kh4 => ?_
  refine f_region ?_
  refine f_stepP rfl rfl rfl (o_assign rfl) ?_
  refine f_stepP rfl rfl rfl (o_assign rfl) ?_
  refine f_done ?_
  refine f_tn (kh4 _ _ ?_)
  clear kh4
  refine f_ret ?_
  refine f_tr ?_
  exact f_fin2 [] Tryz.results75 rfl rfl Sub.nil ⟨by rw [gcheck_range (by omega)], rfl⟩
 ·
  refine f_stepPY rfl rfl rfl rfl rfl (o_field fa24_0 rfl) ?_
  refine f_stepPY rfl rfl rfl rfl rfl (o_load Tryz.isAgg3 rfl (rdA rfl)) ?_
  refine f_stepPY rfl rfl rfl rfl rfl (o_gtr rfl rfl) ?_
  refine f_stepP rfl rfl rfl (o_pickF rfl rfl) ?_
  refine f_done ?_
  refine f_tn (kh3 _ _ ?_)
  clear kh3
  refine f_cond rfl (fun c13 => ?_) (fun c13 => ?_)
  ·
   refine f_seq fun K5 kh5 => ?_
   refine f_region ?_
   refine f_stepP rfl rfl rfl (o_assign rfl) ?_
   refine f_stepP rfl rfl rfl (o_assign rfl) ?_
   refine f_done ?_
   refine f_tn (kh5 _ _ ?_)
   clear kh5
   refine f_ret ?_
   refine f_tr ?_
   exact f_fin2 [] Tryz.results75 rfl rfl Sub.nil ⟨by rw [gcheck_range (by omega)], rfl⟩
  ·
   have hN1 : 1 ≤ N ∧ N ≤ 1024 := by omega
   refine f_skip ?_
   refine f_tn (kh2 _ _ ?_)
   clear kh2
   refine f_seq fun K6 kh6 => ?_
   refine f_seq fun K7 kh7 => ?_
   refine f_region ?_
   refine f_stepP rfl rfl rfl (o_field fa24_1 rfl) ?_
   refine f_stepP rfl rfl rfl (o_load Tryz.isAgg22 rfl (rdA rfl)) ?_
   refine f_stepP rfl rfl rfl (o_len sl22 rfl) ?_
   refine f_stepP rfl rfl rfl (o_gtr rfl rfl) ?_
   refine f_done ?_
   refine f_tn (kh7 _ _ ?_)
   clear kh7
   refine f_cond rfl (fun c17 => ?_) (fun c17 => ?_)
   ·
    refine f_seq fun K8 kh8 => ?_
    refine f_region ?_
    refine f_stepP rfl rfl rfl (o_assign rfl) ?_
    refine f_stepP rfl rfl rfl (o_assign rfl) ?_
    refine f_done ?_
    refine f_tn (kh8 _ _ ?_)
    clear kh8
    refine f_ret ?_
    refine f_tr ?_
    exact f_fin2 [] Tryz.results75 rfl rfl Sub.nil ⟨by rw [gcheck_long hN1 (by omega)], rfl⟩
   ·
    refine f_skip ?_
    refine f_tn (kh6 _ _ ?_)
    clear kh6
    refine f_seq fun K9 kh9 => ?_
    refine f_seq fun K10 kh10 => ?_
    refine f_region ?_
    refine f_stepP rfl rfl rfl (o_field fa24_1 rfl) ?_
    refine f_stepP rfl rfl rfl (o_load Tryz.isAgg22 rfl (rdA rfl)) ?_
    refine f_stepP rfl rfl rfl (o_len sl22 rfl) ?_
    refine f_stepP rfl rfl rfl (o_move rfl) ?_
    refine f_done ?_
    refine f_tn (kh10 _ _ ?_)
    clear kh10
    refine f_block ?_
    refine f_loopK (α := Nat) [1, 19, 20] (fun k => [(21, .int .i64 (k : Int))]) (fun k => k ≤ l.length ∧ ∀ j (h : j < l.length), j < k → arcBad N l[j] = false) (fun k => l.length - k) (0) ?_ ?_ ?_
    · exact (by repeat (first | exact trivial | refine ⟨rfl, ?_⟩))
    · exact ⟨by omega, fun j h hj => by omega⟩
    ·
     rintro k ⟨hkl, hall⟩
     refine f_seq fun K11 kh11 => ?_
     refine f_region ?_
     refine f_stepP rfl rfl rfl (o_lss rfl rfl) ?_
     refine f_done ?_
     refine f_tn (kh11 _ _ ?_)
     clear kh11
     refine f_seq fun K12 kh12 => ?_
     refine f_cond rfl (fun c22 => ?_) (fun c22 => ?_)
     ·
      refine f_skip ?_
      refine f_tn (kh12 _ _ ?_)
      clear kh12
      refine f_seq fun K13 kh13 => ?_
      refine f_block ?_
      refine f_seq fun K14 kh14 => ?_
      refine f_region ?_
      refine f_stepP rfl rfl rfl (o_move rfl) ?_
      have hk : k < l.length := by omega
      obtain ⟨b, off, rfl, hS, hc⟩ := hr (flat_ne arcCs arcCs_len (by omega) hk)
      refine f_stepP rfl rfl rfl (o_idx sl22 rfl rfl (off + k * 3) ⟨by omega, by omega, by first | omega | (simp; done) | (simp; omega)⟩) ?_
      refine f_stepP rfl rfl rfl (o_loadA (vs := arcCs l[k]) Tryz.isAgg48 Tryz.sizeOf48 rfl rfl (roElem arcCs_len hS hc hk)) ?_
      refine f_step rfl rfl rfl (o_alloc Tryz.zeroValue48 rfl fun b5 => ?_)
      refine f_stepP rfl rfl rfl (o_assign rfl) ?_
      refine f_step0 rfl rfl (o_storeA Tryz.sizeOf48 rfl rfl rfl rfl (by first | exact Nat.le_of_ble_eq_true rfl | (simp; done) | (simp; omega)) _ rfl ?_)
      refine f_done ?_
      refine f_tn (kh14 _ _ ?_)
      clear kh14
      refine f_seq fun K15 kh15 => ?_
      refine f_region ?_
      refine f_stepP rfl rfl rfl (o_field fa48_0 rfl) ?_
      refine f_stepP rfl rfl rfl (o_load Tryz.isAgg3 rfl (rdA rfl)) ?_
      refine f_stepP rfl rfl rfl (o_conv Tryz.runUnderlying3 Tryz.runUnderlying63 rfl _ rfl) ?_
      refine f_stepP rfl rfl rfl (o_field fa24_0 rfl) ?_
      refine f_stepP rfl rfl rfl (o_load Tryz.isAgg3 rfl (rdA rfl)) ?_
      refine f_stepP rfl rfl rfl (o_conv Tryz.runUnderlying3 Tryz.runUnderlying63 rfl _ rfl) ?_
      refine f_stepP rfl rfl rfl (o_geq rfl rfl) ?_
      refine f_stepP rfl rfl rfl (o_move rfl) ?_
      refine f_splitL 33 rfl (fun g33 => ?_) (fun g33 => ?_)
      ·
       refine f_stepN rfl rfl rfl rfl rfl rfl ?_
       refine f_stepN rfl rfl rfl rfl rfl rfl ?_
       refine f_stepN rfl rfl rfl rfl rfl rfl ?_
       refine f_stepN rfl rfl rfl rfl rfl rfl ?_
       refine f_stepN rfl rfl rfl rfl rfl rfl ?_
       refine f_stepN rfl rfl rfl rfl rfl rfl ?_
       refine f_stepN rfl rfl rfl rfl rfl rfl ?_
       refine f_stepP rfl rfl rfl (o_pickT rfl rfl) ?_
       refine f_done ?_
       refine f_tn (kh15 _ _ ?_)
       clear kh15
       refine f_condT rfl ?_
       refine f_seq fun K16 kh16 => ?_
       refine f_region ?_
       refine f_stepP rfl rfl rfl (o_move rfl) ?_
       refine f_stepP rfl rfl rfl (o_assign rfl) ?_
       refine f_stepP rfl rfl rfl (o_assign rfl) ?_
       refine f_done ?_
       refine f_tn (kh16 _ _ ?_)
       clear kh16
       refine f_ret ?_
       refine f_br ?_
       refine f_tr ?_
       refine f_tr ?_
       refine f_br ?_
       refine f_tr ?_
       exact f_fin2 [] Tryz.results75 rfl rfl Sub.nil ⟨by rw [gcheck_bad hN1 (by omega) hk hall (arcBadL hN1 (hok _ (List.getElem_mem hk)) g33)], rfl⟩
      ·
       refine f_stepPY rfl rfl rfl rfl rfl (o_field fa48_1 rfl) ?_
       refine f_stepPY rfl rfl rfl rfl rfl (o_load Tryz.isAgg3 rfl (rdA rfl)) ?_
       refine f_stepPY rfl rfl rfl rfl rfl (o_conv Tryz.runUnderlying3 Tryz.runUnderlying63 rfl _ rfl) ?_
       refine f_stepPY rfl rfl rfl rfl rfl (o_field fa24_0 rfl) ?_
       refine f_stepPY rfl rfl rfl rfl rfl (o_load Tryz.isAgg3 rfl (rdA rfl)) ?_
       refine f_stepPY rfl rfl rfl rfl rfl (o_conv Tryz.runUnderlying3 Tryz.runUnderlying63 rfl _ rfl) ?_
       refine f_stepPY rfl rfl rfl rfl rfl (o_geq rfl rfl) ?_
       refine f_stepP rfl rfl rfl (o_pickF rfl rfl) ?_
       refine f_done ?_
       refine f_tn (kh15 _ _ ?_)
       clear kh15
       refine f_cond rfl (fun c41 => ?_) (fun c41 => ?_)
       ·
        refine f_seq fun K17 kh17 => ?_
        refine f_region ?_
        refine f_stepP rfl rfl rfl (o_move rfl) ?_
        refine f_stepP rfl rfl rfl (o_assign rfl) ?_
        refine f_stepP rfl rfl rfl (o_assign rfl) ?_
        refine f_done ?_
        refine f_tn (kh17 _ _ ?_)
        clear kh17
        refine f_ret ?_
        refine f_br ?_
        refine f_tr ?_
        refine f_tr ?_
        refine f_br ?_
        refine f_tr ?_
        exact f_fin2 [] Tryz.results75 rfl rfl Sub.nil ⟨by rw [gcheck_bad hN1 (by omega) hk hall (arcBadR hN1 (hok _ (List.getElem_mem hk)) c41)], rfl⟩
       ·
        refine f_skip ?_
        refine f_bn ?_
        refine f_tn (kh13 _ _ ?_)
        clear kh13
        refine f_region ?_
        refine f_stepP rfl rfl rfl (o_add rfl rfl _ (wrap_i64 (by omega))) ?_
        refine f_stepP rfl rfl rfl (o_move rfl) ?_
        refine f_done ?_
        refine f_tn (f_again (k + 1) (by first | omega | (dsimp only; omega) | (simp; omega)) ⟨by omega, good_next hall (arcGood hN1 (hok _ (List.getElem_mem hk)) g33 c41)⟩ ?_ ?_ ?_)
        · exact (by repeat (first | exact trivial | refine ⟨rfl, ?_⟩))
        · exact (by repeat (first | exact trivial | refine ⟨rfl, ?_⟩))
        · repeat (first | exact Sub.nil | refine Sub.pick ?_ | refine Sub.castO rfl ?_ | refine Sub.skip ?_)
     ·
      refine f_exit ?_
      refine f_te ?_
      clear kh12
      refine f_te ?_
      refine f_be ?_
      refine f_tn (kh9 _ _ ?_)
      clear kh9
      refine f_seq fun K18 kh18 => ?_
      refine f_region ?_
      refine f_stepP rfl rfl rfl (o_assign rfl) ?_
      refine f_stepP rfl rfl rfl (o_assign rfl) ?_
      refine f_done ?_
      refine f_tn (kh18 _ _ ?_)
      clear kh18
      refine f_ret ?_
      exact f_fin2 [] Tryz.results75 rfl rfl Sub.nil ⟨by rw [gcheck_ok hN1 (by omega) (fun j h => hall j h (by omega))], rfl⟩

end Go.Proofs.YtkmkakpadgljeaaGreat

/- Plain laws: union and find with halved paths; tidy labels; what is connected. No program in sight. -/

namespace Go.Proofs.YtkmkakpadgljeaaGreat
open Go Fly
set_option linter.unusedVariables false

def nats (l : List Nat) : List Value := l.map (fun x : Nat => .int .i64 (x : Int))
theorem nats_length (l : List Nat) : (nats l).length = l.length := by simp [nats]
theorem nats_get {l : List Nat} {i : Nat} (h : i < l.length) : (nats l)[i]? = some (.int .i64 (l[i] : Int)) := by simp [nats, h]
theorem nats_set (l : List Nat) (i x : Nat) : (nats l).set i (.int .i64 (x : Int)) = nats (l.set i x) := by simp [nats, List.map_set]
theorem nats_replicate (n : Nat) : (List.replicate n [Value.int .i64 0]).flatten = nats (List.replicate n 0) := by
  induction n with
  | zero => rfl
  | succ n ih => simp only [List.replicate_succ, List.flatten_cons, ih]; rfl

theorem nats_set_get {l : List Nat} {i x : Nat} (h : i < l.length) : (nats (l.set i x))[i]? = some (.int .i64 (x : Int)) := by simp [nats, h]

/-! ### roots -/
/-- Each entry leads down or stays. -/
def Down (up : List Nat) : Prop := ∀ i (h : i < up.length), up[i] ≤ i

/-- Where one comes to from v. -/
def rootOf (up : List Nat) (v : Nat) : Nat := if h : v < up.length then if up[v] < v then rootOf up up[v] else v else v
termination_by v

theorem rootOf_stay {up : List Nat} {v : Nat} (h : v < up.length) (hs : up[v] = v) : rootOf up v = v := by
  rw [rootOf, dif_pos h, if_neg (by omega)]
theorem rootOf_go {up : List Nat} (hd : Down up) {v : Nat} (h : v < up.length) (hs : up[v] ≠ v) : rootOf up v = rootOf up up[v] := by
  rw [rootOf, dif_pos h, if_pos (by have := hd v h; omega)]
theorem rootOf_le {up : List Nat} (v : Nat) : rootOf up v ≤ v := by
  induction v using Nat.strongRecOn with
  | _ v ih =>
    rw [rootOf]
    split
    · split
      · rename_i h hlt; exact Nat.le_trans (ih _ hlt) (Nat.le_of_lt hlt)
      · exact Nat.le_refl _
    · exact Nat.le_refl _
theorem rootOf_root {up : List Nat} (hd : Down up) {v : Nat} (h : v < up.length) : ∃ hr : rootOf up v < up.length, up[rootOf up v] = rootOf up v := by
  induction v using Nat.strongRecOn with
  | _ v ih =>
    by_cases hs : up[v] = v
    · rw [rootOf_stay h hs]; exact ⟨h, hs⟩
    · have hle := hd v h
      rw [rootOf_go hd h hs]
      exact ih _ (by omega) (by omega)
theorem rootOf_idem {up : List Nat} (hd : Down up) {v : Nat} (h : v < up.length) : rootOf up (rootOf up v) = rootOf up v := by
  obtain ⟨hr, he⟩ := rootOf_root hd h
  exact rootOf_stay hr he

/-- Halving a path. -/
theorem down_halve {up : List Nat} (hd : Down up) {v : Nat} (h : v < up.length) (h2 : up[v] < up.length) : Down (up.set v up[up[v]]) := by
  intro i hi
  rw [List.length_set] at hi
  rw [List.getElem_set]
  split
  · rename_i e; subst e; exact Nat.le_trans (hd _ h2) (hd _ h)
  · exact hd i hi

theorem rootOf_halve {up : List Nat} (hd : Down up) {v : Nat} (h : v < up.length) (h2 : up[v] < up.length) (u : Nat) : rootOf (up.set v up[up[v]]) u = rootOf up u := by
  have hd' := down_halve hd h h2
  induction u using Nat.strongRecOn with
  | _ u ih =>
    by_cases hu : u < up.length
    · have hu' : u < (up.set v up[up[v]]).length := by simpa using hu
      by_cases e : v = u
      · subst e
        by_cases hs : up[v] = v
        · rw [rootOf_stay h hs, rootOf_stay hu' (by simp [hs])]
        · have hlt : up[v] < v := by have := hd v h; omega
          have hle : up[up[v]] ≤ up[v] := hd _ h2
          rw [rootOf_go hd h hs]
          have hg : (up.set v up[up[v]])[v] = up[up[v]] := by simp
          rw [rootOf_go hd' hu' (by rw [hg]; omega), hg, ih _ (by omega)]
          by_cases hs2 : up[up[v]] = up[v]
          · rw [hs2]
          · rw [rootOf_go hd h2 hs2]
      · have hg : (up.set v up[up[v]])[u] = up[u] := by rw [List.getElem_set, if_neg e]
        by_cases hs : up[u] = u
        · rw [rootOf_stay hu hs, rootOf_stay hu' (by rw [hg, hs])]
        · rw [rootOf_go hd hu hs, rootOf_go hd' hu' (by rw [hg]; exact hs), hg, ih _ (by have := hd u hu; omega)]
    · rw [rootOf, rootOf, dif_neg (by simpa using hu), dif_neg hu]

/-- Two roots put together. -/
theorem down_join {up : List Nat} (hd : Down up) {x y : Nat} : Down (up.set (max x y) (min x y)) := by
  intro i hi
  rw [List.length_set] at hi
  rw [List.getElem_set]
  split
  · rename_i e; subst e; omega
  · exact hd i hi

theorem rootOf_join {up : List Nat} (hd : Down up) {x y : Nat} (hx : x < up.length) (hy : y < up.length) (rx : up[x] = x) (ry : up[y] = y) (u : Nat) (hu : u < up.length) :
    rootOf (up.set (max x y) (min x y)) u = if rootOf up u = max x y then min x y else rootOf up u := by
  have hd' := down_join hd (x := x) (y := y)
  have hm : min x y < up.length := by omega
  have hM : max x y < up.length := by omega
  have rm : up[min x y] = min x y := by
    rcases Nat.le_total x y with h | h
    · simp only [Nat.min_eq_left h]; exact rx
    · simp only [Nat.min_eq_right h]; exact ry
  have rM : up[max x y] = max x y := by
    rcases Nat.le_total x y with h | h
    · simp only [Nat.max_eq_right h]; exact ry
    · simp only [Nat.max_eq_left h]; exact rx
  generalize hp : min x y = p at *
  generalize hq : max x y = q at *
  have hpq : p ≤ q := by omega
  induction u using Nat.strongRecOn with
  | _ u ih =>
    have hu' : u < (up.set q p).length := by simpa using hu
    by_cases e : q = u
    · subst e
      rw [rootOf_stay hu rM, if_pos rfl]
      by_cases hs : p = q
      · subst hs; rw [rootOf_stay hu' (by simp)]
      · have hg : (up.set q p)[q] = p := by simp
        rw [rootOf_go hd' hu' (by rw [hg]; exact hs), hg, ih p (by omega) hm, rootOf_stay hm rm, if_neg hs]
    · have hg : (up.set q p)[u] = up[u] := by rw [List.getElem_set, if_neg e]
      by_cases hs : up[u] = u
      · rw [rootOf_stay hu hs, if_neg (fun h => e h.symm), rootOf_stay hu' (by rw [hg, hs])]
      · rw [rootOf_go hd hu hs, rootOf_go hd' hu' (by rw [hg]; exact hs), hg]
        have := hd u hu
        exact ih _ (by omega) (by omega)

/-! ### what is connected -/
/-- The ends of some arcs, as vertices. -/
def ends2 (l : List Arc) : List (Nat × Nat) := l.map (fun x => (x.src.toNat, x.dst.toNat))

inductive Conn (es : List (Nat × Nat)) : Nat → Nat → Prop
  | refl (v : Nat) : Conn es v v
  | step {u x y : Nat} (h : Conn es u x) (he : (x, y) ∈ es ∨ (y, x) ∈ es) : Conn es u y

theorem Conn.trans {es : List (Nat × Nat)} {u v x : Nat} (h : Conn es u v) (k : Conn es v x) : Conn es u x := by
  induction k with
  | refl => exact h
  | step _ he ih => exact .step ih he
theorem Conn.edge {es : List (Nat × Nat)} {u v : Nat} (h : (u, v) ∈ es ∨ (v, u) ∈ es) : Conn es u v := .step (.refl u) h
theorem Conn.symm {es : List (Nat × Nat)} {u v : Nat} (h : Conn es u v) : Conn es v u := by
  induction h with
  | refl => exact .refl _
  | step _ he ih => exact (Conn.edge he.symm).trans ih
theorem Conn.mono {es es' : List (Nat × Nat)} (hs : ∀ e ∈ es, e ∈ es') {u v : Nat} (h : Conn es u v) : Conn es' u v := by
  induction h with
  | refl => exact .refl _
  | step _ he ih => exact .step ih (he.imp (hs _) (hs _))

/-- The roots tell what is connected by some edges. -/
def Tells (up : List Nat) (es : List (Nat × Nat)) : Prop := ∀ u v, u < up.length → v < up.length → (rootOf up u = rootOf up v ↔ Conn es u v)

theorem conn_eq_of_up {es : List (Nat × Nat)} {f : Nat → Nat} (h : ∀ e ∈ es, f e.1 = f e.2) {u v : Nat} (hc : Conn es u v) : f u = f v := by
  induction hc with
  | refl => rfl
  | step _ he ih =>
    rcases he with he | he
    · exact ih.trans (h _ he)
    · exact ih.trans (h _ he).symm

theorem tells_start (n : Nat) : Tells (List.range n) [] := by
  intro u v hu hv
  have hr : ∀ u, u < n → rootOf (List.range n) u = u := fun u hu => rootOf_stay (by simpa using hu) (by simp)
  rw [List.length_range] at hu hv
  rw [hr u hu, hr v hv]
  constructor
  · rintro rfl; exact .refl _
  · intro h
    cases h with
    | refl => rfl
    | step _ he => simp at he

theorem tells_join {up : List Nat} {es : List (Nat × Nat)} {a b : Nat} (hd : Down up) (ht : Tells up es) (hes : ∀ e ∈ es, e.1 < up.length ∧ e.2 < up.length) (ha : a < up.length) (hb : b < up.length) :
    Tells (up.set (max (rootOf up a) (rootOf up b)) (min (rootOf up a) (rootOf up b))) (es ++ [(a, b)]) := by
  obtain ⟨hra, ea⟩ := rootOf_root hd ha
  obtain ⟨hrb, eb⟩ := rootOf_root hd hb
  intro u v hu hv
  rw [List.length_set] at hu hv
  rw [rootOf_join hd hra hrb ea eb u hu, rootOf_join hd hra hrb ea eb v hv]
  have hinc : ∀ {u v : Nat}, Conn es u v → Conn (es ++ [(a, b)]) u v := fun h => h.mono (fun e he => by simp [he])
  have hab : Conn (es ++ [(a, b)]) a b := .edge (.inl (by simp))
  constructor
  · intro h
    have hau : rootOf up u = rootOf up a → Conn (es ++ [(a, b)]) u a := fun e => hinc ((ht u a hu ha).1 e)
    have hbu : rootOf up u = rootOf up b → Conn (es ++ [(a, b)]) u b := fun e => hinc ((ht u b hu hb).1 e)
    have hav : rootOf up v = rootOf up a → Conn (es ++ [(a, b)]) v a := fun e => hinc ((ht v a hv ha).1 e)
    have hbv : rootOf up v = rootOf up b → Conn (es ++ [(a, b)]) v b := fun e => hinc ((ht v b hv hb).1 e)
    -- each of the two is of a's class or b's, or both are as before
    have key : ∀ w, w < up.length → (rootOf up w = rootOf up a ∨ rootOf up w = rootOf up b) → Conn (es ++ [(a, b)]) w a := fun w hw hor => by
      rcases hor with e | e
      · exact hinc ((ht w a hw ha).1 e)
      · exact (hinc ((ht w b hw hb).1 e)).trans hab.symm
    by_cases h1 : rootOf up u = max (rootOf up a) (rootOf up b) <;> by_cases h2 : rootOf up v = max (rootOf up a) (rootOf up b)
    · exact hinc ((ht u v hu hv).1 (h1.trans h2.symm))
    · rw [if_pos h1, if_neg h2] at h
      exact (key u hu (by omega)).trans (key v hv (by omega)).symm
    · rw [if_neg h1, if_pos h2] at h
      exact (key u hu (by omega)).trans (key v hv (by omega)).symm
    · rw [if_neg h1, if_neg h2] at h
      exact hinc ((ht u v hu hv).1 h)
  · intro h
    refine conn_eq_of_up (es := es ++ [(a, b)]) (f := fun w => if rootOf up w = max (rootOf up a) (rootOf up b) then min (rootOf up a) (rootOf up b) else rootOf up w) ?_ h
    intro e he
    rw [List.mem_append, List.mem_singleton] at he
    rcases he with he | rfl
    · obtain ⟨h1, h2⟩ := hes e he
      have := (ht e.1 e.2 h1 h2).2 (.edge (.inl he))
      simp only [this]
    · dsimp only
      split <;> split <;> omega

/-! ### tidy labels -/
/-- How many labels the first k vertices have. -/
def nxt (p : List Nat) : Nat → Nat
  | 0 => 0
  | k + 1 => if p[k]? = some (nxt p k) then nxt p k + 1 else nxt p k

def Tidy (p : List Nat) : Prop := ∀ k (h : k < p.length), p[k] ≤ nxt p k

theorem nxt_take (p q : List Nat) : ∀ k, (∀ j, j < k → p[j]? = q[j]?) → nxt p k = nxt q k
  | 0, _ => rfl
  | k + 1, h => by rw [nxt, nxt, nxt_take p q k (fun j hj => h j (by omega)), h k (by omega)]

theorem nxt_le (p : List Nat) : ∀ k, nxt p k ≤ k
  | 0 => Nat.le_refl _
  | k + 1 => by have := nxt_le p k; rw [nxt]; split <;> omega

theorem nxt_mono (p : List Nat) {j k : Nat} (h : j ≤ k) : nxt p j ≤ nxt p k := by
  induction k with
  | zero => rw [Nat.le_zero.1 h]; exact Nat.le_refl _
  | succ k ih =>
    rcases Nat.lt_or_ge j (k + 1) with h' | h'
    · have := ih (by omega); rw [nxt]; split <;> omega
    · rw [show j = k + 1 from by omega]; exact Nat.le_refl _

/-- A label below the next one has been seen. -/
theorem seen {p : List Nat} : ∀ k, k ≤ p.length → ∀ x, x < nxt p k → ∃ j, ∃ h : j < p.length, j < k ∧ p[j] = x
  | 0, _, x, hx => by simp [nxt] at hx
  | k + 1, hk, x, hx => by
    rw [nxt] at hx
    split at hx
    · rename_i he
      by_cases hxk : x < nxt p k
      · obtain ⟨j, h, hj, e⟩ := seen k (by omega) x hxk
        exact ⟨j, h, by omega, e⟩
      · have hkl : k < p.length := by omega
        rw [List.getElem?_eq_getElem hkl] at he
        exact ⟨k, hkl, by omega, by have := Option.some.inj he; omega⟩
    · obtain ⟨j, h, hj, e⟩ := seen k (by omega) x hx
      exact ⟨j, h, by omega, e⟩

theorem below_next {p : List Nat} (ht : Tidy p) {j k : Nat} (h : j < p.length) (hjk : j < k) : p[j] < nxt p k := by
  have h1 : p[j] < nxt p (j + 1) := by
    have := ht j h
    rw [nxt, List.getElem?_eq_getElem h]
    split
    · rename_i e; have := Option.some.inj e; omega
    · rename_i e; have : p[j] ≠ nxt p j := fun e' => e (by rw [e']); omega
  exact Nat.lt_of_lt_of_le h1 (nxt_mono p hjk)

/-- Tidy labels are told by which vertices have the same. -/
theorem tidy_unique {p q : List Nat} (hp : Tidy p) (hq : Tidy q) (hl : p.length = q.length) (h : ∀ i j (hi : i < p.length) (hj : j < p.length), p[i] = p[j] ↔ q[i]'(hl ▸ hi) = q[j]'(hl ▸ hj)) : p = q := by
  have key : ∀ k j : Nat, j < k → p[j]? = q[j]? := by
    intro k
    induction k with
    | zero => intro j hj; omega
    | succ k ih =>
      intro j hj
      rcases Nat.lt_or_ge j k with h' | h'
      · exact ih j h'
      · obtain rfl : j = k := by omega
        by_cases hjl : j < p.length
        · have hjq : j < q.length := hl ▸ hjl
          have hn := nxt_take p q j ih
          rw [List.getElem?_eq_getElem hjl, List.getElem?_eq_getElem hjq]
          congr 1
          have a := hp j hjl
          have b := hq j hjq
          by_cases e1 : p[j] < nxt p j
          · obtain ⟨i, hi, hij, e⟩ := seen j (by omega) _ e1
            have e2 := (h i j hi hjl).1 e
            have e3 := ih i hij
            rw [List.getElem?_eq_getElem hi, List.getElem?_eq_getElem (hl ▸ hi)] at e3
            have := Option.some.inj e3
            omega
          · by_cases e2 : q[j] < nxt q j
            · obtain ⟨i, hi, hij, e⟩ := seen j (by omega) _ e2
              have hi' : i < p.length := hl ▸ hi
              have e4 := (h i j hi' hjl).2 e
              have := below_next hp hi' hij
              omega
            · omega
        · rw [List.getElem?_eq_none (by omega), List.getElem?_eq_none (by omega)]
  exact List.ext_getElem? fun i => key (i + 1) i (by omega)

/-- The labels of a graph's parts. -/
structure IsParts (n : Nat) (es : List (Nat × Nat)) (p : List Nat) : Prop where
  len : p.length = n
  tidy : Tidy p
  conn : ∀ u v (hu : u < p.length) (hv : v < p.length), p[u] = p[v] ↔ Conn es u v

theorem IsParts.unique {n : Nat} {es es' : List (Nat × Nat)} {p q : List Nat} (hp : IsParts n es p) (hq : IsParts n es' q) (h : ∀ u v, u < n → v < n → (Conn es u v ↔ Conn es' u v)) : p = q :=
  tidy_unique hp.tidy hq.tidy (hp.len.trans hq.len.symm) fun i j hi hj =>
    (hp.conn i j hi hj).trans ((h i j (hp.len ▸ hi) (hp.len ▸ hj)).trans (hq.conn i j (by rw [hq.len, ← hp.len]; exact hi) (by rw [hq.len, ← hp.len]; exact hj)).symm)

/-! ### numbering the roots -/
/-- What has been written when the first k vertices have their labels. -/
structure Labelled (up : List Nat) (k : Nat) (out : List Nat) (next : Nat) : Prop where
  len : out.length = up.length
  next : nxt out k = next
  tidy : ∀ j (h : j < out.length), j < k → out[j] ≤ nxt out j
  same : ∀ i j (hi : i < out.length) (hj : j < out.length), i < k → j < k → (out[i] = out[j] ↔ rootOf up i = rootOf up j)

theorem labelled_start (up : List Nat) : Labelled up 0 (List.replicate up.length 0) 0 :=
  ⟨by simp, rfl, fun j _ h => by omega, fun i j _ _ h => by omega⟩

theorem nxt_set {out : List Nat} {k x : Nat} : ∀ j, j ≤ k → nxt (out.set k x) j = nxt out j := fun j hj =>
  nxt_take _ _ j fun i hi => by rw [List.getElem?_set_ne (by omega)]

/-- A root gets the next label. -/
theorem labelled_new {up out : List Nat} {k next : Nat} (hd : Down up) (h : Labelled up k out next) (hk : k < up.length) (hr : rootOf up k = k) : Labelled up (k + 1) (out.set k next) (next + 1) := by
  have hl := h.len
  have hb : ∀ j (hj : j < out.length), j < k → out[j] < next := fun j hj hjk => by
    have h1 := h.tidy j hj hjk
    have h2 : nxt out (j + 1) ≤ nxt out k := nxt_mono out hjk
    rw [nxt, List.getElem?_eq_getElem hj] at h2
    have h3 := h.next
    split at h2
    · rename_i e; have := Option.some.inj e; omega
    · rename_i e; have : out[j] ≠ nxt out j := fun e' => e (by rw [e']); omega
  refine ⟨by simp [hl], ?_, fun j hj hjk => ?_, fun i j hi hj hik hjk => ?_⟩
  · rw [nxt, nxt_set k (Nat.le_refl _), h.next, if_pos (by rw [List.getElem?_set_self (by omega)])]
  · rw [List.length_set] at hj
    rw [nxt_set j (by omega), List.getElem_set]
    split
    · rename_i e; subst e; rw [h.next]; exact Nat.le_refl _
    · exact h.tidy j hj (by omega)
  · rw [List.length_set] at hi hj
    rw [List.getElem_set, List.getElem_set]
    have hne : ∀ j (hj : j < out.length), j < k → rootOf up j ≠ k := fun j _ hjk e => by have := rootOf_le (up := up) j; omega
    by_cases e1 : k = i <;> by_cases e2 : k = j
    · subst e1; subst e2; simp
    · subst e1; rw [if_pos rfl, if_neg e2, hr]
      have := hb j hj (by omega)
      have := hne j hj (by omega)
      constructor
      · intro; omega
      · intro e; exact absurd e.symm this
    · subst e2; rw [if_pos rfl, if_neg e1, hr]
      have := hb i hi (by omega)
      have := hne i hi (by omega)
      constructor
      · intro; omega
      · intro e; exact absurd e this
    · rw [if_neg e1, if_neg e2]; exact h.same i j hi hj (by omega) (by omega)

/-- A vertex gets its root's label. -/
theorem labelled_old {up out : List Nat} {k next : Nat} (hd : Down up) (h : Labelled up k out next) (hk : k < up.length) (hr : rootOf up k ≠ k) (hro : rootOf up k < out.length) : Labelled up (k + 1) (out.set k out[rootOf up k]) next := by
  have hl := h.len
  have hrk : rootOf up k < k := by have := rootOf_le (up := up) k; omega
  have hlt : out[rootOf up k] < next := by
    have h1 := h.tidy _ hro hrk
    have h2 : nxt out (rootOf up k + 1) ≤ nxt out k := nxt_mono out hrk
    rw [nxt, List.getElem?_eq_getElem hro] at h2
    have h3 := h.next
    split at h2
    · rename_i e; have := Option.some.inj e; omega
    · rename_i e; have : out[rootOf up k] ≠ nxt out (rootOf up k) := fun e' => e (by rw [e']); omega
  have hid := rootOf_idem hd hk
  refine ⟨by simp [hl], ?_, fun j hj hjk => ?_, fun i j hi hj hik hjk => ?_⟩
  · rw [nxt, nxt_set k (Nat.le_refl _), h.next, if_neg]
    rw [List.getElem?_set_self (by omega)]
    intro e; have := Option.some.inj e; omega
  · rw [List.length_set] at hj
    rw [nxt_set j (by omega), List.getElem_set]
    split
    · rename_i e; subst e; rw [h.next]; omega
    · exact h.tidy j hj (by omega)
  · rw [List.length_set] at hi hj
    rw [List.getElem_set, List.getElem_set]
    by_cases e1 : k = i <;> by_cases e2 : k = j
    · subst e1; subst e2; simp
    · subst e1; rw [if_pos rfl, if_neg e2, h.same _ j hro hj hrk (by omega), hid]
    · subst e2; rw [if_pos rfl, if_neg e1, h.same i _ hi hro (by omega) hrk, hid]
    · rw [if_neg e1, if_neg e2]; exact h.same i j hi hj (by omega) (by omega)

theorem labelled_end {up out : List Nat} {es : List (Nat × Nat)} {next : Nat} (h : Labelled up up.length out next) (ht : Tells up es) : IsParts up.length es out :=
  ⟨h.len, fun k hk => h.tidy k hk (by rw [← h.len]; exact hk), fun u v hu hv =>
    (h.same u v hu hv (by rw [← h.len]; exact hu) (by rw [← h.len]; exact hv)).trans (ht u v (by rw [← h.len]; exact hu) (by rw [← h.len]; exact hv))⟩

theorem rootOf_two {up : List Nat} (hd : Down up) {v : Nat} (h : v < up.length) (h2 : up[v] < up.length) : rootOf up up[up[v]] = rootOf up v := by
  by_cases hs : up[v] = v
  · simp only [hs]
  · rw [rootOf_go hd h hs]
    by_cases hs2 : up[up[v]] = up[v]
    · rw [hs2]
    · rw [rootOf_go hd h2 hs2]

theorem down_range (n : Nat) : Down (List.range n) := fun i h => by simp
theorem up_range {up : List Nat} {n : Nat} (hl : up.length = n) (h : ∀ j (hj : j < up.length), up[j] = j) : up = List.range n :=
  List.ext_getElem (by simp [hl]) fun i h1 h2 => by simp [h i h1]
theorem gcheck_zero {N : Int} {l : List Arc} (h : (gcheck N l).2 = 0) : 1 ≤ N ∧ N ≤ 1024 ∧ l.length ≤ 8192 ∧ ∀ k (hk : k < l.length), 0 ≤ l[k].src ∧ l[k].src < N ∧ 0 ≤ l[k].dst ∧ l[k].dst < N := by
  unfold gcheck at h
  split at h
  · simp at h
  · split at h
    · simp at h
    · rename_i h1 h2
      refine ⟨by omega, by omega, by omega, fun k hk => ?_⟩
      split at h
      · simp at h
      · rename_i hn
        rw [List.findIdx?_eq_none_iff] at hn
        have := hn _ (List.getElem_mem hk)
        unfold arcBad at this
        simp at this
        omega
theorem ends2_take {l : List Arc} {k : Nat} (hk : k < l.length) : ends2 (l.take (k + 1)) = ends2 (l.take k) ++ [(l[k].src.toNat, l[k].dst.toNat)] := by
  unfold ends2; rw [List.take_succ_eq_append_getElem hk, List.map_append]; rfl
theorem ends2_lt {l : List Arc} {n : Nat} {up : List Nat} (hul : up.length = n) (hg : ∀ k (hk : k < l.length), 0 ≤ l[k].src ∧ l[k].src < (n : Int) ∧ 0 ≤ l[k].dst ∧ l[k].dst < (n : Int)) (k : Nat) :
    ∀ e ∈ ends2 (l.take k), e.1 < up.length ∧ e.2 < up.length := by
  intro e he
  obtain ⟨x, hx, rfl⟩ := List.mem_map.1 he
  obtain ⟨j, hj, rfl⟩ := List.mem_iff_getElem.1 (List.mem_of_mem_take hx)
  have := hg j hj
  dsimp only
  omega
theorem tells_roots {up up' : List Nat} {es : List (Nat × Nat)} (h : Tells up es) (hl : up'.length = up.length) (hr : ∀ x, rootOf up' x = rootOf up x) : Tells up' es := fun u v hu hv => by
  rw [hr, hr]; exact h u v (hl ▸ hu) (hl ▸ hv)
theorem labelled_roots {up up' : List Nat} {k nx : Nat} {out : List Nat} (h : Labelled up k out nx) (hl : up'.length = up.length) (hr : ∀ x, rootOf up' x = rootOf up x) : Labelled up' k out nx :=
  ⟨h.len.trans hl.symm, h.next, h.tidy, fun i j hi hj a b => by rw [hr, hr]; exact h.same i j hi hj a b⟩
theorem tells_next {up up2 : List Nat} {es : List (Nat × Nat)} {a b : Nat} (hd : Down up) (hd2 : Down up2) (ht : Tells up es) (hl : up2.length = up.length) (hr : ∀ x, rootOf up2 x = rootOf up x)
    (hes : ∀ e ∈ es, e.1 < up.length ∧ e.2 < up.length) (ha : a < up.length) (hb : b < up.length) :
    Tells (up2.set (max (rootOf up a) (rootOf up b)) (min (rootOf up a) (rootOf up b))) (es ++ [(a, b)]) := by
  have := tells_join hd2 (tells_roots ht hl hr) (fun e he => by rw [hl]; exact hes e he) (a := a) (b := b) (hl ▸ ha) (hl ▸ hb)
  rw [hr, hr] at this
  exact this

theorem parts_end {up out : List Nat} {es : List (Nat × Nat)} {n k nx : Nat} (hul : up.length = n) (h : Labelled up k out nx) (ht : Tells up es) (hk : k = n) : IsParts n es out := by
  subst hk
  subst hul
  exact labelled_end h ht

/-! ### sums over the vertices -/
theorem idxs_mem {α : Type} {p : α → Bool} {l : List α} {x : Int} (h : x ∈ idxs p l) : ∃ (i : Nat) (hi : i < l.length), x = (i : Int) ∧ p l[i] = true := by
  unfold idxs at h
  obtain ⟨y, hy, rfl⟩ := List.mem_map.1 h
  rw [List.mem_filter] at hy
  obtain ⟨a, i⟩ := y
  have := List.mem_zipIdx hy.1
  have hi : i < l.length := by simpa using this.2.1
  refine ⟨i, hi, rfl, ?_⟩
  have e : a = l[i] := by simpa using this.2.2
  rw [← e]; exact hy.2
theorem idxs_length {α : Type} (p : α → Bool) (l : List α) : (idxs p l).length = l.countP p := by
  unfold idxs
  rw [List.length_map, ← List.countP_eq_length_filter]
  have := List.countP_map (p := p) (f := Prod.fst) (l := l.zipIdx)
  rw [List.zipIdx_map_fst] at this
  rw [this]; rfl

/-- How many arcs are of the first k vertices. -/
theorem count_upto {α : Type} (f : α → Int) (l : List α) (k : Nat) : l.countP (fun x => decide (0 ≤ f x ∧ f x < (k : Int))) + l.countP (fun x => decide (f x = (k : Int))) = l.countP (fun x => decide (0 ≤ f x ∧ f x < ((k + 1 : Nat) : Int))) := by
  induction l with
  | nil => rfl
  | cons x l ih =>
    simp only [List.countP_cons, decide_eq_true_eq]
    split <;> split <;> split <;> omega
theorem count_all {α : Type} (f : α → Int) (l : List α) (n : Nat) (h : ∀ k (hk : k < l.length), 0 ≤ f l[k] ∧ f l[k] < (n : Int)) : l.countP (fun x => decide (0 ≤ f x ∧ f x < (n : Int))) = l.length := by
  rw [List.countP_eq_length]
  intro x hx
  obtain ⟨k, hk, rfl⟩ := List.mem_iff_getElem.1 hx
  simpa using h k hk
theorem count_none {α : Type} (f : α → Int) (l : List α) : l.countP (fun x => decide (0 ≤ f x ∧ f x < ((0 : Nat) : Int))) = 0 := by
  rw [List.countP_eq_zero]
  intro x _
  simp

end Go.Proofs.YtkmkakpadgljeaaGreat

/- Lists without equals side by side; rising lists. -/

namespace Go.Proofs.YtkmkakpadgljeaaGreat
open Go Fly
set_option linter.unusedVariables false
set_option linter.unusedSectionVars false
set_option linter.unusedSimpArgs false

variable {α : Type} [DecidableEq α]
/-- Of equals that stand side by side the first one. -/
def cpt : List α → List α
  | [] => []
  | [x] => [x]
  | x :: y :: r => if x = y then cpt (y :: r) else x :: cpt (y :: r)
theorem cpt_head : ∀ (x : α) (r : List α), ∃ r', cpt (x :: r) = x :: r'
  | x, [] => ⟨[], rfl⟩
  | x, y :: r => by
    obtain ⟨r', h⟩ := cpt_head y r
    by_cases e : x = y
    · subst e; exact ⟨r', by rw [cpt, if_pos rfl, h]⟩
    · exact ⟨cpt (y :: r), by rw [cpt, if_neg e]⟩
theorem cpt_snoc : ∀ (xs : List α) (z : α), cpt (xs ++ [z]) = if xs.getLast? = some z then cpt xs else cpt xs ++ [z]
  | [], z => by simp [cpt]
  | [x], z => by
    by_cases e : x = z <;> simp [cpt, e]
  | x :: y :: r, z => by
    have ih := cpt_snoc (y :: r) z
    have e1 : (x :: y :: r).getLast? = (y :: r).getLast? := by simp [List.getLast?_cons_cons]
    show cpt (x :: y :: (r ++ [z])) = _
    rw [cpt, e1]
    rw [show y :: (r ++ [z]) = (y :: r) ++ [z] from rfl, ih]
    by_cases e : x = y
    · rw [if_pos e]; rw [show cpt (x :: y :: r) = cpt (y :: r) by rw [cpt, if_pos e]]
    · rw [if_neg e]; rw [show cpt (x :: y :: r) = x :: cpt (y :: r) by rw [cpt, if_neg e]]
      split <;> simp
theorem cpt_len_le : ∀ (l : List α), (cpt l).length ≤ l.length
  | [] => Nat.le_refl _
  | [x] => Nat.le_refl _
  | x :: y :: r => by
    have := cpt_len_le (y :: r)
    simp only [cpt]; split <;> simp only [List.length_cons] at * <;> omega
theorem cpt_mem : ∀ (l : List α) (a : α), a ∈ cpt l ↔ a ∈ l
  | [], a => Iff.rfl
  | [x], a => Iff.rfl
  | x :: y :: r, a => by
    have ih := cpt_mem (y :: r) a
    simp only [cpt]
    split
    · rename_i e; subst e; rw [ih]; simp
    · simp only [List.mem_cons] at ih ⊢; rw [ih]
/-- The next one. -/
theorem cpt_next {l : List α} {j : Nat} (h0 : 0 < j) (hj : j < l.length) : cpt (l.take (j + 1)) = if l[j - 1]'(by omega) = l[j] then cpt (l.take j) else cpt (l.take j) ++ [l[j]] := by
  rw [List.take_succ_eq_append_getElem hj, cpt_snoc]
  have : (l.take j).getLast? = some (l[j - 1]'(by omega)) := by
    rw [List.getLast?_eq_getElem?, List.length_take, Nat.min_eq_left (by omega), List.getElem?_take_of_lt (by omega), List.getElem?_eq_getElem (by omega)]
  rw [this]
  by_cases e : l[j - 1]'(by omega) = l[j] <;> simp [e]
theorem cpt_one {l : List α} (h : 0 < l.length) : cpt (l.take 1) = l.take 1 := by
  cases l with
  | nil => simp at h
  | cons x r => rfl
/-- Of a rising list only one of each is left. -/
theorem cpt_rising {R : α → α → Prop} (ht : ∀ a b c, R a b → R b c → R a c) (hR : ∀ a b, R a b → a ≠ b) : ∀ {l : List α}, l.Pairwise (fun x y => x = y ∨ R x y) → (cpt l).Pairwise R
  | [], _ => List.Pairwise.nil
  | [x], _ => by simp [cpt]
  | x :: y :: r, h => by
    have h' := List.pairwise_cons.1 h
    have ih := cpt_rising ht hR h'.2
    simp only [cpt]
    split
    · exact ih
    · rename_i e
      refine List.pairwise_cons.2 ⟨fun z hz => ?_, ih⟩
      rcases h'.1 z ((cpt_mem _ _).1 hz) with h1 | h1
      · subst h1
        obtain ⟨r', hr'⟩ := cpt_head y r
        rw [hr'] at hz ih
        have h2 := (h'.1 y (List.mem_cons_self ..)).resolve_left e
        rcases List.mem_cons.1 hz with h3 | h3
        · exact absurd h3 e
        · exact absurd rfl (hR _ _ (ht _ _ _ h2 ((List.pairwise_cons.1 ih).1 x h3)))
      · exact h1
/-- Rising lists of the same members are the same. -/
theorem rising_eq {R : α → α → Prop} (ht : ∀ a b c, R a b → R b c → R a c) (hR : ∀ a b, R a b → a ≠ b) : ∀ {l r : List α}, l.Pairwise R → r.Pairwise R → (∀ a, a ∈ l ↔ a ∈ r) → l = r
  | [], [], _, _, _ => rfl
  | [], y :: r, _, _, h => by have := (h y).2 (List.mem_cons_self ..); simp at this
  | x :: l, [], _, _, h => by have := (h x).1 (List.mem_cons_self ..); simp at this
  | x :: l, y :: r, hl, hr, h => by
    rw [List.pairwise_cons] at hl hr
    have e : x = y := by
      rcases List.mem_cons.1 ((h x).1 (List.mem_cons_self ..)) with e | e
      · exact e
      · rcases List.mem_cons.1 ((h y).2 (List.mem_cons_self ..)) with e' | e'
        · exact e'.symm
        · exact absurd rfl (hR _ _ (ht _ _ _ (hl.1 y e') (hr.1 x e)))
    subst e
    congr 1
    refine rising_eq ht hR hl.2 hr.2 fun a => ⟨fun ha => ?_, fun ha => ?_⟩
    · rcases List.mem_cons.1 ((h a).1 (List.mem_cons_of_mem _ ha)) with e | e
      · exact absurd e.symm (hR _ _ (hl.1 a ha))
      · exact e
    · rcases List.mem_cons.1 ((h a).2 (List.mem_cons_of_mem _ ha)) with e | e
      · exact absurd e.symm (hR _ _ (hr.1 a ha))
      · exact e
theorem rising_int {l r : List Int} (hl : l.Pairwise (· < ·)) (hr : r.Pairwise (· < ·)) (h : ∀ a, a ∈ l ↔ a ∈ r) : l = r :=
  rising_eq (R := fun a b : Int => a < b) (fun a b c h1 h2 => Int.lt_trans h1 h2) (fun a b h e => by subst e; exact Int.lt_irrefl _ h) hl hr h
theorem cpt_int {l : List Int} (h : l.Pairwise (· ≤ ·)) : (cpt l).Pairwise (· < ·) :=
  cpt_rising (R := fun a b : Int => a < b) (fun a b c h1 h2 => Int.lt_trans h1 h2) (fun a b h e => by subst e; exact Int.lt_irrefl _ h) (h.imp fun {a b} (h : a ≤ b) => by omega)
end Go.Proofs.YtkmkakpadgljeaaGreat

/- Pairs of vertices, in order. -/

namespace Go.Proofs.YtkmkakpadgljeaaGreat
open Go Go.RowKit Go.Sort Fly
set_option linter.unusedVariables false
set_option linter.unusedSimpArgs false
set_option linter.unusedSectionVars false

abbrev Pr := Int × Int
def prCs (p : Pr) : List Value := [.int .i64 p.1, .int .i64 p.2]
theorem prCs_len (p : Pr) : (prCs p).length = 2 := rfl
/-- What order says of two pairs. -/
def ordP (x y : Pr) : Int := if x.1 ≠ y.1 then x.1 - y.1 else x.2 - y.2
abbrev F20 := Fin 1048576 × Fin 1048576
def toP (x : F20) : Pr := (((x.1.val : Nat) : Int), ((x.2.val : Nat) : Int))
def ofP (p : Pr) : F20 := (⟨p.1.toNat % 1048576, Nat.mod_lt _ (by decide)⟩, ⟨p.2.toNat % 1048576, Nat.mod_lt _ (by decide)⟩)
def POk (p : Pr) : Prop := (0 ≤ p.1 ∧ p.1 < 1048576) ∧ 0 ≤ p.2 ∧ p.2 < 1048576
theorem to_of {p : Pr} (h : POk p) : toP (ofP p) = p := by
  unfold POk at h
  refine Prod.ext ?_ ?_ <;> simp only [toP, ofP] <;> omega
theorem toP_ok (x : F20) : POk (toP x) := by
  have h1 := x.1.isLt
  have h2 := x.2.isLt
  unfold POk toP; simp only; omega
theorem to_inj {x y : F20} (h : toP x = toP y) : x = y := by
  have h1 := congrArg Prod.fst h
  have h2 := congrArg Prod.snd h
  simp only [toP] at h1 h2
  exact Prod.ext (Fin.ext (by omega)) (Fin.ext (by omega))
def cfP (x y : F20) : Int := ordP (toP x) (toP y)
def ltX (x y : Pr) : Prop := x.1 < y.1 ∨ x.1 = y.1 ∧ x.2 < y.2
theorem ltF (x y : F20) : ltOf cfP x y = decide ((toP x).1 < (toP y).1 ∨ (toP x).1 = (toP y).1 ∧ (toP x).2 < (toP y).2) := by
  unfold ltOf
  apply decide_eq_decide.2
  unfold cfP ordP
  by_cases h1 : (toP x).1 = (toP y).1
  · rw [if_neg (by omega)]; omega
  · rw [if_pos h1]; omega
theorem swoF : SWO (ltOf cfP) where
  irrefl x := by rw [ltF, decide_eq_false]; omega
  trans x y z h1 h2 := by rw [ltF] at *; simp only [decide_eq_true_eq] at *; omega
  ntrans x y z h1 h2 := by rw [ltF] at *; simp only [decide_eq_false_iff_not] at *; omega
theorem totF (x y : F20) (h1 : ltOf cfP x y = false) (h2 : ltOf cfP y x = false) : x = y := by
  rw [ltF] at *; simp only [decide_eq_false_iff_not] at *
  exact to_inj (Prod.ext (by omega) (by omega))
theorem sorted_fin (l : List Pr) (hl : ∀ p ∈ l, POk p) : ∃ l2 : List Pr, l2 = (((l.map ofP).mergeSort fun x y => !(ltOf cfP) y x).map toP) ∧ l2.Perm l ∧ l2.Pairwise (fun x y => x = y ∨ ltX x y) := by
  refine ⟨_, rfl, ?_, ?_⟩
  · have h1 := (List.mergeSort_perm (l.map ofP) fun x y => !(ltOf cfP) y x).map toP
    have h2 : (l.map ofP).map toP = l := by
      rw [List.map_map]
      conv => rhs; rw [← List.map_id l]
      exact List.map_congr_left fun p hp => to_of (hl p hp)
    rw [h2] at h1; exact h1
  · rw [List.pairwise_map]
    refine (List.pairwise_mergeSort (fun a b c h1 h2 => ?_) (fun a b => ?_) (l.map ofP)).imp fun {a b} h => ?_
    · simp only [ltF] at *; simp only [Bool.not_eq_true', decide_eq_false_iff_not] at *; omega
    · simp only [ltF]; simp only [Bool.or_eq_true, Bool.not_eq_true', decide_eq_false_iff_not]; omega
    · simp only [ltF, Bool.not_eq_true', decide_eq_false_iff_not] at h
      unfold ltX
      by_cases e : toP a = toP b
      · exact .inl e
      · refine .inr ?_
        by_cases h1 : (toP a).1 = (toP b).1
        · by_cases h2 : (toP a).2 = (toP b).2
          · exact absurd (Prod.ext h1 h2) e
          · omega
        · omega
def allP (n : Nat) : List (Int × Int) := (List.range n).flatMap fun a : Nat => (List.range n).map fun b : Nat => ((Int.ofNat a, Int.ofNat b) : Int × Int)
theorem mem_allP {n : Nat} {k : Int × Int} : k ∈ allP n ↔ (0 ≤ k.1 ∧ k.1 < n) ∧ 0 ≤ k.2 ∧ k.2 < n := by
  unfold allP
  simp only [List.mem_flatMap, List.mem_range, List.mem_map]
  constructor
  · rintro ⟨a, ha, b, hb, rfl⟩; simp; omega
  · rintro ⟨⟨h1, h2⟩, h3, h4⟩
    exact ⟨k.1.toNat, by omega, k.2.toNat, by omega, Prod.ext (by simp; omega) (by simp; omega)⟩
theorem allP_len (n : Nat) : (allP n).length = n * n := by
  unfold allP
  rw [List.length_flatMap]
  simp [List.map_const']
theorem allP_sorted (n : Nat) : (allP n).Pairwise (fun x y => x.1 < y.1 ∨ x.1 = y.1 ∧ x.2 < y.2) := by
  unfold allP
  rw [List.pairwise_flatMap]
  refine ⟨fun a _ => ?_, ?_⟩
  · rw [List.pairwise_map]
    exact List.pairwise_lt_range.imp fun {x y} h => .inr ⟨rfl, by simpa using h⟩
  · refine List.pairwise_lt_range.imp fun {x y} h => ?_
    intro p hp q hq
    simp only [List.mem_map] at hp hq
    obtain ⟨_, _, rfl⟩ := hp
    obtain ⟨_, _, rfl⟩ := hq
    exact .inl (by simpa using h)
theorem nodup_of_lt {l : List (Int × Int)} (h : l.Pairwise (fun x y => x.1 < y.1 ∨ x.1 = y.1 ∧ x.2 < y.2)) : l.Nodup :=
  h.imp fun {x y} h e => by subst e; omega


/-- The pair of an arc. -/
def prOf (a : Arc) : Pr := (min a.src a.dst, max a.src a.dst)
/-- All pairs of a graph, in order. -/
def prs (n : Nat) (l : List Arc) : List Pr := (allP n).filter fun p => l.any fun a => decide (a.src ≠ a.dst) && decide (prOf a = p)
def prRaw (l : List Arc) : List Pr := (l.filter fun a => decide (a.src ≠ a.dst)).map prOf
theorem prs_sorted (n : Nat) (l : List Arc) : (prs n l).Pairwise ltX := (allP_sorted n).filter _
theorem mem_prRaw {l : List Arc} {p : Pr} : p ∈ prRaw l ↔ ∃ a ∈ l, a.src ≠ a.dst ∧ prOf a = p := by
  unfold prRaw
  simp only [List.mem_map, List.mem_filter, decide_eq_true_eq]
  constructor
  · rintro ⟨a, ⟨h1, h2⟩, h3⟩; exact ⟨a, h1, h2, h3⟩
  · rintro ⟨a, h1, h2, h3⟩; exact ⟨a, ⟨h1, h2⟩, h3⟩
theorem mem_prs {n : Nat} {l : List Arc} (hg : ∀ a ∈ l, (0 ≤ a.src ∧ a.src < n) ∧ 0 ≤ a.dst ∧ a.dst < n) {p : Pr} : p ∈ prs n l ↔ p ∈ prRaw l := by
  unfold prs
  rw [List.mem_filter, mem_allP, mem_prRaw]
  simp only [List.any_eq_true, Bool.and_eq_true, decide_eq_true_eq]
  constructor
  · rintro ⟨_, h⟩; exact h
  · rintro ⟨a, h1, h2, rfl⟩
    have := hg a h1
    unfold prOf
    exact ⟨by simp only; omega, a, h1, h2, rfl⟩
theorem nodup_X {l : List Pr} (h : l.Pairwise ltX) : l.Nodup := h.imp fun {x y} h e => by subst e; unfold ltX at h; omega
theorem prs_is {n : Nat} {l : List Arc} (hg : ∀ a ∈ l, (0 ≤ a.src ∧ a.src < n) ∧ 0 ≤ a.dst ∧ a.dst < n) {l2 : List Pr} (hp : l2.Perm (prRaw l)) (hs : l2.Pairwise (fun x y => x = y ∨ ltX x y)) : cpt l2 = prs n l := by
  have h1 : (cpt l2).Pairwise ltX := cpt_rising (R := ltX) (fun a b c h1 h2 => by unfold ltX at *; omega) (fun a b h e => by subst e; unfold ltX at h; omega) hs
  refine List.Perm.eq_of_pairwise (le := ltX) (fun a b _ _ h1 h2 => by unfold ltX at *; exact absurd h1 (by omega)) h1 (prs_sorted n l) ?_
  refine (List.perm_ext_iff_of_nodup (nodup_X h1) (nodup_X (prs_sorted n l))).2 fun p => ?_
  rw [cpt_mem, mem_prs hg]
  exact hp.mem_iff
end Go.Proofs.YtkmkakpadgljeaaGreat

/- slices.SortFunc over elements of k cells, by the shelf's contract, in the words of the small logic. -/

namespace Go.Proofs.YtkmkakpadgljeaaGreat.Fly
open Go Go.RowKit Go.Sort
set_option linter.unusedVariables false
set_option linter.unusedSimpArgs false
set_option linter.unusedSectionVars false

theorem Hp.grown {w w' : World} {m : Seg} (h : Hp (Fr w []) w m w') : ∃ q os', w' = grow (w.drewN q) os' := by
  refine ⟨w'.drawn - w.drawn, w'.heap.extract w.heap.size w'.heap.size, ?_⟩
  have h1 := h.drawn
  have h2 := h.size
  have hh : w'.heap = w.heap ++ w'.heap.extract w.heap.size w'.heap.size := by
    apply Array.ext_getElem?
    intro i
    by_cases hi : i < w.heap.size
    · rw [Array.getElem?_append_left hi]
      exact h.same i ⟨hi, by simp⟩
    · rw [Array.getElem?_append_right (by omega), Array.getElem?_extract]
      by_cases hj : i < w'.heap.size
      · rw [if_pos (by omega)]; congr 1; omega
      · rw [if_neg (by omega), Array.getElem?_eq_none (by omega)]
  cases w' with
  | mk heap tape drawn os output =>
    have e1 := h.os; have e2 := h.tape; have e3 := h.output
    simp only at e1 e2 e3 h1 hh
    subst e1 e2 e3
    simp only [grow, World.drewN]
    rw [← hh]
    congr 1
    omega

section
variable {α : Type} [Inhabited α] (enc : α → List Value) (k : Nat) (hk : ∀ x, (enc x).length = k)
include hk

theorem flat_len (l : List α) : (l.flatMap enc).length = l.length * k := by
  induction l with
  | nil => simp
  | cons a l ih => simp [List.flatMap_cons, ih, hk, Nat.add_mul]; omega

theorem flatK_list (l : List α) : (flatK enc k l.toArray).toList = l.flatMap enc := by
  rcases Nat.eq_zero_or_pos k with k0 | k0
  · subst k0
    have h1 : (flatK enc 0 l.toArray).toList.length = 0 := by simp
    have h2 := flat_len enc 0 hk l
    have h3 : (l.flatMap enc).length = 0 := by omega
    rw [List.eq_nil_of_length_eq_zero h1, List.eq_nil_of_length_eq_zero h3]
  apply List.ext_getElem?
  intro j
  induction l generalizing j with
  | nil => simp [flatK]
  | cons a l ih =>
    by_cases hj : j < (l.length + 1) * k
    · have e : (flatK enc k (a :: l).toArray).toList[j]? = some ((enc (a :: l).toArray[j / k]!)[j % k]!) := by
        simp [flatK, hj]
      rw [e, List.flatMap_cons]
      by_cases h0 : j < k
      · rw [List.getElem?_append_left (by rw [hk]; exact h0), Nat.div_eq_of_lt h0, Nat.mod_eq_of_lt h0]
        simp [List.getElem?_eq_getElem (show j < (enc a).length by rw [hk]; exact h0), getElem!_pos, hk, h0]
      · have hk0 : k ≤ j := by omega
        rw [List.getElem?_append_right (by rw [hk]; exact hk0), hk, ← ih (j - k)]
        have hj' : j - k < l.length * k := by rw [Nat.add_mul] at hj; omega
        have e' : (flatK enc k l.toArray).toList[j - k]? = some ((enc l.toArray[(j - k) / k]!)[(j - k) % k]!) := by
          simp [flatK, hj']
        rw [e']
        have hd : j / k = (j - k) / k + 1 := by
          rw [← Nat.div_eq_sub_div k0 hk0]
        have hm : j % k = (j - k) % k := Nat.mod_eq_sub_mod hk0
        rw [hd, hm]
        simp
    · rw [List.getElem?_eq_none (by simp; omega), List.getElem?_eq_none (by rw [flat_len enc k hk]; simp; omega)]
end

theorem putCells_id (F : Array Value) (cs sp : List Value) (h : cs.length = F.size) : (putCells id 0 F (cs ++ sp).toArray).toList = F.toList ++ sp := by
  apply List.ext_getElem?
  intro j
  rw [Array.getElem?_toList]
  simp only [putCells, Array.getElem?_mapIdx, List.getElem?_toArray]
  by_cases hj : j < F.size
  · rw [List.getElem?_append_left (by omega), List.getElem?_append_left (by simpa using hj)]
    simp [hj, h]
  · rw [List.getElem?_append_right (by omega), List.getElem?_append_right (by simp; omega)]
    simp only [Array.length_toList, h]
    cases sp[j - F.size]? <;> simp [hj]

theorem meets_sortF {P : Program} {ρ : Go.Shelf.Ren} (L : SlLaysF0.n6 P ρ) {E : TypeId} (k : Nat) (aE : ∀ w, (isAgg (ρ.t 24)).run P w = .ok true w) (zE : ∀ w, (Go.sizeOf (ρ.t 24)).run P w = .ok k w)
    {α : Type} [Inhabited α] (enc : α → List Value) (hk : ∀ x, (enc x).length = k) (h1 : ∀ x, ∀ v ∈ enc x, v.oneCell' = true) (cf : α → α → Int) (hO : SWO (ltOf cf)) (hT : ∀ x y, (ltOf cf) x y = false → (ltOf cf) y x = false → x = y)
    (g : Nat) (eg : ∀ args w, (callFunc g args).run P w = .ok (.enter g args) w) (hcmp : ∀ x y W, Meets P g [.agg (enc x).toArray, .agg (enc y).toArray] W [] (fun v _ => v = .int .i64 (cf x y)))
    (A : Option Addr) (cap : Nat) (l : List α) (m : Seg) (w : World) (ho : Own E k (.slice A l.length cap) l.length (l.flatMap enc) m) (hl : l.length < 4611686018427387904) (hw : Owns w [m]) :
    Meets P (ρ.f 6) [.slice A l.length cap, .func (.func g) #[] #[]] w [m] (fun u own' => u = .tuple #[] ∧ ∃ m', own' = [m'] ∧ Own E k (.slice A l.length cap) l.length ((l.mergeSort fun x y => !(ltOf cf) y x).flatMap enc) m') := by
  have ho' := ho
  obtain ⟨h0, h | ⟨b, c, sp, e, rfl, h1', h2, h3⟩⟩ := ho'
  · obtain ⟨e, hl0, rfl⟩ := h
    obtain rfl : l = [] := List.eq_nil_of_length_eq_zero hl0
    refine Calls.mono (AnyF.slices_SortFunc_none L A cap _ w) ?_
    rintro _ _ ⟨rfl, rfl⟩
    exact ⟨_, [[]], rfl, Hp.start hw, rfl, [], rfl, by simpa using ho⟩
  · cases e
    have hb : w.heap[b]? = some (blk (l.flatMap enc ++ sp) E) := hw.there b _ (by simp)
    have hlt : b < w.heap.size := by
      rcases Nat.lt_or_ge b w.heap.size with h' | h'
      · exact h'
      · rw [Array.getElem?_eq_none h'] at hb; cases hb
    have hfl := flatK_list enc k hk l
    have hlen := flat_len enc k hk l
    have hH : HoldsK enc k w b 0 l.toArray := by
      intro j hj
      have hj' : j < (l.flatMap enc).length := by rw [hlen]; simpa using hj
      refine ⟨?_, by simp [World.frozen?, hb]⟩
      have hg : (flatK enc k l.toArray)[j]? = (l.flatMap enc)[j]? := by rw [← hfl]; simp
      have : (l.flatMap enc ++ sp)[j]? = some (flatK enc k l.toArray)[j]! := by
        rw [List.getElem?_append_left hj', ← hg]
        simp at hj
        simp [hj]
      simp [World.cell?, hb, this]
    have hc : CmpLays P g #[] enc k cf b 0 l.toArray.size w := by
      intro m os dk _ x y
      refine Calls.mono (hcmp x y _) ?_
      rintro _ w' ⟨v, own', rfl, hp, rfl⟩
      exact ⟨rfl, hp.grown⟩
    have hcall := AnyQ.slices_SortFunc_total L k aE zE enc hk h1 cf hO g #[] b 0 cap l.toArray w eg hc hH hlt (by simpa using hl) hT
    simp only [List.size_toArray] at hcall
    refine Calls.mono hcall ?_
    rintro _ _ ⟨rfl, n, os, rfl⟩
    have hl2 : (l.mergeSort fun x y => !(ltOf cf) y x).length = l.length := List.length_mergeSort l
    generalize (l.mergeSort fun x y => !(ltOf cf) y x) = L2 at hl2 ⊢
    have hlen2 := flat_len enc k hk L2
    have hnew : (sortWorldK enc k w b 0 n L2.toArray os).heap[b]? = some (blk (L2.flatMap enc ++ sp) E) := by
      unfold sortWorldK putRowK
      rw [heap_grow_old _ _ (by simpa using hlt)]
      have : (putCells id 0 (flatK enc k L2.toArray) (l.flatMap enc ++ sp).toArray) = (L2.flatMap enc ++ sp).toArray := by
        rw [← Array.toList_inj, putCells_id _ _ _ (by rw [hlen]; simp [hl2]), flatK_list enc k hk]
      simp [putRow, mapBlock, Sort.ahead, Array.getElem?_modify, hb, onCells, this]
    have hoth : ∀ j, j < w.heap.size → j ≠ b → (sortWorldK enc k w b 0 n L2.toArray os).heap[j]? = w.heap[j]? := fun j hj hne => by
      unfold sortWorldK putRowK
      rw [heap_grow_old _ _ (by simpa using hj)]
      have : b ≠ j := fun e => hne e.symm
      simp [putRow, mapBlock, Sort.ahead, Array.getElem?_modify, this]
    refine ⟨.tuple #[], [[(b, blk (L2.flatMap enc ++ sp) E)]], rfl, ?_, rfl, _, rfl, ⟨by rw [hlen2, hl2], .inr ⟨b, cap, sp, rfl, rfl, h1', h2, h3⟩⟩⟩
    refine ⟨rfl, rfl, rfl, by simp [sortWorldK, putRowK, grow], by simp [sortWorldK, putRowK, grow, putRow, mapBlock, Sort.ahead], fun j hj => hj.1, fun j hj => hoth j hj.1 fun e => hj.2 (by subst e; simp), fun j o hm => ?_, fun j o hm hj => hj.2 (by simp at hm; obtain ⟨rfl, _⟩ := hm; simp), by simp⟩
    simp only [List.flatten_cons, List.flatten_nil, List.append_nil, List.mem_singleton, Prod.mk.injEq] at hm
    obtain ⟨rfl, rfl⟩ := hm
    exact hnew
end Go.Proofs.YtkmkakpadgljeaaGreat.Fly

/- What the shelf's contracts ask of this program: tables of numbers, and each fact by the kernel. -/
namespace Go.Proofs
open Go.Shelf
def Tryz.laysPr_ren : Go.Shelf.Ren := ⟨fun | 6 => 88 | 15 => 40 | 14 => 92 | 28 => 58 | 29 => 59 | 20 => 93 | 21 => 94 | 22 => 95 | 23 => 96 | 24 => 97 | 25 => 98 | 26 => 99 | 27 => 100 | 46 => 101 | 47 => 67 | 48 => 68 | 49 => 102 | 50 => 103 | 57 => 104 | n => n, fun | 22 => 106 | 24 => 109 | 25 => 111 | 3 => 3 | 39 => 63 | 0 => 0 | 53 => 46 | 55 => 86 | 4 => 4 | 46 => 79 | 45 => 78 | 50 => 54 | 5 => 5 | 9 => 9 | 66 => 91 | 70 => 95 | 76 => 100 | 77 => 101 | n => n, fun | n => n⟩
theorem Tryz.laysPr : Go.Proofs.SlLaysF0.n6 Tryz.prog Tryz.laysPr_ren := {
  mixed := by kernel_rfl
  f6 := ⟨Tryz.f88.name, by decide, Tryz.func88.trans (congrArg some (by kernel_rfl))⟩
  f14 := ⟨Tryz.f92.name, by decide, Tryz.func92.trans (congrArg some (by kernel_rfl))⟩
  f15 := Tryz.func40.trans (congrArg some (by kernel_rfl))
  f20 := ⟨Tryz.f93.name, by decide, Tryz.func93.trans (congrArg some (by kernel_rfl))⟩
  f21 := ⟨Tryz.f94.name, by decide, Tryz.func94.trans (congrArg some (by kernel_rfl))⟩
  f22 := ⟨Tryz.f95.name, by decide, Tryz.func95.trans (congrArg some (by kernel_rfl))⟩
  f23 := ⟨Tryz.f96.name, by decide, Tryz.func96.trans (congrArg some (by kernel_rfl))⟩
  f24 := ⟨Tryz.f97.name, by decide, Tryz.func97.trans (congrArg some (by kernel_rfl))⟩
  f25 := ⟨Tryz.f98.name, by decide, Tryz.func98.trans (congrArg some (by kernel_rfl))⟩
  f26 := ⟨Tryz.f99.name, by decide, Tryz.func99.trans (congrArg some (by kernel_rfl))⟩
  f27 := ⟨Tryz.f100.name, by decide, Tryz.func100.trans (congrArg some (by kernel_rfl))⟩
  f28 := Tryz.func58.trans (congrArg some (by kernel_rfl))
  f29 := Tryz.func59.trans (congrArg some (by kernel_rfl))
  f46 := ⟨Tryz.f101.name, by decide, Tryz.func101.trans (congrArg some (by kernel_rfl))⟩
  f47 := Tryz.func67.trans (congrArg some (by kernel_rfl))
  f48 := Tryz.func68.trans (congrArg some (by kernel_rfl))
  f49 := ⟨Tryz.f102.name, by decide, Tryz.func102.trans (congrArg some (by kernel_rfl))⟩
  f50 := ⟨Tryz.f103.name, by decide, Tryz.func103.trans (congrArg some (by kernel_rfl))⟩
  f57 := ⟨Tryz.f104.name, by decide, Tryz.func104.trans (congrArg some (by kernel_rfl))⟩
  t0 := Tryz.underlying0
  a0 := Tryz.isAgg0
  z0 := Tryz.sizeOf0
  v0 := Tryz.zeroValue0
  t3 := Tryz.underlying3
  a3 := Tryz.isAgg3
  z3 := Tryz.sizeOf3
  v3 := Tryz.zeroValue3
  t4 := Tryz.underlying4
  a4 := Tryz.isAgg4
  z4 := Tryz.sizeOf4
  v4 := Tryz.zeroValue4
  t5 := Tryz.underlying5
  a5 := Tryz.isAgg5
  z5 := Tryz.sizeOf5
  v5 := Tryz.zeroValue5
  t9 := Tryz.underlying9
  a9 := Tryz.isAgg9
  z9 := Tryz.sizeOf9
  v9 := Tryz.zeroValue9
  t22 := Tryz.underlying106
  a22 := Tryz.isAgg106
  z22 := Tryz.sizeOf106
  v22 := Tryz.zeroValue106
  t25 := Tryz.underlying111
  a25 := Tryz.isAgg111
  z25 := Tryz.sizeOf111
  v25 := Tryz.zeroValue111
  t39 := Tryz.underlying63
  a39 := Tryz.isAgg63
  z39 := Tryz.sizeOf63
  v39 := Tryz.zeroValue63
  t45 := Tryz.underlying78
  a45 := Tryz.isAgg78
  z45 := Tryz.sizeOf78
  v45 := Tryz.zeroValue78
  t46 := Tryz.underlying79
  a46 := Tryz.isAgg79
  z46 := Tryz.sizeOf79
  v46 := Tryz.zeroValue79
  t50 := Tryz.underlying54
  a50 := Tryz.isAgg54
  z50 := Tryz.sizeOf54
  v50 := Tryz.zeroValue54
  t53 := Tryz.underlying46
  a53 := Tryz.isAgg46
  z53 := Tryz.sizeOf46
  v53 := Tryz.zeroValue46
  t55 := Tryz.underlying86
  a55 := Tryz.isAgg86
  z55 := Tryz.sizeOf86
  v55 := Tryz.zeroValue86
  t66 := Tryz.underlying91
  a66 := Tryz.isAgg91
  z66 := Tryz.sizeOf91
  v66 := Tryz.zeroValue91
  t70 := Tryz.underlying95
  a70 := Tryz.isAgg95
  z70 := Tryz.sizeOf95
  v70 := Tryz.zeroValue95
  t76 := Tryz.underlying100
  a76 := Tryz.isAgg100
  z76 := Tryz.sizeOf100
  v76 := Tryz.zeroValue100
  t77 := Tryz.underlying101
  a77 := Tryz.isAgg101
  z77 := Tryz.sizeOf101
  v77 := Tryz.zeroValue101 }
end Go.Proofs
