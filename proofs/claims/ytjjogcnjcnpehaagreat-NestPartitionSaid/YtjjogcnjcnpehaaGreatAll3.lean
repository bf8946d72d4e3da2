import Derived.Test.YtjjogcnjcnpehaaGreatAll2
import Derived.Test.YtjjogcnjcnpehaaGreatFlyD
import Derived.Test.YtjjogcnjcnpehaaGreatFlyT
import Derived.Shelf.Lays
import Derived.Test.YtjjogcnjcnpehaaGreatProg
import Derived.Test.YtjjogcnjcnpehaaGreatFlyMem
import Derived.Shelf.Sort.Plain
import Derived.Shelf.Slices.In.SortNone

/- Package flow: Check, Max, Cut. -/
namespace Go.Proofs.YtjjogcnjcnpehaaGreat
open Go Go.RowKit Fly
set_option linter.unusedVariables false
set_option linter.unusedSimpArgs false
def gQ (N : Int) (l : List Arc) : Int × Int :=
  if N < 1 ∨ 1024 < N then (0, 1) else if 16384 < l.length then (0, 2) else
  match l.findIdx? (eB N) with
  | some i => (i, 60)
  | none => (0, 0)
theorem ncheck_range {N : Int} {l : List Arc} (h : N < 1 ∨ 1024 < N) : gQ N l = (0, 1) := by simp [gQ, h]
theorem ncheck_long {N : Int} {l : List Arc} (h : 1 ≤ N ∧ N ≤ 1024) (hl : 16384 < l.length) : gQ N l = (0, 2) := by
  have : ¬ (N < 1 ∨ 1024 < N) := by omega
  simp [gQ, this, hl]
theorem ncheck_ok {N : Int} {l : List Arc} (h : 1 ≤ N ∧ N ≤ 1024) (hl : l.length ≤ 16384) (hall : ∀ j (h : j < l.length), eB N l[j] = false) : gQ N l = (0, 0) := by
  have h1 : ¬ (N < 1 ∨ 1024 < N) := by omega
  have h2 : ¬ 16384 < l.length := by omega
  have h3 : l.findIdx? (eB N) = none := by
    rw [List.findIdx?_eq_none_iff];intro x hx;obtain ⟨j, hj, rfl⟩ := List.mem_iff_getElem.1 hx
    exact hall j hj
  simp [gQ, h1, h2, h3]
theorem ncheck_bad {N : Int} {l : List Arc} {k : Nat} (h : 1 ≤ N ∧ N ≤ 1024) (hl : l.length ≤ 16384) (hk : k < l.length) (hall : ∀ j (h : j < l.length), j < k → eB N l[j] = false) (hb : eB N l[k] = true) :
    gQ N l = ((k : Int), 60) := by
  have h1 : ¬ (N < 1 ∨ 1024 < N) := by omega
  have h2 : ¬ 16384 < l.length := by omega
  have h3 : l.findIdx? (eB N) = some k := by
    rw [List.findIdx?_eq_some_iff_getElem];exact ⟨hk, hb, fun j hj => by simp [hall j (by omega) hj]⟩
  simp [gQ, h1, h2, h3]
theorem ncheck_zero {N : Int} {l : List Arc} (h : (gQ N l).2 = 0) : 1 ≤ N ∧ N ≤ 1024 ∧ l.length ≤ 16384 ∧ ∀ k (hk : k < l.length), 0 ≤ l[k].src ∧ l[k].src < N ∧ 0 ≤ l[k].dst ∧ l[k].dst < N := by
  unfold gQ at h
  split at h
  · simp at h
  · split at h
    · simp at h
    · cases hf : l.findIdx? (eB N) with
      | some i => rw [hf] at h; simp at h
      | none =>
        rw [List.findIdx?_eq_none_iff] at hf;refine ⟨by omega, by omega, by omega, fun k hk => ?_⟩;have := hf _ (List.getElem_mem hk)
        unfold eB at this
        simp at this; omega
def e6 (N : Int) (l : List Arc) (s t : Int) : Int := if (gQ N l).2 ≠ 0 then (gQ N l).2 else if s < 0 ∨ N ≤ s ∨ t < 0 ∨ N ≤ t then 5 else if s = t then 4 else 0
theorem flooked_zero {N : Int} {l : List Arc} {s t : Int} (h : e6 N l s t = 0) : (gQ N l).2 = 0 ∧ 0 ≤ s ∧ s < N ∧ 0 ≤ t ∧ t < N ∧ s ≠ t := by
  unfold e6 at h
  split at h
  · rename_i h1; exact absurd h h1
  · split at h
    · simp at h
    · split at h
      · simp at h
      · rename_i h1 h2 h3; exact ⟨by simpa using h1, by omega, by omega, by omega, by omega, h3⟩
theorem nok_of {n : Nat} {l : List Arc} (h : (gQ (n : Int) l).2 = 0) (hok : ∀ x ∈ l, dQ x) : NOk n l := by
  obtain ⟨h1, h2, h3, h4⟩ := ncheck_zero h
  exact ⟨by omega, h3, h4, hok⟩
/-- The edges of a cut. -/
def cutP (sd : List Bool) (x : Arc) : Bool := sd.getD x.src.toNat false && !sd.getD x.dst.toNat false
theorem Side.congr {n : Nat} {e : List Arc} {s t : Nat} {f : List Int} {A B : Nat → Bool} (h : Side n e s t f A) (he : jJ n e) (hs : s < n) (ht : t < n) (hAB : ∀ v, v < n → A v = B v) : Side n e s t f B where
  src := by rw [← hAB s hs]; exact h.src
  dst := by rw [← hAB t ht]; exact h.dst
  shut := fun k hk hl hB => by rw [← hAB _ (kto_lt he hk)]; exact h.shut k hk hl (by rw [hAB _ (j4 he hk)]; exact hB)
  reach := fun v hv hB => h.reach v hv (by rw [hAB v hv]; exact hB)
theorem bools_rep (b : Bool) (n : Nat) : (List.replicate n [Value.bool b]).flatten = (List.replicate n b).map .bool := by
  induction n with
  | zero => rfl
  | succ n ih => simp only [List.replicate_succ, List.flatten_cons, List.map_cons, ih]; rfl
theorem bools_set (l : List Bool) (i : Nat) (b : Bool) : (l.map Value.bool).set i (.bool b) = (l.set i b).map .bool := by rw [List.map_set]
theorem bools_at {l : List Bool} {i : Nat} (h : i < l.length) : (l.map Value.bool)[i]? = some (.bool (l.getD i false)) := by simp [List.getD_eq_getElem?_getD, h]
/-- Truths in memory of just their size. -/
def OwnB (v : Value) (sd : List Bool) (m : Seg) : Prop := (sd = [] ∧ v = .slice none 0 0 ∧ m = []) ∨ ∃ b, v = .slice (some ⟨b, 0, none⟩) sd.length sd.length ∧ m = [(b, blk (sd.map .bool) 4)]
theorem OwnB.own {v : Value} {sd : List Bool} {m : Seg} (h : OwnB v sd m) (hm : sd.length ≤ 9223372036854775807) : Own 4 1 v sd.length (sd.map .bool) m := by
  rcases h with ⟨rfl, rfl, rfl⟩ | ⟨b, rfl, rfl⟩
  · exact Own.nil _ _
  · exact Own.mk (by simp) hm
def CutΦ2 (N : Int) (e : List Arc) (s t : Int) (u : Value) (own : List Seg) : Prop :=
  ∃ V v m sd A c m2 W, u = .tuple #[v, .slice A W.length W.length, .int .u64 V, .int .i64 (e6 N e s t)] ∧ own = [m, m2] ∧ OwnB v sd m ∧ Own 3 1 (.slice A W.length c) W.length (a6 W) m2 ∧
    (e6 N e s t ≠ 0 → V = 0 ∧ sd = [] ∧ W = []) ∧
    (e6 N e s t = 0 → sd.length = N.toNat ∧ W = j6 (cutP sd) e ∧ (∃ f, Flow N.toNat e s.toNat t.toNat f V ∧ Side N.toNat e s.toNat t.toNat f (fun v => sd.getD v false)) ∧ 0 ≤ V ∧ V ≤ 70368744161280)
set_option maxRecDepth 100000 in
set_option maxHeartbeats 4000000 in
theorem FCheck_spec (N : Int) (A : Option Addr) (l : List Arc) (cap : Nat) (w : World) (hr : Ro (Fr w []) w A (l.flatMap cE)) (hl : l.length ≤ 9223372036854775807) (hN : I64 N) (hok : ∀ x ∈ l, dQ x) :
    Meets Tryz.prog 116 [.agg #[.int .i64 N, .slice A l.length cap]] w [] (fun v m => v = .tuple #[.int .i64 (gQ N l).1, .int .i64 (gQ N l).2] ∧ m = []) := by
 refine bJ Tryz.func116 rfl Tryz.ntmps116 rfl Owns.nil ?_;refine aK fun K1 kh1 => ?_;refine aB ?_;refine aR rfl rfl rfl (cZ rfl rfl fun b1 => ?_);refine aA rfl rfl rfl (aF rfl) ?_;refine aA rfl rfl rfl (aF rfl) ?_;refine aJ ?_;refine aL (kh1 _ _ ?_);clear kh1;refine aK fun K2 kh2 => ?_;refine aK fun K3 kh3 => ?_;refine aB ?_;refine aA rfl rfl rfl (aQ i8 rfl) ?_;refine aA rfl rfl rfl (aM Tryz.isAgg3 rfl (rdA rfl)) ?_;refine aA rfl rfl rfl (cD rfl rfl) ?_;refine aA rfl rfl rfl (aG rfl) ?_;refine cX 9 rfl (fun g9 => ?_) (fun g9 => ?_)
 · refine aS rfl rfl rfl rfl rfl rfl ?_;refine aS rfl rfl rfl rfl rfl rfl ?_;refine aS rfl rfl rfl rfl rfl rfl ?_;refine aA rfl rfl rfl (cF rfl rfl) ?_;refine aJ ?_;refine aL (kh3 _ _ ?_);clear kh3;refine eF rfl ?_;refine aK fun K4 kh4 => ?_;refine aB ?_;refine aA rfl rfl rfl (aF rfl) ?_;refine aA rfl rfl rfl (aF rfl) ?_;refine aJ ?_;refine aL (kh4 _ _ ?_);clear kh4;refine a7 ?_;refine bT ?_;exact bW [] Tryz.results116 rfl rfl aI ⟨by rw [ncheck_range (by omega)], rfl⟩
 ·
  refine aO rfl rfl rfl rfl rfl (aQ i8 rfl) ?_;refine aO rfl rfl rfl rfl rfl (aM Tryz.isAgg3 rfl (rdA rfl)) ?_;refine aO rfl rfl rfl rfl rfl (eQ rfl rfl) ?_;refine aA rfl rfl rfl (cO rfl rfl) ?_;refine aJ ?_;refine aL (kh3 _ _ ?_);clear kh3;refine aZ rfl (fun c13 => ?_) (fun c13 => ?_)
  · refine aK fun K5 kh5 => ?_;refine aB ?_;refine aA rfl rfl rfl (aF rfl) ?_;refine aA rfl rfl rfl (aF rfl) ?_;refine aJ ?_;refine aL (kh5 _ _ ?_);clear kh5;refine a7 ?_;refine bT ?_;exact bW [] Tryz.results116 rfl rfl aI ⟨by rw [ncheck_range (by omega)], rfl⟩
  ·
   have hN1 : 1 ≤ N ∧ N ≤ 1024 := by omega
   refine aW ?_;refine aL (kh2 _ _ ?_);clear kh2;refine aK fun K6 kh6 => ?_;refine aK fun K7 kh7 => ?_;refine aB ?_;refine aA rfl rfl rfl (aQ fa133_1 rfl) ?_;refine aA rfl rfl rfl (aM Tryz.isAgg131 rfl (rdA rfl)) ?_;refine aA rfl rfl rfl (bS sl131 rfl) ?_;refine aA rfl rfl rfl (eQ rfl rfl) ?_;refine aJ ?_;refine aL (kh7 _ _ ?_);clear kh7;refine aZ rfl (fun c17 => ?_) (fun c17 => ?_)
   · refine aK fun K8 kh8 => ?_;refine aB ?_;refine aA rfl rfl rfl (aF rfl) ?_;refine aA rfl rfl rfl (aF rfl) ?_;refine aJ ?_;refine aL (kh8 _ _ ?_);clear kh8;refine a7 ?_;refine bT ?_;exact bW [] Tryz.results116 rfl rfl aI ⟨by rw [ncheck_long hN1 (by omega)], rfl⟩
   ·
    refine aW ?_;refine aL (kh6 _ _ ?_);clear kh6;refine aK fun K9 kh9 => ?_;refine aK fun K10 kh10 => ?_;refine aB ?_;refine aA rfl rfl rfl (aQ fa133_1 rfl) ?_;refine aA rfl rfl rfl (aM Tryz.isAgg131 rfl (rdA rfl)) ?_;refine aA rfl rfl rfl (bS sl131 rfl) ?_;refine aA rfl rfl rfl (aG rfl) ?_;refine aJ ?_;refine aL (kh10 _ _ ?_);clear kh10;refine aY ?_;refine cS (α := Nat) [1, 19, 20] (fun k => [(21, .int .i64 (k : Int))]) (fun k => [[(b1, blk [.int .i64 N, .slice A l.length cap] 133)]]) (fun k => k ≤ l.length ∧ ∀ j (h : j < l.length), j < k → eB N l[j] = false) (fun k => l.length - k) (0) ?_ ?_ ?_ ?_
    · exact (by repeat constructor)
    · repeat first|exact aI|refine aD ?_|refine aC rfl ?_|refine aH ?_
    · exact ⟨by omega, fun j h hj => by omega⟩
    ·
     rintro k ⟨hkl, hall⟩;refine aK fun K11 kh11 => ?_;refine aB ?_;refine aA rfl rfl rfl (cD rfl rfl) ?_;refine aJ ?_;refine aL (kh11 _ _ ?_);clear kh11;refine aK fun K12 kh12 => ?_;refine aZ rfl (fun c22 => ?_) (fun c22 => ?_)
     ·
      refine aW ?_;refine aL (kh12 _ _ ?_);clear kh12;refine aK fun K13 kh13 => ?_;refine aY ?_;refine aK fun K14 kh14 => ?_;refine aB ?_;refine aA rfl rfl rfl (aG rfl) ?_;have hk : k < l.length := by omega
      obtain ⟨b, off, rfl, hS, hc⟩ := hr (f9 cE dO (by omega) hk)
      refine aA rfl rfl rfl (bA sl131 rfl rfl (off + k * 3) ⟨by omega, by omega, by first | omega | (simp; done) | (simp; omega)⟩) ?_;refine aA rfl rfl rfl (a8 (vs := cE l[k]) Tryz.isAgg135 Tryz.sizeOf135 rfl rfl (gN dO hS hc hk)) ?_;refine aR rfl rfl rfl (cU Tryz.zeroValue135 rfl fun b5 => ?_);refine aA rfl rfl rfl (aF rfl) ?_;refine bF rfl rfl (cA Tryz.sizeOf135 rfl rfl rfl rfl (by first | exact Nat.le_of_ble_eq_true rfl | (simp; done) | (simp; omega)) (cE l[k]) rfl ?_);refine aJ ?_;refine aL (kh14 _ _ ?_);clear kh14;refine aK fun K15 kh15 => ?_;refine aB ?_;refine aA rfl rfl rfl (aQ fa135_0 rfl) ?_;refine aA rfl rfl rfl (aM Tryz.isAgg3 rfl (rdA rfl)) ?_;refine aA rfl rfl rfl (g5 Tryz.runUnderlying3 Tryz.runUnderlying83 rfl _ rfl) ?_;refine aA rfl rfl rfl (aQ i8 rfl) ?_;refine aA rfl rfl rfl (aM Tryz.isAgg3 rfl (rdA rfl)) ?_;refine aA rfl rfl rfl (g5 Tryz.runUnderlying3 Tryz.runUnderlying83 rfl _ rfl) ?_;refine aA rfl rfl rfl (h7 rfl rfl) ?_;refine aA rfl rfl rfl (aG rfl) ?_;refine cX 33 rfl (fun g33 => ?_) (fun g33 => ?_)
      · refine aS rfl rfl rfl rfl rfl rfl ?_;refine aS rfl rfl rfl rfl rfl rfl ?_;refine aS rfl rfl rfl rfl rfl rfl ?_;refine aS rfl rfl rfl rfl rfl rfl ?_;refine aS rfl rfl rfl rfl rfl rfl ?_;refine aS rfl rfl rfl rfl rfl rfl ?_;refine aS rfl rfl rfl rfl rfl rfl ?_;refine aA rfl rfl rfl (cF rfl rfl) ?_;refine aJ ?_;refine aL (kh15 _ _ ?_);clear kh15;refine eF rfl ?_;refine aK fun K16 kh16 => ?_;refine aB ?_;refine aA rfl rfl rfl (aG rfl) ?_;refine aA rfl rfl rfl (aF rfl) ?_;refine aA rfl rfl rfl (aF rfl) ?_;refine aJ ?_;refine aL (kh16 _ _ ?_);clear kh16;refine a7 ?_;refine eC ?_;refine bT ?_;refine bT ?_;refine eC ?_;refine bT ?_;exact bW [] Tryz.results116 rfl rfl aI ⟨by rw [ncheck_bad hN1 (by omega) hk hall (arcBadL hN1 (hok _ (List.getElem_mem hk)) g33)], rfl⟩
      ·
       refine aO rfl rfl rfl rfl rfl (aQ fa135_1 rfl) ?_;refine aO rfl rfl rfl rfl rfl (aM Tryz.isAgg3 rfl (rdA rfl)) ?_;refine aO rfl rfl rfl rfl rfl (g5 Tryz.runUnderlying3 Tryz.runUnderlying83 rfl _ rfl) ?_;refine aO rfl rfl rfl rfl rfl (aQ i8 rfl) ?_;refine aO rfl rfl rfl rfl rfl (aM Tryz.isAgg3 rfl (rdA rfl)) ?_;refine aO rfl rfl rfl rfl rfl (g5 Tryz.runUnderlying3 Tryz.runUnderlying83 rfl _ rfl) ?_;refine aO rfl rfl rfl rfl rfl (h7 rfl rfl) ?_;refine aA rfl rfl rfl (cO rfl rfl) ?_;refine aJ ?_;refine aL (kh15 _ _ ?_);clear kh15;refine aZ rfl (fun c41 => ?_) (fun c41 => ?_)
       · refine aK fun K17 kh17 => ?_;refine aB ?_;refine aA rfl rfl rfl (aG rfl) ?_;refine aA rfl rfl rfl (aF rfl) ?_;refine aA rfl rfl rfl (aF rfl) ?_;refine aJ ?_;refine aL (kh17 _ _ ?_);clear kh17;refine a7 ?_;refine eC ?_;refine bT ?_;refine bT ?_;refine eC ?_;refine bT ?_;exact bW [] Tryz.results116 rfl rfl aI ⟨by rw [ncheck_bad hN1 (by omega) hk hall (arcBadR hN1 (hok _ (List.getElem_mem hk)) c41)], rfl⟩
       ·
        refine aW ?_;refine cV ?_;refine aL (kh13 _ _ ?_);clear kh13;refine aB ?_;refine aA rfl rfl rfl (bG rfl rfl _ (aT (by omega))) ?_;refine aA rfl rfl rfl (aG rfl) ?_;refine aJ ?_;refine aL (bB (k + 1) (by first | omega | (dsimp only; omega) | (simp; omega)) ⟨by omega, good_next hall (arcGood hN1 (hok _ (List.getElem_mem hk)) g33 c41)⟩ ?_ ?_ ?_)
        · exact (by repeat constructor)
        · exact (by repeat constructor)
        · repeat first|exact aI|refine aD ?_|refine aC rfl ?_|refine aH ?_
     · refine cG ?_;refine cK ?_;clear kh12;refine cK ?_;refine d5 ?_;refine aL (kh9 _ _ ?_);clear kh9;refine aK fun K18 kh18 => ?_;refine aB ?_;refine aA rfl rfl rfl (aF rfl) ?_;refine aA rfl rfl rfl (aF rfl) ?_;refine aJ ?_;refine aL (kh18 _ _ ?_);clear kh18;refine a7 ?_;exact bW [] Tryz.results116 rfl rfl aI ⟨by rw [ncheck_ok hN1 (by omega) (fun j h => hall j h (by omega))], rfl⟩
set_option maxRecDepth 100000 in
set_option maxHeartbeats 4000000 in
theorem FLooked_spec (N : Int) (A : Option Addr) (l : List Arc) (cap : Nat) (s t : Int) (w : World) (hr : Ro (Fr w []) w A (l.flatMap cE)) (hl : l.length ≤ 9223372036854775807) (hN : I64 N) (hok : ∀ x ∈ l, dQ x) :
    Meets Tryz.prog 99 [.agg #[.int .i64 N, .slice A l.length cap], .int .i64 s, .int .i64 t] w [] (fun u m => u = .int .i64 (e6 N l s t) ∧ m = []) := by
 refine bJ Tryz.func99 rfl Tryz.ntmps99 rfl Owns.nil ?_;refine aK fun K1 kh1 => ?_;refine aB ?_;refine aR rfl rfl rfl (cZ rfl rfl fun b3 => ?_);refine aA rfl rfl rfl (aF rfl) ?_;refine aJ ?_;refine aL (kh1 _ _ ?_);clear kh1;refine aK fun K2 kh2 => ?_;refine aK fun K3 kh3 => ?_;refine aB ?_;refine aA rfl rfl rfl (a8 (vs := [_, _]) Tryz.isAgg133 Tryz.sizeOf133 rfl rfl ⟨(rdA rfl), (rdA rfl), trivial⟩) ?_;refine aR rfl rfl rfl (bD Tryz.call116 rfl (fun w_ hp_ => FCheck_spec N A l cap w_ (hr.up0 hp_) hl hN hok) ?_);rintro _ _ ⟨rfl, rfl⟩;dsimp only [List.cons_append, List.nil_append];refine aA rfl rfl rfl (aG rfl) ?_;refine aA rfl rfl rfl (aV rfl rfl) ?_;refine aA rfl rfl rfl (aV rfl rfl) ?_;refine aA rfl rfl rfl (aF rfl) ?_;refine aA rfl rfl rfl (aF rfl) ?_;refine aJ ?_;refine aL (kh3 _ _ ?_);clear kh3;refine aK fun K4 kh4 => ?_;refine aB ?_;refine aA rfl rfl rfl (aG rfl) ?_;refine aA rfl rfl rfl (c6 rfl rfl) ?_;refine aJ ?_;refine aL (kh4 _ _ ?_);clear kh4;refine aZ rfl (fun c15 => ?_) (fun c15 => ?_)
 ·
  refine aK fun K5 kh5 => ?_;refine aB ?_;refine aA rfl rfl rfl (aG rfl) ?_;refine aA rfl rfl rfl (aF rfl) ?_;refine aJ ?_;refine aL (kh5 _ _ ?_);clear kh5;refine a7 ?_;refine bT ?_;exact bP [] Tryz.results99 rfl aI ⟨by unfold e6; rw [if_pos (by simpa using c15)], rfl⟩
 ·
  refine aW ?_;refine aL (kh2 _ _ ?_);clear kh2;refine aK fun K6 kh6 => ?_;refine aY ?_;refine aK fun K7 kh7 => ?_;refine aB ?_;refine aA rfl rfl rfl (aG rfl) ?_;refine aA rfl rfl rfl (cD rfl rfl) ?_;refine aA rfl rfl rfl (aG rfl) ?_;refine cX 20 rfl (fun g20 => ?_) (fun g20 => ?_)
  ·
   refine aS rfl rfl rfl rfl rfl rfl ?_;refine aS rfl rfl rfl rfl rfl rfl ?_;refine aS rfl rfl rfl rfl rfl rfl ?_;refine aS rfl rfl rfl rfl rfl rfl ?_;refine aA rfl rfl rfl (cF rfl rfl) ?_;refine aA rfl rfl rfl (aG rfl) ?_;refine aS rfl rfl rfl rfl rfl rfl ?_;refine aS rfl rfl rfl rfl rfl rfl ?_;refine aA rfl rfl rfl (cF rfl rfl) ?_;refine aA rfl rfl rfl (aG rfl) ?_;refine aS rfl rfl rfl rfl rfl rfl ?_;refine aS rfl rfl rfl rfl rfl rfl ?_;refine aS rfl rfl rfl rfl rfl rfl ?_;refine aS rfl rfl rfl rfl rfl rfl ?_;refine aA rfl rfl rfl (cF rfl rfl) ?_;refine aA rfl rfl rfl (aF rfl) ?_;refine aJ ?_;refine aL (kh7 _ _ ?_);clear kh7;refine eF rfl ?_;refine aK fun K8 kh8 => ?_;refine aB ?_;refine aA rfl rfl rfl (aF rfl) ?_;refine aJ ?_;refine aL (kh8 _ _ ?_);clear kh8;refine a7 ?_;refine eC ?_;refine bT ?_;exact bP [] Tryz.results99 rfl aI ⟨by unfold e6; rw [if_neg (by simpa using c15), if_pos (by omega)], rfl⟩
  ·
   refine aO rfl rfl rfl rfl rfl (aG rfl) ?_;refine aO rfl rfl rfl rfl rfl (aQ i8 rfl) ?_;refine aO rfl rfl rfl rfl rfl (aM Tryz.isAgg3 rfl (rdA rfl)) ?_;refine aO rfl rfl rfl rfl rfl (h7 rfl rfl) ?_;refine aA rfl rfl rfl (cO rfl rfl) ?_;refine aA rfl rfl rfl (aG rfl) ?_;refine cX 26 rfl (fun g26 => ?_) (fun g26 => ?_)
   ·
    refine aS rfl rfl rfl rfl rfl rfl ?_;refine aS rfl rfl rfl rfl rfl rfl ?_;refine aA rfl rfl rfl (cF rfl rfl) ?_;refine aA rfl rfl rfl (aG rfl) ?_;refine aS rfl rfl rfl rfl rfl rfl ?_;refine aS rfl rfl rfl rfl rfl rfl ?_;refine aS rfl rfl rfl rfl rfl rfl ?_;refine aS rfl rfl rfl rfl rfl rfl ?_;refine aA rfl rfl rfl (cF rfl rfl) ?_;refine aA rfl rfl rfl (aF rfl) ?_;refine aJ ?_;refine aL (kh7 _ _ ?_);clear kh7;refine eF rfl ?_;refine aK fun K9 kh9 => ?_;refine aB ?_;refine aA rfl rfl rfl (aF rfl) ?_;refine aJ ?_;refine aL (kh9 _ _ ?_);clear kh9;refine a7 ?_;refine eC ?_;refine bT ?_;exact bP [] Tryz.results99 rfl aI ⟨by unfold e6; rw [if_neg (by simpa using c15), if_pos (by omega)], rfl⟩
   ·
    refine aO rfl rfl rfl rfl rfl (aG rfl) ?_;refine aO rfl rfl rfl rfl rfl (cD rfl rfl) ?_;refine aA rfl rfl rfl (cO rfl rfl) ?_;refine aA rfl rfl rfl (aG rfl) ?_;refine cX 30 rfl (fun g30 => ?_) (fun g30 => ?_)
    ·
     refine aS rfl rfl rfl rfl rfl rfl ?_;refine aS rfl rfl rfl rfl rfl rfl ?_;refine aS rfl rfl rfl rfl rfl rfl ?_;refine aS rfl rfl rfl rfl rfl rfl ?_;refine aA rfl rfl rfl (cF rfl rfl) ?_;refine aA rfl rfl rfl (aF rfl) ?_;refine aJ ?_;refine aL (kh7 _ _ ?_);clear kh7;refine eF rfl ?_;refine aK fun K10 kh10 => ?_;refine aB ?_;refine aA rfl rfl rfl (aF rfl) ?_;refine aJ ?_;refine aL (kh10 _ _ ?_);clear kh10;refine a7 ?_;refine eC ?_;refine bT ?_;exact bP [] Tryz.results99 rfl aI ⟨by unfold e6; rw [if_neg (by simpa using c15), if_pos (by omega)], rfl⟩
    ·
     refine aO rfl rfl rfl rfl rfl (aG rfl) ?_;refine aO rfl rfl rfl rfl rfl (aQ i8 rfl) ?_;refine aO rfl rfl rfl rfl rfl (aM Tryz.isAgg3 rfl (rdA rfl)) ?_;refine aO rfl rfl rfl rfl rfl (h7 rfl rfl) ?_;refine aA rfl rfl rfl (cO rfl rfl) ?_;refine aA rfl rfl rfl (aF rfl) ?_;refine aJ ?_;refine aL (kh7 _ _ ?_);clear kh7;refine aZ rfl (fun c17 => ?_) (fun c17 => ?_)
     ·
      refine aK fun K11 kh11 => ?_;refine aB ?_;refine aA rfl rfl rfl (aF rfl) ?_;refine aJ ?_;refine aL (kh11 _ _ ?_);clear kh11;refine a7 ?_;refine eC ?_;refine bT ?_;exact bP [] Tryz.results99 rfl aI ⟨by unfold e6; rw [if_neg (by simpa using c15), if_pos (by omega)], rfl⟩
     ·
      refine aK fun K12 kh12 => ?_;refine aB ?_;refine aA rfl rfl rfl (aG rfl) ?_;refine aA rfl rfl rfl (aG rfl) ?_;refine aA rfl rfl rfl (fM rfl rfl) ?_;refine aA rfl rfl rfl (aF rfl) ?_;refine aJ ?_;refine aL (kh12 _ _ ?_);clear kh12;refine aZ rfl (fun c36 => ?_) (fun c36 => ?_)
      ·
       refine aK fun K13 kh13 => ?_;refine aB ?_;refine aA rfl rfl rfl (aF rfl) ?_;refine aJ ?_;refine aL (kh13 _ _ ?_);clear kh13;refine a7 ?_;refine eC ?_;refine bT ?_;exact bP [] Tryz.results99 rfl aI ⟨by unfold e6; rw [if_neg (by simpa using c15), if_neg (by omega), if_pos (by omega)], rfl⟩
      ·
       refine aW ?_;refine cV ?_;refine aL (kh6 _ _ ?_);clear kh6;refine aK fun K14 kh14 => ?_;refine aB ?_;refine aA rfl rfl rfl (aF rfl) ?_;refine aJ ?_;refine aL (kh14 _ _ ?_);clear kh14;refine a7 ?_;exact bP [] Tryz.results99 rfl aI ⟨by unfold e6; rw [if_neg (by simpa using c15), if_neg (by omega), if_neg (by omega)], rfl⟩
set_option maxRecDepth 100000 in
set_option maxHeartbeats 4000000 in
theorem ClipF5_spec (A : Option Addr) (len cap : Nat) (w : World) (h : len ≤ cap) (hm : cap ≤ 9223372036854775807) (hA : A = none → len = 0) :
    Meets Tryz.prog 31 [.slice A len cap] w [] (fun u m => u = .slice A len len ∧ m = []) := by
 refine bJ Tryz.func31 rfl Tryz.ntmps31 rfl Owns.nil ?_;refine aK fun K1 kh1 => ?_;refine aB ?_;refine aA rfl rfl rfl (aF rfl) ?_;refine aJ ?_;refine aL (kh1 _ _ ?_);clear kh1;refine aK fun K2 kh2 => ?_;refine aB ?_;refine aA rfl rfl rfl (aG rfl) ?_;refine aA rfl rfl rfl (aG rfl) ?_;refine aA rfl rfl rfl (bS bK rfl) ?_;refine aA rfl rfl rfl (aG rfl) ?_;refine aA rfl rfl rfl (bS bK rfl) ?_;refine aA rfl rfl rfl (e5 bK rfl rfl rfl rfl (fun _ => rfl) 0 len len (.inl ⟨rfl, rfl⟩) (.inr ⟨_, _, rfl, by omega⟩) (.inr ⟨_, _, rfl, by omega⟩) ⟨by omega, by omega, by omega⟩ (.slice A len len) (by rw [Nat.sub_zero]; congr 1; split; rfl; cases A with | none => rfl | some x => obtain ⟨p, q, r⟩ := x; cases r <;> simp [Addr.add])) ?_;refine aA rfl rfl rfl (aF rfl) ?_;refine aJ ?_;refine aL (kh2 _ _ ?_);clear kh2;refine a7 ?_;exact bP [] Tryz.results31 rfl aI ⟨rfl, rfl⟩
set_option maxRecDepth 100000 in
set_option maxHeartbeats 4000000 in
theorem Cut_spec2 (N : Int) (A : Option Addr) (l : List Arc) (cap : Nat) (s t : Int) (w : World) (hr : Ro (Fr w []) w A (l.flatMap cE)) (hl : l.length ≤ 9223372036854775807) (hN : I64 N) (hok : ∀ x ∈ l, dQ x) :
    Meets Tryz.prog 82 [.agg #[.int .i64 N, .slice A l.length cap], .int .i64 s, .int .i64 t] w [] (CutΦ2 N l s t) := by
 refine bJ Tryz.func82 rfl Tryz.ntmps82 rfl Owns.nil ?_;refine aK fun K1 kh1 => ?_;refine aB ?_;refine aR rfl rfl rfl (cZ rfl rfl fun b3 => ?_);refine aA rfl rfl rfl (aF rfl) ?_;refine aA rfl rfl rfl (aF rfl) ?_;refine aA rfl rfl rfl (aF rfl) ?_;refine aA rfl rfl rfl (aF rfl) ?_;refine aJ ?_;refine aL (kh1 _ _ ?_);clear kh1;refine aK fun K2 kh2 => ?_;refine aK fun K3 kh3 => ?_;refine aB ?_;refine aA rfl rfl rfl (a8 (vs := [_, _]) Tryz.isAgg133 Tryz.sizeOf133 rfl rfl ⟨(rdA rfl), (rdA rfl), trivial⟩) ?_;refine aA rfl rfl rfl (aG rfl) ?_;refine aA rfl rfl rfl (aG rfl) ?_;refine aR rfl rfl rfl (bD Tryz.call99 rfl (fun w_ hp_ => FLooked_spec N A l cap s t w_ (hr.up0 hp_) hl hN hok) ?_);rintro _ _ ⟨rfl, rfl⟩;dsimp only [List.cons_append, List.nil_append];refine aA rfl rfl rfl (aF rfl) ?_;refine aJ ?_;refine aL (kh3 _ _ ?_);clear kh3;refine aK fun K4 kh4 => ?_;refine aB ?_;refine aA rfl rfl rfl (aG rfl) ?_;refine aA rfl rfl rfl (c6 rfl rfl) ?_;refine aJ ?_;refine aL (kh4 _ _ ?_);clear kh4;refine aZ rfl (fun c21 => ?_) (fun c21 => ?_)
 · refine aK fun K5 kh5 => ?_;refine aB ?_;refine aA rfl rfl rfl (aG rfl) ?_;refine aA rfl rfl rfl (aF rfl) ?_;refine aA rfl rfl rfl (aF rfl) ?_;refine aA rfl rfl rfl (aF rfl) ?_;refine aA rfl rfl rfl (aF rfl) ?_;refine aJ ?_;refine aL (kh5 _ _ ?_);clear kh5;refine a7 ?_;refine bT ?_;exact f_fin4 [[], []] Tryz.results82 rfl rfl rfl rfl (Sub.transF Sub.empty Sub.addNil) ⟨0, .slice none 0 0, [], [], none, 0, [], [], rfl, rfl, .inl ⟨rfl, rfl, rfl⟩, Own.nil _ _, fun _ => ⟨rfl, rfl, rfl⟩, fun h => absurd h c21⟩
 ·
  have hz : e6 N l s t = 0 := by simpa using c21
  obtain ⟨hg0, hs0, hs1, ht0, ht1, hst0⟩ := flooked_zero hz
  have hN1 := ncheck_zero hg0
  obtain ⟨n, rfl⟩ : ∃ n : Nat, N = n := ⟨N.toNat, by omega⟩
  obtain ⟨a, rfl⟩ : ∃ k : Nat, s = k := ⟨s.toNat, by omega⟩
  obtain ⟨b, rfl⟩ : ∃ k : Nat, t = k := ⟨t.toNat, by omega⟩
  have hn := nok_of hg0 hok
  have hn1 := hn.n1
  have hel := hn.len
  have han : a < n := by omega
  have hbn : b < n := by omega
  have hab : a ≠ b := by omega
  refine aW ?_;refine aL (kh2 _ _ ?_);clear kh2;refine aK fun K6 kh6 => ?_;refine aB ?_;refine aA rfl rfl rfl (a8 (vs := [_, _]) Tryz.isAgg133 Tryz.sizeOf133 rfl rfl ⟨(rdA rfl), (rdA rfl), trivial⟩) ?_;refine aR rfl rfl rfl (bD Tryz.call100 rfl (fun w_ hp_ => fbegin_spec n A l cap w_ (hr.up0 hp_) hn) ?_);rintro _ _ ⟨bx, mD, rfl, rfl, hD0⟩;dsimp only [List.cons_append, List.nil_append];refine aA rfl rfl rfl (aF rfl) ?_;refine aJ ?_;refine aL (kh6 _ _ ?_);clear kh6;refine aK fun K7 kh7 => ?_;refine aB ?_;refine aA rfl rfl rfl (aG rfl) ?_;refine aA rfl rfl rfl (aG rfl) ?_;refine aA rfl rfl rfl (aG rfl) ?_;refine aR rfl rfl rfl (fH [mD] _ Tryz.call101 rfl (aD Sub.refl) (fun w_ hp_ => run_spec n l (List.replicate n 0) (List.replicate n 0) bx mD a b w_ hn (by simp) (by simp) hD0 han hbn hab hp_.owns) ?_);rintro _ _ ⟨V, f, L, nx, m', rfl, rfl, hD, hF, hLy, hLt, hV0, hV1⟩;have hfl := hF.fits.len
  have hLl := hLy.len
  dsimp only [List.cons_append, List.nil_append];refine aA rfl rfl rfl (aF rfl) ?_;refine aJ ?_;refine aL (kh7 _ _ ?_);clear kh7;refine aK fun K8 kh8 => ?_;refine aB ?_;refine aA rfl rfl rfl (aQ i8 rfl) ?_;refine aA rfl rfl rfl (aM Tryz.isAgg3 rfl (rdA rfl)) ?_;refine aR rfl rfl rfl (d3 el43 rfl rfl n rfl (by omega) (by omega) ((List.replicate n false).map .bool) (bools_rep false n) fun b31 => ?_);refine aA rfl rfl rfl (aF rfl) ?_;refine aJ ?_;refine aL (kh8 _ _ ?_);clear kh8;refine aK fun K9 kh9 => ?_;refine aK fun K10 kh10 => ?_;obtain ⟨bat, bl, bn, ve, vs, ms, me, hmp, hR, hE⟩ := hD
  obtain ⟨Ae, ce, rfl, _⟩ := hE.val
  refine gB (Sub.openAt hmp) ?_
  unfold jF
  dsimp only [List.cons_append, List.nil_append];refine aB ?_;refine aA rfl rfl rfl (aG rfl) ?_;refine aA rfl rfl rfl (d6 rfl) ?_;refine aA rfl rfl rfl (aQ i7 rfl) ?_;refine aA rfl rfl rfl (aM Tryz.isAgg25 rfl (rdA rfl)) ?_;refine aA rfl rfl rfl (bS bK rfl) ?_;refine aA rfl rfl rfl (aG rfl) ?_;refine aJ ?_;refine aL (kh10 _ _ ?_);clear kh10;refine aY ?_;refine cS (α := Nat × List Bool) [3, 6, 7, 8, 35, 36] (fun ⟨v, sd⟩ => [(37, .int .i64 (v : Int))]) (fun ⟨v, sd⟩ => [[(b31, blk (sd.map .bool) 4)], [(bl, blk (a6 L) 3)], [(b3, blk [.int .i64 (n : Int), .slice A l.length cap] 133)]]) (fun ⟨v, sd⟩ => v ≤ n ∧ sd.length = n ∧ ∀ u, u < v → sd.getD u false = decide (0 ≤ bU L u)) (fun ⟨v, sd⟩ => n - v) (0, List.replicate n false) ?_ ?_ ?_ ?_
  · exact (by repeat constructor)
  · repeat first|exact aI|refine aD ?_|refine aC rfl ?_|refine aH ?_
  · exact ⟨Nat.zero_le _, by simp, fun j h => by omega⟩
  ·
   rintro ⟨v, sd⟩ ⟨hvn, hsl, hsu⟩;refine aK fun K11 kh11 => ?_;refine aB ?_;refine aA rfl rfl rfl (cD rfl rfl) ?_;refine aJ ?_;refine aL (kh11 _ _ ?_);clear kh11;refine aK fun K12 kh12 => ?_;refine aZ rfl (fun c38 => ?_) (fun c38 => ?_)
   ·
    refine aW ?_;refine aL (kh12 _ _ ?_);clear kh12;refine aK fun K13 kh13 => ?_;refine aY ?_;refine aK fun K14 kh14 => ?_;refine aB ?_;refine aA rfl rfl rfl (aG rfl) ?_;have hv' : v < n := by omega
    refine aA rfl rfl rfl (bA bK rfl rfl (v) ⟨by omega, by omega, by first | omega | (simp; done) | (simp; omega)⟩) ?_;refine aA rfl rfl rfl (aM Tryz.isAgg3 rfl (rdA (iN (by omega)))) ?_;refine aA rfl rfl rfl (aF rfl) ?_;refine aA rfl rfl rfl (aF rfl) ?_;refine aJ ?_;refine aL (kh14 _ _ ?_);clear kh14;refine aB ?_;refine aA rfl rfl rfl (aG rfl) ?_;refine aA rfl rfl rfl (aG rfl) ?_;refine aA rfl rfl rfl (aG rfl) ?_;refine aA rfl rfl rfl (h7 rfl rfl) ?_;refine aA rfl rfl rfl (bA kW rfl rfl (v) ⟨by omega, by omega, by first | omega | (simp; done) | (simp; omega)⟩) ?_;refine bF rfl rfl (cB Tryz.sizeOf4 rfl rfl rfl rfl (by rw [List.length_map]; omega) ((sd.set v (decide (0 ≤ bU L v))).map .bool) (bools_set _ _ _) ?_);refine aJ ?_;refine cV ?_;refine aL (kh13 _ _ ?_);clear kh13;refine aB ?_;refine aA rfl rfl rfl (bG rfl rfl _ (aT (by omega))) ?_;refine aA rfl rfl rfl (aG rfl) ?_;refine aJ ?_
    refine aL (bB (v + 1, sd.set v (decide (0 ≤ bU L v))) (by first | omega | (dsimp only; omega) | (simp; omega)) ⟨by omega, by simpa using hsl, fun u hu => by
      rw [List.getD_eq_getElem?_getD, List.getElem?_set]
      by_cases e : v = u
      · subst e; rw [if_pos rfl, if_pos (by omega)]; rfl
      · rw [if_neg e, ← List.getD_eq_getElem?_getD]; exact hsu u (by omega)⟩ ?_ ?_ ?_)
    · exact (by repeat constructor)
    · exact (by repeat constructor)
    · repeat first|exact aI|refine aD ?_|refine aC rfl ?_|refine aH ?_
   ·
    refine cG ?_;refine cK ?_;clear kh12;refine cK ?_;refine d5 ?_;refine aL (kh9 _ _ ?_);clear kh9;refine aK fun K15 kh15 => ?_;refine aK fun K16 kh16 => ?_;refine aB ?_;refine aA rfl rfl rfl (aQ fa133_1 rfl) ?_;refine aA rfl rfl rfl (aM Tryz.isAgg131 rfl (rdA rfl)) ?_;refine aA rfl rfl rfl (bS sl131 rfl) ?_;refine aA rfl rfl rfl (aG rfl) ?_;refine aJ ?_;refine aL (kh16 _ _ ?_);clear kh16;refine aY ?_;refine cS (α := Nat × Value × Seg) [6, 8, 49, 50] (fun ⟨i, wv, wm⟩ => [(51, .int .i64 (i : Int)), (7, wv)]) (fun ⟨i, wv, wm⟩ => [[(b31, blk (sd.map .bool) 4)], [(b3, blk [.int .i64 (n : Int), .slice A l.length cap] 133)], wm]) (fun ⟨i, wv, wm⟩ => i ≤ l.length ∧ Own 3 1 wv (j6 (cutP sd) (l.take i)).length (a6 (j6 (cutP sd) (l.take i))) wm ∧ (j6 (cutP sd) (l.take i)).length ≤ i) (fun ⟨i, wv, wm⟩ => l.length - i) (0, .slice none 0 0, []) ?_ ?_ ?_ ?_
    · exact (by repeat constructor)
    · repeat first|exact aI|refine aD ?_|refine aC rfl ?_|refine aH ?_
    · exact ⟨Nat.zero_le _, Own.nil _ _, Nat.le_refl _⟩
    ·
     rintro ⟨i, wv, wm⟩ ⟨hil, hW, hWi⟩;obtain ⟨Aw, cw, rfl, hcw⟩ := hW.val
     refine eX (e := [(51, _), (7, _), (6, _), (8, _), (49, _), (50, _)]) (by repeat constructor) ?_;refine aK fun K17 kh17 => ?_;refine aB ?_;refine aA rfl rfl rfl (cD rfl rfl) ?_;refine aJ ?_;refine aL (kh17 _ _ ?_);clear kh17;refine aK fun K18 kh18 => ?_;refine aZ rfl (fun c52 => ?_) (fun c52 => ?_)
     ·
      refine aW ?_;refine aL (kh18 _ _ ?_);clear kh18;refine aK fun K19 kh19 => ?_;refine aY ?_;refine aK fun K20 kh20 => ?_;refine aB ?_;refine aA rfl rfl rfl (aG rfl) ?_;have hi : i < l.length := by omega
      obtain ⟨bq, off, rfl, hS, hc⟩ := hr (f9 cE dO (by omega) hi)
      have hgi := hn.good i hi
      refine aA rfl rfl rfl (bA sl131 rfl rfl (off + i * 3) ⟨by omega, by omega, by first | omega | (simp; done) | (simp; omega)⟩) ?_;refine aA rfl rfl rfl (a8 (vs := cE l[i]) Tryz.isAgg135 Tryz.sizeOf135 rfl rfl (gN dO hS hc hi)) ?_;refine aR rfl rfl rfl (cU Tryz.zeroValue135 rfl fun b15 => ?_);refine aA rfl rfl rfl (aF rfl) ?_;refine bF rfl rfl (cA Tryz.sizeOf135 rfl rfl rfl rfl (by first | exact Nat.le_of_ble_eq_true rfl | (simp; done) | (simp; omega)) (cE l[i]) rfl ?_);refine aJ ?_;refine aL (kh20 _ _ ?_);clear kh20;refine aK fun K21 kh21 => ?_;refine aB ?_;refine aA rfl rfl rfl (aG rfl) ?_;refine aA rfl rfl rfl (aQ fa135_0 rfl) ?_;refine aA rfl rfl rfl (aM Tryz.isAgg3 rfl (rdA rfl)) ?_;refine aA rfl rfl rfl (bA kW rfl rfl (l[i].src.toNat) ⟨by omega, by omega, by first | omega | (simp; done) | (simp; omega)⟩) ?_;refine aA rfl rfl rfl (aM Tryz.isAgg4 rfl (rdA (bools_at (by omega)))) ?_;refine aA rfl rfl rfl (aG rfl) ?_;refine f_splitLB 61 rfl (fun g61 => ?_) (fun g61 => ?_)
      ·
       refine aO rfl rfl rfl rfl rfl (aG rfl) ?_;refine aO rfl rfl rfl rfl rfl (aQ fa135_1 rfl) ?_;refine aO rfl rfl rfl rfl rfl (aM Tryz.isAgg3 rfl (rdA rfl)) ?_;refine aO rfl rfl rfl rfl rfl (bA kW rfl rfl (l[i].dst.toNat) ⟨by omega, by omega, by first | omega | (simp; done) | (simp; omega)⟩) ?_;refine aO rfl rfl rfl rfl rfl (aM Tryz.isAgg4 rfl (rdA (bools_at (by omega)))) ?_;refine aO rfl rfl rfl rfl rfl (kG rfl) ?_;refine aA rfl rfl rfl (cF rfl rfl) ?_;refine aJ ?_;refine aL (kh21 _ _ ?_);clear kh21;refine fC rfl (fun c68 => ?_) (fun c68 => ?_)
       ·
        refine aB ?_;refine aA rfl rfl rfl (aG rfl) ?_;refine aA rfl rfl rfl (aG rfl) ?_;refine aR rfl rfl rfl (dA dV (by omega) rfl rfl rfl fun b71 => ?_);refine aR rfl rfl rfl (dG dV rfl rfl hW (ys := [.int .i64 (i : Int)]) ⟨(rdA rfl), trivial⟩ rfl rfl (by omega) (by omega) fun v72 m72 o72 => ?_);refine aA rfl rfl rfl (aF rfl) ?_;refine aJ ?_;refine cV ?_;refine aL (kh19 _ _ ?_);clear kh19;refine aB ?_;refine aA rfl rfl rfl (bG rfl rfl _ (aT (by omega))) ?_;refine aA rfl rfl rfl (aG rfl) ?_;refine aJ ?_;refine aL (bB (i + 1, v72, m72) (by first | omega | (dsimp only; omega) | (simp; omega)) ⟨by omega, by rw [idxs_yes hi (by unfold cutP; rw [g61, c68]; rfl), List.length_append, dZ]; exact o72, by rw [idxs_yes hi (by unfold cutP; rw [g61, c68]; rfl), List.length_append]; simp; omega⟩ ?_ ?_ ?_)
        · exact (by repeat constructor)
        · exact (by repeat constructor)
        · repeat first|exact aI|refine aD ?_|refine aC rfl ?_|refine aH ?_
       ·
        refine aW ?_;refine cV ?_;refine aL (kh19 _ _ ?_);clear kh19;refine aB ?_;refine aA rfl rfl rfl (bG rfl rfl _ (aT (by omega))) ?_;refine aA rfl rfl rfl (aG rfl) ?_;refine aJ ?_;refine aL (bB (i + 1, .slice Aw (j6 (cutP sd) (l.take i)).length cw, wm) (by first | omega | (dsimp only; omega) | (simp; omega)) ⟨by omega, by rw [lV hi (by unfold cutP; first | (rw [g61, c68]; rfl) | (rw [g61]; rfl))]; exact hW, by rw [lV hi (by unfold cutP; first | (rw [g61, c68]; rfl) | (rw [g61]; rfl))]; omega⟩ ?_ ?_ ?_)
        · exact (by repeat constructor)
        · exact (by repeat constructor)
        · repeat first|exact aI|refine aD ?_|refine aC rfl ?_|refine aH ?_
      ·
       refine aS rfl rfl rfl rfl rfl rfl ?_;refine aS rfl rfl rfl rfl rfl rfl ?_;refine aS rfl rfl rfl rfl rfl rfl ?_;refine aS rfl rfl rfl rfl rfl rfl ?_;refine aS rfl rfl rfl rfl rfl rfl ?_;refine aS rfl rfl rfl rfl rfl rfl ?_;refine aA rfl rfl rfl (cO rfl rfl) ?_;refine aJ ?_;refine aL (kh21 _ _ ?_);clear kh21;refine gZ rfl ?_;refine aW ?_;refine cV ?_;refine aL (kh19 _ _ ?_);clear kh19;refine aB ?_;refine aA rfl rfl rfl (bG rfl rfl _ (aT (by omega))) ?_;refine aA rfl rfl rfl (aG rfl) ?_;refine aJ ?_;refine aL (bB (i + 1, .slice Aw (j6 (cutP sd) (l.take i)).length cw, wm) (by first | omega | (dsimp only; omega) | (simp; omega)) ⟨by omega, by rw [lV hi (by unfold cutP; first | (rw [g61, c68]; rfl) | (rw [g61]; rfl))]; exact hW, by rw [lV hi (by unfold cutP; first | (rw [g61, c68]; rfl) | (rw [g61]; rfl))]; omega⟩ ?_ ?_ ?_)
       · exact (by repeat constructor)
       · exact (by repeat constructor)
       · repeat first|exact aI|refine aD ?_|refine aC rfl ?_|refine aH ?_
     ·
      refine cG ?_;refine cK ?_;clear kh18;refine cK ?_;refine d5 ?_;refine aL (kh15 _ _ ?_);clear kh15;refine aK fun K22 kh22 => ?_;refine aB ?_;refine aA rfl rfl rfl (aG rfl) ?_;refine aA rfl rfl rfl (aG rfl) ?_;refine aR rfl rfl rfl (bD Tryz.call31 rfl (fun w_ hp_ => ClipF5_spec Aw (j6 (cutP sd) (l.take i)).length cw w_ hcw.1 hcw.2 (j0 hW)) ?_);rintro _ _ ⟨rfl, rfl⟩;dsimp only [List.cons_append, List.nil_append];refine aA rfl rfl rfl (aG rfl) ?_;refine aA rfl rfl rfl (aF rfl) ?_;refine aA rfl rfl rfl (aF rfl) ?_;refine aA rfl rfl rfl (aF rfl) ?_;refine aA rfl rfl rfl (aF rfl) ?_;refine aJ ?_;refine aL (kh22 _ _ ?_);clear kh22;refine a7 ?_;have hie : l.take i = l := List.take_of_length_le (by omega)
      rw [hie] at hW ⊢;exact f_fin4 [[(b31, blk (sd.map .bool) 4)], wm] Tryz.results82 rfl rfl rfl rfl (by repeat (first | exact aI | refine aD ?_ | refine aC rfl ?_)) ⟨V, _, _, sd, Aw, cw, wm, _, by rw [hz], rfl, .inr ⟨b31, by rw [hsl], rfl⟩, hW, fun h => absurd hz h, fun _ => by rw [Int.toNat_natCast, Int.toNat_natCast, Int.toNat_natCast]; exact ⟨hsl, rfl, ⟨f, hF, (hLy.side hn.net hLt).congr hn.net han hbn fun u hu => (hsu u (by omega)).symm⟩, hV0, hV1⟩⟩
end Go.Proofs.YtjjogcnjcnpehaaGreat

/- Lists without equals side by side; rising lists. -/
namespace Go.Proofs.YtjjogcnjcnpehaaGreat
open Go Fly
set_option linter.unusedVariables false
set_option linter.unusedSectionVars false
set_option linter.unusedSimpArgs false
variable {α : Type} [DecidableEq α]
/-- Of equals that stand side by side the first one. -/
def cpt : List α → List α
  | [] => []
  | [x] => [x]
  | x :: y :: r => if x = y then cpt (y :: r) else x :: cpt (y :: r)
theorem cpt_head : ∀ (x : α) (r : List α), ∃ r', cpt (x :: r) = x :: r'
  | x, [] => ⟨[], rfl⟩
  | x, y :: r => by
    obtain ⟨r', h⟩ := cpt_head y r
    by_cases e : x = y
    · subst e; exact ⟨r', by rw [cpt, if_pos rfl, h]⟩
    · exact ⟨cpt (y :: r), by rw [cpt, if_neg e]⟩
theorem cpt_snoc : ∀ (xs : List α) (z : α), cpt (xs ++ [z]) = if xs.getLast? = some z then cpt xs else cpt xs ++ [z]
  | [], z => by simp [cpt]
  | [x], z => by
    by_cases e : x = z <;> simp [cpt, e]
  | x :: y :: r, z => by
    have ih := cpt_snoc (y :: r) z
    have e1 : (x :: y :: r).getLast? = (y :: r).getLast? := by simp [List.getLast?_cons_cons]
    show cpt (x :: y :: (r ++ [z])) = _
    rw [cpt, e1];rw [show y :: (r ++ [z]) = (y :: r) ++ [z] from rfl, ih]
    by_cases e : x = y
    · rw [if_pos e]; rw [show cpt (x :: y :: r) = cpt (y :: r) by rw [cpt, if_pos e]]
    · rw [if_neg e]; rw [show cpt (x :: y :: r) = x :: cpt (y :: r) by rw [cpt, if_neg e]]
      split <;> simp
theorem l6 : ∀ (l : List α), (cpt l).length ≤ l.length
  | [] => Nat.le_refl _
  | [x] => Nat.le_refl _
  | x :: y :: r => by
    have := l6 (y :: r)
    simp only [cpt]; split <;> simp only [List.length_cons] at * <;> omega
theorem cpt_mem : ∀ (l : List α) (a : α), a ∈ cpt l ↔ a ∈ l
  | [], a => Iff.rfl
  | [x], a => Iff.rfl
  | x :: y :: r, a => by
    have ih := cpt_mem (y :: r) a
    simp only [cpt]
    split
    · rename_i e; subst e; rw [ih]; simp
    · simp only [List.mem_cons] at ih ⊢; rw [ih]
/-- The next one. -/
theorem jG {l : List α} {j : Nat} (h0 : 0 < j) (hj : j < l.length) : cpt (l.take (j + 1)) = if l[j - 1]'(by omega) = l[j] then cpt (l.take j) else cpt (l.take j) ++ [l[j]] := by
  rw [List.take_succ_eq_append_getElem hj, cpt_snoc]
  have : (l.take j).getLast? = some (l[j - 1]'(by omega)) := by
    rw [List.getLast?_eq_getElem?, List.length_take, Nat.min_eq_left (by omega), List.getElem?_take_of_lt (by omega), List.getElem?_eq_getElem (by omega)]
  rw [this]
  by_cases e : l[j - 1]'(by omega) = l[j] <;> simp [e]
theorem cpt_one {l : List α} (h : 0 < l.length) : cpt (l.take 1) = l.take 1 := by
  cases l with
  | nil => simp at h
  | cons x r => rfl
/-- Of a rising list only one of each is left. -/
theorem l5 {R : α → α → Prop} (ht : ∀ a b c, R a b → R b c → R a c) (hR : ∀ a b, R a b → a ≠ b) : ∀ {l : List α}, l.Pairwise (fun x y => x = y ∨ R x y) → (cpt l).Pairwise R
  | [], _ => List.Pairwise.nil
  | [x], _ => by simp [cpt]
  | x :: y :: r, h => by
    have h' := List.pairwise_cons.1 h
    have ih := l5 ht hR h'.2
    simp only [cpt]
    split
    · exact ih
    · rename_i e
      refine List.pairwise_cons.2 ⟨fun z hz => ?_, ih⟩
      rcases h'.1 z ((cpt_mem _ _).1 hz) with h1 | h1
      · subst h1
        obtain ⟨r', hr'⟩ := cpt_head y r
        rw [hr'] at hz ih;have h2 := (h'.1 y (List.mem_cons_self ..)).resolve_left e
        rcases List.mem_cons.1 hz with h3 | h3
        · exact absurd h3 e
        · exact absurd rfl (hR _ _ (ht _ _ _ h2 ((List.pairwise_cons.1 ih).1 x h3)))
      · exact h1
/-- Rising lists of the same members are the same. -/
theorem rising_eq {R : α → α → Prop} (ht : ∀ a b c, R a b → R b c → R a c) (hR : ∀ a b, R a b → a ≠ b) : ∀ {l r : List α}, l.Pairwise R → r.Pairwise R → (∀ a, a ∈ l ↔ a ∈ r) → l = r
  | [], [], _, _, _ => rfl
  | [], y :: r, _, _, h => by have := (h y).2 (List.mem_cons_self ..); simp at this
  | x :: l, [], _, _, h => by have := (h x).1 (List.mem_cons_self ..); simp at this
  | x :: l, y :: r, hl, hr, h => by
    rw [List.pairwise_cons] at hl hr
    have e : x = y := by
      rcases List.mem_cons.1 ((h x).1 (List.mem_cons_self ..)) with e | e
      · exact e
      · rcases List.mem_cons.1 ((h y).2 (List.mem_cons_self ..)) with e' | e'
        · exact e'.symm
        · exact absurd rfl (hR _ _ (ht _ _ _ (hl.1 y e') (hr.1 x e)))
    subst e
    congr 1
    refine rising_eq ht hR hl.2 hr.2 fun a => ⟨fun ha => ?_, fun ha => ?_⟩
    · rcases List.mem_cons.1 ((h a).1 (List.mem_cons_of_mem _ ha)) with e | e
      · exact absurd e.symm (hR _ _ (hl.1 a ha))
      · exact e
    · rcases List.mem_cons.1 ((h a).2 (List.mem_cons_of_mem _ ha)) with e | e
      · exact absurd e.symm (hR _ _ (hr.1 a ha))
      · exact e
theorem cpt_int {l : List Int} (h : l.Pairwise (· ≤ ·)) : (cpt l).Pairwise (· < ·) :=
  l5 (R := fun a b : Int => a < b) (fun a b c h1 h2 => Int.lt_trans h1 h2) (fun a b h e => by subst e; exact Int.lt_irrefl _ h) (h.imp fun {a b} (h : a ≤ b) => by omega)
end Go.Proofs.YtjjogcnjcnpehaaGreat

/- slices.Compact, slices.Clip over numbers. -/
namespace Go.Proofs.YtjjogcnjcnpehaaGreat
open Go Go.RowKit Fly
set_option linter.unusedVariables false
set_option linter.unusedSimpArgs false
theorem ints_zero {d : List Int} {i : Nat} (hi : i ≤ d.length) (sp : List Value) : gH (a6 d ++ sp) i (List.replicate (d.length - i) [Value.int .i64 0]).flatten = a6 (d.take i) ++ (a6 (List.replicate (d.length - i) 0) ++ sp) := by
  have e : a6 d ++ sp = a6 (d.take i) ++ (a6 (d.drop i) ++ sp) := by rw [← List.append_assoc, ← dZ, List.take_append_drop]
  have e2 : (List.replicate (d.length - i) [Value.int .i64 0]).flatten = a6 (List.replicate (d.length - i) 0) := by
    generalize d.length - i = q
    induction q with
    | zero => rfl
    | succ q ih => simp only [List.replicate_succ, List.flatten_cons, ih]; rfl
  rw [e, e2];exact iL _ _ _ _ _ (by rw [aX, List.length_take, Nat.min_eq_left hi]) (by rw [aX, aX]; simp)
theorem intsG {l : List Int} {i : Nat} (h : i < l.length) {x : Int} (e : l[i] = x) : (a6 l)[i]? = some (.int .i64 x) := by rw [dL h, e]
theorem cpt_put {l d : List Int} {i j : Nat} (hj : j < l.length) (hij : i < j) (hd : d.length = l.length) (h0 : d.take i = cpt (l.take j)) (hdr : d.drop (j - 1) = l.drop (j - 1)) (hne : l[j] ≠ l[j - 1]'(by omega)) :
    (d.set i l[j]).take (i + 1) = cpt (l.take (j + 1)) ∧ (d.set i l[j]).drop j = l.drop j := by
  refine ⟨?_, ?_⟩
  · rw [jG (by omega) hj, if_neg (fun e => hne e.symm), ← h0, List.take_succ_eq_append_getElem (show i < (d.set i l[j]).length by simp; omega), List.getElem_set_self, List.take_set_of_le (Nat.le_refl _)]
  · rw [List.drop_set_of_lt hij]
    have := congrArg (List.drop 1) hdr
    rw [List.drop_drop, List.drop_drop, show j - 1 + 1 = j by omega] at this;exact this
theorem cpt_pass {l d : List Int} {i j : Nat} (hj : j < l.length) (hj0 : 0 < j) (h0 : d.take i = cpt (l.take j)) (hdr : d.drop (j - 1) = l.drop (j - 1)) (he : l[j] = l[j - 1]'(by omega)) : d.take i = cpt (l.take (j + 1)) ∧ d.drop j = l.drop j := by
  refine ⟨by rw [jG hj0 hj, if_pos he.symm]; exact h0, ?_⟩;have := congrArg (List.drop 1) hdr
  rw [List.drop_drop, List.drop_drop, show j - 1 + 1 = j by omega] at this;exact this
theorem drop_get {l d : List Int} {i j : Nat} (hd : d.length = l.length) (h : d.drop i = l.drop i) (hij : i ≤ j) (hj : j < l.length) : d[j]'(by omega) = l[j] := by
  have := congrArg (fun x => x[j - i]?) h
  simp only [List.getElem?_drop, show i + (j - i) = j by omega] at this;rw [List.getElem?_eq_getElem (by omega), List.getElem?_eq_getElem hj] at this;exact Option.some.inj this
set_option maxRecDepth 100000 in
set_option maxHeartbeats 4000000 in
theorem mB (A : Option Addr) (cap : Nat) (l : List Int) (m : Seg) (w : World) (ho : Own 3 1 (.slice A l.length cap) l.length (a6 l) m) (hl : l.length ≤ 1000000000) (hw : Owns w [m]) :
    Meets Tryz.prog 32 [.slice A l.length cap] w [m] (fun u own' => ∃ m', own' = [m'] ∧ Own 3 1 u (cpt l).length (a6 (cpt l)) m') := by
 refine bJ Tryz.func32 rfl Tryz.ntmps32 rfl hw ?_;refine aK fun K1 kh1 => ?_;refine aB ?_;refine aA rfl rfl rfl (aF rfl) ?_;refine aJ ?_;refine aL (kh1 _ _ ?_);clear kh1;refine aK fun K2 kh2 => ?_;refine aK fun K3 kh3 => ?_;refine aB ?_;refine aA rfl rfl rfl (aG rfl) ?_;refine aA rfl rfl rfl (bS bK rfl) ?_;refine aA rfl rfl rfl (cD rfl rfl) ?_;refine aJ ?_;refine aL (kh3 _ _ ?_);clear kh3;refine aZ rfl (fun c8 => ?_) (fun c8 => ?_)
 ·
  have hcl : cpt l = l := by
    match l, c8 with
    | [], _ => rfl
    | [x], _ => rfl
    | x :: y :: r, h => simp at h; omega
  refine aK fun K4 kh4 => ?_;refine aB ?_;refine aA rfl rfl rfl (aG rfl) ?_;refine aA rfl rfl rfl (aF rfl) ?_;refine aJ ?_;refine aL (kh4 _ _ ?_);clear kh4;refine a7 ?_;refine bT ?_;exact bP [m] Tryz.results32 rfl (aD aI) ⟨m, rfl, by rw [hcl]; exact ho⟩
 ·
  obtain ⟨b, sp, rfl, rfl, hup⟩ := ho.upd (by omega)
  obtain ⟨_, _, e_, hcap⟩ := ho.val
  cases e_
  have hspl : sp.length = cap - l.length := by
    obtain ⟨_, h | ⟨b', c', sp', e, hm, _, _, h3⟩⟩ := ho
    · omega
    · cases e
      have := List.append_cancel_left (Array.toList_inj.2 (show (a6 l ++ sp).toArray = (a6 l ++ sp').toArray by simpa using hm))
      rw [this]; omega
  refine aW ?_;refine aL (kh2 _ _ ?_);clear kh2;refine aK fun K5 kh5 => ?_;refine aK fun K6 kh6 => ?_;refine aB ?_;refine aA rfl rfl rfl (aF rfl) ?_;refine aJ ?_;refine aL (kh6 _ _ ?_);clear kh6;refine aY ?_;refine jO (α := Nat) [0] (fun k => [(3, .int .i64 (k : Int))]) (fun k => 1 ≤ k ∧ k ≤ l.length ∧ cpt (l.take k) = l.take k) (fun k => l.length - k) (1) ?_ ?_ ?_
  · exact (by repeat constructor)
  · exact ⟨Nat.le_refl _, by omega, cpt_one (by omega)⟩
  ·
   rintro k ⟨hk1, hkl, hck⟩;refine aK fun K7 kh7 => ?_;refine aK fun K8 kh8 => ?_;refine aB ?_;refine aA rfl rfl rfl (aG rfl) ?_;refine aA rfl rfl rfl (aG rfl) ?_;refine aA rfl rfl rfl (bS bK rfl) ?_;refine aA rfl rfl rfl (cD rfl rfl) ?_;refine aJ ?_;refine aL (kh8 _ _ ?_);clear kh8;refine aZ rfl (fun c13 => ?_) (fun c13 => ?_)
   ·
    refine aW ?_;refine aL (kh7 _ _ ?_);clear kh7;refine aK fun K9 kh9 => ?_;refine aY ?_;refine aK fun K10 kh10 => ?_;refine fY rfl (by decide +kernel) ?_;refine aN rfl rfl rfl (aG rfl) ?_;refine aN rfl rfl rfl (aG rfl) ?_;have hk : k < l.length := by omega
    refine aN rfl rfl rfl (bA bK rfl rfl (k) ⟨by omega, by omega, by first | omega | (simp; done) | (simp; omega)⟩) ?_;refine aN rfl rfl rfl (aM Tryz.isAgg3 rfl (rdA (dN (dL hk)))) ?_;refine aN rfl rfl rfl (aG rfl) ?_;refine aN rfl rfl rfl (aG rfl) ?_;refine aN rfl rfl rfl (fV rfl rfl _ (aT (by omega))) ?_;refine aN rfl rfl rfl (bA bK rfl rfl (k - 1) ⟨by omega, by omega, by first | omega | (simp; done) | (simp; omega)⟩) ?_;refine aN rfl rfl rfl (aM Tryz.isAgg3 rfl (rdA (dN (dL (by omega))))) ?_;refine aN rfl rfl rfl (fM rfl rfl) ?_;refine eH ?_;refine aL (kh10 _ _ ?_);clear kh10;refine aZ rfl (fun c25 => ?_) (fun c25 => ?_)
    ·
     refine aK fun K11 kh11 => ?_;refine aB ?_;refine aA rfl rfl rfl (aG rfl) ?_;refine aA rfl rfl rfl (aG rfl) ?_;refine aA rfl rfl rfl (e5 bK rfl rfl rfl rfl (fun h => by cases h) k _ _ (.inr ⟨_, _, rfl, by omega⟩) (.inl ⟨rfl, rfl⟩) (.inl ⟨rfl, rfl⟩) ⟨by omega, by omega, by omega⟩ (.slice (some ⟨b, k, none⟩) (l.length - k) (cap - k)) (by rw [if_neg (by omega)]; simp [cY])) ?_;refine aA rfl rfl rfl (aF rfl) ?_;refine aJ ?_;refine aL (kh11 _ _ ?_);clear kh11;refine aK fun K12 kh12 => ?_;refine aK fun K13 kh13 => ?_;refine aB ?_;refine aA rfl rfl rfl (aF rfl) ?_;refine aJ ?_;refine aL (kh13 _ _ ?_);clear kh13;refine aY ?_;refine cS (α := Nat × Nat × List Int) [0, 4] (fun ⟨q, i, d⟩ => [(5, .int .i64 (q : Int)), (3, .int .i64 (i : Int))]) (fun ⟨q, i, d⟩ => [[(b, blk (a6 d ++ sp) 3)]]) (fun ⟨q, i, d⟩ => 1 ≤ q ∧ k + q ≤ l.length ∧ i < k + q ∧ d.length = l.length ∧ d.take i = cpt (l.take (k + q)) ∧ d.drop (k + q - 1) = l.drop (k + q - 1)) (fun ⟨q, i, d⟩ => l.length - (k + q)) (1, k, l) ?_ ?_ ?_ ?_
     · exact (by repeat constructor)
     · repeat first|exact aI|refine aD ?_|refine aC rfl ?_|refine aH ?_
     · exact ⟨Nat.le_refl _, by omega, by omega, rfl, by rw [jG (by omega) hk, if_pos c25.symm, hck], rfl⟩
     ·
      rintro ⟨q, i, d⟩ ⟨hq1, hql, hik, hdl, hdt, hdd⟩;refine eX (e := [(5, _), (3, _), (0, _), (4, _)]) (by repeat constructor) ?_;refine aK fun K14 kh14 => ?_;refine aK fun K15 kh15 => ?_;refine aB ?_;refine aA rfl rfl rfl (aG rfl) ?_;refine aA rfl rfl rfl (aG rfl) ?_;refine aA rfl rfl rfl (bS bK rfl) ?_;refine aA rfl rfl rfl (cD rfl rfl) ?_;refine aJ ?_;refine aL (kh15 _ _ ?_);clear kh15;refine aZ rfl (fun c32 => ?_) (fun c32 => ?_)
      ·
       refine aW ?_;refine aL (kh14 _ _ ?_);clear kh14;refine aK fun K16 kh16 => ?_;refine aY ?_;refine aK fun K17 kh17 => ?_;have hj' : k + q < l.length := by omega
       have hd1 := drop_get hdl hdd (j := k + q) (by omega) hj'
       have hd2 := drop_get hdl hdd (j := k + q - 1) (Nat.le_refl _) (by omega)
       refine fY rfl (by decide +kernel) ?_;refine aN rfl rfl rfl (aG rfl) ?_;refine aN rfl rfl rfl (aG rfl) ?_;refine aN rfl rfl rfl (bA bK rfl rfl (k + q) ⟨by omega, by omega, by first | omega | (simp; done) | (simp; omega)⟩) ?_;refine aN rfl rfl rfl (aM Tryz.isAgg3 rfl (rdA (dN (intsG (by omega) hd1)))) ?_;refine aN rfl rfl rfl (aG rfl) ?_;refine aN rfl rfl rfl (aG rfl) ?_;refine aN rfl rfl rfl (fV rfl rfl _ (aT (by omega))) ?_;refine aN rfl rfl rfl (bA bK rfl rfl (k + q - 1) ⟨by omega, by omega, by first | omega | (simp; done) | (simp; omega)⟩) ?_;refine aN rfl rfl rfl (aM Tryz.isAgg3 rfl (rdA (dN (intsG (by omega) hd2)))) ?_;refine aN rfl rfl rfl (c6 rfl rfl) ?_;refine eH ?_;refine aL (kh17 _ _ ?_);clear kh17;refine aZ rfl (fun c44 => ?_) (fun c44 => ?_)
       ·
        refine aK fun K18 kh18 => ?_;refine aB ?_;refine aA rfl rfl rfl (aG rfl) ?_;refine aA rfl rfl rfl (aG rfl) ?_;refine aA rfl rfl rfl (aG rfl) ?_;refine aA rfl rfl rfl (aG rfl) ?_;refine aA rfl rfl rfl (bA bK rfl rfl (k + q) ⟨by omega, by omega, by first | omega | (simp; done) | (simp; omega)⟩) ?_;refine aA rfl rfl rfl (aM Tryz.isAgg3 rfl (rdA (dN (intsG (by omega) hd1)))) ?_;refine aA rfl rfl rfl (bA bK rfl rfl (i) ⟨by omega, by omega, by first | omega | (simp; done) | (simp; omega)⟩) ?_;refine bF rfl rfl (cB Tryz.sizeOf3 rfl rfl rfl rfl (by rw [List.length_append, aX]; omega) (a6 (d.set i l[k + q]) ++ sp) (by rw [List.set_append_left _ _ (by rw [aX]; omega)]; simp [a6, List.map_set]) ?_);refine aJ ?_;refine aL (kh18 _ _ ?_);clear kh18;refine aB ?_;refine aA rfl rfl rfl (aG rfl) ?_;refine aA rfl rfl rfl (bG rfl rfl _ (aT (by omega))) ?_;refine aA rfl rfl rfl (aF rfl) ?_;refine aJ ?_;refine cV ?_;refine aL (kh16 _ _ ?_);clear kh16;refine aB ?_;refine aA rfl rfl rfl (aG rfl) ?_;refine aA rfl rfl rfl (bG rfl rfl _ (aT (by omega))) ?_;refine aA rfl rfl rfl (aF rfl) ?_;refine aJ ?_;refine aL (bB (q + 1, i + 1, d.set i l[k + q]) (by first | omega | (dsimp only; omega) | (simp; omega)) ⟨by omega, by omega, by omega, by simpa using hdl, (cpt_put hj' hik hdl hdt hdd (by omega)).1, (cpt_put hj' hik hdl hdt hdd (by omega)).2⟩ ?_ ?_ ?_)
        · exact (by repeat constructor)
        · exact (by repeat constructor)
        · repeat first|exact aI|refine aD ?_|refine aC rfl ?_|refine aH ?_
       ·
        refine aW ?_;refine cV ?_;refine aL (kh16 _ _ ?_);clear kh16;refine aB ?_;refine aA rfl rfl rfl (aG rfl) ?_;refine aA rfl rfl rfl (bG rfl rfl _ (aT (by omega))) ?_;refine aA rfl rfl rfl (aF rfl) ?_;refine aJ ?_;refine aL (bB (q + 1, i, d) (by first | omega | (dsimp only; omega) | (simp; omega)) ⟨by omega, by omega, by omega, hdl, (cpt_pass hj' (by omega) hdt hdd (by omega)).1, (cpt_pass hj' (by omega) hdt hdd (by omega)).2⟩ ?_ ?_ ?_)
        · exact (by repeat constructor)
        · exact (by repeat constructor)
        · repeat first|exact aI|refine aD ?_|refine aC rfl ?_|refine aH ?_
      ·
       refine cG ?_;refine cK ?_;clear kh14;refine cK ?_;refine d5 ?_;refine aL (kh12 _ _ ?_);clear kh12;refine aK fun K19 kh19 => ?_;obtain rfl : q = l.length - k := by omega
       rw [show k + (l.length - k) = l.length by omega, List.take_length] at hdt;have hiL : (cpt l).length = i := by rw [← hdt]; simp; omega
       refine aB ?_;refine aA rfl rfl rfl (aG rfl) ?_;refine aA rfl rfl rfl (aG rfl) ?_;refine aA rfl rfl rfl (e5 bK rfl rfl rfl rfl (fun h => by cases h) i _ _ (.inr ⟨_, _, rfl, by omega⟩) (.inl ⟨rfl, rfl⟩) (.inl ⟨rfl, rfl⟩) ⟨by omega, by omega, by omega⟩ (.slice (some ⟨b, i, none⟩) (l.length - i) (cap - i)) (by rw [if_neg (by omega)]; simp [cY])) ?_;refine bF rfl rfl (o_clear dV rfl rfl (by rw [List.length_append, aX]; omega) (a6 (d.take i) ++ (a6 (List.replicate (d.length - i) 0) ++ sp)) (by rw [← hdl]; exact ints_zero (by omega) sp) ?_);refine aJ ?_;refine aL (kh19 _ _ ?_);clear kh19;refine aK fun K20 kh20 => ?_;refine aB ?_;refine aA rfl rfl rfl (aG rfl) ?_;refine aA rfl rfl rfl (aG rfl) ?_;refine aA rfl rfl rfl (e5 bK rfl rfl rfl rfl (fun h => by cases h) 0 i cap (.inl ⟨rfl, rfl⟩) (.inr ⟨_, _, rfl, by omega⟩) (.inl ⟨rfl, rfl⟩) ⟨by omega, by omega, by omega⟩ (.slice (some ⟨b, 0, none⟩) i cap) (by rw [if_neg (by omega)]; simp [cY])) ?_;refine aA rfl rfl rfl (aF rfl) ?_;refine aJ ?_;refine aL (kh20 _ _ ?_);clear kh20;refine a7 ?_;refine eC ?_;refine bT ?_;refine bT ?_;refine eC ?_;refine bT ?_;exact bP [[(b, blk (a6 (d.take i) ++ (a6 (List.replicate (d.length - i) 0) ++ sp)) 3)]] Tryz.results32 rfl (by repeat (first | exact aI | refine aD ?_)) ⟨_, rfl, by rw [hiL, ← hdt]; exact ⟨by rw [aX]; simp; omega, .inr ⟨b, cap, _, rfl, rfl, by omega, by omega, by rw [List.length_append, aX, List.length_replicate, hspl]; omega⟩⟩⟩
    ·
     refine aW ?_;refine cV ?_;refine aL (kh9 _ _ ?_);clear kh9;refine aB ?_;refine aA rfl rfl rfl (aG rfl) ?_;refine aA rfl rfl rfl (bG rfl rfl _ (aT (by omega))) ?_;refine aA rfl rfl rfl (aF rfl) ?_;refine aJ ?_;refine aL (bB (k + 1) (by first | omega | (dsimp only; omega) | (simp; omega)) ⟨by omega, by omega, by rw [jG (by omega) hk, if_neg (fun e => c25 e.symm), hck, ← List.take_succ_eq_append_getElem hk]⟩ ?_ ?_ ?_)
     · exact (by repeat constructor)
     · exact (by repeat constructor)
     · repeat first|exact aI|refine aD ?_|refine aC rfl ?_|refine aH ?_
   ·
    refine cG ?_;refine cK ?_;clear kh7;refine cK ?_;refine d5 ?_;refine aL (kh5 _ _ ?_);clear kh5;refine aK fun K21 kh21 => ?_;refine aB ?_;refine aA rfl rfl rfl (aG rfl) ?_;refine aA rfl rfl rfl (aF rfl) ?_;refine aJ ?_;refine aL (kh21 _ _ ?_);clear kh21;refine a7 ?_;have hcl : cpt l = l := by rw [List.take_of_length_le (by omega)] at hck; exact hck
    exact bP [[(b, blk (a6 l ++ sp) 3)]] Tryz.results32 rfl (by repeat (first | exact aI | refine aD ?_)) ⟨_, rfl, by rw [hcl]; exact ho⟩
set_option maxRecDepth 100000 in
set_option maxHeartbeats 4000000 in
theorem Clip_spec (A : Option Addr) (len cap : Nat) (w : World) (h : len ≤ cap) (hm : cap ≤ 9223372036854775807) (hA : A = none → len = 0) :
    Meets Tryz.prog 31 [.slice A len cap] w [] (fun u m => u = .slice A len len ∧ m = []) := by
 refine bJ Tryz.func31 rfl Tryz.ntmps31 rfl Owns.nil ?_;refine aK fun K1 kh1 => ?_;refine aB ?_;refine aA rfl rfl rfl (aF rfl) ?_;refine aJ ?_;refine aL (kh1 _ _ ?_);clear kh1;refine aK fun K2 kh2 => ?_;refine aB ?_;refine aA rfl rfl rfl (aG rfl) ?_;refine aA rfl rfl rfl (aG rfl) ?_;refine aA rfl rfl rfl (bS bK rfl) ?_;refine aA rfl rfl rfl (aG rfl) ?_;refine aA rfl rfl rfl (bS bK rfl) ?_;refine aA rfl rfl rfl (e5 bK rfl rfl rfl rfl (fun _ => rfl) 0 len len (.inl ⟨rfl, rfl⟩) (.inr ⟨_, _, rfl, by omega⟩) (.inr ⟨_, _, rfl, by omega⟩) ⟨by omega, by omega, by omega⟩ (.slice A len len) (by rw [Nat.sub_zero]; congr 1; split; rfl; cases A with | none => rfl | some x => obtain ⟨p, q, r⟩ := x; cases r <;> simp [Addr.add])) ?_;refine aA rfl rfl rfl (aF rfl) ?_;refine aJ ?_;refine aL (kh2 _ _ ?_);clear kh2;refine a7 ?_;exact bP [] Tryz.results31 rfl aI ⟨rfl, rfl⟩
end Go.Proofs.YtjjogcnjcnpehaaGreat

/- What the shelf's contracts ask of this program: tables of numbers, and each fact by the kernel. -/
namespace Go.Proofs
open Go.Shelf
def Tryz.laysSort_ren : Go.Shelf.Ren := ⟨fun | 189 => 30 | 125 => 51 | 257 => 50 | 128 => 77 | 129 => 78 | 294 => 68 | 295 => 69 | 296 => 70 | 297 => 71 | 298 => 72 | 299 => 73 | 216 => 74 | 300 => 75 | 301 => 76 | 328 => 92 | 329 => 93 | 330 => 94 | 331 => 95 | 332 => 96 | 215 => 97 | 343 => 113 | n => n, fun | 28 => 25 | 3 => 3 | 46 => 83 | 0 => 0 | 51 => 46 | 53 => 128 | 4 => 4 | 183 => 121 | 182 => 120 | 131 => 87 | 5 => 5 | 9 => 9 | 218 => 149 | 222 => 153 | 228 => 171 | 229 => 172 | n => n, fun | n => n⟩
theorem Tryz.laysSort : Go.Proofs.Lays.n189 Tryz.prog Tryz.laysSort_ren := {
  mixed := by kernel_rfl
  f125 := Tryz.func51.trans (congrArg some (by kernel_rfl))
  f128 := Tryz.func77.trans (congrArg some (by kernel_rfl))
  f129 := Tryz.func78.trans (congrArg some (by kernel_rfl))
  f189 := Tryz.func30.trans (congrArg some (by kernel_rfl))
  f215 := Tryz.func97.trans (congrArg some (by kernel_rfl))
  f216 := Tryz.func74.trans (congrArg some (by kernel_rfl))
  f257 := Tryz.func50.trans (congrArg some (by kernel_rfl))
  f294 := Tryz.func68.trans (congrArg some (by kernel_rfl))
  f295 := Tryz.func69.trans (congrArg some (by kernel_rfl))
  f296 := Tryz.func70.trans (congrArg some (by kernel_rfl))
  f297 := Tryz.func71.trans (congrArg some (by kernel_rfl))
  f298 := Tryz.func72.trans (congrArg some (by kernel_rfl))
  f299 := Tryz.func73.trans (congrArg some (by kernel_rfl))
  f300 := Tryz.func75.trans (congrArg some (by kernel_rfl))
  f301 := Tryz.func76.trans (congrArg some (by kernel_rfl))
  f328 := Tryz.func92.trans (congrArg some (by kernel_rfl))
  f329 := Tryz.func93.trans (congrArg some (by kernel_rfl))
  f330 := Tryz.func94.trans (congrArg some (by kernel_rfl))
  f331 := Tryz.func95.trans (congrArg some (by kernel_rfl))
  f332 := Tryz.func96.trans (congrArg some (by kernel_rfl))
  f343 := Tryz.func113.trans (congrArg some (by kernel_rfl))
  t0 := Tryz.underlying0
  a0 := Tryz.isAgg0
  z0 := Tryz.sizeOf0
  v0 := Tryz.zeroValue0
  t3 := Tryz.underlying3
  a3 := Tryz.isAgg3
  z3 := Tryz.sizeOf3
  v3 := Tryz.zeroValue3
  t4 := Tryz.underlying4
  a4 := Tryz.isAgg4
  z4 := Tryz.sizeOf4
  v4 := Tryz.zeroValue4
  t5 := Tryz.underlying5
  a5 := Tryz.isAgg5
  z5 := Tryz.sizeOf5
  v5 := Tryz.zeroValue5
  t9 := Tryz.underlying9
  a9 := Tryz.isAgg9
  z9 := Tryz.sizeOf9
  v9 := Tryz.zeroValue9
  t28 := Tryz.underlying25
  a28 := Tryz.isAgg25
  z28 := Tryz.sizeOf25
  v28 := Tryz.zeroValue25
  t46 := Tryz.underlying83
  a46 := Tryz.isAgg83
  z46 := Tryz.sizeOf83
  v46 := Tryz.zeroValue83
  t51 := Tryz.underlying46
  a51 := Tryz.isAgg46
  z51 := Tryz.sizeOf46
  v51 := Tryz.zeroValue46
  t53 := Tryz.underlying128
  a53 := Tryz.isAgg128
  z53 := Tryz.sizeOf128
  v53 := Tryz.zeroValue128
  t131 := Tryz.underlying87
  a131 := Tryz.isAgg87
  z131 := Tryz.sizeOf87
  v131 := Tryz.zeroValue87
  t182 := Tryz.underlying120
  a182 := Tryz.isAgg120
  z182 := Tryz.sizeOf120
  v182 := Tryz.zeroValue120
  t183 := Tryz.underlying121
  a183 := Tryz.isAgg121
  z183 := Tryz.sizeOf121
  v183 := Tryz.zeroValue121
  t218 := Tryz.underlying149
  a218 := Tryz.isAgg149
  z218 := Tryz.sizeOf149
  v218 := Tryz.zeroValue149
  t222 := Tryz.underlying153
  a222 := Tryz.isAgg153
  z222 := Tryz.sizeOf153
  v222 := Tryz.zeroValue153
  t228 := Tryz.underlying171
  a228 := Tryz.isAgg171
  z228 := Tryz.sizeOf171
  v228 := Tryz.zeroValue171
  t229 := Tryz.underlying172
  a229 := Tryz.isAgg172
  z229 := Tryz.sizeOf172
  v229 := Tryz.zeroValue172 }
end Go.Proofs

/- slices.Sort over numbers, by the shelf's contract, in the words of the small logic. -/
namespace Go.Proofs.YtjjogcnjcnpehaaGreat.Fly
open Go Go.RowKit Go.Sort
set_option linter.unusedVariables false
set_option linter.unusedSimpArgs false
set_option linter.unusedSectionVars false
/-- mA, rising. -/
def gL (l : List Int) : List Int := l.mergeSort fun x y => decide (x ≤ y)
theorem eZ (l : List Int) : (gL l).length = l.length := List.length_mergeSort l
theorem sortI_perm (l : List Int) : (gL l).Perm l := List.mergeSort_perm l _
theorem sortI_sorted (l : List Int) : (gL l).Pairwise (· ≤ ·) := by
  have h := List.pairwise_mergeSort (le := fun x y : Int => decide (x ≤ y)) (fun a b c h1 h2 => by simp at *; omega) (fun a b => by simp; omega) l
  exact h.imp fun {a b} h => by simpa using h
theorem putCells_list (ts : List Int) (cs sp : List Value) (h : cs.length = ts.length) : (putCells (Value.int .i64) 0 ts.toArray (cs ++ sp).toArray).toList = a6 ts ++ sp := by
  apply List.ext_getElem?;intro j;rw [Array.getElem?_toList];simp only [putCells, Array.getElem?_mapIdx, List.getElem?_toArray]
  by_cases hj : j < ts.length
  · rw [List.getElem?_append_left (by omega), List.getElem?_append_left (by rw [aX]; exact hj), dL hj]
    simp [hj, h]
  · rw [List.getElem?_append_right (by omega), List.getElem?_append_right (by rw [aX]; omega), aX, h]
    cases sp[j - ts.length]? <;> simp [hj]
theorem meets_sort {P : Program} {ρ : Go.Shelf.Ren} (L : Lays.n189 P ρ) {E : TypeId} (A : Option Addr) (cap : Nat) (l : List Int) (m : Seg) (w : World) (ho : Own E 1 (.slice A l.length cap) l.length (a6 l) m) (hl : l.length < 4611686018427387904) (hw : Owns w [m]) :
    Meets P (ρ.f 189) [.slice A l.length cap] w [m] (fun u own' => u = .tuple #[] ∧ ∃ m', own' = [m'] ∧ Own E 1 (.slice A l.length cap) l.length (a6 (gL l)) m') := by
  have ho' := ho
  obtain ⟨h0, h | ⟨b, c, sp, e, rfl, h1, h2, h3⟩⟩ := ho'
  · obtain ⟨e, hl0, rfl⟩ := h
    obtain rfl : l = [] := List.eq_nil_of_length_eq_zero hl0
    refine Calls.mono (Any.slices_Sort_int_none L A cap w) ?_;rintro _ _ ⟨rfl, rfl⟩;exact ⟨_, [[]], rfl, Hp.start hw, rfl, [], rfl, by rw [show gL [] = [] from by simp [gL]]; exact ho⟩
  · cases e
    have hb : w.heap[b]? = some (blk (a6 l ++ sp) E) := hw.there b _ (by simp)
    have hlt : b < w.heap.size := by
      rcases Nat.lt_or_ge b w.heap.size with h' | h'
      · exact h'
      · rw [Array.getElem?_eq_none h'] at hb; cases hb
    have hH : Holds (Value.int .i64) w b 0 l.toArray := by
      intro j hj;have hj' : j < l.length := by simpa using hj
      refine ⟨?_, by simp [World.frozen?, hb]⟩;have : (a6 l ++ sp)[j]? = some (.int .i64 l[j]) := by rw [List.getElem?_append_left (by rw [aX]; exact hj'), dL hj']
      simp [World.cell?, hb, this, hj']
    have hc := Any.slices_Sort_int L b 0 cap l w hH hlt hl
    refine Calls.mono hc ?_;rintro _ _ ⟨rfl, n, os, rfl⟩
    have hnew : (grow (putRow (Value.int .i64) (Sort.ahead w n) b 0 (gL l).toArray) os).heap[b]? = some (blk (a6 (gL l) ++ sp) E) := by
      rw [heap_grow_old _ _ (by simpa using hlt)]
      have : (putCells (Value.int .i64) 0 (gL l).toArray (a6 l ++ sp).toArray) = (a6 (gL l) ++ sp).toArray := by
        rw [← Array.toList_inj, putCells_list _ _ _ (by rw [aX, eZ])]
      simp [putRow, mapBlock, Sort.ahead, Array.getElem?_modify, hb, onCells, this]
    have hoth : ∀ k, k < w.heap.size → k ≠ b → (grow (putRow (Value.int .i64) (Sort.ahead w n) b 0 (gL l).toArray) os).heap[k]? = w.heap[k]? := fun k hk hne => by
      rw [heap_grow_old _ _ (by simpa using hk)];have : b ≠ k := fun e => hne e.symm
      simp [putRow, mapBlock, Sort.ahead, Array.getElem?_modify, this]
    refine ⟨.tuple #[], [[(b, blk (a6 (gL l) ++ sp) E)]], rfl, ?_, rfl, _, rfl, by rw [aX] at h0; exact ⟨by rw [aX, eZ]; omega, .inr ⟨b, cap, sp, rfl, rfl, h1, h2, h3⟩⟩⟩;refine ⟨rfl, rfl, rfl, by simp [grow], by simp [grow, putRow, mapBlock, Sort.ahead], fun k hk => hk.1, fun k hk => hoth k hk.1 fun e => hk.2 (by subst e; simp), fun k o hm => ?_, fun k o hm hk => hk.2 (by simp at hm; obtain ⟨rfl, _⟩ := hm; simp), by simp⟩;simp only [List.flatten_cons, List.flatten_nil, List.append_nil, List.mem_singleton, Prod.mk.injEq] at hm;obtain ⟨rfl, rfl⟩ := hm
    exact hnew
end Go.Proofs.YtjjogcnjcnpehaaGreat.Fly

/- slices.Sort over numbers at this program. -/
namespace Go.Proofs.YtjjogcnjcnpehaaGreat
open Go Go.RowKit Fly
set_option linter.unusedVariables false
set_option linter.unusedSimpArgs false
theorem kP (A : Option Addr) (cap : Nat) (l : List Int) (m : Seg) (w : World) (ho : Own 3 1 (.slice A l.length cap) l.length (a6 l) m) (hl : l.length < 4611686018427387904) (hw : Owns w [m]) :
    Meets Tryz.prog 30 [.slice A l.length cap] w [m] (fun u own' => u = .tuple #[] ∧ ∃ m', own' = [m'] ∧ Own 3 1 (.slice A l.length cap) l.length (a6 (gL l)) m') :=
  meets_sort Tryz.laysSort A cap l m w ho hl hw
end Go.Proofs.YtjjogcnjcnpehaaGreat

/- Neighbours, told in two ways. -/
namespace Go.Proofs.YtjjogcnjcnpehaaGreat
open Go Fly
set_option linter.unusedVariables false
set_option linter.unusedSectionVars false
set_option linter.unusedSimpArgs false
/-- What an arc says of the neighbours of v. -/
def nbr (v : Int) (x : Arc) : List Int := if x.src = x.dst then [] else if x.src = v then [x.dst] else if x.dst = v then [x.src] else []
def bY (v : Int) (l : List Arc) : List Int := cpt (gL (l.flatMap (nbr v)))
theorem k7 {v : Int} {l : List Arc} {i : Nat} (hi : i < l.length) : (l.take (i + 1)).flatMap (nbr v) = (l.take i).flatMap (nbr v) ++ nbr v l[i] := by
  rw [List.take_succ_eq_append_getElem hi, List.flatMap_append]; simp
theorem lS (v : Int) (l : List Arc) : (l.flatMap (nbr v)).length ≤ l.length := by
  induction l with
  | nil => simp
  | cons x r ih =>
    rw [List.flatMap_cons, List.length_append, List.length_cons]
    have : (nbr v x).length ≤ 1 := by
      unfold nbr
      split
      · simp
      · split
        · simp
        · split <;> simp
    omega
theorem nbrs_rising (v : Int) (l : List Arc) : (bY v l).Pairwise (· < ·) := cpt_int (sortI_sorted _)
theorem k6 {v : Int} {l : List Arc} {u : Int} : u ∈ bY v l ↔ ∃ x ∈ l, u ∈ nbr v x := by
  unfold bY
  rw [cpt_mem, (sortI_perm _).mem_iff, List.mem_flatMap]
end Go.Proofs.YtjjogcnjcnpehaaGreat

/- Package graph: what its functions do, over the lists of arcs as they are read. -/
namespace Go.Proofs.YtjjogcnjcnpehaaGreat
open Go Go.RowKit Fly
set_option linter.unusedVariables false
set_option linter.unusedSimpArgs false
set_option maxRecDepth 100000 in
set_option maxHeartbeats 4000000 in
theorem fG (N : Int) (A : Option Addr) (l : List Arc) (cap : Nat) (w : World) (hr : Ro (Fr w []) w A (l.flatMap cE)) (hl : l.length ≤ 9223372036854775807) (hN : I64 N) (hok : ∀ x ∈ l, dQ x) :
    Meets Tryz.prog 21 [.agg #[.int .i64 N, .slice A l.length cap]] w [] (fun v m => v = .tuple #[.int .i64 (bH N l).1, .int .i64 (bH N l).2] ∧ m = []) := by
 refine bJ Tryz.func21 rfl Tryz.ntmps21 rfl Owns.nil ?_;refine aK fun K1 kh1 => ?_;refine aB ?_;refine aR rfl rfl rfl (cZ rfl rfl fun b1 => ?_);refine aA rfl rfl rfl (aF rfl) ?_;refine aA rfl rfl rfl (aF rfl) ?_;refine aJ ?_;refine aL (kh1 _ _ ?_);clear kh1;refine aK fun K2 kh2 => ?_;refine aK fun K3 kh3 => ?_;refine aB ?_;refine aA rfl rfl rfl (aQ eE rfl) ?_;refine aA rfl rfl rfl (aM Tryz.isAgg3 rfl (rdA rfl)) ?_;refine aA rfl rfl rfl (cD rfl rfl) ?_;refine aA rfl rfl rfl (aG rfl) ?_;refine cX 9 rfl (fun g9 => ?_) (fun g9 => ?_)
 · refine aS rfl rfl rfl rfl rfl rfl ?_;refine aS rfl rfl rfl rfl rfl rfl ?_;refine aS rfl rfl rfl rfl rfl rfl ?_;refine aA rfl rfl rfl (cF rfl rfl) ?_;refine aJ ?_;refine aL (kh3 _ _ ?_);clear kh3;refine eF rfl ?_;refine aK fun K4 kh4 => ?_;refine aB ?_;refine aA rfl rfl rfl (aF rfl) ?_;refine aA rfl rfl rfl (aF rfl) ?_;refine aJ ?_;refine aL (kh4 _ _ ?_);clear kh4;refine a7 ?_;refine bT ?_;exact bW [] Tryz.results21 rfl rfl aI ⟨by rw [jM (by omega)], rfl⟩
 ·
  refine aO rfl rfl rfl rfl rfl (aQ eE rfl) ?_;refine aO rfl rfl rfl rfl rfl (aM Tryz.isAgg3 rfl (rdA rfl)) ?_;refine aO rfl rfl rfl rfl rfl (eQ rfl rfl) ?_;refine aA rfl rfl rfl (cO rfl rfl) ?_;refine aJ ?_;refine aL (kh3 _ _ ?_);clear kh3;refine aZ rfl (fun c13 => ?_) (fun c13 => ?_)
  · refine aK fun K5 kh5 => ?_;refine aB ?_;refine aA rfl rfl rfl (aF rfl) ?_;refine aA rfl rfl rfl (aF rfl) ?_;refine aJ ?_;refine aL (kh5 _ _ ?_);clear kh5;refine a7 ?_;refine bT ?_;exact bW [] Tryz.results21 rfl rfl aI ⟨by rw [jM (by omega)], rfl⟩
  ·
   have hN1 : 1 ≤ N ∧ N ≤ 1024 := by omega
   refine aW ?_;refine aL (kh2 _ _ ?_);clear kh2;refine aK fun K6 kh6 => ?_;refine aK fun K7 kh7 => ?_;refine aB ?_;refine aA rfl rfl rfl (aQ hG rfl) ?_;refine aA rfl rfl rfl (aM Tryz.isAgg22 rfl (rdA rfl)) ?_;refine aA rfl rfl rfl (bS lJ rfl) ?_;refine aA rfl rfl rfl (eQ rfl rfl) ?_;refine aJ ?_;refine aL (kh7 _ _ ?_);clear kh7;refine aZ rfl (fun c17 => ?_) (fun c17 => ?_)
   · refine aK fun K8 kh8 => ?_;refine aB ?_;refine aA rfl rfl rfl (aF rfl) ?_;refine aA rfl rfl rfl (aF rfl) ?_;refine aJ ?_;refine aL (kh8 _ _ ?_);clear kh8;refine a7 ?_;refine bT ?_;exact bW [] Tryz.results21 rfl rfl aI ⟨by rw [gcheck_long hN1 (by omega)], rfl⟩
   ·
    refine aW ?_;refine aL (kh6 _ _ ?_);clear kh6;refine aK fun K9 kh9 => ?_;refine aK fun K10 kh10 => ?_;refine aB ?_;refine aA rfl rfl rfl (aQ hG rfl) ?_;refine aA rfl rfl rfl (aM Tryz.isAgg22 rfl (rdA rfl)) ?_;refine aA rfl rfl rfl (bS lJ rfl) ?_;refine aA rfl rfl rfl (aG rfl) ?_;refine aJ ?_;refine aL (kh10 _ _ ?_);clear kh10;refine aY ?_;refine jO (α := Nat) [1, 19, 20] (fun k => [(21, .int .i64 (k : Int))]) (fun k => k ≤ l.length ∧ ∀ j (h : j < l.length), j < k → eB N l[j] = false) (fun k => l.length - k) (0) ?_ ?_ ?_
    · exact (by repeat constructor)
    · exact ⟨by omega, fun j h hj => by omega⟩
    ·
     rintro k ⟨hkl, hall⟩;refine aK fun K11 kh11 => ?_;refine aB ?_;refine aA rfl rfl rfl (cD rfl rfl) ?_;refine aJ ?_;refine aL (kh11 _ _ ?_);clear kh11;refine aK fun K12 kh12 => ?_;refine aZ rfl (fun c22 => ?_) (fun c22 => ?_)
     ·
      refine aW ?_;refine aL (kh12 _ _ ?_);clear kh12;refine aK fun K13 kh13 => ?_;refine aY ?_;refine aK fun K14 kh14 => ?_;refine aB ?_;refine aA rfl rfl rfl (aG rfl) ?_;have hk : k < l.length := by omega
      obtain ⟨b, off, rfl, hS, hc⟩ := hr (f9 cE dO (by omega) hk)
      refine aA rfl rfl rfl (bA lJ rfl rfl (off + k * 3) ⟨by omega, by omega, by first | omega | (simp; done) | (simp; omega)⟩) ?_;refine aA rfl rfl rfl (a8 (vs := cE l[k]) Tryz.isAgg48 Tryz.sizeOf48 rfl rfl (gN dO hS hc hk)) ?_;refine aR rfl rfl rfl (cU Tryz.zeroValue48 rfl fun b5 => ?_);refine aA rfl rfl rfl (aF rfl) ?_;refine bF rfl rfl (cA Tryz.sizeOf48 rfl rfl rfl rfl (by first | exact Nat.le_of_ble_eq_true rfl | (simp; done) | (simp; omega)) _ rfl ?_);refine aJ ?_;refine aL (kh14 _ _ ?_);clear kh14;refine aK fun K15 kh15 => ?_;refine aB ?_;refine aA rfl rfl rfl (aQ gA rfl) ?_;refine aA rfl rfl rfl (aM Tryz.isAgg3 rfl (rdA rfl)) ?_;refine aA rfl rfl rfl (g5 Tryz.runUnderlying3 Tryz.runUnderlying83 rfl _ rfl) ?_;refine aA rfl rfl rfl (aQ eE rfl) ?_;refine aA rfl rfl rfl (aM Tryz.isAgg3 rfl (rdA rfl)) ?_;refine aA rfl rfl rfl (g5 Tryz.runUnderlying3 Tryz.runUnderlying83 rfl _ rfl) ?_;refine aA rfl rfl rfl (h7 rfl rfl) ?_;refine aA rfl rfl rfl (aG rfl) ?_;refine cX 33 rfl (fun g33 => ?_) (fun g33 => ?_)
      · refine aS rfl rfl rfl rfl rfl rfl ?_;refine aS rfl rfl rfl rfl rfl rfl ?_;refine aS rfl rfl rfl rfl rfl rfl ?_;refine aS rfl rfl rfl rfl rfl rfl ?_;refine aS rfl rfl rfl rfl rfl rfl ?_;refine aS rfl rfl rfl rfl rfl rfl ?_;refine aS rfl rfl rfl rfl rfl rfl ?_;refine aA rfl rfl rfl (cF rfl rfl) ?_;refine aJ ?_;refine aL (kh15 _ _ ?_);clear kh15;refine eF rfl ?_;refine aK fun K16 kh16 => ?_;refine aB ?_;refine aA rfl rfl rfl (aG rfl) ?_;refine aA rfl rfl rfl (aF rfl) ?_;refine aA rfl rfl rfl (aF rfl) ?_;refine aJ ?_;refine aL (kh16 _ _ ?_);clear kh16;refine a7 ?_;refine eC ?_;refine bT ?_;refine bT ?_;refine eC ?_;refine bT ?_;exact bW [] Tryz.results21 rfl rfl aI ⟨by rw [i2 hN1 (by omega) hk hall (arcBadL hN1 (hok _ (List.getElem_mem hk)) g33)], rfl⟩
      ·
       refine aO rfl rfl rfl rfl rfl (aQ fX rfl) ?_;refine aO rfl rfl rfl rfl rfl (aM Tryz.isAgg3 rfl (rdA rfl)) ?_;refine aO rfl rfl rfl rfl rfl (g5 Tryz.runUnderlying3 Tryz.runUnderlying83 rfl _ rfl) ?_;refine aO rfl rfl rfl rfl rfl (aQ eE rfl) ?_;refine aO rfl rfl rfl rfl rfl (aM Tryz.isAgg3 rfl (rdA rfl)) ?_;refine aO rfl rfl rfl rfl rfl (g5 Tryz.runUnderlying3 Tryz.runUnderlying83 rfl _ rfl) ?_;refine aO rfl rfl rfl rfl rfl (h7 rfl rfl) ?_;refine aA rfl rfl rfl (cO rfl rfl) ?_;refine aJ ?_;refine aL (kh15 _ _ ?_);clear kh15;refine aZ rfl (fun c41 => ?_) (fun c41 => ?_)
       · refine aK fun K17 kh17 => ?_;refine aB ?_;refine aA rfl rfl rfl (aG rfl) ?_;refine aA rfl rfl rfl (aF rfl) ?_;refine aA rfl rfl rfl (aF rfl) ?_;refine aJ ?_;refine aL (kh17 _ _ ?_);clear kh17;refine a7 ?_;refine eC ?_;refine bT ?_;refine bT ?_;refine eC ?_;refine bT ?_;exact bW [] Tryz.results21 rfl rfl aI ⟨by rw [i2 hN1 (by omega) hk hall (arcBadR hN1 (hok _ (List.getElem_mem hk)) c41)], rfl⟩
       ·
        refine aW ?_;refine cV ?_;refine aL (kh13 _ _ ?_);clear kh13;refine aB ?_;refine aA rfl rfl rfl (bG rfl rfl _ (aT (by omega))) ?_;refine aA rfl rfl rfl (aG rfl) ?_;refine aJ ?_;refine aL (bB (k + 1) (by first | omega | (dsimp only; omega) | (simp; omega)) ⟨by omega, good_next hall (arcGood hN1 (hok _ (List.getElem_mem hk)) g33 c41)⟩ ?_ ?_ ?_)
        · exact (by repeat constructor)
        · exact (by repeat constructor)
        · repeat first|exact aI|refine aD ?_|refine aC rfl ?_|refine aH ?_
     · refine cG ?_;refine cK ?_;clear kh12;refine cK ?_;refine d5 ?_;refine aL (kh9 _ _ ?_);clear kh9;refine aK fun K18 kh18 => ?_;refine aB ?_;refine aA rfl rfl rfl (aF rfl) ?_;refine aA rfl rfl rfl (aF rfl) ?_;refine aJ ?_;refine aL (kh18 _ _ ?_);clear kh18;refine a7 ?_;exact bW [] Tryz.results21 rfl rfl aI ⟨by rw [gcheck_ok hN1 (by omega) (fun j h => hall j h (by omega))], rfl⟩
set_option maxRecDepth 100000 in
set_option maxHeartbeats 4000000 in
theorem looked_spec (N : Int) (A : Option Addr) (l : List Arc) (cap : Nat) (v : Int) (w : World) (hr : Ro (Fr w []) w A (l.flatMap cE)) (hl : l.length ≤ 9223372036854775807) (hN : I64 N) (hok : ∀ x ∈ l, dQ x) :
    Meets Tryz.prog 123 [.agg #[.int .i64 N, .slice A l.length cap], .int .i64 v] w [] (fun u m => u = .int .i64 (gX N l v) ∧ m = []) := by
 refine bJ Tryz.func123 rfl Tryz.ntmps123 rfl Owns.nil ?_;refine aK fun K1 kh1 => ?_;refine aB ?_;refine aR rfl rfl rfl (cZ rfl rfl fun b2 => ?_);refine aA rfl rfl rfl (aF rfl) ?_;refine aJ ?_;refine aL (kh1 _ _ ?_);clear kh1;refine aK fun K2 kh2 => ?_;refine aK fun K3 kh3 => ?_;refine aB ?_;refine aA rfl rfl rfl (a8 (vs := [_, _]) Tryz.isAgg24 Tryz.sizeOf24 rfl rfl ⟨(rdA rfl), (rdA rfl), trivial⟩) ?_;refine aR rfl rfl rfl (bD Tryz.call21 rfl (fun w_ hp_ => fG N A l cap w_ (hr.up0 hp_) hl hN hok) ?_);rintro _ _ ⟨rfl, rfl⟩;dsimp only [List.cons_append, List.nil_append];refine aA rfl rfl rfl (aG rfl) ?_;refine aA rfl rfl rfl (aV rfl rfl) ?_;refine aA rfl rfl rfl (aV rfl rfl) ?_;refine aA rfl rfl rfl (aF rfl) ?_;refine aA rfl rfl rfl (aF rfl) ?_;refine aJ ?_;refine aL (kh3 _ _ ?_);clear kh3;refine aK fun K4 kh4 => ?_;refine aB ?_;refine aA rfl rfl rfl (aG rfl) ?_;refine aA rfl rfl rfl (c6 rfl rfl) ?_;refine aJ ?_;refine aL (kh4 _ _ ?_);clear kh4;refine aZ rfl (fun c13 => ?_) (fun c13 => ?_)
 · refine aK fun K5 kh5 => ?_;refine aB ?_;refine aA rfl rfl rfl (aG rfl) ?_;refine aA rfl rfl rfl (aF rfl) ?_;refine aJ ?_;refine aL (kh5 _ _ ?_);clear kh5;refine a7 ?_;refine bT ?_;exact bP [] Tryz.results123 rfl aI ⟨by rw [glooked_bad c13], rfl⟩
 ·
  refine aW ?_;refine aL (kh2 _ _ ?_);clear kh2;refine aK fun K6 kh6 => ?_;refine aK fun K7 kh7 => ?_;refine aB ?_;refine aA rfl rfl rfl (aG rfl) ?_;refine aA rfl rfl rfl (cD rfl rfl) ?_;refine aA rfl rfl rfl (aG rfl) ?_;refine cX 17 rfl (fun g17 => ?_) (fun g17 => ?_)
  · refine aS rfl rfl rfl rfl rfl rfl ?_;refine aS rfl rfl rfl rfl rfl rfl ?_;refine aS rfl rfl rfl rfl rfl rfl ?_;refine aS rfl rfl rfl rfl rfl rfl ?_;refine aA rfl rfl rfl (cF rfl rfl) ?_;refine aJ ?_;refine aL (kh7 _ _ ?_);clear kh7;refine eF rfl ?_;refine aK fun K8 kh8 => ?_;refine aB ?_;refine aA rfl rfl rfl (aF rfl) ?_;refine aJ ?_;refine aL (kh8 _ _ ?_);clear kh8;refine a7 ?_;refine bT ?_;exact bP [] Tryz.results123 rfl aI ⟨by rw [glooked_none (by simpa using c13) (by omega)], rfl⟩
  ·
   refine aO rfl rfl rfl rfl rfl (aG rfl) ?_;refine aO rfl rfl rfl rfl rfl (aQ eE rfl) ?_;refine aO rfl rfl rfl rfl rfl (aM Tryz.isAgg3 rfl (rdA rfl)) ?_;refine aO rfl rfl rfl rfl rfl (h7 rfl rfl) ?_;refine aA rfl rfl rfl (cO rfl rfl) ?_;refine aJ ?_;refine aL (kh7 _ _ ?_);clear kh7;refine aZ rfl (fun c22 => ?_) (fun c22 => ?_)
   · refine aK fun K9 kh9 => ?_;refine aB ?_;refine aA rfl rfl rfl (aF rfl) ?_;refine aJ ?_;refine aL (kh9 _ _ ?_);clear kh9;refine a7 ?_;refine bT ?_;exact bP [] Tryz.results123 rfl aI ⟨by rw [glooked_none (by simpa using c13) (by omega)], rfl⟩
   · refine aW ?_;refine aL (kh6 _ _ ?_);clear kh6;refine aK fun K10 kh10 => ?_;refine aB ?_;refine aA rfl rfl rfl (aF rfl) ?_;refine aJ ?_;refine aL (kh10 _ _ ?_);clear kh10;refine a7 ?_;exact bP [] Tryz.results123 rfl aI ⟨by rw [glooked_ok (by simpa using c13) (by omega) (by omega)], rfl⟩
end Go.Proofs.YtjjogcnjcnpehaaGreat
