import Derived.Test.YtbjiejhdgkpjcaaAll10
import Derived.Test.YtbjiejhdgkpjcaaAll3

/- The document's graphs: Check, Out, In, Neighbours, Parts. -/
namespace Go.Proofs.Ytbjiejhdgkpjcaa
open Go Go.RowKit Fly
set_option linter.unusedVariables false
set_option linter.unusedSimpArgs false


theorem bools_set3 (l : List Bool) (i : Nat) (b : Bool) : (l.map Value.bool).set i (.bool b) = (l.set i b).map .bool := by rw [List.map_set]
theorem bools_at3 {l : List Bool} {i : Nat} (h : i < l.length) : (l.map Value.bool)[i]? = some (.bool (l.getD i false)) := by simp [List.getD_eq_getElem?_getD, h]
theorem bools_rep3 (b : Bool) (n : Nat) : (List.replicate n [Value.bool b]).flatten = (List.replicate n b).map .bool := by
  induction n with
  | zero => rfl
  | succ n ih => simp only [List.replicate_succ, List.flatten_cons, List.map_cons, ih]; rfl
theorem gd_set3 {l : List Bool} {i : Nat} {b : Bool} {v : Nat} (h : i < l.length) : (l.set i b).getD v false = if i = v then b else l.getD v false := by
  rw [List.getD_eq_getElem?_getD, List.getElem?_set]
  by_cases e : i = v
  · rw [if_pos e, if_pos h, if_pos e]; rfl
  · rw [if_neg e, if_neg e, ← List.getD_eq_getElem?_getD]
theorem rdFld3 {S : Nat → Prop} {w0 : World} {segs : List Seg} {b off : Nat} {l : List Arc} (hS : S b) (hc : CellsAre w0 b off (l.flatMap arcCs)) {i : Nat} (hi : i < l.length) (j : Nat) {v : Value} (hj : (arcCs l[i])[j]? = some v) : Rd S w0 segs b (off + i * 3 + j) v := by
  rw [Nat.add_assoc]
  exact rdS hS (hc _ _ (by rw [flat_get arcCs arcCs_len l i j hi (by have := (List.getElem?_eq_some_iff.1 hj).1; simpa [arcCs] using this)]; exact hj))
def pE (v : Int) (into : Bool) (x : Arc) : Bool := decide ((if into then x.dst else x.src) = v)
theorem any_next {α : Type} {p : α → Bool} {l : List α} {i : Nat} (hi : i < l.length) : (l.take (i + 1)).any p = ((l.take i).any p || p l[i]) := by
  rw [List.take_succ_eq_append_getElem hi, List.any_append]; simp
theorem natsG {l : List Nat} {i x : Nat} (h : i < l.length) (e : l[i] = x) : (nats l)[i]? = some (.int .i64 (x : Int)) := by rw [nats_get h, e]
theorem nats_ints (l : List Nat) : nats l = ints (l.map fun x : Nat => (x : Int)) := by simp [nats, ints]
theorem nats_app (l r : List Nat) : nats (l ++ r) = nats l ++ nats r := by simp [nats]
theorem own_bools3 {b n : Nat} {sd : List Bool} (h : sd.length = n) (hn : n ≤ 1000000) : Own 4 1 (.slice (some ⟨b, 0, none⟩) n n) sd.length (sd.map .bool) [(b, blk (sd.map .bool) 4)] := by
  subst h; exact Own.mk (by simp) (by omega)
def TIn (L P : List Nat) (v u : Nat) (x : Int) : Prop := (x = -1 ∧ ∀ i, i < u → L.getD i 0 ≠ L.getD v 0) ∨ ∃ i, ∃ hi : i < P.length, x = (P[i] : Int) ∧ L.getD i 0 = L.getD v 0

/-- The answer of the document's Neighbours. -/
def RNbΦ (N : Int) (l : List Arc) (v : Int) (u : Value) (own : List Seg) : Prop :=
  ∃ s W m, u = .tuple #[s, .int .i64 (glooked N l v)] ∧ own = [m] ∧ Own 3 1 s W.length (ints W) m ∧ (glooked N l v = 0 → ∃ sd : List Bool, W = trues sd ∧ sd.length = N.toNat ∧ ∀ u, u < N.toNat → sd.getD u false = (decide (u ≠ v.toNat) && l.any (nbB v.toNat u))) ∧ (glooked N l v ≠ 0 → W = [])

set_option maxRecDepth 100000 in
set_option maxHeartbeats 4000000 in
theorem RCheck3_spec (N : Int) (A : Option Addr) (l : List Arc) (cap : Nat) (w : World) (hr : Ro (Fr w []) w A (l.flatMap arcCs)) (hl : l.length ≤ 9223372036854775807) (hN : I64 N) (hok : ∀ x ∈ l, ArcOk x) :
    Meets Try.prog 38 [.agg #[.int .i64 N, .slice A l.length cap]] w [] (fun v m => v = .tuple #[.int .i64 (gcheck N l).1, .int .i64 (gcheck N l).2] ∧ m = []) := by
 refine f_enter Try.func38 rfl Try.ntmps38 rfl Owns.nil ?_
 refine f_seq fun K1 kh1 => ?_
 refine f_region ?_
 refine f_step rfl rfl rfl (o_box rfl rfl fun b1 => ?_)
 refine f_stepP rfl rfl rfl (o_assign rfl) ?_
 refine f_stepP rfl rfl rfl (o_assign rfl) ?_
 refine f_done ?_
 refine f_tn (kh1 _ _ ?_)
 clear kh1
 refine f_seq fun K2 kh2 => ?_
 refine f_seq fun K3 kh3 => ?_
 refine f_region ?_
 refine f_stepP rfl rfl rfl (o_field fa24_0 rfl) ?_
 refine f_stepP rfl rfl rfl (o_load Try.isAgg3 rfl (rdA rfl)) ?_
 refine f_stepP rfl rfl rfl (o_lss rfl rfl) ?_
 refine f_stepP rfl rfl rfl (o_move rfl) ?_
 refine f_splitL 9 rfl (fun g9 => ?_) (fun g9 => ?_)
 ·
  refine f_stepN rfl rfl rfl rfl rfl rfl ?_
  refine f_stepN rfl rfl rfl rfl rfl rfl ?_
  refine f_stepN rfl rfl rfl rfl rfl rfl ?_
  refine f_stepP rfl rfl rfl (o_pickT rfl rfl) ?_
  refine f_done ?_
  refine f_tn (kh3 _ _ ?_)
  clear kh3
  refine f_condT rfl ?_
  refine f_seq fun K4 kh4 => ?_
  refine f_region ?_
  refine f_stepP rfl rfl rfl (o_assign rfl) ?_
  refine f_stepP rfl rfl rfl (o_assign rfl) ?_
  refine f_done ?_
  refine f_tn (kh4 _ _ ?_)
  clear kh4
  refine f_ret ?_
  refine f_tr ?_
  exact f_fin2 [] Try.results38 rfl rfl Sub.nil ⟨by rw [gcheck_range (by omega)], rfl⟩
 ·
  refine f_stepPY rfl rfl rfl rfl rfl (o_field fa24_0 rfl) ?_
  refine f_stepPY rfl rfl rfl rfl rfl (o_load Try.isAgg3 rfl (rdA rfl)) ?_
  refine f_stepPY rfl rfl rfl rfl rfl (o_gtr rfl rfl) ?_
  refine f_stepP rfl rfl rfl (o_pickF rfl rfl) ?_
  refine f_done ?_
  refine f_tn (kh3 _ _ ?_)
  clear kh3
  refine f_cond rfl (fun c13 => ?_) (fun c13 => ?_)
  ·
   refine f_seq fun K5 kh5 => ?_
   refine f_region ?_
   refine f_stepP rfl rfl rfl (o_assign rfl) ?_
   refine f_stepP rfl rfl rfl (o_assign rfl) ?_
   refine f_done ?_
   refine f_tn (kh5 _ _ ?_)
   clear kh5
   refine f_ret ?_
   refine f_tr ?_
   exact f_fin2 [] Try.results38 rfl rfl Sub.nil ⟨by rw [gcheck_range (by omega)], rfl⟩
  ·
   have hN1 : 1 ≤ N ∧ N ≤ 1024 := by omega
   refine f_skip ?_
   refine f_tn (kh2 _ _ ?_)
   clear kh2
   refine f_seq fun K6 kh6 => ?_
   refine f_seq fun K7 kh7 => ?_
   refine f_region ?_
   refine f_stepP rfl rfl rfl (o_field fa24_1 rfl) ?_
   refine f_stepP rfl rfl rfl (o_load Try.isAgg22 rfl (rdA rfl)) ?_
   refine f_stepP rfl rfl rfl (o_len sl22 rfl) ?_
   refine f_stepP rfl rfl rfl (o_gtr rfl rfl) ?_
   refine f_done ?_
   refine f_tn (kh7 _ _ ?_)
   clear kh7
   refine f_cond rfl (fun c17 => ?_) (fun c17 => ?_)
   ·
    refine f_seq fun K8 kh8 => ?_
    refine f_region ?_
    refine f_stepP rfl rfl rfl (o_assign rfl) ?_
    refine f_stepP rfl rfl rfl (o_assign rfl) ?_
    refine f_done ?_
    refine f_tn (kh8 _ _ ?_)
    clear kh8
    refine f_ret ?_
    refine f_tr ?_
    exact f_fin2 [] Try.results38 rfl rfl Sub.nil ⟨by rw [gcheck_long hN1 (by omega)], rfl⟩
   ·
    refine f_skip ?_
    refine f_tn (kh6 _ _ ?_)
    clear kh6
    refine f_seq fun K9 kh9 => ?_
    refine f_seq fun K10 kh10 => ?_
    refine f_region ?_
    refine f_stepP rfl rfl rfl (o_assign rfl) ?_
    refine f_done ?_
    refine f_tn (kh10 _ _ ?_)
    clear kh10
    refine f_block ?_
    refine f_loop (α := Nat) [1] (fun k => [(4, .int .i64 (k : Int))]) (fun k => [[(b1, blk [.int .i64 N, .slice A l.length cap] 24)]]) (fun k => k ≤ l.length ∧ ∀ j (h : j < l.length), j < k → arcBad N l[j] = false) (fun k => l.length - k) (0) ?_ ?_ ?_ ?_
    · exact (by repeat (first | exact trivial | refine ⟨rfl, ?_⟩))
    · repeat (first | exact Sub.nil | refine Sub.pick ?_ | refine Sub.castO rfl ?_ | refine Sub.skip ?_)
    · exact ⟨by omega, fun j h hj => by omega⟩
    ·
     rintro k ⟨hkl, hall⟩
     refine f_seq fun K11 kh11 => ?_
     refine f_seq fun K12 kh12 => ?_
     refine f_region ?_
     refine f_stepP rfl rfl rfl (o_move rfl) ?_
     refine f_stepP rfl rfl rfl (o_field fa24_1 rfl) ?_
     refine f_stepP rfl rfl rfl (o_load Try.isAgg22 rfl (rdA rfl)) ?_
     refine f_stepP rfl rfl rfl (o_len sl22 rfl) ?_
     refine f_stepP rfl rfl rfl (o_lss rfl rfl) ?_
     refine f_done ?_
     refine f_tn (kh12 _ _ ?_)
     clear kh12
     refine f_cond rfl (fun c22 => ?_) (fun c22 => ?_)
     ·
      refine f_skip ?_
      refine f_tn (kh11 _ _ ?_)
      clear kh11
      refine f_seq fun K13 kh13 => ?_
      refine f_block ?_
      refine f_seq fun K14 kh14 => ?_
      refine f_region ?_
      refine f_stepP rfl rfl rfl (o_field fa24_1 rfl) ?_
      refine f_stepP rfl rfl rfl (o_load Try.isAgg22 rfl (rdA rfl)) ?_
      refine f_stepP rfl rfl rfl (o_move rfl) ?_
      have hk : k < l.length := by omega
      obtain ⟨b, off, rfl, hS, hc⟩ := hr (flat_ne arcCs arcCs_len (by omega) hk)
      refine f_stepP rfl rfl rfl (o_idx sl22 rfl rfl (off + k * 3) ⟨by omega, by omega, by first | omega | (simp; done) | (simp; omega)⟩) ?_
      refine f_stepP rfl rfl rfl (o_loadA (vs := arcCs l[k]) Try.isAgg55 Try.sizeOf55 rfl rfl (roElem arcCs_len hS hc hk)) ?_
      refine f_step rfl rfl rfl (o_alloc Try.zeroValue55 rfl fun b5 => ?_)
      refine f_step0 rfl rfl (o_storeA Try.sizeOf55 rfl rfl rfl rfl (by first | exact Nat.le_of_ble_eq_true rfl | (simp; done) | (simp; omega)) (arcCs l[k]) rfl ?_)
      refine f_done ?_
      refine f_tn (kh14 _ _ ?_)
      clear kh14
      refine f_seq fun K15 kh15 => ?_
      refine f_region ?_
      refine f_stepP rfl rfl rfl (o_field fa55_0 rfl) ?_
      refine f_stepP rfl rfl rfl (o_load Try.isAgg3 rfl (rdA rfl)) ?_
      refine f_stepP rfl rfl rfl (o_lss rfl rfl) ?_
      refine f_stepP rfl rfl rfl (o_move rfl) ?_
      refine f_splitL 33 rfl (fun g33 => ?_) (fun g33 => ?_)
      ·
       refine f_stepN rfl rfl rfl rfl rfl rfl ?_
       refine f_stepN rfl rfl rfl rfl rfl rfl ?_
       refine f_stepN rfl rfl rfl rfl rfl rfl ?_
       refine f_stepN rfl rfl rfl rfl rfl rfl ?_
       refine f_stepN rfl rfl rfl rfl rfl rfl ?_
       refine f_stepP rfl rfl rfl (o_pickT rfl rfl) ?_
       refine f_stepP rfl rfl rfl (o_move rfl) ?_
       refine f_stepN rfl rfl rfl rfl rfl rfl ?_
       refine f_stepN rfl rfl rfl rfl rfl rfl ?_
       refine f_stepN rfl rfl rfl rfl rfl rfl ?_
       refine f_stepP rfl rfl rfl (o_pickT rfl rfl) ?_
       refine f_stepP rfl rfl rfl (o_move rfl) ?_
       refine f_stepN rfl rfl rfl rfl rfl rfl ?_
       refine f_stepN rfl rfl rfl rfl rfl rfl ?_
       refine f_stepN rfl rfl rfl rfl rfl rfl ?_
       refine f_stepN rfl rfl rfl rfl rfl rfl ?_
       refine f_stepN rfl rfl rfl rfl rfl rfl ?_
       refine f_stepP rfl rfl rfl (o_pickT rfl rfl) ?_
       refine f_done ?_
       refine f_tn (kh15 _ _ ?_)
       clear kh15
       refine f_condT rfl ?_
       refine f_seq fun K16 kh16 => ?_
       refine f_region ?_
       refine f_stepP rfl rfl rfl (o_move rfl) ?_
       refine f_stepP rfl rfl rfl (o_assign rfl) ?_
       refine f_stepP rfl rfl rfl (o_assign rfl) ?_
       refine f_done ?_
       refine f_tn (kh16 _ _ ?_)
       clear kh16
       refine f_ret ?_
       refine f_br ?_
       refine f_tr ?_
       refine f_tr ?_
       refine f_br ?_
       refine f_tr ?_
       exact f_fin2 [] Try.results38 rfl rfl Sub.nil ⟨by rw [gcheck_bad hN1 (by omega) hk hall (by unfold arcBad; simp; omega)], rfl⟩
      ·
       refine f_stepPY rfl rfl rfl rfl rfl (o_field fa55_0 rfl) ?_
       refine f_stepPY rfl rfl rfl rfl rfl (o_load Try.isAgg3 rfl (rdA rfl)) ?_
       refine f_stepPY rfl rfl rfl rfl rfl (o_field fa24_0 rfl) ?_
       refine f_stepPY rfl rfl rfl rfl rfl (o_load Try.isAgg3 rfl (rdA rfl)) ?_
       refine f_stepPY rfl rfl rfl rfl rfl (o_geq rfl rfl) ?_
       refine f_stepP rfl rfl rfl (o_pickF rfl rfl) ?_
       refine f_stepP rfl rfl rfl (o_move rfl) ?_
       refine f_splitL 40 rfl (fun g40 => ?_) (fun g40 => ?_)
       ·
        refine f_stepN rfl rfl rfl rfl rfl rfl ?_
        refine f_stepN rfl rfl rfl rfl rfl rfl ?_
        refine f_stepN rfl rfl rfl rfl rfl rfl ?_
        refine f_stepP rfl rfl rfl (o_pickT rfl rfl) ?_
        refine f_stepP rfl rfl rfl (o_move rfl) ?_
        refine f_stepN rfl rfl rfl rfl rfl rfl ?_
        refine f_stepN rfl rfl rfl rfl rfl rfl ?_
        refine f_stepN rfl rfl rfl rfl rfl rfl ?_
        refine f_stepN rfl rfl rfl rfl rfl rfl ?_
        refine f_stepN rfl rfl rfl rfl rfl rfl ?_
        refine f_stepP rfl rfl rfl (o_pickT rfl rfl) ?_
        refine f_done ?_
        refine f_tn (kh15 _ _ ?_)
        clear kh15
        refine f_condT rfl ?_
        refine f_seq fun K17 kh17 => ?_
        refine f_region ?_
        refine f_stepP rfl rfl rfl (o_move rfl) ?_
        refine f_stepP rfl rfl rfl (o_assign rfl) ?_
        refine f_stepP rfl rfl rfl (o_assign rfl) ?_
        refine f_done ?_
        refine f_tn (kh17 _ _ ?_)
        clear kh17
        refine f_ret ?_
        refine f_br ?_
        refine f_tr ?_
        refine f_tr ?_
        refine f_br ?_
        refine f_tr ?_
        exact f_fin2 [] Try.results38 rfl rfl Sub.nil ⟨by rw [gcheck_bad hN1 (by omega) hk hall (by unfold arcBad; simp; omega)], rfl⟩
       ·
        refine f_stepPY rfl rfl rfl rfl rfl (o_field fa55_1 rfl) ?_
        refine f_stepPY rfl rfl rfl rfl rfl (o_load Try.isAgg3 rfl (rdA rfl)) ?_
        refine f_stepPY rfl rfl rfl rfl rfl (o_lss rfl rfl) ?_
        refine f_stepP rfl rfl rfl (o_pickF rfl rfl) ?_
        refine f_stepP rfl rfl rfl (o_move rfl) ?_
        refine f_splitL 45 rfl (fun g45 => ?_) (fun g45 => ?_)
        ·
         refine f_stepN rfl rfl rfl rfl rfl rfl ?_
         refine f_stepN rfl rfl rfl rfl rfl rfl ?_
         refine f_stepN rfl rfl rfl rfl rfl rfl ?_
         refine f_stepN rfl rfl rfl rfl rfl rfl ?_
         refine f_stepN rfl rfl rfl rfl rfl rfl ?_
         refine f_stepP rfl rfl rfl (o_pickT rfl rfl) ?_
         refine f_done ?_
         refine f_tn (kh15 _ _ ?_)
         clear kh15
         refine f_condT rfl ?_
         refine f_seq fun K18 kh18 => ?_
         refine f_region ?_
         refine f_stepP rfl rfl rfl (o_move rfl) ?_
         refine f_stepP rfl rfl rfl (o_assign rfl) ?_
         refine f_stepP rfl rfl rfl (o_assign rfl) ?_
         refine f_done ?_
         refine f_tn (kh18 _ _ ?_)
         clear kh18
         refine f_ret ?_
         refine f_br ?_
         refine f_tr ?_
         refine f_tr ?_
         refine f_br ?_
         refine f_tr ?_
         exact f_fin2 [] Try.results38 rfl rfl Sub.nil ⟨by rw [gcheck_bad hN1 (by omega) hk hall (by unfold arcBad; simp; omega)], rfl⟩
        ·
         refine f_stepPY rfl rfl rfl rfl rfl (o_field fa55_1 rfl) ?_
         refine f_stepPY rfl rfl rfl rfl rfl (o_load Try.isAgg3 rfl (rdA rfl)) ?_
         refine f_stepPY rfl rfl rfl rfl rfl (o_field fa24_0 rfl) ?_
         refine f_stepPY rfl rfl rfl rfl rfl (o_load Try.isAgg3 rfl (rdA rfl)) ?_
         refine f_stepPY rfl rfl rfl rfl rfl (o_geq rfl rfl) ?_
         refine f_stepP rfl rfl rfl (o_pickF rfl rfl) ?_
         refine f_done ?_
         refine f_tn (kh15 _ _ ?_)
         clear kh15
         refine f_cond rfl (fun c51 => ?_) (fun c51 => ?_)
         ·
          refine f_seq fun K19 kh19 => ?_
          refine f_region ?_
          refine f_stepP rfl rfl rfl (o_move rfl) ?_
          refine f_stepP rfl rfl rfl (o_assign rfl) ?_
          refine f_stepP rfl rfl rfl (o_assign rfl) ?_
          refine f_done ?_
          refine f_tn (kh19 _ _ ?_)
          clear kh19
          refine f_ret ?_
          refine f_br ?_
          refine f_tr ?_
          refine f_tr ?_
          refine f_br ?_
          refine f_tr ?_
          exact f_fin2 [] Try.results38 rfl rfl Sub.nil ⟨by rw [gcheck_bad hN1 (by omega) hk hall (by unfold arcBad; simp; omega)], rfl⟩
         ·
          refine f_skip ?_
          refine f_bn ?_
          refine f_tn (kh13 _ _ ?_)
          clear kh13
          refine f_region ?_
          refine f_stepP rfl rfl rfl (o_move rfl) ?_
          refine f_stepP rfl rfl rfl (o_add rfl rfl _ (wrap_i64 (by omega))) ?_
          refine f_stepP rfl rfl rfl (o_assign rfl) ?_
          refine f_done ?_
          refine f_tn (f_again (k + 1) (by first | omega | (dsimp only; omega) | (simp; omega)) ⟨by omega, good_next hall (by unfold arcBad; simp; omega)⟩ ?_ ?_ ?_)
          · exact (by repeat (first | exact trivial | refine ⟨rfl, ?_⟩))
          · exact (by repeat (first | exact trivial | refine ⟨rfl, ?_⟩))
          · repeat (first | exact Sub.nil | refine Sub.pick ?_ | refine Sub.castO rfl ?_ | refine Sub.skip ?_)
     ·
      refine f_exit ?_
      refine f_te ?_
      clear kh11
      refine f_te ?_
      refine f_be ?_
      refine f_tn (kh9 _ _ ?_)
      clear kh9
      refine f_seq fun K20 kh20 => ?_
      refine f_region ?_
      refine f_stepP rfl rfl rfl (o_assign rfl) ?_
      refine f_stepP rfl rfl rfl (o_assign rfl) ?_
      refine f_done ?_
      refine f_tn (kh20 _ _ ?_)
      clear kh20
      refine f_ret ?_
      exact f_fin2 [] Try.results38 rfl rfl Sub.nil ⟨by rw [gcheck_ok hN1 (by omega) (fun j h => hall j h (by omega))], rfl⟩

set_option maxRecDepth 100000 in
set_option maxHeartbeats 4000000 in
theorem RNear_spec (n : Nat) (A : Option Addr) (l : List Arc) (cap : Nat) (v : Nat) (w : World) (hr : Ro (Fr w []) w A (l.flatMap arcCs)) (hl : l.length ≤ 8192) (hn : n ≤ 1024) (hv : v < n) (hgood : ∀ k (hk : k < l.length), 0 ≤ l[k].src ∧ l[k].src < (n : Int) ∧ 0 ≤ l[k].dst ∧ l[k].dst < (n : Int)) :
    Meets Try.prog 68 [.agg #[.int .i64 (n : Int), .slice A l.length cap], .int .i64 (v : Int)] w [] (fun u own' => ∃ b, ∃ sd : List Bool, u = .slice (some ⟨b, 0, none⟩) n n ∧ own' = [[(b, blk (sd.map .bool) 4)]] ∧ sd.length = n ∧ ∀ u, u < n → sd.getD u false = (decide (u ≠ v) && l.any (nbB v u))) := by
 refine f_enter Try.func68 rfl Try.ntmps68 rfl Owns.nil ?_
 refine f_seq fun K1 kh1 => ?_
 refine f_region ?_
 refine f_step rfl rfl rfl (o_box rfl rfl fun b2 => ?_)
 refine f_stepP rfl rfl rfl (o_assign rfl) ?_
 refine f_done ?_
 refine f_tn (kh1 _ _ ?_)
 clear kh1
 refine f_seq fun K2 kh2 => ?_
 refine f_region ?_
 refine f_stepP rfl rfl rfl (o_field fa24_0 rfl) ?_
 refine f_stepP rfl rfl rfl (o_load Try.isAgg3 rfl (rdA rfl)) ?_
 refine f_step rfl rfl rfl (o_make el42 rfl rfl n rfl (by omega) (by omega) ((List.replicate n false).map .bool) (bools_rep3 false n) fun b10 => ?_)
 refine f_stepP rfl rfl rfl (o_assign rfl) ?_
 refine f_done ?_
 refine f_tn (kh2 _ _ ?_)
 clear kh2
 refine f_seq fun K3 kh3 => ?_
 refine f_seq fun K4 kh4 => ?_
 refine f_region ?_
 refine f_stepP rfl rfl rfl (o_assign rfl) ?_
 refine f_done ?_
 refine f_tn (kh4 _ _ ?_)
 clear kh4
 refine f_block ?_
 refine f_loop (α := Nat × List Bool) [1, 2, 5] (fun ⟨i, sd⟩ => [(6, .int .i64 (i : Int))]) (fun ⟨i, sd⟩ => [[(b10, blk (sd.map .bool) 4)], [(b2, blk [.int .i64 (n : Int), .slice A l.length cap] 24)]]) (fun ⟨i, sd⟩ => i ≤ l.length ∧ sd.length = n ∧ ∀ u, u < n → sd.getD u false = (l.take i).any (nbB v u)) (fun ⟨i, sd⟩ => l.length - i) (0, List.replicate n false) ?_ ?_ ?_ ?_
 · exact (by repeat (first | exact trivial | refine ⟨rfl, ?_⟩))
 · repeat (first | exact Sub.nil | refine Sub.pick ?_ | refine Sub.castO rfl ?_ | refine Sub.skip ?_)
 · exact ⟨Nat.zero_le _, by simp, fun u hu => by simp [List.getD_eq_getElem?_getD, hu]⟩
 ·
  rintro ⟨i, sd⟩ ⟨hil, hsl, hsu⟩
  refine f_seq fun K5 kh5 => ?_
  refine f_seq fun K6 kh6 => ?_
  refine f_region ?_
  refine f_stepP rfl rfl rfl (o_move rfl) ?_
  refine f_stepP rfl rfl rfl (o_field fa24_1 rfl) ?_
  refine f_stepP rfl rfl rfl (o_load Try.isAgg22 rfl (rdA rfl)) ?_
  refine f_stepP rfl rfl rfl (o_len sl22 rfl) ?_
  refine f_stepP rfl rfl rfl (o_lss rfl rfl) ?_
  refine f_done ?_
  refine f_tn (kh6 _ _ ?_)
  clear kh6
  refine f_cond rfl (fun c15 => ?_) (fun c15 => ?_)
  ·
   refine f_skip ?_
   refine f_tn (kh5 _ _ ?_)
   clear kh5
   refine f_seq fun K7 kh7 => ?_
   refine f_block ?_
   refine f_seq fun K8 kh8 => ?_
   refine f_region ?_
   refine f_stepP rfl rfl rfl (o_field fa24_1 rfl) ?_
   refine f_stepP rfl rfl rfl (o_load Try.isAgg22 rfl (rdA rfl)) ?_
   refine f_stepP rfl rfl rfl (o_move rfl) ?_
   have hi : i < l.length := by omega
   obtain ⟨bq, off, rfl, hS, hc⟩ := hr (flat_ne arcCs arcCs_len (by omega) hi)
   have hgi := hgood i hi
   refine f_stepP rfl rfl rfl (o_idx sl22 rfl rfl (off + i * 3) ⟨by omega, by omega, by first | omega | (simp; done) | (simp; omega)⟩) ?_
   refine f_stepP rfl rfl rfl (o_loadA (vs := arcCs l[i]) Try.isAgg55 Try.sizeOf55 rfl rfl (roElem arcCs_len hS hc hi)) ?_
   refine f_step rfl rfl rfl (o_alloc Try.zeroValue55 rfl fun b7 => ?_)
   refine f_step0 rfl rfl (o_storeA Try.sizeOf55 rfl rfl rfl rfl (by first | exact Nat.le_of_ble_eq_true rfl | (simp; done) | (simp; omega)) (arcCs l[i]) rfl ?_)
   refine f_done ?_
   refine f_tn (kh8 _ _ ?_)
   clear kh8
   refine f_seq fun K9 kh9 => ?_
   refine f_seq fun K10 kh10 => ?_
   refine f_region ?_
   refine f_stepP rfl rfl rfl (o_field fa55_0 rfl) ?_
   refine f_stepP rfl rfl rfl (o_load Try.isAgg3 rfl (rdA rfl)) ?_
   refine f_stepP rfl rfl rfl (o_move rfl) ?_
   refine f_stepP rfl rfl rfl (o_eql rfl rfl) ?_
   refine f_done ?_
   refine f_tn (kh10 _ _ ?_)
   clear kh10
   refine f_cond rfl (fun c26 => ?_) (fun c26 => ?_)
   ·
    have hs : l[i].src.toNat = v := by omega
    refine f_region ?_
    refine f_stepP rfl rfl rfl (o_move rfl) ?_
    refine f_stepP rfl rfl rfl (o_field fa55_1 rfl) ?_
    refine f_stepP rfl rfl rfl (o_load Try.isAgg3 rfl (rdA rfl)) ?_
    refine f_stepP rfl rfl rfl (o_idx sl42 rfl rfl (l[i].dst.toNat) ⟨by omega, by omega, by first | omega | (simp; done) | (simp; omega)⟩) ?_
    refine f_step0 rfl rfl (o_store Try.sizeOf4 rfl rfl rfl rfl (by rw [List.length_map]; omega) ((sd.set l[i].dst.toNat true).map .bool) (bools_set3 _ _ _) ?_)
    refine f_done ?_
    refine f_tn (kh9 _ _ ?_)
    clear kh9
    refine f_seq fun K11 kh11 => ?_
    refine f_region ?_
    refine f_stepP rfl rfl rfl (o_field fa55_1 rfl) ?_
    refine f_stepP rfl rfl rfl (o_load Try.isAgg3 rfl (rdA rfl)) ?_
    refine f_stepP rfl rfl rfl (o_move rfl) ?_
    refine f_stepP rfl rfl rfl (o_eql rfl rfl) ?_
    refine f_done ?_
    refine f_tn (kh11 _ _ ?_)
    clear kh11
    refine f_cond rfl (fun c34 => ?_) (fun c34 => ?_)
    ·
     have hd : l[i].dst.toNat = v := by omega
     refine f_region ?_
     refine f_stepP rfl rfl rfl (o_move rfl) ?_
     refine f_stepP rfl rfl rfl (o_field fa55_0 rfl) ?_
     refine f_stepP rfl rfl rfl (o_load Try.isAgg3 rfl (rdA rfl)) ?_
     refine f_stepP rfl rfl rfl (o_idx sl42 rfl rfl (l[i].src.toNat) ⟨by omega, by omega, by first | omega | (simp; done) | (simp; omega)⟩) ?_
     refine f_step0 rfl rfl (o_store Try.sizeOf4 rfl rfl rfl rfl (by simp only [List.length_map, List.length_set]; omega) (((sd.set l[i].dst.toNat true).set l[i].src.toNat true).map .bool) (bools_set3 _ _ _) ?_)
     refine f_done ?_
     refine f_bn ?_
     refine f_tn (kh7 _ _ ?_)
     clear kh7
     refine f_region ?_
     refine f_stepP rfl rfl rfl (o_move rfl) ?_
     refine f_stepP rfl rfl rfl (o_add rfl rfl _ (wrap_i64 (by omega))) ?_
     refine f_stepP rfl rfl rfl (o_assign rfl) ?_
     refine f_done ?_
     refine f_tn (f_again (i + 1, (sd.set l[i].dst.toNat true).set l[i].src.toNat true) (by first | omega | (dsimp only; omega) | (simp; omega)) ⟨by omega, by simpa using hsl, fun u hu => by rw [any_next hi, gd_set3 (by simp; omega), gd_set3 (by omega), hsu u hu]; unfold nbB; rw [decide_eq_true hs, decide_eq_true hd]; by_cases e1 : l[i].src.toNat = u <;> by_cases e2 : l[i].dst.toNat = u <;> simp [e1, e2]⟩ ?_ ?_ ?_)
     · exact (by repeat (first | exact trivial | refine ⟨rfl, ?_⟩))
     · exact (by repeat (first | exact trivial | refine ⟨rfl, ?_⟩))
     · repeat (first | exact Sub.nil | refine Sub.pick ?_ | refine Sub.castO rfl ?_ | refine Sub.skip ?_)
    ·
     have hd : ¬ l[i].dst.toNat = v := by omega
     refine f_skip ?_
     refine f_bn ?_
     refine f_tn (kh7 _ _ ?_)
     clear kh7
     refine f_region ?_
     refine f_stepP rfl rfl rfl (o_move rfl) ?_
     refine f_stepP rfl rfl rfl (o_add rfl rfl _ (wrap_i64 (by omega))) ?_
     refine f_stepP rfl rfl rfl (o_assign rfl) ?_
     refine f_done ?_
     refine f_tn (f_again (i + 1, sd.set l[i].dst.toNat true) (by first | omega | (dsimp only; omega) | (simp; omega)) ⟨by omega, by simpa using hsl, fun u hu => by rw [any_next hi, gd_set3 (by omega), hsu u hu]; unfold nbB; rw [decide_eq_true hs, decide_eq_false hd]; by_cases e2 : l[i].dst.toNat = u <;> simp [e2]⟩ ?_ ?_ ?_)
     · exact (by repeat (first | exact trivial | refine ⟨rfl, ?_⟩))
     · exact (by repeat (first | exact trivial | refine ⟨rfl, ?_⟩))
     · repeat (first | exact Sub.nil | refine Sub.pick ?_ | refine Sub.castO rfl ?_ | refine Sub.skip ?_)
   ·
    have hs : ¬ l[i].src.toNat = v := by omega
    refine f_skip ?_
    refine f_tn (kh9 _ _ ?_)
    clear kh9
    refine f_seq fun K12 kh12 => ?_
    refine f_region ?_
    refine f_stepP rfl rfl rfl (o_field fa55_1 rfl) ?_
    refine f_stepP rfl rfl rfl (o_load Try.isAgg3 rfl (rdA rfl)) ?_
    refine f_stepP rfl rfl rfl (o_move rfl) ?_
    refine f_stepP rfl rfl rfl (o_eql rfl rfl) ?_
    refine f_done ?_
    refine f_tn (kh12 _ _ ?_)
    clear kh12
    refine f_cond rfl (fun c34 => ?_) (fun c34 => ?_)
    ·
     have hd : l[i].dst.toNat = v := by omega
     refine f_region ?_
     refine f_stepP rfl rfl rfl (o_move rfl) ?_
     refine f_stepP rfl rfl rfl (o_field fa55_0 rfl) ?_
     refine f_stepP rfl rfl rfl (o_load Try.isAgg3 rfl (rdA rfl)) ?_
     refine f_stepP rfl rfl rfl (o_idx sl42 rfl rfl (l[i].src.toNat) ⟨by omega, by omega, by first | omega | (simp; done) | (simp; omega)⟩) ?_
     refine f_step0 rfl rfl (o_store Try.sizeOf4 rfl rfl rfl rfl (by simp only [List.length_map, List.length_set]; omega) ((sd.set l[i].src.toNat true).map .bool) (bools_set3 _ _ _) ?_)
     refine f_done ?_
     refine f_bn ?_
     refine f_tn (kh7 _ _ ?_)
     clear kh7
     refine f_region ?_
     refine f_stepP rfl rfl rfl (o_move rfl) ?_
     refine f_stepP rfl rfl rfl (o_add rfl rfl _ (wrap_i64 (by omega))) ?_
     refine f_stepP rfl rfl rfl (o_assign rfl) ?_
     refine f_done ?_
     refine f_tn (f_again (i + 1, sd.set l[i].src.toNat true) (by first | omega | (dsimp only; omega) | (simp; omega)) ⟨by omega, by simpa using hsl, fun u hu => by rw [any_next hi, gd_set3 (by omega), hsu u hu]; unfold nbB; rw [decide_eq_false hs, decide_eq_true hd]; by_cases e2 : l[i].src.toNat = u <;> simp [e2]⟩ ?_ ?_ ?_)
     · exact (by repeat (first | exact trivial | refine ⟨rfl, ?_⟩))
     · exact (by repeat (first | exact trivial | refine ⟨rfl, ?_⟩))
     · repeat (first | exact Sub.nil | refine Sub.pick ?_ | refine Sub.castO rfl ?_ | refine Sub.skip ?_)
    ·
     have hd : ¬ l[i].dst.toNat = v := by omega
     refine f_skip ?_
     refine f_bn ?_
     refine f_tn (kh7 _ _ ?_)
     clear kh7
     refine f_region ?_
     refine f_stepP rfl rfl rfl (o_move rfl) ?_
     refine f_stepP rfl rfl rfl (o_add rfl rfl _ (wrap_i64 (by omega))) ?_
     refine f_stepP rfl rfl rfl (o_assign rfl) ?_
     refine f_done ?_
     refine f_tn (f_again (i + 1, sd) (by first | omega | (dsimp only; omega) | (simp; omega)) ⟨by omega, hsl, fun u hu => by rw [any_next hi, hsu u hu]; unfold nbB; rw [decide_eq_false hs, decide_eq_false hd]; simp⟩ ?_ ?_ ?_)
     · exact (by repeat (first | exact trivial | refine ⟨rfl, ?_⟩))
     · exact (by repeat (first | exact trivial | refine ⟨rfl, ?_⟩))
     · repeat (first | exact Sub.nil | refine Sub.pick ?_ | refine Sub.castO rfl ?_ | refine Sub.skip ?_)
  ·
   refine f_exit ?_
   refine f_te ?_
   clear kh5
   refine f_te ?_
   refine f_be ?_
   refine f_tn (kh3 _ _ ?_)
   clear kh3
   refine f_seq fun K13 kh13 => ?_
   refine f_region ?_
   refine f_stepP rfl rfl rfl (o_move rfl) ?_
   refine f_stepP rfl rfl rfl (o_move rfl) ?_
   refine f_stepP rfl rfl rfl (o_idx sl42 rfl rfl (v) ⟨by omega, by omega, by first | omega | (simp; done) | (simp; omega)⟩) ?_
   refine f_step0 rfl rfl (o_store Try.sizeOf4 rfl rfl rfl rfl (by rw [List.length_map]; omega) ((sd.set v false).map .bool) (bools_set3 _ _ _) ?_)
   refine f_done ?_
   refine f_tn (kh13 _ _ ?_)
   clear kh13
   refine f_seq fun K14 kh14 => ?_
   refine f_region ?_
   refine f_stepP rfl rfl rfl (o_move rfl) ?_
   refine f_stepP rfl rfl rfl (o_assign rfl) ?_
   refine f_done ?_
   refine f_tn (kh14 _ _ ?_)
   clear kh14
   refine f_ret ?_
   rw [show l.take i = l from List.take_of_length_le (by omega)] at hsu
   exact f_fin1 [[(b10, blk ((sd.set v false).map .bool) 4)]] Try.results68 rfl (by repeat (first | exact Sub.nil | refine Sub.pick ?_ | refine Sub.castO rfl ?_)) ⟨b10, sd.set v false, rfl, rfl, by simpa using hsl, fun u hu => by
     rw [gd_set3 (by omega), hsu u hu]
     by_cases e : v = u
     · subst e; simp
     · have : u ≠ v := fun h => e h.symm
       simp [e, this]⟩

set_option maxRecDepth 100000 in
set_option maxHeartbeats 4000000 in
theorem RAll_spec (A : Option Addr) (sd : List Bool) (cap : Nat) (w : World) (hr : Ro (Fr w []) w A (sd.map .bool)) (hl : sd.length ≤ 1000000) :
    Meets Try.prog 67 [.slice A sd.length cap] w [] (fun u own' => ∃ m, own' = [m] ∧ Own 3 1 u (trues sd).length (ints (trues sd)) m) := by
 refine f_enter Try.func67 rfl Try.ntmps67 rfl Owns.nil ?_
 refine f_seq fun K1 kh1 => ?_
 refine f_region ?_
 refine f_stepP rfl rfl rfl (o_assign rfl) ?_
 refine f_done ?_
 refine f_tn (kh1 _ _ ?_)
 clear kh1
 refine f_seq fun K2 kh2 => ?_
 refine f_region ?_
 refine f_stepP rfl rfl rfl (o_assign rfl) ?_
 refine f_done ?_
 refine f_tn (kh2 _ _ ?_)
 clear kh2
 refine f_seq fun K3 kh3 => ?_
 refine f_seq fun K4 kh4 => ?_
 refine f_region ?_
 refine f_stepP rfl rfl rfl (o_assign rfl) ?_
 refine f_done ?_
 refine f_tn (kh4 _ _ ?_)
 clear kh4
 refine f_block ?_
 refine f_loop (α := Nat × Value × Seg) [0] (fun ⟨i, ov, om⟩ => [(4, .int .i64 (i : Int)), (3, ov)]) (fun ⟨i, ov, om⟩ => [om]) (fun ⟨i, ov, om⟩ => i ≤ sd.length ∧ Own 3 1 ov (idxs id (sd.take i)).length (ints (idxs id (sd.take i))) om ∧ (idxs id (sd.take i)).length ≤ i) (fun ⟨i, ov, om⟩ => sd.length - i) (0, .slice none 0 0, []) ?_ ?_ ?_ ?_
 · exact (by repeat (first | exact trivial | refine ⟨rfl, ?_⟩))
 · repeat (first | exact Sub.nil | refine Sub.pick ?_ | refine Sub.castO rfl ?_ | refine Sub.skip ?_)
 · exact ⟨Nat.zero_le _, Own.nil _ _, Nat.le_refl _⟩
 ·
  rintro ⟨i, ov, om⟩ ⟨hil, hO, hOi⟩
  obtain ⟨Ao, co, rfl, hco⟩ := hO.val
  refine f_seq fun K5 kh5 => ?_
  refine f_seq fun K6 kh6 => ?_
  refine f_region ?_
  refine f_stepP rfl rfl rfl (o_move rfl) ?_
  refine f_stepP rfl rfl rfl (o_move rfl) ?_
  refine f_stepP rfl rfl rfl (o_len sl42 rfl) ?_
  refine f_stepP rfl rfl rfl (o_lss rfl rfl) ?_
  refine f_done ?_
  refine f_tn (kh6 _ _ ?_)
  clear kh6
  refine f_cond rfl (fun c8 => ?_) (fun c8 => ?_)
  ·
   refine f_skip ?_
   refine f_tn (kh5 _ _ ?_)
   clear kh5
   refine f_seq fun K7 kh7 => ?_
   refine f_block ?_
   refine f_seq fun K8 kh8 => ?_
   refine f_region ?_
   refine f_stepP rfl rfl rfl (o_move rfl) ?_
   refine f_stepP rfl rfl rfl (o_move rfl) ?_
   have hi : i < sd.length := by omega
   obtain ⟨bq, off, rfl, hS, hc⟩ := hr (map_ne hi)
   refine f_stepP rfl rfl rfl (o_idx sl42 rfl rfl (off + i) ⟨by omega, by omega, by first | omega | (simp; done) | (simp; omega)⟩) ?_
   refine f_stepP rfl rfl rfl (o_load Try.isAgg4 rfl (roOne (enc := Value.bool) hS hc hi)) ?_
   refine f_done ?_
   refine f_tn (kh8 _ _ ?_)
   clear kh8
   refine f_condB rfl (fun c14 => ?_) (fun c14 => ?_)
   ·
    refine f_region ?_
    refine f_stepP rfl rfl rfl (o_move rfl) ?_
    refine f_stepP rfl rfl rfl (o_move rfl) ?_
    refine f_step rfl rfl rfl (o_slice1 el35 (by omega) rfl rfl rfl fun b17 => ?_)
    refine f_step rfl rfl rfl (o_append el35 rfl rfl hO (ys := [.int .i64 (i : Int)]) ⟨(rdA rfl), trivial⟩ rfl rfl (by omega) (by omega) fun v18 m18 o18 => ?_)
    refine f_stepP rfl rfl rfl (o_assign rfl) ?_
    refine f_done ?_
    refine f_bn ?_
    refine f_tn (kh7 _ _ ?_)
    clear kh7
    refine f_region ?_
    refine f_stepP rfl rfl rfl (o_move rfl) ?_
    refine f_stepP rfl rfl rfl (o_add rfl rfl _ (wrap_i64 (by omega))) ?_
    refine f_stepP rfl rfl rfl (o_assign rfl) ?_
    refine f_done ?_
    refine f_tn (f_again (i + 1, v18, m18) (by first | omega | (dsimp only; omega) | (simp; omega)) ⟨by omega, by rw [idxs_yes hi c14, List.length_append, ints_append]; exact o18, by rw [idxs_yes hi c14, List.length_append]; simp; omega⟩ ?_ ?_ ?_)
    · exact (by repeat (first | exact trivial | refine ⟨rfl, ?_⟩))
    · exact (by repeat (first | exact trivial | refine ⟨rfl, ?_⟩))
    · repeat (first | exact Sub.nil | refine Sub.pick ?_ | refine Sub.castO rfl ?_ | refine Sub.skip ?_)
   ·
    refine f_skip ?_
    refine f_bn ?_
    refine f_tn (kh7 _ _ ?_)
    clear kh7
    refine f_region ?_
    refine f_stepP rfl rfl rfl (o_move rfl) ?_
    refine f_stepP rfl rfl rfl (o_add rfl rfl _ (wrap_i64 (by omega))) ?_
    refine f_stepP rfl rfl rfl (o_assign rfl) ?_
    refine f_done ?_
    refine f_tn (f_again (i + 1, .slice Ao (idxs id (sd.take i)).length co, om) (by first | omega | (dsimp only; omega) | (simp; omega)) ⟨by omega, by rw [idxs_no hi c14]; exact hO, by rw [idxs_no hi c14]; omega⟩ ?_ ?_ ?_)
    · exact (by repeat (first | exact trivial | refine ⟨rfl, ?_⟩))
    · exact (by repeat (first | exact trivial | refine ⟨rfl, ?_⟩))
    · repeat (first | exact Sub.nil | refine Sub.pick ?_ | refine Sub.castO rfl ?_ | refine Sub.skip ?_)
  ·
   refine f_exit ?_
   refine f_te ?_
   clear kh5
   refine f_te ?_
   refine f_be ?_
   refine f_tn (kh3 _ _ ?_)
   clear kh3
   refine f_seq fun K9 kh9 => ?_
   refine f_region ?_
   refine f_stepP rfl rfl rfl (o_move rfl) ?_
   refine f_stepP rfl rfl rfl (o_assign rfl) ?_
   refine f_done ?_
   refine f_tn (kh9 _ _ ?_)
   clear kh9
   refine f_ret ?_
   rw [show sd.take i = sd from List.take_of_length_le (by omega)] at hO ⊢
   exact f_fin1 [om] Try.results67 rfl (by repeat (first | exact Sub.nil | refine Sub.pick ?_ | refine Sub.castO rfl ?_)) ⟨om, rfl, hO⟩

set_option maxRecDepth 100000 in
set_option maxHeartbeats 4000000 in
theorem RTidy_spec (A : Option Addr) (L : List Nat) (cap : Nat) (w : World) (hr : Ro (Fr w []) w A (nats L)) (hl : L.length ≤ 1000000) :
    Meets Try.prog 77 [.slice A L.length cap] w [] (fun u own' => ∃ P b, u = .slice (some ⟨b, 0, none⟩) L.length L.length ∧ own' = [[(b, blk (nats P) 3)]] ∧ TidyTo L L.length P) := by
 refine f_enter Try.func77 rfl Try.ntmps77 rfl Owns.nil ?_
 refine f_seq fun K1 kh1 => ?_
 refine f_region ?_
 refine f_stepP rfl rfl rfl (o_assign rfl) ?_
 refine f_done ?_
 refine f_tn (kh1 _ _ ?_)
 clear kh1
 refine f_seq fun K2 kh2 => ?_
 refine f_region ?_
 refine f_stepP rfl rfl rfl (o_move rfl) ?_
 refine f_stepP rfl rfl rfl (o_len sl35 rfl) ?_
 refine f_step rfl rfl rfl (o_make el35 rfl rfl L.length rfl (by omega) (by omega) (nats (List.replicate L.length 0)) (nats_replicate _) fun b9 => ?_)
 refine f_stepP rfl rfl rfl (o_assign rfl) ?_
 refine f_done ?_
 refine f_tn (kh2 _ _ ?_)
 clear kh2
 refine f_seq fun K3 kh3 => ?_
 refine f_region ?_
 refine f_stepP rfl rfl rfl (o_assign rfl) ?_
 refine f_done ?_
 refine f_tn (kh3 _ _ ?_)
 clear kh3
 refine f_seq fun K4 kh4 => ?_
 refine f_seq fun K5 kh5 => ?_
 refine f_region ?_
 refine f_stepP rfl rfl rfl (o_assign rfl) ?_
 refine f_done ?_
 refine f_tn (kh5 _ _ ?_)
 clear kh5
 refine f_block ?_
 refine f_loop (α := Nat × List Nat × List Value × Nat) [0, 3] (fun ⟨v, P, rest, nx⟩ => [(5, .int .i64 (v : Int)), (4, .int .i64 (nx : Int))]) (fun ⟨v, P, rest, nx⟩ => [[(b9, blk (nats P ++ rest) 3)]]) (fun ⟨v, P, rest, nx⟩ => v ≤ L.length ∧ TidyTo L v P ∧ rest.length = L.length - v ∧ nx = nxt P v) (fun ⟨v, P, rest, nx⟩ => L.length - v) (0, [], nats (List.replicate L.length 0), 0) ?_ ?_ ?_ ?_
 · exact (by repeat (first | exact trivial | refine ⟨rfl, ?_⟩))
 · repeat (first | exact Sub.nil | refine Sub.pick ?_ | refine Sub.castO rfl ?_ | refine Sub.skip ?_)
 · exact ⟨Nat.zero_le _, TidyTo.start L, by rw [nats_length]; simp, rfl⟩
 ·
  rintro ⟨v, P, rest, nx⟩ ⟨hvn, hT, hrl, hnx⟩
  have hPl := hT.len
  have hnv := nxt_le P v
  refine f_seq fun K6 kh6 => ?_
  refine f_seq fun K7 kh7 => ?_
  refine f_region ?_
  refine f_stepP rfl rfl rfl (o_move rfl) ?_
  refine f_stepP rfl rfl rfl (o_move rfl) ?_
  refine f_stepP rfl rfl rfl (o_len sl35 rfl) ?_
  refine f_stepP rfl rfl rfl (o_lss rfl rfl) ?_
  refine f_done ?_
  refine f_tn (kh7 _ _ ?_)
  clear kh7
  refine f_cond rfl (fun c13 => ?_) (fun c13 => ?_)
  ·
   refine f_skip ?_
   refine f_tn (kh6 _ _ ?_)
   clear kh6
   refine f_seq fun K8 kh8 => ?_
   refine f_block ?_
   refine f_seq fun K9 kh9 => ?_
   refine f_region ?_
   refine f_stepP rfl rfl rfl (o_move rfl) ?_
   refine f_stepP rfl rfl rfl (o_move rfl) ?_
   have hv : v < L.length := by omega
   obtain ⟨r0, rest', rfl⟩ : ∃ r0 rest', rest = r0 :: rest' := by cases rest with | nil => simp at hrl; omega | cons a b => exact ⟨a, b, rfl⟩
   have hgd : ∀ i (h : i < L.length), L.getD i 0 = L[i] := fun i h => by simp [List.getD_eq_getElem?_getD, h]
   have hPn : (nats P).length = v := by rw [nats_length]; exact hPl
   refine f_stepP rfl rfl rfl (o_idx sl35 rfl rfl (v) ⟨by omega, by omega, by first | omega | (simp; done) | (simp; omega)⟩) ?_
   refine f_step0 rfl rfl (o_store Try.sizeOf3 rfl rfl rfl rfl (by rw [List.length_append, hPn]; simp) (nats P ++ .int .i64 (-1) :: rest') (by rw [List.set_append_right _ _ (by omega), hPn, Nat.sub_self]; rfl) ?_)
   refine f_done ?_
   refine f_tn (kh9 _ _ ?_)
   clear kh9
   refine f_seq fun K10 kh10 => ?_
   refine f_seq fun K11 kh11 => ?_
   refine f_region ?_
   refine f_stepP rfl rfl rfl (o_assign rfl) ?_
   refine f_done ?_
   refine f_tn (kh11 _ _ ?_)
   clear kh11
   refine f_block ?_
   refine f_loop (α := Nat × Int) [0, 3, 4, 5] (fun ⟨u, x⟩ => [(6, .int .i64 (u : Int))]) (fun ⟨u, x⟩ => [[(b9, blk (nats P ++ .int .i64 x :: rest') 3)]]) (fun ⟨u, x⟩ => u ≤ v ∧ TIn L P v u x) (fun ⟨u, x⟩ => v - u) (0, -1) ?_ ?_ ?_ ?_
   · exact (by repeat (first | exact trivial | refine ⟨rfl, ?_⟩))
   · repeat (first | exact Sub.nil | refine Sub.pick ?_ | refine Sub.castO rfl ?_ | refine Sub.skip ?_)
   · exact ⟨Nat.zero_le _, .inl ⟨rfl, fun i h => by omega⟩⟩
   ·
    rintro ⟨u, x⟩ ⟨huv, hx⟩
    refine f_envC (e := [(6, _), (0, _), (3, _), (4, _), (5, _)]) (by repeat (first | exact trivial | refine ⟨rfl, ?_⟩)) ?_
    refine f_seq fun K12 kh12 => ?_
    refine f_seq fun K13 kh13 => ?_
    refine f_region ?_
    refine f_stepP rfl rfl rfl (o_move rfl) ?_
    refine f_stepP rfl rfl rfl (o_move rfl) ?_
    refine f_stepP rfl rfl rfl (o_lss rfl rfl) ?_
    refine f_stepP rfl rfl rfl (o_move rfl) ?_
    refine f_splitL 22 rfl (fun g22 => ?_) (fun g22 => ?_)
    ·
     refine f_stepPY rfl rfl rfl rfl rfl (o_move rfl) ?_
     refine f_stepPY rfl rfl rfl rfl rfl (o_move rfl) ?_
     refine f_stepPY rfl rfl rfl rfl rfl (o_idx sl35 rfl rfl (v) ⟨by omega, by omega, by first | omega | (simp; done) | (simp; omega)⟩) ?_
     refine f_stepPY rfl rfl rfl rfl rfl (o_load Try.isAgg3 rfl (rdA (v := .int .i64 x) (by rw [List.getElem?_append_right (by omega), hPn, Nat.sub_self]; rfl))) ?_
     refine f_stepPY rfl rfl rfl rfl rfl (o_lss rfl rfl) ?_
     refine f_stepP rfl rfl rfl (o_pickT rfl rfl) ?_
     refine f_done ?_
     refine f_tn (kh13 _ _ ?_)
     clear kh13
     refine f_cond rfl (fun c28 => ?_) (fun c28 => ?_)
     ·
      refine f_skip ?_
      refine f_tn (kh12 _ _ ?_)
      clear kh12
      refine f_seq fun K14 kh14 => ?_
      refine f_block ?_
      refine f_seq fun K15 kh15 => ?_
      refine f_regionS rfl (by decide +kernel) ?_
      refine f_stillP rfl rfl rfl (o_move rfl) ?_
      refine f_stillP rfl rfl rfl (o_move rfl) ?_
      have huL : u < L.length := by omega
      obtain ⟨bq, off, rfl, hS, hc⟩ := hr (by intro e; have := nats_length L; rw [e] at this; simp at this; omega)
      refine f_stillP rfl rfl rfl (o_idx sl35 rfl rfl (off + u) ⟨by omega, by omega, by first | omega | (simp; done) | (simp; omega)⟩) ?_
      refine f_stillP rfl rfl rfl (o_load Try.isAgg3 rfl (rdS hS (hc u _ (nats_get huL)))) ?_
      refine f_stillP rfl rfl rfl (o_move rfl) ?_
      refine f_stillP rfl rfl rfl (o_move rfl) ?_
      refine f_stillP rfl rfl rfl (o_idx sl35 rfl rfl (off + v) ⟨by omega, by omega, by first | omega | (simp; done) | (simp; omega)⟩) ?_
      refine f_stillP rfl rfl rfl (o_load Try.isAgg3 rfl (rdS hS (hc v _ (nats_get hv)))) ?_
      refine f_stillP rfl rfl rfl (o_eql rfl rfl) ?_
      refine f_stillD ?_
      refine f_tn (kh15 _ _ ?_)
      clear kh15
      refine f_cond rfl (fun c39 => ?_) (fun c39 => ?_)
      ·
       refine f_region ?_
       refine f_stepP rfl rfl rfl (o_move rfl) ?_
       refine f_stepP rfl rfl rfl (o_move rfl) ?_
       refine f_stepP rfl rfl rfl (o_move rfl) ?_
       refine f_stepP rfl rfl rfl (o_move rfl) ?_
       refine f_stepP rfl rfl rfl (o_idx sl35 rfl rfl (u) ⟨by omega, by omega, by first | omega | (simp; done) | (simp; omega)⟩) ?_
       refine f_stepP rfl rfl rfl (o_load Try.isAgg3 rfl (rdA (app_get (nats_get (by omega))))) ?_
       refine f_stepP rfl rfl rfl (o_idx sl35 rfl rfl (v) ⟨by omega, by omega, by first | omega | (simp; done) | (simp; omega)⟩) ?_
       refine f_step0 rfl rfl (o_store Try.sizeOf3 rfl rfl rfl rfl (by rw [List.length_append, hPn]; simp) (nats P ++ .int .i64 (P[u]'(by omega) : Int) :: rest') (by rw [List.set_append_right _ _ (by omega), hPn, Nat.sub_self]; rfl) ?_)
       refine f_done ?_
       refine f_bn ?_
       refine f_tn (kh14 _ _ ?_)
       clear kh14
       refine f_region ?_
       refine f_stepP rfl rfl rfl (o_move rfl) ?_
       refine f_stepP rfl rfl rfl (o_add rfl rfl _ (wrap_i64 (by omega))) ?_
       refine f_stepP rfl rfl rfl (o_assign rfl) ?_
       refine f_done ?_
       refine f_tn (f_again (u + 1, (P[u] : Int)) (by first | omega | (dsimp only; omega) | (simp; omega)) ⟨by omega, .inr ⟨u, by omega, rfl, by rw [hgd u (by omega), hgd v hv]; omega⟩⟩ ?_ ?_ ?_)
       · exact (by repeat (first | exact trivial | refine ⟨rfl, ?_⟩))
       · exact (by repeat (first | exact trivial | refine ⟨rfl, ?_⟩))
       · repeat (first | exact Sub.nil | refine Sub.pick ?_ | refine Sub.castO rfl ?_ | refine Sub.skip ?_)
      ·
       refine f_skip ?_
       refine f_bn ?_
       refine f_tn (kh14 _ _ ?_)
       clear kh14
       refine f_region ?_
       refine f_stepP rfl rfl rfl (o_move rfl) ?_
       refine f_stepP rfl rfl rfl (o_add rfl rfl _ (wrap_i64 (by omega))) ?_
       refine f_stepP rfl rfl rfl (o_assign rfl) ?_
       refine f_done ?_
       refine f_tn (f_again (u + 1, x) (by first | omega | (dsimp only; omega) | (simp; omega)) ⟨by omega, by
         rcases hx with ⟨e, h⟩ | ⟨i, hi, e, h⟩
         · exact .inl ⟨e, fun i hi => by
             by_cases e' : i = u
             · subst e'; rw [hgd i (by omega), hgd v hv]; omega
             · exact h i (by omega)⟩
         · omega⟩ ?_ ?_ ?_)
       · exact (by repeat (first | exact trivial | refine ⟨rfl, ?_⟩))
       · exact (by repeat (first | exact trivial | refine ⟨rfl, ?_⟩))
       · repeat (first | exact Sub.nil | refine Sub.pick ?_ | refine Sub.castO rfl ?_ | refine Sub.skip ?_)
     ·
      refine f_exit ?_
      refine f_te ?_
      clear kh12
      refine f_te ?_
      refine f_be ?_
      refine f_tn (kh10 _ _ ?_)
      clear kh10
      refine f_seq fun K16 kh16 => ?_
      refine f_region ?_
      refine f_stepP rfl rfl rfl (o_move rfl) ?_
      refine f_stepP rfl rfl rfl (o_move rfl) ?_
      refine f_stepP rfl rfl rfl (o_idx sl35 rfl rfl (v) ⟨by omega, by omega, by first | omega | (simp; done) | (simp; omega)⟩) ?_
      refine f_stepP rfl rfl rfl (o_load Try.isAgg3 rfl (rdA (v := .int .i64 x) (by rw [List.getElem?_append_right (by omega), hPn, Nat.sub_self]; rfl))) ?_
      refine f_stepP rfl rfl rfl (o_lss rfl rfl) ?_
      refine f_done ?_
      refine f_tn (kh16 _ _ ?_)
      clear kh16
      refine f_cond rfl (fun c51 => ?_) (fun c51 => ?_)
      ·
       omega -- closed
      ·
       obtain ⟨i, hi, hxi, hLi⟩ := hx.resolve_left (fun h => by have := h.1; omega)
       refine f_skip ?_
       refine f_bn ?_
       refine f_tn (kh8 _ _ ?_)
       clear kh8
       refine f_region ?_
       refine f_stepP rfl rfl rfl (o_move rfl) ?_
       refine f_stepP rfl rfl rfl (o_add rfl rfl _ (wrap_i64 (by omega))) ?_
       refine f_stepP rfl rfl rfl (o_assign rfl) ?_
       refine f_done ?_
       refine f_subQ (out := [[(b9, blk (nats (P ++ [P[i]]) ++ rest') 3)]]) (Sub.castO (by rw [hxi, nats_app]; simp [nats]) Sub.nil) ?_
       refine f_tn (f_again (v + 1, P ++ [P[i]], rest', nx) (by first | omega | (dsimp only; omega) | (simp; omega)) ⟨by omega, (hT.old hi hLi).1, by simp at hrl; omega, by rw [(hT.old hi hLi).2, hnx]⟩ ?_ ?_ ?_)
       · exact (by repeat (first | exact trivial | refine ⟨rfl, ?_⟩))
       · exact (by repeat (first | exact trivial | refine ⟨rfl, ?_⟩))
       · repeat (first | exact Sub.nil | refine Sub.pick ?_ | refine Sub.castO rfl ?_ | refine Sub.skip ?_)
    ·
     refine f_stepN rfl rfl rfl rfl rfl rfl ?_
     refine f_stepN rfl rfl rfl rfl rfl rfl ?_
     refine f_stepN rfl rfl rfl rfl rfl rfl ?_
     refine f_stepN rfl rfl rfl rfl rfl rfl ?_
     refine f_stepN rfl rfl rfl rfl rfl rfl ?_
     refine f_stepP rfl rfl rfl (o_pickF rfl rfl) ?_
     refine f_done ?_
     refine f_tn (kh13 _ _ ?_)
     clear kh13
     refine f_condF rfl ?_
     refine f_exit ?_
     refine f_te ?_
     clear kh12
     refine f_te ?_
     refine f_be ?_
     refine f_tn (kh10 _ _ ?_)
     clear kh10
     refine f_seq fun K17 kh17 => ?_
     refine f_region ?_
     refine f_stepP rfl rfl rfl (o_move rfl) ?_
     refine f_stepP rfl rfl rfl (o_move rfl) ?_
     refine f_stepP rfl rfl rfl (o_idx sl35 rfl rfl (v) ⟨by omega, by omega, by first | omega | (simp; done) | (simp; omega)⟩) ?_
     refine f_stepP rfl rfl rfl (o_load Try.isAgg3 rfl (rdA (v := .int .i64 x) (by rw [List.getElem?_append_right (by omega), hPn, Nat.sub_self]; rfl))) ?_
     refine f_stepP rfl rfl rfl (o_lss rfl rfl) ?_
     refine f_done ?_
     refine f_tn (kh17 _ _ ?_)
     clear kh17
     refine f_cond rfl (fun c51 => ?_) (fun c51 => ?_)
     ·
      have hall : ∀ u, u < v → L.getD u 0 ≠ L.getD v 0 := by
        rcases hx with ⟨_, h⟩ | ⟨i, hi, e, _⟩
        · exact fun q hq => h q (by omega)
        · omega
      refine f_seq fun K18 kh18 => ?_
      refine f_region ?_
      refine f_stepP rfl rfl rfl (o_move rfl) ?_
      refine f_stepP rfl rfl rfl (o_move rfl) ?_
      refine f_stepP rfl rfl rfl (o_move rfl) ?_
      refine f_stepP rfl rfl rfl (o_idx sl35 rfl rfl (v) ⟨by omega, by omega, by first | omega | (simp; done) | (simp; omega)⟩) ?_
      refine f_step0 rfl rfl (o_store Try.sizeOf3 rfl rfl rfl rfl (by rw [List.length_append, hPn]; simp) (nats P ++ .int .i64 (nx : Int) :: rest') (by rw [List.set_append_right _ _ (by omega), hPn, Nat.sub_self]; rfl) ?_)
      refine f_done ?_
      refine f_tn (kh18 _ _ ?_)
      clear kh18
      refine f_region ?_
      refine f_stepP rfl rfl rfl (o_move rfl) ?_
      refine f_stepP rfl rfl rfl (o_add rfl rfl _ (wrap_i64 (by omega))) ?_
      refine f_stepP rfl rfl rfl (o_assign rfl) ?_
      refine f_done ?_
      refine f_bn ?_
      refine f_tn (kh8 _ _ ?_)
      clear kh8
      refine f_region ?_
      refine f_stepP rfl rfl rfl (o_move rfl) ?_
      refine f_stepP rfl rfl rfl (o_add rfl rfl _ (wrap_i64 (by omega))) ?_
      refine f_stepP rfl rfl rfl (o_assign rfl) ?_
      refine f_done ?_
      refine f_subQ (out := [[(b9, blk (nats (P ++ [nx]) ++ rest') 3)]]) (Sub.castO (by rw [nats_app]; simp [nats]) Sub.nil) ?_
      refine f_tn (f_again (v + 1, P ++ [nx], rest', nx + 1) (by first | omega | (dsimp only; omega) | (simp; omega)) ⟨by omega, by rw [hnx]; exact (hT.new hall).1, by simp at hrl; omega, by rw [hnx, (hT.new hall).2]⟩ ?_ ?_ ?_)
      · exact (by repeat (first | exact trivial | refine ⟨rfl, ?_⟩))
      · exact (by repeat (first | exact trivial | refine ⟨rfl, ?_⟩))
      · repeat (first | exact Sub.nil | refine Sub.pick ?_ | refine Sub.castO rfl ?_ | refine Sub.skip ?_)
     ·
      obtain ⟨i, hi, hxi, hLi⟩ := hx.resolve_left (fun h => by have := h.1; omega)
      refine f_skip ?_
      refine f_bn ?_
      refine f_tn (kh8 _ _ ?_)
      clear kh8
      refine f_region ?_
      refine f_stepP rfl rfl rfl (o_move rfl) ?_
      refine f_stepP rfl rfl rfl (o_add rfl rfl _ (wrap_i64 (by omega))) ?_
      refine f_stepP rfl rfl rfl (o_assign rfl) ?_
      refine f_done ?_
      refine f_subQ (out := [[(b9, blk (nats (P ++ [P[i]]) ++ rest') 3)]]) (Sub.castO (by rw [hxi, nats_app]; simp [nats]) Sub.nil) ?_
      refine f_tn (f_again (v + 1, P ++ [P[i]], rest', nx) (by first | omega | (dsimp only; omega) | (simp; omega)) ⟨by omega, (hT.old hi hLi).1, by simp at hrl; omega, by rw [(hT.old hi hLi).2, hnx]⟩ ?_ ?_ ?_)
      · exact (by repeat (first | exact trivial | refine ⟨rfl, ?_⟩))
      · exact (by repeat (first | exact trivial | refine ⟨rfl, ?_⟩))
      · repeat (first | exact Sub.nil | refine Sub.pick ?_ | refine Sub.castO rfl ?_ | refine Sub.skip ?_)
  ·
   refine f_exit ?_
   refine f_te ?_
   clear kh6
   refine f_te ?_
   refine f_be ?_
   refine f_tn (kh4 _ _ ?_)
   clear kh4
   refine f_seq fun K19 kh19 => ?_
   refine f_region ?_
   refine f_stepP rfl rfl rfl (o_move rfl) ?_
   refine f_stepP rfl rfl rfl (o_assign rfl) ?_
   refine f_done ?_
   refine f_tn (kh19 _ _ ?_)
   clear kh19
   refine f_ret ?_
   obtain rfl : v = L.length := by omega
   obtain rfl : rest = [] := List.eq_nil_of_length_eq_zero (by omega)
   exact f_fin1 [[(b9, blk (nats P) 3)]] Try.results77 rfl (Sub.castO (by rw [List.append_nil]) Sub.nil) ⟨P, b9, rfl, rfl, hT⟩

set_option maxRecDepth 100000 in
set_option maxHeartbeats 4000000 in
theorem RConn_spec (n : Nat) (A : Option Addr) (l : List Arc) (cap : Nat) (C : Option Addr) (bl cb : Nat) (w : World) (hr : Ro (Fr w []) w A (l.flatMap arcCs)) (hl : l.length ≤ 8192) (hn : 1 ≤ n ∧ n ≤ 1024) (hgood : ∀ k (hk : k < l.length), 0 ≤ l[k].src ∧ l[k].src < (n : Int) ∧ 0 ≤ l[k].dst ∧ l[k].dst < (n : Int)) (hb : Ro (Fr w []) w C ((List.replicate l.length true).map .bool)) (hbl : bl = l.length) :
    Meets Try.prog 60 [.agg #[.int .i64 (n : Int), .slice A l.length cap], .slice C bl cb] w [] (fun u own' => ∃ p b, u = .slice (some ⟨b, 0, none⟩) n n ∧ own' = [[(b, blk (nats p) 3)]] ∧ IsParts n (ends2 l) p) := by
 subst bl
 refine f_enter Try.func60 rfl Try.ntmps60 rfl Owns.nil ?_
 refine f_seq fun K1 kh1 => ?_
 refine f_region ?_
 refine f_step rfl rfl rfl (o_box rfl rfl fun b2 => ?_)
 refine f_stepP rfl rfl rfl (o_assign rfl) ?_
 refine f_done ?_
 refine f_tn (kh1 _ _ ?_)
 clear kh1
 refine f_seq fun K2 kh2 => ?_
 refine f_region ?_
 refine f_stepP rfl rfl rfl (o_field fa24_0 rfl) ?_
 refine f_stepP rfl rfl rfl (o_load Try.isAgg3 rfl (rdA rfl)) ?_
 refine f_step rfl rfl rfl (o_make el35 rfl rfl n rfl (by omega) (by omega) (nats (List.replicate n 0)) (nats_replicate n) fun b13 => ?_)
 refine f_stepP rfl rfl rfl (o_assign rfl) ?_
 refine f_done ?_
 refine f_tn (kh2 _ _ ?_)
 clear kh2
 refine f_seq fun K3 kh3 => ?_
 refine f_seq fun K4 kh4 => ?_
 refine f_region ?_
 refine f_stepP rfl rfl rfl (o_assign rfl) ?_
 refine f_done ?_
 refine f_tn (kh4 _ _ ?_)
 clear kh4
 refine f_block ?_
 refine f_loop (α := Nat × List Nat) [1, 2, 5] (fun ⟨k, up⟩ => [(6, .int .i64 (k : Int))]) (fun ⟨k, up⟩ => [[(b13, blk (nats up) 3)], [(b2, blk [.int .i64 (n : Int), .slice A l.length cap] 24)]]) (fun ⟨k, up⟩ => k ≤ n ∧ up.length = n ∧ ∀ j (h : j < up.length), j < k → up[j] = j) (fun ⟨k, up⟩ => n - k) (0, List.replicate n 0) ?_ ?_ ?_ ?_
 · exact (by repeat (first | exact trivial | refine ⟨rfl, ?_⟩))
 · repeat (first | exact Sub.nil | refine Sub.pick ?_ | refine Sub.castO rfl ?_ | refine Sub.skip ?_)
 · exact ⟨by omega, by simp, fun j _ h => by omega⟩
 ·
  rintro ⟨k, up⟩ ⟨hkn, hul, hup⟩
  refine f_seq fun K5 kh5 => ?_
  refine f_seq fun K6 kh6 => ?_
  refine f_region ?_
  refine f_stepP rfl rfl rfl (o_move rfl) ?_
  refine f_stepP rfl rfl rfl (o_field fa24_0 rfl) ?_
  refine f_stepP rfl rfl rfl (o_load Try.isAgg3 rfl (rdA rfl)) ?_
  refine f_stepP rfl rfl rfl (o_lss rfl rfl) ?_
  refine f_done ?_
  refine f_tn (kh6 _ _ ?_)
  clear kh6
  refine f_cond rfl (fun c17 => ?_) (fun c17 => ?_)
  ·
   refine f_skip ?_
   refine f_tn (kh5 _ _ ?_)
   clear kh5
   refine f_seq fun K7 kh7 => ?_
   refine f_block ?_
   refine f_region ?_
   refine f_stepP rfl rfl rfl (o_move rfl) ?_
   refine f_stepP rfl rfl rfl (o_move rfl) ?_
   refine f_stepP rfl rfl rfl (o_move rfl) ?_
   have hk : k < n := by omega
   refine f_stepP rfl rfl rfl (o_idx sl35 rfl rfl (k) ⟨by omega, by omega, by first | omega | (simp; done) | (simp; omega)⟩) ?_
   refine f_step0 rfl rfl (o_store Try.sizeOf3 rfl rfl rfl rfl (by rw [nats_length]; omega) (nats (up.set k k)) (nats_set _ _ _) ?_)
   refine f_done ?_
   refine f_bn ?_
   refine f_tn (kh7 _ _ ?_)
   clear kh7
   refine f_region ?_
   refine f_stepP rfl rfl rfl (o_move rfl) ?_
   refine f_stepP rfl rfl rfl (o_add rfl rfl _ (wrap_i64 (by omega))) ?_
   refine f_stepP rfl rfl rfl (o_assign rfl) ?_
   refine f_done ?_
   refine f_tn (f_again (k + 1, up.set k k) (by first | omega | (dsimp only; omega) | (simp; omega)) ⟨by omega, by simp [hul], fun j h hj => by rw [List.getElem_set]; split <;> first | assumption | exact hup j (by simpa using h) (by omega)⟩ ?_ ?_ ?_)
   · exact (by repeat (first | exact trivial | refine ⟨rfl, ?_⟩))
   · exact (by repeat (first | exact trivial | refine ⟨rfl, ?_⟩))
   · repeat (first | exact Sub.nil | refine Sub.pick ?_ | refine Sub.castO rfl ?_ | refine Sub.skip ?_)
  ·
   refine f_exit ?_
   refine f_te ?_
   clear kh5
   refine f_te ?_
   refine f_be ?_
   refine f_tn (kh3 _ _ ?_)
   clear kh3
   refine f_seq fun K8 kh8 => ?_
   refine f_seq fun K9 kh9 => ?_
   refine f_region ?_
   refine f_stepP rfl rfl rfl (o_assign rfl) ?_
   refine f_done ?_
   refine f_tn (kh9 _ _ ?_)
   clear kh9
   refine f_block ?_
   have hup0 := up_range hul (fun j h => hup j h (by omega))
   refine f_loop (α := Bool × List Nat) [1, 2, 5] (fun ⟨ag, o⟩ => [(7, .bool ag)]) (fun ⟨ag, o⟩ => [[(b13, blk (nats o) 3)], [(b2, blk [.int .i64 (n : Int), .slice A l.length cap] 24)]]) (fun ⟨ag, o⟩ => CI (ends2 l) n o ∧ (ag = false → ∀ j (hj : j < l.length), o.getD l[j].src.toNat 0 = o.getD l[j].dst.toNat 0)) (fun ⟨ag, o⟩ => if ag then nsum o + 1 else 0) (true, up) ?_ ?_ ?_ ?_
   · exact (by repeat (first | exact trivial | refine ⟨rfl, ?_⟩))
   · repeat (first | exact Sub.nil | refine Sub.pick ?_ | refine Sub.castO rfl ?_ | refine Sub.skip ?_)
   · exact ⟨by rw [hup0]; exact CI.start _ _, fun h => by cases h⟩
   ·
    rintro ⟨ag, o⟩ ⟨hCI, hag⟩
    have hol := hCI.len
    refine f_envC (e := [(7, _), (1, _), (2, _), (5, _)]) (by repeat (first | exact trivial | refine ⟨rfl, ?_⟩)) ?_
    refine f_seq fun K10 kh10 => ?_
    refine f_seq fun K11 kh11 => ?_
    refine f_region ?_
    refine f_stepP rfl rfl rfl (o_move rfl) ?_
    refine f_done ?_
    refine f_tn (kh11 _ _ ?_)
    clear kh11
    refine f_condB rfl (fun c24 => ?_) (fun c24 => ?_)
    ·
     refine f_skip ?_
     refine f_tn (kh10 _ _ ?_)
     clear kh10
     refine f_block ?_
     refine f_seq fun K12 kh12 => ?_
     refine f_region ?_
     refine f_stepP rfl rfl rfl (o_assign rfl) ?_
     refine f_done ?_
     refine f_tn (kh12 _ _ ?_)
     clear kh12
     refine f_seq fun K13 kh13 => ?_
     refine f_region ?_
     refine f_stepP rfl rfl rfl (o_assign rfl) ?_
     refine f_done ?_
     refine f_tn (kh13 _ _ ?_)
     clear kh13
     refine f_block ?_
     refine f_loop (α := Nat × Bool × List Nat) [1, 2, 5] (fun ⟨i, ag2, o2⟩ => [(8, .int .i64 (i : Int)), (7, .bool ag2)]) (fun ⟨i, ag2, o2⟩ => [[(b13, blk (nats o2) 3)], [(b2, blk [.int .i64 (n : Int), .slice A l.length cap] 24)]]) (fun ⟨i, ag2, o2⟩ => i ≤ l.length ∧ CI (ends2 l) n o2 ∧ (ag2 = false → (∀ j (hj : j < l.length), j < i → o2.getD l[j].src.toNat 0 = o2.getD l[j].dst.toNat 0) ∧ o2 = o) ∧ (ag2 = true → nsum o2 < nsum o)) (fun ⟨i, ag2, o2⟩ => l.length - i) (0, false, o) ?_ ?_ ?_ ?_
     · exact (by repeat (first | exact trivial | refine ⟨rfl, ?_⟩))
     · repeat (first | exact Sub.nil | refine Sub.pick ?_ | refine Sub.castO rfl ?_ | refine Sub.skip ?_)
     · exact ⟨Nat.zero_le _, hCI, fun _ => ⟨fun j _ h => by omega, rfl⟩, fun h => by cases h⟩
     ·
      rintro ⟨i, ag2, o2⟩ ⟨hil, hCI2, hF2, hT2⟩
      have hol2 := hCI2.len
      refine f_envC (e := [(8, _), (7, _), (1, _), (2, _), (5, _)]) (by repeat (first | exact trivial | refine ⟨rfl, ?_⟩)) ?_
      refine f_seq fun K14 kh14 => ?_
      refine f_seq fun K15 kh15 => ?_
      refine f_region ?_
      refine f_stepP rfl rfl rfl (o_move rfl) ?_
      refine f_stepP rfl rfl rfl (o_field fa24_1 rfl) ?_
      refine f_stepP rfl rfl rfl (o_load Try.isAgg22 rfl (rdA rfl)) ?_
      refine f_stepP rfl rfl rfl (o_len sl22 rfl) ?_
      refine f_stepP rfl rfl rfl (o_lss rfl rfl) ?_
      refine f_done ?_
      refine f_tn (kh15 _ _ ?_)
      clear kh15
      refine f_cond rfl (fun c29 => ?_) (fun c29 => ?_)
      ·
       refine f_skip ?_
       refine f_tn (kh14 _ _ ?_)
       clear kh14
       refine f_seq fun K16 kh16 => ?_
       refine f_block ?_
       refine f_seq fun K17 kh17 => ?_
       refine f_region ?_
       refine f_stepP rfl rfl rfl (o_field fa24_1 rfl) ?_
       refine f_stepP rfl rfl rfl (o_load Try.isAgg22 rfl (rdA rfl)) ?_
       refine f_stepP rfl rfl rfl (o_move rfl) ?_
       have hi : i < l.length := by omega
       obtain ⟨bq, off, rfl, hS, hc⟩ := hr (flat_ne arcCs arcCs_len (by omega) hi)
       have hgi := hgood i hi
       obtain ⟨a, haa⟩ : ∃ a, l[i].src.toNat = a := ⟨_, rfl⟩
       obtain ⟨b, hbb⟩ : ∃ b, l[i].dst.toNat = b := ⟨_, rfl⟩
       have ha : a < o2.length := by omega
       have hb' : b < o2.length := by omega
       have hmem : (a, b) ∈ ends2 l := List.mem_map.2 ⟨l[i], List.getElem_mem hi, by rw [haa, hbb]⟩
       have hga : o2.getD l[i].src.toNat 0 = o2[a] := by rw [haa]; simp [List.getD_eq_getElem?_getD, ha]
       have hgb : o2.getD l[i].dst.toNat 0 = o2[b] := by rw [hbb]; simp [List.getD_eq_getElem?_getD, hb']
       obtain ⟨bc, oc, rfl, hSc, hcc⟩ := hb (map_ne (k := i) (by simpa using hi))
       refine f_stepP rfl rfl rfl (o_idx sl22 rfl rfl (off + i * 3) ⟨by omega, by omega, by first | omega | (simp; done) | (simp; omega)⟩) ?_
       refine f_stepP rfl rfl rfl (o_loadA (vs := arcCs l[i]) Try.isAgg55 Try.sizeOf55 rfl rfl (roElem arcCs_len hS hc hi)) ?_
       refine f_step rfl rfl rfl (o_alloc Try.zeroValue55 rfl fun b9 => ?_)
       refine f_step0 rfl rfl (o_storeA Try.sizeOf55 rfl rfl rfl rfl (by first | exact Nat.le_of_ble_eq_true rfl | (simp; done) | (simp; omega)) (arcCs l[i]) rfl ?_)
       refine f_done ?_
       refine f_tn (kh17 _ _ ?_)
       clear kh17
       refine f_seq fun K18 kh18 => ?_
       refine f_regionT 11 rfl (by decide +kernel) ?_
       refine f_stillP rfl rfl rfl (o_move rfl) ?_
       refine f_stillP rfl rfl rfl (o_field fa55_0 rfl) ?_
       refine f_stillP rfl rfl rfl (o_load Try.isAgg3 rfl (rdA rfl)) ?_
       refine f_stillP rfl rfl rfl (o_idx sl35 rfl rfl (a) ⟨by omega, by omega, by first | omega | (simp; done) | (simp; omega)⟩) ?_
       refine f_stillP rfl rfl rfl (o_load Try.isAgg3 rfl (rdA (nats_get ha))) ?_
       refine f_stillP rfl rfl rfl (o_move rfl) ?_
       refine f_stillP rfl rfl rfl (o_field fa55_1 rfl) ?_
       refine f_stillP rfl rfl rfl (o_load Try.isAgg3 rfl (rdA rfl)) ?_
       refine f_stillP rfl rfl rfl (o_idx sl35 rfl rfl (b) ⟨by omega, by omega, by first | omega | (simp; done) | (simp; omega)⟩) ?_
       refine f_stillP rfl rfl rfl (o_load Try.isAgg3 rfl (rdA (nats_get hb'))) ?_
       refine f_stillP rfl rfl rfl (o_min rfl rfl) ?_
       refine f_stillD (f_tail ?_)
       refine f_stepP rfl rfl rfl (o_assign rfl) ?_
       refine f_done ?_
       refine f_tn (kh18 _ _ ?_)
       clear kh18
       refine f_seq fun K19 kh19 => ?_
       refine f_regionS rfl (by decide +kernel) ?_
       refine f_stillP rfl rfl rfl (o_move rfl) ?_
       refine f_stillP rfl rfl rfl (o_move rfl) ?_
       refine f_stillP rfl rfl rfl (o_idx sl42 rfl rfl (oc + i) ⟨by omega, by omega, by first | omega | (simp; done) | (simp; omega)⟩) ?_
       refine f_stillP rfl rfl rfl (o_load Try.isAgg4 rfl (rdS hSc (v := .bool true) (hcc i _ (by simp [hi])))) ?_
       refine f_stillP rfl rfl rfl (o_move rfl) ?_
       refine f_splitSB 52 rfl (fun g52 => ?_) (fun g52 => ?_)
       ·
        refine f_stillPY rfl rfl rfl rfl rfl (o_move rfl) ?_
        refine f_stillPY rfl rfl rfl rfl rfl (o_field fa55_0 rfl) ?_
        refine f_stillPY rfl rfl rfl rfl rfl (o_load Try.isAgg3 rfl (rdA rfl)) ?_
        refine f_stillPY rfl rfl rfl rfl rfl (o_idx sl35 rfl rfl (a) ⟨by omega, by omega, by first | omega | (simp; done) | (simp; omega)⟩) ?_
        refine f_stillPY rfl rfl rfl rfl rfl (o_load Try.isAgg3 rfl (rdA (nats_get ha))) ?_
        refine f_stillPY rfl rfl rfl rfl rfl (o_move rfl) ?_
        refine f_stillPY rfl rfl rfl rfl rfl (o_field fa55_1 rfl) ?_
        refine f_stillPY rfl rfl rfl rfl rfl (o_load Try.isAgg3 rfl (rdA rfl)) ?_
        refine f_stillPY rfl rfl rfl rfl rfl (o_idx sl35 rfl rfl (b) ⟨by omega, by omega, by first | omega | (simp; done) | (simp; omega)⟩) ?_
        refine f_stillPY rfl rfl rfl rfl rfl (o_load Try.isAgg3 rfl (rdA (nats_get hb'))) ?_
        refine f_stillPY rfl rfl rfl rfl rfl (o_neq rfl rfl) ?_
        refine f_stillP rfl rfl rfl (o_pickT rfl rfl) ?_
        refine f_stillD ?_
        refine f_tn (kh19 _ _ ?_)
        clear kh19
        refine f_cond rfl (fun c64 => ?_) (fun c64 => ?_)
        ·
         refine f_seq fun K20 kh20 => ?_
         refine f_regionH [[(b9, blk (arcCs l[i]) 55)]] rfl ?_
         refine f_take 0 rfl (by decide +kernel) rfl rfl rfl (by repeat (first | exact Sub.nil | refine Sub.pick ?_ | refine Sub.castO rfl ?_ | refine Sub.skip ?_)) (o_move rfl) ?_
         refine f_take 1 rfl (by decide +kernel) rfl rfl rfl (by repeat (first | exact Sub.nil | refine Sub.pick ?_ | refine Sub.castO rfl ?_ | refine Sub.skip ?_)) (o_field fa55_0 rfl) ?_
         refine f_take 2 rfl (by decide +kernel) rfl rfl rfl (by repeat (first | exact Sub.nil | refine Sub.pick ?_ | refine Sub.castO rfl ?_ | refine Sub.skip ?_)) (o_load Try.isAgg3 rfl (rdA rfl)) ?_
         refine f_take 3 rfl (by decide +kernel) rfl rfl rfl (by repeat (first | exact Sub.nil | refine Sub.pick ?_ | refine Sub.castO rfl ?_ | refine Sub.skip ?_)) (o_move rfl) ?_
         refine f_take 4 rfl (by decide +kernel) rfl rfl rfl (by repeat (first | exact Sub.nil | refine Sub.pick ?_ | refine Sub.castO rfl ?_ | refine Sub.skip ?_)) (o_field fa55_1 rfl) ?_
         refine f_take 5 rfl (by decide +kernel) rfl rfl rfl (by repeat (first | exact Sub.nil | refine Sub.pick ?_ | refine Sub.castO rfl ?_ | refine Sub.skip ?_)) (o_load Try.isAgg3 rfl (rdA rfl)) ?_
         refine f_take 6 rfl (by decide +kernel) rfl rfl rfl (by repeat (first | exact Sub.nil | refine Sub.pick ?_ | refine Sub.castO rfl ?_ | refine Sub.skip ?_)) (o_move rfl) ?_
         refine f_take 7 rfl (by decide +kernel) rfl rfl rfl (by repeat (first | exact Sub.nil | refine Sub.pick ?_ | refine Sub.castO rfl ?_ | refine Sub.skip ?_)) (o_move rfl) ?_
         refine f_take 8 rfl (by decide +kernel) rfl rfl rfl (by repeat (first | exact Sub.nil | refine Sub.pick ?_ | refine Sub.castO rfl ?_ | refine Sub.skip ?_)) (o_idx sl35 rfl rfl (a) ⟨by omega, by omega, by first | omega | (simp; done) | (simp; omega)⟩) ?_
         refine f_only0 9 rfl (by decide +kernel) rfl rfl (o_store Try.sizeOf3 rfl rfl rfl rfl (by rw [nats_length]; omega) (nats (o2.set a (min o2[a] o2[b]))) (by rw [← nats_set]; congr 2; omega) ⟨(by repeat (first | exact Sub.nil | refine Sub.pick ?_ | refine Sub.castO rfl ?_ | refine Sub.skip ?_)), ?_⟩)
         refine f_take 10 rfl (by decide +kernel) rfl rfl rfl (by repeat (first | exact Sub.nil | refine Sub.pick ?_ | refine Sub.castO rfl ?_ | refine Sub.skip ?_)) (o_idx sl35 rfl rfl (b) ⟨by omega, by omega, by first | omega | (simp; done) | (simp; omega)⟩) ?_
         refine f_only0 11 rfl (by decide +kernel) rfl rfl (o_store Try.sizeOf3 rfl rfl rfl rfl (by rw [nats_length, List.length_set]; omega) (nats ((o2.set a (min o2[a] o2[b])).set b (min o2[a] o2[b]))) (by rw [show min (o2[a] : Int) (o2[b] : Int) = ((min o2[a] o2[b] : Nat) : Int) by omega]; exact nats_set _ _ _) ⟨(by repeat (first | exact Sub.nil | refine Sub.pick ?_ | refine Sub.castO rfl ?_ | refine Sub.skip ?_)), ?_⟩)
         refine f_over (by decide +kernel) ?_
         refine f_tn (kh20 _ _ ?_)
         clear kh20
         refine f_region ?_
         refine f_stepP rfl rfl rfl (o_assign rfl) ?_
         refine f_done ?_
         refine f_bn ?_
         refine f_tn (kh16 _ _ ?_)
         clear kh16
         refine f_region ?_
         refine f_stepP rfl rfl rfl (o_move rfl) ?_
         refine f_stepP rfl rfl rfl (o_add rfl rfl _ (wrap_i64 (by omega))) ?_
         refine f_stepP rfl rfl rfl (o_assign rfl) ?_
         refine f_done ?_
         refine f_tn (f_again (i + 1, true, (o2.set a (min o2[a] o2[b])).set b (min o2[a] o2[b])) (by first | omega | (dsimp only; omega) | (simp; omega)) ⟨by omega, hCI2.join ha hb' hmem, (fun h => by cases h), fun _ => by
           have h1 := nsum_join ha hb' (show o2[a] ≠ o2[b] by omega)
           cases ag2 with
           | false => exact Nat.lt_of_lt_of_eq h1 (congrArg nsum (hF2 rfl).2)
           | true => have := hT2 rfl; omega⟩ ?_ ?_ ?_)
         · exact (by repeat (first | exact trivial | refine ⟨rfl, ?_⟩))
         · exact (by repeat (first | exact trivial | refine ⟨rfl, ?_⟩))
         · repeat (first | exact Sub.nil | refine Sub.pick ?_ | refine Sub.castO rfl ?_ | refine Sub.skip ?_)
        ·
         refine f_skip ?_
         refine f_bn ?_
         refine f_tn (kh16 _ _ ?_)
         clear kh16
         refine f_region ?_
         refine f_stepP rfl rfl rfl (o_move rfl) ?_
         refine f_stepP rfl rfl rfl (o_add rfl rfl _ (wrap_i64 (by omega))) ?_
         refine f_stepP rfl rfl rfl (o_assign rfl) ?_
         refine f_done ?_
         refine f_tn (f_again (i + 1, ag2, o2) (by first | omega | (dsimp only; omega) | (simp; omega)) ⟨by omega, hCI2, fun h => ⟨fun j hj hji => by
           by_cases e : j = i
           · subst e; rw [hga, hgb]; omega
           · exact (hF2 h).1 j hj (by omega), (hF2 h).2⟩, hT2⟩ ?_ ?_ ?_)
         · exact (by repeat (first | exact trivial | refine ⟨rfl, ?_⟩))
         · exact (by repeat (first | exact trivial | refine ⟨rfl, ?_⟩))
         · repeat (first | exact Sub.nil | refine Sub.pick ?_ | refine Sub.castO rfl ?_ | refine Sub.skip ?_)
       ·
        cases g52 -- closed
      ·
       refine f_exit ?_
       refine f_te ?_
       clear kh14
       refine f_te ?_
       refine f_be ?_
       refine f_bn ?_
       refine f_tn (f_again (ag2, o2) (by
         show (if ag2 then nsum o2 + 1 else 0) < (if ag then nsum o + 1 else 0)
         rw [c24]
         cases ag2 with
         | false => simp
         | true => have := hT2 rfl; simp; omega) ⟨hCI2, fun h => by
         obtain ⟨h1, _⟩ := hF2 h
         exact fun j hj => h1 j hj (by omega)⟩ ?_ ?_ ?_)
       · exact (by repeat (first | exact trivial | refine ⟨rfl, ?_⟩))
       · exact (by repeat (first | exact trivial | refine ⟨rfl, ?_⟩))
       · repeat (first | exact Sub.nil | refine Sub.pick ?_ | refine Sub.castO rfl ?_ | refine Sub.skip ?_)
    ·
     refine f_exit ?_
     refine f_te ?_
     clear kh10
     refine f_te ?_
     refine f_be ?_
     refine f_tn (kh8 _ _ ?_)
     clear kh8
     refine f_seq fun K21 kh21 => ?_
     have hall := hag c24
     refine f_region ?_
     refine f_stepP rfl rfl rfl (o_move rfl) ?_
     refine f_step rfl rfl rfl (o_call Try.call77 rfl (fun w_ hp_ => (by have h := RTidy_spec (some ⟨b13, 0, none⟩) o n w_ (roOwn (b := b13) hp_ (fun j v hj => hj)) (by omega); rw [hol] at h; exact h)) ?_)
     rintro _ _ ⟨P, bP, rfl, rfl, hP⟩
     dsimp only [List.cons_append, List.nil_append]
     refine f_stepP rfl rfl rfl (o_assign rfl) ?_
     refine f_done ?_
     refine f_tn (kh21 _ _ ?_)
     clear kh21
     refine f_ret ?_
     exact f_fin1 [[(bP, blk (nats P) 3)]] Try.results60 rfl (by repeat (first | exact Sub.nil | refine Sub.pick ?_ | refine Sub.castO rfl ?_)) ⟨P, bP, rfl, rfl, hCI.done (fun e he => by obtain ⟨x, hx, rfl⟩ := List.mem_map.1 he; obtain ⟨j, hj, rfl⟩ := List.mem_iff_getElem.1 hx; exact hall j hj) hP⟩

end Go.Proofs.Ytbjiejhdgkpjcaa
