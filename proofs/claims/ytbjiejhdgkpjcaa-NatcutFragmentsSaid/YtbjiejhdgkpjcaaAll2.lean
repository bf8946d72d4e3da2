import Derived.Test.YtbjiejhdgkpjcaaAll1
import Derived.Test.YtbjiejhdgkpjcaaFlyD

/- Package flow: a way through the layers. -/
namespace Go.Proofs.Ytbjiejhdgkpjcaa
open Go Go.RowKit Fly
set_option linter.unusedVariables false
set_option linter.unusedSimpArgs false


theorem nodup_le : ∀ (m : Nat) (l : List Nat), l.Nodup → (∀ x, x ∈ l → x < m) → l.length ≤ m
  | 0, l, _, h => by
    cases l with
    | nil => exact Nat.le_refl _
    | cons x l => exact absurd (h x (List.mem_cons_self ..)) (by omega)
  | m + 1, l, hn, h => by
    by_cases hm : m ∈ l
    · have h1 := nodup_le m (l.erase m) (hn.erase m) fun x hx => by
        have := (hn.mem_erase_iff).1 hx
        have := h x this.2
        omega
      have := List.length_erase_of_mem hm
      omega
    · have := nodup_le m l hn fun x hx => by
        have := h x hx
        have : x ≠ m := fun e => hm (e ▸ hx)
        omega
      omega
theorem Wy.len {n : Nat} {e : List Arc} {s v : Nat} {f L nx : List Int} {W : List Nat} (h : Wy n e s f L nx W v) : W.length ≤ e.length := by
  have := nodup_le e.length (W.map (· / 2)) (h.way.nodup h.up) fun x hx => by
    obtain ⟨k, hk, rfl⟩ := List.mem_map.1 hx
    have := h.way.lt k hk
    omega
  simpa using this
theorem Way.level {e : List Arc} {L : List Int} : ∀ {W : List Nat} {u v : Nat}, Way e u v W → Up e L W → flAt L v = flAt L u + W.length
  | [], u, v, h, _ => by have : u = v := h; subst this; simp
  | k :: r, u, v, ⟨h1, h2, h3⟩, hU => by
    have a := Way.level h3 fun i hi => hU i (List.mem_cons_of_mem _ hi)
    have b := hU k (List.mem_cons_self ..)
    rw [h2] at b
    rw [a, b, List.length_cons]; omega
theorem xor1 (k : Nat) : k ^^^ 1 = if k % 2 = 0 then k + 1 else k - 1 := by
  apply Nat.eq_of_testBit_eq
  intro i
  rw [Nat.testBit_xor]
  cases i with
  | zero =>
    split
    · rename_i h
      have a : (k + 1) % 2 = 1 := by omega
      simp only [Nat.testBit_zero, h, a]; rfl
    · rename_i h
      have a : (k - 1) % 2 = 0 := by omega
      have b : k % 2 = 1 := by omega
      simp only [Nat.testBit_zero, b, a]; rfl
  | succ i =>
    have h1 : (1 : Nat).testBit (i + 1) = false := by simp [Nat.testBit_succ]
    rw [h1, Bool.xor_false, Nat.testBit_succ]
    split
    · rw [Nat.testBit_succ]; congr 1; omega
    · rw [Nat.testBit_succ]; congr 1; omega
theorem xor1_lt {e : List Arc} {k : Nat} (h : k < 2 * e.length) : k ^^^ 1 < 2 * e.length := by rw [xor1]; split <;> omega
theorem kto_xor (e : List Arc) (k : Nat) : kto e (k ^^^ 1) = kfrom e k := by
  rw [xor1]
  unfold kto kfrom
  by_cases h : k % 2 = 0
  · rw [if_pos h, if_neg (by omega), if_pos h, show (k + 1) / 2 = k / 2 by omega]
  · rw [if_neg h, if_pos (by omega), if_neg h, show (k - 1) / 2 = k / 2 by omega]
theorem nI_pop (W : List Nat) (k : Nat) : (ints (nI (W ++ [k]))).take (W.length * 1) = ints (nI W) := by
  rw [nI_snoc, List.take_left' (by rw [nI_len]; omega)]
theorem last_of {W : List Nat} (h : W ≠ []) : ∃ W' k, W = W' ++ [k] := ⟨W.dropLast, W.getLast h, (List.dropLast_concat_getLast h).symm⟩
/-- What way answers. -/
def WayΦ (n : Nat) (e : List Arc) (s t : Nat) (f L nx : List Int) (bx : Nat) (u : Value) (own : List Seg) : Prop :=
  ∃ W nx' m' mw, own = [m', mw] ∧ DRep n e f L nx' bx m' ∧ Nx n e nx' ∧ Own 3 1 u W.length (ints (nI W)) mw ∧ W.length ≤ e.length ∧ (W ≠ [] → Way e s t W ∧ ∀ k, k ∈ W → Good e f L k) ∧ (W = [] → Past n e t f L nx → Dead e t nx' s ∧ Past n e t f L nx')

set_option maxRecDepth 100000 in
set_option maxHeartbeats 4000000 in
theorem way_spec (n : Nat) (e : List Arc) (f L nx : List Int) (bx : Nat) (m : Seg) (s t : Nat) (w : World) (hn : NOk n e) (hf : Fits e f) (hLl : L.length = n) (hL0 : flAt L s = 0) (hLg : ∀ v, v < n → -1 ≤ flAt L v) (hx : Nx n e nx) (hS : DRep n e f L nx bx m) (hs : s < n) (ht : t < n) (hst : s ≠ t) (hw : Owns w [m]) :
    Meets Try.prog 73 [.pointer (some ⟨bx, 0, none⟩), .int .i64 (s : Int), .int .i64 (t : Int)] w [m] (WayΦ n e s t f L nx bx) := by
 have hn1 := hn.n1
 have hel := hn.len
 refine f_enter Try.func73 rfl Try.ntmps73 rfl hw ?_
 obtain ⟨bat, bl, bn, ve, vs, ms, me, hmp, hR, hE⟩ := hS
 obtain ⟨A, cap, rfl, _⟩ := hE.val
 refine f_subC (Sub.permF hmp) ?_
 unfold dsegs
 refine f_seq fun K1 kh1 => ?_
 refine f_region ?_
 refine f_stepP rfl rfl rfl (o_assign rfl) ?_
 refine f_done ?_
 refine f_tn (kh1 _ _ ?_)
 clear kh1
 refine f_scope ?_
 refine f_seq fun K2 kh2 => ?_
 refine f_region ?_
 refine f_stepP rfl rfl rfl (o_assign rfl) ?_
 refine f_done ?_
 refine f_tn (kh2 _ _ ?_)
 clear kh2
 refine f_seq fun K3 kh3 => ?_
 refine f_region ?_
 refine f_stepP rfl rfl rfl (o_move rfl) ?_
 refine f_stepP rfl rfl rfl (o_assign rfl) ?_
 refine f_done ?_
 refine f_tn (kh3 _ _ ?_)
 clear kh3
 refine f_seq fun K4 kh4 => ?_
 refine f_label ?_
 refine f_tn (kh4 _ _ ?_)
 clear kh4
 refine f_seq fun K5 kh5 => ?_
 refine f_block ?_
 refine f_loop (α := List Nat × Nat × List Int × Value × Seg) [0, 2] (fun ⟨W, v, nx2, wv, wm⟩ => [(7, wv), (8, .int .i64 (v : Int))]) (fun ⟨W, v, nx2, wv, wm⟩ => [[(bx, blk (dcells (.slice A e.length cap) n bat bl bn) 95)], [(bat, blk vs 35)], ms.flatten, me, [(bl, blk (ints L) 3)], [(bn, blk (ints nx2) 3)], wm]) (fun ⟨W, v, nx2, wv, wm⟩ => Wy n e s f L nx2 W v ∧ v < n ∧ Own 3 1 wv W.length (ints (nI W)) wm ∧ (Past n e t f L nx → Past n e t f L nx2)) (fun ⟨W, v, nx2, wv, wm⟩ => wayMu n e L nx2 v) ([], s, nx, .slice none 0 0, []) ?_ ?_ ?_ ?_
 · exact (by repeat (first | exact trivial | refine ⟨rfl, ?_⟩))
 · repeat (first | exact Sub.nil | refine Sub.pick ?_ | refine Sub.castO rfl ?_ | refine Sub.skip ?_)
 · exact ⟨⟨rfl, fun k h => by simp at h, fun k h => by simp at h, hx⟩, hs, Own.nil _ _, fun h => h⟩
 ·
  rintro ⟨W, v, nx2, wv, wm⟩ ⟨hy, hvn, hW, hP⟩
  obtain ⟨Aw, cw, rfl, hcw⟩ := hW.val
  refine f_seq fun K6 kh6 => ?_
  refine f_seq fun K7 kh7 => ?_
  refine f_region ?_
  refine f_stepP rfl rfl rfl (o_move rfl) ?_
  refine f_stepP rfl rfl rfl (o_move rfl) ?_
  refine f_stepP rfl rfl rfl (o_neq rfl rfl) ?_
  refine f_done ?_
  refine f_tn (kh7 _ _ ?_)
  clear kh7
  refine f_cond rfl (fun c15 => ?_) (fun c15 => ?_)
  ·
   refine f_skip ?_
   refine f_tn (kh6 _ _ ?_)
   clear kh6
   refine f_block ?_
   refine f_seq fun K8 kh8 => ?_
   refine f_block ?_
   obtain ⟨rv, rm, rG, hrv, hro, hrp, _⟩ := hR.split (i := v) (by rw [kRows_len]; exact hvn)
   rw [kRows_get] at hro
   have hrlen := kRow_len e (2 * e.length) v
   obtain ⟨Ar, cr, rfl, hcr⟩ := hro.val
   refine f_subC (Sub.splitF hrp) ?_
   refine f_loop (α := List Int) [0, 2] (fun nx3 => [(7, .slice Aw W.length cw), (8, .int .i64 (v : Int))]) (fun nx3 => [[(bx, blk (dcells (.slice A e.length cap) n bat bl bn) 95)], [(bat, blk vs 35)], rm, rG, me, [(bl, blk (ints L) 3)], [(bn, blk (ints nx3) 3)], wm]) (fun nx3 => Wy n e s f L nx3 W v ∧ (Past n e t f L nx → Past n e t f L nx3) ∧ wayMu n e L nx3 v ≤ wayMu n e L nx2 v) (fun nx3 => ((kRow e (2 * e.length) v).length - flAt nx3 v).toNat) (nx2) ?_ ?_ ?_ ?_
   · exact (by repeat (first | exact trivial | refine ⟨rfl, ?_⟩))
   · repeat (first | exact Sub.nil | refine Sub.pick ?_ | refine Sub.castO rfl ?_ | refine Sub.skip ?_)
   · exact ⟨hy, hP, Nat.le_refl _⟩
   ·
    rintro nx3 ⟨hy3, hP3, hm3⟩
    have hxl := hy3.nx.len
    have hxr : 0 ≤ flAt nx3 v ∧ flAt nx3 v ≤ (((kRow e (2 * e.length) v).length : Nat) : Int) := hy3.nx.rng v hvn
    refine f_envC (e := [(7, _), (8, _), (0, _), (2, _)]) (by repeat (first | exact trivial | refine ⟨rfl, ?_⟩)) ?_
    refine f_seq fun K9 kh9 => ?_
    refine f_seq fun K10 kh10 => ?_
    refine f_regionS rfl (by decide +kernel) ?_
    refine f_stillP rfl rfl rfl (o_move rfl) ?_
    refine f_stillP rfl rfl rfl (o_nil rfl) ?_
    refine f_stillP rfl rfl rfl (o_field fa95_3 rfl) ?_
    refine f_stillP rfl rfl rfl (o_load Try.isAgg35 rfl (rdA rfl)) ?_
    refine f_stillP rfl rfl rfl (o_move rfl) ?_
    refine f_stillP rfl rfl rfl (o_idx sl35 rfl rfl (v) ⟨by omega, by omega, by first | omega | (simp; done) | (simp; omega)⟩) ?_
    refine f_stillP rfl rfl rfl (o_load Try.isAgg3 rfl (rdA (ints_fl (by omega)))) ?_
    refine f_stillP rfl rfl rfl (o_move rfl) ?_
    refine f_stillP rfl rfl rfl (o_nil rfl) ?_
    refine f_stillP rfl rfl rfl (o_field fa95_1 rfl) ?_
    refine f_stillP rfl rfl rfl (o_load Try.isAgg77 rfl (rdA rfl)) ?_
    refine f_stillP rfl rfl rfl (o_move rfl) ?_
    refine f_stillP rfl rfl rfl (o_idx sl77 rfl rfl (v) ⟨by omega, by omega, by first | omega | (simp; done) | (simp; omega)⟩) ?_
    refine f_stillP rfl rfl rfl (o_load Try.isAgg35 rfl (rdA hrv)) ?_
    refine f_stillP rfl rfl rfl (o_len sl35 rfl) ?_
    refine f_stillP rfl rfl rfl (o_lss rfl rfl) ?_
    refine f_stillD ?_
    refine f_tn (kh10 _ _ ?_)
    clear kh10
    refine f_cond rfl (fun c31 => ?_) (fun c31 => ?_)
    ·
     refine f_skip ?_
     refine f_tn (kh9 _ _ ?_)
     clear kh9
     refine f_seq fun K11 kh11 => ?_
     refine f_block ?_
     refine f_seq fun K12 kh12 => ?_
     refine f_regionT 16 rfl (by decide +kernel) ?_
     have hj : (flAt nx3 v).toNat < (kRow e (2 * e.length) v).length := by omega
     have hlt : flAt nx3 v < ((row e v).length : Int) := by show flAt nx3 v < ((kRow e (2 * e.length) v).length : Int); omega
     obtain ⟨br, sr, rfl, rfl⟩ := hro.at_ (by omega)
     obtain ⟨k, hrk, hk2, hkf⟩ := row_at hj
     have hcur : (row e v)[(flAt nx3 v).toNat]? = some (k : Int) := by rw [List.getElem?_eq_getElem hj, hrk]
     have hut := kto_lt hn.net hk2
     have hlv := hy3.way.level hy3.up
     rw [hL0] at hlv
     have hwl := hy3.len
     refine f_stillP rfl rfl rfl (o_move rfl) ?_
     refine f_stillP rfl rfl rfl (o_nil rfl) ?_
     refine f_stillP rfl rfl rfl (o_field fa95_1 rfl) ?_
     refine f_stillP rfl rfl rfl (o_load Try.isAgg77 rfl (rdA rfl)) ?_
     refine f_stillP rfl rfl rfl (o_move rfl) ?_
     refine f_stillP rfl rfl rfl (o_idx sl77 rfl rfl (v) ⟨by omega, by omega, by first | omega | (simp; done) | (simp; omega)⟩) ?_
     refine f_stillP rfl rfl rfl (o_load Try.isAgg35 rfl (rdA hrv)) ?_
     refine f_stillP rfl rfl rfl (o_move rfl) ?_
     refine f_stillP rfl rfl rfl (o_nil rfl) ?_
     refine f_stillP rfl rfl rfl (o_field fa95_3 rfl) ?_
     refine f_stillP rfl rfl rfl (o_load Try.isAgg35 rfl (rdA rfl)) ?_
     refine f_stillP rfl rfl rfl (o_move rfl) ?_
     refine f_stillP rfl rfl rfl (o_idx sl35 rfl rfl (v) ⟨by omega, by omega, by first | omega | (simp; done) | (simp; omega)⟩) ?_
     refine f_stillP rfl rfl rfl (o_load Try.isAgg3 rfl (rdA (ints_fl (by omega)))) ?_
     refine f_stillP rfl rfl rfl (o_idx sl35 rfl rfl ((flAt nx3 v).toNat) ⟨by omega, by omega, by first | omega | (simp; done) | (simp; omega)⟩) ?_
     refine f_stillP rfl rfl rfl (o_load Try.isAgg3 rfl (rdA (v := .int .i64 (k : Int)) (app_get (by rw [ints_get hj, hrk])))) ?_
     refine f_stillD (f_tail ?_)
     refine f_stepP rfl rfl rfl (o_assign rfl) ?_
     refine f_done ?_
     refine f_tn (kh12 _ _ ?_)
     clear kh12
     refine f_seq fun K13 kh13 => ?_
     refine f_region ?_
     refine f_stepP rfl rfl rfl (o_move rfl) ?_
     refine f_stepP rfl rfl rfl (o_move rfl) ?_
     refine f_step rfl rfl rfl (o_call Try.call89 rfl (fun w_ hp_ => to_spec n e f bx bat bl bn k cap A w_ (roOwn (b := bx) hp_ (fun j v hj => hj)) (seen_ro (hE.seen hp_)) hn hf.len hk2) ?_)
     rintro _ _ ⟨rfl, rfl⟩
     dsimp only [List.cons_append, List.nil_append]
     refine f_stepP rfl rfl rfl (o_assign rfl) ?_
     refine f_done ?_
     refine f_tn (kh13 _ _ ?_)
     clear kh13
     refine f_seq fun K14 kh14 => ?_
     refine f_regionH [[(bx, blk (dcells (.slice A e.length cap) n bat bl bn) 95)], [(bl, blk (ints L) 3)]] rfl ?_
     refine f_take 0 rfl (by decide +kernel) rfl rfl rfl (by repeat (first | exact Sub.nil | refine Sub.pick ?_ | refine Sub.castO rfl ?_ | refine Sub.skip ?_)) (o_move rfl) ?_
     refine f_take 1 rfl (by decide +kernel) rfl rfl rfl (by repeat (first | exact Sub.nil | refine Sub.pick ?_ | refine Sub.castO rfl ?_ | refine Sub.skip ?_)) (o_move rfl) ?_
     refine f_only 2 rfl (by decide +kernel) rfl rfl rfl (o_call Try.call74 rfl (fun w_ hp_ => left_spec n e f bx bat bl bn k cap A w_ (roOwn (b := bx) hp_ (fun j v hj => hj)) (seen_ro (hE.seen hp_)) hn hf.len hk2) ?_)
     rintro _ _ ⟨rfl, rfl⟩
     dsimp only [List.cons_append, List.nil_append]
     refine ⟨(by repeat (first | exact Sub.nil | refine Sub.pick ?_ | refine Sub.castO rfl ?_ | refine Sub.skip ?_)), ?_⟩
     refine f_take 3 rfl (by decide +kernel) rfl rfl rfl (by repeat (first | exact Sub.nil | refine Sub.pick ?_ | refine Sub.castO rfl ?_ | refine Sub.skip ?_)) (o_gtr rfl rfl) ?_
     refine f_take 4 rfl (by decide +kernel) rfl rfl rfl (by repeat (first | exact Sub.nil | refine Sub.pick ?_ | refine Sub.castO rfl ?_ | refine Sub.skip ?_)) (o_move rfl) ?_
     refine f_splitH 64 rfl (fun g64 => ?_) (fun g64 => ?_)
     ·
      refine f_takeY 5 rfl (by decide +kernel) rfl rfl rfl rfl rfl (by repeat (first | exact Sub.nil | refine Sub.pick ?_ | refine Sub.castO rfl ?_ | refine Sub.skip ?_)) (o_move rfl) ?_
      refine f_takeY 6 rfl (by decide +kernel) rfl rfl rfl rfl rfl (by repeat (first | exact Sub.nil | refine Sub.pick ?_ | refine Sub.castO rfl ?_ | refine Sub.skip ?_)) (o_nil rfl) ?_
      refine f_takeY 7 rfl (by decide +kernel) rfl rfl rfl rfl rfl (by repeat (first | exact Sub.nil | refine Sub.pick ?_ | refine Sub.castO rfl ?_ | refine Sub.skip ?_)) (o_field fa95_2 rfl) ?_
      refine f_takeY 8 rfl (by decide +kernel) rfl rfl rfl rfl rfl (by repeat (first | exact Sub.nil | refine Sub.pick ?_ | refine Sub.castO rfl ?_ | refine Sub.skip ?_)) (o_load Try.isAgg35 rfl (rdA rfl)) ?_
      refine f_takeY 9 rfl (by decide +kernel) rfl rfl rfl rfl rfl (by repeat (first | exact Sub.nil | refine Sub.pick ?_ | refine Sub.castO rfl ?_ | refine Sub.skip ?_)) (o_move rfl) ?_
      refine f_takeY 10 rfl (by decide +kernel) rfl rfl rfl rfl rfl (by repeat (first | exact Sub.nil | refine Sub.pick ?_ | refine Sub.castO rfl ?_ | refine Sub.skip ?_)) (o_idx sl35 rfl rfl (kto e k) ⟨by omega, by omega, by first | omega | (simp; done) | (simp; omega)⟩) ?_
      refine f_takeY 11 rfl (by decide +kernel) rfl rfl rfl rfl rfl (by repeat (first | exact Sub.nil | refine Sub.pick ?_ | refine Sub.castO rfl ?_ | refine Sub.skip ?_)) (o_load Try.isAgg3 rfl (rdA (ints_fl (by omega)))) ?_
      refine f_takeY 12 rfl (by decide +kernel) rfl rfl rfl rfl rfl (by repeat (first | exact Sub.nil | refine Sub.pick ?_ | refine Sub.castO rfl ?_ | refine Sub.skip ?_)) (o_move rfl) ?_
      refine f_takeY 13 rfl (by decide +kernel) rfl rfl rfl rfl rfl (by repeat (first | exact Sub.nil | refine Sub.pick ?_ | refine Sub.castO rfl ?_ | refine Sub.skip ?_)) (o_nil rfl) ?_
      refine f_takeY 14 rfl (by decide +kernel) rfl rfl rfl rfl rfl (by repeat (first | exact Sub.nil | refine Sub.pick ?_ | refine Sub.castO rfl ?_ | refine Sub.skip ?_)) (o_field fa95_2 rfl) ?_
      refine f_takeY 15 rfl (by decide +kernel) rfl rfl rfl rfl rfl (by repeat (first | exact Sub.nil | refine Sub.pick ?_ | refine Sub.castO rfl ?_ | refine Sub.skip ?_)) (o_load Try.isAgg35 rfl (rdA rfl)) ?_
      refine f_takeY 16 rfl (by decide +kernel) rfl rfl rfl rfl rfl (by repeat (first | exact Sub.nil | refine Sub.pick ?_ | refine Sub.castO rfl ?_ | refine Sub.skip ?_)) (o_move rfl) ?_
      refine f_takeY 17 rfl (by decide +kernel) rfl rfl rfl rfl rfl (by repeat (first | exact Sub.nil | refine Sub.pick ?_ | refine Sub.castO rfl ?_ | refine Sub.skip ?_)) (o_idx sl35 rfl rfl (v) ⟨by omega, by omega, by first | omega | (simp; done) | (simp; omega)⟩) ?_
      refine f_takeY 18 rfl (by decide +kernel) rfl rfl rfl rfl rfl (by repeat (first | exact Sub.nil | refine Sub.pick ?_ | refine Sub.castO rfl ?_ | refine Sub.skip ?_)) (o_load Try.isAgg3 rfl (rdA (ints_fl (by omega)))) ?_
      refine f_takeY 19 rfl (by decide +kernel) rfl rfl rfl rfl rfl (by repeat (first | exact Sub.nil | refine Sub.pick ?_ | refine Sub.castO rfl ?_ | refine Sub.skip ?_)) (o_add rfl rfl _ (wrap_i64 (by omega))) ?_
      refine f_takeY 20 rfl (by decide +kernel) rfl rfl rfl rfl rfl (by repeat (first | exact Sub.nil | refine Sub.pick ?_ | refine Sub.castO rfl ?_ | refine Sub.skip ?_)) (o_eql rfl rfl) ?_
      refine f_take 21 rfl (by decide +kernel) rfl rfl rfl (by repeat (first | exact Sub.nil | refine Sub.pick ?_ | refine Sub.castO rfl ?_ | refine Sub.skip ?_)) (o_pickT rfl rfl) ?_
      refine f_over (by decide +kernel) ?_
      refine f_tn (kh14 _ _ ?_)
      clear kh14
      refine f_cond rfl (fun c81 => ?_) (fun c81 => ?_)
      ·
       refine f_seq fun K15 kh15 => ?_
       refine f_region ?_
       refine f_stepP rfl rfl rfl (o_move rfl) ?_
       refine f_stepP rfl rfl rfl (o_move rfl) ?_
       refine f_step rfl rfl rfl (o_slice1 el35 (by omega) rfl rfl rfl fun b84 => ?_)
       refine f_step rfl rfl rfl (o_append el35 rfl rfl hW (ys := [.int .i64 (k : Int)]) ⟨(rdA rfl), trivial⟩ rfl rfl (by omega) (by omega) fun v85 m85 o85 => ?_)
       refine f_stepP rfl rfl rfl (o_assign rfl) ?_
       refine f_done ?_
       refine f_tn (kh15 _ _ ?_)
       clear kh15
       refine f_seq fun K16 kh16 => ?_
       refine f_region ?_
       refine f_stepP rfl rfl rfl (o_move rfl) ?_
       refine f_stepP rfl rfl rfl (o_assign rfl) ?_
       refine f_done ?_
       refine f_tn (kh16 _ _ ?_)
       clear kh16
       refine f_exit ?_
       refine f_bo rfl ?_
       refine f_te ?_
       clear kh11
       refine f_te ?_
       refine f_bo rfl ?_
       refine f_te ?_
       clear kh8
       refine f_be ?_
       refine f_subQ (Sub.joinF hrp.symm) ?_
       refine f_tn (f_again (W ++ [k], kto e k, nx3, v85, m85) (by show wayMu n e L nx3 (kto e k) < wayMu n e L nx2 v; have := wayMu_on (L := L) ⟨g64, by rw [hkf]; exact c81⟩ hkf hy3.nx; omega) ⟨hy3.on hk2 hkf hcur ⟨g64, by rw [hkf]; exact c81⟩, hut, by rw [nI_snoc, List.length_append]; exact o85, hP3⟩ ?_ ?_ ?_)
       · exact (by repeat (first | exact trivial | refine ⟨rfl, ?_⟩))
       · exact (by repeat (first | exact trivial | refine ⟨rfl, ?_⟩))
       · repeat (first | exact Sub.nil | refine Sub.pick ?_ | refine Sub.castO rfl ?_ | refine Sub.skip ?_)
      ·
       refine f_skip ?_
       refine f_bn ?_
       refine f_tn (kh11 _ _ ?_)
       clear kh11
       refine f_region ?_
       refine f_stepP rfl rfl rfl (o_move rfl) ?_
       refine f_stepP rfl rfl rfl (o_nil rfl) ?_
       refine f_stepP rfl rfl rfl (o_field fa95_3 rfl) ?_
       refine f_stepP rfl rfl rfl (o_load Try.isAgg35 rfl (rdA rfl)) ?_
       refine f_stepP rfl rfl rfl (o_move rfl) ?_
       refine f_stepP rfl rfl rfl (o_idx sl35 rfl rfl (v) ⟨by omega, by omega, by first | omega | (simp; done) | (simp; omega)⟩) ?_
       refine f_stepP rfl rfl rfl (o_load Try.isAgg3 rfl (rdA (ints_fl (by omega)))) ?_
       refine f_stepP rfl rfl rfl (o_add rfl rfl _ (wrap_i64 (by omega))) ?_
       refine f_stepP rfl rfl rfl (o_idx sl35 rfl rfl (v) ⟨by omega, by omega, by first | omega | (simp; done) | (simp; omega)⟩) ?_
       refine f_step0 rfl rfl (o_store Try.sizeOf3 rfl rfl rfl rfl (by rw [ints_length]; omega) (ints (nx3.set v (flAt nx3 v + 1))) (ints_put ..) ?_)
       refine f_done ?_
       refine f_tn (f_again (nx3.set v (flAt nx3 v + 1)) (by rw [flAt_set (by omega), if_pos rfl]; omega) ⟨hy3.pass hvn hlt, fun h => (hP3 h).step hy3.nx hvn hlt (fun k' hk' hg' => by
         rw [hcur] at hk'
         obtain rfl : k = k' := by have := Option.some.inj hk'; omega
         obtain ⟨q1, q2⟩ := hg'
         rw [hkf] at q2; omega), Nat.le_trans (Nat.le_of_lt (wayMu_pass (L := L) hy3.nx hvn hlt (hLg v hvn) v)) hm3⟩ ?_ ?_ ?_)
       · exact (by repeat (first | exact trivial | refine ⟨rfl, ?_⟩))
       · exact (by repeat (first | exact trivial | refine ⟨rfl, ?_⟩))
       · repeat (first | exact Sub.nil | refine Sub.pick ?_ | refine Sub.castO rfl ?_ | refine Sub.skip ?_)
     ·
      refine f_takeN 5 rfl (by decide +kernel) rfl rfl rfl rfl rfl rfl (by repeat (first | exact Sub.nil | refine Sub.pick ?_ | refine Sub.castO rfl ?_ | refine Sub.skip ?_)) ?_
      refine f_takeN 6 rfl (by decide +kernel) rfl rfl rfl rfl rfl rfl (by repeat (first | exact Sub.nil | refine Sub.pick ?_ | refine Sub.castO rfl ?_ | refine Sub.skip ?_)) ?_
      refine f_takeN 7 rfl (by decide +kernel) rfl rfl rfl rfl rfl rfl (by repeat (first | exact Sub.nil | refine Sub.pick ?_ | refine Sub.castO rfl ?_ | refine Sub.skip ?_)) ?_
      refine f_takeN 8 rfl (by decide +kernel) rfl rfl rfl rfl rfl rfl (by repeat (first | exact Sub.nil | refine Sub.pick ?_ | refine Sub.castO rfl ?_ | refine Sub.skip ?_)) ?_
      refine f_takeN 9 rfl (by decide +kernel) rfl rfl rfl rfl rfl rfl (by repeat (first | exact Sub.nil | refine Sub.pick ?_ | refine Sub.castO rfl ?_ | refine Sub.skip ?_)) ?_
      refine f_takeN 10 rfl (by decide +kernel) rfl rfl rfl rfl rfl rfl (by repeat (first | exact Sub.nil | refine Sub.pick ?_ | refine Sub.castO rfl ?_ | refine Sub.skip ?_)) ?_
      refine f_takeN 11 rfl (by decide +kernel) rfl rfl rfl rfl rfl rfl (by repeat (first | exact Sub.nil | refine Sub.pick ?_ | refine Sub.castO rfl ?_ | refine Sub.skip ?_)) ?_
      refine f_takeN 12 rfl (by decide +kernel) rfl rfl rfl rfl rfl rfl (by repeat (first | exact Sub.nil | refine Sub.pick ?_ | refine Sub.castO rfl ?_ | refine Sub.skip ?_)) ?_
      refine f_takeN 13 rfl (by decide +kernel) rfl rfl rfl rfl rfl rfl (by repeat (first | exact Sub.nil | refine Sub.pick ?_ | refine Sub.castO rfl ?_ | refine Sub.skip ?_)) ?_
      refine f_takeN 14 rfl (by decide +kernel) rfl rfl rfl rfl rfl rfl (by repeat (first | exact Sub.nil | refine Sub.pick ?_ | refine Sub.castO rfl ?_ | refine Sub.skip ?_)) ?_
      refine f_takeN 15 rfl (by decide +kernel) rfl rfl rfl rfl rfl rfl (by repeat (first | exact Sub.nil | refine Sub.pick ?_ | refine Sub.castO rfl ?_ | refine Sub.skip ?_)) ?_
      refine f_takeN 16 rfl (by decide +kernel) rfl rfl rfl rfl rfl rfl (by repeat (first | exact Sub.nil | refine Sub.pick ?_ | refine Sub.castO rfl ?_ | refine Sub.skip ?_)) ?_
      refine f_takeN 17 rfl (by decide +kernel) rfl rfl rfl rfl rfl rfl (by repeat (first | exact Sub.nil | refine Sub.pick ?_ | refine Sub.castO rfl ?_ | refine Sub.skip ?_)) ?_
      refine f_takeN 18 rfl (by decide +kernel) rfl rfl rfl rfl rfl rfl (by repeat (first | exact Sub.nil | refine Sub.pick ?_ | refine Sub.castO rfl ?_ | refine Sub.skip ?_)) ?_
      refine f_takeN 19 rfl (by decide +kernel) rfl rfl rfl rfl rfl rfl (by repeat (first | exact Sub.nil | refine Sub.pick ?_ | refine Sub.castO rfl ?_ | refine Sub.skip ?_)) ?_
      refine f_takeN 20 rfl (by decide +kernel) rfl rfl rfl rfl rfl rfl (by repeat (first | exact Sub.nil | refine Sub.pick ?_ | refine Sub.castO rfl ?_ | refine Sub.skip ?_)) ?_
      refine f_take 21 rfl (by decide +kernel) rfl rfl rfl (by repeat (first | exact Sub.nil | refine Sub.pick ?_ | refine Sub.castO rfl ?_ | refine Sub.skip ?_)) (o_pickF rfl rfl) ?_
      refine f_over (by decide +kernel) ?_
      refine f_tn (kh14 _ _ ?_)
      clear kh14
      refine f_condF rfl ?_
      refine f_skip ?_
      refine f_bn ?_
      refine f_tn (kh11 _ _ ?_)
      clear kh11
      refine f_region ?_
      refine f_stepP rfl rfl rfl (o_move rfl) ?_
      refine f_stepP rfl rfl rfl (o_nil rfl) ?_
      refine f_stepP rfl rfl rfl (o_field fa95_3 rfl) ?_
      refine f_stepP rfl rfl rfl (o_load Try.isAgg35 rfl (rdA rfl)) ?_
      refine f_stepP rfl rfl rfl (o_move rfl) ?_
      refine f_stepP rfl rfl rfl (o_idx sl35 rfl rfl (v) ⟨by omega, by omega, by first | omega | (simp; done) | (simp; omega)⟩) ?_
      refine f_stepP rfl rfl rfl (o_load Try.isAgg3 rfl (rdA (ints_fl (by omega)))) ?_
      refine f_stepP rfl rfl rfl (o_add rfl rfl _ (wrap_i64 (by omega))) ?_
      refine f_stepP rfl rfl rfl (o_idx sl35 rfl rfl (v) ⟨by omega, by omega, by first | omega | (simp; done) | (simp; omega)⟩) ?_
      refine f_step0 rfl rfl (o_store Try.sizeOf3 rfl rfl rfl rfl (by rw [ints_length]; omega) (ints (nx3.set v (flAt nx3 v + 1))) (ints_put ..) ?_)
      refine f_done ?_
      refine f_tn (f_again (nx3.set v (flAt nx3 v + 1)) (by rw [flAt_set (by omega), if_pos rfl]; omega) ⟨hy3.pass hvn hlt, fun h => (hP3 h).step hy3.nx hvn hlt (fun k' hk' hg' => by
        rw [hcur] at hk'
        obtain rfl : k = k' := by have := Option.some.inj hk'; omega
        obtain ⟨q1, q2⟩ := hg'
        rw [hkf] at q2; omega), Nat.le_trans (Nat.le_of_lt (wayMu_pass (L := L) hy3.nx hvn hlt (hLg v hvn) v)) hm3⟩ ?_ ?_ ?_)
      · exact (by repeat (first | exact trivial | refine ⟨rfl, ?_⟩))
      · exact (by repeat (first | exact trivial | refine ⟨rfl, ?_⟩))
      · repeat (first | exact Sub.nil | refine Sub.pick ?_ | refine Sub.castO rfl ?_ | refine Sub.skip ?_)
    ·
     refine f_exit ?_
     refine f_te ?_
     clear kh9
     refine f_te ?_
     refine f_be ?_
     refine f_tn (kh8 _ _ ?_)
     clear kh8
     refine f_seq fun K17 kh17 => ?_
     refine f_seq fun K18 kh18 => ?_
     refine f_region ?_
     refine f_stepP rfl rfl rfl (o_move rfl) ?_
     refine f_stepP rfl rfl rfl (o_len sl35 rfl) ?_
     refine f_stepP rfl rfl rfl (o_eql rfl rfl) ?_
     refine f_done ?_
     refine f_tn (kh18 _ _ ?_)
     clear kh18
     refine f_cond rfl (fun c89 => ?_) (fun c89 => ?_)
     ·
      obtain rfl : W = [] := by
        cases W with
        | nil => rfl
        | cons a b => simp at c89; omega
      have hsv : s = v := hy3.way
      subst hsv
      refine f_seq fun K19 kh19 => ?_
      refine f_region ?_
      refine f_stepP rfl rfl rfl (o_assign rfl) ?_
      refine f_done ?_
      refine f_tn (kh19 _ _ ?_)
      clear kh19
      refine f_ret ?_
      refine f_tr ?_
      refine f_br ?_
      refine f_tr ?_
      refine f_br ?_
      refine f_tr ?_
      refine f_nr ?_
      exact f_fin1 [(dsegs bx bat bl bn n (.slice A e.length cap) vs ms.flatten me L nx3).flatten, []] Try.results73 rfl (Sub.transF (Sub.joinF hrp.symm) (Sub.flat2 (Sub.transF (b := dsegs bx bat bl bn n (.slice A e.length cap) vs ms.flatten me L nx3) (by unfold dsegs; repeat (first | exact Sub.nil | refine Sub.pick ?_ | refine Sub.castO rfl ?_)) Sub.addNil))) ⟨[], nx3, _, [], rfl, DRep_mk hR hE, hy3.nx, Own.nil _ _, Nat.zero_le _, fun h => absurd rfl h, fun _ h => ⟨⟨by show flAt nx3 s = (((kRow e (2 * e.length) s).length : Nat) : Int); omega, hst⟩, hP3 h⟩⟩
     ·
      obtain ⟨W', k, rfl⟩ := last_of (W := W) (fun e' => by subst e'; simp at c89)
      have hwl := hy3.len
      have hWl : (W' ++ [k]).length = W'.length + 1 := by simp
      obtain ⟨bw, sw, rfl, rfl⟩ := hW.at_ (by omega)
      obtain ⟨hk2, hkt, hbk⟩ := hy3.back
      have hfn := kfrom_lt hn.net hk2
      have hlt' := hy3.lt
      have hlq : flAt nx3 (kfrom e k) < (((kRow e (2 * e.length) (kfrom e k)).length : Nat) : Int) := hy3.lt
      have hfr := hy3.nx.rng _ hfn
      have hrl' := kRow_len e (2 * e.length) (kfrom e k)
      refine f_skip ?_
      refine f_tn (kh17 _ _ ?_)
      clear kh17
      refine f_seq fun K20 kh20 => ?_
      refine f_region ?_
      refine f_stepP rfl rfl rfl (o_move rfl) ?_
      refine f_stepP rfl rfl rfl (o_move rfl) ?_
      refine f_stepP rfl rfl rfl (o_len sl35 rfl) ?_
      refine f_stepP rfl rfl rfl (o_sub rfl rfl _ (wrap_i64 (by omega))) ?_
      refine f_stepP rfl rfl rfl (o_idx sl35 rfl rfl (W'.length) ⟨by omega, by omega, by first | omega | (simp; done) | (simp; omega)⟩) ?_
      refine f_stepP rfl rfl rfl (o_load Try.isAgg3 rfl (rdA (v := .int .i64 (k : Int)) (app_get (by rw [nI_snoc, List.getElem?_append_right (by rw [nI_len]; exact Nat.le_refl _), nI_len, Nat.sub_self]; rfl)))) ?_
      refine f_stepP rfl rfl rfl (o_assign rfl) ?_
      refine f_done ?_
      refine f_tn (kh20 _ _ ?_)
      clear kh20
      refine f_seq fun K21 kh21 => ?_
      refine f_region ?_
      refine f_stepP rfl rfl rfl (o_move rfl) ?_
      refine f_stepP rfl rfl rfl (o_move rfl) ?_
      refine f_stepP rfl rfl rfl (o_len sl35 rfl) ?_
      refine f_stepP rfl rfl rfl (o_sub rfl rfl _ (wrap_i64 (by omega))) ?_
      refine f_stepP rfl rfl rfl (o_slice sl35 rfl rfl rfl rfl (fun h => by cases h) 0 W'.length _ (.inl ⟨rfl, rfl⟩) (.inr ⟨_, _, rfl, by omega⟩) (.inl ⟨rfl, rfl⟩) ⟨by omega, by omega, by omega⟩ (.slice (some ⟨bw, 0, none⟩) W'.length cw) (by rw [if_neg (by omega)]; simp [add_at])) ?_
      refine f_stepP rfl rfl rfl (o_assign rfl) ?_
      refine f_done ?_
      refine f_tn (kh21 _ _ ?_)
      clear kh21
      refine f_seq fun K22 kh22 => ?_
      refine f_region ?_
      refine f_stepP rfl rfl rfl (o_move rfl) ?_
      refine f_stepP rfl rfl rfl (o_move rfl) ?_
      refine f_stepP rfl rfl rfl (o_xor rfl rfl ((k ^^^ 1 : Nat) : Int) (xor_one (by omega))) ?_
      refine f_step rfl rfl rfl (o_call Try.call89 rfl (fun w_ hp_ => to_spec n e f bx bat bl bn (k ^^^ 1) cap A w_ (roOwn (b := bx) hp_ (fun j v hj => hj)) (seen_ro (hE.seen hp_)) hn hf.len (xor1_lt hk2)) ?_)
      rintro _ _ ⟨rfl, rfl⟩
      rw [kto_xor]
      dsimp only [List.cons_append, List.nil_append]
      refine f_stepP rfl rfl rfl (o_assign rfl) ?_
      refine f_done ?_
      refine f_tn (kh22 _ _ ?_)
      clear kh22
      refine f_region ?_
      refine f_stepP rfl rfl rfl (o_move rfl) ?_
      refine f_stepP rfl rfl rfl (o_nil rfl) ?_
      refine f_stepP rfl rfl rfl (o_field fa95_3 rfl) ?_
      refine f_stepP rfl rfl rfl (o_load Try.isAgg35 rfl (rdA rfl)) ?_
      refine f_stepP rfl rfl rfl (o_move rfl) ?_
      refine f_stepP rfl rfl rfl (o_idx sl35 rfl rfl (kfrom e k) ⟨by omega, by omega, by first | omega | (simp; done) | (simp; omega)⟩) ?_
      refine f_stepP rfl rfl rfl (o_load Try.isAgg3 rfl (rdA (ints_fl (by omega)))) ?_
      refine f_stepP rfl rfl rfl (o_add rfl rfl _ (wrap_i64 (by omega))) ?_
      refine f_stepP rfl rfl rfl (o_idx sl35 rfl rfl (kfrom e k) ⟨by omega, by omega, by first | omega | (simp; done) | (simp; omega)⟩) ?_
      refine f_step0 rfl rfl (o_store Try.sizeOf3 rfl rfl rfl rfl (by rw [ints_length]; omega) (ints (nx3.set (kfrom e k) (flAt nx3 (kfrom e k) + 1))) (ints_put ..) ?_)
      refine f_done ?_
      refine f_bn ?_
      refine f_subQ (Sub.joinF hrp.symm) ?_
      refine f_tn (f_again (W', kfrom e k, nx3.set (kfrom e k) (flAt nx3 (kfrom e k) + 1), .slice (some ⟨bw, 0, none⟩) W'.length cw, [(bw, blk (ints (nI (W' ++ [k])) ++ sw) 3)]) (by show wayMu n e L (nx3.set (kfrom e k) (flAt nx3 (kfrom e k) + 1)) (kfrom e k) < wayMu n e L nx2 v; have := wayMu_pass (L := L) hy3.nx hfn hlt' (hLg _ hfn) v; omega) ⟨hbk.pass hfn hlt', hfn, by have := hW.head (n := W'.length) (by simp); rw [nI_pop] at this; exact this, fun h => (hP3 h).step hy3.nx hfn hlt' (fun k' hk' hg' => by
        have hc2 := hy3.cur k (by simp)
        rw [hk'] at hc2
        obtain rfl : k' = k := by have := Option.some.inj hc2; omega
        rw [hkt]; exact ⟨by show flAt nx3 v = (((kRow e (2 * e.length) v).length : Nat) : Int); omega, fun e' => c15 (by rw [e'])⟩)⟩ ?_ ?_ ?_)
      · exact (by repeat (first | exact trivial | refine ⟨rfl, ?_⟩))
      · exact (by repeat (first | exact trivial | refine ⟨rfl, ?_⟩))
      · repeat (first | exact Sub.nil | refine Sub.pick ?_ | refine Sub.castO rfl ?_ | refine Sub.skip ?_)
  ·
   obtain rfl : v = t := by omega
   refine f_exit ?_
   refine f_te ?_
   clear kh6
   refine f_te ?_
   refine f_be ?_
   refine f_tn (kh5 _ _ ?_)
   clear kh5
   refine f_seq fun K23 kh23 => ?_
   refine f_region ?_
   refine f_stepP rfl rfl rfl (o_move rfl) ?_
   refine f_stepP rfl rfl rfl (o_assign rfl) ?_
   refine f_done ?_
   refine f_tn (kh23 _ _ ?_)
   clear kh23
   refine f_ret ?_
   refine f_nr ?_
   exact f_fin1 [(dsegs bx bat bl bn n (.slice A e.length cap) vs ms.flatten me L nx2).flatten, wm] Try.results73 rfl (Sub.flat2 (by unfold dsegs; repeat (first | exact Sub.nil | refine Sub.pick ?_ | refine Sub.castO rfl ?_))) ⟨W, nx2, _, wm, rfl, DRep_mk hR hE, hy.nx, hW, hy.len, fun _ => ⟨hy.way, hy.good⟩, fun h => by subst h; exact absurd (show s = v from hy.way) hst⟩

end Go.Proofs.Ytbjiejhdgkpjcaa

/- Package flow: pushing until no way is left. -/
namespace Go.Proofs.Ytbjiejhdgkpjcaa
open Go Go.RowKit Fly
set_option linter.unusedVariables false
set_option linter.unusedSimpArgs false


theorem Sub.flatR {segs out r : List Seg} (h : Sub segs (out ++ r)) : Sub segs (out.flatten :: r) := by
  obtain ⟨q, h⟩ := h
  exact ⟨q, by simpa using h⟩
theorem Sub.openAt {segs s1 out : List Seg} {m : Seg} [p : Pick segs m s1] (hp : m.Perm out.flatten) : Sub segs (out ++ s1) := Sub.pickF hp Sub.refl
theorem nI_get {W : List Nat} {j : Nat} (h : j < W.length) : (ints (nI W))[j]? = some (.int .i64 ((W[j] : Nat) : Int)) := by simp [nI, ints, h]
theorem kleft_xor {e : List Arc} {f : List Int} (k : Nat) : kleft e f k + kleft e f (k ^^^ 1) = (arcAt e (k / 2)).wt := by
  rw [xor1]
  unfold kleft
  by_cases h : k % 2 = 0
  · rw [if_pos h, if_pos h, if_neg (by omega), show (k + 1) / 2 = k / 2 by omega]; omega
  · rw [if_neg h, if_neg h, if_pos (by omega), show (k - 1) / 2 = k / 2 by omega]; omega
theorem other_at (k : Nat) : (k ^^^ 1) / 2 * 4 + 2 + (k ^^^ 1) % 2 = k / 2 * 4 + 2 + (1 - k % 2) := by
  rw [xor1]; split <;> omega
theorem zip_set : ∀ {e : List Arc} {f : List Int} {i : Nat} {y : Int}, f.length = e.length → i < e.length → List.zip e (f.set i y) = (List.zip e f).set i (arcAt e i, y)
  | [], f, i, y, _, h => by simp at h
  | x :: e, [], i, y, h, _ => by simp at h
  | x :: e, z :: f, 0, y, _, _ => by simp [arcAt]
  | x :: e, z :: f, i + 1, y, h, hi => by
    have := zip_set (e := e) (f := f) (i := i) (y := y) (by simpa using h) (by simpa using hi)
    simp only [List.set_cons_succ, List.zip_cons_cons, this]
    simp [arcAt]
theorem ecells_push {e : List Arc} {f : List Int} {k : Nat} {d : Int} {sp : List Value} (h : f.length = e.length) (hk : k < 2 * e.length) :
    ((ecells e f ++ sp).set (k / 2 * 4 + 2 + k % 2) (.int .u32 (kleft e f k - d))).set (k / 2 * 4 + 2 + (1 - k % 2)) (.int .u32 (kleft e f (k ^^^ 1) + d)) = ecells e (fpush f k d) ++ sp := by
  have hi : k / 2 < e.length := by omega
  obtain ⟨hz, hzi⟩ := zip_at h hi
  have e1 : ecells e (fpush f k d) = ((List.zip e f).set (k / 2) (arcAt e (k / 2), flAt f (k / 2) + (if k % 2 = 0 then d else -d))).flatMap ecs := by
    unfold ecells fpush; rw [zip_set h hi]
  have hx := kleft_xor (e := e) (f := f) k
  have hl2 : ∀ y, k / 2 < ((List.zip e f).set (k / 2) y).length := fun y => by simpa using hz
  have hle : ecells e f = (List.zip e f).flatMap ecs := rfl
  rw [e1, hle]
  by_cases h2 : k % 2 = 0
  · have hk1 : kleft e f k = (arcAt e (k / 2)).wt - flAt f (k / 2) := by unfold kleft; rw [if_pos h2]
    rw [h2, if_pos rfl, show k / 2 * 4 + 2 + 0 = k / 2 * 4 + 2 from rfl, show k / 2 * 4 + 2 + (1 - 0) = k / 2 * 4 + 3 from rfl]
    rw [set_flat ecs_len sp (q := 2) (by omega) (List.zip e f) (k / 2) (⟨(arcAt e (k / 2)).src, (arcAt e (k / 2)).dst, (arcAt e (k / 2)).wt - d⟩, flAt f (k / 2)) hz (by rw [hzi]; simp only [ecs, List.set_cons_succ, List.set_cons_zero, hk1]; congr 3; congr 1; omega)]
    rw [set_flat ecs_len sp (q := 3) (by omega) _ (k / 2) (arcAt e (k / 2), flAt f (k / 2) + d) (hl2 _) (by
      rw [List.getElem_set_self]; simp only [ecs, List.set_cons_succ, List.set_cons_zero]
      rw [show kleft e f (k ^^^ 1) = flAt f (k / 2) by omega, show (arcAt e (k / 2)).wt - d - flAt f (k / 2) = (arcAt e (k / 2)).wt - (flAt f (k / 2) + d) by omega])]
    rw [List.set_set]
  · have h3 : k % 2 = 1 := by omega
    have hk1 : kleft e f k = flAt f (k / 2) := by unfold kleft; rw [if_neg h2]
    rw [h3, if_neg (by omega), show k / 2 * 4 + 2 + 1 = k / 2 * 4 + 3 from rfl, show k / 2 * 4 + 2 + (1 - 1) = k / 2 * 4 + 2 from rfl]
    rw [set_flat ecs_len sp (q := 3) (by omega) (List.zip e f) (k / 2) (⟨(arcAt e (k / 2)).src, (arcAt e (k / 2)).dst, (arcAt e (k / 2)).wt - d⟩, flAt f (k / 2) + -d) hz (by
      rw [hzi]; simp only [ecs, List.set_cons_succ, List.set_cons_zero, hk1]
      rw [show (arcAt e (k / 2)).wt - d - (flAt f (k / 2) + -d) = (arcAt e (k / 2)).wt - flAt f (k / 2) by omega, show flAt f (k / 2) + -d = flAt f (k / 2) - d by omega])]
    rw [set_flat ecs_len sp (q := 2) (by omega) _ (k / 2) (arcAt e (k / 2), flAt f (k / 2) + -d) (hl2 _) (by
      rw [List.getElem_set_self]; simp only [ecs, List.set_cons_succ, List.set_cons_zero]
      rw [show kleft e f (k ^^^ 1) + d = (arcAt e (k / 2)).wt - (flAt f (k / 2) + -d) by omega])]
    rw [List.set_set]
theorem ecells_other {e : List Arc} {f : List Int} {k : Nat} {x : Value} {sp : List Value} (h : f.length = e.length) (hk : k < 2 * e.length) :
    ((ecells e f ++ sp).set (k / 2 * 4 + 2 + k % 2) x)[k / 2 * 4 + 2 + (1 - k % 2)]? = some (.int .u32 (kleft e f (k ^^^ 1))) := by
  rw [List.getElem?_set_ne (by omega), ← other_at]
  exact app_get (ecells_left h (xor1_lt hk))

theorem min_step {e : List Arc} {f : List Int} {W : List Nat} {j : Nat} {mm : Int} (hj : j < W.length) (h : ∀ i (h : i < W.length), i < j → mm ≤ kleft e f W[i]) : ∀ i (h : i < W.length), i < j + 1 → min mm (kleft e f W[j]) ≤ kleft e f W[i] := fun i hi hij => by
  by_cases e' : i = j
  · subst e'; exact Int.min_le_right _ _
  · exact Int.le_trans (Int.min_le_left _ _) (h i hi (by omega))
theorem push_left {e : List Arc} {f : List Int} {W : List Nat} {j : Nat} {d : Int} (hf : f.length = e.length) (hj : j < W.length) (hl : ∀ k, k ∈ W → k < 2 * e.length) (hn : (W.map (· / 2)).Nodup) : kleft e (pushAll f (W.take j) d) W[j] = kleft e f W[j] := by
  have : flAt (pushAll f (W.take j) d) (W[j] / 2) = flAt f (W[j] / 2) := flAt_pushAll (fun k hk => by have := hl k (List.mem_of_mem_take hk); omega) fun k hk e' => by
    obtain ⟨i, hi, rfl⟩ := List.mem_iff_getElem.1 hk
    have hij : i < j := by have := hi; simp at this; omega
    rw [List.getElem_take] at e'
    have h1 : i < (W.map (· / 2)).length := by simp; omega
    have h2 : j < (W.map (· / 2)).length := by simpa using hj
    exact absurd (by simpa using e') (List.pairwise_iff_getElem.1 hn i j h1 h2 hij)
  unfold kleft; rw [this]

set_option maxRecDepth 100000 in
set_option maxHeartbeats 4000000 in
theorem run_spec (n : Nat) (e : List Arc) (L0 nx0 : List Int) (bx : Nat) (m : Seg) (s t : Nat) (w : World) (hn : NOk n e) (hL0 : L0.length = n) (hx0 : nx0.length = n) (hS : DRep n e (List.replicate e.length 0) L0 nx0 bx m) (hs : s < n) (ht : t < n) (hst : s ≠ t) (hw : Owns w [m]) :
    Meets Try.prog 54 [.pointer (some ⟨bx, 0, none⟩), .int .i64 (s : Int), .int .i64 (t : Int)] w [m] (fun u own' => ∃ V f L' nx' m', u = .int .u64 V ∧ own' = [m'] ∧ DRep n e f L' nx' bx m' ∧ Flow n e s t f V ∧ Lay n e s f L' ∧ flAt L' t < 0 ∧ 0 ≤ V ∧ V ≤ 70368744161280) := by
 have hn1 := hn.n1
 have hel := hn.len
 have hwt : ∀ x ∈ e, x.wt ≤ 4294967295 := fun x hx => (hn.ok x hx).wt.2
 have hcs : capSum e ≤ 70368744161280 := by have := capSum_le 4294967295 e hwt; omega
 refine f_enter Try.func54 rfl Try.ntmps54 rfl hw ?_
 refine f_seq fun K1 kh1 => ?_
 refine f_region ?_
 refine f_stepP rfl rfl rfl (o_assign rfl) ?_
 refine f_done ?_
 refine f_tn (kh1 _ _ ?_)
 clear kh1
 refine f_seq fun K2 kh2 => ?_
 refine f_region ?_
 refine f_stepP rfl rfl rfl (o_assign rfl) ?_
 refine f_done ?_
 refine f_tn (kh2 _ _ ?_)
 clear kh2
 refine f_seq fun K3 kh3 => ?_
 refine f_block ?_
 refine f_loop (α := Int × List Int × List Int × List Int × Seg) [0, 1, 2] (fun ⟨V, f, L, nx, m1⟩ => [(7, .int .u64 V)]) (fun ⟨V, f, L, nx, m1⟩ => [m1]) (fun ⟨V, f, L, nx, m1⟩ => Flow n e s t f V ∧ 0 ≤ V ∧ DRep n e f L nx bx m1 ∧ L.length = n ∧ nx.length = n) (fun ⟨V, f, L, nx, m1⟩ => (capSum e - V).toNat) (0, List.replicate e.length 0, L0, nx0, m) ?_ ?_ ?_ ?_
 · exact (by repeat (first | exact trivial | refine ⟨rfl, ?_⟩))
 · repeat (first | exact Sub.nil | refine Sub.pick ?_ | refine Sub.castO rfl ?_ | refine Sub.skip ?_)
 · exact ⟨Flow.zero fun x hx => (hn.ok x hx).wt.1, Int.le_refl _, hS, hL0, hx0⟩
 ·
  rintro ⟨V, f, L, nx, m1⟩ ⟨hF, hV, hD, hLl, hxl⟩
  have hVb := hF.val_le hs hst
  refine f_seq fun K4 kh4 => ?_
  refine f_seq fun K5 kh5 => ?_
  refine f_region ?_
  refine f_stepP rfl rfl rfl (o_move rfl) ?_
  refine f_stepP rfl rfl rfl (o_move rfl) ?_
  refine f_stepP rfl rfl rfl (o_move rfl) ?_
  refine f_step rfl rfl rfl (o_callM [m1] _ Try.call72 rfl (Sub.pick Sub.refl) (fun w_ hp_ => layers_spec n e f L nx bx m1 s t w_ hn hF.fits hLl hxl hD hs ht hp_.owns) ?_)
  rintro _ _ ⟨L1, m1', rfl, hD1, hLy, rfl⟩
  dsimp only [List.cons_append, List.nil_append]
  refine f_done ?_
  refine f_tn (kh5 _ _ ?_)
  clear kh5
  refine f_cond rfl (fun c17 => ?_) (fun c17 => ?_)
  ·
   refine f_skip ?_
   refine f_tn (kh4 _ _ ?_)
   clear kh4
   refine f_block ?_
   refine f_seq fun K6 kh6 => ?_
   refine f_region ?_
   refine f_stepP rfl rfl rfl (o_move rfl) ?_
   refine f_stepP rfl rfl rfl (o_move rfl) ?_
   refine f_stepP rfl rfl rfl (o_move rfl) ?_
   refine f_step rfl rfl rfl (o_callM [m1'] _ Try.call73 rfl (Sub.pick Sub.refl) (fun w_ hp_ => way_spec n e f L1 (List.replicate n 0) bx m1' s t w_ hn hF.fits hLy.len hLy.s0 hLy.ge (Nx.start n e) hD1 hs ht hst hp_.owns) ?_)
   rintro v21 _ ⟨W1, nx1, m2, mw1, rfl, hD1', hx1, hW1, hWl1, hWg1, hWd1⟩
   have hW1n : W1 ≠ [] := fun h => by
     obtain ⟨a, b⟩ := hWd1 h (Past.start n e t f L1)
     exact way_there hLy hn.net ht c17 hx1 b a
   dsimp only [List.cons_append, List.nil_append]
   refine f_stepP rfl rfl rfl (o_assign rfl) ?_
   refine f_done ?_
   refine f_tn (kh6 _ _ ?_)
   clear kh6
   refine f_block ?_
   refine f_loop (α := Int × List Int × List Int × Seg × List Nat × Value × Seg) [0, 1, 2] (fun ⟨V2, f2, nx2, m2, W, wv, wm⟩ => [(7, .int .u64 V2), (8, wv)]) (fun ⟨V2, f2, nx2, m2, W, wv, wm⟩ => [m2, wm]) (fun ⟨V2, f2, nx2, m2, W, wv, wm⟩ => Flow n e s t f2 V2 ∧ DRep n e f2 L1 nx2 bx m2 ∧ Nx n e nx2 ∧ Own 3 1 wv W.length (ints (nI W)) wm ∧ W.length ≤ e.length ∧ (W ≠ [] → Way e s t W ∧ ∀ k, k ∈ W → Good e f2 L1 k) ∧ V ≤ V2 ∧ (W = [] → V < V2)) (fun ⟨V2, f2, nx2, m2, W, wv, wm⟩ => (capSum e - V2).toNat) (V, f, nx1, m2, W1, v21, mw1) ?_ ?_ ?_ ?_
   · exact (by repeat (first | exact trivial | refine ⟨rfl, ?_⟩))
   · repeat (first | exact Sub.nil | refine Sub.pick ?_ | refine Sub.castO rfl ?_ | refine Sub.skip ?_)
   · exact ⟨hF, hD1', hx1, hW1, hWl1, hWg1, Int.le_refl _, fun h => absurd h hW1n⟩
   ·
    rintro ⟨V2, f2, nx2, m2, W, wv, wm⟩ ⟨hF2, hD2, hx2, hW, hWl, hWg, hV2, hne⟩
    obtain ⟨Aw, cw, rfl, hcw⟩ := hW.val
    have hV2b := hF2.val_le hs hst
    refine f_envC (e := [(7, _), (8, _), (0, _), (1, _), (2, _)]) (by repeat (first | exact trivial | refine ⟨rfl, ?_⟩)) ?_
    refine f_seq fun K7 kh7 => ?_
    refine f_seq fun K8 kh8 => ?_
    refine f_region ?_
    refine f_stepP rfl rfl rfl (o_move rfl) ?_
    refine f_stepP rfl rfl rfl (o_len sl35 rfl) ?_
    refine f_stepP rfl rfl rfl (o_gtr rfl rfl) ?_
    refine f_done ?_
    refine f_tn (kh8 _ _ ?_)
    clear kh8
    refine f_cond rfl (fun c24 => ?_) (fun c24 => ?_)
    ·
     refine f_skip ?_
     refine f_tn (kh7 _ _ ?_)
     clear kh7
     refine f_seq fun K9 kh9 => ?_
     refine f_block ?_
     refine f_seq fun K10 kh10 => ?_
     have hW0 : 0 < W.length := by omega
     have hWk := hWg (fun h => by subst h; simp at hW0)
     have hWm := hWk.1.lt
     have hnd := hWk.1.nodup (L := L1) fun k hk => (hWk.2 k hk).2
     obtain ⟨bat, bl, bn, ve, vs, ms, me, hmp, hR, hE⟩ := hD2
     obtain ⟨A, cap, rfl, _⟩ := hE.val
     obtain ⟨bw, sw, rfl, rfl⟩ := hW.at_ hW0
     refine f_subC (Sub.openAt hmp) ?_
     unfold dsegs
     dsimp only [List.cons_append, List.nil_append]
     refine f_region ?_
     refine f_stepP rfl rfl rfl (o_move rfl) ?_
     refine f_stepP rfl rfl rfl (o_move rfl) ?_
     refine f_stepP rfl rfl rfl (o_idx sl35 rfl rfl (0) ⟨by omega, by omega, by first | omega | (simp; done) | (simp; omega)⟩) ?_
     refine f_stepP rfl rfl rfl (o_load Try.isAgg3 rfl (rdA (app_get (nI_get hW0)))) ?_
     refine f_step rfl rfl rfl (o_call Try.call74 rfl (fun w_ hp_ => left_spec n e f2 bx bat bl bn W[0] cap A w_ (roOwn (b := bx) hp_ (fun j v hj => hj)) (seen_ro (hE.seen hp_)) hn hF2.fits.len (hWm _ (List.getElem_mem hW0))) ?_)
     rintro _ _ ⟨rfl, rfl⟩
     dsimp only [List.cons_append, List.nil_append]
     refine f_stepP rfl rfl rfl (o_assign rfl) ?_
     refine f_done ?_
     refine f_tn (kh10 _ _ ?_)
     clear kh10
     refine f_seq fun K11 kh11 => ?_
     refine f_seq fun K12 kh12 => ?_
     refine f_region ?_
     refine f_stepP rfl rfl rfl (o_move rfl) ?_
     refine f_stepP rfl rfl rfl (o_len sl35 rfl) ?_
     refine f_stepP rfl rfl rfl (o_move rfl) ?_
     refine f_done ?_
     refine f_tn (kh12 _ _ ?_)
     clear kh12
     refine f_block ?_
     refine f_loop (α := Nat × Int) [0, 1, 2, 7, 8, 34, 35] (fun ⟨j, mm⟩ => [(36, .int .i64 (j : Int)), (9, .int .u32 mm)]) (fun ⟨j, mm⟩ => [[(bx, blk (dcells (.slice A e.length cap) n bat bl bn) 95)], [(bat, blk vs 35)], ms.flatten, me, [(bl, blk (ints L1) 3)], [(bn, blk (ints nx2) 3)], [(bw, blk (ints (nI W) ++ sw) 3)]]) (fun ⟨j, mm⟩ => j ≤ W.length ∧ 0 < mm ∧ mm ≤ 4294967295 ∧ ∀ i (h : i < W.length), i < j → mm ≤ kleft e f2 W[i]) (fun ⟨j, mm⟩ => W.length - j) (0, kleft e f2 W[0]) ?_ ?_ ?_ ?_
     · exact (by repeat (first | exact trivial | refine ⟨rfl, ?_⟩))
     · repeat (first | exact Sub.nil | refine Sub.pick ?_ | refine Sub.castO rfl ?_ | refine Sub.skip ?_)
     · exact ⟨Nat.zero_le _, (hWk.2 _ (List.getElem_mem _)).1, by have := kleft_rng hF2.fits (hWm _ (List.getElem_mem hW0)); have := (hn.at_ (i := W[0] / 2) (by have := hWm _ (List.getElem_mem hW0); omega)); omega, fun i h hi => by omega⟩
     ·
      rintro ⟨j, mm⟩ ⟨hjl, hm0, hmu, hmj⟩
      refine f_envC (e := [(36, _), (9, _), (0, _), (1, _), (2, _), (7, _), (8, _), (34, _), (35, _)]) (by repeat (first | exact trivial | refine ⟨rfl, ?_⟩)) ?_
      refine f_seq fun K13 kh13 => ?_
      refine f_region ?_
      refine f_stepP rfl rfl rfl (o_lss rfl rfl) ?_
      refine f_done ?_
      refine f_tn (kh13 _ _ ?_)
      clear kh13
      refine f_seq fun K14 kh14 => ?_
      refine f_cond rfl (fun c37 => ?_) (fun c37 => ?_)
      ·
       refine f_skip ?_
       refine f_tn (kh14 _ _ ?_)
       clear kh14
       refine f_seq fun K15 kh15 => ?_
       refine f_block ?_
       refine f_seq fun K16 kh16 => ?_
       refine f_region ?_
       have hj : j < W.length := by omega
       refine f_stepP rfl rfl rfl (o_idx sl35 rfl rfl (j) ⟨by omega, by omega, by first | omega | (simp; done) | (simp; omega)⟩) ?_
       refine f_stepP rfl rfl rfl (o_load Try.isAgg3 rfl (rdA (app_get (nI_get hj)))) ?_
       refine f_stepP rfl rfl rfl (o_assign rfl) ?_
       refine f_done ?_
       refine f_tn (kh16 _ _ ?_)
       clear kh16
       refine f_region ?_
       refine f_stepP rfl rfl rfl (o_move rfl) ?_
       refine f_stepP rfl rfl rfl (o_move rfl) ?_
       refine f_stepP rfl rfl rfl (o_move rfl) ?_
       refine f_step rfl rfl rfl (o_call Try.call74 rfl (fun w_ hp_ => left_spec n e f2 bx bat bl bn W[j] cap A w_ (roOwn (b := bx) hp_ (fun j v hj => hj)) (seen_ro (hE.seen hp_)) hn hF2.fits.len (hWm _ (List.getElem_mem hj))) ?_)
       rintro _ _ ⟨rfl, rfl⟩
       dsimp only [List.cons_append, List.nil_append]
       refine f_stepP rfl rfl rfl (o_min rfl rfl) ?_
       refine f_stepP rfl rfl rfl (o_assign rfl) ?_
       refine f_done ?_
       refine f_bn ?_
       refine f_tn (kh15 _ _ ?_)
       clear kh15
       refine f_region ?_
       refine f_stepP rfl rfl rfl (o_add rfl rfl _ (wrap_i64 (by omega))) ?_
       refine f_stepP rfl rfl rfl (o_move rfl) ?_
       refine f_done ?_
       refine f_tn (f_again (j + 1, min mm (kleft e f2 W[j])) (by first | omega | (dsimp only; omega) | (simp; omega)) ⟨by omega, by have := (hWk.2 _ (List.getElem_mem hj)).1; omega, by omega, min_step hj hmj⟩ ?_ ?_ ?_)
       · exact (by repeat (first | exact trivial | refine ⟨rfl, ?_⟩))
       · exact (by repeat (first | exact trivial | refine ⟨rfl, ?_⟩))
       · repeat (first | exact Sub.nil | refine Sub.pick ?_ | refine Sub.castO rfl ?_ | refine Sub.skip ?_)
      ·
       refine f_exit ?_
       refine f_te ?_
       clear kh14
       refine f_te ?_
       refine f_be ?_
       refine f_tn (kh11 _ _ ?_)
       clear kh11
       refine f_seq fun K17 kh17 => ?_
       refine f_seq fun K18 kh18 => ?_
       refine f_region ?_
       refine f_stepP rfl rfl rfl (o_move rfl) ?_
       refine f_stepP rfl rfl rfl (o_len sl35 rfl) ?_
       refine f_stepP rfl rfl rfl (o_move rfl) ?_
       refine f_done ?_
       refine f_tn (kh18 _ _ ?_)
       clear kh18
       refine f_block ?_
       have hmall : ∀ k, k ∈ W → mm ≤ kleft e f2 k := fun k hk => by
         obtain ⟨i, hi, rfl⟩ := List.mem_iff_getElem.1 hk
         exact hmj i hi (by omega)
       have hF3 := hF2.push (by omega) hWk.1 hnd hmall
       have hV3 := hF3.val_le hs hst
       refine f_loop (α := Nat × Seg) [0, 1, 2, 7, 9, 46, 47] (fun ⟨j, me3⟩ => [(48, .int .i64 (j : Int))]) (fun ⟨j, me3⟩ => [[(bx, blk (dcells (.slice A e.length cap) n bat bl bn) 95)], [(bat, blk vs 35)], ms.flatten, me3, [(bl, blk (ints L1) 3)], [(bn, blk (ints nx2) 3)], [(bw, blk (ints (nI W) ++ sw) 3)]]) (fun ⟨j, me3⟩ => j ≤ W.length ∧ Own 117 4 (.slice A e.length cap) e.length (ecells e (pushAll f2 (W.take j) mm)) me3) (fun ⟨j, me3⟩ => W.length - j) (0, me) ?_ ?_ ?_ ?_
       · exact (by repeat (first | exact trivial | refine ⟨rfl, ?_⟩))
       · repeat (first | exact Sub.nil | refine Sub.pick ?_ | refine Sub.castO rfl ?_ | refine Sub.skip ?_)
       · exact ⟨Nat.zero_le _, hE⟩
       ·
        rintro ⟨j, me3⟩ ⟨hjl, hE3⟩
        refine f_envC (e := [(48, _), (0, _), (1, _), (2, _), (7, _), (9, _), (46, _), (47, _)]) (by repeat (first | exact trivial | refine ⟨rfl, ?_⟩)) ?_
        refine f_seq fun K19 kh19 => ?_
        refine f_region ?_
        refine f_stepP rfl rfl rfl (o_lss rfl rfl) ?_
        refine f_done ?_
        refine f_tn (kh19 _ _ ?_)
        clear kh19
        refine f_seq fun K20 kh20 => ?_
        refine f_cond rfl (fun c49 => ?_) (fun c49 => ?_)
        ·
         refine f_skip ?_
         refine f_tn (kh20 _ _ ?_)
         clear kh20
         refine f_seq fun K21 kh21 => ?_
         refine f_block ?_
         refine f_seq fun K22 kh22 => ?_
         refine f_region ?_
         have hj : j < W.length := by omega
         refine f_stepP rfl rfl rfl (o_idx sl35 rfl rfl (j) ⟨by omega, by omega, by first | omega | (simp; done) | (simp; omega)⟩) ?_
         refine f_stepP rfl rfl rfl (o_load Try.isAgg3 rfl (rdA (app_get (nI_get hj)))) ?_
         refine f_stepP rfl rfl rfl (o_assign rfl) ?_
         refine f_done ?_
         refine f_tn (kh22 _ _ ?_)
         clear kh22
         refine f_seq fun K23 kh23 => ?_
         have hkw := push_left (d := mm) hF2.fits.len hj hWm hnd
         have hfl : (pushAll f2 (W.take j) mm).length = e.length := by rw [pushAll_len]; exact hF2.fits.len
         have hk2 := hWm _ (List.getElem_mem hj)
         obtain ⟨be, spE, rfl, rfl, hupd⟩ := hE3.upd (by omega)
         have hkm := hmj j hj (by omega)
         have hkr := kleft_rng hF2.fits hk2
         have hkx := kleft_xor (e := e) (f := pushAll f2 (W.take j) mm) W[j]
         have hat := hn.at_ (i := W[j] / 2) (by omega)
         have hcl := ecells_len hfl
         refine f_regionT 17 rfl (by decide +kernel) ?_
         refine f_stillP rfl rfl rfl (o_move rfl) ?_
         refine f_stillP rfl rfl rfl (o_nil rfl) ?_
         refine f_stillP rfl rfl rfl (o_field fa95_0 rfl) ?_
         refine f_stillP rfl rfl rfl (o_load Try.isAgg93 rfl (rdA rfl)) ?_
         refine f_stillP rfl rfl rfl (o_move rfl) ?_
         refine f_stillP rfl rfl rfl (o_shr rfl rfl (by decide) ((W[j] / 2 : Nat) : Int) (shr_one (by omega))) ?_
         refine f_stillP rfl rfl rfl (o_move rfl) ?_
         refine f_stillP rfl rfl rfl (o_and rfl rfl ((W[j] % 2 : Nat) : Int) (and_one (by omega))) ?_
         refine f_stillP rfl rfl rfl (o_idx sl93 rfl rfl (W[j] / 2 * 4) ⟨by omega, by omega, by first | omega | (simp; done) | (simp; omega)⟩) ?_
         refine f_stillP rfl rfl rfl (o_field fa117_1 rfl) ?_
         refine f_stillP rfl rfl rfl (o_idxA ar115 rfl rfl (W[j] / 2 * 4 + 2 + W[j] % 2) ⟨by omega, by omega, by first | omega | (simp; done) | (simp; omega)⟩) ?_
         refine f_stillP rfl rfl rfl (o_load Try.isAgg53 rfl (rdA (v := .int .u32 (kleft e f2 W[j])) (app_get (by rw [ecells_left hfl hk2, hkw])))) ?_
         refine f_stillP rfl rfl rfl (o_move rfl) ?_
         refine f_stillP rfl rfl rfl (o_sub rfl rfl _ (wrap_u32 (by omega))) ?_
         refine f_stillP rfl rfl rfl (o_idx sl93 rfl rfl (W[j] / 2 * 4) ⟨by omega, by omega, by first | omega | (simp; done) | (simp; omega)⟩) ?_
         refine f_stillP rfl rfl rfl (o_field fa117_1 rfl) ?_
         refine f_stillP rfl rfl rfl (o_idxA ar115 rfl rfl (W[j] / 2 * 4 + 2 + W[j] % 2) ⟨by omega, by omega, by first | omega | (simp; done) | (simp; omega)⟩) ?_
         refine f_stillD (f_tail ?_)
         refine f_step0 rfl rfl (o_store Try.sizeOf53 rfl rfl rfl rfl (by rw [List.length_append, hcl]; omega) _ rfl ?_)
         refine f_done ?_
         refine f_tn (kh23 _ _ ?_)
         clear kh23
         refine f_regionT 18 rfl (by decide +kernel) ?_
         refine f_stillP rfl rfl rfl (o_move rfl) ?_
         refine f_stillP rfl rfl rfl (o_nil rfl) ?_
         refine f_stillP rfl rfl rfl (o_field fa95_0 rfl) ?_
         refine f_stillP rfl rfl rfl (o_load Try.isAgg93 rfl (rdA rfl)) ?_
         refine f_stillP rfl rfl rfl (o_move rfl) ?_
         refine f_stillP rfl rfl rfl (o_shr rfl rfl (by decide) ((W[j] / 2 : Nat) : Int) (shr_one (by omega))) ?_
         refine f_stillP rfl rfl rfl (o_move rfl) ?_
         refine f_stillP rfl rfl rfl (o_and rfl rfl ((W[j] % 2 : Nat) : Int) (and_one (by omega))) ?_
         refine f_stillP rfl rfl rfl (o_sub rfl rfl _ (wrap_i64 (by omega))) ?_
         refine f_stillP rfl rfl rfl (o_idx sl93 rfl rfl (W[j] / 2 * 4) ⟨by omega, by omega, by first | omega | (simp; done) | (simp; omega)⟩) ?_
         refine f_stillP rfl rfl rfl (o_field fa117_1 rfl) ?_
         refine f_stillP rfl rfl rfl (o_idxA ar115 rfl rfl (W[j] / 2 * 4 + 2 + (1 - W[j] % 2)) ⟨by omega, by omega, by first | omega | (simp; done) | (simp; omega)⟩) ?_
         refine f_stillP rfl rfl rfl (o_load Try.isAgg53 rfl (rdA (ecells_other hfl hk2))) ?_
         refine f_stillP rfl rfl rfl (o_move rfl) ?_
         refine f_stillP rfl rfl rfl (o_add rfl rfl _ (wrap_u32 (by omega))) ?_
         refine f_stillP rfl rfl rfl (o_idx sl93 rfl rfl (W[j] / 2 * 4) ⟨by omega, by omega, by first | omega | (simp; done) | (simp; omega)⟩) ?_
         refine f_stillP rfl rfl rfl (o_field fa117_1 rfl) ?_
         refine f_stillP rfl rfl rfl (o_idxA ar115 rfl rfl (W[j] / 2 * 4 + 2 + (1 - W[j] % 2)) ⟨by omega, by omega, by first | omega | (simp; done) | (simp; omega)⟩) ?_
         refine f_stillD (f_tail ?_)
         refine f_step0 rfl rfl (o_store Try.sizeOf53 rfl rfl rfl rfl (by rw [List.length_set, List.length_append, hcl]; omega) (ecells e (fpush (pushAll f2 (W.take j) mm) W[j] mm) ++ spE) (by rw [← hkw]; exact ecells_push hfl hk2) ?_)
         refine f_done ?_
         refine f_bn ?_
         refine f_tn (kh21 _ _ ?_)
         clear kh21
         refine f_region ?_
         refine f_stepP rfl rfl rfl (o_add rfl rfl _ (wrap_i64 (by omega))) ?_
         refine f_stepP rfl rfl rfl (o_move rfl) ?_
         refine f_done ?_
         refine f_tn (f_again (j + 1, [(be, blk (ecells e (fpush (pushAll f2 (W.take j) mm) W[j] mm) ++ spE) 117)]) (by first | omega | (dsimp only; omega) | (simp; omega)) ⟨by omega, by rw [List.take_succ_eq_append_getElem hj, pushAll_snoc]; exact hupd _ (by rw [ecells_len (by rw [fpush_len]; exact hfl), ecells_len hfl])⟩ ?_ ?_ ?_)
         · exact (by repeat (first | exact trivial | refine ⟨rfl, ?_⟩))
         · exact (by repeat (first | exact trivial | refine ⟨rfl, ?_⟩))
         · repeat (first | exact Sub.nil | refine Sub.pick ?_ | refine Sub.castO rfl ?_ | refine Sub.skip ?_)
        ·
         refine f_exit ?_
         refine f_te ?_
         clear kh20
         refine f_te ?_
         refine f_be ?_
         refine f_tn (kh17 _ _ ?_)
         clear kh17
         have hjW : W.take j = W := List.take_of_length_le (by omega)
         have hE4 : Own 117 4 (.slice A e.length cap) e.length (ecells e (pushAll f2 W mm)) me3 := by rw [hjW] at hE3; exact hE3
         refine f_region ?_
         refine f_stepP rfl rfl rfl (o_move rfl) ?_
         refine f_stepP rfl rfl rfl (o_move rfl) ?_
         refine f_stepP rfl rfl rfl (o_conv Try.runUnderlying53 Try.runUnderlying63 rfl _ (wrap_u64 (by omega))) ?_
         refine f_stepP rfl rfl rfl (o_add rfl rfl _ (wrap_u64 (by omega))) ?_
         refine f_stepP rfl rfl rfl (o_assign rfl) ?_
         refine f_done ?_
         refine f_bn ?_
         refine f_tn (kh9 _ _ ?_)
         clear kh9
         refine f_region ?_
         refine f_stepP rfl rfl rfl (o_move rfl) ?_
         refine f_stepP rfl rfl rfl (o_move rfl) ?_
         refine f_stepP rfl rfl rfl (o_move rfl) ?_
         refine f_step rfl rfl rfl (o_callM [(dsegs bx bat bl bn n (.slice A e.length cap) vs ms.flatten me3 L1 nx2).flatten] _ Try.call73 rfl (Sub.flatR (out := dsegs bx bat bl bn n (.slice A e.length cap) vs ms.flatten me3 L1 nx2) (Sub.pick (Sub.pick (Sub.pick (Sub.pick (Sub.pick (Sub.pick Sub.refl))))))) (fun w_ hp_ => way_spec n e (pushAll f2 W mm) L1 nx2 bx _ s t w_ hn hF3.fits hLy.len hLy.s0 hLy.ge hx2 (DRep_mk hR hE4) hs ht hst hp_.owns) ?_)
         rintro v28 _ ⟨W3, nx3, m3, mw3, rfl, hD3, hx3, hW3, hWl3, hWg3, _⟩
         dsimp only [List.cons_append, List.nil_append]
         refine f_stepP rfl rfl rfl (o_assign rfl) ?_
         refine f_done ?_
         refine f_tn (f_again (V2 + mm, pushAll f2 W mm, nx3, m3, W3, v28, mw3) (by show (capSum e - (V2 + mm)).toNat < (capSum e - V2).toNat; omega) ⟨hF3, hD3, hx3, hW3, hWl3, hWg3, by omega, fun _ => by omega⟩ ?_ ?_ ?_)
         · exact (by repeat (first | exact trivial | refine ⟨rfl, ?_⟩))
         · exact (by repeat (first | exact trivial | refine ⟨rfl, ?_⟩))
         · repeat (first | exact Sub.nil | refine Sub.pick ?_ | refine Sub.castO rfl ?_ | refine Sub.skip ?_)
    ·
     refine f_exit ?_
     refine f_te ?_
     clear kh7
     refine f_te ?_
     refine f_be ?_
     refine f_bn ?_
     refine f_tn (f_again (V2, f2, L1, nx2, m2) (by have := hne (by cases W with | nil => rfl | cons a b => simp at c24 <;> omega); have := hF2.val_le hs hst; show (capSum e - V2).toNat < (capSum e - V).toNat; omega) ⟨hF2, by omega, hD2, hLy.len, hx2.len⟩ ?_ ?_ ?_)
     · exact (by repeat (first | exact trivial | refine ⟨rfl, ?_⟩))
     · exact (by repeat (first | exact trivial | refine ⟨rfl, ?_⟩))
     · repeat (first | exact Sub.nil | refine Sub.pick ?_ | refine Sub.castO rfl ?_ | refine Sub.skip ?_)
  ·
   refine f_exit ?_
   refine f_te ?_
   clear kh4
   refine f_te ?_
   refine f_be ?_
   refine f_tn (kh3 _ _ ?_)
   clear kh3
   refine f_seq fun K24 kh24 => ?_
   refine f_region ?_
   refine f_stepP rfl rfl rfl (o_move rfl) ?_
   refine f_stepP rfl rfl rfl (o_assign rfl) ?_
   refine f_done ?_
   refine f_tn (kh24 _ _ ?_)
   clear kh24
   refine f_ret ?_
   exact f_fin1 [m1'] Try.results54 rfl (by repeat (first | exact Sub.nil | refine Sub.pick ?_ | refine Sub.castO rfl ?_)) ⟨V, f, L1, _, m1', rfl, rfl, hD1, hF, hLy, by omega, hV, by omega⟩

end Go.Proofs.Ytbjiejhdgkpjcaa

/- Plain laws of graphs: no program in sight. -/

namespace Go.Proofs.Ytbjiejhdgkpjcaa
open Go Fly
set_option linter.unusedVariables false

def arcBad (N : Int) (x : Arc) : Bool := decide (x.src < 0 ∨ N ≤ x.src ∨ x.dst < 0 ∨ N ≤ x.dst)

def gcheck (N : Int) (l : List Arc) : Int × Int :=
  if N < 1 ∨ 1024 < N then (0, 1) else if 8192 < l.length then (0, 2) else
  match l.findIdx? (arcBad N) with
  | some i => (i, 30)
  | none => (0, 0)

theorem gcheck_range {N : Int} {l : List Arc} (h : N < 1 ∨ 1024 < N) : gcheck N l = (0, 1) := by simp [gcheck, h]
theorem gcheck_long {N : Int} {l : List Arc} (h : 1 ≤ N ∧ N ≤ 1024) (hl : 8192 < l.length) : gcheck N l = (0, 2) := by
  have : ¬ (N < 1 ∨ 1024 < N) := by omega
  simp [gcheck, this, hl]
theorem gcheck_ok {N : Int} {l : List Arc} (h : 1 ≤ N ∧ N ≤ 1024) (hl : l.length ≤ 8192) (hall : ∀ j (h : j < l.length), arcBad N l[j] = false) : gcheck N l = (0, 0) := by
  have h1 : ¬ (N < 1 ∨ 1024 < N) := by omega
  have h2 : ¬ 8192 < l.length := by omega
  have h3 : l.findIdx? (arcBad N) = none := by
    rw [List.findIdx?_eq_none_iff]
    intro x hx
    obtain ⟨j, hj, rfl⟩ := List.mem_iff_getElem.1 hx
    exact hall j hj
  simp [gcheck, h1, h2, h3]
theorem gcheck_bad {N : Int} {l : List Arc} {k : Nat} (h : 1 ≤ N ∧ N ≤ 1024) (hl : l.length ≤ 8192) (hk : k < l.length) (hall : ∀ j (h : j < l.length), j < k → arcBad N l[j] = false) (hb : arcBad N l[k] = true) :
    gcheck N l = ((k : Int), 30) := by
  have h1 : ¬ (N < 1 ∨ 1024 < N) := by omega
  have h2 : ¬ 8192 < l.length := by omega
  have h3 : l.findIdx? (arcBad N) = some k := by
    rw [List.findIdx?_eq_some_iff_getElem]
    exact ⟨hk, hb, fun j hj => by simp [hall j (by omega) hj]⟩
  simp [gcheck, h1, h2, h3]

theorem wrap_u64_of {x : Int} (h : I64 x) : IntKind.u64.wrap x = if x < 0 then x + 18446744073709551616 else x := by
  unfold I64 at h; unfold IntKind.wrap IntKind.bits IntKind.signed; simp only; split <;> rename_i hc <;> simp at hc <;> split <;> omega
theorem badU {N x : Int} (hN : 1 ≤ N ∧ N ≤ 1024) (h : I64 x) : IntKind.u64.wrap N ≤ IntKind.u64.wrap x ↔ (x < 0 ∨ N ≤ x) := by
  have hN' : I64 N := ⟨by omega, by omega⟩
  rw [wrap_u64_of h, wrap_u64_of hN']; unfold I64 at h; split <;> split <;> omega
theorem arcBadL {N : Int} {x : Arc} (hN : 1 ≤ N ∧ N ≤ 1024) (h : ArcOk x) (hb : IntKind.u64.wrap N ≤ IntKind.u64.wrap x.src) : arcBad N x = true := by
  have := (badU hN h.src).1 hb
  unfold arcBad; simp; omega
theorem arcBadR {N : Int} {x : Arc} (hN : 1 ≤ N ∧ N ≤ 1024) (h : ArcOk x) (hb : IntKind.u64.wrap N ≤ IntKind.u64.wrap x.dst) : arcBad N x = true := by
  have := (badU hN h.dst).1 hb
  unfold arcBad; simp; omega
theorem arcGood {N : Int} {x : Arc} (hN : 1 ≤ N ∧ N ≤ 1024) (h : ArcOk x) (h1 : ¬ IntKind.u64.wrap N ≤ IntKind.u64.wrap x.src) (h2 : ¬ IntKind.u64.wrap N ≤ IntKind.u64.wrap x.dst) : arcBad N x = false := by
  have a := mt (badU hN h.src).2 h1
  have b := mt (badU hN h.dst).2 h2
  unfold arcBad; simp; omega
theorem good_next {N : Int} {l : List Arc} {k : Nat} {hk : k < l.length} (hall : ∀ j (h : j < l.length), j < k → arcBad N l[j] = false) (hb : arcBad N l[k] = false) :
    ∀ j (h : j < l.length), j < k + 1 → arcBad N l[j] = false := fun j h hj => by
  by_cases e : j = k
  · subst e; exact hb
  · exact hall j h (by omega)

def glooked (N : Int) (l : List Arc) (v : Int) : Int := if (gcheck N l).2 ≠ 0 then (gcheck N l).2 else if v < 0 ∨ N ≤ v then 5 else 0
theorem glooked_bad {N : Int} {l : List Arc} {v : Int} (h : (gcheck N l).2 ≠ 0) : glooked N l v = (gcheck N l).2 := if_pos h
theorem glooked_none {N : Int} {l : List Arc} {v : Int} (h : (gcheck N l).2 = 0) (hv : v < 0 ∨ N ≤ v) : glooked N l v = 5 := by simp [glooked, h, hv]
theorem glooked_ok {N : Int} {l : List Arc} {v : Int} (h : (gcheck N l).2 = 0) (h0 : 0 ≤ v) (h1 : v < N) : glooked N l v = 0 := by
  have : ¬ (v < 0 ∨ N ≤ v) := by omega
  simp [glooked, h, this]

/-- The places at which something is so. -/
def idxs {α : Type} (p : α → Bool) (l : List α) : List Int := (l.zipIdx.filter (fun x => p x.1)).map (fun x => (x.2 : Int))
theorem idxs_succ {α : Type} {p : α → Bool} {l : List α} {k : Nat} (hk : k < l.length) : idxs p (l.take (k + 1)) = idxs p (l.take k) ++ (if p l[k] then [(k : Int)] else []) := by
  unfold idxs
  rw [List.take_succ_eq_append_getElem hk, List.zipIdx_append, List.filter_append, List.map_append]
  congr 1
  have : (l.take k).length = k := by simp; omega
  simp only [this, Nat.zero_add, List.zipIdx_cons, List.zipIdx_nil, List.filter_cons, List.filter_nil]
  split <;> simp
theorem idxs_yes {α : Type} {p : α → Bool} {l : List α} {k : Nat} (hk : k < l.length) (h : p l[k] = true) : idxs p (l.take (k + 1)) = idxs p (l.take k) ++ [(k : Int)] := by rw [idxs_succ hk, if_pos h]
theorem idxs_no {α : Type} {p : α → Bool} {l : List α} {k : Nat} (hk : k < l.length) (h : p l[k] = false) : idxs p (l.take (k + 1)) = idxs p (l.take k) := by rw [idxs_succ hk, h]; simp


/-- The first place at which something is so, or -1. -/
def fidx {α : Type} (p : α → Bool) (l : List α) : Int := match l.findIdx? p with
  | some i => i
  | none => -1
theorem fidx_at {α : Type} {p : α → Bool} {l : List α} {k : Nat} (hk : k < l.length) (h : p l[k] = true) (hpre : ∀ j (h : j < l.length), j < k → p l[j] = false) : fidx p l = (k : Int) := by
  have : l.findIdx? p = some k := by rw [List.findIdx?_eq_some_iff_getElem]; exact ⟨hk, h, fun j hj => by simp [hpre j (by omega) hj]⟩
  unfold fidx; rw [this]
theorem fidx_none {α : Type} {p : α → Bool} {l : List α} (h : ∀ j (h : j < l.length), p l[j] = false) : fidx p l = -1 := by
  have : l.findIdx? p = none := by
    rw [List.findIdx?_eq_none_iff]; intro x hx
    obtain ⟨j, hj, rfl⟩ := List.mem_iff_getElem.1 hx
    exact h j hj
  unfold fidx; rw [this]
theorem false_next {α : Type} {p : α → Bool} {l : List α} {k : Nat} {hk : k < l.length} (h : ∀ j (a : j < l.length), j < k → p l[j] = false) (e : p l[k] = false) : ∀ j (a : j < l.length), j < k + 1 → p l[j] = false := fun j a hj => by
  by_cases hjk : j = k
  · subst hjk; exact e
  · exact h j a (by omega)
theorem fidx_has {α : Type} {p : α → Bool} {l : List α} : decide (0 ≤ fidx p l) = l.any p := by
  unfold fidx
  cases h : l.findIdx? p with
  | none =>
    rw [List.findIdx?_eq_none_iff] at h
    have : l.any p = false := by rw [List.any_eq_false]; intro x hx; simp [h x hx]
    rw [this]; rfl
  | some i =>
    rw [List.findIdx?_eq_some_iff_getElem] at h
    obtain ⟨hi, hp, _⟩ := h
    have : l.any p = true := List.any_eq_true.2 ⟨_, List.getElem_mem hi, hp⟩
    rw [this]; simp
end Go.Proofs.Ytbjiejhdgkpjcaa
