/- Package flow: a way through the layers. -/
import Derived.Test.YtnagjidfenfdbaaFFlow2
namespace Go.Proofs.Ytnagjidfenfdbaa
open Go Go.RowKit Fly
set_option linter.unusedVariables false
set_option linter.unusedSimpArgs false


theorem nodup_le : ∀ (m : Nat) (l : List Nat), l.Nodup → (∀ x, x ∈ l → x < m) → l.length ≤ m
  | 0, l, _, h => by
    cases l with
    | nil => exact Nat.le_refl _
    | cons x l => exact absurd (h x (List.mem_cons_self ..)) (by omega)
  | m + 1, l, hn, h => by
    by_cases hm : m ∈ l
    · have h1 := nodup_le m (l.erase m) (hn.erase m) fun x hx => by
        have := (hn.mem_erase_iff).1 hx
        have := h x this.2
        omega
      have := List.length_erase_of_mem hm
      omega
    · have := nodup_le m l hn fun x hx => by
        have := h x hx
        have : x ≠ m := fun e => hm (e ▸ hx)
        omega
      omega
theorem Wy.len {n : Nat} {e : List Arc} {s v : Nat} {f L nx : List Int} {W : List Nat} (h : Wy n e s f L nx W v) : W.length ≤ e.length := by
  have := nodup_le e.length (W.map (· / 2)) (h.way.nodup h.up) fun x hx => by
    obtain ⟨k, hk, rfl⟩ := List.mem_map.1 hx
    have := h.way.lt k hk
    omega
  simpa using this
theorem Way.level {e : List Arc} {L : List Int} : ∀ {W : List Nat} {u v : Nat}, Way e u v W → Up e L W → flAt L v = flAt L u + W.length
  | [], u, v, h, _ => by have : u = v := h; subst this; simp
  | k :: r, u, v, ⟨h1, h2, h3⟩, hU => by
    have a := Way.level h3 fun i hi => hU i (List.mem_cons_of_mem _ hi)
    have b := hU k (List.mem_cons_self ..)
    rw [h2] at b
    rw [a, b, List.length_cons]; omega
theorem xor1 (k : Nat) : k ^^^ 1 = if k % 2 = 0 then k + 1 else k - 1 := by
  apply Nat.eq_of_testBit_eq
  intro i
  rw [Nat.testBit_xor]
  cases i with
  | zero =>
    split
    · rename_i h
      have a : (k + 1) % 2 = 1 := by omega
      simp only [Nat.testBit_zero, h, a]; rfl
    · rename_i h
      have a : (k - 1) % 2 = 0 := by omega
      have b : k % 2 = 1 := by omega
      simp only [Nat.testBit_zero, b, a]; rfl
  | succ i =>
    have h1 : (1 : Nat).testBit (i + 1) = false := by simp [Nat.testBit_succ]
    rw [h1, Bool.xor_false, Nat.testBit_succ]
    split
    · rw [Nat.testBit_succ]; congr 1; omega
    · rw [Nat.testBit_succ]; congr 1; omega
theorem xor1_lt {e : List Arc} {k : Nat} (h : k < 2 * e.length) : k ^^^ 1 < 2 * e.length := by rw [xor1]; split <;> omega
theorem kto_xor (e : List Arc) (k : Nat) : kto e (k ^^^ 1) = kfrom e k := by
  rw [xor1]
  unfold kto kfrom
  by_cases h : k % 2 = 0
  · rw [if_pos h, if_neg (by omega), if_pos h, show (k + 1) / 2 = k / 2 by omega]
  · rw [if_neg h, if_pos (by omega), if_neg h, show (k - 1) / 2 = k / 2 by omega]
theorem nI_pop (W : List Nat) (k : Nat) : (ints (nI (W ++ [k]))).take (W.length * 1) = ints (nI W) := by
  rw [nI_snoc, List.take_left' (by rw [nI_len]; omega)]
theorem last_of {W : List Nat} (h : W ≠ []) : ∃ W' k, W = W' ++ [k] := ⟨W.dropLast, W.getLast h, (List.dropLast_concat_getLast h).symm⟩
/-- What way answers. -/
def WayΦ (n : Nat) (e : List Arc) (s t : Nat) (f L nx : List Int) (bx : Nat) (u : Value) (own : List Seg) : Prop :=
  ∃ W nx' m' mw, own = [m', mw] ∧ DRep n e f L nx' bx m' ∧ Nx n e nx' ∧ Own 3 1 u W.length (ints (nI W)) mw ∧ W.length ≤ e.length ∧ (W ≠ [] → Way e s t W ∧ ∀ k, k ∈ W → Good e f L k) ∧ (W = [] → Past n e t f L nx → Dead e t nx' s ∧ Past n e t f L nx')

set_option maxRecDepth 100000 in
set_option maxHeartbeats 4000000 in
theorem way_spec (n : Nat) (e : List Arc) (f L nx : List Int) (bx : Nat) (m : Seg) (s t : Nat) (w : World) (hn : NOk n e) (hf : Fits e f) (hLl : L.length = n) (hL0 : flAt L s = 0) (hLg : ∀ v, v < n → -1 ≤ flAt L v) (hx : Nx n e nx) (hS : DRep n e f L nx bx m) (hs : s < n) (ht : t < n) (hst : s ≠ t) (hw : Owns w [m]) :
    Meets Try.prog 32 [.pointer (some ⟨bx, 0, none⟩), .int .i64 (s : Int), .int .i64 (t : Int)] w [m] (WayΦ n e s t f L nx bx) := by
  have hn1 := hn.n1
  have hel := hn.len
  refine f_enter Try.func32 rfl Try.ntmps32 rfl hw ?_
  obtain ⟨bat, bl, bn, ve, vs, ms, me, hmp, hR, hE⟩ := hS
  obtain ⟨A, cap, rfl, _⟩ := hE.val
  refine f_subC (Sub.permF hmp) ?_
  unfold dsegs
  refine f_seq fun K1 kh1 => ?_
  refine f_region ?_
  refine f_stepP rfl rfl rfl (o_assign rfl) ?_
  refine f_done ?_
  refine f_tn (kh1 _ _ ?_)
  clear kh1
  refine f_scope ?_
  refine f_seq fun K2 kh2 => ?_
  refine f_region ?_
  refine f_stepP rfl rfl rfl (o_assign rfl) ?_
  refine f_done ?_
  refine f_tn (kh2 _ _ ?_)
  clear kh2
  refine f_seq fun K3 kh3 => ?_
  refine f_region ?_
  refine f_stepP rfl rfl rfl (o_move rfl) ?_
  refine f_stepP rfl rfl rfl (o_assign rfl) ?_
  refine f_done ?_
  refine f_tn (kh3 _ _ ?_)
  clear kh3
  refine f_seq fun K4 kh4 => ?_
  refine f_label ?_
  refine f_tn (kh4 _ _ ?_)
  clear kh4
  refine f_seq fun K5 kh5 => ?_
  refine f_block ?_
  refine f_loop (α := List Nat × Nat × List Int × Value × Seg) [0, 2] (fun ⟨W, v, nx2, wv, wm⟩ => [(7, wv), (8, .int .i64 (v : Int))]) (fun ⟨W, v, nx2, wv, wm⟩ => [[(bx, blk (dcells (.slice A e.length cap) n bat bl bn) 63)], [(bat, blk vs 32)], ms.flatten, me, [(bl, blk (ints L) 3)], [(bn, blk (ints nx2) 3)], wm]) (fun ⟨W, v, nx2, wv, wm⟩ => Wy n e s f L nx2 W v ∧ v < n ∧ Own 3 1 wv W.length (ints (nI W)) wm ∧ (Past n e t f L nx → Past n e t f L nx2)) (fun ⟨W, v, nx2, wv, wm⟩ => wayMu n e L nx2 v) ([], s, nx, .slice none 0 0, []) ?_ ?_ ?_ ?_
  · exact (by repeat (first | exact trivial | refine ⟨rfl, ?_⟩))
  · repeat (first | exact Sub.nil | refine Sub.pick ?_ | refine Sub.castO rfl ?_ | refine Sub.skip ?_)
  · exact ⟨⟨rfl, fun k h => by simp at h, fun k h => by simp at h, hx⟩, hs, Own.nil _ _, fun h => h⟩
  · rintro ⟨W, v, nx2, wv, wm⟩ ⟨hy, hvn, hW, hP⟩
    obtain ⟨Aw, cw, rfl, hcw⟩ := hW.val
    refine f_seq fun K6 kh6 => ?_
    refine f_seq fun K7 kh7 => ?_
    refine f_region ?_
    refine f_stepP rfl rfl rfl (o_move rfl) ?_
    refine f_stepP rfl rfl rfl (o_move rfl) ?_
    refine f_stepP rfl rfl rfl (o_neq rfl rfl) ?_
    refine f_done ?_
    refine f_tn (kh7 _ _ ?_)
    clear kh7
    refine f_cond rfl (fun c15 => ?_) (fun c15 => ?_)
    · skip
      refine f_skip ?_
      refine f_tn (kh6 _ _ ?_)
      clear kh6
      refine f_block ?_
      refine f_seq fun K8 kh8 => ?_
      refine f_block ?_
      obtain ⟨rv, rm, rG, hrv, hro, hrp, _⟩ := hR.split (i := v) (by rw [kRows_len]; exact hvn)
      rw [kRows_get] at hro
      have hrlen := kRow_len e (2 * e.length) v
      obtain ⟨Ar, cr, rfl, hcr⟩ := hro.val
      refine f_subC (Sub.splitF hrp) ?_
      refine f_loop (α := List Int) [0, 2] (fun nx3 => [(7, .slice Aw W.length cw), (8, .int .i64 (v : Int))]) (fun nx3 => [[(bx, blk (dcells (.slice A e.length cap) n bat bl bn) 63)], [(bat, blk vs 32)], rm, rG, me, [(bl, blk (ints L) 3)], [(bn, blk (ints nx3) 3)], wm]) (fun nx3 => Wy n e s f L nx3 W v ∧ (Past n e t f L nx → Past n e t f L nx3) ∧ wayMu n e L nx3 v ≤ wayMu n e L nx2 v) (fun nx3 => ((kRow e (2 * e.length) v).length - flAt nx3 v).toNat) (nx2) ?_ ?_ ?_ ?_
      · exact (by repeat (first | exact trivial | refine ⟨rfl, ?_⟩))
      · repeat (first | exact Sub.nil | refine Sub.pick ?_ | refine Sub.castO rfl ?_ | refine Sub.skip ?_)
      · exact ⟨hy, hP, Nat.le_refl _⟩
      · rintro nx3 ⟨hy3, hP3, hm3⟩
        have hxl := hy3.nx.len
        have hxr : 0 ≤ flAt nx3 v ∧ flAt nx3 v ≤ (((kRow e (2 * e.length) v).length : Nat) : Int) := hy3.nx.rng v hvn
        refine f_seq fun K9 kh9 => ?_
        refine f_seq fun K10 kh10 => ?_
        refine f_regionS rfl (by decide +kernel) ?_
        refine f_stillP rfl rfl rfl (o_move rfl) ?_
        refine f_stillP rfl rfl rfl (o_nil rfl) ?_
        refine f_stillP rfl rfl rfl (o_field fa63_3 rfl) ?_
        refine f_stillP rfl rfl rfl (o_load Try.isAgg32 rfl (rdA rfl)) ?_
        refine f_stillP rfl rfl rfl (o_move rfl) ?_
        refine f_stillP rfl rfl rfl (o_idx sl32 rfl rfl (v) ⟨by omega, by omega, by first | omega | (simp; done) | (simp; omega)⟩) ?_
        refine f_stillP rfl rfl rfl (o_load Try.isAgg3 rfl (rdA (ints_fl (by omega)))) ?_
        refine f_stillP rfl rfl rfl (o_move rfl) ?_
        refine f_stillP rfl rfl rfl (o_nil rfl) ?_
        refine f_stillP rfl rfl rfl (o_field fa63_1 rfl) ?_
        refine f_stillP rfl rfl rfl (o_load Try.isAgg61 rfl (rdA rfl)) ?_
        refine f_stillP rfl rfl rfl (o_move rfl) ?_
        refine f_stillP rfl rfl rfl (o_idx sl61 rfl rfl (v) ⟨by omega, by omega, by first | omega | (simp; done) | (simp; omega)⟩) ?_
        refine f_stillP rfl rfl rfl (o_load Try.isAgg32 rfl (rdA hrv)) ?_
        refine f_stillP rfl rfl rfl (o_len sl32 rfl) ?_
        refine f_stillP rfl rfl rfl (o_lss rfl rfl) ?_
        refine f_stillD ?_
        refine f_tn (kh10 _ _ ?_)
        clear kh10
        refine f_cond rfl (fun c31 => ?_) (fun c31 => ?_)
        · skip
          refine f_skip ?_
          refine f_tn (kh9 _ _ ?_)
          clear kh9
          refine f_seq fun K11 kh11 => ?_
          refine f_block ?_
          refine f_seq fun K12 kh12 => ?_
          refine f_regionT 16 rfl (by decide +kernel) ?_
          have hj : (flAt nx3 v).toNat < (kRow e (2 * e.length) v).length := by omega
          have hlt : flAt nx3 v < ((row e v).length : Int) := by show flAt nx3 v < ((kRow e (2 * e.length) v).length : Int); omega
          obtain ⟨br, sr, rfl, rfl⟩ := hro.at_ (by omega)
          obtain ⟨k, hrk, hk2, hkf⟩ := row_at hj
          have hcur : (row e v)[(flAt nx3 v).toNat]? = some (k : Int) := by rw [List.getElem?_eq_getElem hj, hrk]
          have hut := kto_lt hn.net hk2
          have hlv := hy3.way.level hy3.up
          rw [hL0] at hlv
          have hwl := hy3.len
          refine f_stillP rfl rfl rfl (o_move rfl) ?_
          refine f_stillP rfl rfl rfl (o_nil rfl) ?_
          refine f_stillP rfl rfl rfl (o_field fa63_1 rfl) ?_
          refine f_stillP rfl rfl rfl (o_load Try.isAgg61 rfl (rdA rfl)) ?_
          refine f_stillP rfl rfl rfl (o_move rfl) ?_
          refine f_stillP rfl rfl rfl (o_idx sl61 rfl rfl (v) ⟨by omega, by omega, by first | omega | (simp; done) | (simp; omega)⟩) ?_
          refine f_stillP rfl rfl rfl (o_load Try.isAgg32 rfl (rdA hrv)) ?_
          refine f_stillP rfl rfl rfl (o_move rfl) ?_
          refine f_stillP rfl rfl rfl (o_nil rfl) ?_
          refine f_stillP rfl rfl rfl (o_field fa63_3 rfl) ?_
          refine f_stillP rfl rfl rfl (o_load Try.isAgg32 rfl (rdA rfl)) ?_
          refine f_stillP rfl rfl rfl (o_move rfl) ?_
          refine f_stillP rfl rfl rfl (o_idx sl32 rfl rfl (v) ⟨by omega, by omega, by first | omega | (simp; done) | (simp; omega)⟩) ?_
          refine f_stillP rfl rfl rfl (o_load Try.isAgg3 rfl (rdA (ints_fl (by omega)))) ?_
          refine f_stillP rfl rfl rfl (o_idx sl32 rfl rfl ((flAt nx3 v).toNat) ⟨by omega, by omega, by first | omega | (simp; done) | (simp; omega)⟩) ?_
          refine f_stillP rfl rfl rfl (o_load Try.isAgg3 rfl (rdA (v := .int .i64 (k : Int)) (app_get (by rw [ints_get hj, hrk])))) ?_
          refine f_stillD (f_tail ?_)
          refine f_stepP rfl rfl rfl (o_assign rfl) ?_
          refine f_done ?_
          refine f_tn (kh12 _ _ ?_)
          clear kh12
          refine f_seq fun K13 kh13 => ?_
          refine f_region ?_
          refine f_stepP rfl rfl rfl (o_move rfl) ?_
          refine f_stepP rfl rfl rfl (o_move rfl) ?_
          refine f_step rfl rfl rfl (o_call Try.call34 rfl (fun w_ hp_ => to_spec n e f bx bat bl bn k cap A w_ (roOwn (b := bx) hp_ (fun j v hj => hj)) (seen_ro (hE.seen hp_)) hn hf.len hk2) ?_)
          rintro _ _ ⟨rfl, rfl⟩
          dsimp only [List.cons_append, List.nil_append]
          refine f_stepP rfl rfl rfl (o_assign rfl) ?_
          refine f_done ?_
          refine f_tn (kh13 _ _ ?_)
          clear kh13
          refine f_seq fun K14 kh14 => ?_
          refine f_regionH [[(bx, blk (dcells (.slice A e.length cap) n bat bl bn) 63)], [(bl, blk (ints L) 3)]] rfl ?_
          refine f_take 0 rfl (by decide +kernel) rfl rfl rfl (by repeat (first | exact Sub.nil | refine Sub.pick ?_ | refine Sub.castO rfl ?_ | refine Sub.skip ?_)) (o_move rfl) ?_
          refine f_take 1 rfl (by decide +kernel) rfl rfl rfl (by repeat (first | exact Sub.nil | refine Sub.pick ?_ | refine Sub.castO rfl ?_ | refine Sub.skip ?_)) (o_move rfl) ?_
          refine f_only 2 rfl (by decide +kernel) rfl rfl rfl (o_call Try.call33 rfl (fun w_ hp_ => left_spec n e f bx bat bl bn k cap A w_ (roOwn (b := bx) hp_ (fun j v hj => hj)) (seen_ro (hE.seen hp_)) hn hf.len hk2) ?_)
          rintro _ _ ⟨rfl, rfl⟩
          dsimp only [List.cons_append, List.nil_append]
          refine ⟨(by repeat (first | exact Sub.nil | refine Sub.pick ?_ | refine Sub.castO rfl ?_ | refine Sub.skip ?_)), ?_⟩
          refine f_take 3 rfl (by decide +kernel) rfl rfl rfl (by repeat (first | exact Sub.nil | refine Sub.pick ?_ | refine Sub.castO rfl ?_ | refine Sub.skip ?_)) (o_gtr rfl rfl) ?_
          refine f_take 4 rfl (by decide +kernel) rfl rfl rfl (by repeat (first | exact Sub.nil | refine Sub.pick ?_ | refine Sub.castO rfl ?_ | refine Sub.skip ?_)) (o_move rfl) ?_
          refine f_splitH 64 rfl (fun g64 => ?_) (fun g64 => ?_)
          · skip
            refine f_takeY 5 rfl (by decide +kernel) rfl rfl rfl rfl rfl (by repeat (first | exact Sub.nil | refine Sub.pick ?_ | refine Sub.castO rfl ?_ | refine Sub.skip ?_)) (o_move rfl) ?_
            refine f_takeY 6 rfl (by decide +kernel) rfl rfl rfl rfl rfl (by repeat (first | exact Sub.nil | refine Sub.pick ?_ | refine Sub.castO rfl ?_ | refine Sub.skip ?_)) (o_nil rfl) ?_
            refine f_takeY 7 rfl (by decide +kernel) rfl rfl rfl rfl rfl (by repeat (first | exact Sub.nil | refine Sub.pick ?_ | refine Sub.castO rfl ?_ | refine Sub.skip ?_)) (o_field fa63_2 rfl) ?_
            refine f_takeY 8 rfl (by decide +kernel) rfl rfl rfl rfl rfl (by repeat (first | exact Sub.nil | refine Sub.pick ?_ | refine Sub.castO rfl ?_ | refine Sub.skip ?_)) (o_load Try.isAgg32 rfl (rdA rfl)) ?_
            refine f_takeY 9 rfl (by decide +kernel) rfl rfl rfl rfl rfl (by repeat (first | exact Sub.nil | refine Sub.pick ?_ | refine Sub.castO rfl ?_ | refine Sub.skip ?_)) (o_move rfl) ?_
            refine f_takeY 10 rfl (by decide +kernel) rfl rfl rfl rfl rfl (by repeat (first | exact Sub.nil | refine Sub.pick ?_ | refine Sub.castO rfl ?_ | refine Sub.skip ?_)) (o_idx sl32 rfl rfl (kto e k) ⟨by omega, by omega, by first | omega | (simp; done) | (simp; omega)⟩) ?_
            refine f_takeY 11 rfl (by decide +kernel) rfl rfl rfl rfl rfl (by repeat (first | exact Sub.nil | refine Sub.pick ?_ | refine Sub.castO rfl ?_ | refine Sub.skip ?_)) (o_load Try.isAgg3 rfl (rdA (ints_fl (by omega)))) ?_
            refine f_takeY 12 rfl (by decide +kernel) rfl rfl rfl rfl rfl (by repeat (first | exact Sub.nil | refine Sub.pick ?_ | refine Sub.castO rfl ?_ | refine Sub.skip ?_)) (o_move rfl) ?_
            refine f_takeY 13 rfl (by decide +kernel) rfl rfl rfl rfl rfl (by repeat (first | exact Sub.nil | refine Sub.pick ?_ | refine Sub.castO rfl ?_ | refine Sub.skip ?_)) (o_nil rfl) ?_
            refine f_takeY 14 rfl (by decide +kernel) rfl rfl rfl rfl rfl (by repeat (first | exact Sub.nil | refine Sub.pick ?_ | refine Sub.castO rfl ?_ | refine Sub.skip ?_)) (o_field fa63_2 rfl) ?_
            refine f_takeY 15 rfl (by decide +kernel) rfl rfl rfl rfl rfl (by repeat (first | exact Sub.nil | refine Sub.pick ?_ | refine Sub.castO rfl ?_ | refine Sub.skip ?_)) (o_load Try.isAgg32 rfl (rdA rfl)) ?_
            refine f_takeY 16 rfl (by decide +kernel) rfl rfl rfl rfl rfl (by repeat (first | exact Sub.nil | refine Sub.pick ?_ | refine Sub.castO rfl ?_ | refine Sub.skip ?_)) (o_move rfl) ?_
            refine f_takeY 17 rfl (by decide +kernel) rfl rfl rfl rfl rfl (by repeat (first | exact Sub.nil | refine Sub.pick ?_ | refine Sub.castO rfl ?_ | refine Sub.skip ?_)) (o_idx sl32 rfl rfl (v) ⟨by omega, by omega, by first | omega | (simp; done) | (simp; omega)⟩) ?_
            refine f_takeY 18 rfl (by decide +kernel) rfl rfl rfl rfl rfl (by repeat (first | exact Sub.nil | refine Sub.pick ?_ | refine Sub.castO rfl ?_ | refine Sub.skip ?_)) (o_load Try.isAgg3 rfl (rdA (ints_fl (by omega)))) ?_
            refine f_takeY 19 rfl (by decide +kernel) rfl rfl rfl rfl rfl (by repeat (first | exact Sub.nil | refine Sub.pick ?_ | refine Sub.castO rfl ?_ | refine Sub.skip ?_)) (o_add rfl rfl _ (wrap_i64 (by omega))) ?_
            refine f_takeY 20 rfl (by decide +kernel) rfl rfl rfl rfl rfl (by repeat (first | exact Sub.nil | refine Sub.pick ?_ | refine Sub.castO rfl ?_ | refine Sub.skip ?_)) (o_eql rfl rfl) ?_
            refine f_take 21 rfl (by decide +kernel) rfl rfl rfl (by repeat (first | exact Sub.nil | refine Sub.pick ?_ | refine Sub.castO rfl ?_ | refine Sub.skip ?_)) (o_pickT rfl rfl) ?_
            refine f_over (by decide +kernel) ?_
            refine f_tn (kh14 _ _ ?_)
            clear kh14
            refine f_cond rfl (fun c81 => ?_) (fun c81 => ?_)
            · skip
              refine f_seq fun K15 kh15 => ?_
              refine f_region ?_
              refine f_stepP rfl rfl rfl (o_move rfl) ?_
              refine f_stepP rfl rfl rfl (o_move rfl) ?_
              refine f_step rfl rfl rfl (o_slice1 el32 (by omega) rfl rfl rfl fun b84 => ?_)
              refine f_step rfl rfl rfl (o_append el32 rfl rfl hW (ys := [.int .i64 (k : Int)]) ⟨(rdA rfl), trivial⟩ rfl rfl (by omega) (by omega) fun v85 m85 o85 => ?_)
              refine f_stepP rfl rfl rfl (o_assign rfl) ?_
              refine f_done ?_
              refine f_tn (kh15 _ _ ?_)
              clear kh15
              refine f_seq fun K16 kh16 => ?_
              refine f_region ?_
              refine f_stepP rfl rfl rfl (o_move rfl) ?_
              refine f_stepP rfl rfl rfl (o_assign rfl) ?_
              refine f_done ?_
              refine f_tn (kh16 _ _ ?_)
              clear kh16
              refine f_exit ?_
              refine f_bo rfl ?_
              refine f_te ?_
              clear kh11
              refine f_te ?_
              refine f_bo rfl ?_
              refine f_te ?_
              clear kh8
              refine f_be ?_
              refine f_subQ (Sub.joinF hrp.symm) ?_
              refine f_tn (f_again (W ++ [k], kto e k, nx3, v85, m85) (by show wayMu n e L nx3 (kto e k) < wayMu n e L nx2 v; have := wayMu_on (L := L) ⟨g64, by rw [hkf]; exact c81⟩ hkf hy3.nx; omega) ⟨hy3.on hk2 hkf hcur ⟨g64, by rw [hkf]; exact c81⟩, hut, by rw [nI_snoc, List.length_append]; exact o85, hP3⟩ ?_ ?_ ?_)
              · exact (by repeat (first | exact trivial | refine ⟨rfl, ?_⟩))
              · exact (by repeat (first | exact trivial | refine ⟨rfl, ?_⟩))
              · repeat (first | exact Sub.nil | refine Sub.pick ?_ | refine Sub.castO rfl ?_ | refine Sub.skip ?_)
            · skip
              refine f_skip ?_
              refine f_bn ?_
              refine f_tn (kh11 _ _ ?_)
              clear kh11
              refine f_region ?_
              refine f_stepP rfl rfl rfl (o_move rfl) ?_
              refine f_stepP rfl rfl rfl (o_nil rfl) ?_
              refine f_stepP rfl rfl rfl (o_field fa63_3 rfl) ?_
              refine f_stepP rfl rfl rfl (o_load Try.isAgg32 rfl (rdA rfl)) ?_
              refine f_stepP rfl rfl rfl (o_move rfl) ?_
              refine f_stepP rfl rfl rfl (o_idx sl32 rfl rfl (v) ⟨by omega, by omega, by first | omega | (simp; done) | (simp; omega)⟩) ?_
              refine f_stepP rfl rfl rfl (o_load Try.isAgg3 rfl (rdA (ints_fl (by omega)))) ?_
              refine f_stepP rfl rfl rfl (o_add rfl rfl _ (wrap_i64 (by omega))) ?_
              refine f_stepP rfl rfl rfl (o_idx sl32 rfl rfl (v) ⟨by omega, by omega, by first | omega | (simp; done) | (simp; omega)⟩) ?_
              refine f_step0 rfl rfl (o_store Try.sizeOf3 rfl rfl rfl rfl (by rw [ints_length]; omega) (ints (nx3.set v (flAt nx3 v + 1))) (ints_put ..) ?_)
              refine f_done ?_
              refine f_tn (f_again (nx3.set v (flAt nx3 v + 1)) (by rw [flAt_set (by omega), if_pos rfl]; omega) ⟨hy3.pass hvn hlt, fun h => (hP3 h).step hy3.nx hvn hlt (fun k' hk' hg' => by
                rw [hcur] at hk'
                obtain rfl : k = k' := by have := Option.some.inj hk'; omega
                obtain ⟨q1, q2⟩ := hg'
                rw [hkf] at q2; omega), Nat.le_trans (Nat.le_of_lt (wayMu_pass (L := L) hy3.nx hvn hlt (hLg v hvn) v)) hm3⟩ ?_ ?_ ?_)
              · exact (by repeat (first | exact trivial | refine ⟨rfl, ?_⟩))
              · exact (by repeat (first | exact trivial | refine ⟨rfl, ?_⟩))
              · repeat (first | exact Sub.nil | refine Sub.pick ?_ | refine Sub.castO rfl ?_ | refine Sub.skip ?_)
          · skip
            refine f_takeN 5 rfl (by decide +kernel) rfl rfl rfl rfl rfl rfl (by repeat (first | exact Sub.nil | refine Sub.pick ?_ | refine Sub.castO rfl ?_ | refine Sub.skip ?_)) ?_
            refine f_takeN 6 rfl (by decide +kernel) rfl rfl rfl rfl rfl rfl (by repeat (first | exact Sub.nil | refine Sub.pick ?_ | refine Sub.castO rfl ?_ | refine Sub.skip ?_)) ?_
            refine f_takeN 7 rfl (by decide +kernel) rfl rfl rfl rfl rfl rfl (by repeat (first | exact Sub.nil | refine Sub.pick ?_ | refine Sub.castO rfl ?_ | refine Sub.skip ?_)) ?_
            refine f_takeN 8 rfl (by decide +kernel) rfl rfl rfl rfl rfl rfl (by repeat (first | exact Sub.nil | refine Sub.pick ?_ | refine Sub.castO rfl ?_ | refine Sub.skip ?_)) ?_
            refine f_takeN 9 rfl (by decide +kernel) rfl rfl rfl rfl rfl rfl (by repeat (first | exact Sub.nil | refine Sub.pick ?_ | refine Sub.castO rfl ?_ | refine Sub.skip ?_)) ?_
            refine f_takeN 10 rfl (by decide +kernel) rfl rfl rfl rfl rfl rfl (by repeat (first | exact Sub.nil | refine Sub.pick ?_ | refine Sub.castO rfl ?_ | refine Sub.skip ?_)) ?_
            refine f_takeN 11 rfl (by decide +kernel) rfl rfl rfl rfl rfl rfl (by repeat (first | exact Sub.nil | refine Sub.pick ?_ | refine Sub.castO rfl ?_ | refine Sub.skip ?_)) ?_
            refine f_takeN 12 rfl (by decide +kernel) rfl rfl rfl rfl rfl rfl (by repeat (first | exact Sub.nil | refine Sub.pick ?_ | refine Sub.castO rfl ?_ | refine Sub.skip ?_)) ?_
            refine f_takeN 13 rfl (by decide +kernel) rfl rfl rfl rfl rfl rfl (by repeat (first | exact Sub.nil | refine Sub.pick ?_ | refine Sub.castO rfl ?_ | refine Sub.skip ?_)) ?_
            refine f_takeN 14 rfl (by decide +kernel) rfl rfl rfl rfl rfl rfl (by repeat (first | exact Sub.nil | refine Sub.pick ?_ | refine Sub.castO rfl ?_ | refine Sub.skip ?_)) ?_
            refine f_takeN 15 rfl (by decide +kernel) rfl rfl rfl rfl rfl rfl (by repeat (first | exact Sub.nil | refine Sub.pick ?_ | refine Sub.castO rfl ?_ | refine Sub.skip ?_)) ?_
            refine f_takeN 16 rfl (by decide +kernel) rfl rfl rfl rfl rfl rfl (by repeat (first | exact Sub.nil | refine Sub.pick ?_ | refine Sub.castO rfl ?_ | refine Sub.skip ?_)) ?_
            refine f_takeN 17 rfl (by decide +kernel) rfl rfl rfl rfl rfl rfl (by repeat (first | exact Sub.nil | refine Sub.pick ?_ | refine Sub.castO rfl ?_ | refine Sub.skip ?_)) ?_
            refine f_takeN 18 rfl (by decide +kernel) rfl rfl rfl rfl rfl rfl (by repeat (first | exact Sub.nil | refine Sub.pick ?_ | refine Sub.castO rfl ?_ | refine Sub.skip ?_)) ?_
            refine f_takeN 19 rfl (by decide +kernel) rfl rfl rfl rfl rfl rfl (by repeat (first | exact Sub.nil | refine Sub.pick ?_ | refine Sub.castO rfl ?_ | refine Sub.skip ?_)) ?_
            refine f_takeN 20 rfl (by decide +kernel) rfl rfl rfl rfl rfl rfl (by repeat (first | exact Sub.nil | refine Sub.pick ?_ | refine Sub.castO rfl ?_ | refine Sub.skip ?_)) ?_
            refine f_take 21 rfl (by decide +kernel) rfl rfl rfl (by repeat (first | exact Sub.nil | refine Sub.pick ?_ | refine Sub.castO rfl ?_ | refine Sub.skip ?_)) (o_pickF rfl rfl) ?_
            refine f_over (by decide +kernel) ?_
            refine f_tn (kh14 _ _ ?_)
            clear kh14
            refine f_condF rfl ?_
            refine f_skip ?_
            refine f_bn ?_
            refine f_tn (kh11 _ _ ?_)
            clear kh11
            refine f_region ?_
            refine f_stepP rfl rfl rfl (o_move rfl) ?_
            refine f_stepP rfl rfl rfl (o_nil rfl) ?_
            refine f_stepP rfl rfl rfl (o_field fa63_3 rfl) ?_
            refine f_stepP rfl rfl rfl (o_load Try.isAgg32 rfl (rdA rfl)) ?_
            refine f_stepP rfl rfl rfl (o_move rfl) ?_
            refine f_stepP rfl rfl rfl (o_idx sl32 rfl rfl (v) ⟨by omega, by omega, by first | omega | (simp; done) | (simp; omega)⟩) ?_
            refine f_stepP rfl rfl rfl (o_load Try.isAgg3 rfl (rdA (ints_fl (by omega)))) ?_
            refine f_stepP rfl rfl rfl (o_add rfl rfl _ (wrap_i64 (by omega))) ?_
            refine f_stepP rfl rfl rfl (o_idx sl32 rfl rfl (v) ⟨by omega, by omega, by first | omega | (simp; done) | (simp; omega)⟩) ?_
            refine f_step0 rfl rfl (o_store Try.sizeOf3 rfl rfl rfl rfl (by rw [ints_length]; omega) (ints (nx3.set v (flAt nx3 v + 1))) (ints_put ..) ?_)
            refine f_done ?_
            refine f_tn (f_again (nx3.set v (flAt nx3 v + 1)) (by rw [flAt_set (by omega), if_pos rfl]; omega) ⟨hy3.pass hvn hlt, fun h => (hP3 h).step hy3.nx hvn hlt (fun k' hk' hg' => by
              rw [hcur] at hk'
              obtain rfl : k = k' := by have := Option.some.inj hk'; omega
              obtain ⟨q1, q2⟩ := hg'
              rw [hkf] at q2; omega), Nat.le_trans (Nat.le_of_lt (wayMu_pass (L := L) hy3.nx hvn hlt (hLg v hvn) v)) hm3⟩ ?_ ?_ ?_)
            · exact (by repeat (first | exact trivial | refine ⟨rfl, ?_⟩))
            · exact (by repeat (first | exact trivial | refine ⟨rfl, ?_⟩))
            · repeat (first | exact Sub.nil | refine Sub.pick ?_ | refine Sub.castO rfl ?_ | refine Sub.skip ?_)
        · skip
          refine f_exit ?_
          refine f_te ?_
          clear kh9
          refine f_te ?_
          refine f_be ?_
          refine f_tn (kh8 _ _ ?_)
          clear kh8
          refine f_seq fun K17 kh17 => ?_
          refine f_seq fun K18 kh18 => ?_
          refine f_region ?_
          refine f_stepP rfl rfl rfl (o_move rfl) ?_
          refine f_stepP rfl rfl rfl (o_len sl32 rfl) ?_
          refine f_stepP rfl rfl rfl (o_eql rfl rfl) ?_
          refine f_done ?_
          refine f_tn (kh18 _ _ ?_)
          clear kh18
          refine f_cond rfl (fun c89 => ?_) (fun c89 => ?_)
          · skip
            obtain rfl : W = [] := by
              cases W with
              | nil => rfl
              | cons a b => simp at c89; omega
            have hsv : s = v := hy3.way
            subst hsv
            refine f_seq fun K19 kh19 => ?_
            refine f_region ?_
            refine f_stepP rfl rfl rfl (o_assign rfl) ?_
            refine f_done ?_
            refine f_tn (kh19 _ _ ?_)
            clear kh19
            refine f_ret ?_
            refine f_tr ?_
            refine f_br ?_
            refine f_tr ?_
            refine f_br ?_
            refine f_tr ?_
            refine f_nr ?_
            exact f_fin1 [(dsegs bx bat bl bn n (.slice A e.length cap) vs ms.flatten me L nx3).flatten, []] Try.results32 rfl (Sub.transF (Sub.joinF hrp.symm) (Sub.flat2 (Sub.transF (b := dsegs bx bat bl bn n (.slice A e.length cap) vs ms.flatten me L nx3) (by unfold dsegs; repeat (first | exact Sub.nil | refine Sub.pick ?_ | refine Sub.castO rfl ?_)) Sub.addNil))) ⟨[], nx3, _, [], rfl, DRep_mk hR hE, hy3.nx, Own.nil _ _, Nat.zero_le _, fun h => absurd rfl h, fun _ h => ⟨⟨by show flAt nx3 s = (((kRow e (2 * e.length) s).length : Nat) : Int); omega, hst⟩, hP3 h⟩⟩
          · skip
            obtain ⟨W', k, rfl⟩ := last_of (W := W) (fun e' => by subst e'; simp at c89)
            have hwl := hy3.len
            have hWl : (W' ++ [k]).length = W'.length + 1 := by simp
            obtain ⟨bw, sw, rfl, rfl⟩ := hW.at_ (by omega)
            obtain ⟨hk2, hkt, hbk⟩ := hy3.back
            have hfn := kfrom_lt hn.net hk2
            have hlt' := hy3.lt
            have hlq : flAt nx3 (kfrom e k) < (((kRow e (2 * e.length) (kfrom e k)).length : Nat) : Int) := hy3.lt
            have hfr := hy3.nx.rng _ hfn
            have hrl' := kRow_len e (2 * e.length) (kfrom e k)
            refine f_skip ?_
            refine f_tn (kh17 _ _ ?_)
            clear kh17
            refine f_seq fun K20 kh20 => ?_
            refine f_region ?_
            refine f_stepP rfl rfl rfl (o_move rfl) ?_
            refine f_stepP rfl rfl rfl (o_move rfl) ?_
            refine f_stepP rfl rfl rfl (o_len sl32 rfl) ?_
            refine f_stepP rfl rfl rfl (o_sub rfl rfl _ (wrap_i64 (by omega))) ?_
            refine f_stepP rfl rfl rfl (o_idx sl32 rfl rfl (W'.length) ⟨by omega, by omega, by first | omega | (simp; done) | (simp; omega)⟩) ?_
            refine f_stepP rfl rfl rfl (o_load Try.isAgg3 rfl (rdA (v := .int .i64 (k : Int)) (app_get (by rw [nI_snoc, List.getElem?_append_right (by rw [nI_len]; exact Nat.le_refl _), nI_len, Nat.sub_self]; rfl)))) ?_
            refine f_stepP rfl rfl rfl (o_assign rfl) ?_
            refine f_done ?_
            refine f_tn (kh20 _ _ ?_)
            clear kh20
            refine f_seq fun K21 kh21 => ?_
            refine f_region ?_
            refine f_stepP rfl rfl rfl (o_move rfl) ?_
            refine f_stepP rfl rfl rfl (o_move rfl) ?_
            refine f_stepP rfl rfl rfl (o_len sl32 rfl) ?_
            refine f_stepP rfl rfl rfl (o_sub rfl rfl _ (wrap_i64 (by omega))) ?_
            refine f_stepP rfl rfl rfl (o_slice sl32 rfl rfl rfl rfl (fun h => by cases h) 0 W'.length _ (.inl ⟨rfl, rfl⟩) (.inr ⟨_, _, rfl, by omega⟩) (.inl ⟨rfl, rfl⟩) ⟨by omega, by omega, by omega⟩ (.slice (some ⟨bw, 0, none⟩) W'.length cw) (by rw [if_neg (by omega)]; simp [add_at])) ?_
            refine f_stepP rfl rfl rfl (o_assign rfl) ?_
            refine f_done ?_
            refine f_tn (kh21 _ _ ?_)
            clear kh21
            refine f_seq fun K22 kh22 => ?_
            refine f_region ?_
            refine f_stepP rfl rfl rfl (o_move rfl) ?_
            refine f_stepP rfl rfl rfl (o_move rfl) ?_
            refine f_stepP rfl rfl rfl (o_xor rfl rfl ((k ^^^ 1 : Nat) : Int) (xor_one (by omega))) ?_
            refine f_step rfl rfl rfl (o_call Try.call34 rfl (fun w_ hp_ => to_spec n e f bx bat bl bn (k ^^^ 1) cap A w_ (roOwn (b := bx) hp_ (fun j v hj => hj)) (seen_ro (hE.seen hp_)) hn hf.len (xor1_lt hk2)) ?_)
            rintro _ _ ⟨rfl, rfl⟩
            rw [kto_xor]
            dsimp only [List.cons_append, List.nil_append]
            refine f_stepP rfl rfl rfl (o_assign rfl) ?_
            refine f_done ?_
            refine f_tn (kh22 _ _ ?_)
            clear kh22
            refine f_region ?_
            refine f_stepP rfl rfl rfl (o_move rfl) ?_
            refine f_stepP rfl rfl rfl (o_nil rfl) ?_
            refine f_stepP rfl rfl rfl (o_field fa63_3 rfl) ?_
            refine f_stepP rfl rfl rfl (o_load Try.isAgg32 rfl (rdA rfl)) ?_
            refine f_stepP rfl rfl rfl (o_move rfl) ?_
            refine f_stepP rfl rfl rfl (o_idx sl32 rfl rfl (kfrom e k) ⟨by omega, by omega, by first | omega | (simp; done) | (simp; omega)⟩) ?_
            refine f_stepP rfl rfl rfl (o_load Try.isAgg3 rfl (rdA (ints_fl (by omega)))) ?_
            refine f_stepP rfl rfl rfl (o_add rfl rfl _ (wrap_i64 (by omega))) ?_
            refine f_stepP rfl rfl rfl (o_idx sl32 rfl rfl (kfrom e k) ⟨by omega, by omega, by first | omega | (simp; done) | (simp; omega)⟩) ?_
            refine f_step0 rfl rfl (o_store Try.sizeOf3 rfl rfl rfl rfl (by rw [ints_length]; omega) (ints (nx3.set (kfrom e k) (flAt nx3 (kfrom e k) + 1))) (ints_put ..) ?_)
            refine f_done ?_
            refine f_bn ?_
            refine f_subQ (Sub.joinF hrp.symm) ?_
            refine f_tn (f_again (W', kfrom e k, nx3.set (kfrom e k) (flAt nx3 (kfrom e k) + 1), .slice (some ⟨bw, 0, none⟩) W'.length cw, [(bw, blk (ints (nI (W' ++ [k])) ++ sw) 3)]) (by show wayMu n e L (nx3.set (kfrom e k) (flAt nx3 (kfrom e k) + 1)) (kfrom e k) < wayMu n e L nx2 v; have := wayMu_pass (L := L) hy3.nx hfn hlt' (hLg _ hfn) v; omega) ⟨hbk.pass hfn hlt', hfn, by have := hW.head (n := W'.length) (by simp); rw [nI_pop] at this; exact this, fun h => (hP3 h).step hy3.nx hfn hlt' (fun k' hk' hg' => by
              have hc2 := hy3.cur k (by simp)
              rw [hk'] at hc2
              obtain rfl : k' = k := by have := Option.some.inj hc2; omega
              rw [hkt]; exact ⟨by show flAt nx3 v = (((kRow e (2 * e.length) v).length : Nat) : Int); omega, fun e' => c15 (by rw [e'])⟩)⟩ ?_ ?_ ?_)
            · exact (by repeat (first | exact trivial | refine ⟨rfl, ?_⟩))
            · exact (by repeat (first | exact trivial | refine ⟨rfl, ?_⟩))
            · repeat (first | exact Sub.nil | refine Sub.pick ?_ | refine Sub.castO rfl ?_ | refine Sub.skip ?_)
    · skip
      obtain rfl : v = t := by omega
      refine f_exit ?_
      refine f_te ?_
      clear kh6
      refine f_te ?_
      refine f_be ?_
      refine f_tn (kh5 _ _ ?_)
      clear kh5
      refine f_seq fun K23 kh23 => ?_
      refine f_region ?_
      refine f_stepP rfl rfl rfl (o_move rfl) ?_
      refine f_stepP rfl rfl rfl (o_assign rfl) ?_
      refine f_done ?_
      refine f_tn (kh23 _ _ ?_)
      clear kh23
      refine f_ret ?_
      refine f_nr ?_
      exact f_fin1 [(dsegs bx bat bl bn n (.slice A e.length cap) vs ms.flatten me L nx2).flatten, wm] Try.results32 rfl (Sub.flat2 (by unfold dsegs; repeat (first | exact Sub.nil | refine Sub.pick ?_ | refine Sub.castO rfl ?_))) ⟨W, nx2, _, wm, rfl, DRep_mk hR hE, hy.nx, hW, hy.len, fun _ => ⟨hy.way, hy.good⟩, fun h => by subst h; exact absurd (show s = v from hy.way) hst⟩

end Go.Proofs.Ytnagjidfenfdbaa
