/- Package flow: the layers. -/
import Derived.Test.YtnagjidfenfdbaaFFlow
namespace Go.Proofs.Ytnagjidfenfdbaa
open Go Go.RowKit Fly
set_option linter.unusedVariables false
set_option linter.unusedSimpArgs false


def nI (W : List Nat) : List Int := W.map (fun i : Nat => (i : Int))
theorem nI_len (W : List Nat) : (ints (nI W)).length = W.length := by simp [nI, ints]
theorem nI_snoc (W : List Nat) (k : Nat) : ints (nI (W ++ [k])) = ints (nI W) ++ [.int .i64 (k : Int)] := by simp [nI, ints]
theorem ints_fl {l : List Int} {i : Nat} (h : i < l.length) : (ints l)[i]? = some (.int .i64 (flAt l i)) := by rw [ints_get h, flAt_eq h]
theorem ints_put (l : List Int) (i : Nat) (x : Int) : (ints l).set i (.int .i64 x) = ints (l.set i x) := by simp [ints, List.map_set]
def mixL (k : Nat) (x : Int) (l : List Int) : List Int := List.replicate k x ++ l.drop k
theorem mixL_len {k : Nat} {x : Int} {l : List Int} (h : k ≤ l.length) : (mixL k x l).length = l.length := by simp [mixL]; omega
theorem mixL_set {k : Nat} {x : Int} {l : List Int} (h : k < l.length) : (ints (mixL k x l)).set k (.int .i64 x) = ints (mixL (k + 1) x l) := by
  rw [ints_put]
  congr 1
  unfold mixL
  rw [List.drop_eq_getElem_cons h, List.set_append_right _ _ (by simp), show k - (List.replicate k x).length = 0 by simp, List.set_cons_zero, List.replicate_succ', List.append_assoc]
  rfl
theorem mixL_all {k : Nat} {x : Int} {l : List Int} (h : k = l.length) : mixL k x l = List.replicate l.length x := by subst h; simp [mixL]
theorem unl_rep (n : Nat) : unl (List.replicate n (-1)) = n := by
  induction n with
  | zero => rfl
  | succ n ih => rw [List.replicate_succ]; unfold unl at ih ⊢; rw [List.countP_cons, ih]; simp
theorem unl_begin {n s : Nat} (hs : s < n) : unl ((List.replicate n (-1)).set s 0) + 1 = n := by
  rw [unl_set (by simpa using hs) (by rw [flAt_rep hs]; decide) (Int.le_refl _), unl_rep]
theorem take_nextI {l : List Int} {j : Nat} {x : Int} (hj : j < l.length) (h : x ∈ l.take (j + 1)) : x ∈ l.take j ∨ x = l[j] := by
  rw [List.take_succ_eq_append_getElem hj] at h
  rcases List.mem_append.1 h with h | h
  · exact .inl h
  · exact .inr (by simpa using h)

set_option maxRecDepth 100000 in
set_option maxHeartbeats 4000000 in
theorem layers_spec (n : Nat) (e : List Arc) (f L nx : List Int) (bx : Nat) (m : Seg) (s t : Nat) (w : World) (hn : NOk n e) (hf : Fits e f) (hL : L.length = n) (hx : nx.length = n) (hS : DRep n e f L nx bx m) (hs : s < n) (ht : t < n) (hw : Owns w [m]) :
    Meets Try.prog 31 [.pointer (some ⟨bx, 0, none⟩), .int .i64 (s : Int), .int .i64 (t : Int)] w [m] (fun u own' => ∃ L' m', own' = [m'] ∧ DRep n e f L' (List.replicate n 0) bx m' ∧ Lay n e s f L' ∧ u = .bool (decide (0 ≤ flAt L' t))) := by
  have hn1 := hn.n1
  have hel := hn.len
  refine f_enter Try.func31 rfl Try.ntmps31 rfl hw ?_
  obtain ⟨bat, bl, bn, ve, vs, ms, me, hmp, hR, hE⟩ := hS
  obtain ⟨A, cap, rfl, _⟩ := hE.val
  refine f_subC (Sub.permF hmp) ?_
  unfold dsegs
  refine f_seq fun K1 kh1 => ?_
  refine f_region ?_
  refine f_stepP rfl rfl rfl (o_assign rfl) ?_
  refine f_done ?_
  refine f_tn (kh1 _ _ ?_)
  clear kh1
  refine f_seq fun K2 kh2 => ?_
  refine f_seq fun K3 kh3 => ?_
  refine f_region ?_
  refine f_stepP rfl rfl rfl (o_move rfl) ?_
  refine f_stepP rfl rfl rfl (o_nil rfl) ?_
  refine f_stepP rfl rfl rfl (o_field fa63_2 rfl) ?_
  refine f_stepP rfl rfl rfl (o_load Try.isAgg32 rfl (rdA rfl)) ?_
  refine f_stepP rfl rfl rfl (o_len sl32 rfl) ?_
  refine f_stepP rfl rfl rfl (o_move rfl) ?_
  refine f_done ?_
  refine f_tn (kh3 _ _ ?_)
  clear kh3
  refine f_block ?_
  refine f_loop (α := Nat) [0, 1, 2, 17] (fun k => [(18, .int .i64 (k : Int))]) (fun k => [[(bx, blk (dcells (.slice A e.length cap) n bat bl bn) 63)], [(bat, blk vs 32)], ms.flatten, me, [(bl, blk (ints (mixL k (-1) L)) 3)], [(bn, blk (ints (mixL k 0 nx)) 3)]]) (fun k => k ≤ n) (fun k => n - k) (0) ?_ ?_ ?_ ?_
  · exact (by repeat (first | exact trivial | refine ⟨rfl, ?_⟩))
  · repeat (first | exact Sub.nil | refine Sub.pick ?_ | refine Sub.castO rfl ?_ | refine Sub.skip ?_)
  · exact Nat.zero_le _
  · rintro k hkn
    refine f_seq fun K4 kh4 => ?_
    refine f_region ?_
    refine f_stepP rfl rfl rfl (o_lss rfl rfl) ?_
    refine f_done ?_
    refine f_tn (kh4 _ _ ?_)
    clear kh4
    refine f_seq fun K5 kh5 => ?_
    refine f_cond rfl (fun c19 => ?_) (fun c19 => ?_)
    · skip
      refine f_skip ?_
      refine f_tn (kh5 _ _ ?_)
      clear kh5
      refine f_seq fun K6 kh6 => ?_
      refine f_block ?_
      refine f_seq fun K7 kh7 => ?_
      refine f_region ?_
      refine f_stepP rfl rfl rfl (o_move rfl) ?_
      refine f_stepP rfl rfl rfl (o_assign rfl) ?_
      refine f_done ?_
      refine f_tn (kh7 _ _ ?_)
      clear kh7
      refine f_regionH [[(bx, blk (dcells (.slice A e.length cap) n bat bl bn) 63)]] rfl ?_
      have hk : k < n := by omega
      refine f_take 0 rfl (by decide +kernel) rfl rfl rfl (by repeat (first | exact Sub.nil | refine Sub.pick ?_ | refine Sub.castO rfl ?_ | refine Sub.skip ?_)) (o_move rfl) ?_
      refine f_take 1 rfl (by decide +kernel) rfl rfl rfl (by repeat (first | exact Sub.nil | refine Sub.pick ?_ | refine Sub.castO rfl ?_ | refine Sub.skip ?_)) (o_nil rfl) ?_
      refine f_take 2 rfl (by decide +kernel) rfl rfl rfl (by repeat (first | exact Sub.nil | refine Sub.pick ?_ | refine Sub.castO rfl ?_ | refine Sub.skip ?_)) (o_field fa63_2 rfl) ?_
      refine f_take 3 rfl (by decide +kernel) rfl rfl rfl (by repeat (first | exact Sub.nil | refine Sub.pick ?_ | refine Sub.castO rfl ?_ | refine Sub.skip ?_)) (o_load Try.isAgg32 rfl (rdA rfl)) ?_
      refine f_take 4 rfl (by decide +kernel) rfl rfl rfl (by repeat (first | exact Sub.nil | refine Sub.pick ?_ | refine Sub.castO rfl ?_ | refine Sub.skip ?_)) (o_move rfl) ?_
      refine f_take 5 rfl (by decide +kernel) rfl rfl rfl (by repeat (first | exact Sub.nil | refine Sub.pick ?_ | refine Sub.castO rfl ?_ | refine Sub.skip ?_)) (o_move rfl) ?_
      refine f_take 6 rfl (by decide +kernel) rfl rfl rfl (by repeat (first | exact Sub.nil | refine Sub.pick ?_ | refine Sub.castO rfl ?_ | refine Sub.skip ?_)) (o_nil rfl) ?_
      refine f_take 7 rfl (by decide +kernel) rfl rfl rfl (by repeat (first | exact Sub.nil | refine Sub.pick ?_ | refine Sub.castO rfl ?_ | refine Sub.skip ?_)) (o_field fa63_3 rfl) ?_
      refine f_take 8 rfl (by decide +kernel) rfl rfl rfl (by repeat (first | exact Sub.nil | refine Sub.pick ?_ | refine Sub.castO rfl ?_ | refine Sub.skip ?_)) (o_load Try.isAgg32 rfl (rdA rfl)) ?_
      refine f_take 9 rfl (by decide +kernel) rfl rfl rfl (by repeat (first | exact Sub.nil | refine Sub.pick ?_ | refine Sub.castO rfl ?_ | refine Sub.skip ?_)) (o_move rfl) ?_
      refine f_take 10 rfl (by decide +kernel) rfl rfl rfl (by repeat (first | exact Sub.nil | refine Sub.pick ?_ | refine Sub.castO rfl ?_ | refine Sub.skip ?_)) (o_idx sl32 rfl rfl (k) ⟨by omega, by omega, by first | omega | (simp; done) | (simp; omega)⟩) ?_
      refine f_only0 11 rfl (by decide +kernel) rfl rfl (o_store Try.sizeOf3 rfl rfl rfl rfl (by rw [ints_length, mixL_len (by omega)]; omega) (ints (mixL (k + 1) (-1) L)) (mixL_set (by omega)) ⟨(by repeat (first | exact Sub.nil | refine Sub.pick ?_ | refine Sub.castO rfl ?_ | refine Sub.skip ?_)), ?_⟩)
      refine f_take 12 rfl (by decide +kernel) rfl rfl rfl (by repeat (first | exact Sub.nil | refine Sub.pick ?_ | refine Sub.castO rfl ?_ | refine Sub.skip ?_)) (o_idx sl32 rfl rfl (k) ⟨by omega, by omega, by first | omega | (simp; done) | (simp; omega)⟩) ?_
      refine f_only0 13 rfl (by decide +kernel) rfl rfl (o_store Try.sizeOf3 rfl rfl rfl rfl (by rw [ints_length, mixL_len (by omega)]; omega) (ints (mixL (k + 1) 0 nx)) (mixL_set (by omega)) ⟨(by repeat (first | exact Sub.nil | refine Sub.pick ?_ | refine Sub.castO rfl ?_ | refine Sub.skip ?_)), ?_⟩)
      refine f_over (by decide +kernel) ?_
      refine f_bn ?_
      refine f_tn (kh6 _ _ ?_)
      clear kh6
      refine f_region ?_
      refine f_stepP rfl rfl rfl (o_add rfl rfl _ (wrap_i64 (by omega))) ?_
      refine f_stepP rfl rfl rfl (o_move rfl) ?_
      refine f_done ?_
      refine f_tn (f_again (k + 1) (by first | omega | (dsimp only; omega) | (simp; omega)) (by omega) ?_ ?_ ?_)
      · exact (by repeat (first | exact trivial | refine ⟨rfl, ?_⟩))
      · exact (by repeat (first | exact trivial | refine ⟨rfl, ?_⟩))
      · repeat (first | exact Sub.nil | refine Sub.pick ?_ | refine Sub.castO rfl ?_ | refine Sub.skip ?_)
    · skip
      refine f_exit ?_
      refine f_te ?_
      clear kh5
      refine f_te ?_
      refine f_be ?_
      refine f_tn (kh2 _ _ ?_)
      clear kh2
      refine f_seq fun K8 kh8 => ?_
      refine f_region ?_
      refine f_stepP rfl rfl rfl (o_move rfl) ?_
      refine f_stepP rfl rfl rfl (o_nil rfl) ?_
      refine f_stepP rfl rfl rfl (o_field fa63_2 rfl) ?_
      refine f_stepP rfl rfl rfl (o_load Try.isAgg32 rfl (rdA rfl)) ?_
      refine f_stepP rfl rfl rfl (o_move rfl) ?_
      refine f_stepP rfl rfl rfl (o_idx sl32 rfl rfl (s) ⟨by omega, by omega, by first | omega | (simp; done) | (simp; omega)⟩) ?_
      refine f_step0 rfl rfl (o_store Try.sizeOf3 rfl rfl rfl rfl (by rw [ints_length, mixL_len (by omega)]; omega) (ints ((List.replicate n (-1)).set s 0)) (by rw [mixL_all (by omega), hL]; exact ints_put ..) ?_)
      refine f_done ?_
      refine f_tn (kh8 _ _ ?_)
      clear kh8
      refine f_seq fun K9 kh9 => ?_
      refine f_region ?_
      refine f_stepP rfl rfl rfl (o_move rfl) ?_
      refine f_step rfl rfl rfl (o_slice1 el32 (by omega) rfl rfl rfl fun b41 => ?_)
      refine f_stepP rfl rfl rfl (o_assign rfl) ?_
      refine f_done ?_
      refine f_tn (kh9 _ _ ?_)
      clear kh9
      refine f_seq fun K10 kh10 => ?_
      refine f_block ?_
      have hbn : mixL k 0 nx = List.replicate n 0 := by rw [mixL_all (by omega), hx]
      rw [hbn]
      refine f_loop (α := List Int × List Nat × Value × Seg) [0, 2] (fun ⟨L2, work, wv, wm⟩ => [(8, wv)]) (fun ⟨L2, work, wv, wm⟩ => [[(bx, blk (dcells (.slice A e.length cap) n bat bl bn) 63)], [(bat, blk vs 32)], ms.flatten, me, [(bl, blk (ints L2) 3)], [(bn, blk (ints (List.replicate n 0)) 3)], wm]) (fun ⟨L2, work, wv, wm⟩ => LayB n e s f L2 work (fun _ => True) ∧ OwnQ 3 wv (ints (nI work)) wm ∧ unl L2 + work.length ≤ n ∧ ∀ u, u < n → flAt L2 u + unl L2 ≤ n) (fun ⟨L2, work, wv, wm⟩ => 2 * unl L2 + work.length) ((List.replicate n (-1)).set s 0, [s], .slice (some ⟨b41, 0, none⟩) 1 1, [(b41, blk [.int .i64 (s : Int)] 3)]) ?_ ?_ ?_ ?_
      · exact (by repeat (first | exact trivial | refine ⟨rfl, ?_⟩))
      · repeat (first | exact Sub.nil | refine Sub.pick ?_ | refine Sub.castO rfl ?_ | refine Sub.skip ?_)
      · exact ⟨LayB.begin hn.net hs, OwnQ.one _ _ _, by have := unl_begin hs; simp; omega, fun u hu => by
        have := unl_begin hs
        rw [flAt_set (by simpa using hs), flAt_rep hu]
        split <;> omega⟩
      · rintro ⟨L2, work, wv, wm⟩ ⟨hB, hQ, hU, hM⟩
        have hQ0 := hQ
        have hwl := nI_len work
        obtain ⟨bw, ow, cw, pre, sp, rfl, rfl, hq1, hq2, hq3, hq4⟩ := hQ
        refine f_seq fun K11 kh11 => ?_
        refine f_seq fun K12 kh12 => ?_
        refine f_region ?_
        refine f_stepP rfl rfl rfl (o_move rfl) ?_
        refine f_stepP rfl rfl rfl (o_len sl32 rfl) ?_
        refine f_stepP rfl rfl rfl (o_gtr rfl rfl) ?_
        refine f_done ?_
        refine f_tn (kh12 _ _ ?_)
        clear kh12
        refine f_cond rfl (fun c44 => ?_) (fun c44 => ?_)
        · skip
          obtain ⟨v, rest, rfl⟩ : ∃ v rest, work = v :: rest := by
            cases work with
            | nil => have h0 : (ints (nI [])).length = 0 := rfl; omega
            | cons v rest => exact ⟨v, rest, rfl⟩
          have hvw := hB.wk v (List.mem_cons_self ..)
          have hpre := hq4 (by simp at hwl; omega)
          refine f_skip ?_
          refine f_tn (kh11 _ _ ?_)
          clear kh11
          refine f_block ?_
          refine f_seq fun K13 kh13 => ?_
          refine f_region ?_
          refine f_stepP rfl rfl rfl (o_move rfl) ?_
          refine f_stepP rfl rfl rfl (o_idx sl32 rfl rfl (ow) ⟨by omega, by omega, by first | omega | (simp; done) | (simp; omega)⟩) ?_
          refine f_stepP rfl rfl rfl (o_load Try.isAgg3 rfl (rdA (v := .int .i64 (v : Int)) (by rw [← hpre]; simp [nI, ints]))) ?_
          refine f_stepP rfl rfl rfl (o_assign rfl) ?_
          refine f_done ?_
          refine f_tn (kh13 _ _ ?_)
          clear kh13
          refine f_seq fun K14 kh14 => ?_
          refine f_region ?_
          refine f_stepP rfl rfl rfl (o_move rfl) ?_
          refine f_stepP rfl rfl rfl (o_slice sl32 rfl rfl rfl rfl (fun h => by cases h) 1 _ _ (.inr ⟨_, _, rfl, by omega⟩) (.inl ⟨rfl, rfl⟩) (.inl ⟨rfl, rfl⟩) ⟨by omega, by omega, by omega⟩ _ rfl) ?_
          refine f_stepP rfl rfl rfl (o_assign rfl) ?_
          refine f_done ?_
          refine f_tn (kh14 _ _ ?_)
          clear kh14
          refine f_seq fun K15 kh15 => ?_
          obtain ⟨rv, rm, rG, hrv, hro, hrp, _⟩ := hR.split (i := v) (by rw [kRows_len]; exact hvw.1)
          rw [kRows_get] at hro
          have hrlen := kRow_len e (2 * e.length) v
          obtain ⟨Ar, cr, rfl, hcr⟩ := hro.val
          refine f_subC (Sub.splitF hrp) ?_
          refine f_region ?_
          refine f_stepP rfl rfl rfl (o_move rfl) ?_
          refine f_stepP rfl rfl rfl (o_nil rfl) ?_
          refine f_stepP rfl rfl rfl (o_field fa63_1 rfl) ?_
          refine f_stepP rfl rfl rfl (o_load Try.isAgg61 rfl (rdA rfl)) ?_
          refine f_stepP rfl rfl rfl (o_move rfl) ?_
          refine f_stepP rfl rfl rfl (o_idx sl61 rfl rfl (v) ⟨by omega, by omega, by first | omega | (simp; done) | (simp; omega)⟩) ?_
          refine f_stepP rfl rfl rfl (o_load Try.isAgg32 rfl (rdA hrv)) ?_
          refine f_stepP rfl rfl rfl (o_len sl32 rfl) ?_
          refine f_stepP rfl rfl rfl (o_move rfl) ?_
          refine f_done ?_
          refine f_tn (kh15 _ _ ?_)
          clear kh15
          refine f_block ?_
          refine f_loop (α := Nat × List Int × List Nat × Value × Seg) [0, 2, 9, 56, 57] (fun ⟨j, L3, wk, wv3, wm3⟩ => [(58, .int .i64 (j : Int)), (8, wv3)]) (fun ⟨j, L3, wk, wv3, wm3⟩ => [[(bx, blk (dcells (.slice A e.length cap) n bat bl bn) 63)], [(bat, blk vs 32)], rm, rG, me, [(bl, blk (ints L3) 3)], [(bn, blk (ints (List.replicate n 0)) 3)], wm3]) (fun ⟨j, L3, wk, wv3, wm3⟩ => j ≤ (kRow e (2 * e.length) v).length ∧ LayB n e s f L3 wk (fun k => kfrom e k ≠ v ∨ (k : Int) ∈ (kRow e (2 * e.length) v).take j) ∧ 0 ≤ flAt L3 v ∧ OwnQ 3 wv3 (ints (nI wk)) wm3 ∧ (unl L3 + wk.length ≤ n ∧ ∀ u, u < n → flAt L3 u + unl L3 ≤ n) ∧ 2 * unl L3 + wk.length ≤ 2 * unl L2 + rest.length) (fun ⟨j, L3, wk, wv3, wm3⟩ => (kRow e (2 * e.length) v).length - j) (0, L2, rest, .slice (if cw = 1 then some ⟨bw, ow, none⟩ else (some ⟨bw, ow, none⟩ : Option Addr).map (·.add (1 * 1))) ((ints (nI (v :: rest))).length - 1) (cw - 1), [(bw, blk (pre ++ (ints (nI (v :: rest)) ++ sp)) 3)]) ?_ ?_ ?_ ?_
          · exact (by repeat (first | exact trivial | refine ⟨rfl, ?_⟩))
          · repeat (first | exact Sub.nil | refine Sub.pick ?_ | refine Sub.castO rfl ?_ | refine Sub.skip ?_)
          · exact ⟨Nat.zero_le _, hB.pop.weaken fun k _ h => by
            rcases h with h | h
            · exact h
            · simp at h, hvw.2, OwnQ.tail (x := .int .i64 (v : Int)) (cs := ints (nI rest)) hQ0, ⟨by simp only [List.length_cons] at hU; omega, hM⟩, Nat.le_refl _⟩
          · rintro ⟨j, L3, wk, wv3, wm3⟩ ⟨hjl, hB3, hv0, hQ3, ⟨hU3, hM3⟩, hmu3⟩
            have hl3 := hB3.len
            have hwl3 := nI_len wk
            refine f_seq fun K16 kh16 => ?_
            refine f_region ?_
            refine f_stepP rfl rfl rfl (o_lss rfl rfl) ?_
            refine f_done ?_
            refine f_tn (kh16 _ _ ?_)
            clear kh16
            refine f_seq fun K17 kh17 => ?_
            refine f_cond rfl (fun c59 => ?_) (fun c59 => ?_)
            · skip
              refine f_skip ?_
              refine f_tn (kh17 _ _ ?_)
              clear kh17
              refine f_seq fun K18 kh18 => ?_
              refine f_block ?_
              refine f_seq fun K19 kh19 => ?_
              refine f_region ?_
              have hj : j < (kRow e (2 * e.length) v).length := by omega
              obtain ⟨br, sr, rfl, rfl⟩ := hro.at_ (by omega)
              obtain ⟨k, hrk, hk2, hkf⟩ := row_at hj
              have hut := kto_lt hn.net hk2
              refine f_stepP rfl rfl rfl (o_idx sl32 rfl rfl (j) ⟨by omega, by omega, by first | omega | (simp; done) | (simp; omega)⟩) ?_
              refine f_stepP rfl rfl rfl (o_load Try.isAgg3 rfl (rdA (v := .int .i64 (k : Int)) (app_get (by rw [ints_get hj, hrk])))) ?_
              refine f_stepP rfl rfl rfl (o_assign rfl) ?_
              refine f_done ?_
              refine f_tn (kh19 _ _ ?_)
              clear kh19
              refine f_seq fun K20 kh20 => ?_
              refine f_region ?_
              refine f_stepP rfl rfl rfl (o_move rfl) ?_
              refine f_stepP rfl rfl rfl (o_move rfl) ?_
              refine f_step rfl rfl rfl (o_call Try.call34 rfl (fun w_ hp_ => to_spec n e f bx bat bl bn k cap A w_ (roOwn (b := bx) hp_ (fun j v hj => hj)) (seen_ro (hE.seen hp_)) hn hf.len hk2) ?_)
              rintro _ _ ⟨rfl, rfl⟩
              dsimp only [List.cons_append, List.nil_append]
              refine f_stepP rfl rfl rfl (o_assign rfl) ?_
              refine f_done ?_
              refine f_tn (kh20 _ _ ?_)
              clear kh20
              refine f_seq fun K21 kh21 => ?_
              refine f_region ?_
              refine f_stepP rfl rfl rfl (o_move rfl) ?_
              refine f_stepP rfl rfl rfl (o_nil rfl) ?_
              refine f_stepP rfl rfl rfl (o_field fa63_2 rfl) ?_
              refine f_stepP rfl rfl rfl (o_load Try.isAgg32 rfl (rdA rfl)) ?_
              refine f_stepP rfl rfl rfl (o_move rfl) ?_
              refine f_stepP rfl rfl rfl (o_idx sl32 rfl rfl (kto e k) ⟨by omega, by omega, by first | omega | (simp; done) | (simp; omega)⟩) ?_
              refine f_stepP rfl rfl rfl (o_load Try.isAgg3 rfl (rdA (ints_fl (by omega)))) ?_
              refine f_stepP rfl rfl rfl (o_lss rfl rfl) ?_
              refine f_stepP rfl rfl rfl (o_move rfl) ?_
              refine f_splitL 73 rfl (fun g73 => ?_) (fun g73 => ?_)
              · skip
                refine f_stepPY rfl rfl rfl rfl rfl (o_move rfl) ?_
                refine f_stepPY rfl rfl rfl rfl rfl (o_move rfl) ?_
                refine f_stepY rfl rfl rfl rfl rfl (o_call Try.call33 rfl (fun w_ hp_ => left_spec n e f bx bat bl bn k cap A w_ (roOwn (b := bx) hp_ (fun j v hj => hj)) (seen_ro (hE.seen hp_)) hn hf.len hk2) ?_)
                rintro _ _ ⟨rfl, rfl⟩
                dsimp only [List.cons_append, List.nil_append]
                refine f_stepPY rfl rfl rfl rfl rfl (o_gtr rfl rfl) ?_
                refine f_stepP rfl rfl rfl (o_pickT rfl rfl) ?_
                refine f_done ?_
                refine f_tn (kh21 _ _ ?_)
                clear kh21
                refine f_cond rfl (fun c78 => ?_) (fun c78 => ?_)
                · skip
                  have hu1 := unl_set (L := L3) (i := kto e k) (x := flAt L3 v + 1) (by omega) g73 (by omega)
                  refine f_seq fun K22 kh22 => ?_
                  have hMv := hM3 v hvw.1
                  refine f_regionT 14 rfl (by decide +kernel) ?_
                  refine f_stillP rfl rfl rfl (o_move rfl) ?_
                  refine f_stillP rfl rfl rfl (o_nil rfl) ?_
                  refine f_stillP rfl rfl rfl (o_field fa63_2 rfl) ?_
                  refine f_stillP rfl rfl rfl (o_load Try.isAgg32 rfl (rdA rfl)) ?_
                  refine f_stillP rfl rfl rfl (o_move rfl) ?_
                  refine f_stillP rfl rfl rfl (o_move rfl) ?_
                  refine f_stillP rfl rfl rfl (o_nil rfl) ?_
                  refine f_stillP rfl rfl rfl (o_field fa63_2 rfl) ?_
                  refine f_stillP rfl rfl rfl (o_load Try.isAgg32 rfl (rdA rfl)) ?_
                  refine f_stillP rfl rfl rfl (o_move rfl) ?_
                  refine f_stillP rfl rfl rfl (o_idx sl32 rfl rfl (v) ⟨by omega, by omega, by first | omega | (simp; done) | (simp; omega)⟩) ?_
                  refine f_stillP rfl rfl rfl (o_load Try.isAgg3 rfl (rdA (ints_fl (by omega)))) ?_
                  refine f_stillP rfl rfl rfl (o_add rfl rfl _ (wrap_i64 (by omega))) ?_
                  refine f_stillP rfl rfl rfl (o_idx sl32 rfl rfl (kto e k) ⟨by omega, by omega, by first | omega | (simp; done) | (simp; omega)⟩) ?_
                  refine f_stillD (f_tail ?_)
                  refine f_step0 rfl rfl (o_store Try.sizeOf3 rfl rfl rfl rfl (by rw [ints_length]; omega) (ints (L3.set (kto e k) (flAt L3 v + 1))) (ints_put ..) ?_)
                  refine f_done ?_
                  refine f_tn (kh22 _ _ ?_)
                  clear kh22
                  refine f_region ?_
                  refine f_stepP rfl rfl rfl (o_move rfl) ?_
                  refine f_stepP rfl rfl rfl (o_move rfl) ?_
                  refine f_step rfl rfl rfl (o_slice1 el32 (by omega) rfl rfl rfl fun b95 => ?_)
                  refine f_step rfl rfl rfl (o_appendO el32 rfl rfl hQ3 (ys := [.int .i64 ((kto e k : Nat) : Int)]) ⟨(rdA rfl), trivial⟩ rfl (by omega) rfl (by omega) (by omega) fun v96 m96 o96 => ?_)
                  refine f_stepP rfl rfl rfl (o_assign rfl) ?_
                  refine f_done ?_
                  refine f_bn ?_
                  refine f_tn (kh18 _ _ ?_)
                  clear kh18
                  refine f_region ?_
                  refine f_stepP rfl rfl rfl (o_add rfl rfl _ (wrap_i64 (by omega))) ?_
                  refine f_stepP rfl rfl rfl (o_move rfl) ?_
                  refine f_done ?_
                  refine f_tn (f_again (j + 1, L3.set (kto e k) (flAt L3 v + 1), wk ++ [kto e k], v96, m96) (by first | omega | (dsimp only; omega) | (simp; omega)) ⟨by omega, by
                    have h := hB3.see hn.net hk2 (by rw [hkf]; exact hv0) g73 c78
                    rw [hkf] at h
                    exact h.weaken (fun q hq hQ => by
                    rcases hQ with hQ | hQ
                    · exact .inl (.inl hQ)
                    · rcases take_nextI hj hQ with hQ | hQ
                      · exact .inl (.inr hQ)
                      · rw [hrk] at hQ; exact .inr (by omega)), by rw [flAt_set (by omega)]; split <;> omega, by rw [nI_snoc]; exact o96, ⟨by rw [List.length_append]; simp; omega, fun u hu => by rw [flAt_set (by omega)]; have := hM3 u hu; have := hM3 v hvw.1; split <;> omega⟩, by rw [List.length_append]; simp; omega⟩ ?_ ?_ ?_)
                  · exact (by repeat (first | exact trivial | refine ⟨rfl, ?_⟩))
                  · exact (by repeat (first | exact trivial | refine ⟨rfl, ?_⟩))
                  · repeat (first | exact Sub.nil | refine Sub.pick ?_ | refine Sub.castO rfl ?_ | refine Sub.skip ?_)
                · skip
                  refine f_skip ?_
                  refine f_bn ?_
                  refine f_tn (kh18 _ _ ?_)
                  clear kh18
                  refine f_region ?_
                  refine f_stepP rfl rfl rfl (o_add rfl rfl _ (wrap_i64 (by omega))) ?_
                  refine f_stepP rfl rfl rfl (o_move rfl) ?_
                  refine f_done ?_
                  refine f_tn (f_again (j + 1, L3, wk, wv3, wm3) (by first | omega | (dsimp only; omega) | (simp; omega)) ⟨by omega, (hB3.skip (k := k) (by omega)).weaken (fun q hq hQ => by
                    rcases hQ with hQ | hQ
                    · exact .inl (.inl hQ)
                    · rcases take_nextI hj hQ with hQ | hQ
                      · exact .inl (.inr hQ)
                      · rw [hrk] at hQ; exact .inr (by omega)), hv0, hQ3, ⟨hU3, hM3⟩, hmu3⟩ ?_ ?_ ?_)
                  · exact (by repeat (first | exact trivial | refine ⟨rfl, ?_⟩))
                  · exact (by repeat (first | exact trivial | refine ⟨rfl, ?_⟩))
                  · repeat (first | exact Sub.nil | refine Sub.pick ?_ | refine Sub.castO rfl ?_ | refine Sub.skip ?_)
              · skip
                refine f_stepN rfl rfl rfl rfl rfl rfl ?_
                refine f_stepN rfl rfl rfl rfl rfl rfl ?_
                refine f_stepN rfl rfl rfl rfl rfl rfl ?_
                refine f_stepN rfl rfl rfl rfl rfl rfl ?_
                refine f_stepP rfl rfl rfl (o_pickF rfl rfl) ?_
                refine f_done ?_
                refine f_tn (kh21 _ _ ?_)
                clear kh21
                refine f_condF rfl ?_
                refine f_skip ?_
                refine f_bn ?_
                refine f_tn (kh18 _ _ ?_)
                clear kh18
                refine f_region ?_
                refine f_stepP rfl rfl rfl (o_add rfl rfl _ (wrap_i64 (by omega))) ?_
                refine f_stepP rfl rfl rfl (o_move rfl) ?_
                refine f_done ?_
                refine f_tn (f_again (j + 1, L3, wk, wv3, wm3) (by first | omega | (dsimp only; omega) | (simp; omega)) ⟨by omega, (hB3.skip (k := k) (by omega)).weaken (fun q hq hQ => by
                  rcases hQ with hQ | hQ
                  · exact .inl (.inl hQ)
                  · rcases take_nextI hj hQ with hQ | hQ
                    · exact .inl (.inr hQ)
                    · rw [hrk] at hQ; exact .inr (by omega)), hv0, hQ3, ⟨hU3, hM3⟩, hmu3⟩ ?_ ?_ ?_)
                · exact (by repeat (first | exact trivial | refine ⟨rfl, ?_⟩))
                · exact (by repeat (first | exact trivial | refine ⟨rfl, ?_⟩))
                · repeat (first | exact Sub.nil | refine Sub.pick ?_ | refine Sub.castO rfl ?_ | refine Sub.skip ?_)
            · skip
              refine f_exit ?_
              refine f_te ?_
              clear kh17
              refine f_te ?_
              refine f_be ?_
              refine f_bn ?_
              refine f_subQ (Sub.joinF (m := rm) (G' := rG) hrp.symm) ?_
              refine f_tn (f_again (L3, wk, wv3, wm3) (by simp only [List.length_cons]; omega) ⟨hB3.weaken fun k hk _ => by
                by_cases h : kfrom e k = v
                · right; rw [List.take_of_length_le (by omega), ← h]; exact kRow_has hk
                · exact .inl h, hQ3, hU3, hM3⟩ ?_ ?_ ?_)
              · exact (by repeat (first | exact trivial | refine ⟨rfl, ?_⟩))
              · exact (by repeat (first | exact trivial | refine ⟨rfl, ?_⟩))
              · repeat (first | exact Sub.nil | refine Sub.pick ?_ | refine Sub.castO rfl ?_ | refine Sub.skip ?_)
        · skip
          obtain rfl : work = [] := by
            cases work with
            | nil => rfl
            | cons v rest => simp at hwl; omega
          refine f_exit ?_
          refine f_te ?_
          clear kh11
          refine f_te ?_
          refine f_be ?_
          refine f_tn (kh10 _ _ ?_)
          clear kh10
          refine f_seq fun K23 kh23 => ?_
          refine f_region ?_
          refine f_stepP rfl rfl rfl (o_move rfl) ?_
          refine f_stepP rfl rfl rfl (o_nil rfl) ?_
          refine f_stepP rfl rfl rfl (o_field fa63_2 rfl) ?_
          refine f_stepP rfl rfl rfl (o_load Try.isAgg32 rfl (rdA rfl)) ?_
          refine f_stepP rfl rfl rfl (o_move rfl) ?_
          refine f_stepP rfl rfl rfl (o_idx sl32 rfl rfl (t) ⟨by omega, by omega, by first | omega | (simp; done) | (simp; omega)⟩) ?_
          refine f_stepP rfl rfl rfl (o_load Try.isAgg3 rfl (rdA (ints_fl (by have := hB.len; omega)))) ?_
          refine f_stepP rfl rfl rfl (o_geq rfl rfl) ?_
          refine f_stepP rfl rfl rfl (o_assign rfl) ?_
          refine f_done ?_
          refine f_tn (kh23 _ _ ?_)
          clear kh23
          refine f_ret ?_
          exact f_fin1 [(dsegs bx bat bl bn n (.slice A e.length cap) vs ms.flatten me L2 (List.replicate n 0)).flatten] Try.results31 rfl (Sub.flatF (by unfold dsegs; repeat (first | exact Sub.nil | refine Sub.pick ?_ | refine Sub.castO rfl ?_))) ⟨L2, _, rfl, DRep_mk hR hE, hB.done, rfl⟩

end Go.Proofs.Ytnagjidfenfdbaa
