/- Package flow: pushing until no way is left. -/
import Derived.Test.YtnagjidfenfdbaaFFlow3
namespace Go.Proofs.Ytnagjidfenfdbaa
open Go Go.RowKit Fly
set_option linter.unusedVariables false
set_option linter.unusedSimpArgs false


theorem Sub.flatR {segs out r : List Seg} (h : Sub segs (out ++ r)) : Sub segs (out.flatten :: r) := by
  obtain ⟨q, h⟩ := h
  exact ⟨q, by simpa using h⟩
theorem Sub.openAt {segs s1 out : List Seg} {m : Seg} [p : Pick segs m s1] (hp : m.Perm out.flatten) : Sub segs (out ++ s1) := Sub.pickF hp Sub.refl
theorem nI_get {W : List Nat} {j : Nat} (h : j < W.length) : (ints (nI W))[j]? = some (.int .i64 ((W[j] : Nat) : Int)) := by simp [nI, ints, h]
theorem kleft_xor {e : List Arc} {f : List Int} (k : Nat) : kleft e f k + kleft e f (k ^^^ 1) = (arcAt e (k / 2)).wt := by
  rw [xor1]
  unfold kleft
  by_cases h : k % 2 = 0
  · rw [if_pos h, if_pos h, if_neg (by omega), show (k + 1) / 2 = k / 2 by omega]; omega
  · rw [if_neg h, if_neg h, if_pos (by omega), show (k - 1) / 2 = k / 2 by omega]; omega
theorem other_at (k : Nat) : (k ^^^ 1) / 2 * 4 + 2 + (k ^^^ 1) % 2 = k / 2 * 4 + 2 + (1 - k % 2) := by
  rw [xor1]; split <;> omega
theorem zip_set : ∀ {e : List Arc} {f : List Int} {i : Nat} {y : Int}, f.length = e.length → i < e.length → List.zip e (f.set i y) = (List.zip e f).set i (arcAt e i, y)
  | [], f, i, y, _, h => by simp at h
  | x :: e, [], i, y, h, _ => by simp at h
  | x :: e, z :: f, 0, y, _, _ => by simp [arcAt]
  | x :: e, z :: f, i + 1, y, h, hi => by
    have := zip_set (e := e) (f := f) (i := i) (y := y) (by simpa using h) (by simpa using hi)
    simp only [List.set_cons_succ, List.zip_cons_cons, this]
    simp [arcAt]
theorem ecells_push {e : List Arc} {f : List Int} {k : Nat} {d : Int} {sp : List Value} (h : f.length = e.length) (hk : k < 2 * e.length) :
    ((ecells e f ++ sp).set (k / 2 * 4 + 2 + k % 2) (.int .u32 (kleft e f k - d))).set (k / 2 * 4 + 2 + (1 - k % 2)) (.int .u32 (kleft e f (k ^^^ 1) + d)) = ecells e (fpush f k d) ++ sp := by
  have hi : k / 2 < e.length := by omega
  obtain ⟨hz, hzi⟩ := zip_at h hi
  have e1 : ecells e (fpush f k d) = ((List.zip e f).set (k / 2) (arcAt e (k / 2), flAt f (k / 2) + (if k % 2 = 0 then d else -d))).flatMap ecs := by
    unfold ecells fpush; rw [zip_set h hi]
  have hx := kleft_xor (e := e) (f := f) k
  have hl2 : ∀ y, k / 2 < ((List.zip e f).set (k / 2) y).length := fun y => by simpa using hz
  have hle : ecells e f = (List.zip e f).flatMap ecs := rfl
  rw [e1, hle]
  by_cases h2 : k % 2 = 0
  · have hk1 : kleft e f k = (arcAt e (k / 2)).wt - flAt f (k / 2) := by unfold kleft; rw [if_pos h2]
    rw [h2, if_pos rfl, show k / 2 * 4 + 2 + 0 = k / 2 * 4 + 2 from rfl, show k / 2 * 4 + 2 + (1 - 0) = k / 2 * 4 + 3 from rfl]
    rw [set_flat ecs_len sp (q := 2) (by omega) (List.zip e f) (k / 2) (⟨(arcAt e (k / 2)).src, (arcAt e (k / 2)).dst, (arcAt e (k / 2)).wt - d⟩, flAt f (k / 2)) hz (by rw [hzi]; simp only [ecs, List.set_cons_succ, List.set_cons_zero, hk1]; congr 3; congr 1; omega)]
    rw [set_flat ecs_len sp (q := 3) (by omega) _ (k / 2) (arcAt e (k / 2), flAt f (k / 2) + d) (hl2 _) (by
      rw [List.getElem_set_self]; simp only [ecs, List.set_cons_succ, List.set_cons_zero]
      rw [show kleft e f (k ^^^ 1) = flAt f (k / 2) by omega, show (arcAt e (k / 2)).wt - d - flAt f (k / 2) = (arcAt e (k / 2)).wt - (flAt f (k / 2) + d) by omega])]
    rw [List.set_set]
  · have h3 : k % 2 = 1 := by omega
    have hk1 : kleft e f k = flAt f (k / 2) := by unfold kleft; rw [if_neg h2]
    rw [h3, if_neg (by omega), show k / 2 * 4 + 2 + 1 = k / 2 * 4 + 3 from rfl, show k / 2 * 4 + 2 + (1 - 1) = k / 2 * 4 + 2 from rfl]
    rw [set_flat ecs_len sp (q := 3) (by omega) (List.zip e f) (k / 2) (⟨(arcAt e (k / 2)).src, (arcAt e (k / 2)).dst, (arcAt e (k / 2)).wt - d⟩, flAt f (k / 2) + -d) hz (by
      rw [hzi]; simp only [ecs, List.set_cons_succ, List.set_cons_zero, hk1]
      rw [show (arcAt e (k / 2)).wt - d - (flAt f (k / 2) + -d) = (arcAt e (k / 2)).wt - flAt f (k / 2) by omega, show flAt f (k / 2) + -d = flAt f (k / 2) - d by omega])]
    rw [set_flat ecs_len sp (q := 2) (by omega) _ (k / 2) (arcAt e (k / 2), flAt f (k / 2) + -d) (hl2 _) (by
      rw [List.getElem_set_self]; simp only [ecs, List.set_cons_succ, List.set_cons_zero]
      rw [show kleft e f (k ^^^ 1) + d = (arcAt e (k / 2)).wt - (flAt f (k / 2) + -d) by omega])]
    rw [List.set_set]
theorem ecells_other {e : List Arc} {f : List Int} {k : Nat} {x : Value} {sp : List Value} (h : f.length = e.length) (hk : k < 2 * e.length) :
    ((ecells e f ++ sp).set (k / 2 * 4 + 2 + k % 2) x)[k / 2 * 4 + 2 + (1 - k % 2)]? = some (.int .u32 (kleft e f (k ^^^ 1))) := by
  rw [List.getElem?_set_ne (by omega), ← other_at]
  exact app_get (ecells_left h (xor1_lt hk))

theorem min_step {e : List Arc} {f : List Int} {W : List Nat} {j : Nat} {mm : Int} (hj : j < W.length) (h : ∀ i (h : i < W.length), i < j → mm ≤ kleft e f W[i]) : ∀ i (h : i < W.length), i < j + 1 → min mm (kleft e f W[j]) ≤ kleft e f W[i] := fun i hi hij => by
  by_cases e' : i = j
  · subst e'; exact Int.min_le_right _ _
  · exact Int.le_trans (Int.min_le_left _ _) (h i hi (by omega))
theorem push_left {e : List Arc} {f : List Int} {W : List Nat} {j : Nat} {d : Int} (hf : f.length = e.length) (hj : j < W.length) (hl : ∀ k, k ∈ W → k < 2 * e.length) (hn : (W.map (· / 2)).Nodup) : kleft e (pushAll f (W.take j) d) W[j] = kleft e f W[j] := by
  have : flAt (pushAll f (W.take j) d) (W[j] / 2) = flAt f (W[j] / 2) := flAt_pushAll (fun k hk => by have := hl k (List.mem_of_mem_take hk); omega) fun k hk e' => by
    obtain ⟨i, hi, rfl⟩ := List.mem_iff_getElem.1 hk
    have hij : i < j := by have := hi; simp at this; omega
    rw [List.getElem_take] at e'
    have h1 : i < (W.map (· / 2)).length := by simp; omega
    have h2 : j < (W.map (· / 2)).length := by simpa using hj
    exact absurd (by simpa using e') (List.pairwise_iff_getElem.1 hn i j h1 h2 hij)
  unfold kleft; rw [this]

set_option maxRecDepth 100000 in
set_option maxHeartbeats 4000000 in
theorem run_spec (n : Nat) (e : List Arc) (L0 nx0 : List Int) (bx : Nat) (m : Seg) (s t : Nat) (w : World) (hn : NOk n e) (hL0 : L0.length = n) (hx0 : nx0.length = n) (hS : DRep n e (List.replicate e.length 0) L0 nx0 bx m) (hs : s < n) (ht : t < n) (hst : s ≠ t) (hw : Owns w [m]) :
    Meets Try.prog 27 [.pointer (some ⟨bx, 0, none⟩), .int .i64 (s : Int), .int .i64 (t : Int)] w [m] (fun u own' => ∃ V f L' nx' m', u = .int .u64 V ∧ own' = [m'] ∧ DRep n e f L' nx' bx m' ∧ Flow n e s t f V ∧ Lay n e s f L' ∧ flAt L' t < 0 ∧ 0 ≤ V ∧ V ≤ 70368744161280) := by
  have hn1 := hn.n1
  have hel := hn.len
  have hwt : ∀ x ∈ e, x.wt ≤ 4294967295 := fun x hx => (hn.ok x hx).wt.2
  have hcs : capSum e ≤ 70368744161280 := by have := capSum_le 4294967295 e hwt; omega
  refine f_enter Try.func27 rfl Try.ntmps27 rfl hw ?_
  refine f_seq fun K1 kh1 => ?_
  refine f_region ?_
  refine f_stepP rfl rfl rfl (o_assign rfl) ?_
  refine f_done ?_
  refine f_tn (kh1 _ _ ?_)
  clear kh1
  refine f_seq fun K2 kh2 => ?_
  refine f_region ?_
  refine f_stepP rfl rfl rfl (o_assign rfl) ?_
  refine f_done ?_
  refine f_tn (kh2 _ _ ?_)
  clear kh2
  refine f_seq fun K3 kh3 => ?_
  refine f_block ?_
  refine f_loop (α := Int × List Int × List Int × List Int × Seg) [0, 1, 2] (fun ⟨V, f, L, nx, m1⟩ => [(7, .int .u64 V)]) (fun ⟨V, f, L, nx, m1⟩ => [m1]) (fun ⟨V, f, L, nx, m1⟩ => Flow n e s t f V ∧ 0 ≤ V ∧ DRep n e f L nx bx m1 ∧ L.length = n ∧ nx.length = n) (fun ⟨V, f, L, nx, m1⟩ => (capSum e - V).toNat) (0, List.replicate e.length 0, L0, nx0, m) ?_ ?_ ?_ ?_
  · exact (by repeat (first | exact trivial | refine ⟨rfl, ?_⟩))
  · repeat (first | exact Sub.nil | refine Sub.pick ?_ | refine Sub.castO rfl ?_ | refine Sub.skip ?_)
  · exact ⟨Flow.zero fun x hx => (hn.ok x hx).wt.1, Int.le_refl _, hS, hL0, hx0⟩
  · rintro ⟨V, f, L, nx, m1⟩ ⟨hF, hV, hD, hLl, hxl⟩
    have hVb := hF.val_le hs hst
    refine f_seq fun K4 kh4 => ?_
    refine f_seq fun K5 kh5 => ?_
    refine f_region ?_
    refine f_stepP rfl rfl rfl (o_move rfl) ?_
    refine f_stepP rfl rfl rfl (o_move rfl) ?_
    refine f_stepP rfl rfl rfl (o_move rfl) ?_
    refine f_step rfl rfl rfl (o_callM [m1] _ Try.call31 rfl (Sub.pick Sub.refl) (fun w_ hp_ => layers_spec n e f L nx bx m1 s t w_ hn hF.fits hLl hxl hD hs ht hp_.owns) ?_)
    rintro _ _ ⟨L1, m1', rfl, hD1, hLy, rfl⟩
    dsimp only [List.cons_append, List.nil_append]
    refine f_done ?_
    refine f_tn (kh5 _ _ ?_)
    clear kh5
    refine f_cond rfl (fun c17 => ?_) (fun c17 => ?_)
    · skip
      refine f_skip ?_
      refine f_tn (kh4 _ _ ?_)
      clear kh4
      refine f_block ?_
      refine f_seq fun K6 kh6 => ?_
      refine f_region ?_
      refine f_stepP rfl rfl rfl (o_move rfl) ?_
      refine f_stepP rfl rfl rfl (o_move rfl) ?_
      refine f_stepP rfl rfl rfl (o_move rfl) ?_
      refine f_step rfl rfl rfl (o_callM [m1'] _ Try.call32 rfl (Sub.pick Sub.refl) (fun w_ hp_ => way_spec n e f L1 (List.replicate n 0) bx m1' s t w_ hn hF.fits hLy.len hLy.s0 hLy.ge (Nx.start n e) hD1 hs ht hst hp_.owns) ?_)
      rintro v21 _ ⟨W1, nx1, m2, mw1, rfl, hD1', hx1, hW1, hWl1, hWg1, hWd1⟩
      have hW1n : W1 ≠ [] := fun h => by
        obtain ⟨a, b⟩ := hWd1 h (Past.start n e t f L1)
        exact way_there hLy hn.net ht c17 hx1 b a
      dsimp only [List.cons_append, List.nil_append]
      refine f_stepP rfl rfl rfl (o_assign rfl) ?_
      refine f_done ?_
      refine f_tn (kh6 _ _ ?_)
      clear kh6
      refine f_block ?_
      refine f_loop (α := Int × List Int × List Int × Seg × List Nat × Value × Seg) [0, 1, 2] (fun ⟨V2, f2, nx2, m2, W, wv, wm⟩ => [(7, .int .u64 V2), (8, wv)]) (fun ⟨V2, f2, nx2, m2, W, wv, wm⟩ => [m2, wm]) (fun ⟨V2, f2, nx2, m2, W, wv, wm⟩ => Flow n e s t f2 V2 ∧ DRep n e f2 L1 nx2 bx m2 ∧ Nx n e nx2 ∧ Own 3 1 wv W.length (ints (nI W)) wm ∧ W.length ≤ e.length ∧ (W ≠ [] → Way e s t W ∧ ∀ k, k ∈ W → Good e f2 L1 k) ∧ V ≤ V2 ∧ (W = [] → V < V2)) (fun ⟨V2, f2, nx2, m2, W, wv, wm⟩ => (capSum e - V2).toNat) (V, f, nx1, m2, W1, v21, mw1) ?_ ?_ ?_ ?_
      · exact (by repeat (first | exact trivial | refine ⟨rfl, ?_⟩))
      · repeat (first | exact Sub.nil | refine Sub.pick ?_ | refine Sub.castO rfl ?_ | refine Sub.skip ?_)
      · exact ⟨hF, hD1', hx1, hW1, hWl1, hWg1, Int.le_refl _, fun h => absurd h hW1n⟩
      · rintro ⟨V2, f2, nx2, m2, W, wv, wm⟩ ⟨hF2, hD2, hx2, hW, hWl, hWg, hV2, hne⟩
        obtain ⟨Aw, cw, rfl, hcw⟩ := hW.val
        have hV2b := hF2.val_le hs hst
        refine f_seq fun K7 kh7 => ?_
        refine f_seq fun K8 kh8 => ?_
        refine f_region ?_
        refine f_stepP rfl rfl rfl (o_move rfl) ?_
        refine f_stepP rfl rfl rfl (o_len sl32 rfl) ?_
        refine f_stepP rfl rfl rfl (o_gtr rfl rfl) ?_
        refine f_done ?_
        refine f_tn (kh8 _ _ ?_)
        clear kh8
        refine f_cond rfl (fun c24 => ?_) (fun c24 => ?_)
        · skip
          refine f_skip ?_
          refine f_tn (kh7 _ _ ?_)
          clear kh7
          refine f_seq fun K9 kh9 => ?_
          refine f_block ?_
          refine f_seq fun K10 kh10 => ?_
          have hW0 : 0 < W.length := by omega
          have hWk := hWg (fun h => by subst h; simp at hW0)
          have hWm := hWk.1.lt
          have hnd := hWk.1.nodup (L := L1) fun k hk => (hWk.2 k hk).2
          obtain ⟨bat, bl, bn, ve, vs, ms, me, hmp, hR, hE⟩ := hD2
          obtain ⟨A, cap, rfl, _⟩ := hE.val
          obtain ⟨bw, sw, rfl, rfl⟩ := hW.at_ hW0
          refine f_subC (Sub.openAt hmp) ?_
          unfold dsegs
          dsimp only [List.cons_append, List.nil_append]
          refine f_region ?_
          refine f_stepP rfl rfl rfl (o_move rfl) ?_
          refine f_stepP rfl rfl rfl (o_move rfl) ?_
          refine f_stepP rfl rfl rfl (o_idx sl32 rfl rfl (0) ⟨by omega, by omega, by first | omega | (simp; done) | (simp; omega)⟩) ?_
          refine f_stepP rfl rfl rfl (o_load Try.isAgg3 rfl (rdA (app_get (nI_get hW0)))) ?_
          refine f_step rfl rfl rfl (o_call Try.call33 rfl (fun w_ hp_ => left_spec n e f2 bx bat bl bn W[0] cap A w_ (roOwn (b := bx) hp_ (fun j v hj => hj)) (seen_ro (hE.seen hp_)) hn hF2.fits.len (hWm _ (List.getElem_mem hW0))) ?_)
          rintro _ _ ⟨rfl, rfl⟩
          dsimp only [List.cons_append, List.nil_append]
          refine f_stepP rfl rfl rfl (o_assign rfl) ?_
          refine f_done ?_
          refine f_tn (kh10 _ _ ?_)
          clear kh10
          refine f_seq fun K11 kh11 => ?_
          refine f_seq fun K12 kh12 => ?_
          refine f_region ?_
          refine f_stepP rfl rfl rfl (o_move rfl) ?_
          refine f_stepP rfl rfl rfl (o_len sl32 rfl) ?_
          refine f_stepP rfl rfl rfl (o_move rfl) ?_
          refine f_done ?_
          refine f_tn (kh12 _ _ ?_)
          clear kh12
          refine f_block ?_
          refine f_loop (α := Nat × Int) [0, 1, 2, 7, 8, 34, 35] (fun ⟨j, mm⟩ => [(36, .int .i64 (j : Int)), (9, .int .u32 mm)]) (fun ⟨j, mm⟩ => [[(bx, blk (dcells (.slice A e.length cap) n bat bl bn) 63)], [(bat, blk vs 32)], ms.flatten, me, [(bl, blk (ints L1) 3)], [(bn, blk (ints nx2) 3)], [(bw, blk (ints (nI W) ++ sw) 3)]]) (fun ⟨j, mm⟩ => j ≤ W.length ∧ 0 < mm ∧ mm ≤ 4294967295 ∧ ∀ i (h : i < W.length), i < j → mm ≤ kleft e f2 W[i]) (fun ⟨j, mm⟩ => W.length - j) (0, kleft e f2 W[0]) ?_ ?_ ?_ ?_
          · exact (by repeat (first | exact trivial | refine ⟨rfl, ?_⟩))
          · repeat (first | exact Sub.nil | refine Sub.pick ?_ | refine Sub.castO rfl ?_ | refine Sub.skip ?_)
          · exact ⟨Nat.zero_le _, (hWk.2 _ (List.getElem_mem _)).1, by have := kleft_rng hF2.fits (hWm _ (List.getElem_mem hW0)); have := (hn.at_ (i := W[0] / 2) (by have := hWm _ (List.getElem_mem hW0); omega)); omega, fun i h hi => by omega⟩
          · rintro ⟨j, mm⟩ ⟨hjl, hm0, hmu, hmj⟩
            refine f_seq fun K13 kh13 => ?_
            refine f_region ?_
            refine f_stepP rfl rfl rfl (o_lss rfl rfl) ?_
            refine f_done ?_
            refine f_tn (kh13 _ _ ?_)
            clear kh13
            refine f_seq fun K14 kh14 => ?_
            refine f_cond rfl (fun c37 => ?_) (fun c37 => ?_)
            · skip
              refine f_skip ?_
              refine f_tn (kh14 _ _ ?_)
              clear kh14
              refine f_seq fun K15 kh15 => ?_
              refine f_block ?_
              refine f_seq fun K16 kh16 => ?_
              refine f_region ?_
              have hj : j < W.length := by omega
              refine f_stepP rfl rfl rfl (o_idx sl32 rfl rfl (j) ⟨by omega, by omega, by first | omega | (simp; done) | (simp; omega)⟩) ?_
              refine f_stepP rfl rfl rfl (o_load Try.isAgg3 rfl (rdA (app_get (nI_get hj)))) ?_
              refine f_stepP rfl rfl rfl (o_assign rfl) ?_
              refine f_done ?_
              refine f_tn (kh16 _ _ ?_)
              clear kh16
              refine f_region ?_
              refine f_stepP rfl rfl rfl (o_move rfl) ?_
              refine f_stepP rfl rfl rfl (o_move rfl) ?_
              refine f_stepP rfl rfl rfl (o_move rfl) ?_
              refine f_step rfl rfl rfl (o_call Try.call33 rfl (fun w_ hp_ => left_spec n e f2 bx bat bl bn W[j] cap A w_ (roOwn (b := bx) hp_ (fun j v hj => hj)) (seen_ro (hE.seen hp_)) hn hF2.fits.len (hWm _ (List.getElem_mem hj))) ?_)
              rintro _ _ ⟨rfl, rfl⟩
              dsimp only [List.cons_append, List.nil_append]
              refine f_stepP rfl rfl rfl (o_min rfl rfl) ?_
              refine f_stepP rfl rfl rfl (o_assign rfl) ?_
              refine f_done ?_
              refine f_bn ?_
              refine f_tn (kh15 _ _ ?_)
              clear kh15
              refine f_region ?_
              refine f_stepP rfl rfl rfl (o_add rfl rfl _ (wrap_i64 (by omega))) ?_
              refine f_stepP rfl rfl rfl (o_move rfl) ?_
              refine f_done ?_
              refine f_tn (f_again (j + 1, min mm (kleft e f2 W[j])) (by first | omega | (dsimp only; omega) | (simp; omega)) ⟨by omega, by have := (hWk.2 _ (List.getElem_mem hj)).1; omega, by omega, min_step hj hmj⟩ ?_ ?_ ?_)
              · exact (by repeat (first | exact trivial | refine ⟨rfl, ?_⟩))
              · exact (by repeat (first | exact trivial | refine ⟨rfl, ?_⟩))
              · repeat (first | exact Sub.nil | refine Sub.pick ?_ | refine Sub.castO rfl ?_ | refine Sub.skip ?_)
            · skip
              refine f_exit ?_
              refine f_te ?_
              clear kh14
              refine f_te ?_
              refine f_be ?_
              refine f_tn (kh11 _ _ ?_)
              clear kh11
              refine f_seq fun K17 kh17 => ?_
              refine f_seq fun K18 kh18 => ?_
              refine f_region ?_
              refine f_stepP rfl rfl rfl (o_move rfl) ?_
              refine f_stepP rfl rfl rfl (o_len sl32 rfl) ?_
              refine f_stepP rfl rfl rfl (o_move rfl) ?_
              refine f_done ?_
              refine f_tn (kh18 _ _ ?_)
              clear kh18
              refine f_block ?_
              have hmall : ∀ k, k ∈ W → mm ≤ kleft e f2 k := fun k hk => by
                obtain ⟨i, hi, rfl⟩ := List.mem_iff_getElem.1 hk
                exact hmj i hi (by omega)
              have hF3 := hF2.push (by omega) hWk.1 hnd hmall
              have hV3 := hF3.val_le hs hst
              refine f_loop (α := Nat × Seg) [0, 1, 2, 7, 9, 46, 47] (fun ⟨j, me3⟩ => [(48, .int .i64 (j : Int))]) (fun ⟨j, me3⟩ => [[(bx, blk (dcells (.slice A e.length cap) n bat bl bn) 63)], [(bat, blk vs 32)], ms.flatten, me3, [(bl, blk (ints L1) 3)], [(bn, blk (ints nx2) 3)], [(bw, blk (ints (nI W) ++ sw) 3)]]) (fun ⟨j, me3⟩ => j ≤ W.length ∧ Own 68 4 (.slice A e.length cap) e.length (ecells e (pushAll f2 (W.take j) mm)) me3) (fun ⟨j, me3⟩ => W.length - j) (0, me) ?_ ?_ ?_ ?_
              · exact (by repeat (first | exact trivial | refine ⟨rfl, ?_⟩))
              · repeat (first | exact Sub.nil | refine Sub.pick ?_ | refine Sub.castO rfl ?_ | refine Sub.skip ?_)
              · exact ⟨Nat.zero_le _, hE⟩
              · rintro ⟨j, me3⟩ ⟨hjl, hE3⟩
                refine f_seq fun K19 kh19 => ?_
                refine f_region ?_
                refine f_stepP rfl rfl rfl (o_lss rfl rfl) ?_
                refine f_done ?_
                refine f_tn (kh19 _ _ ?_)
                clear kh19
                refine f_seq fun K20 kh20 => ?_
                refine f_cond rfl (fun c49 => ?_) (fun c49 => ?_)
                · skip
                  refine f_skip ?_
                  refine f_tn (kh20 _ _ ?_)
                  clear kh20
                  refine f_seq fun K21 kh21 => ?_
                  refine f_block ?_
                  refine f_seq fun K22 kh22 => ?_
                  refine f_region ?_
                  have hj : j < W.length := by omega
                  refine f_stepP rfl rfl rfl (o_idx sl32 rfl rfl (j) ⟨by omega, by omega, by first | omega | (simp; done) | (simp; omega)⟩) ?_
                  refine f_stepP rfl rfl rfl (o_load Try.isAgg3 rfl (rdA (app_get (nI_get hj)))) ?_
                  refine f_stepP rfl rfl rfl (o_assign rfl) ?_
                  refine f_done ?_
                  refine f_tn (kh22 _ _ ?_)
                  clear kh22
                  refine f_seq fun K23 kh23 => ?_
                  have hkw := push_left (d := mm) hF2.fits.len hj hWm hnd
                  have hfl : (pushAll f2 (W.take j) mm).length = e.length := by rw [pushAll_len]; exact hF2.fits.len
                  have hk2 := hWm _ (List.getElem_mem hj)
                  obtain ⟨be, spE, rfl, rfl, hupd⟩ := hE3.upd (by omega)
                  have hkm := hmj j hj (by omega)
                  have hkr := kleft_rng hF2.fits hk2
                  have hkx := kleft_xor (e := e) (f := pushAll f2 (W.take j) mm) W[j]
                  have hat := hn.at_ (i := W[j] / 2) (by omega)
                  have hcl := ecells_len hfl
                  refine f_regionT 17 rfl (by decide +kernel) ?_
                  refine f_stillP rfl rfl rfl (o_move rfl) ?_
                  refine f_stillP rfl rfl rfl (o_nil rfl) ?_
                  refine f_stillP rfl rfl rfl (o_field fa63_0 rfl) ?_
                  refine f_stillP rfl rfl rfl (o_load Try.isAgg60 rfl (rdA rfl)) ?_
                  refine f_stillP rfl rfl rfl (o_move rfl) ?_
                  refine f_stillP rfl rfl rfl (o_shr rfl rfl (by decide) ((W[j] / 2 : Nat) : Int) (shr_one (by omega))) ?_
                  refine f_stillP rfl rfl rfl (o_move rfl) ?_
                  refine f_stillP rfl rfl rfl (o_and rfl rfl ((W[j] % 2 : Nat) : Int) (and_one (by omega))) ?_
                  refine f_stillP rfl rfl rfl (o_idx sl60 rfl rfl (W[j] / 2 * 4) ⟨by omega, by omega, by first | omega | (simp; done) | (simp; omega)⟩) ?_
                  refine f_stillP rfl rfl rfl (o_field fa68_1 rfl) ?_
                  refine f_stillP rfl rfl rfl (o_idxA ar66 rfl rfl (W[j] / 2 * 4 + 2 + W[j] % 2) ⟨by omega, by omega, by first | omega | (simp; done) | (simp; omega)⟩) ?_
                  refine f_stillP rfl rfl rfl (o_load Try.isAgg50 rfl (rdA (v := .int .u32 (kleft e f2 W[j])) (app_get (by rw [ecells_left hfl hk2, hkw])))) ?_
                  refine f_stillP rfl rfl rfl (o_move rfl) ?_
                  refine f_stillP rfl rfl rfl (o_sub rfl rfl _ (wrap_u32 (by omega))) ?_
                  refine f_stillP rfl rfl rfl (o_idx sl60 rfl rfl (W[j] / 2 * 4) ⟨by omega, by omega, by first | omega | (simp; done) | (simp; omega)⟩) ?_
                  refine f_stillP rfl rfl rfl (o_field fa68_1 rfl) ?_
                  refine f_stillP rfl rfl rfl (o_idxA ar66 rfl rfl (W[j] / 2 * 4 + 2 + W[j] % 2) ⟨by omega, by omega, by first | omega | (simp; done) | (simp; omega)⟩) ?_
                  refine f_stillD (f_tail ?_)
                  refine f_step0 rfl rfl (o_store Try.sizeOf50 rfl rfl rfl rfl (by rw [List.length_append, hcl]; omega) _ rfl ?_)
                  refine f_done ?_
                  refine f_tn (kh23 _ _ ?_)
                  clear kh23
                  refine f_regionT 18 rfl (by decide +kernel) ?_
                  refine f_stillP rfl rfl rfl (o_move rfl) ?_
                  refine f_stillP rfl rfl rfl (o_nil rfl) ?_
                  refine f_stillP rfl rfl rfl (o_field fa63_0 rfl) ?_
                  refine f_stillP rfl rfl rfl (o_load Try.isAgg60 rfl (rdA rfl)) ?_
                  refine f_stillP rfl rfl rfl (o_move rfl) ?_
                  refine f_stillP rfl rfl rfl (o_shr rfl rfl (by decide) ((W[j] / 2 : Nat) : Int) (shr_one (by omega))) ?_
                  refine f_stillP rfl rfl rfl (o_move rfl) ?_
                  refine f_stillP rfl rfl rfl (o_and rfl rfl ((W[j] % 2 : Nat) : Int) (and_one (by omega))) ?_
                  refine f_stillP rfl rfl rfl (o_sub rfl rfl _ (wrap_i64 (by omega))) ?_
                  refine f_stillP rfl rfl rfl (o_idx sl60 rfl rfl (W[j] / 2 * 4) ⟨by omega, by omega, by first | omega | (simp; done) | (simp; omega)⟩) ?_
                  refine f_stillP rfl rfl rfl (o_field fa68_1 rfl) ?_
                  refine f_stillP rfl rfl rfl (o_idxA ar66 rfl rfl (W[j] / 2 * 4 + 2 + (1 - W[j] % 2)) ⟨by omega, by omega, by first | omega | (simp; done) | (simp; omega)⟩) ?_
                  refine f_stillP rfl rfl rfl (o_load Try.isAgg50 rfl (rdA (ecells_other hfl hk2))) ?_
                  refine f_stillP rfl rfl rfl (o_move rfl) ?_
                  refine f_stillP rfl rfl rfl (o_add rfl rfl _ (wrap_u32 (by omega))) ?_
                  refine f_stillP rfl rfl rfl (o_idx sl60 rfl rfl (W[j] / 2 * 4) ⟨by omega, by omega, by first | omega | (simp; done) | (simp; omega)⟩) ?_
                  refine f_stillP rfl rfl rfl (o_field fa68_1 rfl) ?_
                  refine f_stillP rfl rfl rfl (o_idxA ar66 rfl rfl (W[j] / 2 * 4 + 2 + (1 - W[j] % 2)) ⟨by omega, by omega, by first | omega | (simp; done) | (simp; omega)⟩) ?_
                  refine f_stillD (f_tail ?_)
                  refine f_step0 rfl rfl (o_store Try.sizeOf50 rfl rfl rfl rfl (by rw [List.length_set, List.length_append, hcl]; omega) (ecells e (fpush (pushAll f2 (W.take j) mm) W[j] mm) ++ spE) (by rw [← hkw]; exact ecells_push hfl hk2) ?_)
                  refine f_done ?_
                  refine f_bn ?_
                  refine f_tn (kh21 _ _ ?_)
                  clear kh21
                  refine f_region ?_
                  refine f_stepP rfl rfl rfl (o_add rfl rfl _ (wrap_i64 (by omega))) ?_
                  refine f_stepP rfl rfl rfl (o_move rfl) ?_
                  refine f_done ?_
                  refine f_tn (f_again (j + 1, [(be, blk (ecells e (fpush (pushAll f2 (W.take j) mm) W[j] mm) ++ spE) 68)]) (by first | omega | (dsimp only; omega) | (simp; omega)) ⟨by omega, by rw [List.take_succ_eq_append_getElem hj, pushAll_snoc]; exact hupd _ (by rw [ecells_len (by rw [fpush_len]; exact hfl), ecells_len hfl])⟩ ?_ ?_ ?_)
                  · exact (by repeat (first | exact trivial | refine ⟨rfl, ?_⟩))
                  · exact (by repeat (first | exact trivial | refine ⟨rfl, ?_⟩))
                  · repeat (first | exact Sub.nil | refine Sub.pick ?_ | refine Sub.castO rfl ?_ | refine Sub.skip ?_)
                · skip
                  refine f_exit ?_
                  refine f_te ?_
                  clear kh20
                  refine f_te ?_
                  refine f_be ?_
                  refine f_tn (kh17 _ _ ?_)
                  clear kh17
                  have hjW : W.take j = W := List.take_of_length_le (by omega)
                  have hE4 : Own 68 4 (.slice A e.length cap) e.length (ecells e (pushAll f2 W mm)) me3 := by rw [hjW] at hE3; exact hE3
                  refine f_region ?_
                  refine f_stepP rfl rfl rfl (o_move rfl) ?_
                  refine f_stepP rfl rfl rfl (o_move rfl) ?_
                  refine f_stepP rfl rfl rfl (o_conv Try.runUnderlying50 Try.runUnderlying33 rfl _ (wrap_u64 (by omega))) ?_
                  refine f_stepP rfl rfl rfl (o_add rfl rfl _ (wrap_u64 (by omega))) ?_
                  refine f_stepP rfl rfl rfl (o_assign rfl) ?_
                  refine f_done ?_
                  refine f_bn ?_
                  refine f_tn (kh9 _ _ ?_)
                  clear kh9
                  refine f_region ?_
                  refine f_stepP rfl rfl rfl (o_move rfl) ?_
                  refine f_stepP rfl rfl rfl (o_move rfl) ?_
                  refine f_stepP rfl rfl rfl (o_move rfl) ?_
                  refine f_step rfl rfl rfl (o_callM [(dsegs bx bat bl bn n (.slice A e.length cap) vs ms.flatten me3 L1 nx2).flatten] _ Try.call32 rfl (Sub.flatR (out := dsegs bx bat bl bn n (.slice A e.length cap) vs ms.flatten me3 L1 nx2) (Sub.pick (Sub.pick (Sub.pick (Sub.pick (Sub.pick (Sub.pick Sub.refl))))))) (fun w_ hp_ => way_spec n e (pushAll f2 W mm) L1 nx2 bx _ s t w_ hn hF3.fits hLy.len hLy.s0 hLy.ge hx2 (DRep_mk hR hE4) hs ht hst hp_.owns) ?_)
                  rintro v28 _ ⟨W3, nx3, m3, mw3, rfl, hD3, hx3, hW3, hWl3, hWg3, _⟩
                  dsimp only [List.cons_append, List.nil_append]
                  refine f_stepP rfl rfl rfl (o_assign rfl) ?_
                  refine f_done ?_
                  refine f_tn (f_again (V2 + mm, pushAll f2 W mm, nx3, m3, W3, v28, mw3) (by show (capSum e - (V2 + mm)).toNat < (capSum e - V2).toNat; omega) ⟨hF3, hD3, hx3, hW3, hWl3, hWg3, by omega, fun _ => by omega⟩ ?_ ?_ ?_)
                  · exact (by repeat (first | exact trivial | refine ⟨rfl, ?_⟩))
                  · exact (by repeat (first | exact trivial | refine ⟨rfl, ?_⟩))
                  · repeat (first | exact Sub.nil | refine Sub.pick ?_ | refine Sub.castO rfl ?_ | refine Sub.skip ?_)
        · skip
          refine f_exit ?_
          refine f_te ?_
          clear kh7
          refine f_te ?_
          refine f_be ?_
          refine f_bn ?_
          refine f_tn (f_again (V2, f2, L1, nx2, m2) (by have := hne (by cases W with | nil => rfl | cons a b => simp at c24 <;> omega); have := hF2.val_le hs hst; show (capSum e - V2).toNat < (capSum e - V).toNat; omega) ⟨hF2, by omega, hD2, hLy.len, hx2.len⟩ ?_ ?_ ?_)
          · exact (by repeat (first | exact trivial | refine ⟨rfl, ?_⟩))
          · exact (by repeat (first | exact trivial | refine ⟨rfl, ?_⟩))
          · repeat (first | exact Sub.nil | refine Sub.pick ?_ | refine Sub.castO rfl ?_ | refine Sub.skip ?_)
    · skip
      refine f_exit ?_
      refine f_te ?_
      clear kh4
      refine f_te ?_
      refine f_be ?_
      refine f_tn (kh3 _ _ ?_)
      clear kh3
      refine f_seq fun K24 kh24 => ?_
      refine f_region ?_
      refine f_stepP rfl rfl rfl (o_move rfl) ?_
      refine f_stepP rfl rfl rfl (o_assign rfl) ?_
      refine f_done ?_
      refine f_tn (kh24 _ _ ?_)
      clear kh24
      refine f_ret ?_
      exact f_fin1 [m1'] Try.results27 rfl (by repeat (first | exact Sub.nil | refine Sub.pick ?_ | refine Sub.castO rfl ?_)) ⟨V, f, L1, _, m1', rfl, rfl, hD1, hF, hLy, by omega, hV, by omega⟩

end Go.Proofs.Ytnagjidfenfdbaa
