import Derived.Test.YtbjiejhdgkpjcaaAll12

/- The document's flows: Check, Wrong, reached. -/
namespace Go.Proofs.Ytbjiejhdgkpjcaa
open Go Go.RowKit Fly
set_option linter.unusedVariables false
set_option linter.unusedSimpArgs false


theorem flAt_rep0 {n : Nat} {x : Int} {v : Nat} (h : v < n) : flAt (List.replicate n x) v = x := flAt_rep h
/-- What reached answers. -/
def RchΦ (n : Nat) (e : List Arc) (s : Nat) (f : List Int) (u : Value) (own : List Seg) : Prop :=
  ∃ b1 b2 sd by_ q, u = .tuple #[.slice (some ⟨b1, 0, none⟩) n n, .slice (some ⟨b2, 0, none⟩) n n] ∧ own = [[(b1, blk (sd.map .bool) 4)], [(b2, blk (ints by_) 3)]] ∧ Rch n e s f sd by_ q (Full e q)
theorem Rch.qlen {n : Nat} {e : List Arc} {s : Nat} {f : List Int} {sd : List Bool} {by_ : List Int} {q : List Nat} {P : Nat → Prop} (h : Rch n e s f sd by_ q P) : q.length ≤ n := nodup_le n q h.nd h.lt

theorem kto_even (e : List Arc) (i : Nat) : kto e (2 * i) = (arcAt e i).dst.toNat := by unfold kto; rw [if_pos (by omega), show 2 * i / 2 = i by omega]
theorem kto_odd (e : List Arc) (i : Nat) : kto e (2 * i + 1) = (arcAt e i).src.toNat := by unfold kto; rw [if_neg (by omega), show (2 * i + 1) / 2 = i by omega]
theorem kleft_even (e : List Arc) (f : List Int) (i : Nat) : kleft e f (2 * i) = (arcAt e i).wt - flAt f i := by unfold kleft; rw [if_pos (by omega), show 2 * i / 2 = i by omega]
theorem kleft_odd (e : List Arc) (f : List Int) (i : Nat) : kleft e f (2 * i + 1) = flAt f i := by unfold kleft; rw [if_neg (by omega), show (2 * i + 1) / 2 = i by omega]
theorem Rch.pass {n : Nat} {e : List Arc} {s v k : Nat} {f : List Int} {sd : List Bool} {by_ : List Int} {q : List Nat} {P : Nat → Prop} (h : Rch n e s f sd by_ q P) (hn : kfrom e k = v → sd.getD (kto e k) false = true ∨ ¬ 0 < kleft e f k) : Rch n e s f sd by_ q (fun j => P j ∨ (j = k ∧ kfrom e j = v)) :=
  ⟨h.ls, h.lb, h.s0, h.nd, h.mem, h.lt, h.prev, fun j hj hjl hP => by
    rcases hP with hP | ⟨rfl, hv⟩
    · exact h.cl j hj hjl hP
    · rcases hn hv with h1 | h1
      · exact h1
      · exact absurd hjl h1⟩

set_option maxRecDepth 100000 in
set_option maxHeartbeats 4000000 in
theorem reached_spec (n : Nat) (A : Option Addr) (l : List Arc) (cap : Nat) (s : Nat) (C : Option Addr) (f : List Int) (cc : Nat) (w : World) (hr : Ro (Fr w []) w A (l.flatMap arcCs)) (hn : NOk n l) (hs : s < n) (hC : Ro (Fr w []) w C (u32s f)) (hf : Fits l f) :
    Meets Try.prog 75 [.agg #[.int .i64 (n : Int), .slice A l.length cap], .int .i64 (s : Int), .slice C f.length cc] w [] (RchΦ n l s f) := by
 have hn1 := hn.n1
 have hel := hn.len
 have hfl := hf.len
 refine f_enter Try.func75 rfl Try.ntmps75 rfl Owns.nil ?_
 refine f_seq fun K1 kh1 => ?_
 refine f_region ?_
 refine f_step rfl rfl rfl (o_box rfl rfl fun b3 => ?_)
 refine f_stepP rfl rfl rfl (o_assign rfl) ?_
 refine f_stepP rfl rfl rfl (o_assign rfl) ?_
 refine f_done ?_
 refine f_tn (kh1 _ _ ?_)
 clear kh1
 refine f_seq fun K2 kh2 => ?_
 refine f_region ?_
 refine f_stepP rfl rfl rfl (o_field fa59_0 rfl) ?_
 refine f_stepP rfl rfl rfl (o_load Try.isAgg3 rfl (rdA rfl)) ?_
 refine f_step rfl rfl rfl (o_make el42 rfl rfl n rfl (by omega) (by omega) ((List.replicate n false).map .bool) (bools_rep false n) fun b18 => ?_)
 refine f_stepP rfl rfl rfl (o_assign rfl) ?_
 refine f_done ?_
 refine f_tn (kh2 _ _ ?_)
 clear kh2
 refine f_seq fun K3 kh3 => ?_
 refine f_region ?_
 refine f_stepP rfl rfl rfl (o_field fa59_0 rfl) ?_
 refine f_stepP rfl rfl rfl (o_load Try.isAgg3 rfl (rdA rfl)) ?_
 refine f_step rfl rfl rfl (o_make el35 rfl rfl n rfl (by omega) (by omega) (ints (List.replicate n 0)) (ints0 n) fun b21 => ?_)
 refine f_stepP rfl rfl rfl (o_assign rfl) ?_
 refine f_done ?_
 refine f_tn (kh3 _ _ ?_)
 clear kh3
 refine f_seq fun K4 kh4 => ?_
 refine f_seq fun K5 kh5 => ?_
 refine f_region ?_
 refine f_stepP rfl rfl rfl (o_assign rfl) ?_
 refine f_done ?_
 refine f_tn (kh5 _ _ ?_)
 clear kh5
 refine f_block ?_
 refine f_loop (α := Nat) [1, 2, 3, 8, 9] (fun k => [(10, .int .i64 (k : Int))]) (fun k => [[(b18, blk ((List.replicate n false).map .bool) 4)], [(b21, blk (ints (mixL k (-1) (List.replicate n 0))) 3)], [(b3, blk [.int .i64 (n : Int), .slice A l.length cap] 59)]]) (fun k => k ≤ n) (fun k => n - k) (0) ?_ ?_ ?_ ?_
 · exact (by repeat (first | exact trivial | refine ⟨rfl, ?_⟩))
 · repeat (first | exact Sub.nil | refine Sub.pick ?_ | refine Sub.castO rfl ?_ | refine Sub.skip ?_)
 · exact Nat.zero_le _
 ·
  rintro k hkn
  refine f_seq fun K6 kh6 => ?_
  refine f_seq fun K7 kh7 => ?_
  refine f_region ?_
  refine f_stepP rfl rfl rfl (o_move rfl) ?_
  refine f_stepP rfl rfl rfl (o_field fa59_0 rfl) ?_
  refine f_stepP rfl rfl rfl (o_load Try.isAgg3 rfl (rdA rfl)) ?_
  refine f_stepP rfl rfl rfl (o_lss rfl rfl) ?_
  refine f_done ?_
  refine f_tn (kh7 _ _ ?_)
  clear kh7
  refine f_cond rfl (fun c25 => ?_) (fun c25 => ?_)
  ·
   refine f_skip ?_
   refine f_tn (kh6 _ _ ?_)
   clear kh6
   refine f_seq fun K8 kh8 => ?_
   refine f_block ?_
   refine f_region ?_
   refine f_stepP rfl rfl rfl (o_move rfl) ?_
   refine f_stepP rfl rfl rfl (o_move rfl) ?_
   have hk : k < n := by omega
   refine f_stepP rfl rfl rfl (o_idx sl35 rfl rfl (k) ⟨by omega, by omega, by first | omega | (simp; done) | (simp; omega)⟩) ?_
   refine f_step0 rfl rfl (o_store Try.sizeOf3 rfl rfl rfl rfl (by rw [ints_length, mixL_len (by simp; omega)]; simp; omega) (ints (mixL (k + 1) (-1) (List.replicate n 0))) (mixL_set (by simp; omega)) ?_)
   refine f_done ?_
   refine f_bn ?_
   refine f_tn (kh8 _ _ ?_)
   clear kh8
   refine f_region ?_
   refine f_stepP rfl rfl rfl (o_move rfl) ?_
   refine f_stepP rfl rfl rfl (o_add rfl rfl _ (wrap_i64 (by omega))) ?_
   refine f_stepP rfl rfl rfl (o_assign rfl) ?_
   refine f_done ?_
   refine f_tn (f_again (k + 1) (by first | omega | (dsimp only; omega) | (simp; omega)) (by omega) ?_ ?_ ?_)
   · exact (by repeat (first | exact trivial | refine ⟨rfl, ?_⟩))
   · exact (by repeat (first | exact trivial | refine ⟨rfl, ?_⟩))
   · repeat (first | exact Sub.nil | refine Sub.pick ?_ | refine Sub.castO rfl ?_ | refine Sub.skip ?_)
  ·
   refine f_exit ?_
   refine f_te ?_
   clear kh6
   refine f_te ?_
   refine f_be ?_
   refine f_tn (kh4 _ _ ?_)
   clear kh4
   refine f_seq fun K9 kh9 => ?_
   refine f_region ?_
   refine f_stepP rfl rfl rfl (o_move rfl) ?_
   refine f_stepP rfl rfl rfl (o_move rfl) ?_
   refine f_stepP rfl rfl rfl (o_idx sl42 rfl rfl (s) ⟨by omega, by omega, by first | omega | (simp; done) | (simp; omega)⟩) ?_
   refine f_step0 rfl rfl (o_store Try.sizeOf4 rfl rfl rfl rfl (by simp; omega) (((List.replicate n false).set s true).map .bool) (bools_set _ _ _) ?_)
   refine f_done ?_
   refine f_tn (kh9 _ _ ?_)
   clear kh9
   refine f_seq fun K10 kh10 => ?_
   refine f_region ?_
   refine f_stepP rfl rfl rfl (o_move rfl) ?_
   refine f_step rfl rfl rfl (o_slice1 el35 (by omega) rfl rfl rfl fun b35 => ?_)
   refine f_stepP rfl rfl rfl (o_assign rfl) ?_
   refine f_done ?_
   refine f_tn (kh10 _ _ ?_)
   clear kh10
   refine f_seq fun K11 kh11 => ?_
   refine f_seq fun K12 kh12 => ?_
   refine f_region ?_
   refine f_stepP rfl rfl rfl (o_assign rfl) ?_
   refine f_done ?_
   refine f_tn (kh12 _ _ ?_)
   clear kh12
   refine f_block ?_
   have hbm : mixL k (-1) (List.replicate n 0) = List.replicate n (-1) := by rw [mixL_all (by simp; omega), List.length_replicate]
   rw [hbm]
   refine f_loop (α := Nat × List Bool × List Int × List Nat × Value × Seg) [2, 3, 8, 9] (fun ⟨k, sd, by_, q, wv, wm⟩ => [(12, .int .i64 (k : Int)), (11, wv)]) (fun ⟨k, sd, by_, q, wv, wm⟩ => [[(b18, blk (sd.map .bool) 4)], [(b21, blk (ints by_) 3)], [(b3, blk [.int .i64 (n : Int), .slice A l.length cap] 59)], wm]) (fun ⟨k, sd, by_, q, wv, wm⟩ => k ≤ q.length ∧ Rch n l s f sd by_ q (fun j => kfrom l j ∈ q.take k) ∧ Own 3 1 wv q.length (ints (nI q)) wm) (fun ⟨k, sd, by_, q, wv, wm⟩ => n - k) (0, (List.replicate n false).set s true, List.replicate n (-1), [s], .slice (some ⟨b35, 0, none⟩) 1 1, [(b35, blk [.int .i64 (s : Int)] 3)]) ?_ ?_ ?_ ?_
   · exact (by repeat (first | exact trivial | refine ⟨rfl, ?_⟩))
   · repeat (first | exact Sub.nil | refine Sub.pick ?_ | refine Sub.castO rfl ?_ | refine Sub.skip ?_)
   · exact ⟨Nat.zero_le _, (Rch.begin hs).weaken fun k _ h => by simp at h, Own.mk rfl (by decide)⟩
   ·
    rintro ⟨k, sd, by_, q, wv, wm⟩ ⟨hkq, hR, hW⟩
    obtain ⟨Aw, cw, rfl, hcw⟩ := hW.val
    have hqn := hR.qlen
    refine f_envC (e := [(12, _), (11, _), (2, _), (3, _), (8, _), (9, _)]) (by repeat (first | exact trivial | refine ⟨rfl, ?_⟩)) ?_
    refine f_seq fun K13 kh13 => ?_
    refine f_seq fun K14 kh14 => ?_
    refine f_region ?_
    refine f_stepP rfl rfl rfl (o_move rfl) ?_
    refine f_stepP rfl rfl rfl (o_move rfl) ?_
    refine f_stepP rfl rfl rfl (o_len sl35 rfl) ?_
    refine f_stepP rfl rfl rfl (o_lss rfl rfl) ?_
    refine f_done ?_
    refine f_tn (kh14 _ _ ?_)
    clear kh14
    refine f_cond rfl (fun c39 => ?_) (fun c39 => ?_)
    ·
     refine f_skip ?_
     refine f_tn (kh13 _ _ ?_)
     clear kh13
     refine f_seq fun K15 kh15 => ?_
     refine f_block ?_
     refine f_seq fun K16 kh16 => ?_
     refine f_region ?_
     refine f_stepP rfl rfl rfl (o_move rfl) ?_
     refine f_stepP rfl rfl rfl (o_move rfl) ?_
     have hkl : k < q.length := by omega
     obtain ⟨bw, sw, rfl, rfl⟩ := hW.at_ (by omega)
     obtain ⟨v, hvd⟩ : ∃ v, q[k] = v := ⟨_, rfl⟩
     refine f_stepP rfl rfl rfl (o_idx sl35 rfl rfl (k) ⟨by omega, by omega, by first | omega | (simp; done) | (simp; omega)⟩) ?_
     refine f_stepP rfl rfl rfl (o_load Try.isAgg3 rfl (rdA (v := .int .i64 (v : Int)) (app_get (by rw [nI_get hkl, hvd])))) ?_
     refine f_stepP rfl rfl rfl (o_assign rfl) ?_
     refine f_done ?_
     refine f_tn (kh16 _ _ ?_)
     clear kh16
     refine f_seq fun K17 kh17 => ?_
     refine f_region ?_
     refine f_stepP rfl rfl rfl (o_assign rfl) ?_
     refine f_done ?_
     refine f_tn (kh17 _ _ ?_)
     clear kh17
     refine f_block ?_
     refine f_loop (α := Nat × List Bool × List Int × List Nat × Value × Seg) [2, 3, 8, 9, 12, 13] (fun ⟨i, sd2, by2, q2, wv2, wm2⟩ => [(14, .int .i64 (i : Int)), (11, wv2)]) (fun ⟨i, sd2, by2, q2, wv2, wm2⟩ => [[(b18, blk (sd2.map .bool) 4)], [(b21, blk (ints by2) 3)], [(b3, blk [.int .i64 (n : Int), .slice A l.length cap] 59)], wm2]) (fun ⟨i, sd2, by2, q2, wv2, wm2⟩ => i ≤ l.length ∧ Rch n l s f sd2 by2 q2 (fun j => kfrom l j ∈ q.take k ∨ (kfrom l j = v ∧ j < 2 * i)) ∧ q2.take (k + 1) = q.take (k + 1) ∧ k < q2.length ∧ Own 3 1 wv2 q2.length (ints (nI q2)) wm2) (fun ⟨i, sd2, by2, q2, wv2, wm2⟩ => l.length - i) (0, sd, by_, q, .slice (some ⟨bw, 0, none⟩) q.length cw, [(bw, blk (ints (nI q) ++ sw) 3)]) ?_ ?_ ?_ ?_
     · exact (by repeat (first | exact trivial | refine ⟨rfl, ?_⟩))
     · repeat (first | exact Sub.nil | refine Sub.pick ?_ | refine Sub.castO rfl ?_ | refine Sub.skip ?_)
     · exact ⟨Nat.zero_le _, hR.weaken fun j _ hP => by
       rcases hP with hP | ⟨_, hP⟩
       · exact hP
       · omega, rfl, hkl, hW⟩
     ·
      rintro ⟨i, sd2, by2, q2, wv2, wm2⟩ ⟨hil, hR2, hq2, hkl2, hW2⟩
      have hq2n := hR2.qlen
      have hls2 := hR2.ls
      have hlb2 := hR2.lb
      have hvm2 : v ∈ q2 := List.mem_of_mem_take (i := k + 1) (by rw [hq2, List.take_succ_eq_append_getElem hkl]; simp [hvd])
      refine f_envC (e := [(14, _), (11, _), (2, _), (3, _), (8, _), (9, _), (12, _), (13, _)]) (by repeat (first | exact trivial | refine ⟨rfl, ?_⟩)) ?_
      refine f_seq fun K18 kh18 => ?_
      refine f_seq fun K19 kh19 => ?_
      refine f_region ?_
      refine f_stepP rfl rfl rfl (o_move rfl) ?_
      refine f_stepP rfl rfl rfl (o_field fa59_1 rfl) ?_
      refine f_stepP rfl rfl rfl (o_load Try.isAgg57 rfl (rdA rfl)) ?_
      refine f_stepP rfl rfl rfl (o_len sl57 rfl) ?_
      refine f_stepP rfl rfl rfl (o_lss rfl rfl) ?_
      refine f_done ?_
      refine f_tn (kh19 _ _ ?_)
      clear kh19
      refine f_cond rfl (fun c50 => ?_) (fun c50 => ?_)
      ·
       refine f_skip ?_
       refine f_tn (kh18 _ _ ?_)
       clear kh18
       refine f_seq fun K20 kh20 => ?_
       refine f_block ?_
       refine f_seq fun K21 kh21 => ?_
       refine f_region ?_
       refine f_stepP rfl rfl rfl (o_field fa59_1 rfl) ?_
       refine f_stepP rfl rfl rfl (o_load Try.isAgg57 rfl (rdA rfl)) ?_
       refine f_stepP rfl rfl rfl (o_move rfl) ?_
       have hi : i < l.length := by omega
       obtain ⟨bq, off, rfl, hS, hc⟩ := hr (flat_ne arcCs arcCs_len (by omega) hi)
       obtain ⟨bf, of_, rfl, hSf, hcf⟩ := hC (map_ne (k := i) (by omega))
       have hat := arcAt_eq hi
       have hgi := hn.good i hi
       have hk0 : 2 * i < 2 * l.length := by omega
       have hk1 : 2 * i + 1 < 2 * l.length := by omega
       have hs0 : l[i].src = ((kfrom l (2 * i) : Nat) : Int) := by rw [kfrom_even, hat]; omega
       have hd0 : l[i].dst = ((kto l (2 * i) : Nat) : Int) := by rw [kto_even, hat]; omega
       have hs1 : l[i].src = ((kto l (2 * i + 1) : Nat) : Int) := by rw [kto_odd, hat]; omega
       have hd1 : l[i].dst = ((kfrom l (2 * i + 1) : Nat) : Int) := by rw [kfrom_odd, hat]; omega
       have hl0 : kleft l f (2 * i) = l[i].wt - flAt f i := by rw [kleft_even, hat]
       have hl1 : kleft l f (2 * i + 1) = flAt f i := kleft_odd l f i
       refine f_stepP rfl rfl rfl (o_idx sl57 rfl rfl (off + i * 3) ⟨by omega, by omega, by first | omega | (simp; done) | (simp; omega)⟩) ?_
       refine f_stepP rfl rfl rfl (o_loadA (vs := arcCs l[i]) Try.isAgg62 Try.sizeOf62 rfl rfl (roElem arcCs_len hS hc hi)) ?_
       refine f_step rfl rfl rfl (o_alloc Try.zeroValue62 rfl fun b15 => ?_)
       refine f_step0 rfl rfl (o_storeA Try.sizeOf62 rfl rfl rfl rfl (by first | exact Nat.le_of_ble_eq_true rfl | (simp; done) | (simp; omega)) (arcCs l[i]) rfl ?_)
       refine f_done ?_
       refine f_tn (kh21 _ _ ?_)
       clear kh21
       refine f_meet (α := List Bool × List Int × List Nat × Value × Seg) [2, 3, 8, 9, 12, 13, 14, 15] (fun ⟨sd3, by3, q3, wv3, wm3⟩ => [(11, wv3)]) (fun ⟨sd3, by3, q3, wv3, wm3⟩ => [[(b18, blk (sd3.map .bool) 4)], [(b21, blk (ints by3) 3)], [(b3, blk [.int .i64 (n : Int), .slice (some ⟨bq, off, none⟩) l.length cap] 59)], wm3, [(b15, blk (arcCs l[i]) 62)]]) (fun ⟨sd3, by3, q3, wv3, wm3⟩ => Rch n l s f sd3 by3 q3 (fun j => kfrom l j ∈ q.take k ∨ (kfrom l j = v ∧ j < 2 * i + 1)) ∧ q3.take (k + 1) = q.take (k + 1) ∧ k < q3.length ∧ Own 3 1 wv3 q3.length (ints (nI q3)) wm3) ?_ ?_
       ·
        intro K22 kh22
        refine f_seq fun K23 kh23 => ?_
        refine f_regionS rfl (by decide +kernel) ?_
        refine f_stillP rfl rfl rfl (o_field fa62_0 rfl) ?_
        refine f_stillP rfl rfl rfl (o_load Try.isAgg3 rfl (rdA rfl)) ?_
        refine f_stillP rfl rfl rfl (o_move rfl) ?_
        refine f_stillP rfl rfl rfl (o_eql rfl rfl) ?_
        refine f_stillP rfl rfl rfl (o_move rfl) ?_
        refine f_splitS 62 rfl (fun g62 => ?_) (fun g62 => ?_)
        ·
         refine f_stillPY rfl rfl rfl rfl rfl (o_move rfl) ?_
         refine f_stillPY rfl rfl rfl rfl rfl (o_field fa62_1 rfl) ?_
         refine f_stillPY rfl rfl rfl rfl rfl (o_load Try.isAgg3 rfl (rdA rfl)) ?_
         refine f_stillPY rfl rfl rfl rfl rfl (o_idx sl42 rfl rfl (kto l (2 * i)) ⟨by omega, by omega, by first | omega | (simp; done) | (simp; omega)⟩) ?_
         refine f_stillPY rfl rfl rfl rfl rfl (o_load Try.isAgg4 rfl (rdA (bools_at (by omega)))) ?_
         refine f_stillPY rfl rfl rfl rfl rfl (o_not rfl) ?_
         refine f_stillP rfl rfl rfl (o_pickT rfl rfl) ?_
         refine f_stillP rfl rfl rfl (o_move rfl) ?_
         refine f_splitSB 70 rfl (fun g70 => ?_) (fun g70 => ?_)
         ·
          refine f_stillPY rfl rfl rfl rfl rfl (o_move rfl) ?_
          refine f_stillPY rfl rfl rfl rfl rfl (o_move rfl) ?_
          refine f_stillPY rfl rfl rfl rfl rfl (o_idx sl98 rfl rfl (of_ + i) ⟨by omega, by omega, by first | omega | (simp; done) | (simp; omega)⟩) ?_
          refine f_stillPY rfl rfl rfl rfl rfl (o_load Try.isAgg53 rfl (rdS hSf (hcf i _ (u32s_at (by omega))))) ?_
          refine f_stillPY rfl rfl rfl rfl rfl (o_field fa62_2 rfl) ?_
          refine f_stillPY rfl rfl rfl rfl rfl (o_load Try.isAgg53 rfl (rdA rfl)) ?_
          refine f_stillPY rfl rfl rfl rfl rfl (o_lss rfl rfl) ?_
          refine f_stillP rfl rfl rfl (o_pickT rfl rfl) ?_
          refine f_stillD ?_
          refine f_tn (kh23 _ _ ?_)
          clear kh23
          refine f_cond rfl (fun c78 => ?_) (fun c78 => ?_)
          ·
           refine f_seq fun K24 kh24 => ?_
           refine f_regionH [[(b15, blk (arcCs l[i]) 62)]] rfl ?_
           refine f_take 0 rfl (by decide +kernel) rfl rfl rfl (by repeat (first | exact Sub.nil | refine Sub.pick ?_ | refine Sub.castO rfl ?_ | refine Sub.skip ?_)) (o_move rfl) ?_
           refine f_take 1 rfl (by decide +kernel) rfl rfl rfl (by repeat (first | exact Sub.nil | refine Sub.pick ?_ | refine Sub.castO rfl ?_ | refine Sub.skip ?_)) (o_field fa62_1 rfl) ?_
           refine f_take 2 rfl (by decide +kernel) rfl rfl rfl (by repeat (first | exact Sub.nil | refine Sub.pick ?_ | refine Sub.castO rfl ?_ | refine Sub.skip ?_)) (o_load Try.isAgg3 rfl (rdA rfl)) ?_
           refine f_take 3 rfl (by decide +kernel) rfl rfl rfl (by repeat (first | exact Sub.nil | refine Sub.pick ?_ | refine Sub.castO rfl ?_ | refine Sub.skip ?_)) (o_move rfl) ?_
           refine f_take 4 rfl (by decide +kernel) rfl rfl rfl (by repeat (first | exact Sub.nil | refine Sub.pick ?_ | refine Sub.castO rfl ?_ | refine Sub.skip ?_)) (o_field fa62_1 rfl) ?_
           refine f_take 5 rfl (by decide +kernel) rfl rfl rfl (by repeat (first | exact Sub.nil | refine Sub.pick ?_ | refine Sub.castO rfl ?_ | refine Sub.skip ?_)) (o_load Try.isAgg3 rfl (rdA rfl)) ?_
           refine f_take 6 rfl (by decide +kernel) rfl rfl rfl (by repeat (first | exact Sub.nil | refine Sub.pick ?_ | refine Sub.castO rfl ?_ | refine Sub.skip ?_)) (o_move rfl) ?_
           refine f_take 7 rfl (by decide +kernel) rfl rfl rfl (by repeat (first | exact Sub.nil | refine Sub.pick ?_ | refine Sub.castO rfl ?_ | refine Sub.skip ?_)) (o_mul rfl rfl _ (show IntKind.i64.wrap (2 * (i : Int)) = ((2 * i : Nat) : Int) from by rw [wrap_i64 (by omega)]; omega)) ?_
           refine f_take 8 rfl (by decide +kernel) rfl rfl rfl (by repeat (first | exact Sub.nil | refine Sub.pick ?_ | refine Sub.castO rfl ?_ | refine Sub.skip ?_)) (o_idx sl42 rfl rfl (kto l (2 * i)) ⟨by omega, by omega, by first | omega | (simp; done) | (simp; omega)⟩) ?_
           refine f_only0 9 rfl (by decide +kernel) rfl rfl (o_store Try.sizeOf4 rfl rfl rfl rfl (by rw [List.length_map]; omega) ((sd2.set (kto l (2 * i)) true).map .bool) (bools_set _ _ _) ⟨(by repeat (first | exact Sub.nil | refine Sub.pick ?_ | refine Sub.castO rfl ?_ | refine Sub.skip ?_)), ?_⟩)
           refine f_take 10 rfl (by decide +kernel) rfl rfl rfl (by repeat (first | exact Sub.nil | refine Sub.pick ?_ | refine Sub.castO rfl ?_ | refine Sub.skip ?_)) (o_idx sl35 rfl rfl (kto l (2 * i)) ⟨by omega, by omega, by first | omega | (simp; done) | (simp; omega)⟩) ?_
           refine f_only0 11 rfl (by decide +kernel) rfl rfl (o_store Try.sizeOf3 rfl rfl rfl rfl (by rw [ints_length]; omega) (ints (by2.set (kto l (2 * i)) ((2 * i : Nat) : Int))) (ints_put ..) ⟨(by repeat (first | exact Sub.nil | refine Sub.pick ?_ | refine Sub.castO rfl ?_ | refine Sub.skip ?_)), ?_⟩)
           refine f_over (by decide +kernel) ?_
           refine f_tn (kh24 _ _ ?_)
           clear kh24
           refine f_region ?_
           refine f_stepP rfl rfl rfl (o_move rfl) ?_
           refine f_stepP rfl rfl rfl (o_field fa62_1 rfl) ?_
           refine f_stepP rfl rfl rfl (o_load Try.isAgg3 rfl (rdA rfl)) ?_
           refine f_step rfl rfl rfl (o_slice1 el35 (by omega) rfl rfl rfl fun b92 => ?_)
           refine f_step rfl rfl rfl (o_append el35 rfl rfl hW2 (ys := [.int .i64 l[i].dst]) ⟨(rdA rfl), trivial⟩ rfl rfl (by omega) (by omega) fun v93 m93 o93 => ?_)
           rw [hd0] at o93
           refine f_stepP rfl rfl rfl (o_assign rfl) ?_
           refine f_done ?_
           refine f_tn (kh22 _ _ (sd2.set (kto l (2 * i)) true, by2.set (kto l (2 * i)) ((2 * i : Nat) : Int), q2 ++ [kto l (2 * i)], v93, m93) ⟨(hR2.see hn.net hk0 (by rw [show kfrom l (2 * i) = v by omega]; exact hvm2) (by simpa only [Bool.not_eq_true'] using g70) (by omega)).weaken (fun j hj hP => by
             rcases hP with hP | ⟨hP, hlt⟩
             · exact .inl (.inl hP)
             · by_cases e' : j = 2 * i
               · exact .inr e'
               · exact .inl (.inr ⟨hP, by omega⟩)), by rw [List.take_append_of_le_length (by omega)]; exact hq2, by rw [List.length_append]; omega, by rw [nI_snoc, List.length_append]; exact o93⟩ ?_ ?_ ?_)
           · exact (by repeat (first | exact trivial | refine ⟨rfl, ?_⟩))
           · exact (by repeat (first | exact trivial | refine ⟨rfl, ?_⟩))
           · repeat (first | exact Sub.nil | refine Sub.pick ?_ | refine Sub.castO rfl ?_ | refine Sub.skip ?_)
          ·
           refine f_skip ?_
           refine f_tn (kh22 _ _ (sd2, by2, q2, wv2, wm2) ⟨(hR2.pass (v := v) (k := 2 * i) (fun hv => by first | (exact .inl (by simpa using g70)) | (exact .inr (by omega)) | (exact absurd (show l[i].src = (v : Int) by omega) g62))).weaken (fun j hj hP => by
             rcases hP with hP | ⟨hP, hlt⟩
             · exact .inl (.inl hP)
             · by_cases e' : j = 2 * i
               · exact .inr ⟨e', hP⟩
               · exact .inl (.inr ⟨hP, by omega⟩)), hq2, hkl2, hW2⟩ ?_ ?_ ?_)
           · exact (by repeat (first | exact trivial | refine ⟨rfl, ?_⟩))
           · exact (by repeat (first | exact trivial | refine ⟨rfl, ?_⟩))
           · repeat (first | exact Sub.nil | refine Sub.pick ?_ | refine Sub.castO rfl ?_ | refine Sub.skip ?_)
         ·
          refine f_stillN rfl rfl rfl rfl rfl rfl ?_
          refine f_stillN rfl rfl rfl rfl rfl rfl ?_
          refine f_stillN rfl rfl rfl rfl rfl rfl ?_
          refine f_stillN rfl rfl rfl rfl rfl rfl ?_
          refine f_stillN rfl rfl rfl rfl rfl rfl ?_
          refine f_stillN rfl rfl rfl rfl rfl rfl ?_
          refine f_stillN rfl rfl rfl rfl rfl rfl ?_
          refine f_stillP rfl rfl rfl (o_pickF rfl rfl) ?_
          refine f_stillD ?_
          refine f_tn (kh23 _ _ ?_)
          clear kh23
          refine f_condF rfl ?_
          refine f_skip ?_
          refine f_tn (kh22 _ _ (sd2, by2, q2, wv2, wm2) ⟨(hR2.pass (v := v) (k := 2 * i) (fun hv => by first | (exact .inl (by simpa using g70)) | (exact .inr (by omega)) | (exact absurd (show l[i].src = (v : Int) by omega) g62))).weaken (fun j hj hP => by
            rcases hP with hP | ⟨hP, hlt⟩
            · exact .inl (.inl hP)
            · by_cases e' : j = 2 * i
              · exact .inr ⟨e', hP⟩
              · exact .inl (.inr ⟨hP, by omega⟩)), hq2, hkl2, hW2⟩ ?_ ?_ ?_)
          · exact (by repeat (first | exact trivial | refine ⟨rfl, ?_⟩))
          · exact (by repeat (first | exact trivial | refine ⟨rfl, ?_⟩))
          · repeat (first | exact Sub.nil | refine Sub.pick ?_ | refine Sub.castO rfl ?_ | refine Sub.skip ?_)
        ·
         refine f_stillN rfl rfl rfl rfl rfl rfl ?_
         refine f_stillN rfl rfl rfl rfl rfl rfl ?_
         refine f_stillN rfl rfl rfl rfl rfl rfl ?_
         refine f_stillN rfl rfl rfl rfl rfl rfl ?_
         refine f_stillN rfl rfl rfl rfl rfl rfl ?_
         refine f_stillN rfl rfl rfl rfl rfl rfl ?_
         refine f_stillP rfl rfl rfl (o_pickF rfl rfl) ?_
         refine f_stillP rfl rfl rfl (o_move rfl) ?_
         refine f_stillN rfl rfl rfl rfl rfl rfl ?_
         refine f_stillN rfl rfl rfl rfl rfl rfl ?_
         refine f_stillN rfl rfl rfl rfl rfl rfl ?_
         refine f_stillN rfl rfl rfl rfl rfl rfl ?_
         refine f_stillN rfl rfl rfl rfl rfl rfl ?_
         refine f_stillN rfl rfl rfl rfl rfl rfl ?_
         refine f_stillN rfl rfl rfl rfl rfl rfl ?_
         refine f_stillP rfl rfl rfl (o_pickF rfl rfl) ?_
         refine f_stillD ?_
         refine f_tn (kh23 _ _ ?_)
         clear kh23
         refine f_condF rfl ?_
         refine f_skip ?_
         refine f_tn (kh22 _ _ (sd2, by2, q2, wv2, wm2) ⟨(hR2.pass (v := v) (k := 2 * i) (fun hv => by first | (exact .inl (by simpa using g70)) | (exact .inr (by omega)) | (exact absurd (show l[i].src = (v : Int) by omega) g62))).weaken (fun j hj hP => by
           rcases hP with hP | ⟨hP, hlt⟩
           · exact .inl (.inl hP)
           · by_cases e' : j = 2 * i
             · exact .inr ⟨e', hP⟩
             · exact .inl (.inr ⟨hP, by omega⟩)), hq2, hkl2, hW2⟩ ?_ ?_ ?_)
         · exact (by repeat (first | exact trivial | refine ⟨rfl, ?_⟩))
         · exact (by repeat (first | exact trivial | refine ⟨rfl, ?_⟩))
         · repeat (first | exact Sub.nil | refine Sub.pick ?_ | refine Sub.castO rfl ?_ | refine Sub.skip ?_)
       ·
        rintro ⟨sd3, by3, q3, wv3, wm3⟩ ⟨hR3, hq3, hkl3, hW3⟩
        have hq3n := hR3.qlen
        have hls3 := hR3.ls
        have hlb3 := hR3.lb
        have hvm3 : v ∈ q3 := List.mem_of_mem_take (i := k + 1) (by rw [hq3, List.take_succ_eq_append_getElem hkl]; simp [hvd])
        refine f_seq fun K25 kh25 => ?_
        refine f_region ?_
        refine f_stepP rfl rfl rfl (o_field fa62_1 rfl) ?_
        refine f_stepP rfl rfl rfl (o_load Try.isAgg3 rfl (rdA rfl)) ?_
        refine f_stepP rfl rfl rfl (o_move rfl) ?_
        refine f_stepP rfl rfl rfl (o_eql rfl rfl) ?_
        refine f_stepP rfl rfl rfl (o_move rfl) ?_
        refine f_splitL 98 rfl (fun g98 => ?_) (fun g98 => ?_)
        ·
         refine f_stepPY rfl rfl rfl rfl rfl (o_move rfl) ?_
         refine f_stepPY rfl rfl rfl rfl rfl (o_field fa62_0 rfl) ?_
         refine f_stepPY rfl rfl rfl rfl rfl (o_load Try.isAgg3 rfl (rdA rfl)) ?_
         refine f_stepPY rfl rfl rfl rfl rfl (o_idx sl42 rfl rfl (kto l (2 * i + 1)) ⟨by omega, by omega, by first | omega | (simp; done) | (simp; omega)⟩) ?_
         refine f_stepPY rfl rfl rfl rfl rfl (o_load Try.isAgg4 rfl (rdA (bools_at (by omega)))) ?_
         refine f_stepPY rfl rfl rfl rfl rfl (o_not rfl) ?_
         refine f_stepP rfl rfl rfl (o_pickT rfl rfl) ?_
         refine f_stepP rfl rfl rfl (o_move rfl) ?_
         refine f_splitLB 106 rfl (fun g106 => ?_) (fun g106 => ?_)
         ·
          refine f_stepPY rfl rfl rfl rfl rfl (o_move rfl) ?_
          refine f_stepPY rfl rfl rfl rfl rfl (o_move rfl) ?_
          refine f_stepPY rfl rfl rfl rfl rfl (o_idx sl98 rfl rfl (of_ + i) ⟨by omega, by omega, by first | omega | (simp; done) | (simp; omega)⟩) ?_
          refine f_stepPY rfl rfl rfl rfl rfl (o_load Try.isAgg53 rfl (rdS hSf (hcf i _ (u32s_at (by omega))))) ?_
          refine f_stepPY rfl rfl rfl rfl rfl (o_gtr rfl rfl) ?_
          refine f_stepP rfl rfl rfl (o_pickT rfl rfl) ?_
          refine f_done ?_
          refine f_tn (kh25 _ _ ?_)
          clear kh25
          refine f_cond rfl (fun c112 => ?_) (fun c112 => ?_)
          ·
           refine f_seq fun K26 kh26 => ?_
           refine f_regionH [[(b15, blk (arcCs l[i]) 62)]] rfl ?_
           refine f_take 0 rfl (by decide +kernel) rfl rfl rfl (by repeat (first | exact Sub.nil | refine Sub.pick ?_ | refine Sub.castO rfl ?_ | refine Sub.skip ?_)) (o_move rfl) ?_
           refine f_take 1 rfl (by decide +kernel) rfl rfl rfl (by repeat (first | exact Sub.nil | refine Sub.pick ?_ | refine Sub.castO rfl ?_ | refine Sub.skip ?_)) (o_field fa62_0 rfl) ?_
           refine f_take 2 rfl (by decide +kernel) rfl rfl rfl (by repeat (first | exact Sub.nil | refine Sub.pick ?_ | refine Sub.castO rfl ?_ | refine Sub.skip ?_)) (o_load Try.isAgg3 rfl (rdA rfl)) ?_
           refine f_take 3 rfl (by decide +kernel) rfl rfl rfl (by repeat (first | exact Sub.nil | refine Sub.pick ?_ | refine Sub.castO rfl ?_ | refine Sub.skip ?_)) (o_move rfl) ?_
           refine f_take 4 rfl (by decide +kernel) rfl rfl rfl (by repeat (first | exact Sub.nil | refine Sub.pick ?_ | refine Sub.castO rfl ?_ | refine Sub.skip ?_)) (o_field fa62_0 rfl) ?_
           refine f_take 5 rfl (by decide +kernel) rfl rfl rfl (by repeat (first | exact Sub.nil | refine Sub.pick ?_ | refine Sub.castO rfl ?_ | refine Sub.skip ?_)) (o_load Try.isAgg3 rfl (rdA rfl)) ?_
           refine f_take 6 rfl (by decide +kernel) rfl rfl rfl (by repeat (first | exact Sub.nil | refine Sub.pick ?_ | refine Sub.castO rfl ?_ | refine Sub.skip ?_)) (o_move rfl) ?_
           refine f_take 7 rfl (by decide +kernel) rfl rfl rfl (by repeat (first | exact Sub.nil | refine Sub.pick ?_ | refine Sub.castO rfl ?_ | refine Sub.skip ?_)) (o_mul rfl rfl _ (show IntKind.i64.wrap (2 * (i : Int)) = ((2 * i : Nat) : Int) from by rw [wrap_i64 (by omega)]; omega)) ?_
           refine f_take 8 rfl (by decide +kernel) rfl rfl rfl (by repeat (first | exact Sub.nil | refine Sub.pick ?_ | refine Sub.castO rfl ?_ | refine Sub.skip ?_)) (o_add rfl rfl _ (show IntKind.i64.wrap (((2 * i : Nat) : Int) + 1) = ((2 * i + 1 : Nat) : Int) from by rw [wrap_i64 (by omega)]; omega)) ?_
           refine f_take 9 rfl (by decide +kernel) rfl rfl rfl (by repeat (first | exact Sub.nil | refine Sub.pick ?_ | refine Sub.castO rfl ?_ | refine Sub.skip ?_)) (o_idx sl42 rfl rfl (kto l (2 * i + 1)) ⟨by omega, by omega, by first | omega | (simp; done) | (simp; omega)⟩) ?_
           refine f_only0 10 rfl (by decide +kernel) rfl rfl (o_store Try.sizeOf4 rfl rfl rfl rfl (by rw [List.length_map]; omega) ((sd3.set (kto l (2 * i + 1)) true).map .bool) (bools_set _ _ _) ⟨(by repeat (first | exact Sub.nil | refine Sub.pick ?_ | refine Sub.castO rfl ?_ | refine Sub.skip ?_)), ?_⟩)
           refine f_take 11 rfl (by decide +kernel) rfl rfl rfl (by repeat (first | exact Sub.nil | refine Sub.pick ?_ | refine Sub.castO rfl ?_ | refine Sub.skip ?_)) (o_idx sl35 rfl rfl (kto l (2 * i + 1)) ⟨by omega, by omega, by first | omega | (simp; done) | (simp; omega)⟩) ?_
           refine f_only0 12 rfl (by decide +kernel) rfl rfl (o_store Try.sizeOf3 rfl rfl rfl rfl (by rw [ints_length]; omega) (ints (by3.set (kto l (2 * i + 1)) ((2 * i + 1 : Nat) : Int))) (ints_put ..) ⟨(by repeat (first | exact Sub.nil | refine Sub.pick ?_ | refine Sub.castO rfl ?_ | refine Sub.skip ?_)), ?_⟩)
           refine f_over (by decide +kernel) ?_
           refine f_tn (kh26 _ _ ?_)
           clear kh26
           refine f_region ?_
           refine f_stepP rfl rfl rfl (o_move rfl) ?_
           refine f_stepP rfl rfl rfl (o_field fa62_0 rfl) ?_
           refine f_stepP rfl rfl rfl (o_load Try.isAgg3 rfl (rdA rfl)) ?_
           refine f_step rfl rfl rfl (o_slice1 el35 (by omega) rfl rfl rfl fun b127 => ?_)
           refine f_step rfl rfl rfl (o_append el35 rfl rfl hW3 (ys := [.int .i64 l[i].src]) ⟨(rdA rfl), trivial⟩ rfl rfl (by omega) (by omega) fun v128 m128 o128 => ?_)
           rw [hs1] at o128
           refine f_stepP rfl rfl rfl (o_assign rfl) ?_
           refine f_done ?_
           refine f_bn ?_
           refine f_tn (kh20 _ _ ?_)
           clear kh20
           refine f_region ?_
           refine f_stepP rfl rfl rfl (o_move rfl) ?_
           refine f_stepP rfl rfl rfl (o_add rfl rfl _ (wrap_i64 (by omega))) ?_
           refine f_stepP rfl rfl rfl (o_assign rfl) ?_
           refine f_done ?_
           refine f_tn (f_again (i + 1, sd3.set (kto l (2 * i + 1)) true, by3.set (kto l (2 * i + 1)) ((2 * i + 1 : Nat) : Int), q3 ++ [kto l (2 * i + 1)], v128, m128) (by first | omega | (dsimp only; omega) | (simp; omega)) ⟨by omega, (hR3.see hn.net hk1 (by rw [show kfrom l (2 * i + 1) = v by omega]; exact hvm3) (by simpa only [Bool.not_eq_true'] using g106) (by omega)).weaken (fun j hj hP => by
             rcases hP with hP | ⟨hP, hlt⟩
             · exact .inl (.inl hP)
             · by_cases e' : j = 2 * i + 1
               · exact .inr e'
               · exact .inl (.inr ⟨hP, by omega⟩)), by rw [List.take_append_of_le_length (by omega)]; exact hq3, by rw [List.length_append]; omega, by rw [nI_snoc, List.length_append]; exact o128⟩ ?_ ?_ ?_)
           · exact (by repeat (first | exact trivial | refine ⟨rfl, ?_⟩))
           · exact (by repeat (first | exact trivial | refine ⟨rfl, ?_⟩))
           · repeat (first | exact Sub.nil | refine Sub.pick ?_ | refine Sub.castO rfl ?_ | refine Sub.skip ?_)
          ·
           refine f_skip ?_
           refine f_bn ?_
           refine f_tn (kh20 _ _ ?_)
           clear kh20
           refine f_region ?_
           refine f_stepP rfl rfl rfl (o_move rfl) ?_
           refine f_stepP rfl rfl rfl (o_add rfl rfl _ (wrap_i64 (by omega))) ?_
           refine f_stepP rfl rfl rfl (o_assign rfl) ?_
           refine f_done ?_
           refine f_tn (f_again (i + 1, sd3, by3, q3, wv3, wm3) (by first | omega | (dsimp only; omega) | (simp; omega)) ⟨by omega, (hR3.pass (v := v) (k := 2 * i + 1) (fun hv => by first | (exact .inl (by simpa using g106)) | (exact .inr (by omega)) | (exact absurd (show l[i].dst = (v : Int) by omega) g98))).weaken (fun j hj hP => by
             rcases hP with hP | ⟨hP, hlt⟩
             · exact .inl (.inl hP)
             · by_cases e' : j = 2 * i + 1
               · exact .inr ⟨e', hP⟩
               · exact .inl (.inr ⟨hP, by omega⟩)), hq3, hkl3, hW3⟩ ?_ ?_ ?_)
           · exact (by repeat (first | exact trivial | refine ⟨rfl, ?_⟩))
           · exact (by repeat (first | exact trivial | refine ⟨rfl, ?_⟩))
           · repeat (first | exact Sub.nil | refine Sub.pick ?_ | refine Sub.castO rfl ?_ | refine Sub.skip ?_)
         ·
          refine f_stepN rfl rfl rfl rfl rfl rfl ?_
          refine f_stepN rfl rfl rfl rfl rfl rfl ?_
          refine f_stepN rfl rfl rfl rfl rfl rfl ?_
          refine f_stepN rfl rfl rfl rfl rfl rfl ?_
          refine f_stepN rfl rfl rfl rfl rfl rfl ?_
          refine f_stepP rfl rfl rfl (o_pickF rfl rfl) ?_
          refine f_done ?_
          refine f_tn (kh25 _ _ ?_)
          clear kh25
          refine f_condF rfl ?_
          refine f_skip ?_
          refine f_bn ?_
          refine f_tn (kh20 _ _ ?_)
          clear kh20
          refine f_region ?_
          refine f_stepP rfl rfl rfl (o_move rfl) ?_
          refine f_stepP rfl rfl rfl (o_add rfl rfl _ (wrap_i64 (by omega))) ?_
          refine f_stepP rfl rfl rfl (o_assign rfl) ?_
          refine f_done ?_
          refine f_tn (f_again (i + 1, sd3, by3, q3, wv3, wm3) (by first | omega | (dsimp only; omega) | (simp; omega)) ⟨by omega, (hR3.pass (v := v) (k := 2 * i + 1) (fun hv => by first | (exact .inl (by simpa using g106)) | (exact .inr (by omega)) | (exact absurd (show l[i].dst = (v : Int) by omega) g98))).weaken (fun j hj hP => by
            rcases hP with hP | ⟨hP, hlt⟩
            · exact .inl (.inl hP)
            · by_cases e' : j = 2 * i + 1
              · exact .inr ⟨e', hP⟩
              · exact .inl (.inr ⟨hP, by omega⟩)), hq3, hkl3, hW3⟩ ?_ ?_ ?_)
          · exact (by repeat (first | exact trivial | refine ⟨rfl, ?_⟩))
          · exact (by repeat (first | exact trivial | refine ⟨rfl, ?_⟩))
          · repeat (first | exact Sub.nil | refine Sub.pick ?_ | refine Sub.castO rfl ?_ | refine Sub.skip ?_)
        ·
         refine f_stepN rfl rfl rfl rfl rfl rfl ?_
         refine f_stepN rfl rfl rfl rfl rfl rfl ?_
         refine f_stepN rfl rfl rfl rfl rfl rfl ?_
         refine f_stepN rfl rfl rfl rfl rfl rfl ?_
         refine f_stepN rfl rfl rfl rfl rfl rfl ?_
         refine f_stepN rfl rfl rfl rfl rfl rfl ?_
         refine f_stepP rfl rfl rfl (o_pickF rfl rfl) ?_
         refine f_stepP rfl rfl rfl (o_move rfl) ?_
         refine f_stepN rfl rfl rfl rfl rfl rfl ?_
         refine f_stepN rfl rfl rfl rfl rfl rfl ?_
         refine f_stepN rfl rfl rfl rfl rfl rfl ?_
         refine f_stepN rfl rfl rfl rfl rfl rfl ?_
         refine f_stepN rfl rfl rfl rfl rfl rfl ?_
         refine f_stepP rfl rfl rfl (o_pickF rfl rfl) ?_
         refine f_done ?_
         refine f_tn (kh25 _ _ ?_)
         clear kh25
         refine f_condF rfl ?_
         refine f_skip ?_
         refine f_bn ?_
         refine f_tn (kh20 _ _ ?_)
         clear kh20
         refine f_region ?_
         refine f_stepP rfl rfl rfl (o_move rfl) ?_
         refine f_stepP rfl rfl rfl (o_add rfl rfl _ (wrap_i64 (by omega))) ?_
         refine f_stepP rfl rfl rfl (o_assign rfl) ?_
         refine f_done ?_
         refine f_tn (f_again (i + 1, sd3, by3, q3, wv3, wm3) (by first | omega | (dsimp only; omega) | (simp; omega)) ⟨by omega, (hR3.pass (v := v) (k := 2 * i + 1) (fun hv => by first | (exact .inl (by simpa using g106)) | (exact .inr (by omega)) | (exact absurd (show l[i].dst = (v : Int) by omega) g98))).weaken (fun j hj hP => by
           rcases hP with hP | ⟨hP, hlt⟩
           · exact .inl (.inl hP)
           · by_cases e' : j = 2 * i + 1
             · exact .inr ⟨e', hP⟩
             · exact .inl (.inr ⟨hP, by omega⟩)), hq3, hkl3, hW3⟩ ?_ ?_ ?_)
         · exact (by repeat (first | exact trivial | refine ⟨rfl, ?_⟩))
         · exact (by repeat (first | exact trivial | refine ⟨rfl, ?_⟩))
         · repeat (first | exact Sub.nil | refine Sub.pick ?_ | refine Sub.castO rfl ?_ | refine Sub.skip ?_)
      ·
       refine f_exit ?_
       refine f_te ?_
       clear kh18
       refine f_te ?_
       refine f_be ?_
       refine f_bn ?_
       refine f_tn (kh15 _ _ ?_)
       clear kh15
       refine f_region ?_
       refine f_stepP rfl rfl rfl (o_move rfl) ?_
       refine f_stepP rfl rfl rfl (o_add rfl rfl _ (wrap_i64 (by omega))) ?_
       refine f_stepP rfl rfl rfl (o_assign rfl) ?_
       refine f_done ?_
       refine f_tn (f_again (k + 1, sd2, by2, q2, wv2, wm2) (by show n - (k + 1) < n - k; omega) ⟨by omega, hR2.weaken fun j hj hP => by
         rw [hq2, List.take_succ_eq_append_getElem hkl, List.mem_append, List.mem_singleton, hvd] at hP
         rcases hP with hP | hP
         · exact .inl hP
         · exact .inr ⟨hP, by omega⟩, hW2⟩ ?_ ?_ ?_)
       · exact (by repeat (first | exact trivial | refine ⟨rfl, ?_⟩))
       · exact (by repeat (first | exact trivial | refine ⟨rfl, ?_⟩))
       · repeat (first | exact Sub.nil | refine Sub.pick ?_ | refine Sub.castO rfl ?_ | refine Sub.skip ?_)
    ·
     refine f_exit ?_
     refine f_te ?_
     clear kh13
     refine f_te ?_
     refine f_be ?_
     refine f_tn (kh11 _ _ ?_)
     clear kh11
     refine f_seq fun K27 kh27 => ?_
     refine f_region ?_
     refine f_stepP rfl rfl rfl (o_move rfl) ?_
     refine f_stepP rfl rfl rfl (o_move rfl) ?_
     refine f_stepP rfl rfl rfl (o_assign rfl) ?_
     refine f_stepP rfl rfl rfl (o_assign rfl) ?_
     refine f_done ?_
     refine f_tn (kh27 _ _ ?_)
     clear kh27
     refine f_ret ?_
     exact f_fin2 [[(b18, blk (sd.map .bool) 4)], [(b21, blk (ints by_) 3)]] Try.results75 rfl rfl (by repeat (first | exact Sub.nil | refine Sub.pick ?_ | refine Sub.castO rfl ?_)) ⟨b18, b21, sd, by_, q, rfl, rfl, hR.weaken fun j hj hP => by rw [List.take_of_length_le (by omega)]; exact hP⟩

end Go.Proofs.Ytbjiejhdgkpjcaa

/- The document's flows: push, Most, Cut, Value. -/
namespace Go.Proofs.Ytbjiejhdgkpjcaa
open Go Go.RowKit Fly
set_option linter.unusedVariables false
set_option linter.unusedSimpArgs false


/-- The nodes of a way. -/
def vtx (e : List Arc) (s : Nat) (W : List Nat) (p : Nat) : Nat := match p with
  | 0 => s
  | p + 1 => kto e (W.getD p 0)
theorem way_vtx {e : List Arc} {t : Nat} : ∀ {W : List Nat} {s : Nat}, Way e s t W → (∀ p, p < W.length → kfrom e (W.getD p 0) = vtx e s W p) ∧ vtx e s W W.length = t
  | [], s, h => ⟨fun p hp => by simp at hp, h⟩
  | k :: W, s, ⟨h1, h2, h3⟩ => by
    obtain ⟨i1, i2⟩ := way_vtx h3
    have hv : ∀ p, vtx e (kto e k) W p = vtx e s (k :: W) (p + 1) := fun p => by cases p <;> rfl
    refine ⟨fun p hp => ?_, by rw [List.length_cons, ← hv]; exact i2⟩
    cases p with
    | zero => exact h2
    | succ p => rw [← hv]; exact i1 p (by simpa using hp)
theorem Path.at_ {n : Nat} {e : List Arc} {s t : Nat} {f by_ : List Int} {W : List Nat} (hp : Path n e s t f by_ W) (hf : Fits e f) {q : Nat} (hq : q < W.length) :
    ∃ k, W.drop q = k :: W.drop (q + 1) ∧ k < 2 * e.length ∧ 0 < kleft e f k ∧ flAt by_ (kto e k) = (k : Int) ∧ vtx e s W (q + 1) = kto e k ∧ vtx e s W q = kfrom e k ∧ kto e k ≠ s ∧ (∀ d, flAt (pushR f (W.drop (q + 1)) d) (k / 2) = flAt f (k / 2)) ∧ minL e f W ≤ kleft e f k := by
  have hm : W[q] ∈ W := List.getElem_mem hq
  obtain ⟨h1, h2, h3, h4⟩ := hp.good _ hm
  have hg : W.getD q 0 = W[q] := by simp [List.getD_eq_getElem?_getD, hq]
  have hd : W.drop q = W[q] :: W.drop (q + 1) := List.drop_eq_getElem_cons hq
  refine ⟨W[q], hd, h1, h2, h3, by rw [← hg]; rfl, by rw [← (way_vtx hp.way).1 q hq, hg], h4, fun d => flAt_pushR (fun j hj => ?_) (fun j hj e' => ?_), minL_le hm⟩
  · have := (hp.good j (List.mem_of_mem_drop hj)).1
    have := hf.len; omega
  · have hn := hp.nd
    rw [← List.take_append_drop q W, hd, List.map_append, List.map_cons] at hn
    exact (List.nodup_cons.1 (List.nodup_append.1 hn).2.1).1 (e' ▸ List.mem_map.2 ⟨j, hj, rfl⟩)
theorem rdFld {S : Nat → Prop} {w0 : World} {segs : List Seg} {b off : Nat} {l : List Arc} (hS : S b) (hc : CellsAre w0 b off (l.flatMap arcCs)) {i : Nat} (hi : i < l.length) (j : Nat) {v : Value} (hj : (arcCs l[i])[j]? = some v) : Rd S w0 segs b (off + i * 3 + j) v := by
  rw [Nat.add_assoc]
  exact rdS hS (hc _ _ (by rw [flat_get arcCs arcCs_len l i j hi (by have := (List.getElem?_eq_some_iff.1 hj).1; simpa [arcCs] using this)]; exact hj))
theorem u32s_put {f sp : List Value} {g : List Int} {i : Nat} {x : Int} (h : i < g.length) : (u32s g ++ sp).set i (.int .u32 x) = u32s (g.set i x) ++ sp := by
  rw [List.set_append_left _ _ (by rw [u32s_len]; exact h), u32s_set]
theorem u32s_one (l : List Int) : (u32s l).all (·.oneCell') = true := by
  induction l with
  | nil => rfl
  | cons x l ih => rw [show u32s (x :: l) = .int .u32 x :: u32s l from rfl, List.all_cons, ih]; rfl
theorem rds_ro6 {S : Nat → Prop} {w0 : World} {segs : List Seg} {A : Option Addr} {cs : List Value} (h : Ro S w0 A cs) : cs ≠ [] → ∃ b off, A = some ⟨b, off, none⟩ ∧ Rds S w0 segs b off cs := fun hne => by
  obtain ⟨b, off, e, hS, hc⟩ := h hne
  exact ⟨b, off, e, Seen.rds fun _ => ⟨hS, hc⟩⟩
def PushΦ (e : List Arc) (f : List Int) (W : List Nat) (u : Value) (own : List Seg) : Prop :=
  ∃ v m, u = .tuple #[v, .int .u32 (minL e f W)] ∧ own = [m] ∧ Own 53 1 v f.length (u32s (pushR f W (minL e f W))) m

def MostΦ (n : Nat) (e : List Arc) (s t : Nat) (u : Value) (own : List Seg) : Prop :=
  ∃ V f v, ∃ sd : List Bool, ∃ m1 b2, u = .tuple #[.int .u64 V, v, .slice (some ⟨b2, 0, none⟩) n n] ∧ own = [m1, [(b2, blk (sd.map .bool) 4)]] ∧ Own 53 1 v f.length (u32s f) m1 ∧ Flow n e s t f V ∧ Side n e s t f (fun v => sd.getD v false) ∧ sd.length = n ∧ 0 ≤ V ∧ V ≤ 70368744161280
def RCutΦ (N : Int) (e : List Arc) (s t : Int) (u : Value) (own : List Seg) : Prop :=
  ∃ V v m, ∃ sd : List Bool, ∃ W vw m2, u = .tuple #[v, vw, .int .u64 V, .int .i64 (flooked N e s t)] ∧ own = [m, m2] ∧ Own 4 1 v sd.length (sd.map .bool) m ∧ Own 3 1 vw W.length (ints W) m2 ∧
    (flooked N e s t ≠ 0 → V = 0 ∧ sd = [] ∧ W = []) ∧
    (flooked N e s t = 0 → sd.length = N.toNat ∧ W = idxs (cutP sd) e ∧ (∃ f, Flow N.toNat e s.toNat t.toNat f V ∧ Side N.toNat e s.toNat t.toNat f (fun v => sd.getD v false)) ∧ 0 ≤ V ∧ V ≤ 70368744161280)
def q64s (l : List Int) : List Value := l.map (.int .u64 ·)
theorem q64s_len (l : List Int) : (q64s l).length = l.length := by simp [q64s]
theorem q64s_set (l : List Int) (i : Nat) (x : Int) : (q64s l).set i (.int .u64 x) = q64s (l.set i x) := by simp [q64s, List.map_set]
theorem q64s_at {l : List Int} {i : Nat} (h : i < l.length) : (q64s l)[i]? = some (.int .u64 (flAt l i)) := by rw [flAt_eq h]; simp [q64s, h]
theorem q64s0 (n : Nat) : (List.replicate n [Value.int .u64 0]).flatten = q64s (List.replicate n 0) := by
  induction n with
  | zero => rfl
  | succ n ih => simp only [List.replicate_succ, List.flatten_cons, ih]; rfl

set_option maxRecDepth 100000 in
set_option maxHeartbeats 4000000 in
theorem push_spec (n : Nat) (A : Option Addr) (l : List Arc) (cap : Nat) (s t : Nat) (C : Option Addr) (f : List Int) (cc : Nat) (D : Option Addr) (by_ : List Int) (dl dc : Nat) (W : List Nat) (w : World) (hr : Ro (Fr w []) w A (l.flatMap arcCs)) (hn : NOk n l) (hC : Ro (Fr w []) w C (u32s f)) (hf : Fits l f)
    (hD : Ro (Fr w []) w D (ints by_)) (hdl : dl = n) (hbl : by_.length = n) (hp : Path n l s t f by_ W) (ht : t < n) :
    Meets Try.prog 76 [.agg #[.int .i64 (n : Int), .slice A l.length cap], .int .i64 (s : Int), .int .i64 (t : Int), .slice C f.length cc, .slice D dl dc] w [] (PushΦ l f W) := by
 have hn1 := hn.n1
 have hel := hn.len
 have hfl := hf.len
 have hwe := (way_vtx hp.way).2
 subst dl
 have hm0 := minL_pos fun k hk => (hp.good k hk).2.1
 refine f_enter Try.func76 rfl Try.ntmps76 rfl Owns.nil ?_
 refine f_seq fun K1 kh1 => ?_
 refine f_region ?_
 refine f_step rfl rfl rfl (o_box rfl rfl fun b5 => ?_)
 refine f_stepP rfl rfl rfl (o_assign rfl) ?_
 refine f_stepP rfl rfl rfl (o_assign rfl) ?_
 refine f_done ?_
 refine f_tn (kh1 _ _ ?_)
 clear kh1
 refine f_seq fun K2 kh2 => ?_
 refine f_region ?_
 refine f_step rfl rfl rfl (o_slice0 el98 fun b19 => ?_)
 refine f_stepP rfl rfl rfl (o_move rfl) ?_
 refine f_step rfl rfl rfl (o_appendQ el98 rfl rfl (Own.mk (b := b19) (cs := []) (len := 0) rfl (by omega)) (ys := u32s f) (rds_ro6 hC) (by rw [u32s_len, Nat.mul_one]) (u32s_one f) (by omega) (by omega) fun v21 m21 o21 => ?_)
 rw [Nat.zero_add, List.nil_append] at o21
 obtain ⟨Ao, co, rfl, hco⟩ := o21.val
 refine f_stepP rfl rfl rfl (o_assign rfl) ?_
 refine f_done ?_
 refine f_tn (kh2 _ _ ?_)
 clear kh2
 refine f_seq fun K3 kh3 => ?_
 refine f_region ?_
 refine f_stepP rfl rfl rfl (o_assign rfl) ?_
 refine f_done ?_
 refine f_tn (kh3 _ _ ?_)
 clear kh3
 refine f_seq fun K4 kh4 => ?_
 refine f_seq fun K5 kh5 => ?_
 refine f_region ?_
 refine f_stepP rfl rfl rfl (o_assign rfl) ?_
 refine f_done ?_
 refine f_tn (kh5 _ _ ?_)
 clear kh5
 refine f_block ?_
 refine f_loop (α := Nat × Int × List Int × Seg) [1, 2, 4, 5, 12] (fun ⟨r, mu, g, mo⟩ => [(14, .int .i64 (r : Int)), (13, .int .u32 mu)]) (fun ⟨r, mu, g, mo⟩ => [mo, [(b5, blk [.int .i64 (n : Int), .slice A l.length cap] 59)]]) (fun ⟨r, mu, g, mo⟩ => r ≤ 2 ∧ mu = (if r = 0 then 4294967295 else minL l f W) ∧ g = (if r = 2 then pushR f W (minL l f W) else f) ∧ Own 53 1 (.slice Ao f.length co) f.length (u32s g) mo) (fun ⟨r, mu, g, mo⟩ => 2 - r) (0, 4294967295, f, m21) ?_ ?_ ?_ ?_
 · exact (by repeat (first | exact trivial | refine ⟨rfl, ?_⟩))
 · repeat (first | exact Sub.nil | refine Sub.pick ?_ | refine Sub.castO rfl ?_ | refine Sub.skip ?_)
 · exact ⟨by omega, rfl, rfl, o21⟩
 ·
  rintro ⟨r, mu, g, mo⟩ ⟨hr2, hmu, hg, hO⟩
  refine f_seq fun K6 kh6 => ?_
  refine f_seq fun K7 kh7 => ?_
  refine f_region ?_
  refine f_stepP rfl rfl rfl (o_move rfl) ?_
  refine f_stepP rfl rfl rfl (o_lss rfl rfl) ?_
  refine f_done ?_
  refine f_tn (kh7 _ _ ?_)
  clear kh7
  refine f_cond rfl (fun c23 => ?_) (fun c23 => ?_)
  ·
   refine f_skip ?_
   refine f_tn (kh6 _ _ ?_)
   clear kh6
   refine f_seq fun K8 kh8 => ?_
   refine f_block ?_
   refine f_seq fun K9 kh9 => ?_
   refine f_region ?_
   refine f_stepP rfl rfl rfl (o_move rfl) ?_
   refine f_stepP rfl rfl rfl (o_assign rfl) ?_
   refine f_done ?_
   refine f_tn (kh9 _ _ ?_)
   clear kh9
   refine f_block ?_
   have hr1 : r = 0 ∨ r = 1 := by omega
   refine f_loop (α := Nat × Int × List Int × Seg) [1, 2, 4, 5, 12, 14] (fun ⟨p, mu2, g2, mo2⟩ => [(15, .int .i64 ((vtx l s W p : Nat) : Int)), (13, .int .u32 mu2)]) (fun ⟨p, mu2, g2, mo2⟩ => [mo2, [(b5, blk [.int .i64 (n : Int), .slice A l.length cap] 59)]]) (fun ⟨p, mu2, g2, mo2⟩ => p ≤ W.length ∧ mu2 = (if r = 0 then minL l f (W.drop p) else minL l f W) ∧ g2 = (if r = 1 then pushR f (W.drop p) (minL l f W) else f) ∧ Own 53 1 (.slice Ao f.length co) f.length (u32s g2) mo2) (fun ⟨p, mu2, g2, mo2⟩ => p) (W.length, mu, g, mo) ?_ ?_ ?_ ?_
   · dsimp only; rw [hwe]; exact (by repeat (first | exact trivial | refine ⟨rfl, ?_⟩))
   · repeat (first | exact Sub.nil | refine Sub.pick ?_ | refine Sub.castO rfl ?_ | refine Sub.skip ?_)
   · exact ⟨Nat.le_refl _, by
     rw [List.drop_length, hmu]; split <;> rfl, by
     rw [List.drop_length, hg, if_neg (by omega)]; split <;> rfl, hO⟩
   ·
    rintro ⟨p, mu2, g2, mo2⟩ ⟨hpW, hm2, hg2, hO2⟩
    refine f_envC (e := [(15, _), (13, _), (1, _), (2, _), (4, _), (5, _), (12, _), (14, _)]) (by repeat (first | exact trivial | refine ⟨rfl, ?_⟩)) ?_
    refine f_seq fun K10 kh10 => ?_
    refine f_seq fun K11 kh11 => ?_
    refine f_region ?_
    refine f_stepP rfl rfl rfl (o_move rfl) ?_
    refine f_stepP rfl rfl rfl (o_move rfl) ?_
    refine f_stepP rfl rfl rfl (o_neq rfl rfl) ?_
    refine f_done ?_
    refine f_tn (kh11 _ _ ?_)
    clear kh11
    refine f_cond rfl (fun c29 => ?_) (fun c29 => ?_)
    ·
     refine f_skip ?_
     refine f_tn (kh10 _ _ ?_)
     clear kh10
     refine f_block ?_
     refine f_seq fun K12 kh12 => ?_
     refine f_region ?_
     refine f_stepP rfl rfl rfl (o_move rfl) ?_
     refine f_stepP rfl rfl rfl (o_move rfl) ?_
     obtain ⟨q, rfl⟩ : ∃ q, p = q + 1 := by
       cases p with
       | zero => exact absurd rfl c29
       | succ q => exact ⟨q, rfl⟩
     obtain ⟨k, hdr, hk, hkl, hbk, hvk, hvf, hks, hpu, hmk⟩ := hp.at_ hf (q := q) (by omega)
     have hgk : flAt g2 (k / 2) = flAt f (k / 2) := by
       rw [hg2]; split
       · exact hpu _
       · rfl
     have hgl : g2.length = l.length := by have := hO2.1; rw [u32s_len] at this; omega
     have hi : k / 2 < l.length := by omega
     obtain ⟨bq, off, rfl, hS, hc⟩ := hr (flat_ne arcCs arcCs_len (by omega) hi)
     have hktn := kto_lt hn.net hk
     obtain ⟨bd, od, rfl, hSd, hcd⟩ := hD (by intro h; have := congrArg List.length h; rw [ints_length, hbl] at this; have h0 : n = 0 := this; omega)
     obtain ⟨bo, spo, rfl, rfl, hupd⟩ := hO2.upd (by omega)
     have hat := arcAt_eq hi
     have hrg := hf.rng (k / 2) hi
     have hwt := (hn.ok _ (List.getElem_mem hi)).wt
     have hgi := hn.good _ hi
     have hgf := hgk.symm
     rw [hat] at hrg
     refine f_stepP rfl rfl rfl (o_idx sl35 rfl rfl (od + kto l k) ⟨by omega, by omega, by first | omega | (simp; done) | (simp; omega)⟩) ?_
     refine f_stepP rfl rfl rfl (o_load Try.isAgg3 rfl (rdS hSd (v := .int .i64 ((k : Nat) : Int)) (hcd (kto l k) _ (by rw [ints_fl (by omega), hbk])))) ?_
     refine f_stepP rfl rfl rfl (o_quo rfl rfl (by decide) ((k / 2 : Nat) : Int) (by rw [show ((k : Nat) : Int).tdiv 2 = ((k / 2 : Nat) : Int) from rfl]; exact wrap_i64 (by omega))) ?_
     refine f_stepP rfl rfl rfl (o_assign rfl) ?_
     refine f_done ?_
     refine f_tn (kh12 _ _ ?_)
     clear kh12
     refine f_seq fun K13 kh13 => ?_
     refine f_region ?_
     refine f_stepP rfl rfl rfl (o_move rfl) ?_
     refine f_stepP rfl rfl rfl (o_move rfl) ?_
     refine f_stepP rfl rfl rfl (o_idx sl35 rfl rfl (od + kto l k) ⟨by omega, by omega, by first | omega | (simp; done) | (simp; omega)⟩) ?_
     refine f_stepP rfl rfl rfl (o_load Try.isAgg3 rfl (rdS hSd (v := .int .i64 ((k : Nat) : Int)) (hcd (kto l k) _ (by rw [ints_fl (by omega), hbk])))) ?_
     refine f_stepP rfl rfl rfl (o_rem rfl rfl (by decide) ((k % 2 : Nat) : Int) rfl) ?_
     refine f_stepP rfl rfl rfl (o_eql rfl rfl) ?_
     refine f_stepP rfl rfl rfl (o_assign rfl) ?_
     refine f_done ?_
     refine f_tn (kh13 _ _ ?_)
     clear kh13
     refine f_seq fun K14 kh14 => ?_
     refine f_regionT 11 rfl (by decide +kernel) ?_
     refine f_stillP rfl rfl rfl (o_field fa59_1 rfl) ?_
     refine f_stillP rfl rfl rfl (o_load Try.isAgg57 rfl (rdA rfl)) ?_
     refine f_stillP rfl rfl rfl (o_move rfl) ?_
     refine f_stillP rfl rfl rfl (o_idx sl57 rfl rfl (off + k / 2 * 3) ⟨by omega, by omega, by first | omega | (simp; done) | (simp; omega)⟩) ?_
     refine f_stillP rfl rfl rfl (o_field fa62_2 rfl) ?_
     refine f_stillP rfl rfl rfl (o_load Try.isAgg53 rfl (rdFld hS hc hi 2 rfl)) ?_
     refine f_stillP rfl rfl rfl (o_move rfl) ?_
     refine f_stillP rfl rfl rfl (o_move rfl) ?_
     refine f_stillP rfl rfl rfl (o_idx sl98 rfl rfl (k / 2) ⟨by omega, by omega, by first | omega | (simp; done) | (simp; omega)⟩) ?_
     refine f_stillP rfl rfl rfl (o_load Try.isAgg53 rfl (rdA (app_get (u32s_at (by omega))))) ?_
     refine f_stillP rfl rfl rfl (o_sub rfl rfl _ (wrap_u32 (by omega))) ?_
     refine f_stillD (f_tail ?_)
     refine f_stepP rfl rfl rfl (o_assign rfl) ?_
     refine f_done ?_
     refine f_tn (kh14 _ _ ?_)
     clear kh14
     refine f_seq fun K15 kh15 => ?_
     refine f_seq fun K16 kh16 => ?_
     refine f_region ?_
     refine f_stepP rfl rfl rfl (o_move rfl) ?_
     refine f_done ?_
     refine f_tn (kh16 _ _ ?_)
     clear kh16
     refine f_cond rfl (fun c52 => ?_) (fun c52 => ?_)
     ·
      refine f_region ?_
      have hk2 : k % 2 = 1 := by omega
      have hk1 : kleft l f k = flAt f (k / 2) := by unfold kleft; rw [if_neg (by omega)]
      refine f_stepP rfl rfl rfl (o_move rfl) ?_
      refine f_stepP rfl rfl rfl (o_move rfl) ?_
      refine f_stepP rfl rfl rfl (o_idx sl98 rfl rfl (k / 2) ⟨by omega, by omega, by first | omega | (simp; done) | (simp; omega)⟩) ?_
      refine f_stepP rfl rfl rfl (o_load Try.isAgg53 rfl (rdA (app_get (u32s_at (by omega))))) ?_
      refine f_stepP rfl rfl rfl (o_assign rfl) ?_
      refine f_done ?_
      refine f_tn (kh15 _ _ ?_)
      clear kh15
      refine f_seq fun K17 kh17 => ?_
      refine f_seq fun K18 kh18 => ?_
      refine f_region ?_
      skip
      refine f_stepP rfl rfl rfl (o_move rfl) ?_
      refine f_stepP rfl rfl rfl (o_eql rfl rfl) ?_
      refine f_done ?_
      refine f_tn (kh18 _ _ ?_)
      clear kh18
      refine f_cond rfl (fun c58 => ?_) (fun c58 => ?_)
      ·
       refine f_region ?_
       refine f_stepP rfl rfl rfl (o_move rfl) ?_
       refine f_stepP rfl rfl rfl (o_move rfl) ?_
       refine f_stepP rfl rfl rfl (o_min rfl rfl) ?_
       refine f_stepP rfl rfl rfl (o_assign rfl) ?_
       refine f_done ?_
       refine f_tn (kh17 _ _ ?_)
       clear kh17
       refine f_seq fun K19 kh19 => ?_
       refine f_region ?_
       refine f_stepP rfl rfl rfl (o_field fa59_1 rfl) ?_
       refine f_stepP rfl rfl rfl (o_load Try.isAgg57 rfl (rdA rfl)) ?_
       refine f_stepP rfl rfl rfl (o_move rfl) ?_
       refine f_stepP rfl rfl rfl (o_idx sl57 rfl rfl (off + k / 2 * 3) ⟨by omega, by omega, by first | omega | (simp; done) | (simp; omega)⟩) ?_
       refine f_stepP rfl rfl rfl (o_field fa62_0 rfl) ?_
       refine f_stepP rfl rfl rfl (o_load Try.isAgg3 rfl (rdFld hS hc hi 0 rfl)) ?_
       refine f_stepP rfl rfl rfl (o_assign rfl) ?_
       refine f_done ?_
       refine f_tn (kh19 _ _ ?_)
       clear kh19
       refine f_seq fun K20 kh20 => ?_
       refine f_region ?_
       refine f_stepP rfl rfl rfl (o_move rfl) ?_
       refine f_done ?_
       refine f_tn (kh20 _ _ ?_)
       clear kh20
       refine f_condY rfl (c52) ?_
       refine f_region ?_
       refine f_stepP rfl rfl rfl (o_field fa59_1 rfl) ?_
       refine f_stepP rfl rfl rfl (o_load Try.isAgg57 rfl (rdA rfl)) ?_
       refine f_stepP rfl rfl rfl (o_move rfl) ?_
       refine f_stepP rfl rfl rfl (o_idx sl57 rfl rfl (off + k / 2 * 3) ⟨by omega, by omega, by first | omega | (simp; done) | (simp; omega)⟩) ?_
       refine f_stepP rfl rfl rfl (o_field fa62_1 rfl) ?_
       refine f_stepP rfl rfl rfl (o_load Try.isAgg3 rfl (rdFld hS hc hi 1 (v := .int .i64 ((vtx l s W q : Nat) : Int)) (by rw [hvf, show ((kfrom l k : Nat) : Int) = l[k / 2].dst from by unfold kfrom; rw [if_neg (by omega), hat]; omega]; rfl))) ?_
       refine f_stepP rfl rfl rfl (o_assign rfl) ?_
       refine f_done ?_
       refine f_bn ?_
       refine f_tn (f_again (q, min mu2 (flAt g2 (k / 2)), g2, [(bo, blk (u32s g2 ++ spo) 53)]) (by first | omega | (dsimp only; omega) | (simp; omega)) ⟨by omega, by have hr0 : r = 0 := (by omega); rw [if_pos hr0] at hm2 ⊢; rw [hdr, hm2]; show min (minL l f (W.drop (q + 1))) _ = min _ (kleft l f k); rw [hk1, hgf], by have hr0 : r = 0 := (by omega); rw [if_neg (by omega)] at hg2 ⊢; exact hg2, hO2⟩ ?_ ?_ ?_)
       · exact (by repeat (first | exact trivial | refine ⟨rfl, ?_⟩))
       · exact (by repeat (first | exact trivial | refine ⟨rfl, ?_⟩))
       · repeat (first | exact Sub.nil | refine Sub.pick ?_ | refine Sub.castO rfl ?_ | refine Sub.skip ?_)
      ·
       refine f_seq fun K21 kh21 => ?_
       refine f_region ?_
       refine f_stepP rfl rfl rfl (o_move rfl) ?_
       refine f_done ?_
       refine f_tn (kh21 _ _ ?_)
       clear kh21
       refine f_condY rfl (c52) ?_
       refine f_region ?_
       refine f_stepP rfl rfl rfl (o_move rfl) ?_
       refine f_stepP rfl rfl rfl (o_move rfl) ?_
       refine f_stepP rfl rfl rfl (o_idx sl98 rfl rfl (k / 2) ⟨by omega, by omega, by first | omega | (simp; done) | (simp; omega)⟩) ?_
       refine f_stepP rfl rfl rfl (o_load Try.isAgg53 rfl (rdA (app_get (u32s_at (by omega))))) ?_
       refine f_stepP rfl rfl rfl (o_move rfl) ?_
       have hmu2 : mu2 = minL l f W := by rw [hm2, if_neg (by omega)]
       refine f_stepP rfl rfl rfl (o_sub rfl rfl _ (wrap_u32 (by omega))) ?_
       refine f_stepP rfl rfl rfl (o_idx sl98 rfl rfl (k / 2) ⟨by omega, by omega, by first | omega | (simp; done) | (simp; omega)⟩) ?_
       refine f_step0 rfl rfl (o_store Try.sizeOf53 rfl rfl rfl rfl (by rw [List.length_append, u32s_len]; omega) (u32s (fpush g2 k mu2) ++ spo) (by rw [u32s_put (f := []) (by omega)]; unfold fpush; rw [if_neg (by omega)]; rfl) ?_)
       refine f_done ?_
       refine f_tn (kh17 _ _ ?_)
       clear kh17
       refine f_seq fun K22 kh22 => ?_
       refine f_region ?_
       refine f_stepP rfl rfl rfl (o_field fa59_1 rfl) ?_
       refine f_stepP rfl rfl rfl (o_load Try.isAgg57 rfl (rdA rfl)) ?_
       refine f_stepP rfl rfl rfl (o_move rfl) ?_
       refine f_stepP rfl rfl rfl (o_idx sl57 rfl rfl (off + k / 2 * 3) ⟨by omega, by omega, by first | omega | (simp; done) | (simp; omega)⟩) ?_
       refine f_stepP rfl rfl rfl (o_field fa62_0 rfl) ?_
       refine f_stepP rfl rfl rfl (o_load Try.isAgg3 rfl (rdFld hS hc hi 0 rfl)) ?_
       refine f_stepP rfl rfl rfl (o_assign rfl) ?_
       refine f_done ?_
       refine f_tn (kh22 _ _ ?_)
       clear kh22
       refine f_seq fun K23 kh23 => ?_
       refine f_region ?_
       refine f_stepP rfl rfl rfl (o_move rfl) ?_
       refine f_done ?_
       refine f_tn (kh23 _ _ ?_)
       clear kh23
       refine f_condY rfl (c52) ?_
       refine f_region ?_
       refine f_stepP rfl rfl rfl (o_field fa59_1 rfl) ?_
       refine f_stepP rfl rfl rfl (o_load Try.isAgg57 rfl (rdA rfl)) ?_
       refine f_stepP rfl rfl rfl (o_move rfl) ?_
       refine f_stepP rfl rfl rfl (o_idx sl57 rfl rfl (off + k / 2 * 3) ⟨by omega, by omega, by first | omega | (simp; done) | (simp; omega)⟩) ?_
       refine f_stepP rfl rfl rfl (o_field fa62_1 rfl) ?_
       refine f_stepP rfl rfl rfl (o_load Try.isAgg3 rfl (rdFld hS hc hi 1 (v := .int .i64 ((vtx l s W q : Nat) : Int)) (by rw [hvf, show ((kfrom l k : Nat) : Int) = l[k / 2].dst from by unfold kfrom; rw [if_neg (by omega), hat]; omega]; rfl))) ?_
       refine f_stepP rfl rfl rfl (o_assign rfl) ?_
       refine f_done ?_
       refine f_bn ?_
       refine f_tn (f_again (q, mu2, fpush g2 k mu2, [(bo, blk (u32s (fpush g2 k mu2) ++ spo) 53)]) (by first | omega | (dsimp only; omega) | (simp; omega)) ⟨by omega, by rw [if_neg (by omega)] at hm2 ⊢; exact hm2, by have hr1 : r = 1 := (by omega); rw [if_pos hr1] at hg2 ⊢; rw [if_neg (by omega)] at hm2; rw [hdr, hm2, hg2]; rfl, hupd _ (by rw [u32s_len, u32s_len, fpush_len])⟩ ?_ ?_ ?_)
       · exact (by repeat (first | exact trivial | refine ⟨rfl, ?_⟩))
       · exact (by repeat (first | exact trivial | refine ⟨rfl, ?_⟩))
       · repeat (first | exact Sub.nil | refine Sub.pick ?_ | refine Sub.castO rfl ?_ | refine Sub.skip ?_)
     ·
      refine f_skip ?_
      refine f_tn (kh15 _ _ ?_)
      clear kh15
      refine f_seq fun K24 kh24 => ?_
      refine f_seq fun K25 kh25 => ?_
      refine f_region ?_
      have hk2 : k % 2 = 0 := by omega
      have hk0 : kleft l f k = l[k / 2].wt - flAt f (k / 2) := by unfold kleft; rw [if_pos hk2, hat]
      refine f_stepP rfl rfl rfl (o_move rfl) ?_
      refine f_stepP rfl rfl rfl (o_eql rfl rfl) ?_
      refine f_done ?_
      refine f_tn (kh25 _ _ ?_)
      clear kh25
      refine f_cond rfl (fun c58 => ?_) (fun c58 => ?_)
      ·
       refine f_region ?_
       refine f_stepP rfl rfl rfl (o_move rfl) ?_
       refine f_stepP rfl rfl rfl (o_move rfl) ?_
       refine f_stepP rfl rfl rfl (o_min rfl rfl) ?_
       refine f_stepP rfl rfl rfl (o_assign rfl) ?_
       refine f_done ?_
       refine f_tn (kh24 _ _ ?_)
       clear kh24
       refine f_seq fun K26 kh26 => ?_
       refine f_region ?_
       refine f_stepP rfl rfl rfl (o_field fa59_1 rfl) ?_
       refine f_stepP rfl rfl rfl (o_load Try.isAgg57 rfl (rdA rfl)) ?_
       refine f_stepP rfl rfl rfl (o_move rfl) ?_
       refine f_stepP rfl rfl rfl (o_idx sl57 rfl rfl (off + k / 2 * 3) ⟨by omega, by omega, by first | omega | (simp; done) | (simp; omega)⟩) ?_
       refine f_stepP rfl rfl rfl (o_field fa62_0 rfl) ?_
       refine f_stepP rfl rfl rfl (o_load Try.isAgg3 rfl (rdFld hS hc hi 0 (v := .int .i64 ((vtx l s W q : Nat) : Int)) (by rw [hvf, show ((kfrom l k : Nat) : Int) = l[k / 2].src from by unfold kfrom; rw [if_pos hk2, hat]; omega]; rfl))) ?_
       refine f_stepP rfl rfl rfl (o_assign rfl) ?_
       refine f_done ?_
       refine f_tn (kh26 _ _ ?_)
       clear kh26
       refine f_seq fun K27 kh27 => ?_
       refine f_region ?_
       refine f_stepP rfl rfl rfl (o_move rfl) ?_
       refine f_done ?_
       refine f_tn (kh27 _ _ ?_)
       clear kh27
       refine f_condN rfl (c52) ?_
       refine f_skip ?_
       refine f_bn ?_
       refine f_tn (f_again (q, min mu2 (l[k / 2].wt - flAt g2 (k / 2)), g2, [(bo, blk (u32s g2 ++ spo) 53)]) (by first | omega | (dsimp only; omega) | (simp; omega)) ⟨by omega, by have hr0 : r = 0 := (by omega); rw [if_pos hr0] at hm2 ⊢; rw [hdr, hm2]; show min (minL l f (W.drop (q + 1))) _ = min _ (kleft l f k); rw [hk0, hgf], by have hr0 : r = 0 := (by omega); rw [if_neg (by omega)] at hg2 ⊢; exact hg2, hO2⟩ ?_ ?_ ?_)
       · exact (by repeat (first | exact trivial | refine ⟨rfl, ?_⟩))
       · exact (by repeat (first | exact trivial | refine ⟨rfl, ?_⟩))
       · repeat (first | exact Sub.nil | refine Sub.pick ?_ | refine Sub.castO rfl ?_ | refine Sub.skip ?_)
      ·
       refine f_seq fun K28 kh28 => ?_
       refine f_region ?_
       refine f_stepP rfl rfl rfl (o_move rfl) ?_
       refine f_done ?_
       refine f_tn (kh28 _ _ ?_)
       clear kh28
       refine f_condN rfl (c52) ?_
       refine f_region ?_
       refine f_stepP rfl rfl rfl (o_move rfl) ?_
       refine f_stepP rfl rfl rfl (o_move rfl) ?_
       refine f_stepP rfl rfl rfl (o_idx sl98 rfl rfl (k / 2) ⟨by omega, by omega, by first | omega | (simp; done) | (simp; omega)⟩) ?_
       refine f_stepP rfl rfl rfl (o_load Try.isAgg53 rfl (rdA (app_get (u32s_at (by omega))))) ?_
       refine f_stepP rfl rfl rfl (o_move rfl) ?_
       have hmu2 : mu2 = minL l f W := by rw [hm2, if_neg (by omega)]
       refine f_stepP rfl rfl rfl (o_add rfl rfl _ (wrap_u32 (by omega))) ?_
       refine f_stepP rfl rfl rfl (o_idx sl98 rfl rfl (k / 2) ⟨by omega, by omega, by first | omega | (simp; done) | (simp; omega)⟩) ?_
       refine f_step0 rfl rfl (o_store Try.sizeOf53 rfl rfl rfl rfl (by rw [List.length_append, u32s_len]; omega) (u32s (fpush g2 k mu2) ++ spo) (by rw [u32s_put (f := []) (by omega)]; unfold fpush; rw [if_pos hk2]) ?_)
       refine f_done ?_
       refine f_tn (kh24 _ _ ?_)
       clear kh24
       refine f_seq fun K29 kh29 => ?_
       refine f_region ?_
       refine f_stepP rfl rfl rfl (o_field fa59_1 rfl) ?_
       refine f_stepP rfl rfl rfl (o_load Try.isAgg57 rfl (rdA rfl)) ?_
       refine f_stepP rfl rfl rfl (o_move rfl) ?_
       refine f_stepP rfl rfl rfl (o_idx sl57 rfl rfl (off + k / 2 * 3) ⟨by omega, by omega, by first | omega | (simp; done) | (simp; omega)⟩) ?_
       refine f_stepP rfl rfl rfl (o_field fa62_0 rfl) ?_
       refine f_stepP rfl rfl rfl (o_load Try.isAgg3 rfl (rdFld hS hc hi 0 (v := .int .i64 ((vtx l s W q : Nat) : Int)) (by rw [hvf, show ((kfrom l k : Nat) : Int) = l[k / 2].src from by unfold kfrom; rw [if_pos hk2, hat]; omega]; rfl))) ?_
       refine f_stepP rfl rfl rfl (o_assign rfl) ?_
       refine f_done ?_
       refine f_tn (kh29 _ _ ?_)
       clear kh29
       refine f_seq fun K30 kh30 => ?_
       refine f_region ?_
       refine f_stepP rfl rfl rfl (o_move rfl) ?_
       refine f_done ?_
       refine f_tn (kh30 _ _ ?_)
       clear kh30
       refine f_condN rfl (c52) ?_
       refine f_skip ?_
       refine f_bn ?_
       refine f_tn (f_again (q, mu2, fpush g2 k mu2, [(bo, blk (u32s (fpush g2 k mu2) ++ spo) 53)]) (by first | omega | (dsimp only; omega) | (simp; omega)) ⟨by omega, by rw [if_neg (by omega)] at hm2 ⊢; exact hm2, by have hr1 : r = 1 := (by omega); rw [if_pos hr1] at hg2 ⊢; rw [if_neg (by omega)] at hm2; rw [hdr, hm2, hg2]; rfl, hupd _ (by rw [u32s_len, u32s_len, fpush_len])⟩ ?_ ?_ ?_)
       · exact (by repeat (first | exact trivial | refine ⟨rfl, ?_⟩))
       · exact (by repeat (first | exact trivial | refine ⟨rfl, ?_⟩))
       · repeat (first | exact Sub.nil | refine Sub.pick ?_ | refine Sub.castO rfl ?_ | refine Sub.skip ?_)
    ·
     have hp0 : p = 0 := by
       cases p with
       | zero => rfl
       | succ q =>
         obtain ⟨k, _, _, _, _, hvk, _, hks, _⟩ := hp.at_ hf (q := q) (by omega)
         exact absurd (by omega) hks
     refine f_exit ?_
     refine f_te ?_
     clear kh10
     refine f_te ?_
     refine f_be ?_
     refine f_bn ?_
     refine f_tn (kh8 _ _ ?_)
     clear kh8
     refine f_region ?_
     refine f_stepP rfl rfl rfl (o_move rfl) ?_
     refine f_stepP rfl rfl rfl (o_add rfl rfl _ (wrap_i64 (by omega))) ?_
     refine f_stepP rfl rfl rfl (o_assign rfl) ?_
     refine f_done ?_
     refine f_tn (f_again (r + 1, mu2, g2, mo2) (by first | omega | (dsimp only; omega) | (simp; omega)) ⟨by omega, by
       rw [if_neg (by omega)]
       obtain rfl : p = 0 := by omega
       rw [List.drop_zero] at hm2; rw [hm2]; split <;> rfl, by
       obtain rfl : p = 0 := by omega
       rw [List.drop_zero] at hg2
       by_cases h1 : r = 1
       · rw [if_pos h1] at hg2; rw [if_pos (by omega)]; exact hg2
       · rw [if_neg h1] at hg2; rw [if_neg (by omega)]; exact hg2, hO2⟩ ?_ ?_ ?_)
     · exact (by repeat (first | exact trivial | refine ⟨rfl, ?_⟩))
     · exact (by repeat (first | exact trivial | refine ⟨rfl, ?_⟩))
     · repeat (first | exact Sub.nil | refine Sub.pick ?_ | refine Sub.castO rfl ?_ | refine Sub.skip ?_)
  ·
   refine f_exit ?_
   refine f_te ?_
   clear kh6
   refine f_te ?_
   refine f_be ?_
   refine f_tn (kh4 _ _ ?_)
   clear kh4
   refine f_seq fun K31 kh31 => ?_
   refine f_region ?_
   refine f_stepP rfl rfl rfl (o_move rfl) ?_
   refine f_stepP rfl rfl rfl (o_move rfl) ?_
   refine f_stepP rfl rfl rfl (o_assign rfl) ?_
   refine f_stepP rfl rfl rfl (o_assign rfl) ?_
   refine f_done ?_
   refine f_tn (kh31 _ _ ?_)
   clear kh31
   refine f_ret ?_
   obtain rfl : r = 2 := by omega
   rw [if_pos rfl] at hg
   rw [if_neg (by omega)] at hmu
   subst hg hmu
   exact f_fin2 [mo] Try.results76 rfl rfl (by repeat (first | exact Sub.nil | refine Sub.pick ?_ | refine Sub.castO rfl ?_)) ⟨_, mo, rfl, rfl, hO⟩

set_option maxRecDepth 100000 in
set_option maxHeartbeats 4000000 in
theorem Most_spec (n : Nat) (A : Option Addr) (l : List Arc) (cap : Nat) (s t : Nat) (w : World) (hr : Ro (Fr w []) w A (l.flatMap arcCs)) (hn : NOk n l) (hs : s < n) (ht : t < n) (hst : s ≠ t) :
    Meets Try.prog 58 [.agg #[.int .i64 (n : Int), .slice A l.length cap], .int .i64 (s : Int), .int .i64 (t : Int)] w [] (MostΦ n l s t) := by
 have hn1 := hn.n1
 have hel := hn.len
 have hcs : capSum l ≤ 70368744161280 := by have := capSum_le 4294967295 l fun x hx => (hn.ok x hx).wt.2; omega
 refine f_enter Try.func58 rfl Try.ntmps58 rfl Owns.nil ?_
 refine f_seq fun K1 kh1 => ?_
 refine f_region ?_
 refine f_step rfl rfl rfl (o_box rfl rfl fun b3 => ?_)
 refine f_stepP rfl rfl rfl (o_assign rfl) ?_
 refine f_stepP rfl rfl rfl (o_assign rfl) ?_
 refine f_stepP rfl rfl rfl (o_assign rfl) ?_
 refine f_done ?_
 refine f_tn (kh1 _ _ ?_)
 clear kh1
 refine f_seq fun K2 kh2 => ?_
 refine f_region ?_
 refine f_stepP rfl rfl rfl (o_field fa59_1 rfl) ?_
 refine f_stepP rfl rfl rfl (o_load Try.isAgg57 rfl (rdA rfl)) ?_
 refine f_stepP rfl rfl rfl (o_len sl57 rfl) ?_
 refine f_step rfl rfl rfl (o_make el98 rfl rfl l.length rfl (by omega) (by omega) (u32s (List.replicate l.length 0)) (u32s0 _) fun b18 => ?_)
 refine f_stepP rfl rfl rfl (o_assign rfl) ?_
 refine f_done ?_
 refine f_tn (kh2 _ _ ?_)
 clear kh2
 refine f_seq fun K3 kh3 => ?_
 refine f_region ?_
 refine f_stepP rfl rfl rfl (o_assign rfl) ?_
 refine f_done ?_
 refine f_tn (kh3 _ _ ?_)
 clear kh3
 refine f_block ?_
 refine f_loop (α := Int × List Int × Value × Seg) [1, 2, 3] (fun ⟨V, f, fv, fm⟩ => [(10, .int .u64 V), (9, fv)]) (fun ⟨V, f, fv, fm⟩ => [fm, [(b3, blk [.int .i64 (n : Int), .slice A l.length cap] 59)]]) (fun ⟨V, f, fv, fm⟩ => Flow n l s t f V ∧ 0 ≤ V ∧ Own 53 1 fv f.length (u32s f) fm) (fun ⟨V, f, fv, fm⟩ => (capSum l - V).toNat) (0, List.replicate l.length 0, .slice (some ⟨b18, 0, none⟩) l.length l.length, [(b18, blk (u32s (List.replicate l.length 0)) 53)]) ?_ ?_ ?_ ?_
 · exact (by repeat (first | exact trivial | refine ⟨rfl, ?_⟩))
 · repeat (first | exact Sub.nil | refine Sub.pick ?_ | refine Sub.castO rfl ?_ | refine Sub.skip ?_)
 · exact ⟨Flow.zero fun x hx => (hn.ok x hx).wt.1, Int.le_refl _, own_u32 (by simp) hel⟩
 ·
  rintro ⟨V, f, fv, fm⟩ ⟨hF, hV, hO⟩
  obtain ⟨C, cc, rfl, hcc⟩ := hO.val
  have hVb := hF.val_le hs hst
  refine f_block ?_
  refine f_seq fun K4 kh4 => ?_
  refine f_region ?_
  refine f_stepP rfl rfl rfl (o_loadA (vs := [_, _]) Try.isAgg59 Try.sizeOf59 rfl rfl ⟨(rdA rfl), (rdA rfl), trivial⟩) ?_
  refine f_stepP rfl rfl rfl (o_move rfl) ?_
  refine f_stepP rfl rfl rfl (o_move rfl) ?_
  refine f_step rfl rfl rfl (o_call Try.call75 rfl (fun w_ hp_ => reached_spec n A l cap s C f cc w_ (hr.up0 hp_) hn hs (seen_ro (hO.seen hp_)) hF.fits) ?_)
  rintro _ _ ⟨b1, b2, sd, by_, q, rfl, rfl, hR⟩
  have hsl := hR.ls
  dsimp only [List.cons_append, List.nil_append]
  refine f_stepP rfl rfl rfl (o_move rfl) ?_
  refine f_stepP rfl rfl rfl (o_extract rfl rfl) ?_
  refine f_stepP rfl rfl rfl (o_extract rfl rfl) ?_
  refine f_stepP rfl rfl rfl (o_assign rfl) ?_
  refine f_stepP rfl rfl rfl (o_assign rfl) ?_
  refine f_done ?_
  refine f_tn (kh4 _ _ ?_)
  clear kh4
  refine f_seq fun K5 kh5 => ?_
  refine f_seq fun K6 kh6 => ?_
  refine f_region ?_
  refine f_stepP rfl rfl rfl (o_move rfl) ?_
  refine f_stepP rfl rfl rfl (o_move rfl) ?_
  refine f_stepP rfl rfl rfl (o_idx sl42 rfl rfl (t) ⟨by omega, by omega, by first | omega | (simp; done) | (simp; omega)⟩) ?_
  refine f_stepP rfl rfl rfl (o_load Try.isAgg4 rfl (rdA (bools_at (by omega)))) ?_
  refine f_stepP rfl rfl rfl (o_not rfl) ?_
  refine f_done ?_
  refine f_tn (kh6 _ _ ?_)
  clear kh6
  refine f_condB rfl (fun c30 => ?_) (fun c30 => ?_)
  ·
   refine f_seq fun K7 kh7 => ?_
   refine f_region ?_
   refine f_stepP rfl rfl rfl (o_move rfl) ?_
   refine f_stepP rfl rfl rfl (o_move rfl) ?_
   refine f_stepP rfl rfl rfl (o_move rfl) ?_
   refine f_stepP rfl rfl rfl (o_assign rfl) ?_
   refine f_stepP rfl rfl rfl (o_assign rfl) ?_
   refine f_stepP rfl rfl rfl (o_assign rfl) ?_
   refine f_done ?_
   refine f_tn (kh7 _ _ ?_)
   clear kh7
   refine f_ret ?_
   refine f_tr ?_
   refine f_br ?_
   refine f_tr ?_
   refine f_br ?_
   exact f_fin3 [fm, [(b1, blk (sd.map .bool) 4)]] Try.results58 rfl rfl rfl (by repeat (first | exact Sub.nil | refine Sub.pick ?_ | refine Sub.castO rfl ?_)) ⟨V, f, _, sd, fm, b1, rfl, rfl, hO, hF, hR.side hn.net (by simpa using c30), hsl, hV, by omega⟩
  ·
   obtain ⟨W, hW⟩ := hR.path hn.net ht (by simpa using c30)
   refine f_skip ?_
   refine f_tn (kh5 _ _ ?_)
   clear kh5
   refine f_seq fun K8 kh8 => ?_
   refine f_region ?_
   refine f_stepP rfl rfl rfl (o_loadA (vs := [_, _]) Try.isAgg59 Try.sizeOf59 rfl rfl ⟨(rdA rfl), (rdA rfl), trivial⟩) ?_
   refine f_stepP rfl rfl rfl (o_move rfl) ?_
   refine f_stepP rfl rfl rfl (o_move rfl) ?_
   refine f_stepP rfl rfl rfl (o_move rfl) ?_
   refine f_stepP rfl rfl rfl (o_move rfl) ?_
   refine f_step rfl rfl rfl (o_call Try.call76 rfl (fun w_ hp_ => push_spec n A l cap s t C f cc (some ⟨b2, 0, none⟩) by_ n n W w_ (hr.up0 hp_) hn (seen_ro (hO.seen hp_)) hF.fits (roOwn (b := b2) hp_ (fun j v hj => hj)) rfl hR.lb hW ht) ?_)
   rintro _ _ ⟨v40, m40, rfl, rfl, hO2⟩
   have hF2 := hF.pushR hW
   have hVb2 := hF2.val_le hs hst
   have hm2 := minL_pos fun k hk => (hW.good k hk).2.1
   dsimp only [List.cons_append, List.nil_append]
   refine f_stepP rfl rfl rfl (o_move rfl) ?_
   refine f_stepP rfl rfl rfl (o_extract rfl rfl) ?_
   refine f_stepP rfl rfl rfl (o_extract rfl rfl) ?_
   refine f_stepP rfl rfl rfl (o_assign rfl) ?_
   refine f_stepP rfl rfl rfl (o_assign rfl) ?_
   refine f_done ?_
   refine f_tn (kh8 _ _ ?_)
   clear kh8
   refine f_seq fun K9 kh9 => ?_
   refine f_region ?_
   refine f_stepP rfl rfl rfl (o_move rfl) ?_
   refine f_stepP rfl rfl rfl (o_assign rfl) ?_
   refine f_done ?_
   refine f_tn (kh9 _ _ ?_)
   clear kh9
   refine f_region ?_
   refine f_stepP rfl rfl rfl (o_move rfl) ?_
   refine f_stepP rfl rfl rfl (o_move rfl) ?_
   refine f_stepP rfl rfl rfl (o_conv Try.runUnderlying53 Try.runUnderlying63 rfl _ (wrap_u64 (by omega))) ?_
   refine f_stepP rfl rfl rfl (o_add rfl rfl _ (wrap_u64 (by omega))) ?_
   refine f_stepP rfl rfl rfl (o_assign rfl) ?_
   refine f_done ?_
   refine f_bn ?_
   refine f_tn (f_again (V + minL l f W, pushR f W (minL l f W), v40, m40) (by show (capSum l - (V + minL l f W)).toNat < (capSum l - V).toNat; omega) ⟨hF2, by omega, by rw [pushR_len]; exact hO2⟩ ?_ ?_ ?_)
   · exact (by repeat (first | exact trivial | refine ⟨rfl, ?_⟩))
   · exact (by repeat (first | exact trivial | refine ⟨rfl, ?_⟩))
   · repeat (first | exact Sub.nil | refine Sub.pick ?_ | refine Sub.castO rfl ?_ | refine Sub.skip ?_)

end Go.Proofs.Ytbjiejhdgkpjcaa
