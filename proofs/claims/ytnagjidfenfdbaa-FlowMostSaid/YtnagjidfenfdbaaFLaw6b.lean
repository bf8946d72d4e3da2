/- flyoverlaw06: FlowFewer, FlowTurns. -/
import Derived.Test.YtnagjidfenfdbaaFLaw6
namespace Go.Proofs.Ytnagjidfenfdbaa
open Go Go.RowKit Fly
set_option linter.unusedVariables false
set_option linter.unusedSimpArgs false


theorem getD_set (l : List Bool) (i : Nat) (b : Bool) (v : Nat) (h : i < l.length) : (l.set i b).getD v false = if i = v then b else l.getD v false := by
  rw [List.getD_eq_getElem?_getD, List.getElem?_set]
  by_cases e : i = v
  · rw [if_pos e, if_pos h, if_pos e]; rfl
  · rw [if_neg e, if_neg e, ← List.getD_eq_getElem?_getD]
theorem set_back (l : List Bool) (i : Nat) (b : Bool) : ((l.set i b).map Value.bool).set i (.bool (l.getD i false)) = l.map .bool := by
  rw [bools_set, List.set_set]
  congr 1
  refine List.ext_getElem (by simp) fun j h1 h2 => ?_
  rw [List.getElem_set]
  split
  · rename_i e; subst e; simp [List.getD_eq_getElem?_getD, h2]
  · rfl
theorem set_front {l : List Bool} {i : Nat} {b : Bool} {sp : List Value} (h : i < l.length) : (l.map Value.bool ++ sp).set i (.bool b) = (l.set i b).map .bool ++ sp := by
  rw [List.set_append_left _ _ (by simpa using h), bools_set]
theorem set_back2 {l : List Bool} {i : Nat} {b : Bool} {sp : List Value} (h : i < l.length) : ((l.set i b).map Value.bool ++ sp).set i (.bool (l.getD i false)) = l.map .bool ++ sp := by
  rw [List.set_append_left _ _ (by simpa using h), set_back]
/-- A side with one node moved. -/
theorem fewer {n : Nat} {e : List Arc} {s t : Nat} {f : List Int} {V : Int} {sd : List Bool} {v : Nat} (he : NetOk n e) (hs : s < n) (ht : t < n) (hf : Flow n e s t f V) (hA : Side n e s t f (fun v => sd.getD v false)) (hsl : sd.length = n) (hv : v < n) (h1 : v ≠ s) (h2 : v ≠ t) :
    V ≤ capA (fun u => (sd.set v (!sd.getD v false)).getD u false) e ∧ (sd.getD v false = true → V < capA (fun u => (sd.set v (!sd.getD v false)).getD u false) e) := by
  have G : ∀ u, (sd.set v (!sd.getD v false)).getD u false = if v = u then !sd.getD v false else sd.getD u false := fun u => getD_set sd v _ u (by omega)
  have bs : (sd.set v (!sd.getD v false)).getD s false = true := by rw [G, if_neg h1]; exact hA.src
  have bt : (sd.set v (!sd.getD v false)).getD t false = false := by rw [G, if_neg h2]; exact hA.dst
  refine ⟨hf.le_cut he (A := fun u => (sd.set v (!sd.getD v false)).getD u false) hs bs bt, fun h => hA.least he hs hf (B := fun u => (sd.set v (!sd.getD v false)).getD u false) bs bt hv h (by rw [G, if_pos rfl, h]; rfl)⟩
theorem bad_turn (N : Int) (x : Arc) : arcBad N (turnA x) = arcBad N x := by
  unfold arcBad turnA
  exact decide_eq_decide.2 (by simp only; omega)
theorem ncheck_turn (N : Int) (l : List Arc) : ncheck N (l.map turnA) = ncheck N l := by
  unfold ncheck
  rw [List.length_map, List.findIdx?_map]
  have : (arcBad N ∘ turnA) = arcBad N := by funext x; exact bad_turn N x
  rw [this]
theorem flooked_turn (N : Int) (l : List Arc) (s t : Int) : flooked N (l.map turnA) t s = flooked N l s t := by
  unfold flooked
  rw [ncheck_turn]
  split
  · rfl
  · by_cases h : s < 0 ∨ N ≤ s ∨ t < 0 ∨ N ≤ t
    · rw [if_pos h, if_pos (by omega)]
    · rw [if_neg h, if_neg (by omega)]
      by_cases h2 : s = t
      · rw [if_pos h2, if_pos h2.symm]
      · rw [if_neg h2, if_neg fun e => h2 e.symm]
theorem turn_ok {l : List Arc} (h : ∀ x ∈ l, ArcOk x) : ∀ x ∈ l.map turnA, ArcOk x := fun x hx => by
  obtain ⟨y, hy, rfl⟩ := List.mem_map.1 hx
  exact ⟨(h y hy).dst, (h y hy).src, (h y hy).wt⟩
theorem turn_next {l : List Arc} {i : Nat} (hi : i < l.length) : ((l.take (i + 1)).map turnA).flatMap arcCs = ((l.take i).map turnA).flatMap arcCs ++ [.int .i64 l[i].dst, .int .i64 l[i].src, .int .u32 l[i].wt] := by
  rw [List.take_succ_eq_append_getElem hi, List.map_append, List.flatMap_append]; rfl

set_option maxRecDepth 100000 in
set_option maxHeartbeats 4000000 in
theorem FlowFewer_spec (N : Int) (A : Option Addr) (l : List Arc) (cap : Nat) (s t : Int) (w : World) (hr : Ro (Fr w []) w A (l.flatMap arcCs)) (hl : l.length ≤ 9223372036854775807) (hN : I64 N) (hok : ∀ x ∈ l, ArcOk x) :
    Meets Try.prog 6 [.agg #[.int .i64 N, .slice A l.length cap], .int .i64 s, .int .i64 t] w [] (fun u m => u = .bool true ∧ m = []) := by
  refine f_enter Try.func6 rfl Try.ntmps6 rfl Owns.nil ?_
  refine f_seq fun K1 kh1 => ?_
  refine f_region ?_
  refine f_step rfl rfl rfl (o_box rfl rfl fun b3 => ?_)
  refine f_stepP rfl rfl rfl (o_assign rfl) ?_
  refine f_done ?_
  refine f_tn (kh1 _ _ ?_)
  clear kh1
  refine f_seq fun K2 kh2 => ?_
  refine f_seq fun K3 kh3 => ?_
  refine f_region ?_
  refine f_step rfl rfl rfl (o_call Try.call10 rfl (fun w_ hp_ => works6_spec w_) ?_)
  rintro _ _ ⟨rfl, rfl⟩
  dsimp only [List.cons_append, List.nil_append]
  refine f_stepP rfl rfl rfl (o_not rfl) ?_
  refine f_done ?_
  refine f_tn (kh3 _ _ ?_)
  clear kh3
  refine f_condF rfl ?_
  refine f_skip ?_
  refine f_tn (kh2 _ _ ?_)
  clear kh2
  refine f_seq fun K4 kh4 => ?_
  refine f_seq fun K5 kh5 => ?_
  refine f_region ?_
  refine f_stepP rfl rfl rfl (o_loadA (vs := [_, _]) Try.isAgg24 Try.sizeOf24 rfl rfl ⟨(rdA rfl), (rdA rfl), trivial⟩) ?_
  refine f_step rfl rfl rfl (o_call Try.call9 rfl (fun w_ hp_ => large6_spec N A l.length cap w_) ?_)
  rintro _ _ ⟨rfl, rfl⟩
  dsimp only [List.cons_append, List.nil_append]
  refine f_stepP rfl rfl rfl (o_move rfl) ?_
  refine f_splitL 20 rfl (fun g20 => ?_) (fun g20 => ?_)
  · skip
    refine f_stepN rfl rfl rfl rfl rfl rfl ?_
    refine f_stepN rfl rfl rfl rfl rfl rfl ?_
    refine f_stepN rfl rfl rfl rfl rfl rfl ?_
    refine f_stepP rfl rfl rfl (o_pickT rfl rfl) ?_
    refine f_done ?_
    refine f_tn (kh5 _ _ ?_)
    clear kh5
    refine f_condT rfl ?_
    refine f_seq fun K6 kh6 => ?_
    refine f_region ?_
    refine f_stepP rfl rfl rfl (o_assign rfl) ?_
    refine f_done ?_
    refine f_tn (kh6 _ _ ?_)
    clear kh6
    refine f_ret ?_
    refine f_tr ?_
    exact f_fin1 [] Try.results6 rfl Sub.nil ⟨rfl, rfl⟩
  · skip
    refine f_stepPY rfl rfl rfl rfl rfl (o_field fa24_0 rfl) ?_
    refine f_stepPY rfl rfl rfl rfl rfl (o_load Try.isAgg3 rfl (rdA rfl)) ?_
    refine f_stepPY rfl rfl rfl rfl rfl (o_gtr rfl rfl) ?_
    refine f_stepP rfl rfl rfl (o_pickF rfl rfl) ?_
    refine f_done ?_
    refine f_tn (kh5 _ _ ?_)
    clear kh5
    refine f_cond rfl (fun c24 => ?_) (fun c24 => ?_)
    · skip
      refine f_seq fun K7 kh7 => ?_
      refine f_region ?_
      refine f_stepP rfl rfl rfl (o_assign rfl) ?_
      refine f_done ?_
      refine f_tn (kh7 _ _ ?_)
      clear kh7
      refine f_ret ?_
      refine f_tr ?_
      exact f_fin1 [] Try.results6 rfl Sub.nil ⟨rfl, rfl⟩
    · skip
      refine f_skip ?_
      refine f_tn (kh4 _ _ ?_)
      clear kh4
      refine f_seq fun K8 kh8 => ?_
      refine f_region ?_
      refine f_stepP rfl rfl rfl (o_loadA (vs := [_, _]) Try.isAgg24 Try.sizeOf24 rfl rfl ⟨(rdA rfl), (rdA rfl), trivial⟩) ?_
      refine f_stepP rfl rfl rfl (o_move rfl) ?_
      refine f_stepP rfl rfl rfl (o_move rfl) ?_
      refine f_step rfl rfl rfl (o_call Try.call14 rfl (fun w_ hp_ => Cut_spec N A l cap s t w_ (hr.up0 hp_) hl hN hok) ?_)
      rintro _ _ ⟨V2, v10, m10, sd, A11, c11, m11, W, rfl, rfl, hoS, hoW, hy1, hy0⟩
      obtain ⟨A10, c10, rfl, hc10⟩ := hoS.val
      dsimp only [List.cons_append, List.nil_append]
      refine f_stepP rfl rfl rfl (o_move rfl) ?_
      refine f_stepP rfl rfl rfl (o_extract rfl rfl) ?_
      refine f_stepP rfl rfl rfl (o_extract rfl rfl) ?_
      refine f_stepP rfl rfl rfl (o_extract rfl rfl) ?_
      refine f_stepP rfl rfl rfl (o_extract rfl rfl) ?_
      refine f_stepP rfl rfl rfl (o_assign rfl) ?_
      refine f_stepP rfl rfl rfl (o_assign rfl) ?_
      refine f_stepP rfl rfl rfl (o_assign rfl) ?_
      refine f_stepP rfl rfl rfl (o_assign rfl) ?_
      refine f_done ?_
      refine f_tn (kh8 _ _ ?_)
      clear kh8
      refine f_seq fun K9 kh9 => ?_
      refine f_seq fun K10 kh10 => ?_
      refine f_region ?_
      refine f_stepP rfl rfl rfl (o_move rfl) ?_
      refine f_stepP rfl rfl rfl (o_neq rfl rfl) ?_
      refine f_done ?_
      refine f_tn (kh10 _ _ ?_)
      clear kh10
      refine f_cond rfl (fun c35 => ?_) (fun c35 => ?_)
      · skip
        obtain ⟨rfl, rfl, rfl⟩ := hy1 c35
        refine f_seq fun K11 kh11 => ?_
        refine f_region ?_
        refine f_stepP rfl rfl rfl (o_move rfl) ?_
        refine f_stepP rfl rfl rfl (o_eql rfl rfl) ?_
        refine f_stepP rfl rfl rfl (o_assign rfl) ?_
        refine f_done ?_
        refine f_tn (kh11 _ _ ?_)
        clear kh11
        refine f_ret ?_
        refine f_tr ?_
        exact f_fin1 [] Try.results6 rfl Sub.nil ⟨rfl, rfl⟩
      · skip
        have hz : flooked N l s t = 0 := by simpa using c35
        obtain ⟨hg0, hs0, hs1, ht0, ht1, hst0⟩ := flooked_zero hz
        have hN1 := ncheck_zero hg0
        obtain ⟨n, rfl⟩ : ∃ n : Nat, N = n := ⟨N.toNat, by omega⟩
        obtain ⟨a, rfl⟩ : ∃ k : Nat, s = k := ⟨s.toNat, by omega⟩
        obtain ⟨b, rfl⟩ : ∃ k : Nat, t = k := ⟨t.toNat, by omega⟩
        have hn := nok_of hg0 hok
        have hn1 := hn.n1
        have hel := hn.len
        have han : a < n := by omega
        have hbn : b < n := by omega
        have hwts : ∀ x ∈ l, 0 ≤ x.wt ∧ x.wt ≤ 4294967295 := fun x hx => (hok x hx).wt
        obtain ⟨hsl, rfl, ⟨f, hF, hA⟩, hV0, hV1⟩ := hy0 hz
        rw [Int.toNat_natCast, Int.toNat_natCast, Int.toNat_natCast] at hF hA
        rw [Int.toNat_natCast] at hsl
        obtain ⟨bS, spS, rfl, rfl⟩ := hoS.at_ (by omega)
        refine f_skip ?_
        refine f_tn (kh9 _ _ ?_)
        clear kh9
        refine f_seq fun K12 kh12 => ?_
        refine f_seq fun K13 kh13 => ?_
        refine f_region ?_
        refine f_stepP rfl rfl rfl (o_assign rfl) ?_
        refine f_done ?_
        refine f_tn (kh13 _ _ ?_)
        clear kh13
        refine f_block ?_
        refine f_loop (α := Nat) [1, 2, 3, 7, 9] (fun v => [(11, .int .i64 (v : Int))]) (fun v => [[(bS, blk (sd.map .bool ++ spS) 4)], [(b3, blk [.int .i64 (n : Int), .slice A l.length cap] 24)]]) (fun v => v ≤ n) (fun v => n - v) (0) ?_ ?_ ?_ ?_
        · exact (by repeat (first | exact trivial | refine ⟨rfl, ?_⟩))
        · repeat (first | exact Sub.nil | refine Sub.pick ?_ | refine Sub.castO rfl ?_ | refine Sub.skip ?_)
        · exact Nat.zero_le _
        · rintro v hvn
          refine f_seq fun K14 kh14 => ?_
          refine f_seq fun K15 kh15 => ?_
          refine f_region ?_
          refine f_stepP rfl rfl rfl (o_move rfl) ?_
          refine f_stepP rfl rfl rfl (o_field fa24_0 rfl) ?_
          refine f_stepP rfl rfl rfl (o_load Try.isAgg3 rfl (rdA rfl)) ?_
          refine f_stepP rfl rfl rfl (o_lss rfl rfl) ?_
          refine f_done ?_
          refine f_tn (kh15 _ _ ?_)
          clear kh15
          refine f_cond rfl (fun c41 => ?_) (fun c41 => ?_)
          · skip
            refine f_skip ?_
            refine f_tn (kh14 _ _ ?_)
            clear kh14
            refine f_seq fun K16 kh16 => ?_
            refine f_block ?_
            refine f_seq fun K17 kh17 => ?_
            refine f_seq fun K18 kh18 => ?_
            refine f_region ?_
            refine f_stepP rfl rfl rfl (o_move rfl) ?_
            refine f_stepP rfl rfl rfl (o_move rfl) ?_
            refine f_stepP rfl rfl rfl (o_eql rfl rfl) ?_
            refine f_stepP rfl rfl rfl (o_move rfl) ?_
            refine f_splitL 47 rfl (fun g47 => ?_) (fun g47 => ?_)
            · skip
              refine f_stepN rfl rfl rfl rfl rfl rfl ?_
              refine f_stepN rfl rfl rfl rfl rfl rfl ?_
              refine f_stepN rfl rfl rfl rfl rfl rfl ?_
              refine f_stepP rfl rfl rfl (o_pickT rfl rfl) ?_
              refine f_done ?_
              refine f_tn (kh18 _ _ ?_)
              clear kh18
              refine f_condT rfl ?_
              refine f_exit ?_
              refine f_te ?_
              clear kh17
              refine f_be ?_
              refine f_tn (kh16 _ _ ?_)
              clear kh16
              refine f_region ?_
              refine f_stepP rfl rfl rfl (o_move rfl) ?_
              refine f_stepP rfl rfl rfl (o_add rfl rfl _ (wrap_i64 (by omega))) ?_
              refine f_stepP rfl rfl rfl (o_assign rfl) ?_
              refine f_done ?_
              refine f_tn (f_again (v + 1) (by first | omega | (dsimp only; omega) | (simp; omega)) (by omega) ?_ ?_ ?_)
              · exact (by repeat (first | exact trivial | refine ⟨rfl, ?_⟩))
              · exact (by repeat (first | exact trivial | refine ⟨rfl, ?_⟩))
              · repeat (first | exact Sub.nil | refine Sub.pick ?_ | refine Sub.castO rfl ?_ | refine Sub.skip ?_)
            · skip
              refine f_stepPY rfl rfl rfl rfl rfl (o_move rfl) ?_
              refine f_stepPY rfl rfl rfl rfl rfl (o_move rfl) ?_
              refine f_stepPY rfl rfl rfl rfl rfl (o_eql rfl rfl) ?_
              refine f_stepP rfl rfl rfl (o_pickF rfl rfl) ?_
              refine f_done ?_
              refine f_tn (kh18 _ _ ?_)
              clear kh18
              refine f_cond rfl (fun c51 => ?_) (fun c51 => ?_)
              · skip
                refine f_exit ?_
                refine f_te ?_
                clear kh17
                refine f_be ?_
                refine f_tn (kh16 _ _ ?_)
                clear kh16
                refine f_region ?_
                refine f_stepP rfl rfl rfl (o_move rfl) ?_
                refine f_stepP rfl rfl rfl (o_add rfl rfl _ (wrap_i64 (by omega))) ?_
                refine f_stepP rfl rfl rfl (o_assign rfl) ?_
                refine f_done ?_
                refine f_tn (f_again (v + 1) (by first | omega | (dsimp only; omega) | (simp; omega)) (by omega) ?_ ?_ ?_)
                · exact (by repeat (first | exact trivial | refine ⟨rfl, ?_⟩))
                · exact (by repeat (first | exact trivial | refine ⟨rfl, ?_⟩))
                · repeat (first | exact Sub.nil | refine Sub.pick ?_ | refine Sub.castO rfl ?_ | refine Sub.skip ?_)
              · skip
                refine f_skip ?_
                refine f_tn (kh17 _ _ ?_)
                clear kh17
                refine f_seq fun K19 kh19 => ?_
                refine f_region ?_
                refine f_stepP rfl rfl rfl (o_move rfl) ?_
                refine f_stepP rfl rfl rfl (o_move rfl) ?_
                have hv' : v < n := by omega
                refine f_stepP rfl rfl rfl (o_idx sl31 rfl rfl (v) ⟨by omega, by omega, by first | omega | (simp; done) | (simp; omega)⟩) ?_
                refine f_stepP rfl rfl rfl (o_load Try.isAgg4 rfl (rdA (app_get (bools_at (by omega))))) ?_
                refine f_stepP rfl rfl rfl (o_assign rfl) ?_
                refine f_done ?_
                refine f_tn (kh19 _ _ ?_)
                clear kh19
                refine f_seq fun K20 kh20 => ?_
                refine f_region ?_
                refine f_stepP rfl rfl rfl (o_move rfl) ?_
                refine f_stepP rfl rfl rfl (o_move rfl) ?_
                refine f_stepP rfl rfl rfl (o_move rfl) ?_
                refine f_stepP rfl rfl rfl (o_not rfl) ?_
                refine f_stepP rfl rfl rfl (o_idx sl31 rfl rfl (v) ⟨by omega, by omega, by first | omega | (simp; done) | (simp; omega)⟩) ?_
                refine f_step0 rfl rfl (o_store Try.sizeOf4 rfl rfl rfl rfl (by rw [List.length_append, List.length_map]; omega) ((sd.set v (!sd.getD v false)).map .bool ++ spS) (set_front (by omega)) ?_)
                refine f_done ?_
                refine f_tn (kh20 _ _ ?_)
                clear kh20
                refine f_seq fun K21 kh21 => ?_
                refine f_region ?_
                refine f_stepP rfl rfl rfl (o_assign rfl) ?_
                refine f_done ?_
                refine f_tn (kh21 _ _ ?_)
                clear kh21
                refine f_seq fun K22 kh22 => ?_
                refine f_seq fun K23 kh23 => ?_
                refine f_region ?_
                refine f_stepP rfl rfl rfl (o_field fa24_1 rfl) ?_
                refine f_stepP rfl rfl rfl (o_load Try.isAgg22 rfl (rdA rfl)) ?_
                refine f_stepP rfl rfl rfl (o_len sl22 rfl) ?_
                refine f_stepP rfl rfl rfl (o_move rfl) ?_
                refine f_done ?_
                refine f_tn (kh23 _ _ ?_)
                clear kh23
                refine f_block ?_
                refine f_loop (α := Nat × Int) [1, 2, 3, 7, 9, 11, 12, 62, 63] (fun ⟨i, sum⟩ => [(64, .int .i64 (i : Int)), (13, .int .u64 sum)]) (fun ⟨i, sum⟩ => [[(bS, blk ((sd.set v (!sd.getD v false)).map .bool ++ spS) 4)], [(b3, blk [.int .i64 (n : Int), .slice A l.length cap] 24)]]) (fun ⟨i, sum⟩ => i ≤ l.length ∧ sum = capA (fun u => (sd.set v (!sd.getD v false)).getD u false) (l.take i)) (fun ⟨i, sum⟩ => l.length - i) (0, 0) ?_ ?_ ?_ ?_
                · exact (by repeat (first | exact trivial | refine ⟨rfl, ?_⟩))
                · repeat (first | exact Sub.nil | refine Sub.pick ?_ | refine Sub.castO rfl ?_ | refine Sub.skip ?_)
                · exact ⟨Nat.zero_le _, rfl⟩
                · rintro ⟨i, sum⟩ ⟨hil, hsum⟩
                  have hsb := capA_take (A := (fun u => (sd.set v (!sd.getD v false)).getD u false)) hwts i (Int.le_refl _) hel
                  refine f_seq fun K24 kh24 => ?_
                  refine f_region ?_
                  refine f_stepP rfl rfl rfl (o_lss rfl rfl) ?_
                  refine f_done ?_
                  refine f_tn (kh24 _ _ ?_)
                  clear kh24
                  refine f_seq fun K25 kh25 => ?_
                  refine f_cond rfl (fun c65 => ?_) (fun c65 => ?_)
                  · skip
                    refine f_skip ?_
                    refine f_tn (kh25 _ _ ?_)
                    clear kh25
                    refine f_seq fun K26 kh26 => ?_
                    refine f_block ?_
                    refine f_seq fun K27 kh27 => ?_
                    refine f_region ?_
                    have hi : i < l.length := by omega
                    obtain ⟨bq, off, rfl, hS, hc⟩ := hr (flat_ne arcCs arcCs_len (by omega) hi)
                    have hgi := hn.good i hi
                    have hwi := hwts _ (List.getElem_mem hi)
                    refine f_stepP rfl rfl rfl (o_idx sl22 rfl rfl (off + i * 3) ⟨by omega, by omega, by first | omega | (simp; done) | (simp; omega)⟩) ?_
                    refine f_stepP rfl rfl rfl (o_loadA (vs := arcCs l[i]) Try.isAgg52 Try.sizeOf52 rfl rfl (roElem arcCs_len hS hc hi)) ?_
                    refine f_step rfl rfl rfl (o_alloc Try.zeroValue52 rfl fun b15 => ?_)
                    refine f_step0 rfl rfl (o_storeA Try.sizeOf52 rfl rfl rfl rfl (by first | exact Nat.le_of_ble_eq_true rfl | (simp; done) | (simp; omega)) (arcCs l[i]) rfl ?_)
                    refine f_done ?_
                    refine f_tn (kh27 _ _ ?_)
                    clear kh27
                    refine f_seq fun K28 kh28 => ?_
                    refine f_region ?_
                    refine f_stepP rfl rfl rfl (o_move rfl) ?_
                    refine f_stepP rfl rfl rfl (o_field fa52_0 rfl) ?_
                    refine f_stepP rfl rfl rfl (o_load Try.isAgg3 rfl (rdA rfl)) ?_
                    refine f_stepP rfl rfl rfl (o_idx sl31 rfl rfl (l[i].src.toNat) ⟨by omega, by omega, by first | omega | (simp; done) | (simp; omega)⟩) ?_
                    refine f_stepP rfl rfl rfl (o_load Try.isAgg4 rfl (rdA (app_get (bools_at (by rw [List.length_set]; omega))))) ?_
                    refine f_stepP rfl rfl rfl (o_move rfl) ?_
                    refine f_splitLB 73 rfl (fun g73 => ?_) (fun g73 => ?_)
                    · skip
                      refine f_stepPY rfl rfl rfl rfl rfl (o_move rfl) ?_
                      refine f_stepPY rfl rfl rfl rfl rfl (o_field fa52_1 rfl) ?_
                      refine f_stepPY rfl rfl rfl rfl rfl (o_load Try.isAgg3 rfl (rdA rfl)) ?_
                      refine f_stepPY rfl rfl rfl rfl rfl (o_idx sl31 rfl rfl (l[i].dst.toNat) ⟨by omega, by omega, by first | omega | (simp; done) | (simp; omega)⟩) ?_
                      refine f_stepPY rfl rfl rfl rfl rfl (o_load Try.isAgg4 rfl (rdA (app_get (bools_at (by rw [List.length_set]; omega))))) ?_
                      refine f_stepPY rfl rfl rfl rfl rfl (o_not rfl) ?_
                      refine f_stepP rfl rfl rfl (o_pickT rfl rfl) ?_
                      refine f_done ?_
                      refine f_tn (kh28 _ _ ?_)
                      clear kh28
                      refine f_condB rfl (fun c80 => ?_) (fun c80 => ?_)
                      · skip
                        refine f_region ?_
                        refine f_stepP rfl rfl rfl (o_move rfl) ?_
                        refine f_stepP rfl rfl rfl (o_field fa52_2 rfl) ?_
                        refine f_stepP rfl rfl rfl (o_load Try.isAgg50 rfl (rdA rfl)) ?_
                        refine f_stepP rfl rfl rfl (o_conv Try.runUnderlying50 Try.runUnderlying33 rfl _ (wrap_u64 (by omega))) ?_
                        refine f_stepP rfl rfl rfl (o_add rfl rfl _ (wrap_u64 (by omega))) ?_
                        refine f_stepP rfl rfl rfl (o_assign rfl) ?_
                        refine f_done ?_
                        refine f_bn ?_
                        refine f_tn (kh26 _ _ ?_)
                        clear kh26
                        refine f_region ?_
                        refine f_stepP rfl rfl rfl (o_add rfl rfl _ (wrap_i64 (by omega))) ?_
                        refine f_stepP rfl rfl rfl (o_move rfl) ?_
                        refine f_done ?_
                        refine f_tn (f_again (i + 1, sum + l[i].wt) (by first | omega | (dsimp only; omega) | (simp; omega)) ⟨by omega, by rw [capA_next hi, if_pos (by rw [g73]; exact c80), hsum]⟩ ?_ ?_ ?_)
                        · exact (by repeat (first | exact trivial | refine ⟨rfl, ?_⟩))
                        · exact (by repeat (first | exact trivial | refine ⟨rfl, ?_⟩))
                        · repeat (first | exact Sub.nil | refine Sub.pick ?_ | refine Sub.castO rfl ?_ | refine Sub.skip ?_)
                      · skip
                        refine f_skip ?_
                        refine f_bn ?_
                        refine f_tn (kh26 _ _ ?_)
                        clear kh26
                        refine f_region ?_
                        refine f_stepP rfl rfl rfl (o_add rfl rfl _ (wrap_i64 (by omega))) ?_
                        refine f_stepP rfl rfl rfl (o_move rfl) ?_
                        refine f_done ?_
                        refine f_tn (f_again (i + 1, sum) (by first | omega | (dsimp only; omega) | (simp; omega)) ⟨by omega, by rw [capA_next hi, if_neg (by first | (rw [g73]; intro h; cases h; done) | (rw [c80, Bool.and_false]; intro h; cases h; done)), hsum]; omega⟩ ?_ ?_ ?_)
                        · exact (by repeat (first | exact trivial | refine ⟨rfl, ?_⟩))
                        · exact (by repeat (first | exact trivial | refine ⟨rfl, ?_⟩))
                        · repeat (first | exact Sub.nil | refine Sub.pick ?_ | refine Sub.castO rfl ?_ | refine Sub.skip ?_)
                    · skip
                      refine f_stepN rfl rfl rfl rfl rfl rfl ?_
                      refine f_stepN rfl rfl rfl rfl rfl rfl ?_
                      refine f_stepN rfl rfl rfl rfl rfl rfl ?_
                      refine f_stepN rfl rfl rfl rfl rfl rfl ?_
                      refine f_stepN rfl rfl rfl rfl rfl rfl ?_
                      refine f_stepN rfl rfl rfl rfl rfl rfl ?_
                      refine f_stepP rfl rfl rfl (o_pickF rfl rfl) ?_
                      refine f_done ?_
                      refine f_tn (kh28 _ _ ?_)
                      clear kh28
                      refine f_condF rfl ?_
                      refine f_skip ?_
                      refine f_bn ?_
                      refine f_tn (kh26 _ _ ?_)
                      clear kh26
                      refine f_region ?_
                      refine f_stepP rfl rfl rfl (o_add rfl rfl _ (wrap_i64 (by omega))) ?_
                      refine f_stepP rfl rfl rfl (o_move rfl) ?_
                      refine f_done ?_
                      refine f_tn (f_again (i + 1, sum) (by first | omega | (dsimp only; omega) | (simp; omega)) ⟨by omega, by rw [capA_next hi, if_neg (by first | (rw [g73]; intro h; cases h; done) | (rw [c80, Bool.and_false]; intro h; cases h; done)), hsum]; omega⟩ ?_ ?_ ?_)
                      · exact (by repeat (first | exact trivial | refine ⟨rfl, ?_⟩))
                      · exact (by repeat (first | exact trivial | refine ⟨rfl, ?_⟩))
                      · repeat (first | exact Sub.nil | refine Sub.pick ?_ | refine Sub.castO rfl ?_ | refine Sub.skip ?_)
                  · skip
                    refine f_exit ?_
                    refine f_te ?_
                    clear kh25
                    refine f_te ?_
                    refine f_be ?_
                    refine f_tn (kh22 _ _ ?_)
                    clear kh22
                    refine f_seq fun K29 kh29 => ?_
                    refine f_region ?_
                    refine f_stepP rfl rfl rfl (o_move rfl) ?_
                    refine f_stepP rfl rfl rfl (o_move rfl) ?_
                    refine f_stepP rfl rfl rfl (o_move rfl) ?_
                    refine f_stepP rfl rfl rfl (o_idx sl31 rfl rfl (v) ⟨by omega, by omega, by first | omega | (simp; done) | (simp; omega)⟩) ?_
                    refine f_step0 rfl rfl (o_store Try.sizeOf4 rfl rfl rfl rfl (by rw [List.length_append, List.length_map, List.length_set]; omega) (sd.map .bool ++ spS) (set_back2 (by omega)) ?_)
                    refine f_done ?_
                    refine f_tn (kh29 _ _ ?_)
                    clear kh29
                    refine f_seq fun K30 kh30 => ?_
                    have hti : l.take i = l := List.take_of_length_le (by omega)
                    rw [hti] at hsum
                    have hfw := fewer hn.net han hbn hF hA hsl hv' (by omega) (by omega)
                    refine f_region ?_
                    refine f_stepP rfl rfl rfl (o_move rfl) ?_
                    refine f_stepP rfl rfl rfl (o_move rfl) ?_
                    refine f_stepP rfl rfl rfl (o_lss rfl rfl) ?_
                    refine f_stepP rfl rfl rfl (o_move rfl) ?_
                    refine f_falseL 94 rfl (by omega) ?_
                    refine f_stepPY rfl rfl rfl rfl rfl (o_move rfl) ?_
                    refine f_stepPY rfl rfl rfl rfl rfl (o_move rfl) ?_
                    refine f_splitLB 96 rfl (fun g96 => ?_) (fun g96 => ?_)
                    · skip
                      refine f_stepPY rfl rfl rfl rfl rfl (o_move rfl) ?_
                      refine f_stepPY rfl rfl rfl rfl rfl (o_move rfl) ?_
                      refine f_stepPY rfl rfl rfl rfl rfl (o_eql rfl rfl) ?_
                      refine f_stepPY rfl rfl rfl rfl rfl (o_pickT rfl rfl) ?_
                      refine f_stepP rfl rfl rfl (o_pickF rfl rfl) ?_
                      refine f_done ?_
                      refine f_tn (kh30 _ _ ?_)
                      clear kh30
                      refine f_condN rfl (by have := hfw.2 g96; omega) ?_
                      refine f_skip ?_
                      refine f_bn ?_
                      refine f_tn (kh16 _ _ ?_)
                      clear kh16
                      refine f_region ?_
                      refine f_stepP rfl rfl rfl (o_move rfl) ?_
                      refine f_stepP rfl rfl rfl (o_add rfl rfl _ (wrap_i64 (by omega))) ?_
                      refine f_stepP rfl rfl rfl (o_assign rfl) ?_
                      refine f_done ?_
                      refine f_tn (f_again (v + 1) (by first | omega | (dsimp only; omega) | (simp; omega)) (by omega) ?_ ?_ ?_)
                      · exact (by repeat (first | exact trivial | refine ⟨rfl, ?_⟩))
                      · exact (by repeat (first | exact trivial | refine ⟨rfl, ?_⟩))
                      · repeat (first | exact Sub.nil | refine Sub.pick ?_ | refine Sub.castO rfl ?_ | refine Sub.skip ?_)
                    · skip
                      refine f_stepN rfl rfl rfl rfl rfl rfl ?_
                      refine f_stepN rfl rfl rfl rfl rfl rfl ?_
                      refine f_stepN rfl rfl rfl rfl rfl rfl ?_
                      refine f_stepPY rfl rfl rfl rfl rfl (o_pickF rfl rfl) ?_
                      refine f_stepP rfl rfl rfl (o_pickF rfl rfl) ?_
                      refine f_done ?_
                      refine f_tn (kh30 _ _ ?_)
                      clear kh30
                      refine f_condF rfl ?_
                      refine f_skip ?_
                      refine f_bn ?_
                      refine f_tn (kh16 _ _ ?_)
                      clear kh16
                      refine f_region ?_
                      refine f_stepP rfl rfl rfl (o_move rfl) ?_
                      refine f_stepP rfl rfl rfl (o_add rfl rfl _ (wrap_i64 (by omega))) ?_
                      refine f_stepP rfl rfl rfl (o_assign rfl) ?_
                      refine f_done ?_
                      refine f_tn (f_again (v + 1) (by first | omega | (dsimp only; omega) | (simp; omega)) (by omega) ?_ ?_ ?_)
                      · exact (by repeat (first | exact trivial | refine ⟨rfl, ?_⟩))
                      · exact (by repeat (first | exact trivial | refine ⟨rfl, ?_⟩))
                      · repeat (first | exact Sub.nil | refine Sub.pick ?_ | refine Sub.castO rfl ?_ | refine Sub.skip ?_)
          · skip
            refine f_exit ?_
            refine f_te ?_
            clear kh14
            refine f_te ?_
            refine f_be ?_
            refine f_tn (kh12 _ _ ?_)
            clear kh12
            refine f_seq fun K31 kh31 => ?_
            refine f_region ?_
            refine f_stepP rfl rfl rfl (o_assign rfl) ?_
            refine f_done ?_
            refine f_tn (kh31 _ _ ?_)
            clear kh31
            refine f_ret ?_
            exact f_fin1 [] Try.results6 rfl Sub.nil ⟨rfl, rfl⟩

set_option maxRecDepth 100000 in
set_option maxHeartbeats 4000000 in
theorem FlowTurns_spec (N : Int) (A : Option Addr) (l : List Arc) (cap : Nat) (s t : Int) (w : World) (hr : Ro (Fr w []) w A (l.flatMap arcCs)) (hl : l.length ≤ 9223372036854775807) (hN : I64 N) (hok : ∀ x ∈ l, ArcOk x) (hz0 : l.length * 24 ≤ 140737488351232) :
    Meets Try.prog 8 [.agg #[.int .i64 N, .slice A l.length cap], .int .i64 s, .int .i64 t] w [] (fun u m => u = .bool true ∧ m = []) := by
  refine f_enter Try.func8 rfl Try.ntmps8 rfl Owns.nil ?_
  refine f_seq fun K1 kh1 => ?_
  refine f_region ?_
  refine f_step rfl rfl rfl (o_box rfl rfl fun b3 => ?_)
  refine f_stepP rfl rfl rfl (o_assign rfl) ?_
  refine f_done ?_
  refine f_tn (kh1 _ _ ?_)
  clear kh1
  refine f_seq fun K2 kh2 => ?_
  refine f_seq fun K3 kh3 => ?_
  refine f_region ?_
  refine f_step rfl rfl rfl (o_call Try.call10 rfl (fun w_ hp_ => works6_spec w_) ?_)
  rintro _ _ ⟨rfl, rfl⟩
  dsimp only [List.cons_append, List.nil_append]
  refine f_stepP rfl rfl rfl (o_not rfl) ?_
  refine f_done ?_
  refine f_tn (kh3 _ _ ?_)
  clear kh3
  refine f_condF rfl ?_
  refine f_skip ?_
  refine f_tn (kh2 _ _ ?_)
  clear kh2
  refine f_seq fun K4 kh4 => ?_
  refine f_seq fun K5 kh5 => ?_
  refine f_region ?_
  refine f_stepP rfl rfl rfl (o_loadA (vs := [_, _]) Try.isAgg24 Try.sizeOf24 rfl rfl ⟨(rdA rfl), (rdA rfl), trivial⟩) ?_
  refine f_step rfl rfl rfl (o_call Try.call9 rfl (fun w_ hp_ => large6_spec N A l.length cap w_) ?_)
  rintro _ _ ⟨rfl, rfl⟩
  dsimp only [List.cons_append, List.nil_append]
  refine f_done ?_
  refine f_tn (kh5 _ _ ?_)
  clear kh5
  refine f_cond rfl (fun c19 => ?_) (fun c19 => ?_)
  · skip
    refine f_seq fun K6 kh6 => ?_
    refine f_region ?_
    refine f_stepP rfl rfl rfl (o_assign rfl) ?_
    refine f_done ?_
    refine f_tn (kh6 _ _ ?_)
    clear kh6
    refine f_ret ?_
    refine f_tr ?_
    exact f_fin1 [] Try.results8 rfl Sub.nil ⟨rfl, rfl⟩
  · skip
    refine f_skip ?_
    refine f_tn (kh4 _ _ ?_)
    clear kh4
    refine f_seq fun K7 kh7 => ?_
    refine f_region ?_
    refine f_stepP rfl rfl rfl (o_field fa24_0 rfl) ?_
    refine f_stepP rfl rfl rfl (o_load Try.isAgg3 rfl (rdA rfl)) ?_
    refine f_stepP rfl rfl rfl (o_build (cs := [.int .i64 N, .slice none 0 0]) st24 rfl rfl) ?_
    refine f_step rfl rfl rfl (o_alloc Try.zeroValue24 rfl fun b7 => ?_)
    refine f_step0 rfl rfl (o_storeA Try.sizeOf24 rfl rfl rfl rfl (by first | exact Nat.le_of_ble_eq_true rfl | (simp; done) | (simp; omega)) [.int .i64 N, .slice none 0 0] rfl ?_)
    refine f_done ?_
    refine f_tn (kh7 _ _ ?_)
    clear kh7
    refine f_seq fun K8 kh8 => ?_
    refine f_seq fun K9 kh9 => ?_
    refine f_region ?_
    refine f_stepP rfl rfl rfl (o_field fa24_1 rfl) ?_
    refine f_stepP rfl rfl rfl (o_load Try.isAgg22 rfl (rdA rfl)) ?_
    refine f_stepP rfl rfl rfl (o_len sl22 rfl) ?_
    refine f_stepP rfl rfl rfl (o_move rfl) ?_
    refine f_done ?_
    refine f_tn (kh9 _ _ ?_)
    clear kh9
    refine f_block ?_
    refine f_loop (α := Nat × Value × Seg) [1, 2, 3, 7, 24, 25] (fun ⟨i, vm, mm⟩ => [(26, .int .i64 (i : Int))]) (fun ⟨i, vm, mm⟩ => [[(b7, blk [.int .i64 N, vm] 24)], mm, [(b3, blk [.int .i64 N, .slice A l.length cap] 24)]]) (fun ⟨i, vm, mm⟩ => i ≤ l.length ∧ Own 52 3 vm i (((l.take i).map turnA).flatMap arcCs) mm) (fun ⟨i, vm, mm⟩ => l.length - i) (0, .slice none 0 0, []) ?_ ?_ ?_ ?_
    · exact (by repeat (first | exact trivial | refine ⟨rfl, ?_⟩))
    · repeat (first | exact Sub.nil | refine Sub.pick ?_ | refine Sub.castO rfl ?_ | refine Sub.skip ?_)
    · exact ⟨Nat.zero_le _, Own.nil _ _⟩
    · rintro ⟨i, vm, mm⟩ ⟨hil, hM⟩
      obtain ⟨Am, cm, rfl, hcm⟩ := hM.val
      refine f_seq fun K10 kh10 => ?_
      refine f_region ?_
      refine f_stepP rfl rfl rfl (o_lss rfl rfl) ?_
      refine f_done ?_
      refine f_tn (kh10 _ _ ?_)
      clear kh10
      refine f_seq fun K11 kh11 => ?_
      refine f_cond rfl (fun c27 => ?_) (fun c27 => ?_)
      · skip
        refine f_skip ?_
        refine f_tn (kh11 _ _ ?_)
        clear kh11
        refine f_seq fun K12 kh12 => ?_
        refine f_block ?_
        refine f_seq fun K13 kh13 => ?_
        refine f_region ?_
        have hi : i < l.length := by omega
        obtain ⟨bq, off, rfl, hS, hc⟩ := hr (flat_ne arcCs arcCs_len (by omega) hi)
        
        refine f_stepP rfl rfl rfl (o_idx sl22 rfl rfl (off + i * 3) ⟨by omega, by omega, by first | omega | (simp; done) | (simp; omega)⟩) ?_
        refine f_stepP rfl rfl rfl (o_loadA (vs := arcCs l[i]) Try.isAgg52 Try.sizeOf52 rfl rfl (roElem arcCs_len hS hc hi)) ?_
        refine f_step rfl rfl rfl (o_alloc Try.zeroValue52 rfl fun b9 => ?_)
        refine f_step0 rfl rfl (o_storeA Try.sizeOf52 rfl rfl rfl rfl (by first | exact Nat.le_of_ble_eq_true rfl | (simp; done) | (simp; omega)) (arcCs l[i]) rfl ?_)
        refine f_done ?_
        refine f_tn (kh13 _ _ ?_)
        clear kh13
        refine f_region ?_
        refine f_stepP rfl rfl rfl (o_field fa24_1 rfl) ?_
        refine f_stepP rfl rfl rfl (o_load Try.isAgg22 rfl (rdA rfl)) ?_
        refine f_stepP rfl rfl rfl (o_field fa52_1 rfl) ?_
        refine f_stepP rfl rfl rfl (o_load Try.isAgg3 rfl (rdA rfl)) ?_
        refine f_stepP rfl rfl rfl (o_field fa52_0 rfl) ?_
        refine f_stepP rfl rfl rfl (o_load Try.isAgg3 rfl (rdA rfl)) ?_
        refine f_stepP rfl rfl rfl (o_field fa52_2 rfl) ?_
        refine f_stepP rfl rfl rfl (o_load Try.isAgg50 rfl (rdA rfl)) ?_
        refine f_stepP rfl rfl rfl (o_build (cs := [.int .i64 l[i].dst, .int .i64 l[i].src, .int .u32 l[i].wt]) st52 rfl rfl) ?_
        refine f_step rfl rfl rfl (o_slice1 el22 (by omega) rfl rfl rfl fun b39 => ?_)
        refine f_step rfl rfl rfl (o_append el22 rfl rfl hM (ys := [.int .i64 l[i].dst, .int .i64 l[i].src, .int .u32 l[i].wt]) ⟨(rdA rfl), (rdA rfl), (rdA rfl), trivial⟩ rfl rfl (by omega) (by omega) fun v40 m40 o40 => ?_)
        obtain ⟨A40, cap40, rfl, _⟩ := o40.val
        refine f_stepP rfl rfl rfl (o_field fa24_1 rfl) ?_
        refine f_step0 rfl rfl (o_store Try.sizeOf22 rfl rfl rfl rfl (by first | exact Nat.le_of_ble_eq_true rfl | (simp; done) | (simp; omega)) [.int .i64 N, .slice A40 (i + 1) cap40] rfl ?_)
        refine f_done ?_
        refine f_bn ?_
        refine f_tn (kh12 _ _ ?_)
        clear kh12
        refine f_region ?_
        refine f_stepP rfl rfl rfl (o_add rfl rfl _ (wrap_i64 (by omega))) ?_
        refine f_stepP rfl rfl rfl (o_move rfl) ?_
        refine f_done ?_
        refine f_tn (f_again (i + 1, .slice A40 (i + 1) cap40, m40) (by first | omega | (dsimp only; omega) | (simp; omega)) ⟨by omega, by rw [turn_next hi]; exact o40⟩ ?_ ?_ ?_)
        · exact (by repeat (first | exact trivial | refine ⟨rfl, ?_⟩))
        · exact (by repeat (first | exact trivial | refine ⟨rfl, ?_⟩))
        · repeat (first | exact Sub.nil | refine Sub.pick ?_ | refine Sub.castO rfl ?_ | refine Sub.skip ?_)
      · skip
        refine f_exit ?_
        refine f_te ?_
        clear kh11
        refine f_te ?_
        refine f_be ?_
        refine f_tn (kh8 _ _ ?_)
        clear kh8
        refine f_seq fun K14 kh14 => ?_
        refine f_region ?_
        obtain rfl : i = l.length := by omega
        have hM2 : Own 52 3 (.slice Am l.length cm) l.length ((l.map turnA).flatMap arcCs) mm := by rw [List.take_length] at hM; exact hM
        refine f_stepP rfl rfl rfl (o_loadA (vs := [_, _]) Try.isAgg24 Try.sizeOf24 rfl rfl ⟨(rdA rfl), (rdA rfl), trivial⟩) ?_
        refine f_stepP rfl rfl rfl (o_move rfl) ?_
        refine f_stepP rfl rfl rfl (o_move rfl) ?_
        refine f_step rfl rfl rfl (o_call Try.call21 rfl (fun w_ hp_ => Max_spec N A l cap s t w_ (hr.up0 hp_) hl hN hok) ?_)
        rintro _ _ ⟨V, v11, m11, f, rfl, rfl, hoF, hx1, hx0⟩
        dsimp only [List.cons_append, List.nil_append]
        refine f_stepP rfl rfl rfl (o_move rfl) ?_
        refine f_stepP rfl rfl rfl (o_extract rfl rfl) ?_
        refine f_stepP rfl rfl rfl (o_extract rfl rfl) ?_
        refine f_stepP rfl rfl rfl (o_extract rfl rfl) ?_
        refine f_stepP rfl rfl rfl (o_assign rfl) ?_
        refine f_stepP rfl rfl rfl (o_assign rfl) ?_
        refine f_stepP rfl rfl rfl (o_assign rfl) ?_
        refine f_done ?_
        refine f_tn (kh14 _ _ ?_)
        clear kh14
        refine f_seq fun K15 kh15 => ?_
        refine f_region ?_
        refine f_stepP rfl rfl rfl (o_loadA (vs := [_, _]) Try.isAgg24 Try.sizeOf24 rfl rfl ⟨(rdA rfl), (rdA rfl), trivial⟩) ?_
        refine f_stepP rfl rfl rfl (o_move rfl) ?_
        refine f_stepP rfl rfl rfl (o_move rfl) ?_
        refine f_step rfl rfl rfl (o_call Try.call21 rfl (fun w_ hp_ => (by have h := Max_spec N Am (l.map turnA) cm t s w_ (seen_ro (hM2.seen hp_)) (by rw [List.length_map]; exact hl) hN (turn_ok hok); rw [List.length_map] at h; exact h)) ?_)
        rintro _ _ ⟨V2, v14, m14, f2, rfl, rfl, hoF2, hy1, hy0⟩
        rw [flooked_turn] at hy1 hy0 ⊢
        obtain rfl : V = V2 := by
          by_cases hz : flooked N l s t = 0
          · obtain ⟨hF, ⟨B1, hB1⟩, _, _⟩ := hx0 hz
            obtain ⟨hF2, ⟨B2, hB2⟩, _, _⟩ := hy0 hz
            obtain ⟨hg0, hs0, hs1, ht0, ht1, _⟩ := flooked_zero hz
            have hN1 := ncheck_zero hg0
            have hn : NOk N.toNat l := nok_of (by rw [Int.toNat_of_nonneg (by omega)]; exact hg0) hok
            exact turn_same hn.net (by omega) (by omega) hF hB1 hF2 hB2
          · rw [(hx1 hz).1, (hy1 hz).1]
        dsimp only [List.cons_append, List.nil_append]
        refine f_stepP rfl rfl rfl (o_move rfl) ?_
        refine f_stepP rfl rfl rfl (o_extract rfl rfl) ?_
        refine f_stepP rfl rfl rfl (o_extract rfl rfl) ?_
        refine f_stepP rfl rfl rfl (o_extract rfl rfl) ?_
        refine f_stepP rfl rfl rfl (o_assign rfl) ?_
        refine f_stepP rfl rfl rfl (o_assign rfl) ?_
        refine f_stepP rfl rfl rfl (o_assign rfl) ?_
        refine f_done ?_
        refine f_tn (kh15 _ _ ?_)
        clear kh15
        refine f_seq fun K16 kh16 => ?_
        refine f_region ?_
        refine f_stepP rfl rfl rfl (o_move rfl) ?_
        refine f_stepP rfl rfl rfl (o_move rfl) ?_
        refine f_stepP rfl rfl rfl (o_eql rfl rfl) ?_
        refine f_stepP rfl rfl rfl (o_move rfl) ?_
        refine f_trueL 62 rfl (rfl) ?_
        refine f_stepPY rfl rfl rfl rfl rfl (o_move rfl) ?_
        refine f_stepPY rfl rfl rfl rfl rfl (o_move rfl) ?_
        refine f_stepPY rfl rfl rfl rfl rfl (o_eql rfl rfl) ?_
        refine f_stepP rfl rfl rfl (o_pickT rfl rfl) ?_
        refine f_stepP rfl rfl rfl (o_assign rfl) ?_
        refine f_done ?_
        refine f_tn (kh16 _ _ ?_)
        clear kh16
        refine f_ret ?_
        exact f_fin1 [] Try.results8 rfl Sub.nil ⟨by simp, rfl⟩

end Go.Proofs.Ytnagjidfenfdbaa
