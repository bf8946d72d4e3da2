/- grow.Order: all vertices, part by part, nearest first. -/
import Derived.Test.YtlllpmafhnfihaaFRegion
namespace Go.Proofs.Ytlllpmafhnfihaa
open Go Go.RowKit Fly
set_option linter.unusedVariables false
set_option linter.unusedSimpArgs false


/-- The order of the vertices that lie with the first v. -/
def ordGo (n : Nat) (rows : Nat → List Int) : Nat → BSt
  | 0 => ([], List.replicate n false)
  | v + 1 => if (ordGo n rows v).2.getD v false = true then ordGo n rows v else ((ordGo n rows v).1 ++ (bfs n rows v (ordGo n rows v).2).1, (bfs n rows v (ordGo n rows v).2).2)
def ordR (N : Int) (l : List Arc) : List Int × Int := if (gcheck N l).2 ≠ 0 then ([], (gcheck N l).2) else ((ordGo N.toNat (fun v : Nat => nbrs (v : Int) l) N.toNat).1, 0)
theorem bfs_inv {n : Nat} {rows : Nat → List Int} (hr : ∀ v, v < n → ∀ u ∈ rows v, 0 ≤ u ∧ u < (n : Int)) {c : Nat} {b : List Bool} (hb : b.length = n) (hc : c < n) : BInv n (bfs n rows c b) := BInv.go hr (BInv.start hb hc) n
theorem ordGo_len {n : Nat} {rows : Nat → List Int} (hr : ∀ v, v < n → ∀ u ∈ rows v, 0 ≤ u ∧ u < (n : Int)) : ∀ v, v ≤ n → (ordGo n rows v).2.length = n ∧ (ordGo n rows v).1.length ≤ v * n
  | 0, _ => ⟨by show (List.replicate n false).length = n; simp, by show 0 ≤ 0 * n; omega⟩
  | v + 1, h => by
    obtain ⟨h1, h2⟩ := ordGo_len hr v (by omega)
    unfold ordGo
    split
    · exact ⟨h1, Nat.le_trans h2 (Nat.mul_le_mul_right n (Nat.le_succ v))⟩
    · have hI := bfs_inv hr h1 (show v < n by omega)
      refine ⟨hI.len, ?_⟩
      have := hI.out
      rw [List.length_append, Nat.succ_mul]; omega
theorem ordGo_small {n : Nat} {rows : Nat → List Int} (hr : ∀ v, v < n → ∀ u ∈ rows v, 0 ≤ u ∧ u < (n : Int)) (hn : n ≤ 1024) {v : Nat} (hv : v ≤ n) : (ordGo n rows v).2.length = n ∧ (ordGo n rows v).1.length ≤ 1048576 :=
  ⟨(ordGo_len hr v hv).1, Nat.le_trans (ordGo_len hr v hv).2 (Nat.le_trans (Nat.mul_le_mul (Nat.le_trans hv hn) hn) (by decide))⟩
theorem mayLen {F : BSt} {ys : List Int} {y : Int} (h : arMay F ys y) : ys.length < F.1.length := by
  obtain ⟨k, hk, rfl, _⟩ := h
  rw [List.length_take]; omega

set_option maxRecDepth 100000 in
set_option maxHeartbeats 4000000 in
theorem Order_spec (N : Int) (A : Option Addr) (l : List Arc) (cap : Nat) (w : World) (hr : Ro (Fr w []) w A (l.flatMap arcCs)) (hl : l.length ≤ 9223372036854775807) (hN : I64 N) (hok : ∀ x ∈ l, ArcOk x) :
    Meets Try.prog 21 [.agg #[.int .i64 N, .slice A l.length cap]] w [] (fun u own' => ∃ s ms, u = .tuple #[s, .int .i64 (ordR N l).2] ∧ own' = [ms] ∧ Own 3 1 s (ordR N l).1.length (ints (ordR N l).1) ms) := by
  refine r_enter Try.func21 rfl Try.ntmps21 rfl Owns.nil ?_
  refine r_seq fun K1 kh1 => ?_
  refine r_region ?_
  refine r_step rfl rfl rfl (Does.toR rfl (o_box rfl rfl fun b1 => ?_))
  refine r_stepP rfl rfl rfl rfl (o_assign rfl) ?_
  refine r_stepP rfl rfl rfl rfl (o_assign rfl) ?_
  refine r_done ?_
  refine r_tn (kh1 _ _ _ ?_)
  clear kh1
  refine r_seq fun K2 kh2 => ?_
  refine r_seq fun K3 kh3 => ?_
  refine r_region ?_
  refine r_stepP rfl rfl rfl rfl (o_loadA (vs := [_, _]) Try.isAgg24 Try.sizeOf24 rfl rfl ⟨(rdA rfl), (rdA rfl), trivial⟩) ?_
  refine r_step rfl rfl rfl (Does.toR rfl (o_call Try.call23 rfl (fun w_ hp_ => Check_spec N A l cap w_ (hr.up0 hp_) hl hN hok) ?_))
  rintro _ _ ⟨rfl, rfl⟩
  dsimp only [List.cons_append, List.nil_append]
  refine r_stepP rfl rfl rfl rfl (o_move rfl) ?_
  refine r_stepP rfl rfl rfl rfl (o_extract rfl rfl) ?_
  refine r_stepP rfl rfl rfl rfl (o_extract rfl rfl) ?_
  refine r_stepP rfl rfl rfl rfl (o_assign rfl) ?_
  refine r_stepP rfl rfl rfl rfl (o_assign rfl) ?_
  refine r_done ?_
  refine r_tn (kh3 _ _ _ ?_)
  clear kh3
  refine r_seq fun K4 kh4 => ?_
  refine r_region ?_
  refine r_stepP rfl rfl rfl rfl (o_move rfl) ?_
  refine r_stepP rfl rfl rfl rfl (o_neq rfl rfl) ?_
  refine r_done ?_
  refine r_tn (kh4 _ _ _ ?_)
  clear kh4
  refine r_cond rfl (fun c17 => ?_) (fun c17 => ?_)
  · skip
    refine r_seq fun K5 kh5 => ?_
    refine r_region ?_
    refine r_stepP rfl rfl rfl rfl (o_move rfl) ?_
    refine r_stepP rfl rfl rfl rfl (o_assign rfl) ?_
    refine r_stepP rfl rfl rfl rfl (o_assign rfl) ?_
    refine r_done ?_
    refine r_tn (kh5 _ _ _ ?_)
    clear kh5
    refine r_ret ?_
    refine r_tr ?_
    have e : ordR N l = ([], (gcheck N l).2) := if_pos c17
    exact r_fin2 [[]] Try.results21 rfl rfl (show Fly.Sub _ [[], []] from (by repeat (first | exact Sub.nil | refine Sub.pick ?_ | refine Sub.castO rfl ?_ | refine Sub.skip ?_))) ⟨_, _, by rw [e], rfl, by rw [e]; exact Own.nil _ _⟩
  · skip
    have hg : (gcheck N l).2 = 0 := by simpa using c17
    obtain ⟨hg1, hg2, hgl, hgd⟩ := gcheck_zero hg
    obtain ⟨n, rfl⟩ : ∃ n : Nat, N = (n : Int) := ⟨N.toNat, by omega⟩
    have hn1 : n ≤ 1024 := by omega
    obtain ⟨hrl, hrng⟩ := nbrs_rngG hg
    have hres : ordR (n : Int) l = ((ordGo n (fun v : Nat => nbrs (v : Int) l) n).1, 0) := by unfold ordR; rw [if_neg (by rw [hg]; simp), Int.toNat_natCast]
    refine r_skip ?_
    refine r_tn (kh2 _ _ _ ?_)
    clear kh2
    refine r_meet (α := Nat × List Value × List Seg × Nat) [1, 10, 37] (fun ⟨bo, vs, ms, b23⟩ => [(6, .slice (some ⟨bo, 0, none⟩) n n), (7, .slice (some ⟨b23, 0, none⟩) n n)]) (fun ⟨bo, vs, ms, b23⟩ => [[(bo, blk vs 28)], ms.flatten, [(b23, blk (boolsG (List.replicate n false)) 4)], [(b1, blk [.int .i64 (n : Int), .slice A l.length cap] 24)]]) (fun ⟨bo, vs, ms, b23⟩ => RowsI 3 (nrows n l) vs ms) ?_ ?_
    · intro K6 kh6
      refine r_old ?_
      refine f_regionH [[(b1, blk [.int .i64 (n : Int), .slice A l.length cap] 24)]] rfl ?_
      refine f_take 0 rfl (by decide +kernel) rfl rfl rfl (by repeat (first | exact Sub.nil | refine Sub.pick ?_ | refine Sub.castO rfl ?_ | refine Sub.skip ?_)) (o_loadA (vs := [_, _]) Try.isAgg24 Try.sizeOf24 rfl rfl ⟨(rdA rfl), (rdA rfl), trivial⟩) ?_
      refine f_take 2 rfl (by decide +kernel) rfl rfl rfl (by repeat (first | exact Sub.nil | refine Sub.pick ?_ | refine Sub.castO rfl ?_ | refine Sub.skip ?_)) (o_field fa24_0 rfl) ?_
      refine f_take 3 rfl (by decide +kernel) rfl rfl rfl (by repeat (first | exact Sub.nil | refine Sub.pick ?_ | refine Sub.castO rfl ?_ | refine Sub.skip ?_)) (o_load Try.isAgg3 rfl (rdA rfl)) ?_
      refine f_two 1 4 rfl rfl (by decide +kernel) rfl rfl rfl rfl rfl rfl ?_ ?_
      · skip
        refine (o_call Try.call25 rfl (fun w_ hp_ => sides_spec n A l cap w_ (hr.up0 hp_) hn1 hgl hgd) ?_)
        rintro _ _ ⟨bo, vs, ms, rfl, rfl, hR⟩
        dsimp only [List.cons_append, List.nil_append]
        refine ⟨(by repeat (first | exact Sub.nil | refine Sub.pick ?_ | refine Sub.castO rfl ?_ | refine Sub.skip ?_)), ?_⟩
        refine f_two 4 5 rfl rfl (by decide +kernel) rfl rfl rfl rfl rfl rfl ?_ ?_
        · skip
          refine (o_make el37 rfl rfl n rfl (by omega) (by omega) (boolsG (List.replicate n false)) (reps_bool n false) fun b23 => ⟨(by repeat (first | exact Sub.nil | refine Sub.pick ?_ | refine Sub.castO rfl ?_ | refine Sub.skip ?_)), ?_⟩)
          refine f_only 5 rfl (by decide +kernel) rfl rfl rfl ((o_assign rfl).does ⟨(by repeat (first | exact Sub.nil | refine Sub.pick ?_ | refine Sub.castO rfl ?_ | refine Sub.skip ?_)), ?_⟩)
          refine f_only 6 rfl (by decide +kernel) rfl rfl rfl ((o_assign rfl).does ⟨(by repeat (first | exact Sub.nil | refine Sub.pick ?_ | refine Sub.castO rfl ?_ | refine Sub.skip ?_)), ?_⟩)
          refine f_over (by decide +kernel) ?_
          refine r_new ?_
          refine r_tn (kh6 _ _ (bo, vs, ms, b23) hR ?_ ?_ ?_)
          · exact (by repeat (first | exact trivial | refine ⟨rfl, ?_⟩))
          · exact (by repeat (first | exact trivial | refine ⟨rfl, ?_⟩))
          · repeat (first | exact Sub.nil | refine Sub.pick ?_ | refine Sub.castO rfl ?_ | refine Sub.skip ?_)
        · skip
          refine (o_assign rfl).does ⟨(by repeat (first | exact Sub.nil | refine Sub.pick ?_ | refine Sub.castO rfl ?_ | refine Sub.skip ?_)), ?_⟩
          refine f_only 4 rfl (by decide +kernel) rfl rfl rfl (o_make el37 rfl rfl n rfl (by omega) (by omega) (boolsG (List.replicate n false)) (reps_bool n false) fun b23 => ⟨(by repeat (first | exact Sub.nil | refine Sub.pick ?_ | refine Sub.castO rfl ?_ | refine Sub.skip ?_)), ?_⟩)
          refine f_only 6 rfl (by decide +kernel) rfl rfl rfl ((o_assign rfl).does ⟨(by repeat (first | exact Sub.nil | refine Sub.pick ?_ | refine Sub.castO rfl ?_ | refine Sub.skip ?_)), ?_⟩)
          refine f_over (by decide +kernel) ?_
          refine r_new ?_
          refine r_tn (kh6 _ _ (bo, vs, ms, b23) hR ?_ ?_ ?_)
          · exact (by repeat (first | exact trivial | refine ⟨rfl, ?_⟩))
          · exact (by repeat (first | exact trivial | refine ⟨rfl, ?_⟩))
          · repeat (first | exact Sub.nil | refine Sub.pick ?_ | refine Sub.castO rfl ?_ | refine Sub.skip ?_)
      · skip
        refine (o_make el37 rfl rfl n rfl (by omega) (by omega) (boolsG (List.replicate n false)) (reps_bool n false) fun b23 => ⟨(by repeat (first | exact Sub.nil | refine Sub.pick ?_ | refine Sub.castO rfl ?_ | refine Sub.skip ?_)), ?_⟩)
        refine f_only 1 rfl (by decide +kernel) rfl rfl rfl (o_call Try.call25 rfl (fun w_ hp_ => sides_spec n A l cap w_ (hr.up0 hp_) hn1 hgl hgd) ?_)
        rintro _ _ ⟨bo, vs, ms, rfl, rfl, hR⟩
        dsimp only [List.cons_append, List.nil_append]
        refine ⟨(by repeat (first | exact Sub.nil | refine Sub.pick ?_ | refine Sub.castO rfl ?_ | refine Sub.skip ?_)), ?_⟩
        refine f_only 5 rfl (by decide +kernel) rfl rfl rfl ((o_assign rfl).does ⟨(by repeat (first | exact Sub.nil | refine Sub.pick ?_ | refine Sub.castO rfl ?_ | refine Sub.skip ?_)), ?_⟩)
        refine f_only 6 rfl (by decide +kernel) rfl rfl rfl ((o_assign rfl).does ⟨(by repeat (first | exact Sub.nil | refine Sub.pick ?_ | refine Sub.castO rfl ?_ | refine Sub.skip ?_)), ?_⟩)
        refine f_over (by decide +kernel) ?_
        refine r_new ?_
        refine r_tn (kh6 _ _ (bo, vs, ms, b23) hR ?_ ?_ ?_)
        · exact (by repeat (first | exact trivial | refine ⟨rfl, ?_⟩))
        · exact (by repeat (first | exact trivial | refine ⟨rfl, ?_⟩))
        · repeat (first | exact Sub.nil | refine Sub.pick ?_ | refine Sub.castO rfl ?_ | refine Sub.skip ?_)
    · rintro ⟨bo, vs, ms, b23⟩ hR
      refine r_seq fun K7 kh7 => ?_
      refine r_region ?_
      refine r_step rfl rfl rfl (Does.toR rfl (o_alloc Try.zeroValue28 rfl fun b8 => ?_))
      refine r_done ?_
      refine r_tn (kh7 _ _ _ ?_)
      clear kh7
      refine r_seq fun K8 kh8 => ?_
      refine r_seq fun K9 kh9 => ?_
      refine r_region ?_
      refine r_stepP rfl rfl rfl rfl (o_field fa24_0 rfl) ?_
      refine r_stepP rfl rfl rfl rfl (o_load Try.isAgg3 rfl (rdA rfl)) ?_
      refine r_stepP rfl rfl rfl rfl (o_move rfl) ?_
      refine r_done ?_
      refine r_tn (kh9 _ _ _ ?_)
      clear kh9
      refine r_block ?_
      refine r_loop (α := Nat × Value × Seg × List Nat) (fun ⟨v, vo, mo, mk⟩ => mk) [6, 7, 8, 25, 37] (fun ⟨v, vo, mo, mk⟩ => [(26, .int .i64 (v : Int))]) (fun ⟨v, vo, mo, mk⟩ => [mks mk, [(b8, blk [vo] 28)], mo, [(b23, blk (boolsG (ordGo n (fun v : Nat => nbrs (v : Int) l) v).2) 4)], [(bo, blk vs 28)], ms.flatten, [(b1, blk [.int .i64 (n : Int), .slice A l.length cap] 24)]]) (fun ⟨v, vo, mo, mk⟩ => v ≤ n ∧ Own 3 1 vo (ordGo n (fun v : Nat => nbrs (v : Int) l) v).1.length (ints (ordGo n (fun v : Nat => nbrs (v : Int) l) v).1) mo) (fun ⟨v, vo, mo, mk⟩ => n - v) (0, .slice none 0 0, [], []) rfl ?_ ?_ ?_ ?_
      · exact (by repeat (first | exact trivial | refine ⟨rfl, ?_⟩))
      · repeat (first | exact Sub.nil | refine Sub.pick ?_ | refine Sub.castO rfl ?_ | refine Sub.skip ?_)
      · exact ⟨Nat.zero_le _, Own.nil _ _⟩
      · rintro ⟨v, vo, mo, mk⟩ ⟨hvn, hO⟩
        obtain ⟨hbl, hol⟩ := ordGo_small hrng hn1 hvn
        obtain ⟨Ao, co, rfl, hco⟩ := hO.val
        dsimp only
        refine r_envC (e := [(26, _), (6, _), (7, _), (8, _), (25, _)]) (by repeat (first | exact trivial | refine ⟨rfl, ?_⟩)) ?_
        refine r_seq fun K10 kh10 => ?_
        refine r_region ?_
        refine r_stepP rfl rfl rfl rfl (o_lss rfl rfl) ?_
        refine r_done ?_
        refine r_tn (kh10 _ _ _ ?_)
        clear kh10
        refine r_seq fun K11 kh11 => ?_
        refine r_cond rfl (fun c27 => ?_) (fun c27 => ?_)
        · skip
          have hv : v < n := by omega
          refine r_skip ?_
          refine r_tn (kh11 _ _ _ ?_)
          clear kh11
          refine r_seq fun K12 kh12 => ?_
          refine r_block ?_
          refine r_seq fun K13 kh13 => ?_
          refine r_region ?_
          refine r_stepP rfl rfl rfl rfl (o_move rfl) ?_
          refine r_stepP rfl rfl rfl rfl (o_assign rfl) ?_
          refine r_done ?_
          refine r_tn (kh13 _ _ _ ?_)
          clear kh13
          refine r_seq fun K14 kh14 => ?_
          refine r_seq fun K15 kh15 => ?_
          refine r_region ?_
          refine r_stepP rfl rfl rfl rfl (o_move rfl) ?_
          refine r_stepP rfl rfl rfl rfl (o_move rfl) ?_
          refine r_stepP rfl rfl rfl rfl (o_idx sl37 rfl rfl (v) ⟨by omega, by omega, by first | omega | (simp; done) | (simp; omega)⟩) ?_
          refine r_stepP rfl rfl rfl rfl (o_load Try.isAgg4 rfl (rdA (boolsG_at (by omega)))) ?_
          refine r_done ?_
          refine r_tn (kh15 _ _ _ ?_)
          clear kh15
          refine r_condB rfl (fun c32 => ?_) (fun c32 => ?_)
          · skip
            refine r_exit ?_
            refine r_te ?_
            clear kh14
            refine r_be ?_
            refine r_tn (kh12 _ _ _ ?_)
            clear kh12
            refine r_region ?_
            refine r_stepP rfl rfl rfl rfl (o_add rfl rfl _ (wrap_i64 (by omega))) ?_
            refine r_stepP rfl rfl rfl rfl (o_move rfl) ?_
            refine r_done ?_
            have hsame : ordGo n (fun v : Nat => nbrs (v : Int) l) (v + 1) = (ordGo n (fun v : Nat => nbrs (v : Int) l) v) := if_pos c32
            rw [← hsame]
            refine r_tn (r_again (v + 1, .slice Ao (ordGo n (fun v : Nat => nbrs (v : Int) l) (v + 1)).1.length co, mo, mk) (by first | omega | (dsimp only; omega) | (simp; omega)) rfl ⟨by omega, by rw [hsame]; exact hO⟩ ?_ ?_ ?_)
            · exact (by repeat (first | exact trivial | refine ⟨rfl, ?_⟩))
            · exact (by repeat (first | exact trivial | refine ⟨rfl, ?_⟩))
            · repeat (first | exact Sub.nil | refine Sub.pick ?_ | refine Sub.castO rfl ?_ | refine Sub.skip ?_)
          · skip
            have hFI := bfs_inv hrng hbl hv
            have hFo := hFI.out
            refine r_skip ?_
            refine r_tn (kh14 _ _ _ ?_)
            clear kh14
            refine r_seq fun K16 kh16 => ?_
            refine r_region ?_
            refine r_stepP rfl rfl rfl rfl (o_move rfl) ?_
            refine r_stepP rfl rfl rfl rfl (o_move rfl) ?_
            refine r_stepP rfl rfl rfl rfl (o_move rfl) ?_
            refine r_step rfl rfl rfl (Does.toR rfl (o_call Try.call24 rfl (fun w_ hp_ => around_spec n bo b23 (v : Int) w_) ?_))
            rintro _ _ ⟨q3, q4, q5, rfl, rfl⟩
            dsimp only [List.cons_append, List.nil_append]
            refine r_done ?_
            refine r_tn (kh16 _ _ _ ?_)
            clear kh16
            refine r_block ?_
            refine r_range (p := 37) (lb := [.pointer (some ⟨q5, 0, none⟩), .pointer (some ⟨q4, 0, none⟩), .pointer (some ⟨q3, 0, none⟩)]) rfl Try.call42 rfl [[(b8, blk [.slice Ao (ordGo n (fun v : Nat => nbrs (v : Int) l) v).1.length co] 28)], mo] [[(q5, blk [.slice (some ⟨b23, 0, none⟩) n n] 37)], [(q4, blk [.int .i64 (v : Int)] 3)], [(q3, blk [.slice (some ⟨bo, 0, none⟩) n n] 55)], [(b23, blk (boolsG (ordGo n (fun v : Nat => nbrs (v : Int) l) v).2) 4)], [(bo, blk vs 28)], ms.flatten] [mks mk, [(b1, blk [.int .i64 (n : Int), .slice A l.length cap] 24)]] (by repeat (first | exact Sub.refl | exact Sub.nil | refine Sub.pick ?_ | refine Sub.castO rfl ?_ | refine Sub.skip ?_)) (fun y : Int => Value.int .i64 y) (may := arMay (bfs n (fun v : Nat => nbrs (v : Int) l) v (ordGo n (fun v : Nat => nbrs (v : Int) l) v).2)) (Fin := arFin (bfs n (fun v : Nat => nbrs (v : Int) l) v (ordGo n (fun v : Nat => nbrs (v : Int) l) v).2) n v b23 bo q3 q4 q5 vs ms.flatten) (Stp := arStp (bfs n (fun v : Nat => nbrs (v : Int) l) v (ordGo n (fun v : Nat => nbrs (v : Int) l) v).2) n v b23 bo q3 q4 q5 vs ms.flatten) (fun w1_ m0_ hp_ => around1_iter n v b23 bo q3 q4 q5 l (ordGo n (fun v : Nat => nbrs (v : Int) l) v).2 vs ms m0_ w1_ hbl hv hn1 hR hrng hrl) (fun ys m => ∃ vo mo, m = [(b8, blk [vo] 28)] ++ mo ∧ Own 3 1 vo ((ordGo n (fun v : Nat => nbrs (v : Int) l) v).1 ++ ys).length (ints ((ordGo n (fun v : Nat => nbrs (v : Int) l) v).1 ++ ys)) mo) (fun _ _ => False) (.ret) (⟨.slice Ao (ordGo n (fun v : Nat => nbrs (v : Int) l) v).1.length co, mo, by simp, by rw [List.append_nil]; exact hO⟩) ?_ ?_ ?_
            · intro w1_ l_ d_ ys y m_ hI hmay hfr K_ kh_
              obtain ⟨vo, mo, rfl, hO⟩ := hI
              have hyl := mayLen hmay
              obtain ⟨Ao, co, rfl, hco⟩ := hO.val
              have hal : ((ordGo n (fun v : Nat => nbrs (v : Int) l) v).1 ++ ys).length = (ordGo n (fun v : Nat => nbrs (v : Int) l) v).1.length + ys.length := List.length_append
              refine r_subC (Sub.op3 (parts := [[(b8, blk [.slice Ao ((ordGo n (fun v : Nat => nbrs (v : Int) l) v).1 ++ ys).length co] 28)], mo]) (by simp) Sub.refl) ?_
              dsimp only [List.cons_append, List.nil_append]
              refine r_region ?_
              refine r_stepP rfl rfl rfl rfl (o_assign rfl) ?_
              refine r_done ?_
              refine r_tn (kh_ _ _ ?_)
              clear kh_
              refine r_block ?_
              refine r_region ?_
              refine r_stepP rfl rfl rfl rfl (o_load Try.isAgg28 rfl (rdA rfl)) ?_
              refine r_stepP rfl rfl rfl rfl (o_move rfl) ?_
              refine r_step rfl rfl rfl (Does.toR rfl (o_slice1 el28 (by omega) rfl rfl rfl fun b40 => ?_))
              refine r_step rfl rfl rfl (Does.toR rfl (o_append el28 rfl rfl hO (ys := [.int .i64 y]) ⟨(rdA rfl), trivial⟩ rfl rfl (by omega) (by omega) fun v41 m41 o41 => ?_))
              obtain ⟨A41, c41, rfl, _⟩ := o41.val
              refine r_step0 rfl rfl (Does.toR rfl (o_store Try.sizeOf28 rfl rfl rfl rfl (by first | exact Nat.le_of_ble_eq_true rfl | (simp; done) | (simp; omega)) [.slice A41 (((ordGo n (fun v : Nat => nbrs (v : Int) l) v).1 ++ ys).length + 1) c41] rfl ?_))
              refine r_done ?_
              refine r_bn ?_
              exact r_roundEnd (m' := [(b8, blk [.slice A41 (((ordGo n (fun v : Nat => nbrs (v : Int) l) v).1 ++ ys).length + 1) c41] 28)] ++ m41) (Sub.reg (out := [[(l_, .loop (d_.rc .busy none))], [(d_.D, .deferred (some []))], [(b8, blk [.slice A41 (((ordGo n (fun v : Nat => nbrs (v : Int) l) v).1 ++ ys).length + 1) c41] 28)], m41]) (by repeat (first | exact Sub.nil | refine Sub.pick ?_ | refine Sub.castO rfl ?_ | refine Sub.skip ?_)) (by simp)) ⟨_, m41, rfl, by rw [← List.append_assoc, ← ints_len1']; exact o41⟩
            · intro D_ ys m_ o_ hF hI
              obtain ⟨vo2, mo2, rfl, hO2⟩ := hI
              obtain ⟨A2, c2, rfl, hco2⟩ := hO2.val
              obtain ⟨hF1, rfl⟩ := hF
              have hnew : ordGo n (fun v : Nat => nbrs (v : Int) l) (v + 1) = ((ordGo n (fun v : Nat => nbrs (v : Int) l) v).1 ++ ys, (bfs n (fun v : Nat => nbrs (v : Int) l) v (ordGo n (fun v : Nat => nbrs (v : Int) l) v).2).2) := by rw [hF1]; exact if_neg (by rw [c32]; simp)
              refine r_subQ (Sub.reg (out := [[(D_, .deferred (some []))], mks mk, [(b8, blk [.slice A2 ((ordGo n (fun v : Nat => nbrs (v : Int) l) v).1 ++ ys).length c2] 28)], mo2, [(b23, blk (boolsG (bfs n (fun v : Nat => nbrs (v : Int) l) v (ordGo n (fun v : Nat => nbrs (v : Int) l) v).2).2) 4)], [(bo, blk vs 28)], ms.flatten, [(b1, blk [.int .i64 (n : Int), .slice A l.length cap] 24)]]) (out' := [mks (D_ :: mk), [(b8, blk [.slice A2 ((ordGo n (fun v : Nat => nbrs (v : Int) l) v).1 ++ ys).length c2] 28)], mo2, [(b23, blk (boolsG (bfs n (fun v : Nat => nbrs (v : Int) l) v (ordGo n (fun v : Nat => nbrs (v : Int) l) v).2).2) 4)], [(bo, blk vs 28)], ms.flatten, [(b1, blk [.int .i64 (n : Int), .slice A l.length cap] 24)]]) (Sub.op2 (parts := [[(b8, blk [.slice A2 ((ordGo n (fun v : Nat => nbrs (v : Int) l) v).1 ++ ys).length c2] 28)], mo2]) (by simp) (by dsimp only [List.cons_append, List.nil_append]; repeat (first | exact Sub.nil | refine Sub.pick ?_ | refine Sub.castO rfl ?_ | refine Sub.skip ?_))) (by simp [mks])) ?_
              refine r_bn ?_
              refine r_bn ?_
              refine r_tn (kh12 _ _ _ ?_)
              clear kh12
              refine r_region ?_
              refine r_stepP rfl rfl rfl rfl (o_add rfl rfl _ (wrap_i64 (by omega))) ?_
              refine r_stepP rfl rfl rfl rfl (o_move rfl) ?_
              refine r_done ?_
              rw [show (bfs n (fun v : Nat => nbrs (v : Int) l) v (ordGo n (fun v : Nat => nbrs (v : Int) l) v).2).2 = (ordGo n (fun v : Nat => nbrs (v : Int) l) (v + 1)).2 from by rw [hnew]]
              refine r_tn (r_again (v + 1, .slice A2 ((ordGo n (fun v : Nat => nbrs (v : Int) l) v).1 ++ ys).length c2, mo2, D_ :: mk) (by first | omega | (dsimp only; omega) | (simp; omega)) rfl ⟨by omega, by rw [hnew]; exact hO2⟩ ?_ ?_ ?_)
              · exact (by repeat (first | exact trivial | refine ⟨rfl, ?_⟩))
              · exact (by repeat (first | exact trivial | refine ⟨rfl, ?_⟩))
              · repeat (first | exact Sub.nil | refine Sub.pick ?_ | refine Sub.castO rfl ?_ | refine Sub.skip ?_)
            · intro D_ ys m_ o_ hF hI
              exact hI.elim
        · skip
          obtain rfl : n = v := by omega
          refine r_exit ?_
          refine r_te ?_
          clear kh11
          refine r_te ?_
          refine r_be ?_
          refine r_tn (kh8 _ _ _ ?_)
          clear kh8
          refine r_seq fun K17 kh17 => ?_
          refine r_region ?_
          refine r_stepP rfl rfl rfl rfl (o_load Try.isAgg28 rfl (rdA rfl)) ?_
          refine r_stepP rfl rfl rfl rfl (o_assign rfl) ?_
          refine r_stepP rfl rfl rfl rfl (o_assign rfl) ?_
          refine r_done ?_
          refine r_tn (kh17 _ _ _ ?_)
          clear kh17
          refine r_ret ?_
          exact r_fin2 [mo] Try.results21 rfl rfl (by repeat (first | exact Sub.nil | refine Sub.pick ?_ | refine Sub.castO rfl ?_ | refine Sub.skip ?_)) ⟨.slice Ao (ordGo n (fun v : Nat => nbrs (v : Int) l) n).1.length co, mo, by rw [hres], rfl, by rw [hres]; exact hO⟩

end Go.Proofs.Ytlllpmafhnfihaa
