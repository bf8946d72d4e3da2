/- flyoverlaw07.GrowNearest. -/
import Derived.Test.YtlllpmafhnfihaaFGrL
import Derived.Test.YtlllpmafhnfihaaPGrow5
import Derived.Test.YtlllpmafhnfihaaFNear3
namespace Go.Proofs.Ytlllpmafhnfihaa
open Go Go.RowKit Fly
set_option linter.unusedVariables false
set_option linter.unusedSimpArgs false


theorem trn_false (l : List Arc) : l.map (trn false) = l := by
  induction l with
  | nil => rfl
  | cons x l ih => rw [List.map_cons, ih]; rfl
theorem nlook_both {n : Nat} {l : List Arc} {cn : Nat} (hg : (gcheck (n : Int) (bothL l)).2 = 0) (hc : cn < n) : nlooked (n : Int) (bothL l) [(cn : Int)] = 0 := by
  unfold nlooked; rw [if_neg (by rw [hg]; simp), if_neg (by simp; omega)]
/-- The distance of the last of the first k. -/
def lastD (D : List Int) (L : List Int) : Nat → Int
  | 0 => 0
  | k + 1 => dg D (L.getD k 0).toNat
structure NearF (n : Nat) (l : List Arc) (D L : List Int) (mn : Nat) : Prop where
  mono : ∀ k (h : k < L.length), lastD D L k ≤ dg D L[k].toNat
  fin : ∀ k (h : k < L.length), dg D L[k].toNat < INF
  far : ∀ v, v < n → (v : Int) ∉ L → lastD D L L.length ≤ dg D v
  full : ∀ v, v < n → (v : Int) ∉ L → dg D v < INF → mn ≤ L.length
theorem near_f {n : Nat} {l : List Arc} {cn mn : Nat} {L D : List Int} (hg : (gcheck (n : Int) l).2 = 0) (hok : RegOk n l cn mn L) (hD : IsD n (bothL l) (fun _ => true) cn D) : NearF n l D L mn := by
  obtain ⟨E, hEl, hEr, hEd, hEo⟩ := lev_is hg hok.c hD
  have hI := bfs_inv (nbrs_rngG hg).2 (b := List.replicate n false) (by simp) hok.c
  have hL := hok.is
  have hn := gcheck_zero hg
  generalize hF : bfs n (fun v : Nat => nbrs (v : Int) l) cn (List.replicate n false) = F at *
  have hout := hI.out
  have hLl : L.length = min mn F.1.length := by rw [hL, List.length_take]
  have hLi : ∀ i (h : i < L.length), ∃ h' : i < F.1.length, L[i] = F.1[i] := fun i h => by
    subst hL; exact ⟨by omega, List.getElem_take⟩
  have hd : ∀ i (h : i < L.length), ∃ h' : i < E.length, dg D L[i].toNat = (E[i] : Int) ∧ E[i] ≤ i := fun i h => by
    obtain ⟨h', e⟩ := hLi i h
    have := hEd i h' (by omega)
    rw [e]; exact ⟨by omega, this⟩
  have hlast : ∀ k, k < L.length → ∃ h' : k < E.length, lastD D L (k + 1) = (E[k] : Int) := fun k h => by
    obtain ⟨h', e, _⟩ := hd k h
    refine ⟨h', ?_⟩
    show dg D (L.getD k 0).toNat = _
    rw [List.getD_eq_getElem?_getD, List.getElem?_eq_getElem h]; exact e
  have hidx : ∀ v, v < n → (v : Int) ∉ L → (∃ i, ∃ h : i < F.1.length, L.length ≤ i ∧ F.1[i] = (v : Int)) ∨ dg D v = INF := fun v hv hnot => by
    by_cases hm : (v : Int) ∈ F.1
    · obtain ⟨i, hi, e⟩ := List.mem_iff_getElem.1 hm
      refine .inl ⟨i, hi, ?_, e⟩
      rcases Nat.lt_or_ge i L.length with h | h
      · obtain ⟨_, e2⟩ := hLi i h
        exact absurd (by rw [← e, ← e2]; exact List.getElem_mem h) hnot
      · exact h
    · exact .inr (hEo v hv hm)
  refine ⟨fun k h => ?_, fun k h => ?_, fun v hv hnot => ?_, fun v hv hnot hlt => ?_⟩
  · obtain ⟨h', e, _⟩ := hd k h
    cases k with
    | zero => show (0 : Int) ≤ _; rw [e]; omega
    | succ k =>
      obtain ⟨h2, e2⟩ := hlast k (by omega)
      rw [e2, e]
      have := List.pairwise_iff_getElem.1 hEr k (k + 1) h2 h' (by omega)
      omega
  · obtain ⟨h', e, h2⟩ := hd k h
    rw [e]; unfold INF; omega
  · rcases hidx v hv hnot with ⟨i, hi, hLe, e⟩ | hinf
    · have h1 := (hEd i hi (by omega)).1
      rw [e, Int.toNat_natCast] at h1
      rw [h1]
      rcases Nat.eq_zero_or_pos L.length with h0 | h0
      · rw [h0]; show (0 : Int) ≤ _; omega
      · obtain ⟨q, hq⟩ : ∃ q, L.length = q + 1 := ⟨L.length - 1, by omega⟩
        rw [hq]
        obtain ⟨h2, e2⟩ := hlast q (by omega)
        rw [e2]
        have := List.pairwise_iff_getElem.1 hEr q i h2 (by omega) (by omega)
        omega
    · rw [hinf]
      rcases Nat.eq_zero_or_pos L.length with h0 | h0
      · rw [h0]; show (0 : Int) ≤ _; decide
      · obtain ⟨q, hq⟩ : ∃ q, L.length = q + 1 := ⟨L.length - 1, by omega⟩
        rw [hq]
        obtain ⟨h2, e2⟩ := hlast q (by omega)
        have := (hd q (by omega)).2.2
        rw [e2]; unfold INF; omega
  · rcases hidx v hv hnot with ⟨i, hi, hLe, e⟩ | hinf
    · omega
    · rw [hinf] at hlt; exact absurd hlt (by omega)
theorem reg_less {n : Nat} {l : List Arc} {cn mn : Nat} {L : List Int} (hg : (gcheck (n : Int) l).2 = 0) (hok : RegOk n l cn mn L) (h1 : 1 < mn) : (regR (n : Int) l (cn : Int) ((mn : Int) - 1)).2 = 0 ∧ (regR (n : Int) l (cn : Int) ((mn : Int) - 1)).1 = L.take (mn - 1) := by
  have hm := hok.m
  have hc := hok.c
  rw [rreg_is (n := n) (cn := cn) rfl rfl hg (by omega) (by omega), hok.is, List.take_take, show min (mn - 1) mn = mn - 1 by omega, show ((mn : Int) - 1).toNat = mn - 1 by omega]
  exact ⟨rfl, rfl⟩

set_option maxRecDepth 100000 in
set_option maxHeartbeats 4000000 in
theorem GrowNearest_spec (N : Int) (A : Option Addr) (l : List Arc) (cap : Nat) (c most : Int) (w : World) (hr : Ro (Fr w []) w A (l.flatMap arcCs)) (hl : l.length ≤ 9223372036854775807) (hN : I64 N) (hok : ∀ x ∈ l, ArcOk x) :
    Meets Try.prog 6 [.agg #[.int .i64 N, .slice A l.length cap], .int .i64 c, .int .i64 most] w [] (fun u m => u = .bool true ∧ m = []) := by
  refine f_enter Try.func6 rfl Try.ntmps6 rfl Owns.nil ?_
  refine f_seq fun K1 kh1 => ?_
  refine f_region ?_
  refine f_step rfl rfl rfl (o_box rfl rfl fun b3 => ?_)
  refine f_stepP rfl rfl rfl (o_assign rfl) ?_
  refine f_done ?_
  refine f_tn (kh1 _ _ ?_)
  clear kh1
  refine f_seq fun K2 kh2 => ?_
  refine f_seq fun K3 kh3 => ?_
  refine f_region ?_
  refine f_step rfl rfl rfl (o_call Try.call8 rfl (fun w_ hp_ => works_spec w_) ?_)
  rintro _ _ ⟨rfl, rfl⟩
  dsimp only [List.cons_append, List.nil_append]
  refine f_stepP rfl rfl rfl (o_not rfl) ?_
  refine f_done ?_
  refine f_tn (kh3 _ _ ?_)
  clear kh3
  refine f_condF rfl ?_
  refine f_skip ?_
  refine f_tn (kh2 _ _ ?_)
  clear kh2
  refine f_seq fun K4 kh4 => ?_
  refine f_seq fun K5 kh5 => ?_
  refine f_region ?_
  refine f_stepP rfl rfl rfl (o_loadA (vs := [_, _]) Try.isAgg24 Try.sizeOf24 rfl rfl ⟨(rdA rfl), (rdA rfl), trivial⟩) ?_
  refine f_step rfl rfl rfl (o_call Try.call7 rfl (fun w_ hp_ => large_spec N A l cap w_ hl) ?_)
  rintro _ _ ⟨bL, rfl, rfl⟩
  dsimp only [List.cons_append, List.nil_append]
  refine f_done ?_
  refine f_tn (kh5 _ _ ?_)
  clear kh5
  refine f_condB rfl (fun c24 => ?_) (fun c24 => ?_)
  · skip
    refine f_seq fun K6 kh6 => ?_
    refine f_region ?_
    refine f_stepP rfl rfl rfl (o_assign rfl) ?_
    refine f_done ?_
    refine f_tn (kh6 _ _ ?_)
    clear kh6
    refine f_ret ?_
    refine f_tr ?_
    exact f_fin1 [] Try.results6 rfl Sub.nil ⟨rfl, rfl⟩
  · skip
    refine f_skip ?_
    refine f_tn (kh4 _ _ ?_)
    clear kh4
    refine f_seq fun K7 kh7 => ?_
    refine f_region ?_
    refine f_stepP rfl rfl rfl (o_loadA (vs := [_, _]) Try.isAgg24 Try.sizeOf24 rfl rfl ⟨(rdA rfl), (rdA rfl), trivial⟩) ?_
    refine f_stepP rfl rfl rfl (o_move rfl) ?_
    refine f_stepP rfl rfl rfl (o_move rfl) ?_
    refine f_step rfl rfl rfl (o_call Try.call10 rfl (fun w_ hp_ => Region_spec N A l cap c most w_ (hr.up0 hp_) hl hN hok) ?_)
    rintro _ _ ⟨s31, m31, rfl, rfl, o31⟩
    have hrl := regR_len (N := N) (l := l) (c := c) (most := most)
    obtain ⟨A31, c31, rfl, _⟩ := o31.val
    dsimp only [List.cons_append, List.nil_append]
    refine f_stepP rfl rfl rfl (o_move rfl) ?_
    refine f_stepP rfl rfl rfl (o_extract rfl rfl) ?_
    refine f_stepP rfl rfl rfl (o_extract rfl rfl) ?_
    refine f_stepP rfl rfl rfl (o_assign rfl) ?_
    refine f_stepP rfl rfl rfl (o_assign rfl) ?_
    refine f_done ?_
    refine f_tn (kh7 _ _ ?_)
    clear kh7
    refine f_seq fun K8 kh8 => ?_
    refine f_seq fun K9 kh9 => ?_
    refine f_region ?_
    refine f_stepP rfl rfl rfl (o_move rfl) ?_
    refine f_stepP rfl rfl rfl (o_neq rfl rfl) ?_
    refine f_done ?_
    refine f_tn (kh9 _ _ ?_)
    clear kh9
    refine f_cond rfl (fun c33 => ?_) (fun c33 => ?_)
    · skip
      have he := regR_err c33
      have hl0 : (regR N l c most).1.length = 0 := by rw [he]; rfl
      refine f_seq fun K10 kh10 => ?_
      refine f_region ?_
      refine f_stepP rfl rfl rfl (o_move rfl) ?_
      refine f_stepP rfl rfl rfl (o_len sl28 rfl) ?_
      refine f_stepP rfl rfl rfl (o_eql rfl rfl) ?_
      refine f_stepP rfl rfl rfl (o_assign rfl) ?_
      refine f_done ?_
      refine f_tn (kh10 _ _ ?_)
      clear kh10
      refine f_ret ?_
      refine f_tr ?_
      exact f_fin1 [] Try.results6 rfl Sub.nil ⟨by rw [decide_eq_true (by omega)], rfl⟩
    · skip
      have h0 : (regR N l c most).2 = 0 := by simpa using c33
      obtain ⟨hg, n, cn, mn, rfl, rfl, rfl, hok1⟩ := reg_ok h0
      obtain ⟨L, hL⟩ : ∃ L, L = (regR (n : Int) l (cn : Int) (mn : Int)).1 := ⟨_, rfl⟩
      rw [← hL] at hok1 o31 hrl ⊢
      obtain ⟨hN1, hN2, hlen, hgood⟩ := gcheck_zero hg
      have hbl := bothL_len l
      obtain ⟨h00, e00⟩ := reg_head hg hok1
      have hm12 := hok1.m
      have hLm : L.length ≤ mn := by rw [hok1.is, List.length_take]; omega
      obtain ⟨_, _, e31_, hc31⟩ := o31.val
      cases e31_
      obtain ⟨bl, cl, sl, e31, rfl⟩ := o31.block h00
      cases e31
      refine f_skip ?_
      refine f_tn (kh8 _ _ ?_)
      clear kh8
      refine f_seq fun K11 kh11 => ?_
      refine f_region ?_
      refine f_stepP rfl rfl rfl (o_field fa24_0 rfl) ?_
      refine f_stepP rfl rfl rfl (o_load Try.isAgg3 rfl (rdA rfl)) ?_
      refine f_stepP rfl rfl rfl (o_build st24 rfl rfl) ?_
      refine f_step rfl rfl rfl (o_alloc Try.zeroValue24 rfl fun b9 => ?_)
      refine f_step0 rfl rfl (o_storeA Try.sizeOf24 rfl rfl rfl rfl (by first | exact Nat.le_of_ble_eq_true rfl | (simp; done) | (simp; omega)) [.int .i64 (n : Int), .slice none 0 0] rfl ?_)
      refine f_done ?_
      refine f_tn (kh11 _ _ ?_)
      clear kh11
      refine f_seq fun K12 kh12 => ?_
      refine f_seq fun K13 kh13 => ?_
      refine f_region ?_
      refine f_stepP rfl rfl rfl (o_field fa24_1 rfl) ?_
      refine f_stepP rfl rfl rfl (o_load Try.isAgg22 rfl (rdA rfl)) ?_
      refine f_stepP rfl rfl rfl (o_len sl22 rfl) ?_
      refine f_stepP rfl rfl rfl (o_move rfl) ?_
      refine f_done ?_
      refine f_tn (kh13 _ _ ?_)
      clear kh13
      refine f_block ?_
      refine f_loop (α := Nat × Value × Seg) [1, 2, 3, 7, 9, 41, 42] (fun ⟨k, ov, om⟩ => [(43, .int .i64 (k : Int))]) (fun ⟨k, ov, om⟩ => [[(bl, blk (ints L ++ sl) 3)], [(b9, blk [.int .i64 (n : Int), ov] 24)], om, [(b3, blk [.int .i64 (n : Int), .slice A l.length cap] 24)]]) (fun ⟨k, ov, om⟩ => k ≤ l.length ∧ Own 44 3 ov (bothL (l.take k)).length ((bothL (l.take k)).flatMap arcCs) om) (fun ⟨k, ov, om⟩ => l.length - k) (0, .slice none 0 0, []) ?_ ?_ ?_ ?_
      · exact (by repeat (first | exact trivial | refine ⟨rfl, ?_⟩))
      · repeat (first | exact Sub.nil | refine Sub.pick ?_ | refine Sub.castO rfl ?_ | refine Sub.skip ?_)
      · exact ⟨Nat.zero_le _, Own.nil _ _⟩
      · rintro ⟨k, ov, om⟩ ⟨hkl, hO⟩
        have hbk := bothL_len (l.take k)
        rw [List.length_take] at hbk
        obtain ⟨A9, c9, rfl, hc9⟩ := hO.val
        refine f_seq fun K14 kh14 => ?_
        refine f_region ?_
        refine f_stepP rfl rfl rfl (o_lss rfl rfl) ?_
        refine f_done ?_
        refine f_tn (kh14 _ _ ?_)
        clear kh14
        refine f_seq fun K15 kh15 => ?_
        refine f_cond rfl (fun c44 => ?_) (fun c44 => ?_)
        · skip
          have hk : k < l.length := by omega
          obtain ⟨bq, off, rfl, hS, hc⟩ := hr (flat_ne arcCs arcCs_len (by omega) hk)
          refine f_skip ?_
          refine f_tn (kh15 _ _ ?_)
          clear kh15
          refine f_seq fun K16 kh16 => ?_
          refine f_block ?_
          refine f_seq fun K17 kh17 => ?_
          refine f_region ?_
          refine f_stepP rfl rfl rfl (o_idx sl22 rfl rfl (off + k * 3) ⟨by omega, by omega, by first | omega | (simp; done) | (simp; omega)⟩) ?_
          refine f_stepP rfl rfl rfl (o_loadA (vs := arcCs l[k]) Try.isAgg44 Try.sizeOf44 rfl rfl (roElem arcCs_len hS hc hk)) ?_
          refine f_step rfl rfl rfl (o_alloc Try.zeroValue44 rfl fun b11 => ?_)
          refine f_step0 rfl rfl (o_storeA Try.sizeOf44 rfl rfl rfl rfl (by first | exact Nat.le_of_ble_eq_true rfl | (simp; done) | (simp; omega)) (arcCs l[k]) rfl ?_)
          refine f_done ?_
          refine f_tn (kh17 _ _ ?_)
          clear kh17
          refine f_region ?_
          refine f_stepP rfl rfl rfl (o_field fa24_1 rfl) ?_
          refine f_stepP rfl rfl rfl (o_load Try.isAgg22 rfl (rdA rfl)) ?_
          refine f_stepP rfl rfl rfl (o_field fa44_0 rfl) ?_
          refine f_stepP rfl rfl rfl (o_load Try.isAgg3 rfl (rdA rfl)) ?_
          refine f_stepP rfl rfl rfl (o_field fa44_1 rfl) ?_
          refine f_stepP rfl rfl rfl (o_load Try.isAgg3 rfl (rdA rfl)) ?_
          refine f_stepP rfl rfl rfl (o_build (cs := arcCs ⟨l[k].src, l[k].dst, 1⟩) st44 rfl rfl) ?_
          refine f_stepP rfl rfl rfl (o_field fa44_1 rfl) ?_
          refine f_stepP rfl rfl rfl (o_load Try.isAgg3 rfl (rdA rfl)) ?_
          refine f_stepP rfl rfl rfl (o_field fa44_0 rfl) ?_
          refine f_stepP rfl rfl rfl (o_load Try.isAgg3 rfl (rdA rfl)) ?_
          refine f_stepP rfl rfl rfl (o_build (cs := arcCs ⟨l[k].dst, l[k].src, 1⟩) st44 rfl rfl) ?_
          refine f_step rfl rfl rfl (o_sliceN (len := 2) el22 (by omega) rfl (show _ = some (arcCs ⟨l[k].src, l[k].dst, 1⟩ ++ arcCs ⟨l[k].dst, l[k].src, 1⟩).toArray from rfl) fun b59 => ?_)
          refine f_step rfl rfl rfl (o_append el22 rfl rfl hO (ys := arcCs ⟨l[k].src, l[k].dst, 1⟩ ++ arcCs ⟨l[k].dst, l[k].src, 1⟩) ⟨(rdA rfl), (rdA rfl), (rdA rfl), (rdA rfl), (rdA rfl), (rdA rfl), trivial⟩ rfl rfl (by omega) (by omega) fun v60 m60 o60 => ?_)
          obtain ⟨A60, c60, rfl, _⟩ := o60.val
          refine f_stepP rfl rfl rfl (o_field fa24_1 rfl) ?_
          refine f_step0 rfl rfl (o_store Try.sizeOf22 rfl rfl rfl rfl (by first | exact Nat.le_of_ble_eq_true rfl | (simp; done) | (simp; omega)) [.int .i64 (n : Int), .slice A60 ((bothL (l.take k)).length + 2) c60] rfl ?_)
          refine f_done ?_
          refine f_bn ?_
          refine f_tn (kh16 _ _ ?_)
          clear kh16
          refine f_region ?_
          refine f_stepP rfl rfl rfl (o_add rfl rfl _ (wrap_i64 (by omega))) ?_
          refine f_stepP rfl rfl rfl (o_move rfl) ?_
          refine f_done ?_
          refine f_tn (f_again (k + 1, .slice A60 ((bothL (l.take k)).length + 2) c60, m60) (by first | omega | (dsimp only; omega) | (simp; omega)) ⟨by omega, by rw [bothL_next hk, List.flatMap_append, List.length_append]; exact o60⟩ ?_ ?_ ?_)
          · exact (by repeat (first | exact trivial | refine ⟨rfl, ?_⟩))
          · exact (by repeat (first | exact trivial | refine ⟨rfl, ?_⟩))
          · repeat (first | exact Sub.nil | refine Sub.pick ?_ | refine Sub.castO rfl ?_ | refine Sub.skip ?_)
        · skip
          obtain rfl : k = l.length := by omega
          rw [List.take_length] at hO hbk ⊢
          refine f_exit ?_
          refine f_te ?_
          clear kh15
          refine f_te ?_
          refine f_be ?_
          refine f_tn (kh12 _ _ ?_)
          clear kh12
          refine f_seq fun K18 kh18 => ?_
          refine f_seq fun K19 kh19 => ?_
          refine f_region ?_
          refine f_stepP rfl rfl rfl (o_field fa24_1 rfl) ?_
          refine f_stepP rfl rfl rfl (o_load Try.isAgg22 rfl (rdA rfl)) ?_
          refine f_stepP rfl rfl rfl (o_len sl22 rfl) ?_
          refine f_stepP rfl rfl rfl (o_gtr rfl rfl) ?_
          refine f_done ?_
          refine f_tn (kh19 _ _ ?_)
          clear kh19
          refine f_cond rfl (fun c66 => ?_) (fun c66 => ?_)
          · skip
            refine f_seq fun K20 kh20 => ?_
            refine f_region ?_
            refine f_stepP rfl rfl rfl (o_assign rfl) ?_
            refine f_done ?_
            refine f_tn (kh20 _ _ ?_)
            clear kh20
            refine f_ret ?_
            refine f_tr ?_
            exact f_fin1 [] Try.results6 rfl Sub.nil ⟨rfl, rfl⟩
          · skip
            obtain ⟨hgb, hokb⟩ := bothL_ok hg (by omega)
            refine f_skip ?_
            refine f_tn (kh18 _ _ ?_)
            clear kh18
            refine f_seq fun K21 kh21 => ?_
            refine f_region ?_
            refine f_stepP rfl rfl rfl (o_loadA (vs := [_, _]) Try.isAgg24 Try.sizeOf24 rfl rfl ⟨(rdA rfl), (rdA rfl), trivial⟩) ?_
            refine f_stepP rfl rfl rfl (o_move rfl) ?_
            refine f_step rfl rfl rfl (o_call Try.call22 rfl (fun w_ hp_ => From_spec (n : Int) A9 (bothL l) c9 (cn : Int) w_ (seen_ro (hO.seen hp_)) (by omega) hN hokb) ?_)
            rintro _ _ ⟨v70, m70, D, rfl, rfl, hoD, hD1, hD0⟩
            rw [nlook_both hgb hok1.c] at hD0 ⊢
            obtain ⟨hD, _⟩ := hD0 rfl
            rw [Int.toNat_natCast, Int.toNat_natCast, trn_false] at hD
            have hDl := hD.len
            obtain ⟨A70, c70, rfl, _⟩ := hoD.val
            obtain ⟨bD, spD, rfl, rfl⟩ := hoD.at_ (by omega)
            have hNF := near_f hg hok1 hD
            dsimp only [List.cons_append, List.nil_append]
            refine f_stepP rfl rfl rfl (o_move rfl) ?_
            refine f_stepP rfl rfl rfl (o_extract rfl rfl) ?_
            refine f_stepP rfl rfl rfl (o_extract rfl rfl) ?_
            refine f_stepP rfl rfl rfl (o_assign rfl) ?_
            refine f_stepP rfl rfl rfl (o_assign rfl) ?_
            refine f_done ?_
            refine f_tn (kh21 _ _ ?_)
            clear kh21
            refine f_seq fun K22 kh22 => ?_
            refine f_seq fun K23 kh23 => ?_
            refine f_region ?_
            refine f_stepP rfl rfl rfl (o_move rfl) ?_
            refine f_stepP rfl rfl rfl (o_neq rfl rfl) ?_
            refine f_stepP rfl rfl rfl (o_move rfl) ?_
            refine f_falseL 75 rfl (by simp) ?_
            refine f_stepPY rfl rfl rfl rfl rfl (o_move rfl) ?_
            refine f_stepPY rfl rfl rfl rfl rfl (o_len sl28 rfl) ?_
            refine f_stepPY rfl rfl rfl rfl rfl (o_lss rfl rfl) ?_
            refine f_stepP rfl rfl rfl (o_pickF rfl rfl) ?_
            refine f_stepP rfl rfl rfl (o_move rfl) ?_
            refine f_falseL 80 rfl (by omega) ?_
            refine f_stepPY rfl rfl rfl rfl rfl (o_move rfl) ?_
            refine f_stepPY rfl rfl rfl rfl rfl (o_len sl28 rfl) ?_
            refine f_stepPY rfl rfl rfl rfl rfl (o_move rfl) ?_
            refine f_stepPY rfl rfl rfl rfl rfl (o_gtr rfl rfl) ?_
            refine f_stepP rfl rfl rfl (o_pickF rfl rfl) ?_
            refine f_stepP rfl rfl rfl (o_move rfl) ?_
            refine f_falseL 86 rfl (by omega) ?_
            refine f_stepPY rfl rfl rfl rfl rfl (o_move rfl) ?_
            refine f_stepPY rfl rfl rfl rfl rfl (o_idx sl28 rfl rfl (0) ⟨by omega, by omega, by first | omega | (simp; done) | (simp; omega)⟩) ?_
            refine f_stepPY rfl rfl rfl rfl rfl (o_load Try.isAgg3 rfl (rdA (v := .int .i64 (cn : Int)) (app_get (by rw [ints_get h00, e00])))) ?_
            refine f_stepPY rfl rfl rfl rfl rfl (o_move rfl) ?_
            refine f_stepPY rfl rfl rfl rfl rfl (o_neq rfl rfl) ?_
            refine f_stepP rfl rfl rfl (o_pickF rfl rfl) ?_
            refine f_done ?_
            refine f_tn (kh23 _ _ ?_)
            clear kh23
            refine f_condN rfl (by simp) ?_
            refine f_skip ?_
            refine f_tn (kh22 _ _ ?_)
            clear kh22
            refine f_seq fun K24 kh24 => ?_
            refine f_region ?_
            refine f_stepP rfl rfl rfl (o_assign rfl) ?_
            refine f_done ?_
            refine f_tn (kh24 _ _ ?_)
            clear kh24
            refine f_seq fun K25 kh25 => ?_
            refine f_region ?_
            refine f_stepP rfl rfl rfl (o_field fa24_0 rfl) ?_
            refine f_stepP rfl rfl rfl (o_load Try.isAgg3 rfl (rdA rfl)) ?_
            refine f_step rfl rfl rfl (o_make el37 rfl rfl n rfl (by omega) (by omega) (boolsG (marksL n [])) (by rw [marksL_nil]; exact reps_bool n false) fun b95 => ?_)
            refine f_stepP rfl rfl rfl (o_assign rfl) ?_
            refine f_done ?_
            refine f_tn (kh25 _ _ ?_)
            clear kh25
            refine f_seq fun K26 kh26 => ?_
            refine f_seq fun K27 kh27 => ?_
            refine f_region ?_
            refine f_stepP rfl rfl rfl (o_move rfl) ?_
            refine f_stepP rfl rfl rfl (o_len sl28 rfl) ?_
            refine f_stepP rfl rfl rfl (o_move rfl) ?_
            refine f_done ?_
            refine f_tn (kh27 _ _ ?_)
            clear kh27
            refine f_block ?_
            refine f_loop (α := Nat) [1, 2, 3, 7, 12, 15, 96, 97] (fun k => [(98, .int .i64 (k : Int)), (14, .int .u64 (lastD D L k))]) (fun k => [[(bl, blk (ints L ++ sl) 3)], [(bD, blk (u64s D ++ spD) 49)], [(b95, blk (boolsG (marksL n (L.take k))) 4)], [(b3, blk [.int .i64 (n : Int), .slice A l.length cap] 24)]]) (fun k => k ≤ L.length) (fun k => L.length - k) (0) ?_ ?_ ?_ ?_
            · exact (by repeat (first | exact trivial | refine ⟨rfl, ?_⟩))
            · repeat (first | exact Sub.nil | refine Sub.pick ?_ | refine Sub.castO rfl ?_ | refine Sub.skip ?_)
            · exact Nat.zero_le _
            · rintro k hkl
              refine f_envC (e := [(98, _), (14, _), (1, _), (2, _), (3, _), (7, _), (12, _), (15, _), (96, _), (97, _)]) (by repeat (first | exact trivial | refine ⟨rfl, ?_⟩)) ?_
              refine f_seq fun K28 kh28 => ?_
              refine f_region ?_
              refine f_stepP rfl rfl rfl (o_lss rfl rfl) ?_
              refine f_done ?_
              refine f_tn (kh28 _ _ ?_)
              clear kh28
              refine f_seq fun K29 kh29 => ?_
              refine f_cond rfl (fun c99 => ?_) (fun c99 => ?_)
              · skip
                have hk : k < L.length := by omega
                obtain ⟨v, hv, hvn⟩ : ∃ v : Nat, L[k] = (v : Int) ∧ v < n := ⟨L[k].toNat, by have := hok1.rng _ (List.getElem_mem hk); omega, by have := hok1.rng _ (List.getElem_mem hk); omega⟩
                have hnd := not_take_of_nodup hk hok1.nd
                have hm1 := hNF.mono k hk
                have hm2 : dg D L[k].toNat < 18446744073709551615 := hNF.fin k hk
                rw [hv] at hnd hm1 hm2
                rw [Int.toNat_natCast] at hm1 hm2
                refine f_skip ?_
                refine f_tn (kh29 _ _ ?_)
                clear kh29
                refine f_seq fun K30 kh30 => ?_
                refine f_block ?_
                refine f_seq fun K31 kh31 => ?_
                refine f_region ?_
                refine f_stepP rfl rfl rfl (o_idx sl28 rfl rfl (k) ⟨by omega, by omega, by first | omega | (simp; done) | (simp; omega)⟩) ?_
                refine f_stepP rfl rfl rfl (o_load Try.isAgg3 rfl (rdA (v := .int .i64 (v : Int)) (app_get (by rw [ints_get hk, hv])))) ?_
                refine f_stepP rfl rfl rfl (o_assign rfl) ?_
                refine f_done ?_
                refine f_tn (kh31 _ _ ?_)
                clear kh31
                refine f_seq fun K32 kh32 => ?_
                refine f_seq fun K33 kh33 => ?_
                refine f_region ?_
                refine f_stepP rfl rfl rfl (o_move rfl) ?_
                refine f_stepP rfl rfl rfl (o_lss rfl rfl) ?_
                refine f_stepP rfl rfl rfl (o_move rfl) ?_
                refine f_falseL 104 rfl (by omega) ?_
                refine f_stepPY rfl rfl rfl rfl rfl (o_move rfl) ?_
                refine f_stepPY rfl rfl rfl rfl rfl (o_field fa24_0 rfl) ?_
                refine f_stepPY rfl rfl rfl rfl rfl (o_load Try.isAgg3 rfl (rdA rfl)) ?_
                refine f_stepPY rfl rfl rfl rfl rfl (o_geq rfl rfl) ?_
                refine f_stepP rfl rfl rfl (o_pickF rfl rfl) ?_
                refine f_stepP rfl rfl rfl (o_move rfl) ?_
                refine f_falseL 110 rfl (by omega) ?_
                refine f_stepPY rfl rfl rfl rfl rfl (o_move rfl) ?_
                refine f_stepPY rfl rfl rfl rfl rfl (o_move rfl) ?_
                refine f_stepPY rfl rfl rfl rfl rfl (o_idx sl37 rfl rfl (v) ⟨by omega, by omega, by first | omega | (simp; done) | (simp; omega)⟩) ?_
                refine f_stepPY rfl rfl rfl rfl rfl (o_load Try.isAgg4 rfl (rdA (v := .bool false) (by rw [boolsG_at (by rw [marksL_len]; omega), marksL_at hvn, decide_eq_false hnd]))) ?_
                refine f_stepP rfl rfl rfl (o_pickF rfl rfl) ?_
                refine f_stepP rfl rfl rfl (o_move rfl) ?_
                refine f_stepPY rfl rfl rfl rfl rfl (o_move rfl) ?_
                refine f_stepPY rfl rfl rfl rfl rfl (o_move rfl) ?_
                refine f_stepPY rfl rfl rfl rfl rfl (o_idx sl45 rfl rfl (v) ⟨by omega, by omega, by first | omega | (simp; done) | (simp; omega)⟩) ?_
                refine f_stepPY rfl rfl rfl rfl rfl (o_load Try.isAgg49 rfl (rdA (app_get (u64s_at (dg_at (by omega)))))) ?_
                refine f_stepPY rfl rfl rfl rfl rfl (o_move rfl) ?_
                refine f_stepPY rfl rfl rfl rfl rfl (o_lss rfl rfl) ?_
                refine f_stepP rfl rfl rfl (o_pickF rfl rfl) ?_
                refine f_stepP rfl rfl rfl (o_move rfl) ?_
                refine f_falseL 124 rfl (by omega) ?_
                refine f_stepPY rfl rfl rfl rfl rfl (o_move rfl) ?_
                refine f_stepPY rfl rfl rfl rfl rfl (o_move rfl) ?_
                refine f_stepPY rfl rfl rfl rfl rfl (o_idx sl45 rfl rfl (v) ⟨by omega, by omega, by first | omega | (simp; done) | (simp; omega)⟩) ?_
                refine f_stepPY rfl rfl rfl rfl rfl (o_load Try.isAgg49 rfl (rdA (app_get (u64s_at (dg_at (by omega)))))) ?_
                refine f_stepPY rfl rfl rfl rfl rfl (o_eql rfl rfl) ?_
                refine f_stepP rfl rfl rfl (o_pickF rfl rfl) ?_
                refine f_done ?_
                refine f_tn (kh33 _ _ ?_)
                clear kh33
                refine f_condN rfl (by omega) ?_
                refine f_skip ?_
                refine f_tn (kh32 _ _ ?_)
                clear kh32
                refine f_seq fun K34 kh34 => ?_
                refine f_region ?_
                refine f_stepP rfl rfl rfl (o_move rfl) ?_
                refine f_stepP rfl rfl rfl (o_move rfl) ?_
                refine f_stepP rfl rfl rfl (o_idx sl37 rfl rfl (v) ⟨by omega, by omega, by first | omega | (simp; done) | (simp; omega)⟩) ?_
                refine f_step0 rfl rfl (o_store Try.sizeOf4 rfl rfl rfl rfl (by simp [boolsG, marksL_len]; omega) (boolsG (marksL n (L.take (k + 1)))) (by rw [boolsG_set, marksL_next hk hv]) ?_)
                refine f_done ?_
                refine f_tn (kh34 _ _ ?_)
                clear kh34
                refine f_region ?_
                refine f_stepP rfl rfl rfl (o_move rfl) ?_
                refine f_stepP rfl rfl rfl (o_move rfl) ?_
                refine f_stepP rfl rfl rfl (o_idx sl45 rfl rfl (v) ⟨by omega, by omega, by first | omega | (simp; done) | (simp; omega)⟩) ?_
                refine f_stepP rfl rfl rfl (o_load Try.isAgg49 rfl (rdA (app_get (u64s_at (dg_at (by omega)))))) ?_
                refine f_stepP rfl rfl rfl (o_assign rfl) ?_
                refine f_done ?_
                refine f_bn ?_
                refine f_tn (kh30 _ _ ?_)
                clear kh30
                refine f_region ?_
                refine f_stepP rfl rfl rfl (o_add rfl rfl _ (wrap_i64 (by omega))) ?_
                refine f_stepP rfl rfl rfl (o_move rfl) ?_
                refine f_done ?_
                refine f_reQ 14 rfl (v := .int .u64 (lastD D L (k + 1))) (by rw [show lastD D L (k + 1) = dg D v from by show dg D (L.getD k 0).toNat = _; rw [List.getD_eq_getElem?_getD, List.getElem?_eq_getElem hk]; simp [hv]]) ?_
                refine f_tn (f_again (k + 1) (by first | omega | (dsimp only; omega) | (simp; omega)) (by omega) ?_ ?_ ?_)
                · exact (by repeat (first | exact trivial | refine ⟨rfl, ?_⟩))
                · exact (by repeat (first | exact trivial | refine ⟨rfl, ?_⟩))
                · repeat (first | exact Sub.nil | refine Sub.pick ?_ | refine Sub.castO rfl ?_ | refine Sub.skip ?_)
              · skip
                obtain rfl : k = L.length := by omega
                rw [List.take_length]
                refine f_exit ?_
                refine f_te ?_
                clear kh29
                refine f_te ?_
                refine f_be ?_
                refine f_tn (kh26 _ _ ?_)
                clear kh26
                refine f_seq fun K35 kh35 => ?_
                refine f_seq fun K36 kh36 => ?_
                refine f_region ?_
                refine f_stepP rfl rfl rfl (o_move rfl) ?_
                refine f_stepP rfl rfl rfl (o_len sl45 rfl) ?_
                refine f_stepP rfl rfl rfl (o_move rfl) ?_
                refine f_done ?_
                refine f_tn (kh36 _ _ ?_)
                clear kh36
                refine f_block ?_
                refine f_loop (α := Nat) [1, 2, 3, 7, 12, 14, 15, 140] (fun v => [(141, .int .i64 (v : Int))]) (fun v => [[(bl, blk (ints L ++ sl) 3)], [(bD, blk (u64s D ++ spD) 49)], [(b95, blk (boolsG (marksL n L)) 4)], [(b3, blk [.int .i64 (n : Int), .slice A l.length cap] 24)]]) (fun v => v ≤ n) (fun v => n - v) (0) ?_ ?_ ?_ ?_
                · exact (by repeat (first | exact trivial | refine ⟨rfl, ?_⟩))
                · repeat (first | exact Sub.nil | refine Sub.pick ?_ | refine Sub.castO rfl ?_ | refine Sub.skip ?_)
                · exact Nat.zero_le _
                · rintro v hvl
                  refine f_envC (e := [(141, _), (1, _), (2, _), (3, _), (7, _), (12, _), (14, _), (15, _), (140, _)]) (by repeat (first | exact trivial | refine ⟨rfl, ?_⟩)) ?_
                  refine f_seq fun K37 kh37 => ?_
                  refine f_region ?_
                  refine f_stepP rfl rfl rfl (o_lss rfl rfl) ?_
                  refine f_done ?_
                  refine f_tn (kh37 _ _ ?_)
                  clear kh37
                  refine f_seq fun K38 kh38 => ?_
                  refine f_cond rfl (fun c142 => ?_) (fun c142 => ?_)
                  · skip
                    have hv : v < n := by omega
                    refine f_skip ?_
                    refine f_tn (kh38 _ _ ?_)
                    clear kh38
                    refine f_seq fun K39 kh39 => ?_
                    refine f_block ?_
                    refine f_seq fun K40 kh40 => ?_
                    refine f_region ?_
                    refine f_stepP rfl rfl rfl (o_move rfl) ?_
                    refine f_stepP rfl rfl rfl (o_assign rfl) ?_
                    refine f_done ?_
                    refine f_tn (kh40 _ _ ?_)
                    clear kh40
                    refine f_seq fun K41 kh41 => ?_
                    refine f_region ?_
                    refine f_stepP rfl rfl rfl (o_move rfl) ?_
                    refine f_stepP rfl rfl rfl (o_move rfl) ?_
                    refine f_stepP rfl rfl rfl (o_idx sl37 rfl rfl (v) ⟨by omega, by omega, by first | omega | (simp; done) | (simp; omega)⟩) ?_
                    refine f_stepP rfl rfl rfl (o_load Try.isAgg4 rfl (rdA (boolsG_at (by rw [marksL_len]; omega)))) ?_
                    refine f_stepP rfl rfl rfl (o_not rfl) ?_
                    refine f_stepP rfl rfl rfl (o_move rfl) ?_
                    refine f_splitLB 149 rfl (fun g149 => ?_) (fun g149 => ?_)
                    · skip
                      have hnl : (v : Int) ∉ L := by rw [marksL_at hv] at g149; simpa using g149
                      have hf1 := hNF.far v hv hnl
                      have hf2 := hNF.full v hv hnl
                      refine f_stepPY rfl rfl rfl rfl rfl (o_move rfl) ?_
                      refine f_stepPY rfl rfl rfl rfl rfl (o_move rfl) ?_
                      refine f_stepPY rfl rfl rfl rfl rfl (o_idx sl45 rfl rfl (v) ⟨by omega, by omega, by first | omega | (simp; done) | (simp; omega)⟩) ?_
                      refine f_stepPY rfl rfl rfl rfl rfl (o_load Try.isAgg49 rfl (rdA (app_get (u64s_at (dg_at (by omega)))))) ?_
                      refine f_stepPY rfl rfl rfl rfl rfl (o_move rfl) ?_
                      refine f_stepPY rfl rfl rfl rfl rfl (o_lss rfl rfl) ?_
                      refine f_stepPY rfl rfl rfl rfl rfl (o_move rfl) ?_
                      refine f_falseL 156 rfl (by omega) ?_
                      refine f_stepPY rfl rfl rfl rfl rfl (o_move rfl) ?_
                      refine f_stepPY rfl rfl rfl rfl rfl (o_move rfl) ?_
                      refine f_stepPY rfl rfl rfl rfl rfl (o_idx sl45 rfl rfl (v) ⟨by omega, by omega, by first | omega | (simp; done) | (simp; omega)⟩) ?_
                      refine f_stepPY rfl rfl rfl rfl rfl (o_load Try.isAgg49 rfl (rdA (app_get (u64s_at (dg_at (by omega)))))) ?_
                      refine f_stepPY rfl rfl rfl rfl rfl (o_lss rfl rfl) ?_
                      refine f_stepPY rfl rfl rfl rfl rfl (o_move rfl) ?_
                      refine f_splitL 162 rfl (fun g162 => ?_) (fun g162 => ?_)
                      · skip
                        refine f_stepPY rfl rfl rfl rfl rfl (o_move rfl) ?_
                        refine f_stepPY rfl rfl rfl rfl rfl (o_len sl28 rfl) ?_
                        refine f_stepPY rfl rfl rfl rfl rfl (o_move rfl) ?_
                        refine f_stepPY rfl rfl rfl rfl rfl (o_lss rfl rfl) ?_
                        refine f_stepPY rfl rfl rfl rfl rfl (o_pickT rfl rfl) ?_
                        refine f_stepPY rfl rfl rfl rfl rfl (o_pickF rfl rfl) ?_
                        refine f_stepP rfl rfl rfl (o_pickT rfl rfl) ?_
                        refine f_done ?_
                        refine f_tn (kh41 _ _ ?_)
                        clear kh41
                        refine f_condN rfl (by have := hf2 (by assumption); omega) ?_
                        refine f_skip ?_
                        refine f_bn ?_
                        refine f_tn (kh39 _ _ ?_)
                        clear kh39
                        refine f_region ?_
                        refine f_stepP rfl rfl rfl (o_add rfl rfl _ (wrap_i64 (by omega))) ?_
                        refine f_stepP rfl rfl rfl (o_move rfl) ?_
                        refine f_done ?_
                        refine f_tn (f_again (v + 1) (by first | omega | (dsimp only; omega) | (simp; omega)) (by omega) ?_ ?_ ?_)
                        · exact (by repeat (first | exact trivial | refine ⟨rfl, ?_⟩))
                        · exact (by repeat (first | exact trivial | refine ⟨rfl, ?_⟩))
                        · repeat (first | exact Sub.nil | refine Sub.pick ?_ | refine Sub.castO rfl ?_ | refine Sub.skip ?_)
                      · skip
                        refine f_stepN rfl rfl rfl rfl rfl rfl ?_
                        refine f_stepN rfl rfl rfl rfl rfl rfl ?_
                        refine f_stepN rfl rfl rfl rfl rfl rfl ?_
                        refine f_stepN rfl rfl rfl rfl rfl rfl ?_
                        refine f_stepPY rfl rfl rfl rfl rfl (o_pickF rfl rfl) ?_
                        refine f_stepPY rfl rfl rfl rfl rfl (o_pickF rfl rfl) ?_
                        refine f_stepP rfl rfl rfl (o_pickT rfl rfl) ?_
                        refine f_done ?_
                        refine f_tn (kh41 _ _ ?_)
                        clear kh41
                        refine f_condF rfl ?_
                        refine f_skip ?_
                        refine f_bn ?_
                        refine f_tn (kh39 _ _ ?_)
                        clear kh39
                        refine f_region ?_
                        refine f_stepP rfl rfl rfl (o_add rfl rfl _ (wrap_i64 (by omega))) ?_
                        refine f_stepP rfl rfl rfl (o_move rfl) ?_
                        refine f_done ?_
                        refine f_tn (f_again (v + 1) (by first | omega | (dsimp only; omega) | (simp; omega)) (by omega) ?_ ?_ ?_)
                        · exact (by repeat (first | exact trivial | refine ⟨rfl, ?_⟩))
                        · exact (by repeat (first | exact trivial | refine ⟨rfl, ?_⟩))
                        · repeat (first | exact Sub.nil | refine Sub.pick ?_ | refine Sub.castO rfl ?_ | refine Sub.skip ?_)
                    · skip
                      refine f_stepN rfl rfl rfl rfl rfl rfl ?_
                      refine f_stepN rfl rfl rfl rfl rfl rfl ?_
                      refine f_stepN rfl rfl rfl rfl rfl rfl ?_
                      refine f_stepN rfl rfl rfl rfl rfl rfl ?_
                      refine f_stepN rfl rfl rfl rfl rfl rfl ?_
                      refine f_stepN rfl rfl rfl rfl rfl rfl ?_
                      refine f_stepN rfl rfl rfl rfl rfl rfl ?_
                      refine f_stepU rfl rfl rfl rfl rfl ?_
                      refine f_stepU rfl rfl rfl rfl rfl ?_
                      refine f_stepU rfl rfl rfl rfl rfl ?_
                      refine f_stepU rfl rfl rfl rfl rfl ?_
                      refine f_stepU rfl rfl rfl rfl rfl ?_
                      refine f_stepU rfl rfl rfl rfl rfl ?_
                      refine f_stepU rfl rfl rfl rfl rfl ?_
                      refine f_stepU rfl rfl rfl rfl rfl ?_
                      refine f_stepU rfl rfl rfl rfl rfl ?_
                      refine f_stepU rfl rfl rfl rfl rfl ?_
                      refine f_stepU rfl rfl rfl rfl rfl ?_
                      refine f_stepN rfl rfl rfl rfl rfl rfl ?_
                      refine f_stepP rfl rfl rfl (o_pickF rfl rfl) ?_
                      refine f_done ?_
                      refine f_tn (kh41 _ _ ?_)
                      clear kh41
                      refine f_condF rfl ?_
                      refine f_skip ?_
                      refine f_bn ?_
                      refine f_tn (kh39 _ _ ?_)
                      clear kh39
                      refine f_region ?_
                      refine f_stepP rfl rfl rfl (o_add rfl rfl _ (wrap_i64 (by omega))) ?_
                      refine f_stepP rfl rfl rfl (o_move rfl) ?_
                      refine f_done ?_
                      refine f_tn (f_again (v + 1) (by first | omega | (dsimp only; omega) | (simp; omega)) (by omega) ?_ ?_ ?_)
                      · exact (by repeat (first | exact trivial | refine ⟨rfl, ?_⟩))
                      · exact (by repeat (first | exact trivial | refine ⟨rfl, ?_⟩))
                      · repeat (first | exact Sub.nil | refine Sub.pick ?_ | refine Sub.castO rfl ?_ | refine Sub.skip ?_)
                  · skip
                    refine f_exit ?_
                    refine f_te ?_
                    clear kh38
                    refine f_te ?_
                    refine f_be ?_
                    refine f_tn (kh35 _ _ ?_)
                    clear kh35
                    refine f_seq fun K42 kh42 => ?_
                    refine f_seq fun K43 kh43 => ?_
                    refine f_region ?_
                    refine f_stepP rfl rfl rfl (o_move rfl) ?_
                    refine f_stepP rfl rfl rfl (o_gtr rfl rfl) ?_
                    refine f_done ?_
                    refine f_tn (kh43 _ _ ?_)
                    clear kh43
                    refine f_cond rfl (fun c172 => ?_) (fun c172 => ?_)
                    · skip
                      refine f_seq fun K44 kh44 => ?_
                      refine f_region ?_
                      refine f_stepP rfl rfl rfl (o_loadA (vs := [_, _]) Try.isAgg24 Try.sizeOf24 rfl rfl ⟨(rdA rfl), (rdA rfl), trivial⟩) ?_
                      refine f_stepP rfl rfl rfl (o_move rfl) ?_
                      refine f_stepP rfl rfl rfl (o_move rfl) ?_
                      refine f_stepP rfl rfl rfl (o_sub rfl rfl _ (wrap_i64 (by omega))) ?_
                      refine f_step rfl rfl rfl (o_call Try.call10 rfl (fun w_ hp_ => Region_spec (n : Int) A l cap (cn : Int) ((mn : Int) - 1) w_ (hr.up0 hp_) hl hN hok) ?_)
                      rintro _ _ ⟨s178, m178, rfl, rfl, o178⟩
                      obtain ⟨hl1, hl2⟩ := reg_less hg hok1 (by omega)
                      rw [hl1]
                      rw [hl2] at o178
                      obtain ⟨A178, c178, rfl, _⟩ := o178.val
                      have hml : (L.take (mn - 1)).length ≤ L.length := by rw [List.length_take]; omega
                      dsimp only [List.cons_append, List.nil_append]
                      refine f_stepP rfl rfl rfl (o_move rfl) ?_
                      refine f_stepP rfl rfl rfl (o_extract rfl rfl) ?_
                      refine f_stepP rfl rfl rfl (o_extract rfl rfl) ?_
                      refine f_stepP rfl rfl rfl (o_assign rfl) ?_
                      refine f_stepP rfl rfl rfl (o_assign rfl) ?_
                      refine f_done ?_
                      refine f_tn (kh44 _ _ ?_)
                      clear kh44
                      refine f_seq fun K45 kh45 => ?_
                      refine f_region ?_
                      refine f_stepP rfl rfl rfl (o_move rfl) ?_
                      refine f_stepP rfl rfl rfl (o_eql rfl rfl) ?_
                      refine f_stepP rfl rfl rfl (o_move rfl) ?_
                      refine f_trueL 183 rfl (rfl) ?_
                      refine f_stepPY rfl rfl rfl rfl rfl (o_move rfl) ?_
                      refine f_stepPY rfl rfl rfl rfl rfl (o_len sl28 rfl) ?_
                      refine f_stepPY rfl rfl rfl rfl rfl (o_move rfl) ?_
                      refine f_stepPY rfl rfl rfl rfl rfl (o_len sl28 rfl) ?_
                      refine f_stepPY rfl rfl rfl rfl rfl (o_leq rfl rfl) ?_
                      refine f_stepP rfl rfl rfl (o_pickT rfl rfl) ?_
                      refine f_stepP rfl rfl rfl (o_move rfl) ?_
                      refine f_trueL 190 rfl (by omega) ?_
                      refine f_stepPY rfl rfl rfl rfl rfl (o_move rfl) ?_
                      refine f_stepPY rfl rfl rfl rfl rfl (o_move rfl) ?_
                      refine f_stepPY rfl rfl rfl rfl rfl (o_move rfl) ?_
                      refine f_stepPY rfl rfl rfl rfl rfl (o_len sl28 rfl) ?_
                      refine f_stepPY rfl rfl rfl rfl rfl (o_slice sl28 rfl rfl rfl rfl (fun h => by cases h) 0 ((L.take (mn - 1)).length) c31 (.inl ⟨rfl, rfl⟩) (.inr ⟨_, _, rfl, by omega⟩) (.inl ⟨rfl, rfl⟩) ⟨by omega, by omega, by omega⟩ (.slice (some ⟨bl, 0, none⟩) (L.take (mn - 1)).length c31) (by rw [if_neg (by omega)]; simp [add_at])) ?_
                      refine f_stepY rfl rfl rfl rfl rfl (o_call Try.call14 rfl (fun w_ hp_ => SameInts_spec A178 (some ⟨bl, 0, none⟩) (L.take (mn - 1)) (L.take (mn - 1)) c178 c31 w_ (seen_ro (o178.seen hp_)) (roOwn (b := bl) hp_ (cs := ints (L.take (mn - 1))) (fun j v hj => app_get (by rw [← List.take_append_drop (mn - 1) L, ints_append]; exact app_get hj))) (by omega)) ?_)
                      rintro _ _ ⟨rfl, rfl⟩
                      dsimp only [List.cons_append, List.nil_append]
                      refine f_stepP rfl rfl rfl (o_pickT rfl rfl) ?_
                      refine f_stepP rfl rfl rfl (o_assign rfl) ?_
                      refine f_done ?_
                      refine f_tn (kh45 _ _ ?_)
                      clear kh45
                      refine f_ret ?_
                      refine f_tr ?_
                      exact f_fin1 [] Try.results6 rfl Sub.nil ⟨by simp, rfl⟩
                    · skip
                      refine f_skip ?_
                      refine f_tn (kh42 _ _ ?_)
                      clear kh42
                      refine f_seq fun K46 kh46 => ?_
                      refine f_region ?_
                      refine f_stepP rfl rfl rfl (o_assign rfl) ?_
                      refine f_done ?_
                      refine f_tn (kh46 _ _ ?_)
                      clear kh46
                      refine f_ret ?_
                      exact f_fin1 [] Try.results6 rfl Sub.nil ⟨rfl, rfl⟩

end Go.Proofs.Ytlllpmafhnfihaa
