/- grow.around, and the function that it hands back: the vertices around a centre, nearest first. -/
import Derived.Test.YtlllpmafhnfihaaFSides
import Derived.Test.YtlllpmafhnfihaaPGrow
import Derived.Test.YtlllpmafhnfihaaFlyG
namespace Go.Proofs.Ytlllpmafhnfihaa
open Go Go.RowKit Fly
set_option linter.unusedVariables false
set_option linter.unusedSimpArgs false


abbrev boolsG (l : List Bool) : List Value := l.map .bool
theorem boolsG_set (l : List Bool) (i : Nat) (b : Bool) : (boolsG l).set i (.bool b) = boolsG (l.set i b) := by simp [boolsG, List.map_set]
theorem boolsG_at {l : List Bool} {i : Nat} (h : i < l.length) : (boolsG l)[i]? = some (.bool (l.getD i false)) := by simp [List.getD_eq_getElem?_getD, h]
/-- What the iterator holds: three boxes, the marks, the rows. -/
abbrev arSegs (n c bin bo b3 b4 b5 : Nat) (b : List Bool) (vs : List Value) (G : Seg) : List Seg :=
  [[(b5, blk [.slice (some ⟨bin, 0, none⟩) n n] 37)], [(b4, blk [.int .i64 (c : Int)] 3)], [(b3, blk [.slice (some ⟨bo, 0, none⟩) n n] 55)], [(bin, blk (boolsG b) 4)], [(bo, blk vs 28)], G]
def arMay (F : BSt) (ys : List Int) (y : Int) : Prop := ∃ k, ∃ h : k < F.1.length, ys = F.1.take k ∧ y = F.1[k]
def arFin (F : BSt) (n c bin bo b3 b4 b5 : Nat) (vs : List Value) (G : Seg) (ys : List Int) (o : List Seg) : Prop := ys = F.1 ∧ o = arSegs n c bin bo b3 b4 b5 F.2 vs G
def arStp (F : BSt) (n c bin bo b3 b4 b5 : Nat) (vs : List Value) (G : Seg) (ys : List Int) (o : List Seg) : Prop := ∃ k, k < F.1.length ∧ ys = F.1.take (k + 1) ∧ ∃ b', b'.length = n ∧ o = arSegs n c bin bo b3 b4 b5 b' vs G
theorem drop_cons_of {α : Type} {l : List α} {k : Nat} (h : k < l.length) : l.drop k = l[k] :: l.drop (k + 1) := (List.getElem_cons_drop h).symm
theorem row_blk {E : TypeId} {ls : List (List Int)} {vs : List Value} {ms : List Seg} (hR : RowsI E ls vs ms) {i : Nat} (hi : i < ls.length) : ∃ A c, vs[i]? = some (.slice A ls[i].length c) ∧ (0 < ls[i].length → ∃ br sp, A = some ⟨br, 0, none⟩ ∧ (br, blk (ints ls[i] ++ sp) E) ∈ ms.flatten) := by
  have ho := hR.own i hi
  obtain ⟨A, c, e, _⟩ := ho.val
  rw [e] at ho
  refine ⟨A, c, by rw [List.getElem?_eq_getElem (by rw [hR.lv]; exact hi), e], fun hl => ?_⟩
  obtain ⟨br, sp, rfl, hm⟩ := ho.at_ hl
  exact ⟨br, sp, rfl, List.mem_flatten.2 ⟨_, List.getElem_mem (by rw [hR.lm]; exact hi), by rw [hm]; simp⟩⟩

set_option maxRecDepth 100000 in
set_option maxHeartbeats 4000000 in
theorem around_spec (n bo bin : Nat) (c : Int) (w : World) :
    Meets Try.prog 24 [.slice (some ⟨bo, 0, none⟩) n n, .int .i64 c, .slice (some ⟨bin, 0, none⟩) n n] w [] (fun u own' => ∃ b3 b4 b5, u = .func (.func 42) #[] #[.pointer (some ⟨b5, 0, none⟩), .pointer (some ⟨b4, 0, none⟩), .pointer (some ⟨b3, 0, none⟩)] ∧ own' = [[(b5, blk [.slice (some ⟨bin, 0, none⟩) n n] 37)], [(b4, blk [.int .i64 c] 3)], [(b3, blk [.slice (some ⟨bo, 0, none⟩) n n] 55)]]) := by
  refine f_enter Try.func24 rfl Try.ntmps24 rfl Owns.nil ?_
  refine f_seq fun K1 kh1 => ?_
  refine f_region ?_
  refine f_step rfl rfl rfl (o_box rfl rfl fun b3 => ?_)
  refine f_step rfl rfl rfl (o_box rfl rfl fun b4 => ?_)
  refine f_step rfl rfl rfl (o_box rfl rfl fun b5 => ?_)
  refine f_stepP rfl rfl rfl (o_assign rfl) ?_
  refine f_done ?_
  refine f_tn (kh1 _ _ ?_)
  clear kh1
  refine f_seq fun K2 kh2 => ?_
  refine f_region ?_
  refine f_stepP rfl rfl rfl (o_func rfl rfl) ?_
  refine f_stepP rfl rfl rfl (o_assign rfl) ?_
  refine f_done ?_
  refine f_tn (kh2 _ _ ?_)
  clear kh2
  refine f_ret ?_
  exact f_fin1 [[(b5, blk [.slice (some ⟨bin, 0, none⟩) n n] 37)], [(b4, blk [.int .i64 c] 3)], [(b3, blk [.slice (some ⟨bo, 0, none⟩) n n] 55)]] Try.results24 rfl (by repeat (first | exact Sub.nil | refine Sub.pick ?_ | refine Sub.castO rfl ?_ | refine Sub.skip ?_)) ⟨b3, b4, b5, rfl, rfl⟩

set_option maxRecDepth 100000 in
set_option maxHeartbeats 4000000 in
theorem around1_iter (n c bin bo b3 b4 b5 : Nat) (l : List Arc) (b0 : List Bool) (vs : List Value) (ms : List Seg) (m0 : Seg) (w : World) (hb0 : b0.length = n) (hc : c < n) (hn : n ≤ 1024) (hR : RowsI 3 (nrows n l) vs ms) (hrng : ∀ v, v < n → ∀ u ∈ nbrs (v : Int) l, 0 ≤ u ∧ u < (n : Int)) (hrl : ∀ v : Nat, (nbrs (v : Int) l).length ≤ 8192) :
    IterAt Try.prog 42 [.pointer (some ⟨b5, 0, none⟩), .pointer (some ⟨b4, 0, none⟩), .pointer (some ⟨b3, 0, none⟩)] (arSegs n c bin bo b3 b4 b5 b0 vs ms.flatten) (fun y : Int => .int .i64 y) (arMay (bfs n (fun v : Nat => nbrs (v : Int) l) c b0)) (arFin (bfs n (fun v : Nat => nbrs (v : Int) l) c b0) n c bin bo b3 b4 b5 vs ms.flatten) (arStp (bfs n (fun v : Nat => nbrs (v : Int) l) c b0) n c bin bo b3 b4 b5 vs ms.flatten) m0 w := by
  intro l_ J Jx hJ0 hown hY
  have hvl : vs.length = n := by have := hR.lv; rwa [nrows_len] at this
  have hI0 : BInv n (bstart c b0) := BInv.start hb0 hc
  refine r_enter Try.func42 rfl Try.ntmps42 rfl hown ?_
  refine r_seq fun K1 kh1 => ?_
  refine r_region ?_
  refine r_stepP rfl rfl rfl rfl (o_load Try.isAgg37 rfl (rdA rfl)) ?_
  refine r_stepP rfl rfl rfl rfl (o_load Try.isAgg3 rfl (rdA rfl)) ?_
  refine r_stepP rfl rfl rfl rfl (o_idx sl37 rfl rfl (c) ⟨by omega, by omega, by first | omega | (simp; done) | (simp; omega)⟩) ?_
  refine r_step0 rfl rfl (Does.toR rfl (o_store Try.sizeOf4 rfl rfl rfl rfl (by simp [boolsG]; omega) (boolsG (b0.set c true)) (boolsG_set ..) ?_))
  refine r_done ?_
  refine r_tn (kh1 _ _ _ ?_)
  clear kh1
  refine r_seq fun K2 kh2 => ?_
  refine r_region ?_
  refine r_stepP rfl rfl rfl rfl (o_load Try.isAgg3 rfl (rdA rfl)) ?_
  refine r_step rfl rfl rfl (Does.toR rfl (o_slice1 el28 (by omega) rfl rfl rfl fun b12 => ?_))
  refine r_stepP rfl rfl rfl rfl (o_assign rfl) ?_
  refine r_done ?_
  refine r_tn (kh2 _ _ _ ?_)
  clear kh2
  refine r_block ?_
  refine r_loop (α := Nat × Value × Seg × Seg) (fun ⟨k, qv, qm, mJ⟩ => []) [0, 1, 3] (fun ⟨k, qv, qm, mJ⟩ => [(5, qv)]) (fun ⟨k, qv, qm, mJ⟩ => [[(b5, blk [.slice (some ⟨bin, 0, none⟩) n n] 37)], [(b4, blk [.int .i64 (c : Int)] 3)], [(b3, blk [.slice (some ⟨bo, 0, none⟩) n n] 55)], [(bin, blk (boolsG (bgo (fun v : Nat => nbrs (v : Int) l) (bstart c b0) k).2) 4)], [(bo, blk vs 28)], ms.flatten, qm, mJ]) (fun ⟨k, qv, qm, mJ⟩ => k ≤ (bgo (fun v : Nat => nbrs (v : Int) l) (bstart c b0) k).1.length ∧ OwnQ 3 qv (ints ((bgo (fun v : Nat => nbrs (v : Int) l) (bstart c b0) k).1.drop k)) qm ∧ J ((bfs n (fun v : Nat => nbrs (v : Int) l) c b0).1.take k) mJ) (fun ⟨k, qv, qm, mJ⟩ => n - k) (0, .slice (some ⟨b12, 0, none⟩) 1 1, [(b12, blk [.int .i64 (c : Int)] 3)], m0) rfl ?_ ?_ ?_ ?_
  · exact (by repeat (first | exact trivial | refine ⟨rfl, ?_⟩))
  · repeat (first | exact Sub.nil | refine Sub.pick ?_ | refine Sub.castO rfl ?_ | refine Sub.skip ?_)
  · exact ⟨Nat.zero_le _, OwnQ.one _ _ _, by rw [List.take_zero]; exact hJ0⟩
  · rintro ⟨k, qv, qm, mJ⟩ ⟨hkl, hQ, hJ⟩
    have hI := BInv.go hrng hI0 k
    have hIo := hI.out
    obtain ⟨st, hst⟩ : ∃ st, st = bgo (fun v : Nat => nbrs (v : Int) l) (bstart c b0) k := ⟨_, rfl⟩
    dsimp only
    rw [← hst] at hkl hQ hI hIo ⊢
    have hQ0 := hQ
    have hql := ints_length (st.1.drop k)
    rw [List.length_drop] at hql
    obtain ⟨bw, ow, cw, pre, sp, rfl, rfl, hq1, hq2, hq3, hq4⟩ := hQ
    refine r_seq fun K3 kh3 => ?_
    refine r_seq fun K4 kh4 => ?_
    refine r_region ?_
    refine r_stepP rfl rfl rfl rfl (o_move rfl) ?_
    refine r_stepP rfl rfl rfl rfl (o_len sl28 rfl) ?_
    refine r_stepP rfl rfl rfl rfl (o_gtr rfl rfl) ?_
    refine r_done ?_
    refine r_tn (kh4 _ _ _ ?_)
    clear kh4
    refine r_cond rfl (fun c15 => ?_) (fun c15 => ?_)
    · skip
      have hkl2 : k < st.1.length := by omega
      have hpre := hq4 (by omega)
      obtain ⟨v, hv⟩ : ∃ v, v = st.1[k] := ⟨_, rfl⟩
      have hdc : st.1.drop k = v :: st.1.drop (k + 1) := by rw [hv]; exact drop_cons_of hkl2
      have hvr := hI.rng _ (List.getElem_mem hkl2)
      rw [← hv] at hvr
      obtain ⟨vn, rfl⟩ : ∃ vn : Nat, v = (vn : Int) := ⟨v.toNat, by omega⟩
      have hvn : vn < n := by omega
      obtain ⟨hgl0, hge⟩ := bgo_get (n := n) (rows := (fun v : Nat => nbrs (v : Int) l)) (s := bstart c b0) (k := k) (by omega) (by rw [← hst]; exact hkl2)
      have hgl : k < (bfs n (fun v : Nat => nbrs (v : Int) l) c b0).1.length := hgl0
      have hge' : (bfs n (fun v : Nat => nbrs (v : Int) l) c b0).1[k] = (vn : Int) := by rw [hv]; refine hge.trans ?_; simp only [hst]
      have hys : (bfs n (fun v : Nat => nbrs (v : Int) l) c b0).1.take k ++ [(vn : Int)] = (bfs n (fun v : Nat => nbrs (v : Int) l) c b0).1.take (k + 1) := by rw [List.take_succ_eq_append_getElem hgl, hge']
      refine r_skip ?_
      refine r_tn (kh3 _ _ _ ?_)
      clear kh3
      refine r_seq fun K5 kh5 => ?_
      refine r_block ?_
      refine r_seq fun K6 kh6 => ?_
      refine r_seq fun K7 kh7 => ?_
      refine r_region ?_
      refine r_stepP rfl rfl rfl rfl (o_move rfl) ?_
      refine r_stepP rfl rfl rfl rfl (o_move rfl) ?_
      refine r_stepP rfl rfl rfl rfl (o_idx sl28 rfl rfl (ow) ⟨by omega, by omega, by first | omega | (simp; done) | (simp; omega)⟩) ?_
      refine r_stepP rfl rfl rfl rfl (o_load Try.isAgg3 rfl (rdA (v := .int .i64 (vn : Int)) (by rw [← hpre, hdc]; simp [ints]))) ?_
      refine r_step rfl rfl rfl (o_yield [mJ] _ rfl rfl (by repeat (first | exact Sub.refl | refine Sub.pick ?_)) (fun w_ hp_ => hY _ (vn : Int) w_ mJ hJ ⟨k, hgl, rfl, hge'.symm⟩ hp_.owns (fun k hk => hp_.fz k hk)) ?_)
      rintro v22 _ ⟨m2, rfl, hy2⟩
      obtain ⟨bb, rfl, hy3⟩ : ∃ bb, v22 = .bool bb ∧ ((bb = true ∧ J ((bfs n (fun v : Nat => nbrs (v : Int) l) c b0).1.take k ++ [(vn : Int)]) m2) ∨ (bb = false ∧ Jx ((bfs n (fun v : Nat => nbrs (v : Int) l) c b0).1.take k ++ [(vn : Int)]) m2)) := by
        rcases hy2 with ⟨rfl, h⟩ | ⟨rfl, h⟩
        · exact ⟨_, rfl, .inl ⟨rfl, h⟩⟩
        · exact ⟨_, rfl, .inr ⟨rfl, h⟩⟩
      dsimp only [List.cons_append, List.nil_append]
      refine r_stepP rfl rfl rfl rfl (o_not rfl) ?_
      refine r_done ?_
      refine r_tn (kh7 _ _ _ ?_)
      clear kh7
      refine r_condB rfl (fun c23 => ?_) (fun c23 => ?_)
      · skip
        refine r_ret ?_
        refine r_tr ?_
        refine r_br ?_
        refine r_tr ?_
        refine r_tr ?_
        refine r_br ?_
        have hJx2 : Jx _ m2 := (hy3.resolve_left (fun h => by rw [h.1] at c23; cases c23)).2
        exact r_fin0 [m2, [(b5, blk [.slice (some ⟨bin, 0, none⟩) n n] 37)], [(b4, blk [.int .i64 (c : Int)] 3)], [(b3, blk [.slice (some ⟨bo, 0, none⟩) n n] 55)], [(bin, blk (boolsG st.2) 4)], [(bo, blk vs 28)], ms.flatten] Try.results42 (by repeat (first | exact Sub.nil | refine Sub.pick ?_ | refine Sub.castO rfl ?_ | refine Sub.skip ?_)) ⟨rfl, m2, _, rfl, .inr ⟨_, ⟨k, hgl, hys, st.2, hI.len, rfl⟩, hJx2⟩⟩
      · skip
        refine r_skip ?_
        refine r_tn (kh6 _ _ _ ?_)
        clear kh6
        refine r_seq fun K8 kh8 => ?_
        have hJ2 : J _ m2 := (hy3.resolve_right (fun h => by rw [h.1] at c23; cases c23)).2
        obtain ⟨Ar, cr, hrv, hrow⟩ := row_blk hR (i := vn) (by rw [nrows_len]; exact hvn)
        rw [nrows_get] at hrv hrow
        have hrll := hrl vn
        refine r_old ?_
        refine f_regionS rfl (by decide +kernel) ?_
        refine f_stillP rfl rfl rfl (o_load Try.isAgg55 rfl (rdA rfl)) ?_
        refine f_stillP rfl rfl rfl (o_move rfl) ?_
        refine f_stillP rfl rfl rfl (o_idx sl28 rfl rfl (ow) ⟨by omega, by omega, by first | omega | (simp; done) | (simp; omega)⟩) ?_
        refine f_stillP rfl rfl rfl (o_load Try.isAgg3 rfl (rdA (v := .int .i64 (vn : Int)) (by rw [← hpre, hdc]; simp [ints]))) ?_
        refine f_stillP rfl rfl rfl (o_idx sl55 rfl rfl (vn) ⟨by omega, by omega, by first | omega | (simp; done) | (simp; omega)⟩) ?_
        refine f_stillP rfl rfl rfl (o_load Try.isAgg28 rfl (rdA hrv)) ?_
        refine f_stillP rfl rfl rfl (o_len sl28 rfl) ?_
        refine f_stillP rfl rfl rfl (o_move rfl) ?_
        refine f_stillD ?_
        refine r_new ?_
        refine r_tn (kh8 _ _ _ ?_)
        clear kh8
        refine r_block ?_
        refine r_loop (α := Nat × BSt × Value × Seg) (fun ⟨j, s2, qv2, qm2⟩ => []) [0, 1, 3, 29, 30] (fun ⟨j, s2, qv2, qm2⟩ => [(31, .int .i64 (j : Int)), (5, qv2)]) (fun ⟨j, s2, qv2, qm2⟩ => [[(b5, blk [.slice (some ⟨bin, 0, none⟩) n n] 37)], [(b4, blk [.int .i64 (c : Int)] 3)], [(b3, blk [.slice (some ⟨bo, 0, none⟩) n n] 55)], [(bin, blk (boolsG s2.2) 4)], [(bo, blk vs 28)], ms.flatten, qm2, m2]) (fun ⟨j, s2, qv2, qm2⟩ => j ≤ (nbrs (vn : Int) l).length ∧ s2 = bpush ((nbrs (vn : Int) l).take j) st ∧ BInv n s2 ∧ st.1.length ≤ s2.1.length ∧ OwnQ 3 qv2 (ints (s2.1.drop k)) qm2) (fun ⟨j, s2, qv2, qm2⟩ => (nbrs (vn : Int) l).length - j) (0, st, .slice (some ⟨bw, ow, none⟩) (ints (st.1.drop k)).length cw, [(bw, blk (pre ++ (ints (st.1.drop k) ++ sp)) 3)]) rfl ?_ ?_ ?_ ?_
        · exact (by repeat (first | exact trivial | refine ⟨rfl, ?_⟩))
        · repeat (first | exact Sub.nil | refine Sub.pick ?_ | refine Sub.castO rfl ?_ | refine Sub.skip ?_)
        · exact ⟨Nat.zero_le _, rfl, hI, Nat.le_refl _, hQ0⟩
        · rintro ⟨j, s2, qv2, qm2⟩ ⟨hjl, hs2, hI2, hl2, hQ2⟩
          have hIo2 := hI2.out
          refine r_envC (e := [(31, _), (5, _), (0, _), (1, _), (3, _), (29, _), (30, _)]) (by repeat (first | exact trivial | refine ⟨rfl, ?_⟩)) ?_
          refine r_seq fun K9 kh9 => ?_
          refine r_region ?_
          refine r_stepP rfl rfl rfl rfl (o_lss rfl rfl) ?_
          refine r_done ?_
          refine r_tn (kh9 _ _ _ ?_)
          clear kh9
          refine r_seq fun K10 kh10 => ?_
          refine r_cond rfl (fun c32 => ?_) (fun c32 => ?_)
          · skip
            refine r_skip ?_
            refine r_tn (kh10 _ _ _ ?_)
            clear kh10
            refine r_seq fun K11 kh11 => ?_
            refine r_block ?_
            refine r_seq fun K12 kh12 => ?_
            refine r_region ?_
            have hj : j < (nbrs (vn : Int) l).length := by omega
            obtain ⟨br, spr, rfl, hbr⟩ := hrow (by omega)
            have hur := hrng vn hvn _ (List.getElem_mem hj)
            obtain ⟨un, hue⟩ : ∃ un : Nat, (nbrs (vn : Int) l)[j] = (un : Int) := ⟨((nbrs (vn : Int) l)[j]).toNat, by omega⟩
            refine r_stepP rfl rfl rfl rfl (o_idx sl28 rfl rfl (j) ⟨by omega, by omega, by first | omega | (simp; done) | (simp; omega)⟩) ?_
            refine r_stepP rfl rfl rfl rfl (o_load Try.isAgg3 rfl (rdG (v := .int .i64 ((un : Nat) : Int)) hbr (app_get (by rw [ints_get hj, hue])))) ?_
            refine r_stepP rfl rfl rfl rfl (o_assign rfl) ?_
            refine r_done ?_
            refine r_tn (kh12 _ _ _ ?_)
            clear kh12
            refine r_seq fun K13 kh13 => ?_
            refine r_region ?_
            refine r_stepP rfl rfl rfl rfl (o_load Try.isAgg37 rfl (rdA rfl)) ?_
            refine r_stepP rfl rfl rfl rfl (o_move rfl) ?_
            refine r_stepP rfl rfl rfl rfl (o_idx sl37 rfl rfl (un) ⟨by omega, by omega, by first | omega | (simp; done) | (simp; omega)⟩) ?_
            refine r_stepP rfl rfl rfl rfl (o_load Try.isAgg4 rfl (rdA (boolsG_at (by rw [hI2.len]; omega)))) ?_
            refine r_stepP rfl rfl rfl rfl (o_not rfl) ?_
            refine r_done ?_
            refine r_tn (kh13 _ _ _ ?_)
            clear kh13
            refine r_condB rfl (fun c39 => ?_) (fun c39 => ?_)
            · skip
              have hbu : s2.2.getD un false = false := by simpa using c39
              have hpn : (s2.1 ++ [((un : Nat) : Int)], s2.2.set un true) = bpush ((nbrs (vn : Int) l).take (j + 1)) st := by rw [bpush_next hj, ← hs2, bpush1, hue, Int.toNat_natCast, if_neg (by rw [hbu]; simp)]
              refine r_seq fun K14 kh14 => ?_
              refine r_region ?_
              refine r_stepP rfl rfl rfl rfl (o_load Try.isAgg37 rfl (rdA rfl)) ?_
              refine r_stepP rfl rfl rfl rfl (o_move rfl) ?_
              refine r_stepP rfl rfl rfl rfl (o_idx sl37 rfl rfl (un) ⟨by omega, by omega, by first | omega | (simp; done) | (simp; omega)⟩) ?_
              refine r_step0 rfl rfl (Does.toR rfl (o_store Try.sizeOf4 rfl rfl rfl rfl (by have := hI2.len; simp [boolsG]; omega) (boolsG (s2.2.set un true)) (boolsG_set ..) ?_))
              refine r_done ?_
              refine r_tn (kh14 _ _ _ ?_)
              clear kh14
              refine r_region ?_
              refine r_stepP rfl rfl rfl rfl (o_move rfl) ?_
              refine r_stepP rfl rfl rfl rfl (o_move rfl) ?_
              refine r_step rfl rfl rfl (Does.toR rfl (o_slice1 el28 (by omega) rfl rfl rfl fun b45 => ?_))
              refine r_step rfl rfl rfl (Does.toR rfl (o_appendO el28 rfl rfl hQ2 (ys := [.int .i64 ((un : Nat) : Int)]) ⟨(rdA rfl), trivial⟩ rfl (by omega) rfl (by rw [ints_length, List.length_drop]; omega) (by rw [ints_length, List.length_drop]; omega) fun v46 m46 o46 => ?_))
              refine r_stepP rfl rfl rfl rfl (o_assign rfl) ?_
              refine r_done ?_
              refine r_bn ?_
              refine r_tn (kh11 _ _ _ ?_)
              clear kh11
              refine r_region ?_
              refine r_stepP rfl rfl rfl rfl (o_add rfl rfl _ (wrap_i64 (by omega))) ?_
              refine r_stepP rfl rfl rfl rfl (o_move rfl) ?_
              refine r_done ?_
              refine r_tn (r_again (j + 1, (s2.1 ++ [((un : Nat) : Int)], s2.2.set un true), v46, m46) (by first | omega | (dsimp only; omega) | (simp; omega)) rfl ⟨by omega, hpn, by rw [hpn, bpush_next hj, ← hs2]; exact hI2.push1 hur, by simp; omega, by rw [List.drop_append_of_le_length (by omega), ints_append]; exact o46⟩ ?_ ?_ ?_)
              · exact (by repeat (first | exact trivial | refine ⟨rfl, ?_⟩))
              · exact (by repeat (first | exact trivial | refine ⟨rfl, ?_⟩))
              · repeat (first | exact Sub.nil | refine Sub.pick ?_ | refine Sub.castO rfl ?_ | refine Sub.skip ?_)
            · skip
              have hbu : s2.2.getD un false = true := by simpa using c39
              refine r_skip ?_
              refine r_bn ?_
              refine r_tn (kh11 _ _ _ ?_)
              clear kh11
              refine r_region ?_
              refine r_stepP rfl rfl rfl rfl (o_add rfl rfl _ (wrap_i64 (by omega))) ?_
              refine r_stepP rfl rfl rfl rfl (o_move rfl) ?_
              refine r_done ?_
              refine r_tn (r_again (j + 1, s2, qv2, qm2) (by first | omega | (dsimp only; omega) | (simp; omega)) rfl ⟨by omega, by rw [bpush_next hj, ← hs2, bpush1, if_pos (by rw [hue] at *; simpa using hbu)], hI2, hl2, hQ2⟩ ?_ ?_ ?_)
              · exact (by repeat (first | exact trivial | refine ⟨rfl, ?_⟩))
              · exact (by repeat (first | exact trivial | refine ⟨rfl, ?_⟩))
              · repeat (first | exact Sub.nil | refine Sub.pick ?_ | refine Sub.castO rfl ?_ | refine Sub.skip ?_)
          · skip
            refine r_exit ?_
            refine r_te ?_
            clear kh10
            refine r_te ?_
            refine r_be ?_
            refine r_bn ?_
            refine r_tn (kh5 _ _ _ ?_)
            clear kh5
            have hst2 : s2 = bgo (fun v : Nat => nbrs (v : Int) l) (bstart c b0) (k + 1) := by
              rw [hs2, List.take_of_length_le (by omega)]
              show _ = bstep _ k (bgo (fun v : Nat => nbrs (v : Int) l) (bstart c b0) k)
              rw [← hst, bstep_at hkl2, ← hv, Int.toNat_natCast]
            have hq2l := ints_length (s2.1.drop k)
            rw [List.length_drop] at hq2l
            have hQ2' := hQ2
            obtain ⟨bw2, ow2, cw2, pre2, sp2, rfl, rfl, hq21, hq22, hq23, hq24⟩ := hQ2'
            obtain ⟨st2, rfl⟩ : ∃ st2, st2 = s2 := ⟨_, rfl⟩
            have hv2 : st2.1[k]'(by omega) = (vn : Int) := by
              obtain ⟨r, hr⟩ := bpush_ext ((nbrs (vn : Int) l).take j) st
              rw [← hs2] at hr
              simp only [hr]
              rw [List.getElem_append_left hkl2]; exact hv.symm
            refine r_region ?_
            refine r_stepP rfl rfl rfl rfl (o_move rfl) ?_
            refine r_stepP rfl rfl rfl rfl (o_slice sl28 rfl rfl rfl rfl (fun h => by cases h) 1 _ _ (.inr ⟨_, _, rfl, by omega⟩) (.inl ⟨rfl, rfl⟩) (.inl ⟨rfl, rfl⟩) ⟨by omega, by omega, by omega⟩ _ rfl) ?_
            refine r_stepP rfl rfl rfl rfl (o_assign rfl) ?_
            refine r_done ?_
            have hnx : bgo (fun v : Nat => nbrs (v : Int) l) (bstart c b0) (k + 1) = st2 := hst2.symm
            rw [← hnx]
            refine r_tn (r_again (k + 1, .slice (if cw2 = 1 then some ⟨bw2, ow2, none⟩ else (some ⟨bw2, ow2, none⟩ : Option Addr).map (·.add (1 * 1))) ((ints ((bgo (fun v : Nat => nbrs (v : Int) l) (bstart c b0) (k + 1)).1.drop k)).length - 1) (cw2 - 1), [(bw2, blk (pre2 ++ (ints ((bgo (fun v : Nat => nbrs (v : Int) l) (bstart c b0) (k + 1)).1.drop k) ++ sp2)) 3)], m2) (by first | omega | (dsimp only; omega) | (simp; omega)) rfl ⟨by rw [hnx]; omega, by rw [hnx]; refine OwnQ.tail (x := .int .i64 (vn : Int)) ?_; rw [show Value.int .i64 (vn : Int) :: ints (st2.1.drop (k + 1)) = ints (st2.1.drop k) from by rw [drop_cons_of (show k < st2.1.length by omega), hv2]; rfl]; exact hQ2, by rw [← hys]; exact hJ2⟩ ?_ ?_ ?_)
            · exact (by repeat (first | exact trivial | refine ⟨rfl, ?_⟩))
            · exact (by repeat (first | exact trivial | refine ⟨rfl, ?_⟩))
            · repeat (first | exact Sub.nil | refine Sub.pick ?_ | refine Sub.castO rfl ?_ | refine Sub.skip ?_)
    · skip
      have hke : st.1.length ≤ k := by omega
      have hfin : bfs n (fun v : Nat => nbrs (v : Int) l) c b0 = st := by rw [hst]; exact bgo_fin (by omega) (by rw [← hst]; exact hke)
      have htk : (bfs n (fun v : Nat => nbrs (v : Int) l) c b0).1.take k = (bfs n (fun v : Nat => nbrs (v : Int) l) c b0).1 := List.take_of_length_le (by rw [hfin]; exact hke)
      rw [htk] at hJ
      refine r_exit ?_
      refine r_te ?_
      clear kh3
      refine r_te ?_
      refine r_be ?_
      exact r_fin0n [mJ, [(b5, blk [.slice (some ⟨bin, 0, none⟩) n n] 37)], [(b4, blk [.int .i64 (c : Int)] 3)], [(b3, blk [.slice (some ⟨bo, 0, none⟩) n n] 55)], [(bin, blk (boolsG st.2) 4)], [(bo, blk vs 28)], ms.flatten] Try.results42 (by repeat (first | exact Sub.nil | refine Sub.pick ?_ | refine Sub.castO rfl ?_ | refine Sub.skip ?_)) ⟨rfl, mJ, _, rfl, .inl ⟨_, ⟨rfl, by rw [hfin]⟩, hJ⟩⟩

end Go.Proofs.Ytlllpmafhnfihaa
