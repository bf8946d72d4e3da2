import Derived.Test.YtkhjckghpakliaaAll4
import Derived.Test.YtkhjckghpakliaaAll2
import Derived.Test.YtkhjckghpakliaaAll0
import Derived.Test.YtkhjckghpakliaaFlyMap

/- grow.around, and the function that it hands back: the vertices around a centre, nearest first. -/
namespace Go.Proofs.Ytkhjckghpakliaa
open Go Go.RowKit Fly
set_option linter.unusedVariables false
set_option linter.unusedSimpArgs false


abbrev boolsG (l : List Bool) : List Value := l.map .bool
theorem boolsG_set (l : List Bool) (i : Nat) (b : Bool) : (boolsG l).set i (.bool b) = boolsG (l.set i b) := by simp [boolsG, List.map_set]
theorem boolsG_at {l : List Bool} {i : Nat} (h : i < l.length) : (boolsG l)[i]? = some (.bool (l.getD i false)) := by simp [List.getD_eq_getElem?_getD, h]
/-- What the iterator holds: three boxes, the marks, the rows. -/
abbrev arSegs (n c bin bo b3 b4 b5 : Nat) (b : List Bool) (vs : List Value) (G : Seg) : List Seg :=
  [[(b5, blk [.slice (some ⟨bin, 0, none⟩) n n] 48)], [(b4, blk [.int .i64 (c : Int)] 3)], [(b3, blk [.slice (some ⟨bo, 0, none⟩) n n] 67)], [(bin, blk (boolsG b) 4)], [(bo, blk vs 25)], G]
def arMay (F : BSt) (ys : List Int) (y : Int) : Prop := ∃ k, ∃ h : k < F.1.length, ys = F.1.take k ∧ y = F.1[k]
def arFin (F : BSt) (n c bin bo b3 b4 b5 : Nat) (vs : List Value) (G : Seg) (ys : List Int) (o : List Seg) : Prop := ys = F.1 ∧ o = arSegs n c bin bo b3 b4 b5 F.2 vs G
def arStp (F : BSt) (n c bin bo b3 b4 b5 : Nat) (vs : List Value) (G : Seg) (ys : List Int) (o : List Seg) : Prop := ∃ k, k < F.1.length ∧ ys = F.1.take (k + 1) ∧ ∃ b', b'.length = n ∧ o = arSegs n c bin bo b3 b4 b5 b' vs G
theorem drop_cons_of {α : Type} {l : List α} {k : Nat} (h : k < l.length) : l.drop k = l[k] :: l.drop (k + 1) := (List.getElem_cons_drop h).symm
theorem row_blk {E : TypeId} {ls : List (List Int)} {vs : List Value} {ms : List Seg} (hR : RowsI E ls vs ms) {i : Nat} (hi : i < ls.length) : ∃ A c, vs[i]? = some (.slice A ls[i].length c) ∧ (0 < ls[i].length → ∃ br sp, A = some ⟨br, 0, none⟩ ∧ (br, blk (ints ls[i] ++ sp) E) ∈ ms.flatten) := by
  have ho := hR.own i hi
  obtain ⟨A, c, e, _⟩ := ho.val
  rw [e] at ho
  refine ⟨A, c, by rw [List.getElem?_eq_getElem (by rw [hR.lv]; exact hi), e], fun hl => ?_⟩
  obtain ⟨br, sp, rfl, hm⟩ := ho.at_ hl
  exact ⟨br, sp, rfl, List.mem_flatten.2 ⟨_, List.getElem_mem (by rw [hR.lm]; exact hi), by rw [hm]; simp⟩⟩

set_option maxRecDepth 100000 in
set_option maxHeartbeats 4000000 in
theorem around_spec (n bo bin : Nat) (c : Int) (w : World) :
    Meets Try.prog 33 [.slice (some ⟨bo, 0, none⟩) n n, .int .i64 c, .slice (some ⟨bin, 0, none⟩) n n] w [] (fun u own' => ∃ b3 b4 b5, u = .func (.func 41) #[] #[.pointer (some ⟨b5, 0, none⟩), .pointer (some ⟨b4, 0, none⟩), .pointer (some ⟨b3, 0, none⟩)] ∧ own' = [[(b5, blk [.slice (some ⟨bin, 0, none⟩) n n] 48)], [(b4, blk [.int .i64 c] 3)], [(b3, blk [.slice (some ⟨bo, 0, none⟩) n n] 67)]]) := by
 refine f_enter Try.func33 rfl Try.ntmps33 rfl Owns.nil ?_
 refine f_seq fun K1 kh1 => ?_
 refine f_region ?_
 refine f_step rfl rfl rfl (o_box rfl rfl fun b3 => ?_)
 refine f_step rfl rfl rfl (o_box rfl rfl fun b4 => ?_)
 refine f_step rfl rfl rfl (o_box rfl rfl fun b5 => ?_)
 refine f_stepP rfl rfl rfl (o_assign rfl) ?_
 refine f_done ?_
 refine f_tn (kh1 _ _ ?_)
 clear kh1
 refine f_seq fun K2 kh2 => ?_
 refine f_region ?_
 refine f_stepP rfl rfl rfl (o_func rfl rfl) ?_
 refine f_stepP rfl rfl rfl (o_assign rfl) ?_
 refine f_done ?_
 refine f_tn (kh2 _ _ ?_)
 clear kh2
 refine f_ret ?_
 exact f_fin1 [[(b5, blk [.slice (some ⟨bin, 0, none⟩) n n] 48)], [(b4, blk [.int .i64 c] 3)], [(b3, blk [.slice (some ⟨bo, 0, none⟩) n n] 67)]] Try.results33 rfl (by repeat (first | exact Sub.nil | refine Sub.pick ?_ | refine Sub.castO rfl ?_ | refine Sub.skip ?_)) ⟨b3, b4, b5, rfl, rfl⟩

set_option maxRecDepth 100000 in
set_option maxHeartbeats 4000000 in
theorem around1_iter (n c bin bo b3 b4 b5 : Nat) (l : List Arc) (b0 : List Bool) (vs : List Value) (ms : List Seg) (m0 : Seg) (w : World) (hb0 : b0.length = n) (hc : c < n) (hn : n ≤ 1024) (hR : RowsI 3 (nrows n l) vs ms) (hrng : ∀ v, v < n → ∀ u ∈ nbrs (v : Int) l, 0 ≤ u ∧ u < (n : Int)) (hrl : ∀ v : Nat, (nbrs (v : Int) l).length ≤ 8192) :
    IterAt Try.prog 41 [.pointer (some ⟨b5, 0, none⟩), .pointer (some ⟨b4, 0, none⟩), .pointer (some ⟨b3, 0, none⟩)] (arSegs n c bin bo b3 b4 b5 b0 vs ms.flatten) (fun y : Int => .int .i64 y) (arMay (bfs n (fun v : Nat => nbrs (v : Int) l) c b0)) (arFin (bfs n (fun v : Nat => nbrs (v : Int) l) c b0) n c bin bo b3 b4 b5 vs ms.flatten) (arStp (bfs n (fun v : Nat => nbrs (v : Int) l) c b0) n c bin bo b3 b4 b5 vs ms.flatten) m0 w := by
 intro l_ J Jx hJ0 hown hY
 have hvl : vs.length = n := by have := hR.lv; rwa [nrows_len] at this
 have hI0 : BInv n (bstart c b0) := BInv.start hb0 hc
 refine r_enter Try.func41 rfl Try.ntmps41 rfl hown ?_
 refine r_seq fun K1 kh1 => ?_
 refine r_region ?_
 refine r_stepP rfl rfl rfl rfl (o_load Try.isAgg48 rfl (rdA rfl)) ?_
 refine r_stepP rfl rfl rfl rfl (o_load Try.isAgg3 rfl (rdA rfl)) ?_
 refine r_stepP rfl rfl rfl rfl (o_idx sl48 rfl rfl (c) ⟨by omega, by omega, by first | omega | (simp; done) | (simp; omega)⟩) ?_
 refine r_step0 rfl rfl (Does.toR rfl (o_store Try.sizeOf4 rfl rfl rfl rfl (by simp [boolsG]; omega) (boolsG (b0.set c true)) (boolsG_set ..) ?_))
 refine r_done ?_
 refine r_tn (kh1 _ _ _ ?_)
 clear kh1
 refine r_seq fun K2 kh2 => ?_
 refine r_region ?_
 refine r_stepP rfl rfl rfl rfl (o_load Try.isAgg3 rfl (rdA rfl)) ?_
 refine r_step rfl rfl rfl (Does.toR rfl (o_slice1 el25 (by omega) rfl rfl rfl fun b12 => ?_))
 refine r_stepP rfl rfl rfl rfl (o_assign rfl) ?_
 refine r_done ?_
 refine r_tn (kh2 _ _ _ ?_)
 clear kh2
 refine r_block ?_
 refine r_loop (α := Nat × Value × Seg × Seg) (fun ⟨k, qv, qm, mJ⟩ => []) [0, 1, 3] (fun ⟨k, qv, qm, mJ⟩ => [(5, qv)]) (fun ⟨k, qv, qm, mJ⟩ => [[(b5, blk [.slice (some ⟨bin, 0, none⟩) n n] 48)], [(b4, blk [.int .i64 (c : Int)] 3)], [(b3, blk [.slice (some ⟨bo, 0, none⟩) n n] 67)], [(bin, blk (boolsG (bgo (fun v : Nat => nbrs (v : Int) l) (bstart c b0) k).2) 4)], [(bo, blk vs 25)], ms.flatten, qm, mJ]) (fun ⟨k, qv, qm, mJ⟩ => k ≤ (bgo (fun v : Nat => nbrs (v : Int) l) (bstart c b0) k).1.length ∧ OwnQ 3 qv (ints ((bgo (fun v : Nat => nbrs (v : Int) l) (bstart c b0) k).1.drop k)) qm ∧ J ((bfs n (fun v : Nat => nbrs (v : Int) l) c b0).1.take k) mJ) (fun ⟨k, qv, qm, mJ⟩ => n - k) (0, .slice (some ⟨b12, 0, none⟩) 1 1, [(b12, blk [.int .i64 (c : Int)] 3)], m0) rfl ?_ ?_ ?_ ?_
 · exact (by repeat (first | exact trivial | refine ⟨rfl, ?_⟩))
 · repeat (first | exact Sub.nil | refine Sub.pick ?_ | refine Sub.castO rfl ?_ | refine Sub.skip ?_)
 · exact ⟨Nat.zero_le _, OwnQ.one _ _ _, by rw [List.take_zero]; exact hJ0⟩
 ·
  rintro ⟨k, qv, qm, mJ⟩ ⟨hkl, hQ, hJ⟩
  have hI := BInv.go hrng hI0 k
  have hIo := hI.out
  obtain ⟨st, hst⟩ : ∃ st, st = bgo (fun v : Nat => nbrs (v : Int) l) (bstart c b0) k := ⟨_, rfl⟩
  dsimp only
  rw [← hst] at hkl hQ hI hIo ⊢
  have hQ0 := hQ
  have hql := ints_length (st.1.drop k)
  rw [List.length_drop] at hql
  obtain ⟨bw, ow, cw, pre, sp, rfl, rfl, hq1, hq2, hq3, hq4⟩ := hQ
  refine r_seq fun K3 kh3 => ?_
  refine r_seq fun K4 kh4 => ?_
  refine r_region ?_
  refine r_stepP rfl rfl rfl rfl (o_move rfl) ?_
  refine r_stepP rfl rfl rfl rfl (o_len sl25 rfl) ?_
  refine r_stepP rfl rfl rfl rfl (o_gtr rfl rfl) ?_
  refine r_done ?_
  refine r_tn (kh4 _ _ _ ?_)
  clear kh4
  refine r_cond rfl (fun c15 => ?_) (fun c15 => ?_)
  ·
   have hkl2 : k < st.1.length := by omega
   have hpre := hq4 (by omega)
   obtain ⟨v, hv⟩ : ∃ v, v = st.1[k] := ⟨_, rfl⟩
   have hdc : st.1.drop k = v :: st.1.drop (k + 1) := by rw [hv]; exact drop_cons_of hkl2
   have hvr := hI.rng _ (List.getElem_mem hkl2)
   rw [← hv] at hvr
   obtain ⟨vn, rfl⟩ : ∃ vn : Nat, v = (vn : Int) := ⟨v.toNat, by omega⟩
   have hvn : vn < n := by omega
   obtain ⟨hgl0, hge⟩ := bgo_get (n := n) (rows := (fun v : Nat => nbrs (v : Int) l)) (s := bstart c b0) (k := k) (by omega) (by rw [← hst]; exact hkl2)
   have hgl : k < (bfs n (fun v : Nat => nbrs (v : Int) l) c b0).1.length := hgl0
   have hge' : (bfs n (fun v : Nat => nbrs (v : Int) l) c b0).1[k] = (vn : Int) := by rw [hv]; refine hge.trans ?_; simp only [hst]
   have hys : (bfs n (fun v : Nat => nbrs (v : Int) l) c b0).1.take k ++ [(vn : Int)] = (bfs n (fun v : Nat => nbrs (v : Int) l) c b0).1.take (k + 1) := by rw [List.take_succ_eq_append_getElem hgl, hge']
   refine r_skip ?_
   refine r_tn (kh3 _ _ _ ?_)
   clear kh3
   refine r_seq fun K5 kh5 => ?_
   refine r_block ?_
   refine r_seq fun K6 kh6 => ?_
   refine r_seq fun K7 kh7 => ?_
   refine r_region ?_
   refine r_stepP rfl rfl rfl rfl (o_move rfl) ?_
   refine r_stepP rfl rfl rfl rfl (o_move rfl) ?_
   refine r_stepP rfl rfl rfl rfl (o_idx sl25 rfl rfl (ow) ⟨by omega, by omega, by first | omega | (simp; done) | (simp; omega)⟩) ?_
   refine r_stepP rfl rfl rfl rfl (o_load Try.isAgg3 rfl (rdA (v := .int .i64 (vn : Int)) (by rw [← hpre, hdc]; simp [ints]))) ?_
   refine r_step rfl rfl rfl (o_yield [mJ] _ rfl rfl (by repeat (first | exact Sub.refl | refine Sub.pick ?_)) (fun w_ hp_ => hY _ (vn : Int) w_ mJ hJ ⟨k, hgl, rfl, hge'.symm⟩ hp_.owns (fun k hk => hp_.fz k hk)) ?_)
   rintro v22 _ ⟨m2, rfl, hy2⟩
   obtain ⟨bb, rfl, hy3⟩ : ∃ bb, v22 = .bool bb ∧ ((bb = true ∧ J ((bfs n (fun v : Nat => nbrs (v : Int) l) c b0).1.take k ++ [(vn : Int)]) m2) ∨ (bb = false ∧ Jx ((bfs n (fun v : Nat => nbrs (v : Int) l) c b0).1.take k ++ [(vn : Int)]) m2)) := by
     rcases hy2 with ⟨rfl, h⟩ | ⟨rfl, h⟩
     · exact ⟨_, rfl, .inl ⟨rfl, h⟩⟩
     · exact ⟨_, rfl, .inr ⟨rfl, h⟩⟩
   dsimp only [List.cons_append, List.nil_append]
   refine r_stepP rfl rfl rfl rfl (o_not rfl) ?_
   refine r_done ?_
   refine r_tn (kh7 _ _ _ ?_)
   clear kh7
   refine r_condB rfl (fun c23 => ?_) (fun c23 => ?_)
   ·
    refine r_ret ?_
    refine r_tr ?_
    refine r_br ?_
    refine r_tr ?_
    refine r_tr ?_
    refine r_br ?_
    have hJx2 : Jx _ m2 := (hy3.resolve_left (fun h => by rw [h.1] at c23; cases c23)).2
    exact r_fin0 [m2, [(b5, blk [.slice (some ⟨bin, 0, none⟩) n n] 48)], [(b4, blk [.int .i64 (c : Int)] 3)], [(b3, blk [.slice (some ⟨bo, 0, none⟩) n n] 67)], [(bin, blk (boolsG st.2) 4)], [(bo, blk vs 25)], ms.flatten] Try.results41 (by repeat (first | exact Sub.nil | refine Sub.pick ?_ | refine Sub.castO rfl ?_ | refine Sub.skip ?_)) ⟨rfl, m2, _, rfl, .inr ⟨_, ⟨k, hgl, hys, st.2, hI.len, rfl⟩, hJx2⟩⟩
   ·
    refine r_skip ?_
    refine r_tn (kh6 _ _ _ ?_)
    clear kh6
    refine r_seq fun K8 kh8 => ?_
    have hJ2 : J _ m2 := (hy3.resolve_right (fun h => by rw [h.1] at c23; cases c23)).2
    obtain ⟨Ar, cr, hrv, hrow⟩ := row_blk hR (i := vn) (by rw [nrows_len]; exact hvn)
    rw [nrows_get] at hrv hrow
    have hrll := hrl vn
    refine r_old ?_
    refine f_regionS rfl (by decide +kernel) ?_
    refine f_stillP rfl rfl rfl (o_load Try.isAgg67 rfl (rdA rfl)) ?_
    refine f_stillP rfl rfl rfl (o_move rfl) ?_
    refine f_stillP rfl rfl rfl (o_idx sl25 rfl rfl (ow) ⟨by omega, by omega, by first | omega | (simp; done) | (simp; omega)⟩) ?_
    refine f_stillP rfl rfl rfl (o_load Try.isAgg3 rfl (rdA (v := .int .i64 (vn : Int)) (by rw [← hpre, hdc]; simp [ints]))) ?_
    refine f_stillP rfl rfl rfl (o_idx sl67 rfl rfl (vn) ⟨by omega, by omega, by first | omega | (simp; done) | (simp; omega)⟩) ?_
    refine f_stillP rfl rfl rfl (o_load Try.isAgg25 rfl (rdA hrv)) ?_
    refine f_stillP rfl rfl rfl (o_len sl25 rfl) ?_
    refine f_stillP rfl rfl rfl (o_move rfl) ?_
    refine f_stillD ?_
    refine r_new ?_
    refine r_tn (kh8 _ _ _ ?_)
    clear kh8
    refine r_block ?_
    refine r_loop (α := Nat × BSt × Value × Seg) (fun ⟨j, s2, qv2, qm2⟩ => []) [0, 1, 3, 29, 30] (fun ⟨j, s2, qv2, qm2⟩ => [(31, .int .i64 (j : Int)), (5, qv2)]) (fun ⟨j, s2, qv2, qm2⟩ => [[(b5, blk [.slice (some ⟨bin, 0, none⟩) n n] 48)], [(b4, blk [.int .i64 (c : Int)] 3)], [(b3, blk [.slice (some ⟨bo, 0, none⟩) n n] 67)], [(bin, blk (boolsG s2.2) 4)], [(bo, blk vs 25)], ms.flatten, qm2, m2]) (fun ⟨j, s2, qv2, qm2⟩ => j ≤ (nbrs (vn : Int) l).length ∧ s2 = bpush ((nbrs (vn : Int) l).take j) st ∧ BInv n s2 ∧ st.1.length ≤ s2.1.length ∧ OwnQ 3 qv2 (ints (s2.1.drop k)) qm2) (fun ⟨j, s2, qv2, qm2⟩ => (nbrs (vn : Int) l).length - j) (0, st, .slice (some ⟨bw, ow, none⟩) (ints (st.1.drop k)).length cw, [(bw, blk (pre ++ (ints (st.1.drop k) ++ sp)) 3)]) rfl ?_ ?_ ?_ ?_
    · exact (by repeat (first | exact trivial | refine ⟨rfl, ?_⟩))
    · repeat (first | exact Sub.nil | refine Sub.pick ?_ | refine Sub.castO rfl ?_ | refine Sub.skip ?_)
    · exact ⟨Nat.zero_le _, rfl, hI, Nat.le_refl _, hQ0⟩
    ·
     rintro ⟨j, s2, qv2, qm2⟩ ⟨hjl, hs2, hI2, hl2, hQ2⟩
     have hIo2 := hI2.out
     refine r_envC (e := [(31, _), (5, _), (0, _), (1, _), (3, _), (29, _), (30, _)]) (by repeat (first | exact trivial | refine ⟨rfl, ?_⟩)) ?_
     refine r_seq fun K9 kh9 => ?_
     refine r_region ?_
     refine r_stepP rfl rfl rfl rfl (o_lss rfl rfl) ?_
     refine r_done ?_
     refine r_tn (kh9 _ _ _ ?_)
     clear kh9
     refine r_seq fun K10 kh10 => ?_
     refine r_cond rfl (fun c32 => ?_) (fun c32 => ?_)
     ·
      refine r_skip ?_
      refine r_tn (kh10 _ _ _ ?_)
      clear kh10
      refine r_seq fun K11 kh11 => ?_
      refine r_block ?_
      refine r_seq fun K12 kh12 => ?_
      refine r_region ?_
      have hj : j < (nbrs (vn : Int) l).length := by omega
      obtain ⟨br, spr, rfl, hbr⟩ := hrow (by omega)
      have hur := hrng vn hvn _ (List.getElem_mem hj)
      obtain ⟨un, hue⟩ : ∃ un : Nat, (nbrs (vn : Int) l)[j] = (un : Int) := ⟨((nbrs (vn : Int) l)[j]).toNat, by omega⟩
      refine r_stepP rfl rfl rfl rfl (o_idx sl25 rfl rfl (j) ⟨by omega, by omega, by first | omega | (simp; done) | (simp; omega)⟩) ?_
      refine r_stepP rfl rfl rfl rfl (o_load Try.isAgg3 rfl (rdG (v := .int .i64 ((un : Nat) : Int)) hbr (app_get (by rw [ints_get hj, hue])))) ?_
      refine r_stepP rfl rfl rfl rfl (o_assign rfl) ?_
      refine r_done ?_
      refine r_tn (kh12 _ _ _ ?_)
      clear kh12
      refine r_seq fun K13 kh13 => ?_
      refine r_region ?_
      refine r_stepP rfl rfl rfl rfl (o_load Try.isAgg48 rfl (rdA rfl)) ?_
      refine r_stepP rfl rfl rfl rfl (o_move rfl) ?_
      refine r_stepP rfl rfl rfl rfl (o_idx sl48 rfl rfl (un) ⟨by omega, by omega, by first | omega | (simp; done) | (simp; omega)⟩) ?_
      refine r_stepP rfl rfl rfl rfl (o_load Try.isAgg4 rfl (rdA (boolsG_at (by rw [hI2.len]; omega)))) ?_
      refine r_stepP rfl rfl rfl rfl (o_not rfl) ?_
      refine r_done ?_
      refine r_tn (kh13 _ _ _ ?_)
      clear kh13
      refine r_condB rfl (fun c39 => ?_) (fun c39 => ?_)
      ·
       have hbu : s2.2.getD un false = false := by simpa using c39
       have hpn : (s2.1 ++ [((un : Nat) : Int)], s2.2.set un true) = bpush ((nbrs (vn : Int) l).take (j + 1)) st := by rw [bpush_next hj, ← hs2, bpush1, hue, Int.toNat_natCast, if_neg (by rw [hbu]; simp)]
       refine r_seq fun K14 kh14 => ?_
       refine r_region ?_
       refine r_stepP rfl rfl rfl rfl (o_load Try.isAgg48 rfl (rdA rfl)) ?_
       refine r_stepP rfl rfl rfl rfl (o_move rfl) ?_
       refine r_stepP rfl rfl rfl rfl (o_idx sl48 rfl rfl (un) ⟨by omega, by omega, by first | omega | (simp; done) | (simp; omega)⟩) ?_
       refine r_step0 rfl rfl (Does.toR rfl (o_store Try.sizeOf4 rfl rfl rfl rfl (by have := hI2.len; simp [boolsG]; omega) (boolsG (s2.2.set un true)) (boolsG_set ..) ?_))
       refine r_done ?_
       refine r_tn (kh14 _ _ _ ?_)
       clear kh14
       refine r_region ?_
       refine r_stepP rfl rfl rfl rfl (o_move rfl) ?_
       refine r_stepP rfl rfl rfl rfl (o_move rfl) ?_
       refine r_step rfl rfl rfl (Does.toR rfl (o_slice1 el25 (by omega) rfl rfl rfl fun b45 => ?_))
       refine r_step rfl rfl rfl (Does.toR rfl (o_appendO el25 rfl rfl hQ2 (ys := [.int .i64 ((un : Nat) : Int)]) ⟨(rdA rfl), trivial⟩ rfl (by omega) rfl (by rw [ints_length, List.length_drop]; omega) (by rw [ints_length, List.length_drop]; omega) fun v46 m46 o46 => ?_))
       refine r_stepP rfl rfl rfl rfl (o_assign rfl) ?_
       refine r_done ?_
       refine r_bn ?_
       refine r_tn (kh11 _ _ _ ?_)
       clear kh11
       refine r_region ?_
       refine r_stepP rfl rfl rfl rfl (o_add rfl rfl _ (wrap_i64 (by omega))) ?_
       refine r_stepP rfl rfl rfl rfl (o_move rfl) ?_
       refine r_done ?_
       refine r_tn (r_again (j + 1, (s2.1 ++ [((un : Nat) : Int)], s2.2.set un true), v46, m46) (by first | omega | (dsimp only; omega) | (simp; omega)) rfl ⟨by omega, hpn, by rw [hpn, bpush_next hj, ← hs2]; exact hI2.push1 hur, by simp; omega, by rw [List.drop_append_of_le_length (by omega), ints_append]; exact o46⟩ ?_ ?_ ?_)
       · exact (by repeat (first | exact trivial | refine ⟨rfl, ?_⟩))
       · exact (by repeat (first | exact trivial | refine ⟨rfl, ?_⟩))
       · repeat (first | exact Sub.nil | refine Sub.pick ?_ | refine Sub.castO rfl ?_ | refine Sub.skip ?_)
      ·
       have hbu : s2.2.getD un false = true := by simpa using c39
       refine r_skip ?_
       refine r_bn ?_
       refine r_tn (kh11 _ _ _ ?_)
       clear kh11
       refine r_region ?_
       refine r_stepP rfl rfl rfl rfl (o_add rfl rfl _ (wrap_i64 (by omega))) ?_
       refine r_stepP rfl rfl rfl rfl (o_move rfl) ?_
       refine r_done ?_
       refine r_tn (r_again (j + 1, s2, qv2, qm2) (by first | omega | (dsimp only; omega) | (simp; omega)) rfl ⟨by omega, by rw [bpush_next hj, ← hs2, bpush1, if_pos (by rw [hue] at *; simpa using hbu)], hI2, hl2, hQ2⟩ ?_ ?_ ?_)
       · exact (by repeat (first | exact trivial | refine ⟨rfl, ?_⟩))
       · exact (by repeat (first | exact trivial | refine ⟨rfl, ?_⟩))
       · repeat (first | exact Sub.nil | refine Sub.pick ?_ | refine Sub.castO rfl ?_ | refine Sub.skip ?_)
     ·
      refine r_exit ?_
      refine r_te ?_
      clear kh10
      refine r_te ?_
      refine r_be ?_
      refine r_bn ?_
      refine r_tn (kh5 _ _ _ ?_)
      clear kh5
      have hst2 : s2 = bgo (fun v : Nat => nbrs (v : Int) l) (bstart c b0) (k + 1) := by
        rw [hs2, List.take_of_length_le (by omega)]
        show _ = bstep _ k (bgo (fun v : Nat => nbrs (v : Int) l) (bstart c b0) k)
        rw [← hst, bstep_at hkl2, ← hv, Int.toNat_natCast]
      have hq2l := ints_length (s2.1.drop k)
      rw [List.length_drop] at hq2l
      have hQ2' := hQ2
      obtain ⟨bw2, ow2, cw2, pre2, sp2, rfl, rfl, hq21, hq22, hq23, hq24⟩ := hQ2'
      obtain ⟨st2, rfl⟩ : ∃ st2, st2 = s2 := ⟨_, rfl⟩
      have hv2 : st2.1[k]'(by omega) = (vn : Int) := by
        obtain ⟨r, hr⟩ := bpush_ext ((nbrs (vn : Int) l).take j) st
        rw [← hs2] at hr
        simp only [hr]
        rw [List.getElem_append_left hkl2]; exact hv.symm
      refine r_region ?_
      refine r_stepP rfl rfl rfl rfl (o_move rfl) ?_
      refine r_stepP rfl rfl rfl rfl (o_slice sl25 rfl rfl rfl rfl (fun h => by cases h) 1 _ _ (.inr ⟨_, _, rfl, by omega⟩) (.inl ⟨rfl, rfl⟩) (.inl ⟨rfl, rfl⟩) ⟨by omega, by omega, by omega⟩ _ rfl) ?_
      refine r_stepP rfl rfl rfl rfl (o_assign rfl) ?_
      refine r_done ?_
      have hnx : bgo (fun v : Nat => nbrs (v : Int) l) (bstart c b0) (k + 1) = st2 := hst2.symm
      rw [← hnx]
      refine r_tn (r_again (k + 1, .slice (if cw2 = 1 then some ⟨bw2, ow2, none⟩ else (some ⟨bw2, ow2, none⟩ : Option Addr).map (·.add (1 * 1))) ((ints ((bgo (fun v : Nat => nbrs (v : Int) l) (bstart c b0) (k + 1)).1.drop k)).length - 1) (cw2 - 1), [(bw2, blk (pre2 ++ (ints ((bgo (fun v : Nat => nbrs (v : Int) l) (bstart c b0) (k + 1)).1.drop k) ++ sp2)) 3)], m2) (by first | omega | (dsimp only; omega) | (simp; omega)) rfl ⟨by rw [hnx]; omega, by rw [hnx]; refine OwnQ.tail (x := .int .i64 (vn : Int)) ?_; rw [show Value.int .i64 (vn : Int) :: ints (st2.1.drop (k + 1)) = ints (st2.1.drop k) from by rw [drop_cons_of (show k < st2.1.length by omega), hv2]; rfl]; exact hQ2, by rw [← hys]; exact hJ2⟩ ?_ ?_ ?_)
      · exact (by repeat (first | exact trivial | refine ⟨rfl, ?_⟩))
      · exact (by repeat (first | exact trivial | refine ⟨rfl, ?_⟩))
      · repeat (first | exact Sub.nil | refine Sub.pick ?_ | refine Sub.castO rfl ?_ | refine Sub.skip ?_)
  ·
   have hke : st.1.length ≤ k := by omega
   have hfin : bfs n (fun v : Nat => nbrs (v : Int) l) c b0 = st := by rw [hst]; exact bgo_fin (by omega) (by rw [← hst]; exact hke)
   have htk : (bfs n (fun v : Nat => nbrs (v : Int) l) c b0).1.take k = (bfs n (fun v : Nat => nbrs (v : Int) l) c b0).1 := List.take_of_length_le (by rw [hfin]; exact hke)
   rw [htk] at hJ
   refine r_exit ?_
   refine r_te ?_
   clear kh3
   refine r_te ?_
   refine r_be ?_
   exact r_fin0n [mJ, [(b5, blk [.slice (some ⟨bin, 0, none⟩) n n] 48)], [(b4, blk [.int .i64 (c : Int)] 3)], [(b3, blk [.slice (some ⟨bo, 0, none⟩) n n] 67)], [(bin, blk (boolsG st.2) 4)], [(bo, blk vs 25)], ms.flatten] Try.results41 (by repeat (first | exact Sub.nil | refine Sub.pick ?_ | refine Sub.castO rfl ?_ | refine Sub.skip ?_)) ⟨rfl, mJ, _, rfl, .inl ⟨_, ⟨rfl, by rw [hfin]⟩, hJ⟩⟩

end Go.Proofs.Ytkhjckghpakliaa

/- grow.Region: so many vertices around a centre. -/
namespace Go.Proofs.Ytkhjckghpakliaa
open Go Go.RowKit Fly
set_option linter.unusedVariables false
set_option linter.unusedSimpArgs false


/-- So many vertices around a centre, or what is wrong. -/
def regR (N : Int) (l : List Arc) (c most : Int) : List Int × Int :=
  if (gcheck N l).2 ≠ 0 then ([], (gcheck N l).2) else if c < 0 ∨ N ≤ c then ([], 5) else if most < 1 ∨ 1024 < most then ([], 1) else
    ((bfs N.toNat (fun v : Nat => nbrs (v : Int) l) c.toNat (List.replicate N.toNat false)).1.take most.toNat, 0)
theorem nbrs_rngG {n : Nat} {l : List Arc} (hg : (gcheck (n : Int) l).2 = 0) : (∀ v : Nat, (nbrs (v : Int) l).length ≤ 8192) ∧ ∀ v, v < n → ∀ u ∈ nbrs (v : Int) l, 0 ≤ u ∧ u < (n : Int) := by
  obtain ⟨_, _, hlen, hgd⟩ := gcheck_zero hg
  refine ⟨fun v => ?_, fun v _ u hu => ?_⟩
  · unfold nbrs
    refine Nat.le_trans (cpt_len_le _) ?_
    rw [sortI_len]
    exact Nat.le_trans (nbr_len v l) hlen
  · obtain ⟨x, hx, hux⟩ := nbrs_mem.1 hu
    obtain ⟨i, hi, rfl⟩ := List.mem_iff_getElem.1 hx
    have := hgd i hi
    unfold nbr at hux
    split at hux
    · simp at hux
    · split at hux
      · simp at hux; omega
      · split at hux
        · simp at hux; omega
        · simp at hux
theorem reps_bool (n : Nat) (b : Bool) : (List.replicate n [Value.bool b]).flatten = boolsG (List.replicate n b) := by
  induction n with
  | zero => rfl
  | succ n ih => rw [List.replicate_succ, List.flatten_cons, ih]; rfl

end Go.Proofs.Ytkhjckghpakliaa

/- grow.Order: all vertices, part by part, nearest first. -/
namespace Go.Proofs.Ytkhjckghpakliaa
open Go Go.RowKit Fly
set_option linter.unusedVariables false
set_option linter.unusedSimpArgs false


/-- The order of the vertices that lie with the first v. -/
def ordGo (n : Nat) (rows : Nat → List Int) : Nat → BSt
  | 0 => ([], List.replicate n false)
  | v + 1 => if (ordGo n rows v).2.getD v false = true then ordGo n rows v else ((ordGo n rows v).1 ++ (bfs n rows v (ordGo n rows v).2).1, (bfs n rows v (ordGo n rows v).2).2)
def ordR (N : Int) (l : List Arc) : List Int × Int := if (gcheck N l).2 ≠ 0 then ([], (gcheck N l).2) else ((ordGo N.toNat (fun v : Nat => nbrs (v : Int) l) N.toNat).1, 0)
theorem bfs_inv {n : Nat} {rows : Nat → List Int} (hr : ∀ v, v < n → ∀ u ∈ rows v, 0 ≤ u ∧ u < (n : Int)) {c : Nat} {b : List Bool} (hb : b.length = n) (hc : c < n) : BInv n (bfs n rows c b) := BInv.go hr (BInv.start hb hc) n
theorem ordGo_len {n : Nat} {rows : Nat → List Int} (hr : ∀ v, v < n → ∀ u ∈ rows v, 0 ≤ u ∧ u < (n : Int)) : ∀ v, v ≤ n → (ordGo n rows v).2.length = n ∧ (ordGo n rows v).1.length ≤ v * n
  | 0, _ => ⟨by show (List.replicate n false).length = n; simp, by show 0 ≤ 0 * n; omega⟩
  | v + 1, h => by
    obtain ⟨h1, h2⟩ := ordGo_len hr v (by omega)
    unfold ordGo
    split
    · exact ⟨h1, Nat.le_trans h2 (Nat.mul_le_mul_right n (Nat.le_succ v))⟩
    · have hI := bfs_inv hr h1 (show v < n by omega)
      refine ⟨hI.len, ?_⟩
      have := hI.out
      rw [List.length_append, Nat.succ_mul]; omega
theorem ordGo_small {n : Nat} {rows : Nat → List Int} (hr : ∀ v, v < n → ∀ u ∈ rows v, 0 ≤ u ∧ u < (n : Int)) (hn : n ≤ 1024) {v : Nat} (hv : v ≤ n) : (ordGo n rows v).2.length = n ∧ (ordGo n rows v).1.length ≤ 1048576 :=
  ⟨(ordGo_len hr v hv).1, Nat.le_trans (ordGo_len hr v hv).2 (Nat.le_trans (Nat.mul_le_mul (Nat.le_trans hv hn) hn) (by decide))⟩
theorem mayLen {F : BSt} {ys : List Int} {y : Int} (h : arMay F ys y) : ys.length < F.1.length := by
  obtain ⟨k, hk, rfl, _⟩ := h
  rw [List.length_take]; omega

set_option maxRecDepth 100000 in
set_option maxHeartbeats 4000000 in
theorem Order_spec (N : Int) (A : Option Addr) (l : List Arc) (cap : Nat) (w : World) (hr : Ro (Fr w []) w A (l.flatMap arcCs)) (hl : l.length ≤ 9223372036854775807) (hN : I64 N) (hok : ∀ x ∈ l, ArcOk x) :
    Meets Try.prog 21 [.agg #[.int .i64 N, .slice A l.length cap]] w [] (fun u own' => ∃ s ms, u = .tuple #[s, .int .i64 (ordR N l).2] ∧ own' = [ms] ∧ Own 3 1 s (ordR N l).1.length (ints (ordR N l).1) ms) := by
 refine r_enter Try.func21 rfl Try.ntmps21 rfl Owns.nil ?_
 refine r_seq fun K1 kh1 => ?_
 refine r_region ?_
 refine r_step rfl rfl rfl (Does.toR rfl (o_box rfl rfl fun b1 => ?_))
 refine r_stepP rfl rfl rfl rfl (o_assign rfl) ?_
 refine r_stepP rfl rfl rfl rfl (o_assign rfl) ?_
 refine r_done ?_
 refine r_tn (kh1 _ _ _ ?_)
 clear kh1
 refine r_seq fun K2 kh2 => ?_
 refine r_seq fun K3 kh3 => ?_
 refine r_region ?_
 refine r_stepP rfl rfl rfl rfl (o_loadA (vs := [_, _]) Try.isAgg24 Try.sizeOf24 rfl rfl ⟨(rdA rfl), (rdA rfl), trivial⟩) ?_
 refine r_step rfl rfl rfl (Does.toR rfl (o_call Try.call28 rfl (fun w_ hp_ => Check_spec N A l cap w_ (hr.up0 hp_) hl hN hok) ?_))
 rintro _ _ ⟨rfl, rfl⟩
 dsimp only [List.cons_append, List.nil_append]
 refine r_stepP rfl rfl rfl rfl (o_move rfl) ?_
 refine r_stepP rfl rfl rfl rfl (o_extract rfl rfl) ?_
 refine r_stepP rfl rfl rfl rfl (o_extract rfl rfl) ?_
 refine r_stepP rfl rfl rfl rfl (o_assign rfl) ?_
 refine r_stepP rfl rfl rfl rfl (o_assign rfl) ?_
 refine r_done ?_
 refine r_tn (kh3 _ _ _ ?_)
 clear kh3
 refine r_seq fun K4 kh4 => ?_
 refine r_region ?_
 refine r_stepP rfl rfl rfl rfl (o_move rfl) ?_
 refine r_stepP rfl rfl rfl rfl (o_neq rfl rfl) ?_
 refine r_done ?_
 refine r_tn (kh4 _ _ _ ?_)
 clear kh4
 refine r_cond rfl (fun c17 => ?_) (fun c17 => ?_)
 ·
  refine r_seq fun K5 kh5 => ?_
  refine r_region ?_
  refine r_stepP rfl rfl rfl rfl (o_move rfl) ?_
  refine r_stepP rfl rfl rfl rfl (o_assign rfl) ?_
  refine r_stepP rfl rfl rfl rfl (o_assign rfl) ?_
  refine r_done ?_
  refine r_tn (kh5 _ _ _ ?_)
  clear kh5
  refine r_ret ?_
  refine r_tr ?_
  have e : ordR N l = ([], (gcheck N l).2) := if_pos c17
  exact r_fin2 [[]] Try.results21 rfl rfl (show Fly.Sub _ [[], []] from (by repeat (first | exact Sub.nil | refine Sub.pick ?_ | refine Sub.castO rfl ?_ | refine Sub.skip ?_))) ⟨_, _, by rw [e], rfl, by rw [e]; exact Own.nil _ _⟩
 ·
  have hg : (gcheck N l).2 = 0 := by simpa using c17
  obtain ⟨hg1, hg2, hgl, hgd⟩ := gcheck_zero hg
  obtain ⟨n, rfl⟩ : ∃ n : Nat, N = (n : Int) := ⟨N.toNat, by omega⟩
  have hn1 : n ≤ 1024 := by omega
  obtain ⟨hrl, hrng⟩ := nbrs_rngG hg
  have hres : ordR (n : Int) l = ((ordGo n (fun v : Nat => nbrs (v : Int) l) n).1, 0) := by unfold ordR; rw [if_neg (by rw [hg]; simp), Int.toNat_natCast]
  refine r_skip ?_
  refine r_tn (kh2 _ _ _ ?_)
  clear kh2
  refine r_meet (α := Nat × List Value × List Seg × Nat) [1, 10, 37] (fun ⟨bo, vs, ms, b23⟩ => [(6, .slice (some ⟨bo, 0, none⟩) n n), (7, .slice (some ⟨b23, 0, none⟩) n n)]) (fun ⟨bo, vs, ms, b23⟩ => [[(bo, blk vs 25)], ms.flatten, [(b23, blk (boolsG (List.replicate n false)) 4)], [(b1, blk [.int .i64 (n : Int), .slice A l.length cap] 24)]]) (fun ⟨bo, vs, ms, b23⟩ => RowsI 3 (nrows n l) vs ms) ?_ ?_
  ·
   intro K6 kh6
   refine r_old ?_
   refine f_regionH [[(b1, blk [.int .i64 (n : Int), .slice A l.length cap] 24)]] rfl ?_
   refine f_take 0 rfl (by decide +kernel) rfl rfl rfl (by repeat (first | exact Sub.nil | refine Sub.pick ?_ | refine Sub.castO rfl ?_ | refine Sub.skip ?_)) (o_loadA (vs := [_, _]) Try.isAgg24 Try.sizeOf24 rfl rfl ⟨(rdA rfl), (rdA rfl), trivial⟩) ?_
   refine f_take 2 rfl (by decide +kernel) rfl rfl rfl (by repeat (first | exact Sub.nil | refine Sub.pick ?_ | refine Sub.castO rfl ?_ | refine Sub.skip ?_)) (o_field fa24_0 rfl) ?_
   refine f_take 3 rfl (by decide +kernel) rfl rfl rfl (by repeat (first | exact Sub.nil | refine Sub.pick ?_ | refine Sub.castO rfl ?_ | refine Sub.skip ?_)) (o_load Try.isAgg3 rfl (rdA rfl)) ?_
   refine f_two 1 4 rfl rfl (by decide +kernel) rfl rfl rfl rfl rfl rfl ?_ ?_
   ·
    refine (o_call Try.call32 rfl (fun w_ hp_ => sides_spec n A l cap w_ (hr.up0 hp_) hn1 hgl hgd) ?_)
    rintro _ _ ⟨bo, vs, ms, rfl, rfl, hR⟩
    dsimp only [List.cons_append, List.nil_append]
    refine ⟨(by repeat (first | exact Sub.nil | refine Sub.pick ?_ | refine Sub.castO rfl ?_ | refine Sub.skip ?_)), ?_⟩
    refine f_two 4 5 rfl rfl (by decide +kernel) rfl rfl rfl rfl rfl rfl ?_ ?_
    ·
     refine (o_make el48 rfl rfl n rfl (by omega) (by omega) (boolsG (List.replicate n false)) (reps_bool n false) fun b23 => ⟨(by repeat (first | exact Sub.nil | refine Sub.pick ?_ | refine Sub.castO rfl ?_ | refine Sub.skip ?_)), ?_⟩)
     refine f_only 5 rfl (by decide +kernel) rfl rfl rfl ((o_assign rfl).does ⟨(by repeat (first | exact Sub.nil | refine Sub.pick ?_ | refine Sub.castO rfl ?_ | refine Sub.skip ?_)), ?_⟩)
     refine f_only 6 rfl (by decide +kernel) rfl rfl rfl ((o_assign rfl).does ⟨(by repeat (first | exact Sub.nil | refine Sub.pick ?_ | refine Sub.castO rfl ?_ | refine Sub.skip ?_)), ?_⟩)
     refine f_over (by decide +kernel) ?_
     refine r_new ?_
     refine r_tn (kh6 _ _ (bo, vs, ms, b23) hR ?_ ?_ ?_)
     · exact (by repeat (first | exact trivial | refine ⟨rfl, ?_⟩))
     · exact (by repeat (first | exact trivial | refine ⟨rfl, ?_⟩))
     · repeat (first | exact Sub.nil | refine Sub.pick ?_ | refine Sub.castO rfl ?_ | refine Sub.skip ?_)
    ·
     refine (o_assign rfl).does ⟨(by repeat (first | exact Sub.nil | refine Sub.pick ?_ | refine Sub.castO rfl ?_ | refine Sub.skip ?_)), ?_⟩
     refine f_only 4 rfl (by decide +kernel) rfl rfl rfl (o_make el48 rfl rfl n rfl (by omega) (by omega) (boolsG (List.replicate n false)) (reps_bool n false) fun b23 => ⟨(by repeat (first | exact Sub.nil | refine Sub.pick ?_ | refine Sub.castO rfl ?_ | refine Sub.skip ?_)), ?_⟩)
     refine f_only 6 rfl (by decide +kernel) rfl rfl rfl ((o_assign rfl).does ⟨(by repeat (first | exact Sub.nil | refine Sub.pick ?_ | refine Sub.castO rfl ?_ | refine Sub.skip ?_)), ?_⟩)
     refine f_over (by decide +kernel) ?_
     refine r_new ?_
     refine r_tn (kh6 _ _ (bo, vs, ms, b23) hR ?_ ?_ ?_)
     · exact (by repeat (first | exact trivial | refine ⟨rfl, ?_⟩))
     · exact (by repeat (first | exact trivial | refine ⟨rfl, ?_⟩))
     · repeat (first | exact Sub.nil | refine Sub.pick ?_ | refine Sub.castO rfl ?_ | refine Sub.skip ?_)
   ·
    refine (o_make el48 rfl rfl n rfl (by omega) (by omega) (boolsG (List.replicate n false)) (reps_bool n false) fun b23 => ⟨(by repeat (first | exact Sub.nil | refine Sub.pick ?_ | refine Sub.castO rfl ?_ | refine Sub.skip ?_)), ?_⟩)
    refine f_only 1 rfl (by decide +kernel) rfl rfl rfl (o_call Try.call32 rfl (fun w_ hp_ => sides_spec n A l cap w_ (hr.up0 hp_) hn1 hgl hgd) ?_)
    rintro _ _ ⟨bo, vs, ms, rfl, rfl, hR⟩
    dsimp only [List.cons_append, List.nil_append]
    refine ⟨(by repeat (first | exact Sub.nil | refine Sub.pick ?_ | refine Sub.castO rfl ?_ | refine Sub.skip ?_)), ?_⟩
    refine f_only 5 rfl (by decide +kernel) rfl rfl rfl ((o_assign rfl).does ⟨(by repeat (first | exact Sub.nil | refine Sub.pick ?_ | refine Sub.castO rfl ?_ | refine Sub.skip ?_)), ?_⟩)
    refine f_only 6 rfl (by decide +kernel) rfl rfl rfl ((o_assign rfl).does ⟨(by repeat (first | exact Sub.nil | refine Sub.pick ?_ | refine Sub.castO rfl ?_ | refine Sub.skip ?_)), ?_⟩)
    refine f_over (by decide +kernel) ?_
    refine r_new ?_
    refine r_tn (kh6 _ _ (bo, vs, ms, b23) hR ?_ ?_ ?_)
    · exact (by repeat (first | exact trivial | refine ⟨rfl, ?_⟩))
    · exact (by repeat (first | exact trivial | refine ⟨rfl, ?_⟩))
    · repeat (first | exact Sub.nil | refine Sub.pick ?_ | refine Sub.castO rfl ?_ | refine Sub.skip ?_)
  ·
   rintro ⟨bo, vs, ms, b23⟩ hR
   refine r_seq fun K7 kh7 => ?_
   refine r_region ?_
   refine r_step rfl rfl rfl (Does.toR rfl (o_alloc Try.zeroValue25 rfl fun b8 => ?_))
   refine r_done ?_
   refine r_tn (kh7 _ _ _ ?_)
   clear kh7
   refine r_seq fun K8 kh8 => ?_
   refine r_seq fun K9 kh9 => ?_
   refine r_region ?_
   refine r_stepP rfl rfl rfl rfl (o_field fa24_0 rfl) ?_
   refine r_stepP rfl rfl rfl rfl (o_load Try.isAgg3 rfl (rdA rfl)) ?_
   refine r_stepP rfl rfl rfl rfl (o_move rfl) ?_
   refine r_done ?_
   refine r_tn (kh9 _ _ _ ?_)
   clear kh9
   refine r_block ?_
   refine r_loop (α := Nat × Value × Seg × List Nat) (fun ⟨v, vo, mo, mk⟩ => mk) [6, 7, 8, 25, 37] (fun ⟨v, vo, mo, mk⟩ => [(26, .int .i64 (v : Int))]) (fun ⟨v, vo, mo, mk⟩ => [mks mk, [(b8, blk [vo] 25)], mo, [(b23, blk (boolsG (ordGo n (fun v : Nat => nbrs (v : Int) l) v).2) 4)], [(bo, blk vs 25)], ms.flatten, [(b1, blk [.int .i64 (n : Int), .slice A l.length cap] 24)]]) (fun ⟨v, vo, mo, mk⟩ => v ≤ n ∧ Own 3 1 vo (ordGo n (fun v : Nat => nbrs (v : Int) l) v).1.length (ints (ordGo n (fun v : Nat => nbrs (v : Int) l) v).1) mo) (fun ⟨v, vo, mo, mk⟩ => n - v) (0, .slice none 0 0, [], []) rfl ?_ ?_ ?_ ?_
   · exact (by repeat (first | exact trivial | refine ⟨rfl, ?_⟩))
   · repeat (first | exact Sub.nil | refine Sub.pick ?_ | refine Sub.castO rfl ?_ | refine Sub.skip ?_)
   · exact ⟨Nat.zero_le _, Own.nil _ _⟩
   ·
    rintro ⟨v, vo, mo, mk⟩ ⟨hvn, hO⟩
    obtain ⟨hbl, hol⟩ := ordGo_small hrng hn1 hvn
    obtain ⟨Ao, co, rfl, hco⟩ := hO.val
    dsimp only
    refine r_envC (e := [(26, _), (6, _), (7, _), (8, _), (25, _)]) (by repeat (first | exact trivial | refine ⟨rfl, ?_⟩)) ?_
    refine r_seq fun K10 kh10 => ?_
    refine r_region ?_
    refine r_stepP rfl rfl rfl rfl (o_lss rfl rfl) ?_
    refine r_done ?_
    refine r_tn (kh10 _ _ _ ?_)
    clear kh10
    refine r_seq fun K11 kh11 => ?_
    refine r_cond rfl (fun c27 => ?_) (fun c27 => ?_)
    ·
     have hv : v < n := by omega
     refine r_skip ?_
     refine r_tn (kh11 _ _ _ ?_)
     clear kh11
     refine r_seq fun K12 kh12 => ?_
     refine r_block ?_
     refine r_seq fun K13 kh13 => ?_
     refine r_region ?_
     refine r_stepP rfl rfl rfl rfl (o_move rfl) ?_
     refine r_stepP rfl rfl rfl rfl (o_assign rfl) ?_
     refine r_done ?_
     refine r_tn (kh13 _ _ _ ?_)
     clear kh13
     refine r_seq fun K14 kh14 => ?_
     refine r_seq fun K15 kh15 => ?_
     refine r_region ?_
     refine r_stepP rfl rfl rfl rfl (o_move rfl) ?_
     refine r_stepP rfl rfl rfl rfl (o_move rfl) ?_
     refine r_stepP rfl rfl rfl rfl (o_idx sl48 rfl rfl (v) ⟨by omega, by omega, by first | omega | (simp; done) | (simp; omega)⟩) ?_
     refine r_stepP rfl rfl rfl rfl (o_load Try.isAgg4 rfl (rdA (boolsG_at (by omega)))) ?_
     refine r_done ?_
     refine r_tn (kh15 _ _ _ ?_)
     clear kh15
     refine r_condB rfl (fun c32 => ?_) (fun c32 => ?_)
     ·
      refine r_exit ?_
      refine r_te ?_
      clear kh14
      refine r_be ?_
      refine r_tn (kh12 _ _ _ ?_)
      clear kh12
      refine r_region ?_
      refine r_stepP rfl rfl rfl rfl (o_add rfl rfl _ (wrap_i64 (by omega))) ?_
      refine r_stepP rfl rfl rfl rfl (o_move rfl) ?_
      refine r_done ?_
      have hsame : ordGo n (fun v : Nat => nbrs (v : Int) l) (v + 1) = (ordGo n (fun v : Nat => nbrs (v : Int) l) v) := if_pos c32
      rw [← hsame]
      refine r_tn (r_again (v + 1, .slice Ao (ordGo n (fun v : Nat => nbrs (v : Int) l) (v + 1)).1.length co, mo, mk) (by first | omega | (dsimp only; omega) | (simp; omega)) rfl ⟨by omega, by rw [hsame]; exact hO⟩ ?_ ?_ ?_)
      · exact (by repeat (first | exact trivial | refine ⟨rfl, ?_⟩))
      · exact (by repeat (first | exact trivial | refine ⟨rfl, ?_⟩))
      · repeat (first | exact Sub.nil | refine Sub.pick ?_ | refine Sub.castO rfl ?_ | refine Sub.skip ?_)
     ·
      have hFI := bfs_inv hrng hbl hv
      have hFo := hFI.out
      refine r_skip ?_
      refine r_tn (kh14 _ _ _ ?_)
      clear kh14
      refine r_seq fun K16 kh16 => ?_
      refine r_region ?_
      refine r_stepP rfl rfl rfl rfl (o_move rfl) ?_
      refine r_stepP rfl rfl rfl rfl (o_move rfl) ?_
      refine r_stepP rfl rfl rfl rfl (o_move rfl) ?_
      refine r_step rfl rfl rfl (Does.toR rfl (o_call Try.call33 rfl (fun w_ hp_ => around_spec n bo b23 (v : Int) w_) ?_))
      rintro _ _ ⟨q3, q4, q5, rfl, rfl⟩
      dsimp only [List.cons_append, List.nil_append]
      refine r_done ?_
      refine r_tn (kh16 _ _ _ ?_)
      clear kh16
      refine r_block ?_
      refine r_range (p := 37) (lb := [.pointer (some ⟨q5, 0, none⟩), .pointer (some ⟨q4, 0, none⟩), .pointer (some ⟨q3, 0, none⟩)]) rfl Try.call41 rfl [[(b8, blk [.slice Ao (ordGo n (fun v : Nat => nbrs (v : Int) l) v).1.length co] 25)], mo] [[(q5, blk [.slice (some ⟨b23, 0, none⟩) n n] 48)], [(q4, blk [.int .i64 (v : Int)] 3)], [(q3, blk [.slice (some ⟨bo, 0, none⟩) n n] 67)], [(b23, blk (boolsG (ordGo n (fun v : Nat => nbrs (v : Int) l) v).2) 4)], [(bo, blk vs 25)], ms.flatten] [mks mk, [(b1, blk [.int .i64 (n : Int), .slice A l.length cap] 24)]] (by repeat (first | exact Sub.refl | exact Sub.nil | refine Sub.pick ?_ | refine Sub.castO rfl ?_ | refine Sub.skip ?_)) (fun y : Int => Value.int .i64 y) (may := arMay (bfs n (fun v : Nat => nbrs (v : Int) l) v (ordGo n (fun v : Nat => nbrs (v : Int) l) v).2)) (Fin := arFin (bfs n (fun v : Nat => nbrs (v : Int) l) v (ordGo n (fun v : Nat => nbrs (v : Int) l) v).2) n v b23 bo q3 q4 q5 vs ms.flatten) (Stp := arStp (bfs n (fun v : Nat => nbrs (v : Int) l) v (ordGo n (fun v : Nat => nbrs (v : Int) l) v).2) n v b23 bo q3 q4 q5 vs ms.flatten) (fun w1_ m0_ hp_ => around1_iter n v b23 bo q3 q4 q5 l (ordGo n (fun v : Nat => nbrs (v : Int) l) v).2 vs ms m0_ w1_ hbl hv hn1 hR hrng hrl) (fun ys m => ∃ vo mo, m = [(b8, blk [vo] 25)] ++ mo ∧ Own 3 1 vo ((ordGo n (fun v : Nat => nbrs (v : Int) l) v).1 ++ ys).length (ints ((ordGo n (fun v : Nat => nbrs (v : Int) l) v).1 ++ ys)) mo) (fun _ _ => False) (.ret) (⟨.slice Ao (ordGo n (fun v : Nat => nbrs (v : Int) l) v).1.length co, mo, by simp, by rw [List.append_nil]; exact hO⟩) ?_ ?_ ?_
      ·
       intro w1_ l_ d_ ys y m_ hI hmay hfr K_ kh_
       obtain ⟨vo, mo, rfl, hO⟩ := hI
       have hyl := mayLen hmay
       obtain ⟨Ao, co, rfl, hco⟩ := hO.val
       have hal : ((ordGo n (fun v : Nat => nbrs (v : Int) l) v).1 ++ ys).length = (ordGo n (fun v : Nat => nbrs (v : Int) l) v).1.length + ys.length := List.length_append
       refine r_subC (Sub.op3 (parts := [[(b8, blk [.slice Ao ((ordGo n (fun v : Nat => nbrs (v : Int) l) v).1 ++ ys).length co] 25)], mo]) (by simp) Sub.refl) ?_
       dsimp only [List.cons_append, List.nil_append]
       refine r_region ?_
       refine r_stepP rfl rfl rfl rfl (o_assign rfl) ?_
       refine r_done ?_
       refine r_tn (kh_ _ _ ?_)
       clear kh_
       refine r_block ?_
       refine r_region ?_
       refine r_stepP rfl rfl rfl rfl (o_load Try.isAgg25 rfl (rdA rfl)) ?_
       refine r_stepP rfl rfl rfl rfl (o_move rfl) ?_
       refine r_step rfl rfl rfl (Does.toR rfl (o_slice1 el25 (by omega) rfl rfl rfl fun b40 => ?_))
       refine r_step rfl rfl rfl (Does.toR rfl (o_append el25 rfl rfl hO (ys := [.int .i64 y]) ⟨(rdA rfl), trivial⟩ rfl rfl (by omega) (by omega) fun v41 m41 o41 => ?_))
       obtain ⟨A41, c41, rfl, _⟩ := o41.val
       refine r_step0 rfl rfl (Does.toR rfl (o_store Try.sizeOf25 rfl rfl rfl rfl (by first | exact Nat.le_of_ble_eq_true rfl | (simp; done) | (simp; omega)) [.slice A41 (((ordGo n (fun v : Nat => nbrs (v : Int) l) v).1 ++ ys).length + 1) c41] rfl ?_))
       refine r_done ?_
       refine r_bn ?_
       exact r_roundEnd (m' := [(b8, blk [.slice A41 (((ordGo n (fun v : Nat => nbrs (v : Int) l) v).1 ++ ys).length + 1) c41] 25)] ++ m41) (Sub.reg (out := [[(l_, .loop (d_.rc .busy none))], [(d_.D, .deferred (some []))], [(b8, blk [.slice A41 (((ordGo n (fun v : Nat => nbrs (v : Int) l) v).1 ++ ys).length + 1) c41] 25)], m41]) (by repeat (first | exact Sub.nil | refine Sub.pick ?_ | refine Sub.castO rfl ?_ | refine Sub.skip ?_)) (by simp)) ⟨_, m41, rfl, by rw [← List.append_assoc, ← ints_len1']; exact o41⟩
      ·
       intro D_ ys m_ o_ hF hI
       obtain ⟨vo2, mo2, rfl, hO2⟩ := hI
       obtain ⟨A2, c2, rfl, hco2⟩ := hO2.val
       obtain ⟨hF1, rfl⟩ := hF
       have hnew : ordGo n (fun v : Nat => nbrs (v : Int) l) (v + 1) = ((ordGo n (fun v : Nat => nbrs (v : Int) l) v).1 ++ ys, (bfs n (fun v : Nat => nbrs (v : Int) l) v (ordGo n (fun v : Nat => nbrs (v : Int) l) v).2).2) := by rw [hF1]; exact if_neg (by rw [c32]; simp)
       refine r_subQ (Sub.reg (out := [[(D_, .deferred (some []))], mks mk, [(b8, blk [.slice A2 ((ordGo n (fun v : Nat => nbrs (v : Int) l) v).1 ++ ys).length c2] 25)], mo2, [(b23, blk (boolsG (bfs n (fun v : Nat => nbrs (v : Int) l) v (ordGo n (fun v : Nat => nbrs (v : Int) l) v).2).2) 4)], [(bo, blk vs 25)], ms.flatten, [(b1, blk [.int .i64 (n : Int), .slice A l.length cap] 24)]]) (out' := [mks (D_ :: mk), [(b8, blk [.slice A2 ((ordGo n (fun v : Nat => nbrs (v : Int) l) v).1 ++ ys).length c2] 25)], mo2, [(b23, blk (boolsG (bfs n (fun v : Nat => nbrs (v : Int) l) v (ordGo n (fun v : Nat => nbrs (v : Int) l) v).2).2) 4)], [(bo, blk vs 25)], ms.flatten, [(b1, blk [.int .i64 (n : Int), .slice A l.length cap] 24)]]) (Sub.op2 (parts := [[(b8, blk [.slice A2 ((ordGo n (fun v : Nat => nbrs (v : Int) l) v).1 ++ ys).length c2] 25)], mo2]) (by simp) (by dsimp only [List.cons_append, List.nil_append]; repeat (first | exact Sub.nil | refine Sub.pick ?_ | refine Sub.castO rfl ?_ | refine Sub.skip ?_))) (by simp [mks])) ?_
       refine r_bn ?_
       refine r_bn ?_
       refine r_tn (kh12 _ _ _ ?_)
       clear kh12
       refine r_region ?_
       refine r_stepP rfl rfl rfl rfl (o_add rfl rfl _ (wrap_i64 (by omega))) ?_
       refine r_stepP rfl rfl rfl rfl (o_move rfl) ?_
       refine r_done ?_
       rw [show (bfs n (fun v : Nat => nbrs (v : Int) l) v (ordGo n (fun v : Nat => nbrs (v : Int) l) v).2).2 = (ordGo n (fun v : Nat => nbrs (v : Int) l) (v + 1)).2 from by rw [hnew]]
       refine r_tn (r_again (v + 1, .slice A2 ((ordGo n (fun v : Nat => nbrs (v : Int) l) v).1 ++ ys).length c2, mo2, D_ :: mk) (by first | omega | (dsimp only; omega) | (simp; omega)) rfl ⟨by omega, by rw [hnew]; exact hO2⟩ ?_ ?_ ?_)
       · exact (by repeat (first | exact trivial | refine ⟨rfl, ?_⟩))
       · exact (by repeat (first | exact trivial | refine ⟨rfl, ?_⟩))
       · repeat (first | exact Sub.nil | refine Sub.pick ?_ | refine Sub.castO rfl ?_ | refine Sub.skip ?_)
      ·
       intro D_ ys m_ o_ hF hI
       exact hI.elim
    ·
     obtain rfl : n = v := by omega
     refine r_exit ?_
     refine r_te ?_
     clear kh11
     refine r_te ?_
     refine r_be ?_
     refine r_tn (kh8 _ _ _ ?_)
     clear kh8
     refine r_seq fun K17 kh17 => ?_
     refine r_region ?_
     refine r_stepP rfl rfl rfl rfl (o_load Try.isAgg25 rfl (rdA rfl)) ?_
     refine r_stepP rfl rfl rfl rfl (o_assign rfl) ?_
     refine r_stepP rfl rfl rfl rfl (o_assign rfl) ?_
     refine r_done ?_
     refine r_tn (kh17 _ _ _ ?_)
     clear kh17
     refine r_ret ?_
     exact r_fin2 [mo] Try.results21 rfl rfl (by repeat (first | exact Sub.nil | refine Sub.pick ?_ | refine Sub.castO rfl ?_ | refine Sub.skip ?_)) ⟨.slice Ao (ordGo n (fun v : Nat => nbrs (v : Int) l) n).1.length co, mo, by rw [hres], rfl, by rw [hres]; exact hO⟩

end Go.Proofs.Ytkhjckghpakliaa

/- grow.Core, grow.Ring. -/
namespace Go.Proofs.Ytkhjckghpakliaa
open Go Go.RowKit Fly
set_option linter.unusedVariables false
set_option linter.unusedSimpArgs false


def coreR (N : Int) (l : List Arc) (c most : Int) : List Int × Int := ((regR N l c most).1.take (((regR N l c most).1.length + 3) / 4), (regR N l c most).2)
theorem regR_len {N : Int} {l : List Arc} {c most : Int} : (regR N l c most).1.length ≤ 1024 := by
  unfold regR
  split
  · simp
  · split
    · simp
    · split
      · simp
      · simp only [List.length_take]; omega
theorem regR_err {N : Int} {l : List Arc} {c most : Int} (h : (regR N l c most).2 ≠ 0) : (regR N l c most).1 = [] := by
  unfold regR at h ⊢
  split
  · rfl
  · split
    · rfl
    · split
      · rfl
      · rename_i h1 h2 h3; rw [if_neg h1, if_neg h2, if_neg h3] at h; exact absurd rfl h
/-- Marks of some vertices. -/
def marksL (n : Nat) (M : List Int) : List Bool := (List.range n).map fun v => decide (Int.ofNat v ∈ M)
theorem marksL_len (n : Nat) (M : List Int) : (marksL n M).length = n := by simp [marksL]
theorem marksL_at {n v : Nat} {M : List Int} (h : v < n) : (marksL n M).getD v false = decide ((v : Int) ∈ M) := by simp [marksL, List.getD_eq_getElem?_getD, h]
theorem marksL_nil (n : Nat) : marksL n [] = List.replicate n false := List.ext_getElem (by simp [marksL]) fun i h1 h2 => by simp [marksL]
theorem marksL_next {n : Nat} {M : List Int} {k v : Nat} (hk : k < M.length) (hv : M[k] = (v : Int)) : (marksL n (M.take k)).set v true = marksL n (M.take (k + 1)) := by
  have e0 : marksL n (M.take (k + 1)) = marksL n (M.take k ++ [(v : Int)]) := by rw [List.take_succ_eq_append_getElem hk, hv]
  rw [e0]
  refine List.ext_getElem (by simp [marksL]) fun i h1 h2 => ?_
  by_cases e : v = i
  · subst e
    rw [List.getElem_set_self]
    simp [marksL]
  · rw [List.getElem_set_ne e]
    simp only [marksL, List.getElem_map, List.getElem_range]
    apply decide_eq_decide.2
    rw [List.mem_append, List.mem_singleton]
    constructor
    · exact .inl
    · rintro (h | h)
      · exact h
      · exact absurd (show v = i by have : (i : Int) = (v : Int) := h; omega) e
def offV (N : Int) (v : Int) : Bool := decide (v < 0 ∨ N ≤ v)
def rgB (l : List Arc) (M : List Int) (v : Nat) : Bool := !decide ((v : Int) ∈ M) && (nbrs (v : Int) l).any fun u => decide (u ∈ M)
def ringL (l : List Arc) (M : List Int) : Nat → List Int
  | 0 => []
  | v + 1 => if rgB l M v then ringL l M v ++ [(v : Int)] else ringL l M v
theorem ringL_len (l : List Arc) (M : List Int) : ∀ v, (ringL l M v).length ≤ v
  | 0 => Nat.le_refl _
  | v + 1 => by
    have := ringL_len l M v
    unfold ringL
    split
    · simp; omega
    · omega
def ringR (N : Int) (l : List Arc) (M : List Int) : List Int × Int :=
  if (gcheck N l).2 ≠ 0 then ([], (gcheck N l).2) else if 16384 < M.length then ([], 2) else if M.any (offV N) then ([], 5) else if ¬ M.Nodup then ([], 4) else (ringL l M N.toNat, 0)
theorem nodup_not {M : List Int} {k : Nat} (hk : k < M.length) (h : M[k] ∈ M.take k) : ¬ M.Nodup := fun hn => by
  obtain ⟨i, hi, e⟩ := List.mem_iff_getElem.1 h
  rw [List.getElem_take] at e
  have hik : i < k := by simp at hi; omega
  exact List.pairwise_iff_getElem.1 hn i k (by omega) hk hik e
theorem nodup_next {M : List Int} {k : Nat} (hk : k < M.length) (h : (M.take k).Nodup) (hn : M[k] ∉ M.take k) : (M.take (k + 1)).Nodup := by
  rw [List.take_succ_eq_append_getElem hk, List.nodup_append]
  exact ⟨h, by simp, fun a ha b hb e => by simp only [List.mem_singleton] at hb; subst hb; subst e; exact hn ha⟩

end Go.Proofs.Ytkhjckghpakliaa

/- Facts on regions: which vertices are in them. -/

namespace Go.Proofs.Ytkhjckghpakliaa
open Go Fly
set_option linter.unusedVariables false
set_option linter.unusedSimpArgs false
set_option linter.unusedSectionVars false

structure RegOk (n : Nat) (l : List Arc) (c mn : Nat) (L : List Int) : Prop where
  is : L = (bfs n (fun v : Nat => nbrs (v : Int) l) c (List.replicate n false)).1.take mn
  c : c < n
  m : 1 ≤ mn ∧ mn ≤ 1024
  rng : ∀ x ∈ L, 0 ≤ x ∧ x < (n : Int)
  nd : L.Nodup
theorem reg_ok {N : Int} {l : List Arc} {c most : Int} (h : (regR N l c most).2 = 0) : (gcheck N l).2 = 0 ∧ ∃ n cn mn : Nat, N = (n : Int) ∧ c = (cn : Int) ∧ most = (mn : Int) ∧ RegOk n l cn mn (regR N l c most).1 := by
  unfold regR at h ⊢
  by_cases h1 : (gcheck N l).2 ≠ 0
  · rw [if_pos h1] at h; exact absurd h h1
  · by_cases h2 : c < 0 ∨ N ≤ c
    · rw [if_neg h1, if_pos h2] at h; cases h
    · by_cases h3 : most < 1 ∨ 1024 < most
      · rw [if_neg h1, if_neg h2, if_pos h3] at h; cases h
      · rw [if_neg h1, if_neg h2, if_neg h3]
        have hg : (gcheck N l).2 = 0 := by omega
        have hz := gcheck_zero hg
        obtain ⟨n, rfl⟩ : ∃ n : Nat, N = (n : Int) := ⟨N.toNat, by omega⟩
        have hI := BInv.go (nbrs_rngG hg).2 (BInv.start (n := n) (c := c.toNat) (b := List.replicate n false) (by simp) (by omega)) n
        refine ⟨hg, n, c.toNat, most.toNat, rfl, by omega, by omega, rfl, by omega, by omega, fun x hx => hI.rng x (List.mem_of_mem_take hx), ?_⟩
        exact hI.nd.sublist (List.take_sublist _ _)
theorem ringL_mem {l : List Arc} {M : List Int} {u : Int} : ∀ {m : Nat}, u ∈ ringL l M m ↔ ∃ v, v < m ∧ u = (v : Int) ∧ rgB l M v = true
  | 0 => by simp [ringL]
  | m + 1 => by
    have ih := ringL_mem (l := l) (M := M) (u := u) (m := m)
    unfold ringL
    by_cases h : rgB l M m = true
    · rw [if_pos h, List.mem_append, ih, List.mem_singleton]
      constructor
      · rintro (⟨v, h1, h2, h3⟩ | rfl)
        · exact ⟨v, by omega, h2, h3⟩
        · exact ⟨m, by omega, rfl, h⟩
      · rintro ⟨v, h1, h2, h3⟩
        rcases Nat.lt_or_ge v m with hv | hv
        · exact .inl ⟨v, hv, h2, h3⟩
        · exact .inr (by have : v = m := by omega
                         rw [h2, this])
    · rw [if_neg h, ih]
      constructor
      · rintro ⟨v, h1, h2, h3⟩; exact ⟨v, by omega, h2, h3⟩
      · rintro ⟨v, h1, h2, h3⟩
        rcases Nat.lt_or_ge v m with hv | hv
        · exact ⟨v, hv, h2, h3⟩
        · have : v = m := by omega
          subst this; exact absurd h3 h
theorem ringL_rising (l : List Arc) (M : List Int) : ∀ m, (ringL l M m).Pairwise (· < ·)
  | 0 => List.Pairwise.nil
  | m + 1 => by
    unfold ringL
    split
    · rw [List.pairwise_append]
      refine ⟨ringL_rising l M m, by simp, fun a ha b hb => ?_⟩
      simp only [List.mem_singleton] at hb
      obtain ⟨v, hv, rfl, _⟩ := ringL_mem.1 ha
      omega
    · exact ringL_rising l M m
theorem ringL_nodup (l : List Arc) (M : List Int) (m : Nat) : (ringL l M m).Nodup := (ringL_rising l M m).imp fun {a b} h e => by omega
theorem ring_reg {n : Nat} {l : List Arc} {M : List Int} (hg : (gcheck (n : Int) l).2 = 0) (hr : ∀ x ∈ M, 0 ≤ x ∧ x < (n : Int)) (hn : M.Nodup) : ringR (n : Int) l M = (ringL l M n, 0) := by
  have hl := ints_card hr hn
  have hz := gcheck_zero hg
  unfold ringR
  rw [if_neg (by rw [hg]; simp), if_neg (by omega), if_neg, if_neg (by simpa using hn), Int.toNat_natCast]
  rw [Bool.not_eq_true, List.any_eq_false]
  intro x hx
  have := hr x hx
  unfold offV; simp; omega
theorem not_take_of_nodup {M : List Int} {k : Nat} (hk : k < M.length) (h : M.Nodup) : M[k] ∉ M.take k := fun hm => nodup_not hk hm h
end Go.Proofs.Ytkhjckghpakliaa

/- The order around a centre: who comes of whom, how far each one lies; the order of all vertices. -/

namespace Go.Proofs.Ytkhjckghpakliaa
open Go Fly
set_option linter.unusedVariables false
set_option linter.unusedSimpArgs false
set_option linter.unusedSectionVars false

/-- Marked is what was marked, and what has come. -/
def BMk (b0 : List Bool) (s : BSt) : Prop := ∀ v : Nat, s.2.getD v false = true ↔ b0.getD v false = true ∨ (v : Int) ∈ s.1
theorem BMk.start {n c : Nat} {b : List Bool} (hb : b.length = n) (hc : c < n) : BMk b (bstart c b) := fun v => by
  show (b.set c true).getD v false = true ↔ _ ∨ (v : Int) ∈ [(c : Int)]
  rw [getD_set, List.mem_singleton]
  by_cases h : c = v
  · subst h; rw [if_pos ⟨rfl, by omega⟩]; simp
  · rw [if_neg (fun h' => h h'.1)]
    constructor
    · exact .inl
    · rintro (h' | h')
      · exact h'
      · exact absurd (by omega) h
theorem BMk.push1 {n : Nat} {b0 : List Bool} {s : BSt} (hI : BInv n s) (h : BMk b0 s) {u : Int} (hu : 0 ≤ u ∧ u < (n : Int)) : BMk b0 (bpush1 s u) := by
  unfold bpush1
  split
  · exact h
  · intro v
    show (s.2.set u.toNat true).getD v false = true ↔ _ ∨ (v : Int) ∈ s.1 ++ [u]
    rw [getD_set, List.mem_append, List.mem_singleton]
    by_cases e : u.toNat = v
    · rw [if_pos ⟨e, by rw [hI.len]; omega⟩]
      exact ⟨fun _ => .inr (.inr (by omega)), fun _ => rfl⟩
    · rw [if_neg (fun h' => e h'.1), h v]
      constructor
      · rintro (h' | h')
        · exact .inl h'
        · exact .inr (.inl h')
      · rintro (h' | h' | h')
        · exact .inl h'
        · exact .inr h'
        · exact absurd (by omega) e
theorem BMk.push {n : Nat} {b0 : List Bool} {row : List Int} (hr : ∀ u ∈ row, 0 ≤ u ∧ u < (n : Int)) : ∀ {s : BSt}, BInv n s → BMk b0 s → BMk b0 (bpush row s) := by
  induction row with
  | nil => exact fun _ h => h
  | cons u row ih => exact fun hI h => ih (fun x hx => hr x (List.mem_cons_of_mem _ hx)) (hI.push1 (hr u (List.mem_cons_self ..))) (h.push1 hI (hr u (List.mem_cons_self ..)))
theorem BMk.go {n : Nat} {b0 : List Bool} {rows : Nat → List Int} (hr : ∀ v, v < n → ∀ u ∈ rows v, 0 ≤ u ∧ u < (n : Int)) {s : BSt} (hI : BInv n s) (h : BMk b0 s) : ∀ k, BMk b0 (bgo rows s k)
  | 0 => h
  | k + 1 => by
    have ih := BMk.go hr hI h k
    have hIk := BInv.go hr hI k
    show BMk b0 (bstep rows k (bgo rows s k))
    rcases Nat.lt_or_ge k (bgo rows s k).1.length with hk | hk
    · rw [bstep_at hk]
      exact ih.push (hr _ (by have := hIk.rng _ (List.getElem_mem hk); omega)) hIk
    · rw [bstep_no hk]; exact ih

/-- How far each one lies: E; the first k have been gone through. -/
structure BLev (n : Nat) (rows : Nat → List Int) (c k : Nat) (s : BSt) (E : List Nat) : Prop where
  len : E.length = s.1.length
  pos : 0 < s.1.length
  head : s.1[0]? = some (c : Int) ∧ E[0]? = some 0
  rise : E.Pairwise (· ≤ ·)
  par : ∀ i (h : i < s.1.length) (h' : i < E.length), 0 < i → ∃ j, ∃ hj : j < i, s.1[i] ∈ rows (s.1[j]'(by omega)).toNat ∧ E[i] = E[j]'(by omega) + 1
  top : ∀ (h' : k < E.length) i (h : i < E.length), E[i] ≤ E[k] + 1
  clo : ∀ j (h : j < s.1.length) (h' : j < E.length), j < k → ∀ u ∈ rows s.1[j].toNat, ∃ i, ∃ hi : i < s.1.length, ∃ hi' : i < E.length, s.1[i] = u ∧ E[i] ≤ E[j] + 1
theorem BLev.start (n : Nat) (rows : Nat → List Int) (c : Nat) (b : List Bool) : BLev n rows c 0 (bstart c b) [0] :=
  ⟨rfl, by simp [bstart], ⟨rfl, rfl⟩, by simp, fun i h _ hi => by simp [bstart] at h; omega, fun h' i h => by simp at h; subst h; simp, fun j _ _ hj => by omega⟩
/-- One neighbour of the k-th. -/
theorem BLev.push1 {n : Nat} {rows : Nat → List Int} {c k : Nat} {s : BSt} {E : List Nat} (h : BLev n rows c k s E) (hk : k < s.1.length) (hk' : k < E.length) {u : Int} (hu : u ∈ rows s.1[k].toNat) (hm : s.2.getD u.toNat false = true ↔ u ∈ s.1) :
    ∃ E', BLev n rows c k (bpush1 s u) E' ∧ E <+: E' ∧ (∃ i, ∃ hi : i < (bpush1 s u).1.length, ∃ hi' : i < E'.length, (bpush1 s u).1[i] = u ∧ E'[i] ≤ E[k] + 1) := by
  unfold bpush1
  split
  · rename_i ht
    refine ⟨E, h, List.prefix_refl _, ?_⟩
    obtain ⟨i, hi, he⟩ := List.mem_iff_getElem.1 (hm.1 ht)
    exact ⟨i, hi, by rw [h.len]; exact hi, he, h.top hk' i _⟩
  · have hlen := h.len
    refine ⟨E ++ [E[k] + 1], ⟨by simp [hlen], by simp, ?_, ?_, ?_, ?_, ?_⟩, List.prefix_append _ _, s.1.length, by simp, by simp [hlen], by simp, ?_⟩
    · refine ⟨?_, ?_⟩
      · rw [List.getElem?_append_left h.pos]; exact h.head.1
      · rw [List.getElem?_append_left (by have := h.pos; omega)]; exact h.head.2
    · rw [List.pairwise_append]
      refine ⟨h.rise, by simp, fun a ha b hb => ?_⟩
      simp only [List.mem_singleton] at hb
      obtain ⟨i, hi, rfl⟩ := List.mem_iff_getElem.1 ha
      have := h.top hk' i hi
      omega
    · intro i hi hi' h0
      rcases Nat.lt_or_ge i s.1.length with hl | hl
      · obtain ⟨j, hj, h1, h2⟩ := h.par i hl (by omega) h0
        refine ⟨j, hj, ?_, ?_⟩
        · rw [List.getElem_append_left hl, List.getElem_append_left (by omega)]; exact h1
        · rw [List.getElem_append_left (by omega), List.getElem_append_left (by omega)]; exact h2
      · have hi2 : i = s.1.length := by simp at hi; omega
        subst hi2
        refine ⟨k, hk, ?_, ?_⟩
        · rw [List.getElem_append_right (Nat.le_refl _), List.getElem_append_left hk]; simpa using hu
        · rw [List.getElem_append_right (by omega), List.getElem_append_left hk']; simp
    · intro _ i hi
      rw [List.getElem_append_left hk']
      rcases Nat.lt_or_ge i E.length with hl | hl
      · rw [List.getElem_append_left hl]; exact h.top hk' i hl
      · rw [List.getElem_append_right hl]; simp
    · intro j hj hj' hjk v hv
      have hjl : j < s.1.length := by omega
      have hjl' : j < E.length := by omega
      rw [List.getElem_append_left hjl] at hv
      obtain ⟨i, hi, hi', h1, h2⟩ := h.clo j hjl hjl' hjk v hv
      refine ⟨i, by simp; omega, by simp; omega, ?_, ?_⟩
      · rw [List.getElem_append_left hi]; exact h1
      · rw [List.getElem_append_left hi', List.getElem_append_left hjl']; exact h2
    · rw [List.getElem_append_right (by omega)]; simp
theorem pre_get {α : Type} {a b : List α} (h : a <+: b) {i : Nat} (hi : i < a.length) : ∃ hi' : i < b.length, b[i] = a[i] := by
  obtain ⟨t, rfl⟩ := h
  exact ⟨by simp; omega, List.getElem_append_left hi⟩
theorem BLev.push {n : Nat} {rows : Nat → List Int} {c k : Nat} {b0 : List Bool} (hf : ∀ v, b0.getD v false = false) (hr : ∀ v, v < n → ∀ u ∈ rows v, 0 ≤ u ∧ u < (n : Int)) {s : BSt} {E : List Nat} (hI : BInv n s) (hM : BMk b0 s) (h : BLev n rows c k s E) (hk : k < s.1.length) (hk' : k < E.length) :
    ∀ j, j ≤ (rows s.1[k].toNat).length → ∃ E', BLev n rows c k (bpush ((rows s.1[k].toNat).take j) s) E' ∧ E <+: E' ∧
      ∀ u ∈ (rows s.1[k].toNat).take j, ∃ i, ∃ hi : i < (bpush ((rows s.1[k].toNat).take j) s).1.length, ∃ hi' : i < E'.length, (bpush ((rows s.1[k].toNat).take j) s).1[i] = u ∧ E'[i] ≤ E[k] + 1
  | 0, _ => ⟨E, by simpa [bpush] using h, List.prefix_refl _, by simp⟩
  | j + 1, hj => by
    obtain ⟨E1, h1, h2, h3⟩ := BLev.push hf hr hI hM h hk hk' j (by omega)
    have hj' : j < (rows s.1[k].toNat).length := by omega
    have hrow := hr s.1[k].toNat (by have := hI.rng _ (List.getElem_mem hk); omega)
    have hI1 : BInv n (bpush ((rows s.1[k].toNat).take j) s) := hI.push fun u hu => hrow u (List.mem_of_mem_take hu)
    have hM1 : BMk b0 (bpush ((rows s.1[k].toNat).take j) s) := hM.push (fun u hu => hrow u (List.mem_of_mem_take hu)) hI
    obtain ⟨r, hr1⟩ := bpush_ext ((rows s.1[k].toNat).take j) s
    have hk1 : k < (bpush ((rows s.1[k].toNat).take j) s).1.length := by rw [hr1, List.length_append]; omega
    have hsk : (bpush ((rows s.1[k].toNat).take j) s).1[k] = s.1[k] := by simp only [hr1]; exact List.getElem_append_left hk
    obtain ⟨hk1', hEk⟩ := pre_get h2 hk'
    have hu := hrow _ (List.getElem_mem hj')
    have hm : (bpush ((rows s.1[k].toNat).take j) s).2.getD ((rows s.1[k].toNat)[j]).toNat false = true ↔ (rows s.1[k].toNat)[j] ∈ (bpush ((rows s.1[k].toNat).take j) s).1 := by
      rw [hM1 _, hf, Int.toNat_of_nonneg hu.1]; simp
    rw [bpush_next hj']
    obtain ⟨E2, g1, g2, g3⟩ := h1.push1 hk1 hk1' (u := (rows s.1[k].toNat)[j]) (by rw [hsk]; exact List.getElem_mem hj') hm
    refine ⟨E2, g1, h2.trans g2, fun u hu => ?_⟩
    rw [List.take_succ_eq_append_getElem hj'] at hu
    rcases List.mem_append.1 hu with hu | hu
    · obtain ⟨i, hi, hi', e1, e2⟩ := h3 u hu
      obtain ⟨hi2, e3⟩ := pre_get g2 hi'
      obtain ⟨r2, hr2⟩ := bpush1_ext (bpush ((rows s.1[k].toNat).take j) s) (rows s.1[k].toNat)[j]
      refine ⟨i, by rw [hr2, List.length_append]; omega, hi2, ?_, by rw [e3]; exact e2⟩
      simp only [hr2]
      rw [List.getElem_append_left hi]; exact e1
    · simp only [List.mem_singleton] at hu
      subst hu
      obtain ⟨i, hi, hi', e1, e2⟩ := g3
      exact ⟨i, hi, hi', e1, by rw [hEk] at e2; exact e2⟩
theorem BLev.step {n : Nat} {rows : Nat → List Int} {c k : Nat} {b0 : List Bool} (hf : ∀ v, b0.getD v false = false) (hr : ∀ v, v < n → ∀ u ∈ rows v, 0 ≤ u ∧ u < (n : Int)) {s : BSt} {E : List Nat} (hI : BInv n s) (hM : BMk b0 s) (h : BLev n rows c k s E) : ∃ E', BLev n rows c (k + 1) (bstep rows k s) E' := by
  rcases Nat.lt_or_ge k s.1.length with hk | hk
  · have hk' : k < E.length := by rw [h.len]; exact hk
    obtain ⟨E', h1, h2, h3⟩ := BLev.push hf hr hI hM h hk hk' _ (Nat.le_refl _)
    rw [List.take_length] at h1 h3
    rw [bstep_at hk]
    refine ⟨E', { h1 with top := fun hk2 i hi => ?_, clo := fun j hj hj' hjk u hu => ?_ }⟩
    · obtain ⟨hk3, e⟩ := pre_get h2 hk'
      have h4 := h1.top hk3 i hi
      have h5 := List.pairwise_iff_getElem.1 h1.rise k (k + 1) hk3 hk2 (by omega)
      omega
    · rcases Nat.lt_or_ge j k with hjk2 | hjk2
      · exact h1.clo j hj hj' hjk2 u hu
      · obtain rfl : j = k := by omega
        obtain ⟨r, hr1⟩ := bpush_ext (rows s.1[j].toNat) s
        have hsk : (bpush (rows s.1[j].toNat) s).1[j] = s.1[j] := by
          have hg : (bpush (rows s.1[j].toNat) s).1[j]? = s.1[j]? := by rw [hr1, List.getElem?_append_left hk]
          rw [List.getElem?_eq_getElem hj, List.getElem?_eq_getElem hk] at hg
          exact Option.some.inj hg
        rw [hsk] at hu
        obtain ⟨i, hi, hi', e1, e2⟩ := h3 u hu
        obtain ⟨hk3, e⟩ := pre_get h2 hk'
        exact ⟨i, hi, hi', e1, by rw [e]; exact e2⟩
  · rw [bstep_no hk]
    refine ⟨E, { h with top := fun hk2 i hi => ?_, clo := fun j hj hj' hjk u hu => ?_ }⟩
    · have := h.len; omega
    · exact h.clo j hj hj' (by omega) u hu
theorem BLev.go {n : Nat} {rows : Nat → List Int} {c : Nat} {b0 : List Bool} (hb : b0.length = n) (hc : c < n) (hf : ∀ v, b0.getD v false = false) (hr : ∀ v, v < n → ∀ u ∈ rows v, 0 ≤ u ∧ u < (n : Int)) : ∀ k, ∃ E, BLev n rows c k (bgo rows (bstart c b0) k) E
  | 0 => ⟨_, BLev.start n rows c b0⟩
  | k + 1 => by
    obtain ⟨E, h⟩ := BLev.go hb hc hf hr k
    exact h.step hf hr (BInv.go hr (BInv.start hb hc) k) (BMk.go hr (BInv.start hb hc) (BMk.start hb hc) k)
/-- The whole order around a centre, nothing being marked. -/
theorem bfs_lev {n : Nat} {rows : Nat → List Int} {c : Nat} (hc : c < n) (hr : ∀ v, v < n → ∀ u ∈ rows v, 0 ≤ u ∧ u < (n : Int)) : ∃ E, BLev n rows c n (bfs n rows c (List.replicate n false)) E :=
  BLev.go (by simp) hc (fun v => by rw [List.getD_eq_getElem?_getD, List.getElem?_replicate]; split <;> rfl) hr n
theorem bfs_mk {n : Nat} {rows : Nat → List Int} {c : Nat} {b : List Bool} (hb : b.length = n) (hc : c < n) (hr : ∀ v, v < n → ∀ u ∈ rows v, 0 ≤ u ∧ u < (n : Int)) : BMk b (bfs n rows c b) := BMk.go hr (BInv.start hb hc) (BMk.start hb hc) n
theorem nbrs_symm {l : List Arc} {u v : Int} : u ∈ nbrs v l ↔ v ∈ nbrs u l := by
  rw [nbrs_mem, nbrs_mem]
  constructor <;>
  · rintro ⟨x, hx, h⟩
    refine ⟨x, hx, ?_⟩
    unfold nbr at h ⊢
    by_cases h1 : x.src = x.dst
    · rw [if_pos h1] at h; simp at h
    · rw [if_neg h1] at h ⊢
      split at h
      · rename_i h2
        simp at h
        rw [if_neg (by omega), if_pos (by omega)]; simp; omega
      · split at h
        · rename_i h2 h3
          simp at h
          rw [if_pos (by omega)]; simp; omega
        · simp at h
/-- Around all of a part lies nothing. -/
theorem ring_none {n c : Nat} {l : List Arc} (hg : (gcheck (n : Int) l).2 = 0) (hc : c < n) : ringL l (bfs n (fun v : Nat => nbrs (v : Int) l) c (List.replicate n false)).1 n = [] := by
  obtain ⟨hrl, hrng⟩ := nbrs_rngG hg
  obtain ⟨E, hE⟩ := bfs_lev (rows := fun v : Nat => nbrs (v : Int) l) hc hrng
  have hI := bfs_inv hrng (b := List.replicate n false) (by simp) hc
  refine List.eq_nil_iff_forall_not_mem.2 fun x hx => ?_
  obtain ⟨v, hv, rfl, hb⟩ := ringL_mem.1 hx
  unfold rgB at hb
  rw [Bool.and_eq_true, List.any_eq_true] at hb
  obtain ⟨h1, u, hu, h2⟩ := hb
  have hum : u ∈ (bfs n (fun v : Nat => nbrs (v : Int) l) c (List.replicate n false)).1 := by simpa using h2
  obtain ⟨j, hj, rfl⟩ := List.mem_iff_getElem.1 hum
  have hjr := hI.rng _ (List.getElem_mem hj)
  have hjn := hI.out
  obtain ⟨i, hi, _, he, _⟩ := hE.clo j hj (by rw [hE.len]; exact hj) (by omega) (v : Int) (by
    show (v : Int) ∈ nbrs ((_ : Nat) : Int) l
    rw [Int.toNat_of_nonneg hjr.1]; exact nbrs_symm.1 hu)
  have : (v : Int) ∈ (bfs n (fun v : Nat => nbrs (v : Int) l) c (List.replicate n false)).1 := by rw [← he]; exact List.getElem_mem hi
  simp [this] at h1
/-- The order of all has each vertex once. -/
structure OrdOk (n v : Nat) (s : BSt) : Prop where
  len : s.2.length = n
  rng : ∀ x ∈ s.1, 0 ≤ x ∧ x < (n : Int)
  nd : s.1.Nodup
  mrk : ∀ u : Nat, s.2.getD u false = true ↔ (u : Int) ∈ s.1
  all : ∀ u, u < v → (u : Int) ∈ s.1
theorem bgo_fresh {n : Nat} {rows : Nat → List Int} (hr : ∀ v, v < n → ∀ u ∈ rows v, 0 ≤ u ∧ u < (n : Int)) {c : Nat} {b : List Bool} (hb : b.length = n) (hc : c < n) (hbc : b.getD c false = false) : ∀ k, ∀ x ∈ (bgo rows (bstart c b) k).1, b.getD x.toNat false = false
  | 0, x, hx => by simp [bgo, bstart] at hx; subst hx; simpa using hbc
  | k + 1, x, hx => by
    have ih := bgo_fresh hr hb hc hbc k
    have hI := BInv.go hr (BInv.start hb hc) k
    have hM := BMk.go hr (BInv.start hb hc) (BMk.start hb hc) k
    rcases Nat.lt_or_ge k (bgo rows (bstart c b) k).1.length with hk | hk
    · have hrow := hr _ (show ((bgo rows (bstart c b) k).1[k]).toNat < n by have := hI.rng _ (List.getElem_mem hk); omega)
      have key : ∀ (row : List Int) (s : BSt), (∀ u ∈ row, 0 ≤ u ∧ u < (n : Int)) → BInv n s → BMk b s → (∀ x ∈ s.1, b.getD x.toNat false = false) → ∀ x ∈ (bpush row s).1, b.getD x.toNat false = false := by
        intro row
        induction row with
        | nil => intro s _ _ _ h x hx; exact h x hx
        | cons u row ih2 =>
          intro s hr2 hI2 hM2 h x hx
          have hu := hr2 u (List.mem_cons_self ..)
          refine ih2 (bpush1 s u) (fun y hy => hr2 y (List.mem_cons_of_mem _ hy)) (hI2.push1 hu) (hM2.push1 hI2 hu) ?_ x hx
          intro y hy
          unfold bpush1 at hy
          split at hy
          · exact h y hy
          · rename_i hn
            rcases List.mem_append.1 hy with hy | hy
            · exact h y hy
            · simp only [List.mem_singleton] at hy
              subst hy
              rw [hM2 _] at hn
              cases hbv : b.getD y.toNat false with
              | false => rfl
              | true => exact absurd (.inl hbv) hn
      have hx' : x ∈ (bpush (rows ((bgo rows (bstart c b) k).1[k]).toNat) (bgo rows (bstart c b) k)).1 := by
        have e : bgo rows (bstart c b) (k + 1) = bstep rows k (bgo rows (bstart c b) k) := rfl
        rw [e, bstep_at hk] at hx; exact hx
      exact key _ _ hrow hI hM ih x hx'
    · have e : bgo rows (bstart c b) (k + 1) = bstep rows k (bgo rows (bstart c b) k) := rfl
      rw [e, bstep_no hk] at hx
      exact ih x hx
theorem ord_ok {n : Nat} {rows : Nat → List Int} (hr : ∀ v, v < n → ∀ u ∈ rows v, 0 ≤ u ∧ u < (n : Int)) : ∀ v, v ≤ n → OrdOk n v (ordGo n rows v)
  | 0, _ => ⟨by simp [ordGo], by simp [ordGo], by simp [ordGo], fun u => by simp [ordGo, List.getD_eq_getElem?_getD, List.getElem?_replicate]; split <;> rfl, fun u hu => by omega⟩
  | v + 1, h => by
    have ih := ord_ok hr v (by omega)
    unfold ordGo
    split
    · rename_i hm
      refine { ih with all := fun u hu => ?_ }
      rcases Nat.lt_or_ge u v with h1 | h1
      · exact ih.all u h1
      · obtain rfl : u = v := by omega
        exact (ih.mrk u).1 hm
    · rename_i hm
      have hv : v < n := by omega
      have hI := bfs_inv hr ih.len hv
      have hM := bfs_mk ih.len hv hr
      have hfr := bgo_fresh hr ih.len hv (by simpa using hm) n
      refine ⟨hI.len, fun x hx => ?_, ?_, fun u => ?_, fun u hu => ?_⟩
      · rcases List.mem_append.1 hx with hx | hx
        · exact ih.rng x hx
        · exact hI.rng x hx
      · rw [List.nodup_append]
        refine ⟨ih.nd, hI.nd, fun a ha b hb e => ?_⟩
        subst e
        have h1 := hfr a hb
        have h2 := (ih.mrk a.toNat).2 (by rw [Int.toNat_of_nonneg (ih.rng a ha).1]; exact ha)
        rw [h1] at h2; cases h2
      · show (bfs n rows v (ordGo n rows v).2).2.getD u false = true ↔ (u : Int) ∈ (ordGo n rows v).1 ++ (bfs n rows v (ordGo n rows v).2).1
        rw [hM u, ih.mrk u, List.mem_append]
      · rcases Nat.lt_or_ge u v with h1 | h1
        · exact List.mem_append_left _ (ih.all u h1)
        · obtain rfl : u = v := by omega
          refine List.mem_append_right _ ?_
          obtain ⟨r, hr2⟩ := bgo_ext rows (bstart u (ordGo n rows u).2) 0 n
          rw [Nat.zero_add] at hr2
          show (u : Int) ∈ (bgo rows (bstart u (ordGo n rows u).2) n).1
          rw [hr2]
          exact List.mem_append_left _ (by simp [bgo, bstart])
theorem OrdOk.full {n : Nat} {s : BSt} (h : OrdOk n n s) : s.1.length = n := by
  have h1 := ints_card h.rng h.nd
  have h2 := List.Nodup.length_le_of_subset (l₁ := (List.range n).map Int.ofNat) (l₂ := s.1) (by
    have := List.nodup_range (n := n)
    rw [List.Nodup, List.pairwise_map]
    exact this.imp fun {a b} hne e => hne (by have : (a : Int) = b := e; omega)) fun x hx => by
    obtain ⟨u, hu, rfl⟩ := List.mem_map.1 hx
    exact h.all u (List.mem_range.1 hu)
  simp at h2; omega
end Go.Proofs.Ytkhjckghpakliaa

/- The graph of some vertices: plain laws. -/

namespace Go.Proofs.Ytkhjckghpakliaa
open Go Fly
set_option linter.unusedVariables false
set_option linter.unusedSimpArgs false

/-- The kept vertices. -/
def verts (keep : List Bool) : List Int := idxs id keep
/-- How many kept ones are before a vertex. -/
def vrank (keep : List Bool) (v : Nat) : Nat := (verts (keep.take v)).length
def subArc (keep : List Bool) (x : Arc) : Arc := ⟨vrank keep x.src.toNat, vrank keep x.dst.toNat, x.wt⟩
def kin (keep : List Bool) (x : Arc) : Bool := keep.getD x.src.toNat false && keep.getD x.dst.toNat false
def subArcs (keep : List Bool) (l : List Arc) : List Arc := (l.filter (kin keep)).map (subArc keep)

theorem verts_all {keep : List Bool} {k : Nat} (h : keep.length ≤ k) : verts (keep.take k) = verts keep := by rw [List.take_of_length_le h]
theorem verts_yes {keep : List Bool} {k : Nat} (h : k < keep.length) (hk : keep[k] = true) : verts (keep.take (k + 1)) = verts (keep.take k) ++ [(k : Int)] := idxs_yes (p := id) h hk
theorem verts_no {keep : List Bool} {k : Nat} (h : k < keep.length) (hk : keep[k] = false) : verts (keep.take (k + 1)) = verts (keep.take k) := idxs_no (p := id) h hk
theorem verts_le (keep : List Bool) : (verts keep).length ≤ keep.length := by unfold verts; rw [idxs_length]; exact List.countP_le_length

theorem verts_take_le (keep : List Bool) (k : Nat) : (verts (keep.take k)).length ≤ k := Nat.le_trans (verts_le _) (List.length_take_le _ _)
/-- The map tells each kept vertex its number. -/
def Numbers (ents : List (Int × Value × Nat)) (keep : List Bool) (k : Nat) : Prop := ∀ j (h : j < keep.length), j < k → keep[j] = true → mget ents (j : Int) = some (.int .i64 (vrank keep j : Int))
theorem numbers_start (keep : List Bool) : Numbers [] keep 0 := fun j h hj => by omega
theorem numbers_yes {ents : List (Int × Value × Nat)} {keep : List Bool} {k c : Nat} (h : k < keep.length) (hn : Numbers ents keep k) (hk : keep[k] = true) : Numbers (mput ents (k : Int) (.int .i64 ((verts (keep.take k)).length : Int)) c) keep (k + 1) := fun j hj hjk hkj => by
  rw [mget_put]
  by_cases e : j = k
  · subst e; rw [if_pos rfl]; rfl
  · rw [if_neg (by omega)]; exact hn j hj (by omega) hkj
theorem numbers_no {ents : List (Int × Value × Nat)} {keep : List Bool} {k : Nat} (h : k < keep.length) (hn : Numbers ents keep k) (hk : keep[k] = false) : Numbers ents keep (k + 1) := fun j hj hjk hkj => by
  by_cases e : j = k
  · subst e; rw [hk] at hkj; cases hkj
  · exact hn j hj (by omega) hkj
theorem look_num {ents : List (Int × Value × Nat)} {keep : List Bool} (hn : ∀ (j : Nat) (h : j < keep.length), keep[j] = true → mget ents (j : Int) = some (.int .i64 (vrank keep j : Int))) {x : Int} (h0 : 0 ≤ x) (h : x.toNat < keep.length) (hk : keep[x.toNat] = true) {z : Value} :
    (mget ents x).getD z = .int .i64 (vrank keep x.toNat : Int) := by
  have := hn x.toNat h hk
  rw [show ((x.toNat : Nat) : Int) = x from by omega] at this
  rw [this]; rfl
theorem kin_get {keep : List Bool} {x : Arc} (h1 : x.src.toNat < keep.length) (h2 : x.dst.toNat < keep.length) : kin keep x = (keep[x.src.toNat] && keep[x.dst.toNat]) := by
  simp [kin, List.getD_eq_getElem?_getD, h1, h2]
theorem sub_yes {keep : List Bool} {l : List Arc} {k : Nat} (hk : k < l.length) (h : kin keep l[k] = true) : subArcs keep (l.take (k + 1)) = subArcs keep (l.take k) ++ [subArc keep l[k]] := by
  unfold subArcs; rw [List.take_succ_eq_append_getElem hk, List.filter_append, List.map_append]; simp [h]
theorem sub_no {keep : List Bool} {l : List Arc} {k : Nat} (hk : k < l.length) (h : kin keep l[k] = false) : subArcs keep (l.take (k + 1)) = subArcs keep (l.take k) := by
  unfold subArcs; rw [List.take_succ_eq_append_getElem hk, List.filter_append, List.map_append]; simp [h]
theorem sub_len (keep : List Bool) (l : List Arc) : (subArcs keep l).length ≤ l.length := by unfold subArcs; rw [List.length_map]; exact List.length_filter_le _ _
theorem idxs_len_le {α : Type} (p : α → Bool) (l : List α) : (idxs p l).length ≤ l.length := by rw [idxs_length]; exact List.countP_le_length
theorem sub_take_le (keep : List Bool) (l : List Arc) (k : Nat) : (subArcs keep (l.take k)).length ≤ k := Nat.le_trans (sub_len _ _) (List.length_take_le _ _)
theorem idxs_take_le {α : Type} (p : α → Bool) (l : List α) (k : Nat) : (idxs p (l.take k)).length ≤ k := Nat.le_trans (idxs_len_le _ _) (List.length_take_le _ _)
end Go.Proofs.Ytkhjckghpakliaa
