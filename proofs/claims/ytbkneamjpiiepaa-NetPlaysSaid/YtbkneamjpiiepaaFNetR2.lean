/- The document's net: nodes, timers, links. -/
import Derived.Test.YtbkneamjpiiepaaFNetR
import Derived.Test.YtbkneamjpiiepaaFNet2
import Derived.Test.YtbkneamjpiiepaaPNetC
namespace Go.Proofs.Ytbkneamjpiiepaa
open Go Go.RowKit Fly
set_option linter.unusedVariables false
set_option linter.unusedSimpArgs false


theorem bools_upd {l : List Bool} {k : Nat} (h : k < l.length) (b : Bool) (sp : List Value) : (bools l ++ sp).set k (.bool b) = bools (l.set k b) ++ sp := by
  rw [List.set_append_left _ _ (by simpa [bools] using h)]
  simp [bools]
theorem RAt.ups {R : NetR} {uv lv tv : Value} {mu ml mt : Seg} (h : RAt R uv lv tv mu ml mt) {l : List Bool} {uv' : Value} {mu' : Seg} (ho : Own 4 1 uv' l.length (bools l) mu') (hl : l.length ≤ 65) : RAt { R with up := l } uv' lv tv mu' ml mt :=
  ⟨ho, h.lts, h.tim, h.ltl, hl, h.timl, h.clk⟩
theorem RAt.tims {R : NetR} {uv lv tv : Value} {mu ml mt : Seg} (h : RAt R uv lv tv mu ml mt) {l : List T3} {tv' : Value} {mt' : Seg} (ho : Own 41 3 tv' l.length (l.flatMap timCs) mt') (hl : l.length ≤ 16384) : RAt { R with tim := l } uv lv tv' mu ml mt' :=
  ⟨h.up, h.lts, ho, h.ltl, h.upl, hl, h.clk⟩
theorem RAt.clock {R : NetR} {uv lv tv : Value} {mu ml mt : Seg} (h : RAt R uv lv tv mu ml mt) {x : Int} (hx : 0 ≤ x ∧ x ≤ 1073741824) : RAt { R with clk := x } uv lv tv mu ml mt :=
  ⟨h.up, h.lts, h.tim, h.ltl, h.upl, h.timl, hx⟩
def dueP (R : NetR) (a : Nat) (t : T3) : Bool := decide (t.1 = Int.ofNat a) && decide (t.2.1 = R.clk + 1)
/-- The timers that are due, of the first a nodes, and of the next the first i. -/
def due2 (R : NetR) (a i : Nat) : List T3 := ((List.range a).flatMap fun v => R.tim.filter (dueP R v)) ++ (R.tim.take i).filter (dueP R a)
theorem due2_zero (R : NetR) : due2 R 0 0 = [] := by simp [due2]
theorem due2_step (R : NetR) (a : Nat) {i : Nat} (hi : i < R.tim.length) : due2 R a (i + 1) = due2 R a i ++ (if dueP R a R.tim[i] then [R.tim[i]] else []) := by
  unfold due2; rw [filt_next hi, List.append_assoc]
theorem due2_row (R : NetR) (a : Nat) : due2 R (a + 1) 0 = due2 R a R.tim.length := by
  unfold due2; rw [List.range_succ, List.flatMap_append]; simp
theorem due2_all (R : NetR) : due2 R R.up.length 0 = R.due := by
  unfold due2 NetR.due; simp; rfl
theorem due2_len (R : NetR) (a i : Nat) : (due2 R a i).length ≤ a * R.tim.length + R.tim.length := by
  unfold due2
  rw [List.length_append]
  refine Nat.add_le_add ?_ (Nat.le_trans (List.length_filter_le _ _) (by rw [List.length_take]; omega))
  induction a with
  | zero => simp
  | succ a ih =>
    rw [List.range_succ, List.flatMap_append, List.length_append, Nat.add_mul]
    refine Nat.add_le_add ih ?_
    simp only [List.flatMap_cons, List.flatMap_nil, List.append_nil, Nat.one_mul]
    exact List.length_filter_le _ _
theorem own_set {R : NetR} {E bu k cu : Nat} {spu : List Value} {b : Bool} (h : Own E 1 (.slice (some ⟨bu, 0, none⟩) R.up.length cu) R.up.length (bools R.up) [(bu, blk (bools R.up ++ spu) E)]) : Own E 1 (.slice (some ⟨bu, 0, none⟩) R.up.length cu) (R.up.set k b).length (bools (R.up.set k b)) [(bu, blk (bools (R.up.set k b) ++ spu) E)] := by
  obtain ⟨_, h | ⟨b', c', sp', e, hm, h1, h2, h3⟩⟩ := h
  · obtain ⟨e, _⟩ := h; cases e
  · cases e
    have hsp : bools R.up ++ spu = bools R.up ++ sp' := by simpa using hm
    have hsp := List.append_cancel_left hsp
    subst hsp
    exact ⟨by simp [bools], .inr ⟨bu, cu, spu, by rw [List.length_set], rfl, by rw [List.length_set]; exact h1, h2, by rw [List.length_set]; exact h3⟩⟩

set_option maxRecDepth 100000 in
set_option maxHeartbeats 4000000 in
theorem RRise_spec (R : NetR) (bn : Nat) (m : Seg) (v : Int) (w : World) (hN : RNet R bn m) (ho : Owns w [m]) :
    Meets Try.prog 47 [.pointer (some ⟨bn, 0, none⟩), .int .i64 v] w [m] (fun u own' => u = .int .i64 (R.turn v true).1 ∧ ∃ m', own' = [m'] ∧ RNet (R.turn v true).2 bn m') := by
  refine f_enter Try.func47 rfl Try.ntmps47 rfl ho ?_
  refine f_seq fun K1 kh1 => ?_
  refine f_region ?_
  refine f_stepP rfl rfl rfl (o_assign rfl) ?_
  refine f_done ?_
  refine f_tn (kh1 _ _ ?_)
  clear kh1
  refine f_seq fun K2 kh2 => ?_
  refine f_seq fun K3 kh3 => ?_
  refine f_region ?_
  refine f_stepP rfl rfl rfl (o_move rfl) ?_
  refine f_stepP rfl rfl rfl (o_move rfl) ?_
  refine f_step rfl rfl rfl (o_callM [m] _ Try.call62 rfl (Sub.pick (Sub.refl)) (fun w_ hp_ => Rnone_spec R bn m v w_ hN hp_.owns) ?_)
  rintro _ _ ⟨rfl, rfl⟩
  dsimp only [List.cons_append, List.nil_append]
  refine f_done ?_
  refine f_tn (kh3 _ _ ?_)
  clear kh3
  refine f_cond rfl (fun c7 => ?_) (fun c7 => ?_)
  · skip
    refine f_seq fun K4 kh4 => ?_
    refine f_region ?_
    refine f_stepP rfl rfl rfl (o_assign rfl) ?_
    refine f_done ?_
    refine f_tn (kh4 _ _ ?_)
    clear kh4
    refine f_ret ?_
    refine f_tr ?_
    have e : R.turn v true = (190, R) := if_pos c7
    exact f_fin1 [m] Try.results47 rfl (by repeat (first | exact Sub.nil | refine Sub.pick ?_)) ⟨by rw [e], _, rfl, by rw [e]; exact hN⟩
  · skip
    have hk : v.toNat < R.up.length := by unfold NetR.Non at c7; omega
    obtain ⟨uv, lv, tv, mu, ml, mt, hm, hA⟩ := hN
    refine f_subC (Sub.opened hm) ?_
    dsimp only [rSegs, List.cons_append, List.nil_append]
    obtain ⟨Au, cu, rfl, hcu⟩ := hA.up.val
    obtain ⟨Al, cl, rfl, hcl⟩ := hA.lts.val
    obtain ⟨At_, ct, rfl, hct⟩ := hA.tim.val
    have hltl := hA.ltl
    obtain ⟨bu, spu, rfl, rfl⟩ := hA.up.at_ (by omega)
    refine f_skip ?_
    refine f_tn (kh2 _ _ ?_)
    clear kh2
    refine f_seq fun K5 kh5 => ?_
    refine f_seq fun K6 kh6 => ?_
    refine f_region ?_
    refine f_stepP rfl rfl rfl (o_move rfl) ?_
    refine f_stepP rfl rfl rfl (o_nil rfl) ?_
    refine f_stepP rfl rfl rfl (o_field fa78_0 rfl) ?_
    refine f_stepP rfl rfl rfl (o_load Try.isAgg56 rfl (rdA rfl)) ?_
    refine f_stepP rfl rfl rfl (o_move rfl) ?_
    refine f_stepP rfl rfl rfl (o_idx sl56 rfl rfl (v.toNat) ⟨by omega, by omega, by first | omega | (simp; done) | (simp; omega)⟩) ?_
    refine f_stepP rfl rfl rfl (o_load Try.isAgg4 rfl (rdA (app_get (bools_get hk)))) ?_
    refine f_done ?_
    refine f_tn (kh6 _ _ ?_)
    clear kh6
    refine f_condB rfl (fun c14 => ?_) (fun c14 => ?_)
    · skip
      refine f_seq fun K7 kh7 => ?_
      refine f_region ?_
      refine f_stepP rfl rfl rfl (o_assign rfl) ?_
      refine f_done ?_
      refine f_tn (kh7 _ _ ?_)
      clear kh7
      refine f_ret ?_
      refine f_tr ?_
      have e : R.turn v true = (191, R) := by rw [NetR.turn, if_neg c7, if_pos ((up_at hk).trans c14)]
      exact f_fin1 [(rSegs R bn (.slice (some ⟨bu, 0, none⟩) R.up.length cu) (.slice Al R.lts.length cl) (.slice At_ R.tim.length ct) ([(bu, blk (bools R.up ++ spu) 4)]) ml mt).flatten] Try.results47 rfl (Sub.flat (by repeat (first | exact Sub.nil | refine Sub.pick ?_))) ⟨by rw [e], _, rfl, by rw [e]; exact RNet.mk hA⟩
    · skip
      refine f_skip ?_
      refine f_tn (kh5 _ _ ?_)
      clear kh5
      refine f_seq fun K8 kh8 => ?_
      refine f_region ?_
      refine f_stepP rfl rfl rfl (o_move rfl) ?_
      refine f_stepP rfl rfl rfl (o_nil rfl) ?_
      refine f_stepP rfl rfl rfl (o_field fa78_0 rfl) ?_
      refine f_stepP rfl rfl rfl (o_load Try.isAgg56 rfl (rdA rfl)) ?_
      refine f_stepP rfl rfl rfl (o_move rfl) ?_
      refine f_stepP rfl rfl rfl (o_idx sl56 rfl rfl (v.toNat) ⟨by omega, by omega, by first | omega | (simp; done) | (simp; omega)⟩) ?_
      refine f_step0 rfl rfl (o_store Try.sizeOf4 rfl rfl rfl rfl (by rw [List.length_append]; simp [bools]; omega) (bools (R.up.set v.toNat true) ++ spu) (bools_upd hk true _) ?_)
      refine f_done ?_
      refine f_tn (kh8 _ _ ?_)
      clear kh8
      refine f_seq fun K9 kh9 => ?_
      refine f_region ?_
      refine f_stepP rfl rfl rfl (o_assign rfl) ?_
      refine f_done ?_
      refine f_tn (kh9 _ _ ?_)
      clear kh9
      refine f_ret ?_
      have e : R.turn v true = (0, { R with up := R.up.set v.toNat true }) := by rw [NetR.turn, if_neg c7, if_neg (by rw [up_at hk, c14]; decide)]
      exact f_fin1 [(rSegs { R with up := R.up.set v.toNat true } bn (.slice (some ⟨bu, 0, none⟩) R.up.length cu) (.slice Al R.lts.length cl) (.slice At_ R.tim.length ct) ([(bu, blk (bools (R.up.set v.toNat true) ++ spu) 4)]) ml mt).flatten] Try.results47 rfl (Sub.flat (by repeat (first | exact Sub.nil | refine Sub.pick ?_))) ⟨by rw [e], _, rfl, by rw [e]; exact RNet.mk (hA.ups (own_set hA.up) (by rw [List.length_set]; exact hA.upl))⟩

set_option maxRecDepth 100000 in
set_option maxHeartbeats 4000000 in
theorem RSet_spec (R : NetR) (bn : Nat) (m : Seg) (v at_ tag : Int) (w : World) (hN : RNet R bn m) (ho : Owns w [m]) :
    Meets Try.prog 48 [.pointer (some ⟨bn, 0, none⟩), .int .i64 v, .int .i64 at_, .int .i64 tag] w [m] (fun u own' => u = .int .i64 (R.setT v at_ tag).1 ∧ ∃ m', own' = [m'] ∧ RNet (R.setT v at_ tag).2 bn m') := by
  refine f_enter Try.func48 rfl Try.ntmps48 rfl ho ?_
  refine f_seq fun K1 kh1 => ?_
  refine f_region ?_
  refine f_stepP rfl rfl rfl (o_assign rfl) ?_
  refine f_done ?_
  refine f_tn (kh1 _ _ ?_)
  clear kh1
  refine f_seq fun K2 kh2 => ?_
  refine f_seq fun K3 kh3 => ?_
  refine f_region ?_
  refine f_stepP rfl rfl rfl (o_move rfl) ?_
  refine f_stepP rfl rfl rfl (o_move rfl) ?_
  refine f_step rfl rfl rfl (o_callM [m] _ Try.call62 rfl (Sub.pick (Sub.refl)) (fun w_ hp_ => Rnone_spec R bn m v w_ hN hp_.owns) ?_)
  rintro _ _ ⟨rfl, rfl⟩
  dsimp only [List.cons_append, List.nil_append]
  refine f_done ?_
  refine f_tn (kh3 _ _ ?_)
  clear kh3
  refine f_cond rfl (fun c11 => ?_) (fun c11 => ?_)
  · skip
    refine f_seq fun K4 kh4 => ?_
    refine f_region ?_
    refine f_stepP rfl rfl rfl (o_assign rfl) ?_
    refine f_done ?_
    refine f_tn (kh4 _ _ ?_)
    clear kh4
    refine f_ret ?_
    refine f_tr ?_
    have e : R.setT v at_ tag = (190, R) := if_pos c11
    exact f_fin1 [m] Try.results48 rfl (by repeat (first | exact Sub.nil | refine Sub.pick ?_)) ⟨by rw [e], _, rfl, by rw [e]; exact hN⟩
  · skip
    have hk : v.toNat < R.up.length := by unfold NetR.Non at c11; omega
    obtain ⟨uv, lv, tv, mu, ml, mt, hm, hA⟩ := hN
    refine f_subC (Sub.opened hm) ?_
    dsimp only [rSegs, List.cons_append, List.nil_append]
    obtain ⟨Au, cu, rfl, hcu⟩ := hA.up.val
    obtain ⟨Al, cl, rfl, hcl⟩ := hA.lts.val
    obtain ⟨At_, ct, rfl, hct⟩ := hA.tim.val
    have hltl := hA.ltl
    obtain ⟨bu, spu, rfl, rfl⟩ := hA.up.at_ (by omega)
    refine f_skip ?_
    refine f_tn (kh2 _ _ ?_)
    clear kh2
    refine f_seq fun K5 kh5 => ?_
    refine f_seq fun K6 kh6 => ?_
    refine f_region ?_
    refine f_stepP rfl rfl rfl (o_move rfl) ?_
    refine f_stepP rfl rfl rfl (o_nil rfl) ?_
    refine f_stepP rfl rfl rfl (o_field fa78_0 rfl) ?_
    refine f_stepP rfl rfl rfl (o_load Try.isAgg56 rfl (rdA rfl)) ?_
    refine f_stepP rfl rfl rfl (o_move rfl) ?_
    refine f_stepP rfl rfl rfl (o_idx sl56 rfl rfl (v.toNat) ⟨by omega, by omega, by first | omega | (simp; done) | (simp; omega)⟩) ?_
    refine f_stepP rfl rfl rfl (o_load Try.isAgg4 rfl (rdA (app_get (bools_get hk)))) ?_
    refine f_stepP rfl rfl rfl (o_not rfl) ?_
    refine f_done ?_
    refine f_tn (kh6 _ _ ?_)
    clear kh6
    refine f_condB rfl (fun c19 => ?_) (fun c19 => ?_)
    · skip
      refine f_seq fun K7 kh7 => ?_
      refine f_region ?_
      refine f_stepP rfl rfl rfl (o_assign rfl) ?_
      refine f_done ?_
      refine f_tn (kh7 _ _ ?_)
      clear kh7
      refine f_ret ?_
      refine f_tr ?_
      have e : R.setT v at_ tag = (191, R) := by rw [NetR.setT, if_neg c11, if_pos (by rw [up_at hk]; simpa using c19)]
      exact f_fin1 [(rSegs R bn (.slice (some ⟨bu, 0, none⟩) R.up.length cu) (.slice Al R.lts.length cl) (.slice At_ R.tim.length ct) ([(bu, blk (bools R.up ++ spu) 4)]) ml mt).flatten] Try.results48 rfl (Sub.flat (by repeat (first | exact Sub.nil | refine Sub.pick ?_))) ⟨by rw [e], _, rfl, by rw [e]; exact RNet.mk hA⟩
    · skip
      refine f_skip ?_
      refine f_tn (kh5 _ _ ?_)
      clear kh5
      refine f_seq fun K8 kh8 => ?_
      refine f_seq fun K9 kh9 => ?_
      refine f_region ?_
      refine f_stepP rfl rfl rfl (o_move rfl) ?_
      refine f_stepP rfl rfl rfl (o_move rfl) ?_
      refine f_stepP rfl rfl rfl (o_nil rfl) ?_
      refine f_stepP rfl rfl rfl (o_field fa78_3 rfl) ?_
      refine f_stepP rfl rfl rfl (o_load Try.isAgg3 rfl (rdA rfl)) ?_
      refine f_stepP rfl rfl rfl (o_leq rfl rfl) ?_
      refine f_stepP rfl rfl rfl (o_move rfl) ?_
      refine f_splitL 26 rfl (fun g26 => ?_) (fun g26 => ?_)
      · skip
        refine f_stepN rfl rfl rfl rfl rfl rfl ?_
        refine f_stepN rfl rfl rfl rfl rfl rfl ?_
        refine f_stepP rfl rfl rfl (o_pickT rfl rfl) ?_
        refine f_done ?_
        refine f_tn (kh9 _ _ ?_)
        clear kh9
        refine f_condT rfl ?_
        refine f_seq fun K10 kh10 => ?_
        refine f_region ?_
        refine f_stepP rfl rfl rfl (o_assign rfl) ?_
        refine f_done ?_
        refine f_tn (kh10 _ _ ?_)
        clear kh10
        refine f_ret ?_
        refine f_tr ?_
        have e : R.setT v at_ tag = (1, R) := by rw [NetR.setT, if_neg c11, if_neg (by rw [up_at hk]; simpa using c19), if_pos (.inl g26)]
        exact f_fin1 [(rSegs R bn (.slice (some ⟨bu, 0, none⟩) R.up.length cu) (.slice Al R.lts.length cl) (.slice At_ R.tim.length ct) ([(bu, blk (bools R.up ++ spu) 4)]) ml mt).flatten] Try.results48 rfl (Sub.flat (by repeat (first | exact Sub.nil | refine Sub.pick ?_))) ⟨by rw [e], _, rfl, by rw [e]; exact RNet.mk hA⟩
      · skip
        refine f_stepPY rfl rfl rfl rfl rfl (o_move rfl) ?_
        refine f_stepPY rfl rfl rfl rfl rfl (o_gtr rfl rfl) ?_
        refine f_stepP rfl rfl rfl (o_pickF rfl rfl) ?_
        refine f_done ?_
        refine f_tn (kh9 _ _ ?_)
        clear kh9
        refine f_cond rfl (fun c29 => ?_) (fun c29 => ?_)
        · skip
          refine f_seq fun K11 kh11 => ?_
          refine f_region ?_
          refine f_stepP rfl rfl rfl (o_assign rfl) ?_
          refine f_done ?_
          refine f_tn (kh11 _ _ ?_)
          clear kh11
          refine f_ret ?_
          refine f_tr ?_
          have e : R.setT v at_ tag = (1, R) := by rw [NetR.setT, if_neg c11, if_neg (by rw [up_at hk]; simpa using c19), if_pos (.inr (by omega))]
          exact f_fin1 [(rSegs R bn (.slice (some ⟨bu, 0, none⟩) R.up.length cu) (.slice Al R.lts.length cl) (.slice At_ R.tim.length ct) ([(bu, blk (bools R.up ++ spu) 4)]) ml mt).flatten] Try.results48 rfl (Sub.flat (by repeat (first | exact Sub.nil | refine Sub.pick ?_))) ⟨by rw [e], _, rfl, by rw [e]; exact RNet.mk hA⟩
        · skip
          refine f_skip ?_
          refine f_tn (kh8 _ _ ?_)
          clear kh8
          refine f_seq fun K12 kh12 => ?_
          refine f_seq fun K13 kh13 => ?_
          refine f_region ?_
          refine f_stepP rfl rfl rfl (o_move rfl) ?_
          refine f_stepP rfl rfl rfl (o_nil rfl) ?_
          refine f_stepP rfl rfl rfl (o_field fa78_2 rfl) ?_
          refine f_stepP rfl rfl rfl (o_load Try.isAgg36 rfl (rdA rfl)) ?_
          refine f_stepP rfl rfl rfl (o_len sl36 rfl) ?_
          refine f_stepP rfl rfl rfl (o_geq rfl rfl) ?_
          refine f_done ?_
          refine f_tn (kh13 _ _ ?_)
          clear kh13
          refine f_cond rfl (fun c35 => ?_) (fun c35 => ?_)
          · skip
            refine f_seq fun K14 kh14 => ?_
            refine f_region ?_
            refine f_stepP rfl rfl rfl (o_assign rfl) ?_
            refine f_done ?_
            refine f_tn (kh14 _ _ ?_)
            clear kh14
            refine f_ret ?_
            refine f_tr ?_
            have e : R.setT v at_ tag = (2, R) := by rw [NetR.setT, if_neg c11, if_neg (by rw [up_at hk]; simpa using c19), if_neg (by omega), if_pos (by omega)]
            exact f_fin1 [(rSegs R bn (.slice (some ⟨bu, 0, none⟩) R.up.length cu) (.slice Al R.lts.length cl) (.slice At_ R.tim.length ct) ([(bu, blk (bools R.up ++ spu) 4)]) ml mt).flatten] Try.results48 rfl (Sub.flat (by repeat (first | exact Sub.nil | refine Sub.pick ?_))) ⟨by rw [e], _, rfl, by rw [e]; exact RNet.mk hA⟩
          · skip
            refine f_skip ?_
            refine f_tn (kh12 _ _ ?_)
            clear kh12
            refine f_seq fun K15 kh15 => ?_
            refine f_region ?_
            refine f_stepP rfl rfl rfl (o_move rfl) ?_
            refine f_stepP rfl rfl rfl (o_move rfl) ?_
            refine f_stepP rfl rfl rfl (o_nil rfl) ?_
            refine f_stepP rfl rfl rfl (o_field fa78_2 rfl) ?_
            refine f_stepP rfl rfl rfl (o_load Try.isAgg36 rfl (rdA rfl)) ?_
            refine f_stepP rfl rfl rfl (o_move rfl) ?_
            refine f_stepP rfl rfl rfl (o_move rfl) ?_
            refine f_stepP rfl rfl rfl (o_move rfl) ?_
            refine f_stepP rfl rfl rfl (o_build st41 rfl rfl) ?_
            refine f_step rfl rfl rfl (o_slice1 el36 (by omega) rfl rfl rfl fun b45 => ?_)
            refine f_step rfl rfl rfl (o_append el36 rfl rfl hA.tim (ys := timCs (v, at_, tag)) ⟨(rdA rfl), (rdA rfl), (rdA rfl), trivial⟩ rfl rfl (by omega) (by omega) fun v46 m46 o46 => ?_)
            obtain ⟨A46, c46, rfl, _⟩ := o46.val
            refine f_stepP rfl rfl rfl (o_nil rfl) ?_
            refine f_stepP rfl rfl rfl (o_field fa78_2 rfl) ?_
            refine f_step0 rfl rfl (o_store Try.sizeOf36 rfl rfl rfl rfl (by first | exact Nat.le_of_ble_eq_true rfl | (simp; done) | (simp; omega)) [.slice (some ⟨bu, 0, none⟩) R.up.length cu, .slice Al R.lts.length cl, .slice A46 (R.tim.length + 1) c46, .int .i64 R.clk] rfl ?_)
            refine f_done ?_
            refine f_tn (kh15 _ _ ?_)
            clear kh15
            refine f_seq fun K16 kh16 => ?_
            refine f_region ?_
            refine f_stepP rfl rfl rfl (o_assign rfl) ?_
            refine f_done ?_
            refine f_tn (kh16 _ _ ?_)
            clear kh16
            refine f_ret ?_
            have e : R.setT v at_ tag = (0, { R with tim := R.tim ++ [(v, at_, tag)] }) := by rw [NetR.setT, if_neg c11, if_neg (by rw [up_at hk]; simpa using c19), if_neg (by omega), if_neg (by omega)]
            exact f_fin1 [(rSegs { R with tim := R.tim ++ [(v, at_, tag)] } bn (.slice (some ⟨bu, 0, none⟩) R.up.length cu) (.slice Al R.lts.length cl) (.slice A46 (R.tim.length + 1) c46) ([(bu, blk (bools R.up ++ spu) 4)]) ml m46).flatten] Try.results48 rfl (Sub.flat (by repeat (first | exact Sub.nil | refine Sub.pick ?_))) ⟨by rw [e], _, rfl, by rw [e]; exact RNet.mk (hA.tims (by rw [List.length_append, List.flatMap_append]; simpa using o46) (by rw [List.length_append]; simp; omega))⟩

set_option maxRecDepth 100000 in
set_option maxHeartbeats 4000000 in
theorem RDown_spec (R : NetR) (bn : Nat) (m : Seg) (v : Int) (w : World) (hN : RNet R bn m) (ho : Owns w [m]) :
    Meets Try.prog 46 [.pointer (some ⟨bn, 0, none⟩), .int .i64 v] w [m] (fun u own' => u = .int .i64 (R.goDown v).1 ∧ ∃ m', own' = [m'] ∧ RNet (R.goDown v).2 bn m') := by
  refine f_enter Try.func46 rfl Try.ntmps46 rfl ho ?_
  refine f_seq fun K1 kh1 => ?_
  refine f_region ?_
  refine f_stepP rfl rfl rfl (o_assign rfl) ?_
  refine f_done ?_
  refine f_tn (kh1 _ _ ?_)
  clear kh1
  refine f_seq fun K2 kh2 => ?_
  refine f_seq fun K3 kh3 => ?_
  refine f_region ?_
  refine f_stepP rfl rfl rfl (o_move rfl) ?_
  refine f_stepP rfl rfl rfl (o_move rfl) ?_
  refine f_step rfl rfl rfl (o_callM [m] _ Try.call62 rfl (Sub.pick (Sub.refl)) (fun w_ hp_ => Rnone_spec R bn m v w_ hN hp_.owns) ?_)
  rintro _ _ ⟨rfl, rfl⟩
  dsimp only [List.cons_append, List.nil_append]
  refine f_done ?_
  refine f_tn (kh3 _ _ ?_)
  clear kh3
  refine f_cond rfl (fun c9 => ?_) (fun c9 => ?_)
  · skip
    refine f_seq fun K4 kh4 => ?_
    refine f_region ?_
    refine f_stepP rfl rfl rfl (o_assign rfl) ?_
    refine f_done ?_
    refine f_tn (kh4 _ _ ?_)
    clear kh4
    refine f_ret ?_
    refine f_tr ?_
    have e : R.goDown v = (190, R) := if_pos c9
    exact f_fin1 [m] Try.results46 rfl (by repeat (first | exact Sub.nil | refine Sub.pick ?_)) ⟨by rw [e], _, rfl, by rw [e]; exact hN⟩
  · skip
    have hk : v.toNat < R.up.length := by unfold NetR.Non at c9; omega
    obtain ⟨uv, lv, tv, mu, ml, mt, hm, hA⟩ := hN
    refine f_subC (Sub.opened hm) ?_
    dsimp only [rSegs, List.cons_append, List.nil_append]
    obtain ⟨Au, cu, rfl, hcu⟩ := hA.up.val
    obtain ⟨Al, cl, rfl, hcl⟩ := hA.lts.val
    obtain ⟨At_, ct, rfl, hct⟩ := hA.tim.val
    have hltl := hA.ltl
    obtain ⟨bu, spu, rfl, rfl⟩ := hA.up.at_ (by omega)
    have htl := hA.timl
    refine f_skip ?_
    refine f_tn (kh2 _ _ ?_)
    clear kh2
    refine f_seq fun K5 kh5 => ?_
    refine f_seq fun K6 kh6 => ?_
    refine f_region ?_
    refine f_stepP rfl rfl rfl (o_move rfl) ?_
    refine f_stepP rfl rfl rfl (o_nil rfl) ?_
    refine f_stepP rfl rfl rfl (o_field fa78_0 rfl) ?_
    refine f_stepP rfl rfl rfl (o_load Try.isAgg56 rfl (rdA rfl)) ?_
    refine f_stepP rfl rfl rfl (o_move rfl) ?_
    refine f_stepP rfl rfl rfl (o_idx sl56 rfl rfl (v.toNat) ⟨by omega, by omega, by first | omega | (simp; done) | (simp; omega)⟩) ?_
    refine f_stepP rfl rfl rfl (o_load Try.isAgg4 rfl (rdA (app_get (bools_get hk)))) ?_
    refine f_stepP rfl rfl rfl (o_not rfl) ?_
    refine f_done ?_
    refine f_tn (kh6 _ _ ?_)
    clear kh6
    refine f_condB rfl (fun c17 => ?_) (fun c17 => ?_)
    · skip
      refine f_seq fun K7 kh7 => ?_
      refine f_region ?_
      refine f_stepP rfl rfl rfl (o_assign rfl) ?_
      refine f_done ?_
      refine f_tn (kh7 _ _ ?_)
      clear kh7
      refine f_ret ?_
      refine f_tr ?_
      have e : R.goDown v = (191, R) := by rw [NetR.goDown, if_neg c9, if_pos (by rw [up_at hk]; simpa using c17)]
      exact f_fin1 [(rSegs R bn (.slice (some ⟨bu, 0, none⟩) R.up.length cu) (.slice Al R.lts.length cl) (.slice At_ R.tim.length ct) ([(bu, blk (bools R.up ++ spu) 4)]) ml mt).flatten] Try.results46 rfl (Sub.flat (by repeat (first | exact Sub.nil | refine Sub.pick ?_))) ⟨by rw [e], _, rfl, by rw [e]; exact RNet.mk hA⟩
    · skip
      refine f_skip ?_
      refine f_tn (kh5 _ _ ?_)
      clear kh5
      refine f_seq fun K8 kh8 => ?_
      refine f_region ?_
      refine f_stepP rfl rfl rfl (o_move rfl) ?_
      refine f_stepP rfl rfl rfl (o_nil rfl) ?_
      refine f_stepP rfl rfl rfl (o_field fa78_0 rfl) ?_
      refine f_stepP rfl rfl rfl (o_load Try.isAgg56 rfl (rdA rfl)) ?_
      refine f_stepP rfl rfl rfl (o_move rfl) ?_
      refine f_stepP rfl rfl rfl (o_idx sl56 rfl rfl (v.toNat) ⟨by omega, by omega, by first | omega | (simp; done) | (simp; omega)⟩) ?_
      refine f_step0 rfl rfl (o_store Try.sizeOf4 rfl rfl rfl rfl (by rw [List.length_append]; simp [bools]; omega) (bools (R.up.set v.toNat false) ++ spu) (bools_upd hk false _) ?_)
      refine f_done ?_
      refine f_tn (kh8 _ _ ?_)
      clear kh8
      refine f_seq fun K9 kh9 => ?_
      refine f_region ?_
      refine f_stepP rfl rfl rfl (o_assign rfl) ?_
      refine f_done ?_
      refine f_tn (kh9 _ _ ?_)
      clear kh9
      refine f_seq fun K10 kh10 => ?_
      refine f_seq fun K11 kh11 => ?_
      refine f_region ?_
      refine f_stepP rfl rfl rfl (o_assign rfl) ?_
      refine f_done ?_
      refine f_tn (kh11 _ _ ?_)
      clear kh11
      refine f_block ?_
      refine f_loop (α := Nat × Value × Seg) [0, 1] (fun ⟨i, vo, mo⟩ => [(6, .int .i64 (i : Int)), (5, vo)]) (fun ⟨i, vo, mo⟩ => [[(bn, blk [.slice (some ⟨bu, 0, none⟩) R.up.length cu, .slice Al R.lts.length cl, .slice At_ R.tim.length ct, .int .i64 R.clk] 78)], [(bu, blk (bools (R.up.set v.toNat false) ++ spu) 4)], ml, mt, mo]) (fun ⟨i, vo, mo⟩ => i ≤ R.tim.length ∧ Own 41 3 vo ((R.tim.take i).filter fun t => !decide (t.1 = v)).length (((R.tim.take i).filter fun t => !decide (t.1 = v)).flatMap timCs) mo) (fun ⟨i, vo, mo⟩ => R.tim.length - i) (0, .slice none 0 0, []) ?_ ?_ ?_ ?_
      · exact (by repeat (first | exact trivial | refine ⟨rfl, ?_⟩))
      · repeat (first | exact Sub.nil | refine Sub.pick ?_ | refine Sub.castO rfl ?_ | refine Sub.skip ?_)
      · exact ⟨by omega, Own.nil _ _⟩
      · rintro ⟨i, vo, mo⟩ ⟨hil, ho1⟩
        have hfl : ((R.tim.take i).filter fun t => !decide (t.1 = v)).length ≤ 16384 := Nat.le_trans (List.length_filter_le _ _) (by rw [List.length_take]; omega)
        refine f_seq fun K12 kh12 => ?_
        refine f_seq fun K13 kh13 => ?_
        refine f_region ?_
        refine f_stepP rfl rfl rfl (o_move rfl) ?_
        refine f_stepP rfl rfl rfl (o_move rfl) ?_
        refine f_stepP rfl rfl rfl (o_nil rfl) ?_
        refine f_stepP rfl rfl rfl (o_field fa78_2 rfl) ?_
        refine f_stepP rfl rfl rfl (o_load Try.isAgg36 rfl (rdA rfl)) ?_
        refine f_stepP rfl rfl rfl (o_len sl36 rfl) ?_
        refine f_stepP rfl rfl rfl (o_lss rfl rfl) ?_
        refine f_done ?_
        refine f_tn (kh13 _ _ ?_)
        clear kh13
        refine f_cond rfl (fun c30 => ?_) (fun c30 => ?_)
        · skip
          refine f_skip ?_
          refine f_tn (kh12 _ _ ?_)
          clear kh12
          refine f_seq fun K14 kh14 => ?_
          refine f_block ?_
          refine f_seq fun K15 kh15 => ?_
          refine f_region ?_
          refine f_stepP rfl rfl rfl (o_move rfl) ?_
          refine f_stepP rfl rfl rfl (o_nil rfl) ?_
          refine f_stepP rfl rfl rfl (o_field fa78_2 rfl) ?_
          refine f_stepP rfl rfl rfl (o_load Try.isAgg36 rfl (rdA rfl)) ?_
          refine f_stepP rfl rfl rfl (o_move rfl) ?_
          have hi : i < R.tim.length := by omega
          obtain ⟨bt, spt, rfl, rfl⟩ := hA.tim.at_ (by omega)
          refine f_stepP rfl rfl rfl (o_idx sl36 rfl rfl (i * 3) ⟨by omega, by omega, by first | omega | (simp; done) | (simp; omega)⟩) ?_
          refine f_stepP rfl rfl rfl (o_field fa41_0 rfl) ?_
          refine f_stepP rfl rfl rfl (o_load Try.isAgg3 rfl (rdOwn timCs_len hi rfl)) ?_
          refine f_stepP rfl rfl rfl (o_move rfl) ?_
          refine f_stepP rfl rfl rfl (o_neq rfl rfl) ?_
          refine f_done ?_
          refine f_tn (kh15 _ _ ?_)
          clear kh15
          refine f_cond rfl (fun c42 => ?_) (fun c42 => ?_)
          · skip
            refine f_region ?_
            refine f_stepP rfl rfl rfl (o_move rfl) ?_
            refine f_stepP rfl rfl rfl (o_move rfl) ?_
            refine f_stepP rfl rfl rfl (o_nil rfl) ?_
            refine f_stepP rfl rfl rfl (o_field fa78_2 rfl) ?_
            refine f_stepP rfl rfl rfl (o_load Try.isAgg36 rfl (rdA rfl)) ?_
            refine f_stepP rfl rfl rfl (o_move rfl) ?_
            refine f_stepP rfl rfl rfl (o_idx sl36 rfl rfl (i * 3) ⟨by omega, by omega, by first | omega | (simp; done) | (simp; omega)⟩) ?_
            refine f_stepP rfl rfl rfl (o_loadA (vs := timCs R.tim[i]) Try.isAgg41 Try.sizeOf41 rfl rfl (rdsOwn timCs_len hi)) ?_
            refine f_step rfl rfl rfl (o_slice1 el36 (by omega) rfl rfl rfl fun b51 => ?_)
            refine f_step rfl rfl rfl (o_append el36 rfl rfl ho1 (ys := timCs R.tim[i]) ⟨(rdA rfl), (rdA rfl), (rdA rfl), trivial⟩ rfl rfl (by omega) (by omega) fun v52 m52 o52 => ?_)
            refine f_stepP rfl rfl rfl (o_assign rfl) ?_
            refine f_done ?_
            refine f_bn ?_
            refine f_tn (kh14 _ _ ?_)
            clear kh14
            refine f_region ?_
            refine f_stepP rfl rfl rfl (o_move rfl) ?_
            refine f_stepP rfl rfl rfl (o_add rfl rfl _ (wrap_i64 (by omega))) ?_
            refine f_stepP rfl rfl rfl (o_assign rfl) ?_
            refine f_done ?_
            refine f_tn (f_again (i + 1, v52, m52) (by first | omega | (dsimp only; omega) | (simp; omega)) ⟨by omega, by rw [filt_next hi, if_pos (by simpa using c42), List.length_append, List.flatMap_append]; simpa using o52⟩ ?_ ?_ ?_)
            · exact (by repeat (first | exact trivial | refine ⟨rfl, ?_⟩))
            · exact (by repeat (first | exact trivial | refine ⟨rfl, ?_⟩))
            · repeat (first | exact Sub.nil | refine Sub.pick ?_ | refine Sub.castO rfl ?_ | refine Sub.skip ?_)
          · skip
            refine f_skip ?_
            refine f_bn ?_
            refine f_tn (kh14 _ _ ?_)
            clear kh14
            refine f_region ?_
            refine f_stepP rfl rfl rfl (o_move rfl) ?_
            refine f_stepP rfl rfl rfl (o_add rfl rfl _ (wrap_i64 (by omega))) ?_
            refine f_stepP rfl rfl rfl (o_assign rfl) ?_
            refine f_done ?_
            refine f_tn (f_again (i + 1, vo, mo) (by first | omega | (dsimp only; omega) | (simp; omega)) ⟨by omega, by rw [filt_next hi, if_neg (by simpa using c42), List.append_nil]; exact ho1⟩ ?_ ?_ ?_)
            · exact (by repeat (first | exact trivial | refine ⟨rfl, ?_⟩))
            · exact (by repeat (first | exact trivial | refine ⟨rfl, ?_⟩))
            · repeat (first | exact Sub.nil | refine Sub.pick ?_ | refine Sub.castO rfl ?_ | refine Sub.skip ?_)
        · skip
          refine f_exit ?_
          refine f_te ?_
          clear kh12
          refine f_te ?_
          refine f_be ?_
          refine f_tn (kh10 _ _ ?_)
          clear kh10
          refine f_seq fun K16 kh16 => ?_
          obtain rfl : i = R.tim.length := by omega
          rw [List.take_length] at ho1
          obtain ⟨Ao, co, rfl, _⟩ := ho1.val
          refine f_region ?_
          refine f_stepP rfl rfl rfl (o_move rfl) ?_
          refine f_stepP rfl rfl rfl (o_move rfl) ?_
          refine f_stepP rfl rfl rfl (o_nil rfl) ?_
          refine f_stepP rfl rfl rfl (o_field fa78_2 rfl) ?_
          refine f_step0 rfl rfl (o_store Try.sizeOf36 rfl rfl rfl rfl (by first | exact Nat.le_of_ble_eq_true rfl | (simp; done) | (simp; omega)) [.slice (some ⟨bu, 0, none⟩) R.up.length cu, .slice Al R.lts.length cl, .slice Ao ((R.tim.filter fun t => !decide (t.1 = v)).length) co, .int .i64 R.clk] rfl ?_)
          refine f_done ?_
          refine f_tn (kh16 _ _ ?_)
          clear kh16
          refine f_seq fun K17 kh17 => ?_
          refine f_region ?_
          refine f_stepP rfl rfl rfl (o_assign rfl) ?_
          refine f_done ?_
          refine f_tn (kh17 _ _ ?_)
          clear kh17
          refine f_ret ?_
          have e : R.goDown v = (0, { R with up := R.up.set v.toNat false, tim := R.tim.filter fun t => !decide (t.1 = v) }) := by rw [NetR.goDown, if_neg c9, if_neg (by rw [up_at hk]; simpa using c17)]
          exact f_fin1 [(rSegs { R with up := R.up.set v.toNat false, tim := R.tim.filter fun t => !decide (t.1 = v) } bn (.slice (some ⟨bu, 0, none⟩) R.up.length cu) (.slice Al R.lts.length cl) (.slice Ao (R.tim.filter fun t => !decide (t.1 = v)).length co) ([(bu, blk (bools (R.up.set v.toNat false) ++ spu) 4)]) ml mo).flatten] Try.results46 rfl (Sub.flat (by repeat (first | exact Sub.nil | refine Sub.pick ?_))) ⟨by rw [e], _, rfl, by rw [e]; exact RNet.mk (RAt.ups (R := { R with tim := R.tim.filter fun t => !decide (t.1 = v) }) (hA.tims ho1 (Nat.le_trans (List.length_filter_le _ _) htl)) (own_set hA.up) (by rw [List.length_set]; exact hA.upl))⟩

set_option maxRecDepth 100000 in
set_option maxHeartbeats 4000000 in
theorem RNew_spec (N : Int) (w : World) : Meets Try.prog 22 [.int .i64 N] w []
      (fun u own' => if 1 ≤ N ∧ N ≤ 65 then ∃ bn m, u = .tuple #[.pointer (some ⟨bn, 0, none⟩), .int .i64 0] ∧ own' = [m] ∧ RNet (NetR.new N.toNat) bn m else u = .tuple #[.pointer none, .int .i64 1] ∧ own' = []) := by
  refine f_enter Try.func22 rfl Try.ntmps22 rfl Owns.nil ?_
  refine f_seq fun K1 kh1 => ?_
  refine f_region ?_
  refine f_stepP rfl rfl rfl (o_assign rfl) ?_
  refine f_stepP rfl rfl rfl (o_assign rfl) ?_
  refine f_done ?_
  refine f_tn (kh1 _ _ ?_)
  clear kh1
  refine f_seq fun K2 kh2 => ?_
  refine f_seq fun K3 kh3 => ?_
  refine f_region ?_
  refine f_stepP rfl rfl rfl (o_move rfl) ?_
  refine f_stepP rfl rfl rfl (o_lss rfl rfl) ?_
  refine f_stepP rfl rfl rfl (o_move rfl) ?_
  refine f_splitL 8 rfl (fun g8 => ?_) (fun g8 => ?_)
  · skip
    refine f_stepN rfl rfl rfl rfl rfl rfl ?_
    refine f_stepN rfl rfl rfl rfl rfl rfl ?_
    refine f_stepP rfl rfl rfl (o_pickT rfl rfl) ?_
    refine f_done ?_
    refine f_tn (kh3 _ _ ?_)
    clear kh3
    refine f_condT rfl ?_
    refine f_seq fun K4 kh4 => ?_
    refine f_region ?_
    refine f_stepP rfl rfl rfl (o_assign rfl) ?_
    refine f_stepP rfl rfl rfl (o_assign rfl) ?_
    refine f_done ?_
    refine f_tn (kh4 _ _ ?_)
    clear kh4
    refine f_ret ?_
    refine f_tr ?_
    exact f_fin2 [] Try.results22 rfl rfl Sub.nil (by rw [if_neg (by omega)]; exact ⟨rfl, rfl⟩)
  · skip
    refine f_stepPY rfl rfl rfl rfl rfl (o_move rfl) ?_
    refine f_stepPY rfl rfl rfl rfl rfl (o_gtr rfl rfl) ?_
    refine f_stepP rfl rfl rfl (o_pickF rfl rfl) ?_
    refine f_done ?_
    refine f_tn (kh3 _ _ ?_)
    clear kh3
    refine f_cond rfl (fun c11 => ?_) (fun c11 => ?_)
    · skip
      refine f_seq fun K5 kh5 => ?_
      refine f_region ?_
      refine f_stepP rfl rfl rfl (o_assign rfl) ?_
      refine f_stepP rfl rfl rfl (o_assign rfl) ?_
      refine f_done ?_
      refine f_tn (kh5 _ _ ?_)
      clear kh5
      refine f_ret ?_
      refine f_tr ?_
      exact f_fin2 [] Try.results22 rfl rfl Sub.nil (by rw [if_neg (by omega)]; exact ⟨rfl, rfl⟩)
    · skip
      refine f_skip ?_
      refine f_tn (kh2 _ _ ?_)
      clear kh2
      refine f_seq fun K6 kh6 => ?_
      refine f_region ?_
      refine f_stepP rfl rfl rfl (o_build (cs := [.slice none 0 0, .slice none 0 0, .slice none 0 0, .int .i64 0]) st78 rfl rfl) ?_
      refine f_step rfl rfl rfl (o_box rfl rfl fun b13 => ?_)
      refine f_stepP rfl rfl rfl (o_assign rfl) ?_
      refine f_done ?_
      refine f_tn (kh6 _ _ ?_)
      clear kh6
      refine f_seq fun K7 kh7 => ?_
      refine f_seq fun K8 kh8 => ?_
      refine f_region ?_
      refine f_stepP rfl rfl rfl (o_assign rfl) ?_
      refine f_done ?_
      refine f_tn (kh8 _ _ ?_)
      clear kh8
      refine f_block ?_
      refine f_loop (α := Nat × Value × Seg) [0, 4] (fun ⟨i, vo, mo⟩ => [(5, .int .i64 (i : Int))]) (fun ⟨i, vo, mo⟩ => [[(b13, blk [vo, .slice none 0 0, .slice none 0 0, .int .i64 0] 78)], mo]) (fun ⟨i, vo, mo⟩ => i ≤ N.toNat ∧ Own 4 1 vo i (bools (List.replicate i true)) mo) (fun ⟨i, vo, mo⟩ => N.toNat - i) (0, .slice none 0 0, []) ?_ ?_ ?_ ?_
      · exact (by repeat (first | exact trivial | refine ⟨rfl, ?_⟩))
      · repeat (first | exact Sub.nil | refine Sub.pick ?_ | refine Sub.castO rfl ?_ | refine Sub.skip ?_)
      · exact ⟨by omega, Own.nil _ _⟩
      · rintro ⟨i, vo, mo⟩ ⟨hil, ho1⟩
        obtain ⟨Ao, co, rfl, _⟩ := ho1.val
        refine f_seq fun K9 kh9 => ?_
        refine f_seq fun K10 kh10 => ?_
        refine f_region ?_
        refine f_stepP rfl rfl rfl (o_move rfl) ?_
        refine f_stepP rfl rfl rfl (o_move rfl) ?_
        refine f_stepP rfl rfl rfl (o_lss rfl rfl) ?_
        refine f_done ?_
        refine f_tn (kh10 _ _ ?_)
        clear kh10
        refine f_cond rfl (fun c16 => ?_) (fun c16 => ?_)
        · skip
          refine f_skip ?_
          refine f_tn (kh9 _ _ ?_)
          clear kh9
          refine f_seq fun K11 kh11 => ?_
          refine f_block ?_
          refine f_region ?_
          refine f_stepP rfl rfl rfl (o_move rfl) ?_
          refine f_stepP rfl rfl rfl (o_move rfl) ?_
          refine f_stepP rfl rfl rfl (o_nil rfl) ?_
          refine f_stepP rfl rfl rfl (o_field fa78_0 rfl) ?_
          refine f_stepP rfl rfl rfl (o_load Try.isAgg56 rfl (rdA rfl)) ?_
          refine f_step rfl rfl rfl (o_slice1 el56 (by omega) rfl rfl rfl fun b24 => ?_)
          refine f_step rfl rfl rfl (o_append el56 rfl rfl ho1 (ys := [.bool true]) ⟨(rdA rfl), trivial⟩ rfl rfl (by omega) (by omega) fun v25 m25 o25 => ?_)
          obtain ⟨A25, c25, rfl, _⟩ := o25.val
          refine f_stepP rfl rfl rfl (o_nil rfl) ?_
          refine f_stepP rfl rfl rfl (o_field fa78_0 rfl) ?_
          refine f_step0 rfl rfl (o_store Try.sizeOf56 rfl rfl rfl rfl (by first | exact Nat.le_of_ble_eq_true rfl | (simp; done) | (simp; omega)) [.slice A25 (i + 1) c25, .slice none 0 0, .slice none 0 0, .int .i64 0] rfl ?_)
          refine f_done ?_
          refine f_bn ?_
          refine f_tn (kh11 _ _ ?_)
          clear kh11
          refine f_region ?_
          refine f_stepP rfl rfl rfl (o_move rfl) ?_
          refine f_stepP rfl rfl rfl (o_add rfl rfl _ (wrap_i64 (by omega))) ?_
          refine f_stepP rfl rfl rfl (o_assign rfl) ?_
          refine f_done ?_
          refine f_tn (f_again (i + 1, .slice A25 (i + 1) c25, m25) (by first | omega | (dsimp only; omega) | (simp; omega)) ⟨by omega, by rw [List.replicate_succ']; simpa [bools] using o25⟩ ?_ ?_ ?_)
          · exact (by repeat (first | exact trivial | refine ⟨rfl, ?_⟩))
          · exact (by repeat (first | exact trivial | refine ⟨rfl, ?_⟩))
          · repeat (first | exact Sub.nil | refine Sub.pick ?_ | refine Sub.castO rfl ?_ | refine Sub.skip ?_)
        · skip
          refine f_exit ?_
          refine f_te ?_
          clear kh9
          refine f_te ?_
          refine f_be ?_
          refine f_tn (kh7 _ _ ?_)
          clear kh7
          refine f_seq fun K12 kh12 => ?_
          refine f_region ?_
          refine f_stepP rfl rfl rfl (o_move rfl) ?_
          refine f_stepP rfl rfl rfl (o_assign rfl) ?_
          refine f_stepP rfl rfl rfl (o_assign rfl) ?_
          refine f_done ?_
          refine f_tn (kh12 _ _ ?_)
          clear kh12
          refine f_ret ?_
          obtain rfl : i = N.toNat := by omega
          exact f_fin2 [(rSegs (NetR.new N.toNat) b13 (.slice Ao N.toNat co) (.slice none 0 0) (.slice none 0 0) mo [] []).flatten] Try.results22 rfl rfl (Sub.flat (by dsimp only [rSegs]; repeat (first | exact Sub.nil | refine Sub.pick ?_ | refine Sub.castO rfl ?_ | refine Sub.skip ?_))) (by rw [if_pos ⟨by omega, by omega⟩]; exact ⟨_, _, rfl, rfl, RNet.mk ⟨by simpa [NetR.new] using ho1, Own.nil _ _, Own.nil _ _, by simp [NetR.new], by simp [NetR.new]; omega, by simp [NetR.new], by simp [NetR.new]⟩⟩)

set_option maxRecDepth 100000 in
set_option maxHeartbeats 4000000 in
theorem RLinks_spec (R : NetR) (bn : Nat) (m : Seg) (w : World) (hN : RNet R bn m) (ho : Owns w [m]) :
    Meets Try.prog 51 [.pointer (some ⟨bn, 0, none⟩)] w [m] (fun u own' => ∃ ms m', own' = [m', ms] ∧ RNet R bn m' ∧ Own 60 2 u R.links.length (R.links.flatMap prCs) ms) := by
  have hup := hN.lens.2.1
  obtain ⟨n, hn⟩ : ∃ n, n = R.up.length := ⟨_, rfl⟩
  obtain ⟨q, hq⟩ : ∃ q : Int × Int → Bool, q = fun k => !(R.bagI k).isEmpty := ⟨_, rfl⟩
  refine f_enter Try.func51 rfl Try.ntmps51 rfl ho ?_
  refine f_seq fun K1 kh1 => ?_
  refine f_region ?_
  refine f_stepP rfl rfl rfl (o_assign rfl) ?_
  refine f_done ?_
  refine f_tn (kh1 _ _ ?_)
  clear kh1
  refine f_seq fun K2 kh2 => ?_
  refine f_region ?_
  refine f_stepP rfl rfl rfl (o_assign rfl) ?_
  refine f_done ?_
  refine f_tn (kh2 _ _ ?_)
  clear kh2
  refine f_seq fun K3 kh3 => ?_
  refine f_seq fun K4 kh4 => ?_
  refine f_region ?_
  refine f_stepP rfl rfl rfl (o_assign rfl) ?_
  refine f_done ?_
  refine f_tn (kh4 _ _ ?_)
  clear kh4
  refine f_block ?_
  refine f_loop (α := Nat × Value × Seg × Seg) [0] (fun ⟨a, vo, mo, m2⟩ => [(4, .int .i64 (a : Int)), (3, vo)]) (fun ⟨a, vo, mo, m2⟩ => [m2, mo]) (fun ⟨a, vo, mo, m2⟩ => a ≤ n ∧ RNet R bn m2 ∧ Own 60 2 vo (lst2 q n a 0).length ((lst2 q n a 0).flatMap prCs) mo) (fun ⟨a, vo, mo, m2⟩ => n - a) (0, .slice none 0 0, [], m) ?_ ?_ ?_ ?_
  · exact (by repeat (first | exact trivial | refine ⟨rfl, ?_⟩))
  · repeat (first | exact Sub.nil | refine Sub.pick ?_ | refine Sub.castO rfl ?_ | refine Sub.skip ?_)
  · exact ⟨by omega, hN, by rw [lst2_zero]; exact Own.nil _ _⟩
  · rintro ⟨a, vo, mo, m2⟩ ⟨han, hN2, ho1⟩
    obtain ⟨uv, lv, tv, mu, ml, mt, hm, hA⟩ := hN2
    refine f_subC (Sub.opened hm) ?_
    dsimp only [rSegs, List.cons_append, List.nil_append]
    obtain ⟨Au, cu, rfl, hcu⟩ := hA.up.val
    refine f_seq fun K5 kh5 => ?_
    refine f_seq fun K6 kh6 => ?_
    refine f_region ?_
    refine f_stepP rfl rfl rfl (o_move rfl) ?_
    refine f_stepP rfl rfl rfl (o_move rfl) ?_
    refine f_stepP rfl rfl rfl (o_nil rfl) ?_
    refine f_stepP rfl rfl rfl (o_field fa78_0 rfl) ?_
    refine f_stepP rfl rfl rfl (o_load Try.isAgg56 rfl (rdA rfl)) ?_
    refine f_stepP rfl rfl rfl (o_len sl56 rfl) ?_
    refine f_stepP rfl rfl rfl (o_lss rfl rfl) ?_
    refine f_done ?_
    refine f_tn (kh6 _ _ ?_)
    clear kh6
    refine f_cond rfl (fun c12 => ?_) (fun c12 => ?_)
    · skip
      refine f_subC (Sub.shut (out := rSegs R bn (.slice Au R.up.length cu) lv tv mu ml mt) (List.Perm.refl _)) ?_
      have hN1 : RNet R bn (rSegs R bn (.slice Au R.up.length cu) lv tv mu ml mt).flatten := RNet.mk hA
      generalize (rSegs R bn (.slice Au R.up.length cu) lv tv mu ml mt).flatten = m1 at hN1 ⊢
      refine f_skip ?_
      refine f_tn (kh5 _ _ ?_)
      clear kh5
      refine f_seq fun K7 kh7 => ?_
      refine f_block ?_
      refine f_seq fun K8 kh8 => ?_
      refine f_region ?_
      refine f_stepP rfl rfl rfl (o_assign rfl) ?_
      refine f_done ?_
      refine f_tn (kh8 _ _ ?_)
      clear kh8
      refine f_block ?_
      refine f_loop (α := Nat × Value × Seg × Seg) [0, 4] (fun ⟨b, vo2, mo2, m4⟩ => [(5, .int .i64 (b : Int)), (3, vo2)]) (fun ⟨b, vo2, mo2, m4⟩ => [m4, mo2]) (fun ⟨b, vo2, mo2, m4⟩ => b ≤ n ∧ RNet R bn m4 ∧ Own 60 2 vo2 (lst2 q n a b).length ((lst2 q n a b).flatMap prCs) mo2) (fun ⟨b, vo2, mo2, m4⟩ => n - b) (0, vo, mo, m1) ?_ ?_ ?_ ?_
      · exact (by repeat (first | exact trivial | refine ⟨rfl, ?_⟩))
      · repeat (first | exact Sub.nil | refine Sub.pick ?_ | refine Sub.castO rfl ?_ | refine Sub.skip ?_)
      · exact ⟨by omega, hN1, ho1⟩
      · rintro ⟨b, vo2, mo2, m4⟩ ⟨hbn, hN4, ho2⟩
        obtain ⟨uv, lv, tv, mu, ml, mt, hm, hA⟩ := hN4
        refine f_subC (Sub.opened hm) ?_
        dsimp only [rSegs, List.cons_append, List.nil_append]
        obtain ⟨Au, cu, rfl, hcu⟩ := hA.up.val
        refine f_seq fun K9 kh9 => ?_
        refine f_seq fun K10 kh10 => ?_
        refine f_region ?_
        refine f_stepP rfl rfl rfl (o_move rfl) ?_
        refine f_stepP rfl rfl rfl (o_move rfl) ?_
        refine f_stepP rfl rfl rfl (o_nil rfl) ?_
        refine f_stepP rfl rfl rfl (o_field fa78_0 rfl) ?_
        refine f_stepP rfl rfl rfl (o_load Try.isAgg56 rfl (rdA rfl)) ?_
        refine f_stepP rfl rfl rfl (o_len sl56 rfl) ?_
        refine f_stepP rfl rfl rfl (o_lss rfl rfl) ?_
        refine f_done ?_
        refine f_tn (kh10 _ _ ?_)
        clear kh10
        refine f_cond rfl (fun c21 => ?_) (fun c21 => ?_)
        · skip
          refine f_subC (Sub.shut (out := rSegs R bn (.slice Au R.up.length cu) lv tv mu ml mt) (List.Perm.refl _)) ?_
          have hN1 : RNet R bn (rSegs R bn (.slice Au R.up.length cu) lv tv mu ml mt).flatten := RNet.mk hA
          generalize (rSegs R bn (.slice Au R.up.length cu) lv tv mu ml mt).flatten = m1 at hN1 ⊢
          refine f_skip ?_
          refine f_tn (kh9 _ _ ?_)
          clear kh9
          refine f_seq fun K11 kh11 => ?_
          refine f_block ?_
          refine f_seq fun K12 kh12 => ?_
          refine f_region ?_
          refine f_stepP rfl rfl rfl (o_move rfl) ?_
          refine f_stepP rfl rfl rfl (o_move rfl) ?_
          refine f_stepP rfl rfl rfl (o_move rfl) ?_
          refine f_step rfl rfl rfl (o_callM [m1] _ Try.call59 rfl (Sub.pick Sub.refl) (fun w_ hp_ => Rbag_spec R bn m1 ((a : Int), (b : Int)) w_ hN1 hp_.owns) ?_)
          rintro vi _ ⟨mi, m3, rfl, hN3, hoi⟩
          obtain ⟨Ai, ci, rfl, hci⟩ := hoi.val
          have hst := lst2_step q n a b
          have hll := lst2_len q (n := n) (a := a) (b := b) (by omega) (by omega) (by omega)
          dsimp only [List.cons_append, List.nil_append]
          refine f_stepP rfl rfl rfl (o_len sl74 rfl) ?_
          refine f_stepP rfl rfl rfl (o_gtr rfl rfl) ?_
          refine f_done ?_
          refine f_tn (kh12 _ _ ?_)
          clear kh12
          refine f_cond rfl (fun c29 => ?_) (fun c29 => ?_)
          · skip
            have hqt : q (Int.ofNat a, Int.ofNat b) = true := by
              subst hq; show (!(R.bagI ((a : Int), (b : Int))).isEmpty) = true
              cases hb : R.bagI ((a : Int), (b : Int)) with
              | nil => rw [hb] at c29; simp at c29
              | cons => rfl
            rw [if_pos hqt] at hst
            refine f_region ?_
            refine f_stepP rfl rfl rfl (o_move rfl) ?_
            refine f_stepP rfl rfl rfl (o_move rfl) ?_
            refine f_stepP rfl rfl rfl (o_move rfl) ?_
            refine f_stepP rfl rfl rfl (o_buildA ar60 rfl rfl) ?_
            refine f_step rfl rfl rfl (o_slice1 el48 (by omega) rfl rfl rfl fun b34 => ?_)
            refine f_step rfl rfl rfl (o_append el48 rfl rfl ho2 (ys := prCs ((a : Int), (b : Int))) ⟨(rdA rfl), (rdA rfl), trivial⟩ rfl rfl (by omega) (by omega) fun v35 m35 o35 => ?_)
            refine f_stepP rfl rfl rfl (o_assign rfl) ?_
            refine f_done ?_
            refine f_bn ?_
            refine f_tn (kh11 _ _ ?_)
            clear kh11
            refine f_region ?_
            refine f_stepP rfl rfl rfl (o_move rfl) ?_
            refine f_stepP rfl rfl rfl (o_add rfl rfl _ (wrap_i64 (by omega))) ?_
            refine f_stepP rfl rfl rfl (o_assign rfl) ?_
            refine f_done ?_
            refine f_tn (f_again (b + 1, v35, m35, m3) (by first | omega | (dsimp only; omega) | (simp; omega)) ⟨by omega, hN3, by rw [hst, List.length_append, List.flatMap_append]; exact o35⟩ ?_ ?_ ?_)
            · exact (by repeat (first | exact trivial | refine ⟨rfl, ?_⟩))
            · exact (by repeat (first | exact trivial | refine ⟨rfl, ?_⟩))
            · repeat (first | exact Sub.nil | refine Sub.pick ?_ | refine Sub.castO rfl ?_ | refine Sub.skip ?_)
          · skip
            have hqt : ¬ q (Int.ofNat a, Int.ofNat b) = true := by
              subst hq; show ¬ (!(R.bagI ((a : Int), (b : Int))).isEmpty) = true
              cases hb : R.bagI ((a : Int), (b : Int)) with
              | nil => simp
              | cons => rw [hb] at c29; simp at c29
            rw [if_neg hqt, List.append_nil] at hst
            refine f_skip ?_
            refine f_bn ?_
            refine f_tn (kh11 _ _ ?_)
            clear kh11
            refine f_region ?_
            refine f_stepP rfl rfl rfl (o_move rfl) ?_
            refine f_stepP rfl rfl rfl (o_add rfl rfl _ (wrap_i64 (by omega))) ?_
            refine f_stepP rfl rfl rfl (o_assign rfl) ?_
            refine f_done ?_
            refine f_tn (f_again (b + 1, vo2, mo2, m3) (by first | omega | (dsimp only; omega) | (simp; omega)) ⟨by omega, hN3, by rw [hst]; exact ho2⟩ ?_ ?_ ?_)
            · exact (by repeat (first | exact trivial | refine ⟨rfl, ?_⟩))
            · exact (by repeat (first | exact trivial | refine ⟨rfl, ?_⟩))
            · repeat (first | exact Sub.nil | refine Sub.pick ?_ | refine Sub.castO rfl ?_ | refine Sub.skip ?_)
        · skip
          have hbn' : b = n := by omega
          refine f_subC (Sub.shut (out := rSegs R bn (.slice Au R.up.length cu) lv tv mu ml mt) (List.Perm.refl _)) ?_
          have hN1 : RNet R bn (rSegs R bn (.slice Au R.up.length cu) lv tv mu ml mt).flatten := RNet.mk hA
          generalize (rSegs R bn (.slice Au R.up.length cu) lv tv mu ml mt).flatten = m1 at hN1 ⊢
          refine f_exit ?_
          refine f_te ?_
          clear kh9
          refine f_te ?_
          refine f_be ?_
          refine f_bn ?_
          refine f_tn (kh7 _ _ ?_)
          clear kh7
          refine f_region ?_
          refine f_stepP rfl rfl rfl (o_move rfl) ?_
          refine f_stepP rfl rfl rfl (o_add rfl rfl _ (wrap_i64 (by omega))) ?_
          refine f_stepP rfl rfl rfl (o_assign rfl) ?_
          refine f_done ?_
          refine f_tn (f_again (a + 1, vo2, mo2, m1) (by first | omega | (dsimp only; omega) | (simp; omega)) ⟨by omega, hN1, by rw [lst2_row]; rw [hbn'] at ho2; exact ho2⟩ ?_ ?_ ?_)
          · exact (by repeat (first | exact trivial | refine ⟨rfl, ?_⟩))
          · exact (by repeat (first | exact trivial | refine ⟨rfl, ?_⟩))
          · repeat (first | exact Sub.nil | refine Sub.pick ?_ | refine Sub.castO rfl ?_ | refine Sub.skip ?_)
    · skip
      refine f_subC (Sub.shut (out := rSegs R bn (.slice Au R.up.length cu) lv tv mu ml mt) (List.Perm.refl _)) ?_
      have hN1 : RNet R bn (rSegs R bn (.slice Au R.up.length cu) lv tv mu ml mt).flatten := RNet.mk hA
      generalize (rSegs R bn (.slice Au R.up.length cu) lv tv mu ml mt).flatten = m1 at hN1 ⊢
      obtain rfl : a = n := by omega
      rw [lst2_all] at ho1
      have hlk : (allP a).filter q = R.links := by unfold NetR.links; rw [hq, hn]
      rw [hlk] at ho1
      refine f_exit ?_
      refine f_te ?_
      clear kh5
      refine f_te ?_
      refine f_be ?_
      refine f_tn (kh3 _ _ ?_)
      clear kh3
      refine f_seq fun K13 kh13 => ?_
      refine f_region ?_
      refine f_stepP rfl rfl rfl (o_move rfl) ?_
      refine f_stepP rfl rfl rfl (o_assign rfl) ?_
      refine f_done ?_
      refine f_tn (kh13 _ _ ?_)
      clear kh13
      refine f_ret ?_
      exact f_fin1 [m1, mo] Try.results51 rfl (by repeat (first | exact Sub.nil | refine Sub.pick ?_)) ⟨_, _, rfl, hN1, ho1⟩

set_option maxRecDepth 100000 in
set_option maxHeartbeats 4000000 in
theorem RTick_spec (R : NetR) (bn : Nat) (m : Seg) (w : World) (hN : RNet R bn m) (ho : Owns w [m]) :
    Meets Try.prog 49 [.pointer (some ⟨bn, 0, none⟩)] w [m] (fun u own' => ∃ s ms m', u = .tuple #[s, .int .i64 R.tick.1.2] ∧ own' = [m', ms] ∧ RNet R.tick.2 bn m' ∧ Own 41 3 s R.tick.1.1.length (R.tick.1.1.flatMap timCs) ms) := by
  have hN0 := hN
  refine f_enter Try.func49 rfl Try.ntmps49 rfl ho ?_
  obtain ⟨uv, lv, tv, mu, ml, mt, hm, hA⟩ := hN
  refine f_subC (Sub.of_perm hm) ?_
  unfold rSegs
  obtain ⟨Au, cu, rfl, hcu⟩ := hA.up.val
  obtain ⟨Al, cl, rfl, hcl⟩ := hA.lts.val
  obtain ⟨At_, ct, rfl, hct⟩ := hA.tim.val
  have hltl := hA.ltl
  have htl := hA.timl
  have hup := hA.upl
  have hck := hA.clk
  refine f_seq fun K1 kh1 => ?_
  refine f_region ?_
  refine f_stepP rfl rfl rfl (o_assign rfl) ?_
  refine f_stepP rfl rfl rfl (o_assign rfl) ?_
  refine f_done ?_
  refine f_tn (kh1 _ _ ?_)
  clear kh1
  refine f_seq fun K2 kh2 => ?_
  refine f_seq fun K3 kh3 => ?_
  refine f_region ?_
  refine f_stepP rfl rfl rfl (o_move rfl) ?_
  refine f_stepP rfl rfl rfl (o_nil rfl) ?_
  refine f_stepP rfl rfl rfl (o_field fa78_3 rfl) ?_
  refine f_stepP rfl rfl rfl (o_load Try.isAgg3 rfl (rdA rfl)) ?_
  refine f_stepP rfl rfl rfl (o_geq rfl rfl) ?_
  refine f_done ?_
  refine f_tn (kh3 _ _ ?_)
  clear kh3
  refine f_cond rfl (fun c13 => ?_) (fun c13 => ?_)
  · skip
    refine f_seq fun K4 kh4 => ?_
    refine f_region ?_
    refine f_stepP rfl rfl rfl (o_assign rfl) ?_
    refine f_stepP rfl rfl rfl (o_assign rfl) ?_
    refine f_done ?_
    refine f_tn (kh4 _ _ ?_)
    clear kh4
    refine f_ret ?_
    refine f_tr ?_
    have e : R.tick = (([], 1), R) := if_pos c13
    rw [e]
    exact f_fin2 [m, []] Try.results49 rfl rfl (Sub.trans (b := [m]) ⟨[], by simpa using hm.symm⟩ Sub.addNil2) ⟨_, _, _, rfl, rfl, hN0, Own.nil _ _⟩
  · skip
    refine f_skip ?_
    refine f_tn (kh2 _ _ ?_)
    clear kh2
    refine f_seq fun K5 kh5 => ?_
    refine f_region ?_
    refine f_stepP rfl rfl rfl (o_move rfl) ?_
    refine f_stepP rfl rfl rfl (o_nil rfl) ?_
    refine f_stepP rfl rfl rfl (o_field fa78_3 rfl) ?_
    refine f_stepP rfl rfl rfl (o_load Try.isAgg3 rfl (rdA rfl)) ?_
    refine f_stepP rfl rfl rfl (o_add rfl rfl _ (wrap_i64 (by omega))) ?_
    refine f_stepP rfl rfl rfl (o_nil rfl) ?_
    refine f_stepP rfl rfl rfl (o_field fa78_3 rfl) ?_
    refine f_step0 rfl rfl (o_store Try.sizeOf3 rfl rfl rfl rfl (by first | exact Nat.le_of_ble_eq_true rfl | (simp; done) | (simp; omega)) [.slice Au R.up.length cu, .slice Al R.lts.length cl, .slice At_ R.tim.length ct, .int .i64 (R.clk + 1)] rfl ?_)
    refine f_done ?_
    refine f_tn (kh5 _ _ ?_)
    clear kh5
    refine f_seq fun K6 kh6 => ?_
    refine f_region ?_
    refine f_stepP rfl rfl rfl (o_assign rfl) ?_
    refine f_done ?_
    refine f_tn (kh6 _ _ ?_)
    clear kh6
    refine f_seq fun K7 kh7 => ?_
    refine f_region ?_
    refine f_stepP rfl rfl rfl (o_assign rfl) ?_
    refine f_done ?_
    refine f_tn (kh7 _ _ ?_)
    clear kh7
    refine f_seq fun K8 kh8 => ?_
    refine f_seq fun K9 kh9 => ?_
    refine f_region ?_
    refine f_stepP rfl rfl rfl (o_assign rfl) ?_
    refine f_done ?_
    refine f_tn (kh9 _ _ ?_)
    clear kh9
    refine f_block ?_
    refine f_loop (α := Nat × Value × Seg) [0, 5] (fun ⟨a, vo, mo⟩ => [(6, .int .i64 (a : Int)), (4, vo)]) (fun ⟨a, vo, mo⟩ => [[(bn, blk [.slice Au R.up.length cu, .slice Al R.lts.length cl, .slice At_ R.tim.length ct, .int .i64 (R.clk + 1)] 78)], mu, ml, mt, mo]) (fun ⟨a, vo, mo⟩ => a ≤ R.up.length ∧ Own 41 3 vo (due2 R a 0).length ((due2 R a 0).flatMap timCs) mo) (fun ⟨a, vo, mo⟩ => R.up.length - a) (0, .slice none 0 0, []) ?_ ?_ ?_ ?_
    · exact (by repeat (first | exact trivial | refine ⟨rfl, ?_⟩))
    · repeat (first | exact Sub.nil | refine Sub.pick ?_ | refine Sub.castO rfl ?_ | refine Sub.skip ?_)
    · exact ⟨by omega, by rw [due2_zero]; exact Own.nil _ _⟩
    · rintro ⟨a, vo, mo⟩ ⟨han, ho1⟩
      refine f_seq fun K10 kh10 => ?_
      refine f_seq fun K11 kh11 => ?_
      refine f_region ?_
      refine f_stepP rfl rfl rfl (o_move rfl) ?_
      refine f_stepP rfl rfl rfl (o_move rfl) ?_
      refine f_stepP rfl rfl rfl (o_nil rfl) ?_
      refine f_stepP rfl rfl rfl (o_field fa78_0 rfl) ?_
      refine f_stepP rfl rfl rfl (o_load Try.isAgg56 rfl (rdA rfl)) ?_
      refine f_stepP rfl rfl rfl (o_len sl56 rfl) ?_
      refine f_stepP rfl rfl rfl (o_lss rfl rfl) ?_
      refine f_done ?_
      refine f_tn (kh11 _ _ ?_)
      clear kh11
      refine f_cond rfl (fun c27 => ?_) (fun c27 => ?_)
      · skip
        refine f_skip ?_
        refine f_tn (kh10 _ _ ?_)
        clear kh10
        refine f_seq fun K12 kh12 => ?_
        refine f_block ?_
        refine f_seq fun K13 kh13 => ?_
        refine f_region ?_
        refine f_stepP rfl rfl rfl (o_assign rfl) ?_
        refine f_done ?_
        refine f_tn (kh13 _ _ ?_)
        clear kh13
        refine f_block ?_
        refine f_loop (α := Nat × Value × Seg) [0, 5, 6] (fun ⟨i, vo2, mo2⟩ => [(7, .int .i64 (i : Int)), (4, vo2)]) (fun ⟨i, vo2, mo2⟩ => [[(bn, blk [.slice Au R.up.length cu, .slice Al R.lts.length cl, .slice At_ R.tim.length ct, .int .i64 (R.clk + 1)] 78)], mu, ml, mt, mo2]) (fun ⟨i, vo2, mo2⟩ => i ≤ R.tim.length ∧ Own 41 3 vo2 (due2 R a i).length ((due2 R a i).flatMap timCs) mo2) (fun ⟨i, vo2, mo2⟩ => R.tim.length - i) (0, vo, mo) ?_ ?_ ?_ ?_
        · exact (by repeat (first | exact trivial | refine ⟨rfl, ?_⟩))
        · repeat (first | exact Sub.nil | refine Sub.pick ?_ | refine Sub.castO rfl ?_ | refine Sub.skip ?_)
        · exact ⟨by omega, ho1⟩
        · rintro ⟨i, vo2, mo2⟩ ⟨hil, ho2⟩
          have hdl := due2_len R a i
          have hdm : a * R.tim.length ≤ 65 * 16384 := Nat.mul_le_mul (by omega) htl
          refine f_seq fun K14 kh14 => ?_
          refine f_seq fun K15 kh15 => ?_
          refine f_region ?_
          refine f_stepP rfl rfl rfl (o_move rfl) ?_
          refine f_stepP rfl rfl rfl (o_move rfl) ?_
          refine f_stepP rfl rfl rfl (o_nil rfl) ?_
          refine f_stepP rfl rfl rfl (o_field fa78_2 rfl) ?_
          refine f_stepP rfl rfl rfl (o_load Try.isAgg36 rfl (rdA rfl)) ?_
          refine f_stepP rfl rfl rfl (o_len sl36 rfl) ?_
          refine f_stepP rfl rfl rfl (o_lss rfl rfl) ?_
          refine f_done ?_
          refine f_tn (kh15 _ _ ?_)
          clear kh15
          refine f_cond rfl (fun c36 => ?_) (fun c36 => ?_)
          · skip
            have hi : i < R.tim.length := by omega
            obtain ⟨bt, spt, rfl, rfl⟩ := hA.tim.at_ (by omega)
            refine f_skip ?_
            refine f_tn (kh14 _ _ ?_)
            clear kh14
            refine f_seq fun K16 kh16 => ?_
            refine f_block ?_
            refine f_seq fun K17 kh17 => ?_
            refine f_regionH [[(bn, blk [.slice Au R.up.length cu, .slice Al R.lts.length cl, .slice (some ⟨bt, 0, none⟩) R.tim.length ct, .int .i64 (R.clk + 1)] 78)], [(bt, blk (R.tim.flatMap timCs ++ spt) 41)]] rfl ?_
            refine f_take 0 rfl (by decide +kernel) rfl rfl rfl (by repeat (first | exact Sub.nil | refine Sub.pick ?_ | refine Sub.castO rfl ?_ | refine Sub.skip ?_)) (o_move rfl) ?_
            refine f_take 1 rfl (by decide +kernel) rfl rfl rfl (by repeat (first | exact Sub.nil | refine Sub.pick ?_ | refine Sub.castO rfl ?_ | refine Sub.skip ?_)) (o_nil rfl) ?_
            refine f_take 2 rfl (by decide +kernel) rfl rfl rfl (by repeat (first | exact Sub.nil | refine Sub.pick ?_ | refine Sub.castO rfl ?_ | refine Sub.skip ?_)) (o_field fa78_2 rfl) ?_
            refine f_take 3 rfl (by decide +kernel) rfl rfl rfl (by repeat (first | exact Sub.nil | refine Sub.pick ?_ | refine Sub.castO rfl ?_ | refine Sub.skip ?_)) (o_load Try.isAgg36 rfl (rdA rfl)) ?_
            refine f_take 4 rfl (by decide +kernel) rfl rfl rfl (by repeat (first | exact Sub.nil | refine Sub.pick ?_ | refine Sub.castO rfl ?_ | refine Sub.skip ?_)) (o_move rfl) ?_
            refine f_take 5 rfl (by decide +kernel) rfl rfl rfl (by repeat (first | exact Sub.nil | refine Sub.pick ?_ | refine Sub.castO rfl ?_ | refine Sub.skip ?_)) (o_idx sl36 rfl rfl (i * 3) ⟨by omega, by omega, by first | omega | (simp; done) | (simp; omega)⟩) ?_
            refine f_take 6 rfl (by decide +kernel) rfl rfl rfl (by repeat (first | exact Sub.nil | refine Sub.pick ?_ | refine Sub.castO rfl ?_ | refine Sub.skip ?_)) (o_field fa41_0 rfl) ?_
            refine f_take 7 rfl (by decide +kernel) rfl rfl rfl (by repeat (first | exact Sub.nil | refine Sub.pick ?_ | refine Sub.castO rfl ?_ | refine Sub.skip ?_)) (o_load Try.isAgg3 rfl (rdOwn timCs_len hi rfl)) ?_
            refine f_take 8 rfl (by decide +kernel) rfl rfl rfl (by repeat (first | exact Sub.nil | refine Sub.pick ?_ | refine Sub.castO rfl ?_ | refine Sub.skip ?_)) (o_move rfl) ?_
            refine f_take 9 rfl (by decide +kernel) rfl rfl rfl (by repeat (first | exact Sub.nil | refine Sub.pick ?_ | refine Sub.castO rfl ?_ | refine Sub.skip ?_)) (o_eql rfl rfl) ?_
            refine f_take 10 rfl (by decide +kernel) rfl rfl rfl (by repeat (first | exact Sub.nil | refine Sub.pick ?_ | refine Sub.castO rfl ?_ | refine Sub.skip ?_)) (o_move rfl) ?_
            refine f_splitH 49 rfl (fun g49 => ?_) (fun g49 => ?_)
            · skip
              refine f_takeY 11 rfl (by decide +kernel) rfl rfl rfl rfl rfl (by repeat (first | exact Sub.nil | refine Sub.pick ?_ | refine Sub.castO rfl ?_ | refine Sub.skip ?_)) (o_move rfl) ?_
              refine f_takeY 12 rfl (by decide +kernel) rfl rfl rfl rfl rfl (by repeat (first | exact Sub.nil | refine Sub.pick ?_ | refine Sub.castO rfl ?_ | refine Sub.skip ?_)) (o_nil rfl) ?_
              refine f_takeY 13 rfl (by decide +kernel) rfl rfl rfl rfl rfl (by repeat (first | exact Sub.nil | refine Sub.pick ?_ | refine Sub.castO rfl ?_ | refine Sub.skip ?_)) (o_field fa78_2 rfl) ?_
              refine f_takeY 14 rfl (by decide +kernel) rfl rfl rfl rfl rfl (by repeat (first | exact Sub.nil | refine Sub.pick ?_ | refine Sub.castO rfl ?_ | refine Sub.skip ?_)) (o_load Try.isAgg36 rfl (rdA rfl)) ?_
              refine f_takeY 15 rfl (by decide +kernel) rfl rfl rfl rfl rfl (by repeat (first | exact Sub.nil | refine Sub.pick ?_ | refine Sub.castO rfl ?_ | refine Sub.skip ?_)) (o_move rfl) ?_
              refine f_takeY 16 rfl (by decide +kernel) rfl rfl rfl rfl rfl (by repeat (first | exact Sub.nil | refine Sub.pick ?_ | refine Sub.castO rfl ?_ | refine Sub.skip ?_)) (o_idx sl36 rfl rfl (i * 3) ⟨by omega, by omega, by first | omega | (simp; done) | (simp; omega)⟩) ?_
              refine f_takeY 17 rfl (by decide +kernel) rfl rfl rfl rfl rfl (by repeat (first | exact Sub.nil | refine Sub.pick ?_ | refine Sub.castO rfl ?_ | refine Sub.skip ?_)) (o_field fa41_1 rfl) ?_
              refine f_takeY 18 rfl (by decide +kernel) rfl rfl rfl rfl rfl (by repeat (first | exact Sub.nil | refine Sub.pick ?_ | refine Sub.castO rfl ?_ | refine Sub.skip ?_)) (o_load Try.isAgg3 rfl (rdOwn timCs_len hi rfl)) ?_
              refine f_takeY 19 rfl (by decide +kernel) rfl rfl rfl rfl rfl (by repeat (first | exact Sub.nil | refine Sub.pick ?_ | refine Sub.castO rfl ?_ | refine Sub.skip ?_)) (o_move rfl) ?_
              refine f_takeY 20 rfl (by decide +kernel) rfl rfl rfl rfl rfl (by repeat (first | exact Sub.nil | refine Sub.pick ?_ | refine Sub.castO rfl ?_ | refine Sub.skip ?_)) (o_nil rfl) ?_
              refine f_takeY 21 rfl (by decide +kernel) rfl rfl rfl rfl rfl (by repeat (first | exact Sub.nil | refine Sub.pick ?_ | refine Sub.castO rfl ?_ | refine Sub.skip ?_)) (o_field fa78_3 rfl) ?_
              refine f_takeY 22 rfl (by decide +kernel) rfl rfl rfl rfl rfl (by repeat (first | exact Sub.nil | refine Sub.pick ?_ | refine Sub.castO rfl ?_ | refine Sub.skip ?_)) (o_load Try.isAgg3 rfl (rdA rfl)) ?_
              refine f_takeY 23 rfl (by decide +kernel) rfl rfl rfl rfl rfl (by repeat (first | exact Sub.nil | refine Sub.pick ?_ | refine Sub.castO rfl ?_ | refine Sub.skip ?_)) (o_eql rfl rfl) ?_
              refine f_take 24 rfl (by decide +kernel) rfl rfl rfl (by repeat (first | exact Sub.nil | refine Sub.pick ?_ | refine Sub.castO rfl ?_ | refine Sub.skip ?_)) (o_pickT rfl rfl) ?_
              refine f_over (by decide +kernel) ?_
              refine f_tn (kh17 _ _ ?_)
              clear kh17
              refine f_cond rfl (fun c63 => ?_) (fun c63 => ?_)
              · skip
                refine f_region ?_
                refine f_stepP rfl rfl rfl (o_move rfl) ?_
                refine f_stepP rfl rfl rfl (o_move rfl) ?_
                refine f_stepP rfl rfl rfl (o_nil rfl) ?_
                refine f_stepP rfl rfl rfl (o_field fa78_2 rfl) ?_
                refine f_stepP rfl rfl rfl (o_load Try.isAgg36 rfl (rdA rfl)) ?_
                refine f_stepP rfl rfl rfl (o_move rfl) ?_
                refine f_stepP rfl rfl rfl (o_idx sl36 rfl rfl (i * 3) ⟨by omega, by omega, by first | omega | (simp; done) | (simp; omega)⟩) ?_
                refine f_stepP rfl rfl rfl (o_loadA (vs := timCs R.tim[i]) Try.isAgg41 Try.sizeOf41 rfl rfl (rdsOwn timCs_len hi)) ?_
                refine f_step rfl rfl rfl (o_slice1 el36 (by omega) rfl rfl rfl fun b72 => ?_)
                refine f_step rfl rfl rfl (o_append el36 rfl rfl ho2 (ys := timCs R.tim[i]) ⟨(rdA rfl), (rdA rfl), (rdA rfl), trivial⟩ rfl rfl (by omega) (by omega) fun v73 m73 o73 => ?_)
                refine f_stepP rfl rfl rfl (o_assign rfl) ?_
                refine f_done ?_
                refine f_bn ?_
                refine f_tn (kh16 _ _ ?_)
                clear kh16
                refine f_region ?_
                refine f_stepP rfl rfl rfl (o_move rfl) ?_
                refine f_stepP rfl rfl rfl (o_add rfl rfl _ (wrap_i64 (by omega))) ?_
                refine f_stepP rfl rfl rfl (o_assign rfl) ?_
                refine f_done ?_
                refine f_tn (f_again (i + 1, v73, m73) (by first | omega | (dsimp only; omega) | (simp; omega)) ⟨by omega, by rw [due2_step R a hi, if_pos (by simp [dueP, g49, c63]), List.length_append, List.flatMap_append]; simpa using o73⟩ ?_ ?_ ?_)
                · exact (by repeat (first | exact trivial | refine ⟨rfl, ?_⟩))
                · exact (by repeat (first | exact trivial | refine ⟨rfl, ?_⟩))
                · repeat (first | exact Sub.nil | refine Sub.pick ?_ | refine Sub.castO rfl ?_ | refine Sub.skip ?_)
              · skip
                refine f_skip ?_
                refine f_bn ?_
                refine f_tn (kh16 _ _ ?_)
                clear kh16
                refine f_region ?_
                refine f_stepP rfl rfl rfl (o_move rfl) ?_
                refine f_stepP rfl rfl rfl (o_add rfl rfl _ (wrap_i64 (by omega))) ?_
                refine f_stepP rfl rfl rfl (o_assign rfl) ?_
                refine f_done ?_
                refine f_tn (f_again (i + 1, vo2, mo2) (by first | omega | (dsimp only; omega) | (simp; omega)) ⟨by omega, by rw [due2_step R a hi, if_neg (by simp [dueP, c63]), List.append_nil]; exact ho2⟩ ?_ ?_ ?_)
                · exact (by repeat (first | exact trivial | refine ⟨rfl, ?_⟩))
                · exact (by repeat (first | exact trivial | refine ⟨rfl, ?_⟩))
                · repeat (first | exact Sub.nil | refine Sub.pick ?_ | refine Sub.castO rfl ?_ | refine Sub.skip ?_)
            · skip
              refine f_takeN 11 rfl (by decide +kernel) rfl rfl rfl rfl rfl rfl (by repeat (first | exact Sub.nil | refine Sub.pick ?_ | refine Sub.castO rfl ?_ | refine Sub.skip ?_)) ?_
              refine f_takeN 12 rfl (by decide +kernel) rfl rfl rfl rfl rfl rfl (by repeat (first | exact Sub.nil | refine Sub.pick ?_ | refine Sub.castO rfl ?_ | refine Sub.skip ?_)) ?_
              refine f_takeN 13 rfl (by decide +kernel) rfl rfl rfl rfl rfl rfl (by repeat (first | exact Sub.nil | refine Sub.pick ?_ | refine Sub.castO rfl ?_ | refine Sub.skip ?_)) ?_
              refine f_takeN 14 rfl (by decide +kernel) rfl rfl rfl rfl rfl rfl (by repeat (first | exact Sub.nil | refine Sub.pick ?_ | refine Sub.castO rfl ?_ | refine Sub.skip ?_)) ?_
              refine f_takeN 15 rfl (by decide +kernel) rfl rfl rfl rfl rfl rfl (by repeat (first | exact Sub.nil | refine Sub.pick ?_ | refine Sub.castO rfl ?_ | refine Sub.skip ?_)) ?_
              refine f_takeN 16 rfl (by decide +kernel) rfl rfl rfl rfl rfl rfl (by repeat (first | exact Sub.nil | refine Sub.pick ?_ | refine Sub.castO rfl ?_ | refine Sub.skip ?_)) ?_
              refine f_takeN 17 rfl (by decide +kernel) rfl rfl rfl rfl rfl rfl (by repeat (first | exact Sub.nil | refine Sub.pick ?_ | refine Sub.castO rfl ?_ | refine Sub.skip ?_)) ?_
              refine f_takeN 18 rfl (by decide +kernel) rfl rfl rfl rfl rfl rfl (by repeat (first | exact Sub.nil | refine Sub.pick ?_ | refine Sub.castO rfl ?_ | refine Sub.skip ?_)) ?_
              refine f_takeN 19 rfl (by decide +kernel) rfl rfl rfl rfl rfl rfl (by repeat (first | exact Sub.nil | refine Sub.pick ?_ | refine Sub.castO rfl ?_ | refine Sub.skip ?_)) ?_
              refine f_takeN 20 rfl (by decide +kernel) rfl rfl rfl rfl rfl rfl (by repeat (first | exact Sub.nil | refine Sub.pick ?_ | refine Sub.castO rfl ?_ | refine Sub.skip ?_)) ?_
              refine f_takeN 21 rfl (by decide +kernel) rfl rfl rfl rfl rfl rfl (by repeat (first | exact Sub.nil | refine Sub.pick ?_ | refine Sub.castO rfl ?_ | refine Sub.skip ?_)) ?_
              refine f_takeN 22 rfl (by decide +kernel) rfl rfl rfl rfl rfl rfl (by repeat (first | exact Sub.nil | refine Sub.pick ?_ | refine Sub.castO rfl ?_ | refine Sub.skip ?_)) ?_
              refine f_takeN 23 rfl (by decide +kernel) rfl rfl rfl rfl rfl rfl (by repeat (first | exact Sub.nil | refine Sub.pick ?_ | refine Sub.castO rfl ?_ | refine Sub.skip ?_)) ?_
              refine f_take 24 rfl (by decide +kernel) rfl rfl rfl (by repeat (first | exact Sub.nil | refine Sub.pick ?_ | refine Sub.castO rfl ?_ | refine Sub.skip ?_)) (o_pickF rfl rfl) ?_
              refine f_over (by decide +kernel) ?_
              refine f_tn (kh17 _ _ ?_)
              clear kh17
              refine f_condF rfl ?_
              refine f_skip ?_
              refine f_bn ?_
              refine f_tn (kh16 _ _ ?_)
              clear kh16
              refine f_region ?_
              refine f_stepP rfl rfl rfl (o_move rfl) ?_
              refine f_stepP rfl rfl rfl (o_add rfl rfl _ (wrap_i64 (by omega))) ?_
              refine f_stepP rfl rfl rfl (o_assign rfl) ?_
              refine f_done ?_
              refine f_tn (f_again (i + 1, vo2, mo2) (by first | omega | (dsimp only; omega) | (simp; omega)) ⟨by omega, by rw [due2_step R a hi, if_neg (by simp [dueP, g49]), List.append_nil]; exact ho2⟩ ?_ ?_ ?_)
              · exact (by repeat (first | exact trivial | refine ⟨rfl, ?_⟩))
              · exact (by repeat (first | exact trivial | refine ⟨rfl, ?_⟩))
              · repeat (first | exact Sub.nil | refine Sub.pick ?_ | refine Sub.castO rfl ?_ | refine Sub.skip ?_)
          · skip
            refine f_exit ?_
            refine f_te ?_
            clear kh14
            refine f_te ?_
            refine f_be ?_
            refine f_bn ?_
            refine f_tn (kh12 _ _ ?_)
            clear kh12
            refine f_region ?_
            refine f_stepP rfl rfl rfl (o_move rfl) ?_
            refine f_stepP rfl rfl rfl (o_add rfl rfl _ (wrap_i64 (by omega))) ?_
            refine f_stepP rfl rfl rfl (o_assign rfl) ?_
            refine f_done ?_
            refine f_tn (f_again (a + 1, vo2, mo2) (by first | omega | (dsimp only; omega) | (simp; omega)) ⟨by omega, by rw [due2_row]; rw [show i = R.tim.length by omega] at ho2; exact ho2⟩ ?_ ?_ ?_)
            · exact (by repeat (first | exact trivial | refine ⟨rfl, ?_⟩))
            · exact (by repeat (first | exact trivial | refine ⟨rfl, ?_⟩))
            · repeat (first | exact Sub.nil | refine Sub.pick ?_ | refine Sub.castO rfl ?_ | refine Sub.skip ?_)
      · skip
        refine f_exit ?_
        refine f_te ?_
        clear kh10
        refine f_te ?_
        refine f_be ?_
        refine f_tn (kh8 _ _ ?_)
        clear kh8
        refine f_seq fun K18 kh18 => ?_
        refine f_seq fun K19 kh19 => ?_
        obtain rfl : a = R.up.length := by omega
        rw [due2_all] at ho1
        refine f_region ?_
        refine f_stepP rfl rfl rfl (o_assign rfl) ?_
        refine f_done ?_
        refine f_tn (kh19 _ _ ?_)
        clear kh19
        refine f_block ?_
        refine f_loop (α := Nat × Value × Seg) [0, 4] (fun ⟨i, vl, mv⟩ => [(8, .int .i64 (i : Int)), (5, vl)]) (fun ⟨i, vl, mv⟩ => [[(bn, blk [.slice Au R.up.length cu, .slice Al R.lts.length cl, .slice At_ R.tim.length ct, .int .i64 (R.clk + 1)] 78)], mu, ml, mt, mo, mv]) (fun ⟨i, vl, mv⟩ => i ≤ R.tim.length ∧ Own 41 3 vl ((R.tim.take i).filter fun t => !decide (t.2.1 = R.clk + 1)).length (((R.tim.take i).filter fun t => !decide (t.2.1 = R.clk + 1)).flatMap timCs) mv) (fun ⟨i, vl, mv⟩ => R.tim.length - i) (0, .slice none 0 0, []) ?_ ?_ ?_ ?_
        · exact (by repeat (first | exact trivial | refine ⟨rfl, ?_⟩))
        · repeat (first | exact Sub.nil | refine Sub.pick ?_ | refine Sub.castO rfl ?_ | refine Sub.skip ?_)
        · exact ⟨by omega, Own.nil _ _⟩
        · rintro ⟨i, vl, mv⟩ ⟨hil, ho3⟩
          have hfl : ((R.tim.take i).filter fun t => !decide (t.2.1 = R.clk + 1)).length ≤ 16384 := Nat.le_trans (List.length_filter_le _ _) (by rw [List.length_take]; omega)
          refine f_seq fun K20 kh20 => ?_
          refine f_seq fun K21 kh21 => ?_
          refine f_region ?_
          refine f_stepP rfl rfl rfl (o_move rfl) ?_
          refine f_stepP rfl rfl rfl (o_move rfl) ?_
          refine f_stepP rfl rfl rfl (o_nil rfl) ?_
          refine f_stepP rfl rfl rfl (o_field fa78_2 rfl) ?_
          refine f_stepP rfl rfl rfl (o_load Try.isAgg36 rfl (rdA rfl)) ?_
          refine f_stepP rfl rfl rfl (o_len sl36 rfl) ?_
          refine f_stepP rfl rfl rfl (o_lss rfl rfl) ?_
          refine f_done ?_
          refine f_tn (kh21 _ _ ?_)
          clear kh21
          refine f_cond rfl (fun c80 => ?_) (fun c80 => ?_)
          · skip
            have hi : i < R.tim.length := by omega
            obtain ⟨bt, spt, rfl, rfl⟩ := hA.tim.at_ (by omega)
            refine f_skip ?_
            refine f_tn (kh20 _ _ ?_)
            clear kh20
            refine f_seq fun K22 kh22 => ?_
            refine f_block ?_
            refine f_seq fun K23 kh23 => ?_
            refine f_regionH [[(bn, blk [.slice Au R.up.length cu, .slice Al R.lts.length cl, .slice (some ⟨bt, 0, none⟩) R.tim.length ct, .int .i64 (R.clk + 1)] 78)], [(bt, blk (R.tim.flatMap timCs ++ spt) 41)]] rfl ?_
            refine f_take 0 rfl (by decide +kernel) rfl rfl rfl (by repeat (first | exact Sub.nil | refine Sub.pick ?_ | refine Sub.castO rfl ?_ | refine Sub.skip ?_)) (o_move rfl) ?_
            refine f_take 1 rfl (by decide +kernel) rfl rfl rfl (by repeat (first | exact Sub.nil | refine Sub.pick ?_ | refine Sub.castO rfl ?_ | refine Sub.skip ?_)) (o_nil rfl) ?_
            refine f_take 2 rfl (by decide +kernel) rfl rfl rfl (by repeat (first | exact Sub.nil | refine Sub.pick ?_ | refine Sub.castO rfl ?_ | refine Sub.skip ?_)) (o_field fa78_2 rfl) ?_
            refine f_take 3 rfl (by decide +kernel) rfl rfl rfl (by repeat (first | exact Sub.nil | refine Sub.pick ?_ | refine Sub.castO rfl ?_ | refine Sub.skip ?_)) (o_load Try.isAgg36 rfl (rdA rfl)) ?_
            refine f_take 4 rfl (by decide +kernel) rfl rfl rfl (by repeat (first | exact Sub.nil | refine Sub.pick ?_ | refine Sub.castO rfl ?_ | refine Sub.skip ?_)) (o_move rfl) ?_
            refine f_take 5 rfl (by decide +kernel) rfl rfl rfl (by repeat (first | exact Sub.nil | refine Sub.pick ?_ | refine Sub.castO rfl ?_ | refine Sub.skip ?_)) (o_idx sl36 rfl rfl (i * 3) ⟨by omega, by omega, by first | omega | (simp; done) | (simp; omega)⟩) ?_
            refine f_take 6 rfl (by decide +kernel) rfl rfl rfl (by repeat (first | exact Sub.nil | refine Sub.pick ?_ | refine Sub.castO rfl ?_ | refine Sub.skip ?_)) (o_field fa41_1 rfl) ?_
            refine f_take 7 rfl (by decide +kernel) rfl rfl rfl (by repeat (first | exact Sub.nil | refine Sub.pick ?_ | refine Sub.castO rfl ?_ | refine Sub.skip ?_)) (o_load Try.isAgg3 rfl (rdOwn timCs_len hi rfl)) ?_
            refine f_take 8 rfl (by decide +kernel) rfl rfl rfl (by repeat (first | exact Sub.nil | refine Sub.pick ?_ | refine Sub.castO rfl ?_ | refine Sub.skip ?_)) (o_move rfl) ?_
            refine f_take 9 rfl (by decide +kernel) rfl rfl rfl (by repeat (first | exact Sub.nil | refine Sub.pick ?_ | refine Sub.castO rfl ?_ | refine Sub.skip ?_)) (o_nil rfl) ?_
            refine f_take 10 rfl (by decide +kernel) rfl rfl rfl (by repeat (first | exact Sub.nil | refine Sub.pick ?_ | refine Sub.castO rfl ?_ | refine Sub.skip ?_)) (o_field fa78_3 rfl) ?_
            refine f_take 11 rfl (by decide +kernel) rfl rfl rfl (by repeat (first | exact Sub.nil | refine Sub.pick ?_ | refine Sub.castO rfl ?_ | refine Sub.skip ?_)) (o_load Try.isAgg3 rfl (rdA rfl)) ?_
            refine f_take 12 rfl (by decide +kernel) rfl rfl rfl (by repeat (first | exact Sub.nil | refine Sub.pick ?_ | refine Sub.castO rfl ?_ | refine Sub.skip ?_)) (o_neq rfl rfl) ?_
            refine f_over (by decide +kernel) ?_
            refine f_tn (kh23 _ _ ?_)
            clear kh23
            refine f_cond rfl (fun c95 => ?_) (fun c95 => ?_)
            · skip
              refine f_region ?_
              refine f_stepP rfl rfl rfl (o_move rfl) ?_
              refine f_stepP rfl rfl rfl (o_move rfl) ?_
              refine f_stepP rfl rfl rfl (o_nil rfl) ?_
              refine f_stepP rfl rfl rfl (o_field fa78_2 rfl) ?_
              refine f_stepP rfl rfl rfl (o_load Try.isAgg36 rfl (rdA rfl)) ?_
              refine f_stepP rfl rfl rfl (o_move rfl) ?_
              refine f_stepP rfl rfl rfl (o_idx sl36 rfl rfl (i * 3) ⟨by omega, by omega, by first | omega | (simp; done) | (simp; omega)⟩) ?_
              refine f_stepP rfl rfl rfl (o_loadA (vs := timCs R.tim[i]) Try.isAgg41 Try.sizeOf41 rfl rfl (rdsOwn timCs_len hi)) ?_
              refine f_step rfl rfl rfl (o_slice1 el36 (by omega) rfl rfl rfl fun b104 => ?_)
              refine f_step rfl rfl rfl (o_append el36 rfl rfl ho3 (ys := timCs R.tim[i]) ⟨(rdA rfl), (rdA rfl), (rdA rfl), trivial⟩ rfl rfl (by omega) (by omega) fun v105 m105 o105 => ?_)
              refine f_stepP rfl rfl rfl (o_assign rfl) ?_
              refine f_done ?_
              refine f_bn ?_
              refine f_tn (kh22 _ _ ?_)
              clear kh22
              refine f_region ?_
              refine f_stepP rfl rfl rfl (o_move rfl) ?_
              refine f_stepP rfl rfl rfl (o_add rfl rfl _ (wrap_i64 (by omega))) ?_
              refine f_stepP rfl rfl rfl (o_assign rfl) ?_
              refine f_done ?_
              refine f_tn (f_again (i + 1, v105, m105) (by first | omega | (dsimp only; omega) | (simp; omega)) ⟨by omega, by rw [filt_next hi, if_pos (by simpa using c95), List.length_append, List.flatMap_append]; simpa using o105⟩ ?_ ?_ ?_)
              · exact (by repeat (first | exact trivial | refine ⟨rfl, ?_⟩))
              · exact (by repeat (first | exact trivial | refine ⟨rfl, ?_⟩))
              · repeat (first | exact Sub.nil | refine Sub.pick ?_ | refine Sub.castO rfl ?_ | refine Sub.skip ?_)
            · skip
              refine f_skip ?_
              refine f_bn ?_
              refine f_tn (kh22 _ _ ?_)
              clear kh22
              refine f_region ?_
              refine f_stepP rfl rfl rfl (o_move rfl) ?_
              refine f_stepP rfl rfl rfl (o_add rfl rfl _ (wrap_i64 (by omega))) ?_
              refine f_stepP rfl rfl rfl (o_assign rfl) ?_
              refine f_done ?_
              refine f_tn (f_again (i + 1, vl, mv) (by first | omega | (dsimp only; omega) | (simp; omega)) ⟨by omega, by rw [filt_next hi, if_neg (by simpa using c95), List.append_nil]; exact ho3⟩ ?_ ?_ ?_)
              · exact (by repeat (first | exact trivial | refine ⟨rfl, ?_⟩))
              · exact (by repeat (first | exact trivial | refine ⟨rfl, ?_⟩))
              · repeat (first | exact Sub.nil | refine Sub.pick ?_ | refine Sub.castO rfl ?_ | refine Sub.skip ?_)
          · skip
            refine f_exit ?_
            refine f_te ?_
            clear kh20
            refine f_te ?_
            refine f_be ?_
            refine f_tn (kh18 _ _ ?_)
            clear kh18
            refine f_seq fun K24 kh24 => ?_
            obtain rfl : i = R.tim.length := by omega
            rw [List.take_length] at ho3
            obtain ⟨Av, cv, rfl, _⟩ := ho3.val
            refine f_region ?_
            refine f_stepP rfl rfl rfl (o_move rfl) ?_
            refine f_stepP rfl rfl rfl (o_move rfl) ?_
            refine f_stepP rfl rfl rfl (o_nil rfl) ?_
            refine f_stepP rfl rfl rfl (o_field fa78_2 rfl) ?_
            refine f_step0 rfl rfl (o_store Try.sizeOf36 rfl rfl rfl rfl (by first | exact Nat.le_of_ble_eq_true rfl | (simp; done) | (simp; omega)) [.slice Au R.up.length cu, .slice Al R.lts.length cl, .slice Av (R.tim.filter fun t => !decide (t.2.1 = R.clk + 1)).length cv, .int .i64 (R.clk + 1)] rfl ?_)
            refine f_done ?_
            refine f_tn (kh24 _ _ ?_)
            clear kh24
            refine f_seq fun K25 kh25 => ?_
            refine f_region ?_
            refine f_stepP rfl rfl rfl (o_move rfl) ?_
            refine f_stepP rfl rfl rfl (o_assign rfl) ?_
            refine f_stepP rfl rfl rfl (o_assign rfl) ?_
            refine f_done ?_
            refine f_tn (kh25 _ _ ?_)
            clear kh25
            refine f_ret ?_
            have e : R.tick = ((R.due, 0), { R with clk := R.clk + 1, tim := R.tim.filter fun t => !decide (t.2.1 = R.clk + 1) }) := if_neg (by omega)
            rw [e]
            exact f_fin2 [(rSegs { R with clk := R.clk + 1, tim := R.tim.filter fun t => !decide (t.2.1 = R.clk + 1) } bn (.slice Au R.up.length cu) (.slice Al R.lts.length cl) (.slice Av (R.tim.filter fun t => !decide (t.2.1 = R.clk + 1)).length cv) mu ml mv).flatten, mo] Try.results49 rfl rfl (Sub.flat2 (by repeat (first | exact Sub.nil | refine Sub.pick ?_))) ⟨_, _, _, rfl, rfl, RNet.mk (RAt.clock (R := { R with tim := R.tim.filter fun t => !decide (t.2.1 = R.clk + 1) }) (hA.tims ho3 (Nat.le_trans (List.length_filter_le _ _) htl)) (by omega)), ho1⟩

end Go.Proofs.Ytbkneamjpiiepaa
