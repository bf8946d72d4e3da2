/- The net's law NetDue. -/
import Derived.Test.YtbkneamjpiiepaaFNetL
import Derived.Test.YtbkneamjpiiepaaFNet2
namespace Go.Proofs.Ytbkneamjpiiepaa
open Go Go.RowKit Fly
set_option linter.unusedVariables false
set_option linter.unusedSimpArgs false


set_option maxRecDepth 100000 in
theorem eqTim (x y : T3) (w : World) : (Op.equalIn 10000 41 (.agg (timCs x).toArray) (.agg (timCs y).toArray)).run Try.prog w = .ok (decide (x = y)) w := by
  have hf : Try.prog.fieldsOf 41 = (match Try.prog.underlying 41 with | some (.struct fs) => fs | _ => #[]) := rfl
  rw [Try.underlying41] at hf
  rw [run_equalIn_struct (P := Try.prog) w 9999 41 _ _ (by rw [hf]; exact Try.underlying41) Try.stoodInHeld41, hf]
  obtain ⟨a, b, c⟩ := x
  obtain ⟨a', b', c'⟩ := y
  have ii : ∀ (k k' : IntKind) (p q : Int) (T : TypeId) (v : World), Try.prog.underlying T = some (.int k') → (Op.equalIn 9999 T (.int k p) (.int k q)).run Try.prog v = .ok (p == q) v := fun k k' p q T v h => run_equalIn_int v 9998 T k k' p q h
  simp only [Op.eqFields, timCs, part, Sem.run_bind, Sem.run_ite, Try.isAgg3, Result.andThen_ok, Sem.run_pure, ne_eq, Bool.false_eq_true, if_false]
  simp [ii _ _ _ _ _ _ Try.underlying3]
  by_cases h1 : a = a' <;> by_cases h2 : b = b' <;> by_cases h3 : c = c' <;> simp [h1, h2, h3]
/-- The net of the law when its clock shows k. -/
def dst (at_ tag k : Int) : NetM := ⟨[true, false], fun _ => [], if k < at_ then [(1, at_, tag)] else [], k⟩
def ddue (at_ tag k : Int) : List T3 := if k + 1 = at_ then [(1, at_, tag)] else []
theorem byNode_one {x : T3} (h : 0 ≤ x.1 ∧ x.1 < 65) : byNode [x] = [x] := List.perm_singleton.1 (byNode_len fun t ht => by simp at ht; subst ht; exact h)
theorem byNode_nil : byNode [] = [] := List.perm_nil.1 (byNode_len fun t ht => by simp at ht)
theorem dst_tick {at_ tag k : Int} (hk : k < 1073741824) : (dst at_ tag k).tick = ((ddue at_ tag k, 0), dst at_ tag (k + 1)) := by
  have h0 : ¬ 1073741824 ≤ (dst at_ tag k).now := by show ¬ (1073741824 : Int) ≤ k; omega
  have h1 : (dst at_ tag k).due = ddue at_ tag k := by
    show (if k < at_ then [((1 : Int), at_, tag)] else []).filter (fun t => decide (t.2.1 = k + 1)) = ddue at_ tag k
    unfold ddue
    by_cases h : k < at_
    · by_cases h' : k + 1 = at_
      · rw [if_pos h, if_pos h']; simp; omega
      · rw [if_pos h, if_neg h']; simp; omega
    · have : ¬ k + 1 = at_ := by omega
      rw [if_neg h, if_neg this]; rfl
  have h2 : byNode (ddue at_ tag k) = ddue at_ tag k := by
    unfold ddue; split
    · exact byNode_one ⟨by simp, by simp⟩
    · exact byNode_nil
  unfold NetM.tick
  rw [if_neg h0, h1, h2]
  congr 1
  unfold dst
  by_cases h : k < at_
  · by_cases h' : k + 1 = at_
    · subst h'; simp
    · have e : k + 1 < at_ := by omega
      simp [h, e]; omega
  · have e : ¬ k + 1 < at_ := by omega
    simp [h, e]
theorem dst_start {at_ tag : Int} (h1 : 1 ≤ at_ ∧ at_ ≤ 1073741824) : ((NetM.new 2).setT 1 at_ tag).1 = 0 ∧ (((NetM.new 2).setT 1 at_ tag).2.setT 0 at_ tag).1 = 0 ∧ ((((NetM.new 2).setT 1 at_ tag).2.setT 0 at_ tag).2.setT 1 0 tag) = (1, (((NetM.new 2).setT 1 at_ tag).2.setT 0 at_ tag).2) ∧ ((((NetM.new 2).setT 1 at_ tag).2.setT 0 at_ tag).2.goDown 0) = (0, dst at_ tag 0) := by
  have e1 : (NetM.new 2).setT 1 at_ tag = (0, { NetM.new 2 with timers := [(1, at_, tag)] }) := by
    rw [NetM.setT, if_neg (by simp [NetM.Non, NetM.new]), if_neg (by simp [NetM.isDown, NetM.new]), if_neg (by simp [NetM.new]; omega), if_neg (by simp [NetM.new])]; rfl
  have e2 : ({ NetM.new 2 with timers := [(1, at_, tag)] } : NetM).setT 0 at_ tag = (0, { NetM.new 2 with timers := [(1, at_, tag), (0, at_, tag)] }) := by
    rw [NetM.setT, if_neg (by simp [NetM.Non, NetM.new]), if_neg (by simp [NetM.isDown, NetM.new]), if_neg (by simp [NetM.new]; omega), if_neg (by simp)]; rfl
  rw [e1, e2]
  refine ⟨rfl, rfl, ?_, ?_⟩
  · rw [NetM.setT, if_neg (by simp [NetM.Non, NetM.new]), if_neg (by simp [NetM.isDown, NetM.new]), if_pos (by simp [NetM.new])]
  · have ht : ({ NetM.new 2 with timers := [(1, at_, tag), (0, at_, tag)] } : NetM).turn 0 true = (0, { NetM.new 2 with timers := [(1, at_, tag), (0, at_, tag)], down := [true, false] }) := by
      rw [NetM.turn, if_neg (by simp [NetM.Non, NetM.new]), if_neg (by simp [NetM.isDown, NetM.new])]; rfl
    unfold NetM.goDown
    rw [ht, if_neg (by simp)]
    unfold dst NetM.new
    have : (0 : Int) < at_ := by omega
    simp [this]
theorem ddue_len {at_ tag k : Int} : decide (((ddue at_ tag k).length : Int) = 1) = decide (k + 1 = at_) ∧ (ddue at_ tag k).length ≤ 1 := by
  unfold ddue; split <;> rename_i h <;> simp [h]
theorem tmod_rng (x n : Int) (hn : 0 < n) : -n < x.tmod n ∧ x.tmod n < n := by
  have h1 := Int.tmod_lt_of_pos x hn
  refine ⟨?_, h1⟩
  have := Int.tmod_lt_of_pos (-x) hn
  rw [Int.neg_tmod] at this; omega

set_option maxRecDepth 100000 in
set_option maxHeartbeats 4000000 in
theorem among_spec (x n : Int) (w : World) (hn : 0 < n ∧ n ≤ 1000) :
    Meets Try.prog 13 [.int .i64 x, .int .i64 n] w [] (fun u m => (∃ r, u = .int .i64 r ∧ 0 ≤ r ∧ r < n) ∧ m = []) := by
  have hr := tmod_rng x n hn.1
  have hr2 : 0 ≤ (x.tmod n + n).tmod n := Int.tmod_nonneg n (by omega)
  have hr3 := Int.tmod_lt_of_pos (x.tmod n + n) hn.1
  refine f_enter Try.func13 rfl Try.ntmps13 rfl Owns.nil ?_
  refine f_seq fun K1 kh1 => ?_
  refine f_region ?_
  refine f_stepP rfl rfl rfl (o_assign rfl) ?_
  refine f_done ?_
  refine f_tn (kh1 _ _ ?_)
  clear kh1
  refine f_seq fun K2 kh2 => ?_
  refine f_region ?_
  refine f_stepP rfl rfl rfl (o_move rfl) ?_
  refine f_stepP rfl rfl rfl (o_move rfl) ?_
  refine f_stepP rfl rfl rfl (o_rem rfl rfl (by omega) _ rfl) ?_
  refine f_stepP rfl rfl rfl (o_move rfl) ?_
  refine f_stepP rfl rfl rfl (o_add rfl rfl _ (wrap_i64 (by omega))) ?_
  refine f_stepP rfl rfl rfl (o_move rfl) ?_
  refine f_stepP rfl rfl rfl (o_rem rfl rfl (by omega) _ rfl) ?_
  refine f_stepP rfl rfl rfl (o_assign rfl) ?_
  refine f_done ?_
  refine f_tn (kh2 _ _ ?_)
  clear kh2
  refine f_ret ?_
  exact f_fin1 [] Try.results13 rfl Sub.nil ⟨⟨_, rfl, hr2, hr3⟩, rfl⟩

set_option maxRecDepth 100000 in
set_option maxHeartbeats 4000000 in
theorem NetDue_spec (x t y : Int) (w : World) :
    Meets Try.prog 5 [.int .i64 x, .int .i64 t, .int .i64 y] w [] (fun u m => u = .bool true ∧ m = []) := by
  refine f_enter Try.func5 rfl Try.ntmps5 rfl Owns.nil ?_
  refine f_seq fun K1 kh1 => ?_
  refine f_region ?_
  refine f_stepP rfl rfl rfl (o_assign rfl) ?_
  refine f_done ?_
  refine f_tn (kh1 _ _ ?_)
  clear kh1
  refine f_seq fun K2 kh2 => ?_
  refine f_region ?_
  refine f_step rfl rfl rfl (o_call Try.call8 rfl (fun w_ hp_ => New_spec 2 w_) ?_)
  rintro _ _ hnew
  rw [if_pos ⟨by omega, by omega⟩] at hnew
  obtain ⟨bn, m0, rfl, rfl, hN0⟩ := hnew
  dsimp only [List.cons_append, List.nil_append]
  refine f_stepP rfl rfl rfl (o_move rfl) ?_
  refine f_stepP rfl rfl rfl (o_extract rfl rfl) ?_
  refine f_stepP rfl rfl rfl (o_extract rfl rfl) ?_
  refine f_stepP rfl rfl rfl (o_assign rfl) ?_
  refine f_stepP rfl rfl rfl (o_assign rfl) ?_
  refine f_done ?_
  refine f_tn (kh2 _ _ ?_)
  clear kh2
  refine f_seq fun K3 kh3 => ?_
  refine f_seq fun K4 kh4 => ?_
  refine f_region ?_
  refine f_stepP rfl rfl rfl (o_move rfl) ?_
  refine f_stepP rfl rfl rfl (o_eqlN (by kernel_rfl) rfl rfl) ?_
  refine f_stepP rfl rfl rfl (o_move rfl) ?_
  refine f_stepPY rfl rfl rfl rfl rfl (o_move rfl) ?_
  refine f_stepPY rfl rfl rfl rfl rfl (o_neq rfl rfl) ?_
  refine f_stepP rfl rfl rfl (o_pickF rfl rfl) ?_
  refine f_stepP rfl rfl rfl (o_move rfl) ?_
  refine f_falseL 22 rfl (by decide +kernel) ?_
  refine f_stepY rfl rfl rfl rfl rfl (o_call Try.call9 rfl (fun w_ hp_ => works_spec w_) ?_)
  rintro _ _ ⟨rfl, rfl⟩
  dsimp only [List.cons_append, List.nil_append]
  refine f_stepPY rfl rfl rfl rfl rfl (o_not rfl) ?_
  refine f_stepP rfl rfl rfl (o_pickF rfl rfl) ?_
  refine f_done ?_
  refine f_tn (kh4 _ _ ?_)
  clear kh4
  refine f_condF rfl ?_
  refine f_skip ?_
  refine f_tn (kh3 _ _ ?_)
  clear kh3
  refine f_seq fun K5 kh5 => ?_
  refine f_region ?_
  refine f_stepP rfl rfl rfl (o_move rfl) ?_
  refine f_step rfl rfl rfl (o_call Try.call13 rfl (fun w_ hp_ => among_spec x 40 w_ (by decide)) ?_)
  rintro _ _ ⟨⟨r1, rfl, hr10, hr11⟩, rfl⟩
  obtain ⟨at_, hat⟩ : ∃ at_ : Int, at_ = 1 + r1 := ⟨_, rfl⟩
  dsimp only [List.cons_append, List.nil_append]
  skip
  refine f_stepP rfl rfl rfl (o_add rfl rfl _ (show IntKind.i64.wrap (1 + r1) = at_ from by rw [wrap_i64 (by omega)]; omega)) ?_
  refine f_stepP rfl rfl rfl (o_move rfl) ?_
  refine f_step rfl rfl rfl (o_call Try.call13 rfl (fun w_ hp_ => among_spec y 60 w_ (by decide)) ?_)
  rintro _ _ ⟨⟨tk_, rfl, ht0, ht1⟩, rfl⟩
  obtain ⟨hs1, hs2, hs3, hs4⟩ := dst_start (at_ := at_) (tag := t) ⟨by omega, by omega⟩
  dsimp only [List.cons_append, List.nil_append]
  refine f_stepP rfl rfl rfl (o_assign rfl) ?_
  refine f_stepP rfl rfl rfl (o_assign rfl) ?_
  refine f_done ?_
  refine f_tn (kh5 _ _ ?_)
  clear kh5
  refine f_seq fun K6 kh6 => ?_
  refine f_seq fun K7 kh7 => ?_
  refine f_region ?_
  refine f_stepP rfl rfl rfl (o_move rfl) ?_
  refine f_stepP rfl rfl rfl (o_move rfl) ?_
  refine f_stepP rfl rfl rfl (o_move rfl) ?_
  refine f_step rfl rfl rfl (o_callM [m0] _ Try.call14 rfl (Sub.pick (Sub.refl)) (fun w_ hp_ => Set_spec (NetM.new 2) bn m0 1 at_ t w_ hN0 hp_.owns) ?_)
  rintro _ _ ⟨rfl, m1, rfl, hN1⟩
  rw [hs1]
  dsimp only [List.cons_append, List.nil_append]
  refine f_stepP rfl rfl rfl (o_neq rfl rfl) ?_
  refine f_stepP rfl rfl rfl (o_move rfl) ?_
  refine f_falseL 36 rfl (by simp) ?_
  refine f_stepPY rfl rfl rfl rfl rfl (o_move rfl) ?_
  refine f_stepPY rfl rfl rfl rfl rfl (o_move rfl) ?_
  refine f_stepPY rfl rfl rfl rfl rfl (o_move rfl) ?_
  refine f_stepY rfl rfl rfl rfl rfl (o_callM [m1] _ Try.call14 rfl (Sub.pick (Sub.refl)) (fun w_ hp_ => Set_spec ((NetM.new 2).setT 1 at_ t).2 bn m1 0 at_ t w_ hN1 hp_.owns) ?_)
  rintro _ _ ⟨rfl, m2, rfl, hN2⟩
  rw [hs2]
  dsimp only [List.cons_append, List.nil_append]
  refine f_stepPY rfl rfl rfl rfl rfl (o_neq rfl rfl) ?_
  refine f_stepP rfl rfl rfl (o_pickF rfl rfl) ?_
  refine f_stepP rfl rfl rfl (o_move rfl) ?_
  refine f_falseL 43 rfl (by simp) ?_
  refine f_stepPY rfl rfl rfl rfl rfl (o_move rfl) ?_
  refine f_stepPY rfl rfl rfl rfl rfl (o_move rfl) ?_
  refine f_stepY rfl rfl rfl rfl rfl (o_callM [m2] _ Try.call14 rfl (Sub.pick (Sub.refl)) (fun w_ hp_ => Set_spec (((NetM.new 2).setT 1 at_ t).2.setT 0 at_ t).2 bn m2 1 0 t w_ hN2 hp_.owns) ?_)
  rintro _ _ ⟨rfl, m3, rfl, hN3⟩
  rw [hs3] at hN3 ⊢
  dsimp only [List.cons_append, List.nil_append]
  refine f_stepPY rfl rfl rfl rfl rfl (o_neq rfl rfl) ?_
  refine f_stepP rfl rfl rfl (o_pickF rfl rfl) ?_
  refine f_stepP rfl rfl rfl (o_move rfl) ?_
  refine f_falseL 49 rfl (by simp) ?_
  refine f_stepPY rfl rfl rfl rfl rfl (o_move rfl) ?_
  refine f_stepY rfl rfl rfl rfl rfl (o_callM [m3] _ Try.call15 rfl (Sub.pick (Sub.refl)) (fun w_ hp_ => Down_spec (((NetM.new 2).setT 1 at_ t).2.setT 0 at_ t).2 bn m3 0 w_ hN3 hp_.owns) ?_)
  rintro _ _ ⟨rfl, m4, rfl, hN4⟩
  rw [hs4] at hN4 ⊢
  dsimp only [List.cons_append, List.nil_append]
  refine f_stepPY rfl rfl rfl rfl rfl (o_neq rfl rfl) ?_
  refine f_stepP rfl rfl rfl (o_pickF rfl rfl) ?_
  refine f_done ?_
  refine f_tn (kh7 _ _ ?_)
  clear kh7
  refine f_condN rfl (by simp) ?_
  refine f_skip ?_
  refine f_tn (kh6 _ _ ?_)
  clear kh6
  refine f_seq fun K8 kh8 => ?_
  refine f_seq fun K9 kh9 => ?_
  refine f_region ?_
  refine f_stepP rfl rfl rfl (o_assign rfl) ?_
  refine f_done ?_
  refine f_tn (kh9 _ _ ?_)
  clear kh9
  refine f_block ?_
  refine f_loop (α := Nat × Seg) [0, 1, 2, 7] (fun ⟨i, m5⟩ => [(9, .int .i64 (i : Int))]) (fun ⟨i, m5⟩ => [m5]) (fun ⟨i, m5⟩ => 1 ≤ i ∧ i ≤ 61 ∧ NetRep (dst at_ t ((i : Int) - 1)) bn m5) (fun ⟨i, m5⟩ => 61 - i) (1, m4) ?_ ?_ ?_ ?_
  · exact (by repeat (first | exact trivial | refine ⟨rfl, ?_⟩))
  · repeat (first | exact Sub.nil | refine Sub.pick ?_ | refine Sub.castO rfl ?_ | refine Sub.skip ?_)
  · exact ⟨by decide, by decide, hN4⟩
  · rintro ⟨i, m5⟩ ⟨hi1, hi61, hN5⟩
    refine f_seq fun K10 kh10 => ?_
    refine f_seq fun K11 kh11 => ?_
    refine f_region ?_
    refine f_stepP rfl rfl rfl (o_move rfl) ?_
    refine f_stepP rfl rfl rfl (o_move rfl) ?_
    refine f_stepP rfl rfl rfl (o_leq rfl rfl) ?_
    refine f_done ?_
    refine f_tn (kh11 _ _ ?_)
    clear kh11
    refine f_cond rfl (fun c56 => ?_) (fun c56 => ?_)
    · skip
      refine f_skip ?_
      refine f_tn (kh10 _ _ ?_)
      clear kh10
      refine f_seq fun K12 kh12 => ?_
      refine f_block ?_
      refine f_seq fun K13 kh13 => ?_
      refine f_region ?_
      refine f_stepP rfl rfl rfl (o_move rfl) ?_
      refine f_step rfl rfl rfl (o_callM [m5] _ Try.call16 rfl (Sub.pick (Sub.refl)) (fun w_ hp_ => Tick_spec (dst at_ t (i - 1)) bn m5 w_ hN5 hp_.owns) ?_)
      rintro _ _ ⟨s, ms, m6, rfl, rfl, hN6, hos⟩
      rw [dst_tick (by omega)] at hN6 hos ⊢
      rw [show (i : Int) - 1 + 1 = i by omega] at hN6
      obtain ⟨As, cs, rfl, _⟩ := hos.val
      obtain ⟨hdl, hdl1⟩ := ddue_len (at_ := at_) (tag := t) (k := (i : Int) - 1)
      rw [show (i : Int) - 1 + 1 = i by omega] at hdl
      dsimp only [List.cons_append, List.nil_append]
      refine f_stepP rfl rfl rfl (o_move rfl) ?_
      refine f_stepP rfl rfl rfl (o_extract rfl rfl) ?_
      refine f_stepP rfl rfl rfl (o_extract rfl rfl) ?_
      refine f_stepP rfl rfl rfl (o_assign rfl) ?_
      refine f_stepP rfl rfl rfl (o_assign rfl) ?_
      refine f_done ?_
      refine f_tn (kh13 _ _ ?_)
      clear kh13
      refine f_seq fun K14 kh14 => ?_
      refine f_seq fun K15 kh15 => ?_
      refine f_region ?_
      refine f_stepP rfl rfl rfl (o_move rfl) ?_
      refine f_stepP rfl rfl rfl (o_neq rfl rfl) ?_
      refine f_stepP rfl rfl rfl (o_move rfl) ?_
      refine f_falseL 66 rfl (by simp) ?_
      refine f_stepPY rfl rfl rfl rfl rfl (o_move rfl) ?_
      refine f_stepY rfl rfl rfl rfl rfl (o_callM [m6] _ Try.call17 rfl (Sub.pick Sub.refl) (fun w_ hp_ => Now_spec (dst at_ t i) bn m6 w_ hN6 hp_.owns) ?_)
      rintro _ _ ⟨rfl, rfl⟩
      dsimp only [List.cons_append, List.nil_append]
      refine f_stepPY rfl rfl rfl rfl rfl (o_move rfl) ?_
      refine f_stepPY rfl rfl rfl rfl rfl (o_neq rfl rfl) ?_
      refine f_stepP rfl rfl rfl (o_pickF rfl rfl) ?_
      refine f_stepP rfl rfl rfl (o_move rfl) ?_
      refine f_falseL 72 rfl (by show ¬ ((i : Int) ≠ i); simp) ?_
      refine f_stepPY rfl rfl rfl rfl rfl (o_move rfl) ?_
      refine f_stepPY rfl rfl rfl rfl rfl (o_len sl36 rfl) ?_
      refine f_stepPY rfl rfl rfl rfl rfl (o_eql rfl rfl) ?_
      refine f_stepPY rfl rfl rfl rfl rfl (o_move rfl) ?_
      refine f_stepPY rfl rfl rfl rfl rfl (o_move rfl) ?_
      refine f_stepPY rfl rfl rfl rfl rfl (o_eql rfl rfl) ?_
      refine f_stepPY rfl rfl rfl rfl rfl (o_neqB Try.underlying4 rfl rfl) ?_
      refine f_stepP rfl rfl rfl (o_pickF rfl rfl) ?_
      refine f_stepP rfl rfl rfl (o_move rfl) ?_
      refine f_falseL 81 rfl (by rw [show decide (((ddue at_ t ((i : Int) - 1)).length : Int) = 1) = decide ((i : Int) = at_) from hdl]; simp) ?_
      refine f_stepPY rfl rfl rfl rfl rfl (o_move rfl) ?_
      refine f_stepPY rfl rfl rfl rfl rfl (o_len sl36 rfl) ?_
      refine f_stepPY rfl rfl rfl rfl rfl (o_gtr rfl rfl) ?_
      refine f_stepP rfl rfl rfl (o_pickF rfl rfl) ?_
      refine f_done ?_
      refine f_tn (kh15 _ _ ?_)
      clear kh15
      refine f_condN rfl (by omega) ?_
      refine f_skip ?_
      refine f_tn (kh14 _ _ ?_)
      clear kh14
      refine f_seq fun K16 kh16 => ?_
      refine f_region ?_
      refine f_stepP rfl rfl rfl (o_move rfl) ?_
      refine f_stepP rfl rfl rfl (o_len sl36 rfl) ?_
      refine f_stepP rfl rfl rfl (o_eql rfl rfl) ?_
      refine f_stepP rfl rfl rfl (o_move rfl) ?_
      refine f_splitL 89 rfl (fun g89 => ?_) (fun g89 => ?_)
      · skip
        obtain ⟨hlen1⟩ : Nonempty ((ddue at_ t ((i : Int) - 1)).length = 1) := ⟨by omega⟩
        have hdd : ddue at_ t ((i : Int) - 1) = [(1, at_, t)] := by
          unfold ddue at hlen1 ⊢; split
          · rfl
          · rename_i h; rw [if_neg h] at hlen1; simp at hlen1
        rw [hdd] at hos
        obtain ⟨bs, sps, rfl, rfl⟩ := hos.at_ (by simp)
        refine f_stepPY rfl rfl rfl rfl rfl (o_move rfl) ?_
        refine f_stepPY rfl rfl rfl rfl rfl (o_idx sl36 rfl rfl 0 ⟨by simp, by rw [hdd]; simp, rfl⟩) ?_
        refine f_stepPY rfl rfl rfl rfl rfl (o_loadA (vs := timCs (1, at_, t)) Try.isAgg41 Try.sizeOf41 rfl rfl (rdsOwn timCs_len (l := [(1, at_, t)]) (k := 0) (by simp))) ?_
        refine f_stepPY rfl rfl rfl rfl rfl (o_move rfl) ?_
        refine f_stepPY rfl rfl rfl rfl rfl (o_move rfl) ?_
        refine f_stepPY rfl rfl rfl rfl rfl (o_build (cs := timCs (1, at_, t)) st41 rfl rfl) ?_
        refine f_stepPY rfl rfl rfl rfl rfl (o_neqA Try.eqGuardType41 (eqTim (1, at_, t) (1, at_, t)) rfl rfl) ?_
        refine f_stepP rfl rfl rfl (o_pickT rfl rfl) ?_
        refine f_done ?_
        refine f_tn (kh16 _ _ ?_)
        clear kh16
        refine f_condN rfl (by simp) ?_
        refine f_skip ?_
        refine f_bn ?_
        refine f_tn (kh12 _ _ ?_)
        clear kh12
        refine f_region ?_
        refine f_stepP rfl rfl rfl (o_move rfl) ?_
        refine f_stepP rfl rfl rfl (o_add rfl rfl _ (wrap_i64 (by omega))) ?_
        refine f_stepP rfl rfl rfl (o_assign rfl) ?_
        refine f_done ?_
        refine f_tn (f_again (i + 1, m6) (by first | omega | (dsimp only; omega) | (simp; omega)) ⟨by omega, by omega, by rw [show ((i + 1 : Nat) : Int) - 1 = i by omega]; exact hN6⟩ ?_ ?_ ?_)
        · exact (by repeat (first | exact trivial | refine ⟨rfl, ?_⟩))
        · exact (by repeat (first | exact trivial | refine ⟨rfl, ?_⟩))
        · repeat (first | exact Sub.nil | refine Sub.pick ?_ | refine Sub.castO rfl ?_ | refine Sub.skip ?_)
      · skip
        refine f_stepN rfl rfl rfl rfl rfl rfl ?_
        refine f_stepN rfl rfl rfl rfl rfl rfl ?_
        refine f_stepN rfl rfl rfl rfl rfl rfl ?_
        refine f_stepN rfl rfl rfl rfl rfl rfl ?_
        refine f_stepN rfl rfl rfl rfl rfl rfl ?_
        refine f_stepN rfl rfl rfl rfl rfl rfl ?_
        refine f_stepN rfl rfl rfl rfl rfl rfl ?_
        refine f_stepP rfl rfl rfl (o_pickF rfl rfl) ?_
        refine f_done ?_
        refine f_tn (kh16 _ _ ?_)
        clear kh16
        refine f_condF rfl ?_
        refine f_skip ?_
        refine f_bn ?_
        refine f_tn (kh12 _ _ ?_)
        clear kh12
        refine f_region ?_
        refine f_stepP rfl rfl rfl (o_move rfl) ?_
        refine f_stepP rfl rfl rfl (o_add rfl rfl _ (wrap_i64 (by omega))) ?_
        refine f_stepP rfl rfl rfl (o_assign rfl) ?_
        refine f_done ?_
        refine f_tn (f_again (i + 1, m6) (by first | omega | (dsimp only; omega) | (simp; omega)) ⟨by omega, by omega, by rw [show ((i + 1 : Nat) : Int) - 1 = i by omega]; exact hN6⟩ ?_ ?_ ?_)
        · exact (by repeat (first | exact trivial | refine ⟨rfl, ?_⟩))
        · exact (by repeat (first | exact trivial | refine ⟨rfl, ?_⟩))
        · repeat (first | exact Sub.nil | refine Sub.pick ?_ | refine Sub.castO rfl ?_ | refine Sub.skip ?_)
    · skip
      refine f_exit ?_
      refine f_te ?_
      clear kh10
      refine f_te ?_
      refine f_be ?_
      refine f_tn (kh8 _ _ ?_)
      clear kh8
      refine f_seq fun K17 kh17 => ?_
      refine f_region ?_
      refine f_stepP rfl rfl rfl (o_assign rfl) ?_
      refine f_done ?_
      refine f_tn (kh17 _ _ ?_)
      clear kh17
      refine f_ret ?_
      exact f_fin1 [] Try.results5 rfl Sub.nil ⟨rfl, rfl⟩

end Go.Proofs.Ytbkneamjpiiepaa
