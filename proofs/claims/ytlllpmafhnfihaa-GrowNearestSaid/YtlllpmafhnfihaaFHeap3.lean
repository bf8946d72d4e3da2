/- The heap's functions, by the table of the keys. -/
import Derived.Test.YtlllpmafhnfihaaFHeap2
namespace Go.Proofs.Ytlllpmafhnfihaa
open Go Go.RowKit Fly
set_option linter.unusedVariables false
set_option linter.unusedSimpArgs false


abbrev hsegs (bH bT bA N : Nat) (sl : Value) (m : Seg) (at_ : List Int) : List Seg := [(bH, blk [.pointer (some ⟨bT, 0, none⟩)] 108)] :: tsegs bT bA N sl m at_
structure HAt (T : List (Option Int)) (A : Option Addr) (cap : Nat) (m : Seg) (l : List Ent) (at_ : List Int) : Prop where
  own : Own 106 2 (.slice A l.length cap) l.length (l.flatMap entCs) m
  hok : HOk l at_
  len : at_.length = T.length
  full : Full l l.length
  tab : HT T l
  max : T.length ≤ 16384
theorem HAt.small {T : List (Option Int)} {A : Option Addr} {cap : Nat} {m : Seg} {l : List Ent} {at_ : List Int} (h : HAt T A cap m l at_) : l.length ≤ T.length := by rw [h.tab.count]; exact tcount_le T
/-- A heap in memory. -/
def HRep (T : List (Option Int)) (bH : Nat) (hm : Seg) : Prop := ∃ bT bA A cap l m at_, hm.Perm (hsegs bH bT bA T.length (.slice A l.length cap) m at_).flatten ∧ HAt T A cap m l at_
theorem HRep_mk {T : List (Option Int)} {bH bT bA N cap : Nat} {A : Option Addr} {l : List Ent} {m : Seg} {at_ : List Int} (hN : N = T.length) (h : HAt T A cap m l at_) : HRep T bH (hsegs bH bT bA N (.slice A l.length cap) m at_).flatten := by
  subst hN; exact ⟨bT, bA, A, cap, l, m, at_, List.Perm.refl _, h⟩
theorem HRep.max {T : List (Option Int)} {bH : Nat} {hm : Seg} (h : HRep T bH hm) : T.length ≤ 16384 := by obtain ⟨_, _, _, _, _, _, _, _, h⟩ := h; exact h.max
theorem HAt.init (n : Nat) (hn : n ≤ 16384) : HAt (List.replicate n none) none 0 [] [] (List.replicate n (-1)) :=
  ⟨Own.nil _ _, ⟨fun i h => absurd h (Nat.not_lt_zero _), fun k h => .inl (by rw [List.getElem?_replicate, if_pos (by simpa using h)])⟩, by simp, fun c _ h => by simp at h, HT.nil n, by simpa using hn⟩
theorem HAt.pushed {T : List (Option Int)} {A A' : Option Addr} {cap cap' : Nat} {m m' : Seg} {l l' : List Ent} {at_ at' : List Int} {e : Ent} (h : HAt T A cap m l at_) (he : T[e.id]? = some none) (ho : Own 106 2 (.slice A' (l ++ [e]).length cap') l'.length (l'.flatMap entCs) m') (hH : HOk l' at') (hN : at'.length = T.length)
    (hp : l'.Perm (l ++ [e])) (hF : Full l' (l ++ [e]).length) : HAt (T.set e.id (some e.key)) A' cap' m' l' at' where
  own := by rw [hp.length_eq] at ho ⊢; exact ho
  hok := hH
  len := by rw [hN]; simp
  full := by rw [hp.length_eq]; exact hF
  tab := (h.tab.add he).perm (hp.trans (List.perm_append_comm (l₂ := [e])))
  max := by rw [List.length_set]; exact h.max
theorem HAt.fixed {T : List (Option Int)} {A : Option Addr} {cap : Nat} {m m' : Seg} {l l' : List Ent} {at_ at' : List Int} {i : Nat} {x : Int} (h : HAt T A cap m l at_) (hi : i < l.length) (ho : Own 106 2 (.slice A (l.set i ⟨(eg l i).id, x⟩).length cap) l'.length (l'.flatMap entCs) m') (hH : HOk l' at') (hN : at'.length = T.length)
    (hp : l'.Perm (l.set i ⟨(eg l i).id, x⟩)) (hF : Full l' (l.set i ⟨(eg l i).id, x⟩).length) : HAt (T.set (eg l i).id (some x)) A cap m' l' at' where
  own := by rw [hp.length_eq] at ho ⊢; exact ho
  hok := hH
  len := by rw [hN]; simp
  full := by rw [hp.length_eq]; exact hF
  tab := (h.tab.key hi x).perm hp
  max := by rw [List.length_set]; exact h.max
theorem HAt.cut {T : List (Option Int)} {A : Option Addr} {cap : Nat} {m m' : Seg} {l l2 : List Ent} {at_ at' : List Int} {e : Ent} (h : HAt T A cap m l at_) (ho : Own 106 2 (.slice A l2.length cap) l2.length (l2.flatMap entCs) m') (hH : HOk l2 at') (hN : at'.length = T.length)
    (hF : Full l2 l2.length) (hp : (e :: l2).Perm l) : HAt (T.set e.id none) A cap m' l2 at' where
  own := ho
  hok := hH
  len := by rw [hN]; simp
  full := hF
  tab := (h.tab.perm hp).cut
  max := by rw [List.length_set]; exact h.max
theorem HAt.top {T : List (Option Int)} {A : Option Addr} {cap : Nat} {m : Seg} {l : List Ent} {at_ : List Int} (h : HAt T A cap m l at_) (h0 : 0 < l.length) : topR T = some ((eg l 0).id, (eg l 0).key) := (h.tab.top h.full h0).topR
theorem HAt.none {T : List (Option Int)} {A : Option Addr} {cap : Nat} {m : Seg} {l : List Ent} {at_ : List Int} (h : HAt T A cap m l at_) (h0 : l.length = 0) : topR T = .none := topR_none (by rw [← h.tab.count]; exact h0)
/-- Where a number stands: nowhere, or there. -/
theorem HAt.where_ {T : List (Option Int)} {A : Option Addr} {cap : Nat} {m : Seg} {l : List Ent} {at_ : List Int} (h : HAt T A cap m l at_) {k : Nat} (hk : k < T.length) :
    ∃ x : Int, at_[k]? = some x ∧ ((x < 0 → x = -1 ∧ T[k]? = some .none) ∧ (0 ≤ x → x.toNat < l.length ∧ (eg l x.toNat).id = k ∧ T[k]? = some (some (eg l x.toNat).key))) := by
  rcases h.hok.h2 k (by rw [h.len]; exact hk) with e | ⟨i, hi, e, eid⟩
  · exact ⟨-1, e, fun _ => ⟨rfl, h.tab.at_none h.hok h.len e⟩, fun h => by omega⟩
  · exact ⟨i, e, fun h => by omega, fun _ => ⟨by omega, by simpa using eid, by have := h.tab.len hi; rw [eid] at this; simpa using this⟩⟩
theorem lower_out {T : List (Option Int)} {id key : Int} (h : ¬ (0 ≤ id ∧ id < T.length)) : lowerR T id key = (T, false, 5) := if_neg h
theorem lower_new {T : List (Option Int)} {k : Nat} {key : Int} (hk : k < T.length) (h : T[k]? = some .none) : lowerR T (k : Int) key = (T.set k (some key), true, 0) := by
  unfold lowerR; rw [if_pos (by omega), Int.toNat_natCast, h]
theorem lower_no {T : List (Option Int)} {k : Nat} {key x : Int} (hk : k < T.length) (h : T[k]? = some (some x)) (hx : x ≤ key) : lowerR T (k : Int) key = (T, false, 0) := by
  unfold lowerR; rw [if_pos (by omega), Int.toNat_natCast, h]; simp [hx]
theorem lower_yes {T : List (Option Int)} {k : Nat} {key x : Int} (hk : k < T.length) (h : T[k]? = some (some x)) (hx : ¬ x ≤ key) : lowerR T (k : Int) key = (T.set k (some key), true, 0) := by
  unfold lowerR; rw [if_pos (by omega), Int.toNat_natCast, h]; simp [hx]
theorem drop_out {T : List (Option Int)} {id : Int} (h : ¬ (0 ≤ id ∧ id < T.length)) : dropR T id = (T, false, 5) := if_neg h
theorem drop_no {T : List (Option Int)} {k : Nat} (hk : k < T.length) (h : T[k]? = some .none) : dropR T (k : Int) = (T, false, 0) := by
  unfold dropR; rw [if_pos (by omega), Int.toNat_natCast, h]
theorem drop_yes {T : List (Option Int)} {k : Nat} {x : Int} (hk : k < T.length) (h : T[k]? = some (some x)) : dropR T (k : Int) = (T.set k .none, true, 0) := by
  unfold dropR; rw [if_pos (by omega), Int.toNat_natCast, h]
theorem key_out {T : List (Option Int)} {id : Int} (h : ¬ (0 ≤ id ∧ id < T.length)) : keyA T id = (0, false, 5) := if_neg h
theorem key_no {T : List (Option Int)} {k : Nat} (hk : k < T.length) (h : T[k]? = some .none) : keyA T (k : Int) = (0, false, 0) := by
  unfold keyA; rw [if_pos (by omega), Int.toNat_natCast, h]
theorem key_yes {T : List (Option Int)} {k : Nat} {x : Int} (hk : k < T.length) (h : T[k]? = some (some x)) : keyA T (k : Int) = (x, true, 0) := by
  unfold keyA; rw [if_pos (by omega), Int.toNat_natCast, h]
theorem topA_some {T : List (Option Int)} {k : Nat} {x : Int} (h : topR T = some (k, x)) : topA T = ((k : Int), x, 0) := by unfold topA; rw [h]
theorem topA_none {T : List (Option Int)} (h : topR T = .none) : topA T = (0, 0, 5) := by unfold topA; rw [h]
theorem popT_some {T : List (Option Int)} {k : Nat} {x : Int} (h : topR T = some (k, x)) : popT T = T.set k .none := by unfold popT; rw [h]
theorem popT_none {T : List (Option Int)} (h : topR T = .none) : popT T = T := by unfold popT; rw [h]

set_option maxRecDepth 100000 in
set_option maxHeartbeats 4000000 in
theorem has_spec (T : List (Option Int)) (bH : Nat) (hm : Seg) (id : Int) (w : World) (hH : HRep T bH hm) (hw : Owns w [hm]) : Meets Try.prog 67 [.pointer (some ⟨bH, 0, none⟩), .int .i64 id] w [hm] (fun u own' => u = .bool (decide (0 ≤ id ∧ id < T.length)) ∧ own' = [hm]) := by
  refine f_enter Try.func67 rfl Try.ntmps67 rfl hw ?_
  obtain ⟨bT, bA, A, cap, l, m, at_, hm', hA⟩ := hH
  refine f_subC (Sub.permF hm') ?_
  unfold hsegs tsegs
  have hsm := hA.small
  have hmx := hA.max
  have hcp := own_cap hA.own
  refine f_seq fun K1 kh1 => ?_
  refine f_region ?_
  refine f_stepP rfl rfl rfl (o_assign rfl) ?_
  refine f_done ?_
  refine f_tn (kh1 _ _ ?_)
  clear kh1
  refine f_seq fun K2 kh2 => ?_
  refine f_region ?_
  refine f_stepP rfl rfl rfl (o_move rfl) ?_
  refine f_stepP rfl rfl rfl (o_geq rfl rfl) ?_
  refine f_stepP rfl rfl rfl (o_move rfl) ?_
  refine f_splitL 7 rfl (fun g7 => ?_) (fun g7 => ?_)
  · skip
    refine f_stepPY rfl rfl rfl rfl rfl (o_move rfl) ?_
    refine f_stepPY rfl rfl rfl rfl rfl (o_move rfl) ?_
    refine f_stepPY rfl rfl rfl rfl rfl (o_nil rfl) ?_
    refine f_stepPY rfl rfl rfl rfl rfl (o_field fa108_0 rfl) ?_
    refine f_stepPY rfl rfl rfl rfl rfl (o_load Try.isAgg100 rfl (rdA rfl)) ?_
    refine f_stepPY rfl rfl rfl rfl rfl (o_nil rfl) ?_
    refine f_stepPY rfl rfl rfl rfl rfl (o_field fa104_1 rfl) ?_
    refine f_stepPY rfl rfl rfl rfl rfl (o_load Try.isAgg28 rfl (rdA rfl)) ?_
    refine f_stepPY rfl rfl rfl rfl rfl (o_len sl28 rfl) ?_
    refine f_stepPY rfl rfl rfl rfl rfl (o_lss rfl rfl) ?_
    refine f_stepP rfl rfl rfl (o_pickT rfl rfl) ?_
    refine f_stepP rfl rfl rfl (o_assign rfl) ?_
    refine f_done ?_
    refine f_tn (kh2 _ _ ?_)
    clear kh2
    refine f_ret ?_
    exact f_fin1 [hm] Try.results67 rfl (Sub.transF (b := (hsegs bH bT bA T.length (.slice A l.length cap) m at_)) (by unfold hsegs; unfold tsegs; repeat (first | exact Sub.nil | refine Sub.pick ?_ | refine Sub.castO rfl ?_)) ⟨[], by simpa using hm'.symm⟩) ⟨by congr 1; exact decide_eq_decide.2 ⟨fun h => ⟨by omega, h⟩, fun h => h.2⟩, rfl⟩
  · skip
    refine f_stepN rfl rfl rfl rfl rfl rfl ?_
    refine f_stepN rfl rfl rfl rfl rfl rfl ?_
    refine f_stepN rfl rfl rfl rfl rfl rfl ?_
    refine f_stepN rfl rfl rfl rfl rfl rfl ?_
    refine f_stepN rfl rfl rfl rfl rfl rfl ?_
    refine f_stepN rfl rfl rfl rfl rfl rfl ?_
    refine f_stepN rfl rfl rfl rfl rfl rfl ?_
    refine f_stepN rfl rfl rfl rfl rfl rfl ?_
    refine f_stepN rfl rfl rfl rfl rfl rfl ?_
    refine f_stepN rfl rfl rfl rfl rfl rfl ?_
    refine f_stepP rfl rfl rfl (o_pickF rfl rfl) ?_
    refine f_stepP rfl rfl rfl (o_assign rfl) ?_
    refine f_done ?_
    refine f_tn (kh2 _ _ ?_)
    clear kh2
    refine f_ret ?_
    exact f_fin1 [hm] Try.results67 rfl (Sub.transF (b := (hsegs bH bT bA T.length (.slice A l.length cap) m at_)) (by unfold hsegs; unfold tsegs; repeat (first | exact Sub.nil | refine Sub.pick ?_ | refine Sub.castO rfl ?_)) ⟨[], by simpa using hm'.symm⟩) ⟨by rw [decide_eq_false (by omega)], rfl⟩

set_option maxRecDepth 100000 in
set_option maxHeartbeats 4000000 in
theorem Len_spec (T : List (Option Int)) (bH : Nat) (hm : Seg)  (w : World) (hH : HRep T bH hm) (hw : Owns w [hm]) : Meets Try.prog 103 [.pointer (some ⟨bH, 0, none⟩)] w [hm] (fun u own' => u = .int .i64 (tcount T : Int) ∧ own' = [hm]) := by
  refine f_enter Try.func103 rfl Try.ntmps103 rfl hw ?_
  obtain ⟨bT, bA, A, cap, l, m, at_, hm', hA⟩ := hH
  refine f_subC (Sub.permF hm') ?_
  unfold hsegs tsegs
  have hsm := hA.small
  have hmx := hA.max
  have hcp := own_cap hA.own
  refine f_seq fun K1 kh1 => ?_
  refine f_region ?_
  refine f_stepP rfl rfl rfl (o_assign rfl) ?_
  refine f_done ?_
  refine f_tn (kh1 _ _ ?_)
  clear kh1
  refine f_seq fun K2 kh2 => ?_
  refine f_region ?_
  refine f_stepP rfl rfl rfl (o_move rfl) ?_
  refine f_stepP rfl rfl rfl (o_nil rfl) ?_
  refine f_stepP rfl rfl rfl (o_field fa108_0 rfl) ?_
  refine f_stepP rfl rfl rfl (o_load Try.isAgg100 rfl (rdA rfl)) ?_
  refine f_stepP rfl rfl rfl (o_nil rfl) ?_
  refine f_stepP rfl rfl rfl (o_field fa104_0 rfl) ?_
  refine f_stepP rfl rfl rfl (o_load Try.isAgg101 rfl (rdA rfl)) ?_
  refine f_stepP rfl rfl rfl (o_len sl101 rfl) ?_
  refine f_stepP rfl rfl rfl (o_assign rfl) ?_
  refine f_done ?_
  refine f_tn (kh2 _ _ ?_)
  clear kh2
  refine f_ret ?_
  exact f_fin1 [hm] Try.results103 rfl (Sub.transF (b := (hsegs bH bT bA T.length (.slice A l.length cap) m at_)) (by unfold hsegs; unfold tsegs; repeat (first | exact Sub.nil | refine Sub.pick ?_ | refine Sub.castO rfl ?_)) ⟨[], by simpa using hm'.symm⟩) ⟨by rw [hA.tab.count], rfl⟩

set_option maxRecDepth 100000 in
set_option maxHeartbeats 4000000 in
theorem Top_spec (T : List (Option Int)) (bH : Nat) (hm : Seg)  (w : World) (hH : HRep T bH hm) (hw : Owns w [hm]) : Meets Try.prog 83 [.pointer (some ⟨bH, 0, none⟩)] w [hm] (fun u own' => u = .tuple #[.int .i64 (topA T).1, .int .u64 (topA T).2.1, .int .i64 (topA T).2.2] ∧ own' = [hm]) := by
  refine f_enter Try.func83 rfl Try.ntmps83 rfl hw ?_
  obtain ⟨bT, bA, A, cap, l, m, at_, hm', hA⟩ := hH
  refine f_subC (Sub.permF hm') ?_
  unfold hsegs tsegs
  have hsm := hA.small
  have hmx := hA.max
  have hcp := own_cap hA.own
  refine f_seq fun K1 kh1 => ?_
  refine f_region ?_
  refine f_stepP rfl rfl rfl (o_assign rfl) ?_
  refine f_stepP rfl rfl rfl (o_assign rfl) ?_
  refine f_stepP rfl rfl rfl (o_assign rfl) ?_
  refine f_done ?_
  refine f_tn (kh1 _ _ ?_)
  clear kh1
  refine f_seq fun K2 kh2 => ?_
  refine f_seq fun K3 kh3 => ?_
  refine f_region ?_
  refine f_stepP rfl rfl rfl (o_move rfl) ?_
  refine f_stepP rfl rfl rfl (o_nil rfl) ?_
  refine f_stepP rfl rfl rfl (o_field fa108_0 rfl) ?_
  refine f_stepP rfl rfl rfl (o_load Try.isAgg100 rfl (rdA rfl)) ?_
  refine f_stepP rfl rfl rfl (o_nil rfl) ?_
  refine f_stepP rfl rfl rfl (o_field fa104_0 rfl) ?_
  refine f_stepP rfl rfl rfl (o_load Try.isAgg101 rfl (rdA rfl)) ?_
  refine f_stepP rfl rfl rfl (o_len sl101 rfl) ?_
  refine f_stepP rfl rfl rfl (o_eql rfl rfl) ?_
  refine f_done ?_
  refine f_tn (kh3 _ _ ?_)
  clear kh3
  refine f_cond rfl (fun c13 => ?_) (fun c13 => ?_)
  · skip
    refine f_seq fun K4 kh4 => ?_
    refine f_region ?_
    refine f_stepP rfl rfl rfl (o_assign rfl) ?_
    refine f_stepP rfl rfl rfl (o_assign rfl) ?_
    refine f_stepP rfl rfl rfl (o_assign rfl) ?_
    refine f_done ?_
    refine f_tn (kh4 _ _ ?_)
    clear kh4
    refine f_ret ?_
    refine f_tr ?_
    exact f_fin3 [hm] Try.results83 rfl rfl rfl (Sub.transF (b := (hsegs bH bT bA T.length (.slice A l.length cap) m at_)) (by unfold hsegs; unfold tsegs; repeat (first | exact Sub.nil | refine Sub.pick ?_ | refine Sub.castO rfl ?_)) ⟨[], by simpa using hm'.symm⟩) ⟨by rw [topA_none (hA.none (by omega))], rfl⟩
  · skip
    obtain ⟨bl, sp, rfl, rfl, hup⟩ := hA.own.upd (by omega)
    have hpos : 0 < l.length := by omega
    refine f_skip ?_
    refine f_tn (kh2 _ _ ?_)
    clear kh2
    refine f_seq fun K5 kh5 => ?_
    refine f_regionH [[(bH, blk [.pointer (some ⟨bT, 0, none⟩)] 108)], [(bT, blk [.slice (some ⟨bl, 0, none⟩) l.length cap, .slice (some ⟨bA, 0, none⟩) T.length T.length, .func (.func 66) #[] #[]] 104)], [(bl, blk (l.flatMap entCs ++ sp) 106)]] rfl ?_
    refine f_take 0 rfl (by decide +kernel) rfl rfl rfl (by repeat (first | exact Sub.nil | refine Sub.pick ?_ | refine Sub.castO rfl ?_ | refine Sub.skip ?_)) (o_move rfl) ?_
    refine f_take 1 rfl (by decide +kernel) rfl rfl rfl (by repeat (first | exact Sub.nil | refine Sub.pick ?_ | refine Sub.castO rfl ?_ | refine Sub.skip ?_)) (o_nil rfl) ?_
    refine f_take 2 rfl (by decide +kernel) rfl rfl rfl (by repeat (first | exact Sub.nil | refine Sub.pick ?_ | refine Sub.castO rfl ?_ | refine Sub.skip ?_)) (o_field fa108_0 rfl) ?_
    refine f_take 3 rfl (by decide +kernel) rfl rfl rfl (by repeat (first | exact Sub.nil | refine Sub.pick ?_ | refine Sub.castO rfl ?_ | refine Sub.skip ?_)) (o_load Try.isAgg100 rfl (rdA rfl)) ?_
    refine f_take 4 rfl (by decide +kernel) rfl rfl rfl (by repeat (first | exact Sub.nil | refine Sub.pick ?_ | refine Sub.castO rfl ?_ | refine Sub.skip ?_)) (o_nil rfl) ?_
    refine f_take 5 rfl (by decide +kernel) rfl rfl rfl (by repeat (first | exact Sub.nil | refine Sub.pick ?_ | refine Sub.castO rfl ?_ | refine Sub.skip ?_)) (o_field fa104_0 rfl) ?_
    refine f_take 6 rfl (by decide +kernel) rfl rfl rfl (by repeat (first | exact Sub.nil | refine Sub.pick ?_ | refine Sub.castO rfl ?_ | refine Sub.skip ?_)) (o_load Try.isAgg101 rfl (rdA rfl)) ?_
    refine f_take 7 rfl (by decide +kernel) rfl rfl rfl (by repeat (first | exact Sub.nil | refine Sub.pick ?_ | refine Sub.castO rfl ?_ | refine Sub.skip ?_)) (o_idx sl101 rfl rfl (0 * 2) ⟨by omega, by omega, by first | omega | (simp; done) | (simp; omega)⟩) ?_
    refine f_take 8 rfl (by decide +kernel) rfl rfl rfl (by repeat (first | exact Sub.nil | refine Sub.pick ?_ | refine Sub.castO rfl ?_ | refine Sub.skip ?_)) (o_field fa106_0 rfl) ?_
    refine f_take 9 rfl (by decide +kernel) rfl rfl rfl (by repeat (first | exact Sub.nil | refine Sub.pick ?_ | refine Sub.castO rfl ?_ | refine Sub.skip ?_)) (o_load Try.isAgg3 rfl (rdOwn (v := .int .i64 ((eg l 0).id : Int)) entCs_len hpos (by rw [← eg_eq hpos]; rfl))) ?_
    refine f_take 10 rfl (by decide +kernel) rfl rfl rfl (by repeat (first | exact Sub.nil | refine Sub.pick ?_ | refine Sub.castO rfl ?_ | refine Sub.skip ?_)) (o_move rfl) ?_
    refine f_take 11 rfl (by decide +kernel) rfl rfl rfl (by repeat (first | exact Sub.nil | refine Sub.pick ?_ | refine Sub.castO rfl ?_ | refine Sub.skip ?_)) (o_nil rfl) ?_
    refine f_take 12 rfl (by decide +kernel) rfl rfl rfl (by repeat (first | exact Sub.nil | refine Sub.pick ?_ | refine Sub.castO rfl ?_ | refine Sub.skip ?_)) (o_field fa108_0 rfl) ?_
    refine f_take 13 rfl (by decide +kernel) rfl rfl rfl (by repeat (first | exact Sub.nil | refine Sub.pick ?_ | refine Sub.castO rfl ?_ | refine Sub.skip ?_)) (o_load Try.isAgg100 rfl (rdA rfl)) ?_
    refine f_take 14 rfl (by decide +kernel) rfl rfl rfl (by repeat (first | exact Sub.nil | refine Sub.pick ?_ | refine Sub.castO rfl ?_ | refine Sub.skip ?_)) (o_nil rfl) ?_
    refine f_take 15 rfl (by decide +kernel) rfl rfl rfl (by repeat (first | exact Sub.nil | refine Sub.pick ?_ | refine Sub.castO rfl ?_ | refine Sub.skip ?_)) (o_field fa104_0 rfl) ?_
    refine f_take 16 rfl (by decide +kernel) rfl rfl rfl (by repeat (first | exact Sub.nil | refine Sub.pick ?_ | refine Sub.castO rfl ?_ | refine Sub.skip ?_)) (o_load Try.isAgg101 rfl (rdA rfl)) ?_
    refine f_take 17 rfl (by decide +kernel) rfl rfl rfl (by repeat (first | exact Sub.nil | refine Sub.pick ?_ | refine Sub.castO rfl ?_ | refine Sub.skip ?_)) (o_idx sl101 rfl rfl (0 * 2) ⟨by omega, by omega, by first | omega | (simp; done) | (simp; omega)⟩) ?_
    refine f_take 18 rfl (by decide +kernel) rfl rfl rfl (by repeat (first | exact Sub.nil | refine Sub.pick ?_ | refine Sub.castO rfl ?_ | refine Sub.skip ?_)) (o_field fa106_1 rfl) ?_
    refine f_take 19 rfl (by decide +kernel) rfl rfl rfl (by repeat (first | exact Sub.nil | refine Sub.pick ?_ | refine Sub.castO rfl ?_ | refine Sub.skip ?_)) (o_load Try.isAgg49 rfl (rdOwn (v := .int .u64 (eg l 0).key) entCs_len hpos (by rw [← eg_eq hpos]; rfl))) ?_
    refine f_take 20 rfl (by decide +kernel) rfl rfl rfl (by repeat (first | exact Sub.nil | refine Sub.pick ?_ | refine Sub.castO rfl ?_ | refine Sub.skip ?_)) (o_assign rfl) ?_
    refine f_take 21 rfl (by decide +kernel) rfl rfl rfl (by repeat (first | exact Sub.nil | refine Sub.pick ?_ | refine Sub.castO rfl ?_ | refine Sub.skip ?_)) (o_assign rfl) ?_
    refine f_take 22 rfl (by decide +kernel) rfl rfl rfl (by repeat (first | exact Sub.nil | refine Sub.pick ?_ | refine Sub.castO rfl ?_ | refine Sub.skip ?_)) (o_assign rfl) ?_
    refine f_over (by decide +kernel) ?_
    refine f_tn (kh5 _ _ ?_)
    clear kh5
    refine f_ret ?_
    exact f_fin3 [hm] Try.results83 rfl rfl rfl (Sub.transF (b := (hsegs bH bT bA T.length (.slice (some ⟨bl, 0, none⟩) l.length cap) [(bl, blk (l.flatMap entCs ++ sp) 106)] at_)) (by unfold hsegs; unfold tsegs; repeat (first | exact Sub.nil | refine Sub.pick ?_ | refine Sub.castO rfl ?_)) ⟨[], by simpa using hm'.symm⟩) ⟨by rw [topA_some (hA.top hpos)], rfl⟩

set_option maxRecDepth 100000 in
set_option maxHeartbeats 4000000 in
theorem HPop_spec (T : List (Option Int)) (bH : Nat) (hm : Seg)  (w : World) (hH : HRep T bH hm) (hw : Owns w [hm]) : Meets Try.prog 70 [.pointer (some ⟨bH, 0, none⟩)] w [hm] (fun u own' => u = .tuple #[.int .i64 (topA T).1, .int .u64 (topA T).2.1, .int .i64 (topA T).2.2] ∧ ∃ hm2, own' = [hm2] ∧ HRep (popT T) bH hm2) := by
  refine f_enter Try.func70 rfl Try.ntmps70 rfl hw ?_
  refine f_seq fun K1 kh1 => ?_
  refine f_region ?_
  refine f_stepP rfl rfl rfl (o_assign rfl) ?_
  refine f_stepP rfl rfl rfl (o_assign rfl) ?_
  refine f_stepP rfl rfl rfl (o_assign rfl) ?_
  refine f_done ?_
  refine f_tn (kh1 _ _ ?_)
  clear kh1
  refine f_seq fun K2 kh2 => ?_
  refine f_region ?_
  refine f_stepP rfl rfl rfl (o_move rfl) ?_
  refine f_step rfl rfl rfl (o_callM [hm] _ Try.call83 rfl (Sub.pick Sub.refl) (fun w_ hp_ => Top_spec T bH hm w_ hH hp_.owns) ?_)
  rintro _ _ ⟨rfl, rfl⟩
  dsimp only [List.cons_append, List.nil_append]
  refine f_stepP rfl rfl rfl (o_move rfl) ?_
  refine f_stepP rfl rfl rfl (o_extract rfl rfl) ?_
  refine f_stepP rfl rfl rfl (o_extract rfl rfl) ?_
  refine f_stepP rfl rfl rfl (o_extract rfl rfl) ?_
  refine f_stepP rfl rfl rfl (o_assign rfl) ?_
  refine f_stepP rfl rfl rfl (o_assign rfl) ?_
  refine f_stepP rfl rfl rfl (o_assign rfl) ?_
  refine f_done ?_
  refine f_tn (kh2 _ _ ?_)
  clear kh2
  refine f_seq fun K3 kh3 => ?_
  refine f_seq fun K4 kh4 => ?_
  refine f_region ?_
  refine f_stepP rfl rfl rfl (o_move rfl) ?_
  refine f_stepP rfl rfl rfl (o_eql rfl rfl) ?_
  refine f_done ?_
  refine f_tn (kh4 _ _ ?_)
  clear kh4
  refine f_cond rfl (fun c12 => ?_) (fun c12 => ?_)
  · skip
    obtain ⟨bT, bA, A, cap, l, m, at_, hm', hA⟩ := hH
    refine f_subC (Sub.openF hm') ?_
    unfold hsegs tsegs
    dsimp only [List.cons_append, List.nil_append]
    have hsm := hA.small
    have hmx := hA.max
    have hcp := own_cap hA.own
    have hpos : 0 < l.length := by
      rcases Nat.eq_zero_or_pos l.length with h0 | h0
      · rw [topA_none (hA.none h0)] at c12; simp at c12
      · exact h0
    refine f_region ?_
    refine f_stepP rfl rfl rfl (o_move rfl) ?_
    refine f_stepP rfl rfl rfl (o_nil rfl) ?_
    refine f_stepP rfl rfl rfl (o_field fa108_0 rfl) ?_
    refine f_stepP rfl rfl rfl (o_load Try.isAgg100 rfl (rdA rfl)) ?_
    refine f_stepP rfl rfl rfl (o_iface Try.underlying100 rfl rfl) ?_
    refine f_step rfl rfl rfl (o_callM (tsegs bT bA T.length (.slice A l.length cap) m at_) _ Try.call84 rfl (by unfold tsegs; exact Sub.pick (Sub.pick (Sub.pick Sub.refl))) (fun w_ hp_ => Pop_spec bT bA T.length A cap m at_ l (l.length - 1) w_ hA.own hA.hok hA.len hA.full (by omega) (by omega) hp_.owns) ?_)
    rintro v18 _ ⟨l2, m2, at2, rfl, ho2, hl2, hH2, hN2, hF2, hp2⟩
    unfold tsegs
    dsimp only [List.cons_append, List.nil_append]
    refine f_done ?_
    refine f_tn (kh3 _ _ ?_)
    clear kh3
    refine f_seq fun K5 kh5 => ?_
    refine f_region ?_
    refine f_stepP rfl rfl rfl (o_move rfl) ?_
    refine f_stepP rfl rfl rfl (o_move rfl) ?_
    refine f_stepP rfl rfl rfl (o_move rfl) ?_
    refine f_stepP rfl rfl rfl (o_assign rfl) ?_
    refine f_stepP rfl rfl rfl (o_assign rfl) ?_
    refine f_stepP rfl rfl rfl (o_assign rfl) ?_
    refine f_done ?_
    refine f_tn (kh5 _ _ ?_)
    clear kh5
    refine f_ret ?_
    exact f_fin3 [(hsegs bH bT bA T.length (.slice A l2.length cap) m2 at2).flatten] Try.results70 rfl rfl rfl (Sub.flatF (by repeat (first | exact Sub.nil | refine Sub.pick ?_ | refine Sub.castO rfl ?_))) ⟨rfl, _, rfl, HRep_mk (popT_len T).symm (by rw [popT_some (hA.top hpos)]; exact hA.cut ho2 hH2 hN2 hF2 hp2)⟩
  · skip
    refine f_skip ?_
    refine f_tn (kh3 _ _ ?_)
    clear kh3
    refine f_seq fun K6 kh6 => ?_
    refine f_region ?_
    refine f_stepP rfl rfl rfl (o_move rfl) ?_
    refine f_stepP rfl rfl rfl (o_move rfl) ?_
    refine f_stepP rfl rfl rfl (o_move rfl) ?_
    refine f_stepP rfl rfl rfl (o_assign rfl) ?_
    refine f_stepP rfl rfl rfl (o_assign rfl) ?_
    refine f_stepP rfl rfl rfl (o_assign rfl) ?_
    refine f_done ?_
    refine f_tn (kh6 _ _ ?_)
    clear kh6
    refine f_ret ?_
    exact f_fin3 [hm] Try.results70 rfl rfl rfl (by repeat (first | exact Sub.nil | refine Sub.pick ?_ | refine Sub.castO rfl ?_)) ⟨rfl, hm, rfl, by cases e : topR T with
      | none => rw [popT_none e]; exact hH
      | some p => obtain ⟨k, x⟩ := p; rw [topA_some e] at c12; exact absurd rfl c12⟩

set_option maxRecDepth 100000 in
set_option maxHeartbeats 4000000 in
theorem Lower_spec (T : List (Option Int)) (bH : Nat) (hm : Seg) (id key : Int) (w : World) (hH : HRep T bH hm) (hw : Owns w [hm]) : Meets Try.prog 52 [.pointer (some ⟨bH, 0, none⟩), .int .i64 id, .int .u64 key] w [hm] (fun u own' => u = .tuple #[.bool (lowerR T id key).2.1, .int .i64 (lowerR T id key).2.2] ∧ ∃ hm2, own' = [hm2] ∧ HRep (lowerR T id key).1 bH hm2) := by
  refine f_enter Try.func52 rfl Try.ntmps52 rfl hw ?_
  refine f_seq fun K1 kh1 => ?_
  refine f_region ?_
  refine f_stepP rfl rfl rfl (o_assign rfl) ?_
  refine f_stepP rfl rfl rfl (o_assign rfl) ?_
  refine f_done ?_
  refine f_tn (kh1 _ _ ?_)
  clear kh1
  refine f_seq fun K2 kh2 => ?_
  refine f_seq fun K3 kh3 => ?_
  refine f_region ?_
  refine f_stepP rfl rfl rfl (o_move rfl) ?_
  refine f_stepP rfl rfl rfl (o_move rfl) ?_
  refine f_step rfl rfl rfl (o_callM [hm] _ Try.call67 rfl (Sub.pick Sub.refl) (fun w_ hp_ => has_spec T bH hm id w_ hH hp_.owns) ?_)
  rintro _ _ ⟨rfl, rfl⟩
  dsimp only [List.cons_append, List.nil_append]
  refine f_stepP rfl rfl rfl (o_not rfl) ?_
  refine f_done ?_
  refine f_tn (kh3 _ _ ?_)
  clear kh3
  refine f_condB rfl (fun c12 => ?_) (fun c12 => ?_)
  · skip
    have hout : ¬ (0 ≤ id ∧ id < T.length) := by have h' := c12; simp at h'; omega
    refine f_seq fun K4 kh4 => ?_
    refine f_region ?_
    refine f_stepP rfl rfl rfl (o_assign rfl) ?_
    refine f_stepP rfl rfl rfl (o_assign rfl) ?_
    refine f_done ?_
    refine f_tn (kh4 _ _ ?_)
    clear kh4
    refine f_ret ?_
    refine f_tr ?_
    exact f_fin2 [hm] Try.results52 rfl rfl (by repeat (first | exact Sub.nil | refine Sub.pick ?_ | refine Sub.castO rfl ?_)) ⟨by rw [lower_out hout], hm, rfl, by rw [lower_out hout]; exact hH⟩
  · skip
    have hin : 0 ≤ id ∧ id < T.length := by simpa using c12
    obtain ⟨k, rfl⟩ : ∃ k : Nat, id = k := ⟨id.toNat, by omega⟩
    have hk : k < T.length := by omega
    obtain ⟨bT, bA, A, cap, l, m, at_, hm', hA⟩ := hH
    refine f_subC (Sub.openF hm') ?_
    unfold hsegs tsegs
    dsimp only [List.cons_append, List.nil_append]
    have hsm := hA.small
    have hmx := hA.max
    have hcp := own_cap hA.own
    obtain ⟨x, hx, hx0, hx1⟩ := hA.where_ hk
    have hal := hA.len
    refine f_skip ?_
    refine f_tn (kh2 _ _ ?_)
    clear kh2
    refine f_seq fun K5 kh5 => ?_
    refine f_region ?_
    refine f_stepP rfl rfl rfl (o_move rfl) ?_
    refine f_stepP rfl rfl rfl (o_nil rfl) ?_
    refine f_stepP rfl rfl rfl (o_field fa108_0 rfl) ?_
    refine f_stepP rfl rfl rfl (o_load Try.isAgg100 rfl (rdA rfl)) ?_
    refine f_stepP rfl rfl rfl (o_nil rfl) ?_
    refine f_stepP rfl rfl rfl (o_field fa104_1 rfl) ?_
    refine f_stepP rfl rfl rfl (o_load Try.isAgg28 rfl (rdA rfl)) ?_
    refine f_stepP rfl rfl rfl (o_move rfl) ?_
    refine f_stepP rfl rfl rfl (o_idx sl28 rfl rfl (k) ⟨by omega, by omega, by first | omega | (simp; done) | (simp; omega)⟩) ?_
    refine f_stepP rfl rfl rfl (o_load Try.isAgg3 rfl (rdA (ints_at hx))) ?_
    refine f_stepP rfl rfl rfl (o_assign rfl) ?_
    refine f_done ?_
    refine f_tn (kh5 _ _ ?_)
    clear kh5
    refine f_seq fun K6 kh6 => ?_
    refine f_block ?_
    refine f_seq fun K7 kh7 => ?_
    refine f_region ?_
    refine f_stepP rfl rfl rfl (o_move rfl) ?_
    refine f_stepP rfl rfl rfl (o_lss rfl rfl) ?_
    refine f_stepP rfl rfl rfl (o_assign rfl) ?_
    refine f_done ?_
    refine f_tn (kh7 _ _ ?_)
    clear kh7
    refine f_cond rfl (fun c41 => ?_) (fun c41 => ?_)
    · skip
      refine f_region ?_
      refine f_stepP rfl rfl rfl (o_move rfl) ?_
      refine f_stepP rfl rfl rfl (o_nil rfl) ?_
      refine f_stepP rfl rfl rfl (o_field fa108_0 rfl) ?_
      refine f_stepP rfl rfl rfl (o_load Try.isAgg100 rfl (rdA rfl)) ?_
      refine f_stepP rfl rfl rfl (o_iface Try.underlying100 rfl rfl) ?_
      refine f_stepP rfl rfl rfl (o_move rfl) ?_
      refine f_stepP rfl rfl rfl (o_move rfl) ?_
      refine f_stepP rfl rfl rfl (o_build (cs := entCs ⟨k, key⟩) st106 rfl rfl) ?_
      refine f_stepP rfl rfl rfl (o_iface Try.underlying106 rfl rfl) ?_
      refine f_step rfl rfl rfl (o_callM (tsegs bT bA T.length (.slice A l.length cap) m at_) _ Try.call68 rfl (by unfold tsegs; exact Sub.pick (Sub.pick (Sub.pick Sub.refl))) (fun w_ hp_ => Push_spec bT bA T.length A cap m at_ l ⟨k, key⟩ w_ hA.own hA.hok hA.len hA.full (by rw [hx, (hx0 c41).1]) (by omega) hp_.owns) ?_)
      rintro _ _ ⟨A', cap', l2, m2, at2, rfl, ho2, hH2, hN2, hp2, hd2, hF2⟩
      unfold tsegs
      have hle2 := hp2.length_eq
      dsimp only [List.cons_append, List.nil_append]
      refine f_done ?_
      refine f_bn ?_
      refine f_tn (kh6 _ _ ?_)
      clear kh6
      refine f_seq fun K8 kh8 => ?_
      refine f_region ?_
      refine f_stepP rfl rfl rfl (o_assign rfl) ?_
      refine f_stepP rfl rfl rfl (o_assign rfl) ?_
      refine f_done ?_
      refine f_tn (kh8 _ _ ?_)
      clear kh8
      refine f_ret ?_
      exact f_fin2 [(hsegs bH bT bA T.length (.slice A' l2.length cap') m2 at2).flatten] Try.results52 rfl rfl (Sub.flatF (by rw [hle2]; repeat (first | exact Sub.nil | refine Sub.pick ?_ | refine Sub.castO rfl ?_))) ⟨by rw [lower_new hk (hx0 c41).2], _, rfl, HRep_mk (by rw [lowerR_len]) (by rw [lower_new hk (hx0 c41).2]; exact hA.pushed (e := ⟨k, key⟩) (hx0 c41).2 ho2 hH2 hN2 hp2 hF2)⟩
    · skip
      obtain ⟨hi, hid, hT⟩ := hx1 (by omega)
      have hxn : (x.toNat : Int) = x := by omega
      obtain ⟨bl, sp, rfl, rfl, hup⟩ := hA.own.upd (by omega)
      have hls : (l.set x.toNat ⟨(eg l x.toNat).id, key⟩).length = l.length := List.length_set
      refine f_seq fun K9 kh9 => ?_
      refine f_region ?_
      refine f_stepP rfl rfl rfl (o_move rfl) ?_
      refine f_stepP rfl rfl rfl (o_nil rfl) ?_
      refine f_stepP rfl rfl rfl (o_field fa108_0 rfl) ?_
      refine f_stepP rfl rfl rfl (o_load Try.isAgg100 rfl (rdA rfl)) ?_
      refine f_stepP rfl rfl rfl (o_nil rfl) ?_
      refine f_stepP rfl rfl rfl (o_field fa104_0 rfl) ?_
      refine f_stepP rfl rfl rfl (o_load Try.isAgg101 rfl (rdA rfl)) ?_
      refine f_stepP rfl rfl rfl (o_move rfl) ?_
      refine f_stepP rfl rfl rfl (o_idx sl101 rfl rfl (x.toNat * 2) ⟨by omega, by omega, by first | omega | (simp; done) | (simp; omega)⟩) ?_
      refine f_stepP rfl rfl rfl (o_field fa106_1 rfl) ?_
      refine f_stepP rfl rfl rfl (o_load Try.isAgg49 rfl (rdOwn (v := .int .u64 (eg l x.toNat).key) entCs_len hi (by rw [← eg_eq hi]; rfl))) ?_
      refine f_stepP rfl rfl rfl (o_move rfl) ?_
      refine f_stepP rfl rfl rfl (o_leq rfl rfl) ?_
      refine f_stepP rfl rfl rfl (o_assign rfl) ?_
      refine f_done ?_
      refine f_tn (kh9 _ _ ?_)
      clear kh9
      refine f_cond rfl (fun c54 => ?_) (fun c54 => ?_)
      · skip
        refine f_seq fun K10 kh10 => ?_
        refine f_region ?_
        refine f_stepP rfl rfl rfl (o_assign rfl) ?_
        refine f_stepP rfl rfl rfl (o_assign rfl) ?_
        refine f_done ?_
        refine f_tn (kh10 _ _ ?_)
        clear kh10
        refine f_ret ?_
        refine f_br ?_
        refine f_tr ?_
        exact f_fin2 [hm] Try.results52 rfl rfl (Sub.transF (b := (hsegs bH bT bA T.length (.slice (some ⟨bl, 0, none⟩) l.length cap) [(bl, blk (l.flatMap entCs ++ sp) 106)] at_)) (by unfold hsegs; unfold tsegs; repeat (first | exact Sub.nil | refine Sub.pick ?_ | refine Sub.castO rfl ?_)) ⟨[], by simpa using hm'.symm⟩) ⟨by rw [lower_no hk hT c54], hm, rfl, by rw [lower_no hk hT c54]; exact ⟨bT, bA, _, cap, l, _, at_, hm', hA⟩⟩
      · skip
        refine f_seq fun K11 kh11 => ?_
        refine f_region ?_
        refine f_stepP rfl rfl rfl (o_move rfl) ?_
        refine f_stepP rfl rfl rfl (o_nil rfl) ?_
        refine f_stepP rfl rfl rfl (o_field fa108_0 rfl) ?_
        refine f_stepP rfl rfl rfl (o_load Try.isAgg100 rfl (rdA rfl)) ?_
        refine f_stepP rfl rfl rfl (o_nil rfl) ?_
        refine f_stepP rfl rfl rfl (o_field fa104_0 rfl) ?_
        refine f_stepP rfl rfl rfl (o_load Try.isAgg101 rfl (rdA rfl)) ?_
        refine f_stepP rfl rfl rfl (o_move rfl) ?_
        refine f_stepP rfl rfl rfl (o_move rfl) ?_
        refine f_stepP rfl rfl rfl (o_idx sl101 rfl rfl (x.toNat * 2) ⟨by omega, by omega, by first | omega | (simp; done) | (simp; omega)⟩) ?_
        refine f_stepP rfl rfl rfl (o_field fa106_1 rfl) ?_
        refine f_step0 rfl rfl (o_store Try.sizeOf49 rfl rfl rfl rfl (by rw [List.length_append, flat_length entCs entCs_len]; omega) ((l.set x.toNat ⟨(eg l x.toNat).id, key⟩).flatMap entCs ++ sp) (set_flat entCs_len sp (by omega) l x.toNat _ hi (by rw [← eg_eq hi]; rfl)) ?_)
        refine f_done ?_
        refine f_tn (kh11 _ _ ?_)
        clear kh11
        refine f_region ?_
        refine f_stepP rfl rfl rfl (o_move rfl) ?_
        refine f_stepP rfl rfl rfl (o_nil rfl) ?_
        refine f_stepP rfl rfl rfl (o_field fa108_0 rfl) ?_
        refine f_stepP rfl rfl rfl (o_load Try.isAgg100 rfl (rdA rfl)) ?_
        refine f_stepP rfl rfl rfl (o_iface Try.underlying100 rfl rfl) ?_
        refine f_stepP rfl rfl rfl (o_move rfl) ?_
        refine f_step rfl rfl rfl (o_callM (tsegs bT bA T.length (.slice (some ⟨bl, 0, none⟩) (l.set x.toNat ⟨(eg l x.toNat).id, key⟩).length cap) [(bl, blk ((l.set x.toNat ⟨(eg l x.toNat).id, key⟩).flatMap entCs ++ sp) 106)] at_) _ Try.call69 rfl (by rw [hls]; unfold tsegs; exact Sub.pick (Sub.pick (Sub.pick Sub.refl))) (fun w_ hp_ => (by have h := Fix_spec bT bA T.length (some ⟨bl, 0, none⟩) cap [(bl, blk ((l.set x.toNat ⟨(eg l x.toNat).id, key⟩).flatMap entCs ++ sp) 106)] at_ (l.set x.toNat ⟨(eg l x.toNat).id, key⟩) x.toNat w_ (by rw [hls]; exact hup _ (by rw [flat_length entCs entCs_len, flat_length entCs entCs_len, hls])) (hA.hok.key hi key) hA.len (by rw [hls]; exact dn_key hA.full hi) (by omega) (by omega) hp_.owns; rw [hxn] at h; exact h)) ?_)
        rintro _ _ ⟨l2, m2, at2, rfl, ho2, hH2, hN2, hp2, hd2, hF2⟩
        unfold tsegs
        have hle2 := hp2.length_eq
        dsimp only [List.cons_append, List.nil_append]
        refine f_done ?_
        refine f_bn ?_
        refine f_tn (kh6 _ _ ?_)
        clear kh6
        refine f_seq fun K12 kh12 => ?_
        refine f_region ?_
        refine f_stepP rfl rfl rfl (o_assign rfl) ?_
        refine f_stepP rfl rfl rfl (o_assign rfl) ?_
        refine f_done ?_
        refine f_tn (kh12 _ _ ?_)
        clear kh12
        refine f_ret ?_
        exact f_fin2 [(hsegs bH bT bA T.length (.slice (some ⟨bl, 0, none⟩) l2.length cap) m2 at2).flatten] Try.results52 rfl rfl (Sub.flatF (by rw [hle2, hls]; repeat (first | exact Sub.nil | refine Sub.pick ?_ | refine Sub.castO rfl ?_))) ⟨by rw [lower_yes hk hT c54], _, rfl, HRep_mk (by rw [lowerR_len]) (by rw [lower_yes hk hT c54]; rw [← hid]; exact hA.fixed hi ho2 hH2 hN2 hp2 hF2)⟩


theorem ints_rep (n : Nat) (x : Int) : (List.replicate n [Value.int .i64 x]).flatten = ints (List.replicate n x) := by
  induction n with
  | zero => rfl
  | succ n ih => simp only [List.replicate_succ, List.flatten_cons, ih]; rfl
/-- What New answers. -/
def NewΦ (n : Int) (u : Value) (own : List Seg) : Prop :=
  if n < 0 ∨ 16384 < n then u = .tuple #[.pointer none, .int .i64 1] ∧ own = [] else ∃ bH hm, u = .tuple #[.pointer (some ⟨bH, 0, none⟩), .int .i64 0] ∧ own = [hm] ∧ HRep (List.replicate n.toNat none) bH hm

set_option maxRecDepth 100000 in
set_option maxHeartbeats 4000000 in
theorem New_spec (n : Int) (w : World) : Meets Try.prog 51 [.int .i64 n] w [] (NewΦ n) := by
  refine f_enter Try.func51 rfl Try.ntmps51 rfl Owns.nil ?_
  refine f_seq fun K1 kh1 => ?_
  refine f_region ?_
  refine f_stepP rfl rfl rfl (o_assign rfl) ?_
  refine f_stepP rfl rfl rfl (o_assign rfl) ?_
  refine f_done ?_
  refine f_tn (kh1 _ _ ?_)
  clear kh1
  refine f_seq fun K2 kh2 => ?_
  refine f_seq fun K3 kh3 => ?_
  refine f_region ?_
  refine f_stepP rfl rfl rfl (o_move rfl) ?_
  refine f_stepP rfl rfl rfl (o_lss rfl rfl) ?_
  refine f_stepP rfl rfl rfl (o_move rfl) ?_
  refine f_splitL 8 rfl (fun g8 => ?_) (fun g8 => ?_)
  · skip
    refine f_stepN rfl rfl rfl rfl rfl rfl ?_
    refine f_stepN rfl rfl rfl rfl rfl rfl ?_
    refine f_stepP rfl rfl rfl (o_pickT rfl rfl) ?_
    refine f_done ?_
    refine f_tn (kh3 _ _ ?_)
    clear kh3
    refine f_condT rfl ?_
    refine f_seq fun K4 kh4 => ?_
    refine f_region ?_
    refine f_stepP rfl rfl rfl (o_assign rfl) ?_
    refine f_stepP rfl rfl rfl (o_assign rfl) ?_
    refine f_done ?_
    refine f_tn (kh4 _ _ ?_)
    clear kh4
    refine f_ret ?_
    refine f_tr ?_
    exact f_fin2 [] Try.results51 rfl rfl Sub.nil (by unfold NewΦ; rw [if_pos (by omega)]; exact ⟨rfl, rfl⟩)
  · skip
    refine f_stepPY rfl rfl rfl rfl rfl (o_move rfl) ?_
    refine f_stepPY rfl rfl rfl rfl rfl (o_gtr rfl rfl) ?_
    refine f_stepP rfl rfl rfl (o_pickF rfl rfl) ?_
    refine f_done ?_
    refine f_tn (kh3 _ _ ?_)
    clear kh3
    refine f_cond rfl (fun c11 => ?_) (fun c11 => ?_)
    · skip
      refine f_seq fun K5 kh5 => ?_
      refine f_region ?_
      refine f_stepP rfl rfl rfl (o_assign rfl) ?_
      refine f_stepP rfl rfl rfl (o_assign rfl) ?_
      refine f_done ?_
      refine f_tn (kh5 _ _ ?_)
      clear kh5
      refine f_ret ?_
      refine f_tr ?_
      exact f_fin2 [] Try.results51 rfl rfl Sub.nil (by unfold NewΦ; rw [if_pos (by omega)]; exact ⟨rfl, rfl⟩)
    · skip
      obtain ⟨k, rfl⟩ : ∃ k : Nat, n = k := ⟨n.toNat, by omega⟩
      refine f_skip ?_
      refine f_tn (kh2 _ _ ?_)
      clear kh2
      refine f_seq fun K6 kh6 => ?_
      refine f_region ?_
      refine f_stepP rfl rfl rfl (o_move rfl) ?_
      refine f_step rfl rfl rfl (o_make el28 rfl rfl k rfl (by omega) (by omega) (ints (List.replicate k 0)) (ints_rep k 0) fun b13 => ?_)
      refine f_stepP rfl rfl rfl (o_build st104 rfl rfl) ?_
      refine f_step rfl rfl rfl (o_box rfl rfl fun b15 => ?_)
      refine f_stepP rfl rfl rfl (o_assign rfl) ?_
      refine f_done ?_
      refine f_tn (kh6 _ _ ?_)
      clear kh6
      refine f_seq fun K7 kh7 => ?_
      refine f_seq fun K8 kh8 => ?_
      refine f_region ?_
      refine f_stepP rfl rfl rfl (o_move rfl) ?_
      refine f_stepP rfl rfl rfl (o_nil rfl) ?_
      refine f_stepP rfl rfl rfl (o_field fa104_1 rfl) ?_
      refine f_stepP rfl rfl rfl (o_load Try.isAgg28 rfl (rdA rfl)) ?_
      refine f_stepP rfl rfl rfl (o_len sl28 rfl) ?_
      refine f_stepP rfl rfl rfl (o_move rfl) ?_
      refine f_done ?_
      refine f_tn (kh8 _ _ ?_)
      clear kh8
      refine f_block ?_
      refine f_loop (α := Nat × List Int) [4, 20] (fun ⟨i, at_⟩ => [(21, .int .i64 (i : Int))]) (fun ⟨i, at_⟩ => [[(b15, blk [.slice none 0 0, .slice (some ⟨b13, 0, none⟩) k k, .nilFunc] 104)], [(b13, blk (ints at_) 3)]]) (fun ⟨i, at_⟩ => i ≤ k ∧ at_.length = k ∧ ∀ j (h : j < at_.length), j < i → at_[j] = -1) (fun ⟨i, at_⟩ => k - i) (0, List.replicate k 0) ?_ ?_ ?_ ?_
      · exact (by repeat (first | exact trivial | refine ⟨rfl, ?_⟩))
      · repeat (first | exact Sub.nil | refine Sub.pick ?_ | refine Sub.castO rfl ?_ | refine Sub.skip ?_)
      · exact ⟨by omega, by simp, fun j _ h => by omega⟩
      · rintro ⟨i, at_⟩ ⟨hik, hal, hat⟩
        refine f_seq fun K9 kh9 => ?_
        refine f_region ?_
        refine f_stepP rfl rfl rfl (o_lss rfl rfl) ?_
        refine f_done ?_
        refine f_tn (kh9 _ _ ?_)
        clear kh9
        refine f_seq fun K10 kh10 => ?_
        refine f_cond rfl (fun c22 => ?_) (fun c22 => ?_)
        · skip
          refine f_skip ?_
          refine f_tn (kh10 _ _ ?_)
          clear kh10
          refine f_seq fun K11 kh11 => ?_
          refine f_block ?_
          refine f_seq fun K12 kh12 => ?_
          refine f_region ?_
          refine f_stepP rfl rfl rfl (o_move rfl) ?_
          refine f_stepP rfl rfl rfl (o_assign rfl) ?_
          refine f_done ?_
          refine f_tn (kh12 _ _ ?_)
          clear kh12
          refine f_region ?_
          refine f_stepP rfl rfl rfl (o_move rfl) ?_
          refine f_stepP rfl rfl rfl (o_nil rfl) ?_
          refine f_stepP rfl rfl rfl (o_field fa104_1 rfl) ?_
          refine f_stepP rfl rfl rfl (o_load Try.isAgg28 rfl (rdA rfl)) ?_
          refine f_stepP rfl rfl rfl (o_move rfl) ?_
          have hi : i < k := by omega
          refine f_stepP rfl rfl rfl (o_idx sl28 rfl rfl (i) ⟨by omega, by omega, by first | omega | (simp; done) | (simp; omega)⟩) ?_
          refine f_step0 rfl rfl (o_store Try.sizeOf3 rfl rfl rfl rfl (by rw [ints_length]; omega) (ints (at_.set i (-1))) (ints_set _ _ _) ?_)
          refine f_done ?_
          refine f_bn ?_
          refine f_tn (kh11 _ _ ?_)
          clear kh11
          refine f_region ?_
          refine f_stepP rfl rfl rfl (o_add rfl rfl _ (wrap_i64 (by omega))) ?_
          refine f_stepP rfl rfl rfl (o_move rfl) ?_
          refine f_done ?_
          refine f_tn (f_again (i + 1, at_.set i (-1)) (by first | omega | (dsimp only; omega) | (simp; omega)) ⟨by omega, by simpa using hal, fun j h hj => by rw [List.getElem_set]; split <;> first | rfl | exact hat j (by simpa using h) (by omega)⟩ ?_ ?_ ?_)
          · exact (by repeat (first | exact trivial | refine ⟨rfl, ?_⟩))
          · exact (by repeat (first | exact trivial | refine ⟨rfl, ?_⟩))
          · repeat (first | exact Sub.nil | refine Sub.pick ?_ | refine Sub.castO rfl ?_ | refine Sub.skip ?_)
        · skip
          refine f_exit ?_
          refine f_te ?_
          clear kh10
          refine f_te ?_
          refine f_be ?_
          refine f_tn (kh7 _ _ ?_)
          clear kh7
          refine f_seq fun K13 kh13 => ?_
          obtain rfl : at_ = List.replicate k (-1) := List.ext_getElem (by simp [hal]) fun j h1 h2 => by rw [hat j h1 (by omega)]; simp
          refine f_region ?_
          refine f_stepP rfl rfl rfl (o_move rfl) ?_
          refine f_stepP rfl rfl rfl (o_nil rfl) ?_
          refine f_stepP rfl rfl rfl (o_field fa104_2 rfl) ?_
          refine f_step0 rfl rfl (o_store Try.sizeOf102 rfl rfl rfl rfl (by first | exact Nat.le_of_ble_eq_true rfl | (simp; done) | (simp; omega)) _ rfl ?_)
          refine f_done ?_
          refine f_tn (kh13 _ _ ?_)
          clear kh13
          refine f_seq fun K14 kh14 => ?_
          refine f_region ?_
          refine f_stepP rfl rfl rfl (o_move rfl) ?_
          refine f_stepP rfl rfl rfl (o_build st108 rfl rfl) ?_
          refine f_step rfl rfl rfl (o_box rfl rfl fun b36 => ?_)
          refine f_stepP rfl rfl rfl (o_assign rfl) ?_
          refine f_stepP rfl rfl rfl (o_assign rfl) ?_
          refine f_done ?_
          refine f_tn (kh14 _ _ ?_)
          clear kh14
          refine f_ret ?_
          exact f_fin2 [(hsegs b36 b15 b13 k (.slice none ([] : List Ent).length 0) [] (List.replicate k (-1))).flatten] Try.results51 rfl rfl (Sub.flatF (by unfold hsegs; unfold tsegs; repeat (first | exact Sub.nil | exact Sub.empty | refine Sub.pick ?_ | refine Sub.castO rfl ?_ | refine Sub.skip ?_))) (by unfold NewΦ; rw [if_neg (by omega)]; exact ⟨b36, _, rfl, rfl, HRep_mk (by simp) (HAt.init k (by omega))⟩)

end Go.Proofs.Ytlllpmafhnfihaa
