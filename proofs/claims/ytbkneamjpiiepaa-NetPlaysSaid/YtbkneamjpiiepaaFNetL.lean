/- The net's laws: works, NetFull, NetOrder. -/
import Derived.Test.YtbkneamjpiiepaaFNet
namespace Go.Proofs.Ytbkneamjpiiepaa
open Go Go.RowKit Fly
set_option linter.unusedVariables false
set_option linter.unusedSimpArgs false


abbrev sa : ByteArray := ⟨#[97]⟩
abbrev sb : ByteArray := ⟨#[98]⟩
def wk0 : NetM := NetM.new 3
def wk1 : NetM := (wk0.send (0, 1) sa).2
def wk2 : NetM := (wk1.send (0, 1) sb).2
def wk3 : NetM := (wk2.copy (0, 1) 0).2
def wk4 : NetM := (wk3.take (0, 1) 1).2
theorem NetM.put_put (A : NetM) (l : Int × Int) (s t : List ByteArray) : (A.put l s).put l t = A.put l t := by
  simp only [NetM.put]; congr 1; funext k; split <;> rfl
theorem New_pos {N : Int} (h : 1 ≤ N ∧ N ≤ 65) {P : Prop} {Q : Prop} (k : P) : if 1 ≤ N ∧ N ≤ 65 then P else Q := by rw [if_pos h]; exact k

theorem bag01 (n : Nat) : (NetM.new n).bag = fun _ => [] := rfl
def fs (s : ByteArray) (i : Nat) : NetM := (NetM.new 2).put (0, 1) (List.replicate i s)
theorem fs_zero (s : ByteArray) : fs s 0 = NetM.new 2 := by
  unfold fs NetM.put NetM.new; simp
theorem fs_bag (s : ByteArray) (i : Nat) : (fs s i).bag (0, 1) = List.replicate i s := NetM.bag_put _ _ _
theorem fs_ok (s : ByteArray) (i : Nat) : ¬ (fs s i).Bad (0, 1) := by simp [NetM.Bad, NetM.Non, fs, NetM.put, NetM.new]
theorem fs_up (s : ByteArray) (i : Nat) : (fs s i).isDown 0 = false := by simp [NetM.isDown, fs, NetM.put, NetM.new]
theorem fs_up1 (s : ByteArray) (i : Nat) : (fs s i).isDown 1 = false := by simp [NetM.isDown, fs, NetM.put, NetM.new]
theorem send_fs {s : ByteArray} {i : Nat} (hs : s.size ≤ 100) (hi : i < 4096) : (fs s i).send (0, 1) s = (0, fs s (i + 1)) := by
  rw [NetM.send, if_neg (fs_ok s i), if_neg (by omega), if_neg (by rw [fs_up]; decide), if_neg (by rw [fs_bag, List.length_replicate]; omega), fs_bag, fs, NetM.put_put, ← List.replicate_succ']; rfl
theorem send_full {s : ByteArray} (hs : s.size ≤ 100) : (fs s 4096).send (0, 1) s = (2, fs s 4096) := by
  rw [NetM.send, if_neg (fs_ok s _), if_neg (by omega), if_neg (by rw [fs_up]; decide), if_pos (by rw [fs_bag, List.length_replicate]; omega)]
theorem found_fs (s : ByteArray) {i : Nat} {k : Int} (h : 0 ≤ k ∧ k < i) : (fs s i).found (0, 1) k = 0 := by
  rw [NetM.found, if_neg (fs_ok s i), if_neg (by rw [fs_bag, List.length_replicate]; omega)]
theorem copy_full (s : ByteArray) : (fs s 4096).copy (0, 1) 0 = (2, fs s 4096) := by
  rw [NetM.copy, if_neg (by rw [found_fs s (by omega)]; decide), if_pos (by rw [fs_bag, List.length_replicate]; omega)]
theorem take_full (s : ByteArray) : (fs s 4096).take (0, 1) 4095 = ((s, 0), fs s 4095) := by
  rw [NetM.take, if_neg (by rw [found_fs s (by omega)]; decide), if_neg (by rw [fs_up1]; decide), fs_bag, fs, NetM.put_put]
  rw [show (4095 : Int).toNat = 4095 from rfl, List.eraseIdx_replicate, List.getD_eq_getElem?_getD, List.getElem?_replicate]; rfl
theorem send_back {s : ByteArray} (i : Nat) (hs : s.size ≤ 100) : ((fs s i).send (1, 0) s).1 = 0 := by
  rw [NetM.send, if_neg (by simp [NetM.Bad, NetM.Non, fs, NetM.put, NetM.new]), if_neg (by omega), if_neg (by rw [fs_up1]; decide), if_neg (by simp [fs, NetM.put, NetM.new])]
def kept (l : List ByteArray) : List ByteArray := l.filter fun s => decide (s.size ≤ 262144)
def fo (x y : List ByteArray) : NetM := ((NetM.new 3).put (0, 1) x).put (2, 1) y
theorem fo_nil : fo [] [] = NetM.new 3 := by unfold fo NetM.put NetM.new; simp
theorem fo_bag1 (x y : List ByteArray) : (fo x y).bag (0, 1) = x := by simp [fo, NetM.put]
theorem fo_bag2 (x y : List ByteArray) : (fo x y).bag (2, 1) = y := by simp [fo, NetM.put]
theorem fo_put1 (x y z : List ByteArray) : (fo x y).put (0, 1) z = fo z y := by
  unfold fo NetM.put NetM.new; simp only; congr 1; funext k; by_cases h : k = (0, 1)
  · subst h; simp
  · simp [h]
theorem fo_put2 (x y z : List ByteArray) : (fo x y).put (2, 1) z = fo x z := by unfold fo; rw [NetM.put_put]
theorem fo_ok1 (x y : List ByteArray) : ¬ (fo x y).Bad (0, 1) := by simp [NetM.Bad, NetM.Non, fo, NetM.put, NetM.new]
theorem fo_ok2 (x y : List ByteArray) : ¬ (fo x y).Bad (2, 1) := by simp [NetM.Bad, NetM.Non, fo, NetM.put, NetM.new]
theorem fo_up0 (x y : List ByteArray) : (fo x y).isDown 0 = false := by simp [NetM.isDown, fo, NetM.put, NetM.new]
theorem fo_up1 (x y : List ByteArray) : (fo x y).isDown 1 = false := by simp [NetM.isDown, fo, NetM.put, NetM.new]
theorem fo_up2 (x y : List ByteArray) : (fo x y).isDown 2 = false := by simp [NetM.isDown, fo, NetM.put, NetM.new]
theorem send_fo1 {x y : List ByteArray} (s : ByteArray) (hx : x.length ≤ 200) : (fo x y).send (0, 1) s = (if s.size ≤ 262144 then 0 else 2, fo (x ++ kept [s]) y) := by
  rw [NetM.send, if_neg (fo_ok1 x y)]
  by_cases hs : s.size ≤ 262144
  · rw [if_neg (by omega), if_neg (by rw [fo_up0]; decide), if_neg (by rw [fo_bag1]; omega), fo_bag1, fo_put1, if_pos hs]; simp [kept, hs]
  · rw [if_pos (by omega), if_neg hs]; simp [kept, hs]
theorem send_fo2 {x y : List ByteArray} (s : ByteArray) (hy : y.length ≤ 200) : (fo x y).send (2, 1) s = (if s.size ≤ 262144 then 0 else 2, fo x (y ++ kept [s])) := by
  rw [NetM.send, if_neg (fo_ok2 x y)]
  by_cases hs : s.size ≤ 262144
  · rw [if_neg (by omega), if_neg (by rw [fo_up2]; decide), if_neg (by rw [fo_bag2]; omega), fo_bag2, fo_put2, if_pos hs]; simp [kept, hs]
  · rw [if_pos (by omega), if_neg hs]; simp [kept, hs]
theorem take_fo (s : ByteArray) (x y : List ByteArray) : (fo (s :: x) y).take (0, 1) 0 = ((s, 0), fo x y) := by
  have hf : (fo (s :: x) y).found (0, 1) 0 = 0 := by rw [NetM.found, if_neg (fo_ok1 _ _), if_neg (by rw [fo_bag1]; simp)]
  rw [NetM.take, if_neg (by rw [hf]; decide), if_neg (by rw [fo_up1]; decide), fo_bag1, fo_put1]; rfl
theorem take_none (y : List ByteArray) : ((fo [] y).take (0, 1) 0).1.2 = 5 := by
  have hf : (fo [] y).found (0, 1) 0 = 5 := by rw [NetM.found, if_neg (fo_ok1 _ _), if_pos (by rw [fo_bag1]; simp)]
  rw [NetM.take, if_pos (by rw [hf]; decide), hf]
theorem kept_take {l : List ByteArray} {i : Nat} (h : i < l.length) : kept (l.take (i + 1)) = kept (l.take i) ++ kept [l[i]] := by
  rw [List.take_succ_eq_append_getElem h, kept, List.filter_append]; rfl
theorem kept_all {l : List ByteArray} {i : Nat} (h : l.length ≤ i) : kept (l.take i) = kept l := by rw [List.take_of_length_le h]
theorem kept_stay {l : List ByteArray} {i : Nat} (h : l.length ≤ i) : kept (l.take i) = kept (l.take (i + 1)) := by rw [kept_all h, kept_all (by omega)]
theorem kept_dropY {l : List ByteArray} {j : Nat} (h : j < l.length) (hs : l[j].size ≤ 262144) : kept (l.drop j) = l[j] :: kept (l.drop (j + 1)) := by
  rw [List.drop_eq_getElem_cons h, kept, List.filter_cons_of_pos (by simpa using hs)]; rfl
theorem kept_dropN {l : List ByteArray} {j : Nat} (h : j < l.length) (hs : ¬ l[j].size ≤ 262144) : kept (l.drop j) = kept (l.drop (j + 1)) := by
  rw [List.drop_eq_getElem_cons h, kept, List.filter_cons_of_neg (by simpa using hs)]; rfl
theorem strs_ne {l : List ByteArray} {i : Nat} (h : i < l.length) : strs l ≠ [] := by intro e; have := strs_length l; rw [e] at this; simp at this; omega
theorem kept_len (l : List ByteArray) : (kept l).length ≤ l.length := List.length_filter_le _ _

set_option maxRecDepth 100000 in
set_option maxHeartbeats 4000000 in
theorem works_spec (w : World) : Meets Try.prog 9 [] w [] (fun u m => u = .bool true ∧ m = []) := by
  refine f_enter Try.func9 rfl Try.ntmps9 rfl Owns.nil ?_
  refine f_seq fun K1 kh1 => ?_
  refine f_region ?_
  refine f_stepP rfl rfl rfl (o_assign rfl) ?_
  refine f_done ?_
  refine f_tn (kh1 _ _ ?_)
  clear kh1
  refine f_seq fun K2 kh2 => ?_
  refine f_region ?_
  refine f_step rfl rfl rfl (o_call Try.call8 rfl (fun w_ hp_ => New_spec 3 w_) ?_)
  rintro _ _ hnew
  rw [if_pos ⟨by omega, by omega⟩] at hnew
  obtain ⟨bn, m0, rfl, rfl, hN0⟩ := hnew
  dsimp only [List.cons_append, List.nil_append]
  refine f_stepP rfl rfl rfl (o_move rfl) ?_
  refine f_stepP rfl rfl rfl (o_extract rfl rfl) ?_
  refine f_stepP rfl rfl rfl (o_extract rfl rfl) ?_
  refine f_stepP rfl rfl rfl (o_assign rfl) ?_
  refine f_stepP rfl rfl rfl (o_assign rfl) ?_
  refine f_done ?_
  refine f_tn (kh2 _ _ ?_)
  clear kh2
  refine f_seq fun K3 kh3 => ?_
  refine f_seq fun K4 kh4 => ?_
  refine f_region ?_
  refine f_stepP rfl rfl rfl (o_move rfl) ?_
  refine f_stepP rfl rfl rfl (o_eqlN (by kernel_rfl) rfl rfl) ?_
  refine f_stepP rfl rfl rfl (o_move rfl) ?_
  refine f_stepPY rfl rfl rfl rfl rfl (o_move rfl) ?_
  refine f_stepPY rfl rfl rfl rfl rfl (o_neq rfl rfl) ?_
  refine f_stepP rfl rfl rfl (o_pickF rfl rfl) ?_
  refine f_stepP rfl rfl rfl (o_move rfl) ?_
  refine f_falseL 16 rfl (by decide +kernel) ?_
  refine f_stepPY rfl rfl rfl rfl rfl (o_move rfl) ?_
  refine f_stepY rfl rfl rfl rfl rfl (o_callM [m0] _ Try.call10 rfl (Sub.pick (Sub.refl)) (fun w_ hp_ => Send_spec wk0 bn m0 (0, 1) sa w_ hN0 hp_.owns) ?_)
  rintro _ _ ⟨rfl, m1, rfl, hN1⟩
  change NetRep wk1 bn m1 at hN1
  dsimp only [List.cons_append, List.nil_append]
  refine f_stepPY rfl rfl rfl rfl rfl (o_neq rfl rfl) ?_
  refine f_stepP rfl rfl rfl (o_pickF rfl rfl) ?_
  refine f_stepP rfl rfl rfl (o_move rfl) ?_
  refine f_falseL 21 rfl (by decide +kernel) ?_
  refine f_stepPY rfl rfl rfl rfl rfl (o_move rfl) ?_
  refine f_stepY rfl rfl rfl rfl rfl (o_callM [m1] _ Try.call10 rfl (Sub.pick (Sub.refl)) (fun w_ hp_ => Send_spec wk1 bn m1 (0, 1) sb w_ hN1 hp_.owns) ?_)
  rintro _ _ ⟨rfl, m2, rfl, hN2⟩
  change NetRep wk2 bn m2 at hN2
  dsimp only [List.cons_append, List.nil_append]
  refine f_stepPY rfl rfl rfl rfl rfl (o_neq rfl rfl) ?_
  refine f_stepP rfl rfl rfl (o_pickF rfl rfl) ?_
  refine f_stepP rfl rfl rfl (o_move rfl) ?_
  refine f_falseL 26 rfl (by decide +kernel) ?_
  refine f_stepPY rfl rfl rfl rfl rfl (o_move rfl) ?_
  refine f_stepY rfl rfl rfl rfl rfl (o_callM [m2] _ Try.call11 rfl (Sub.pick (Sub.refl)) (fun w_ hp_ => Copy_spec wk2 bn m2 (0, 1) 0 w_ hN2 hp_.owns) ?_)
  rintro _ _ ⟨rfl, m3, rfl, hN3⟩
  change NetRep wk3 bn m3 at hN3
  dsimp only [List.cons_append, List.nil_append]
  refine f_stepPY rfl rfl rfl rfl rfl (o_neq rfl rfl) ?_
  refine f_stepP rfl rfl rfl (o_pickF rfl rfl) ?_
  refine f_done ?_
  refine f_tn (kh4 _ _ ?_)
  clear kh4
  refine f_condN rfl (by decide +kernel) ?_
  refine f_skip ?_
  refine f_tn (kh3 _ _ ?_)
  clear kh3
  refine f_seq fun K5 kh5 => ?_
  refine f_region ?_
  refine f_stepP rfl rfl rfl (o_move rfl) ?_
  refine f_step rfl rfl rfl (o_callM [m3] _ Try.call12 rfl (Sub.pick (Sub.refl)) (fun w_ hp_ => Take_spec wk3 bn m3 (0, 1) 1 w_ hN3 hp_.owns) ?_)
  rintro _ _ ⟨rfl, m4, rfl, hN4⟩
  change NetRep wk4 bn m4 at hN4
  dsimp only [List.cons_append, List.nil_append]
  refine f_stepP rfl rfl rfl (o_move rfl) ?_
  refine f_stepP rfl rfl rfl (o_extract rfl rfl) ?_
  refine f_stepP rfl rfl rfl (o_extract rfl rfl) ?_
  refine f_stepP rfl rfl rfl (o_assign rfl) ?_
  refine f_stepP rfl rfl rfl (o_assign rfl) ?_
  refine f_done ?_
  refine f_tn (kh5 _ _ ?_)
  clear kh5
  refine f_seq fun K6 kh6 => ?_
  refine f_region ?_
  refine f_stepP rfl rfl rfl (o_move rfl) ?_
  refine f_step rfl rfl rfl (o_callM [m4] _ Try.call20 rfl (Sub.pick (Sub.refl)) (fun w_ hp_ => Bag_spec wk4 bn m4 (0, 1) w_ hN4 hp_.owns) ?_)
  rintro _ _ ⟨s5, ms, m5, rfl, rfl, hN5, ho5⟩
  rw [show (if wk4.looked (0, 1) = 0 then wk4.bag (0, 1) else []) = [sa, sa] from by decide +kernel] at ho5
  obtain ⟨b5, c5, sp5, rfl, rfl⟩ := ho5.block (by decide)
  dsimp only [List.cons_append, List.nil_append]
  refine f_stepP rfl rfl rfl (o_move rfl) ?_
  refine f_stepP rfl rfl rfl (o_extract rfl rfl) ?_
  refine f_stepP rfl rfl rfl (o_extract rfl rfl) ?_
  refine f_stepP rfl rfl rfl (o_assign rfl) ?_
  refine f_stepP rfl rfl rfl (o_assign rfl) ?_
  refine f_done ?_
  refine f_tn (kh6 _ _ ?_)
  clear kh6
  refine f_seq fun K7 kh7 => ?_
  refine f_region ?_
  refine f_stepP rfl rfl rfl (o_move rfl) ?_
  refine f_stepP rfl rfl rfl (o_eqlS rfl rfl) ?_
  refine f_stepP rfl rfl rfl (o_move rfl) ?_
  refine f_trueL 43 rfl (by decide +kernel) ?_
  refine f_stepPY rfl rfl rfl rfl rfl (o_move rfl) ?_
  refine f_stepPY rfl rfl rfl rfl rfl (o_eql rfl rfl) ?_
  refine f_stepP rfl rfl rfl (o_pickT rfl rfl) ?_
  refine f_stepP rfl rfl rfl (o_move rfl) ?_
  refine f_trueL 47 rfl (by decide +kernel) ?_
  refine f_stepPY rfl rfl rfl rfl rfl (o_move rfl) ?_
  refine f_stepPY rfl rfl rfl rfl rfl (o_len sl32 rfl) ?_
  refine f_stepPY rfl rfl rfl rfl rfl (o_eql rfl rfl) ?_
  refine f_stepP rfl rfl rfl (o_pickT rfl rfl) ?_
  refine f_stepP rfl rfl rfl (o_move rfl) ?_
  refine f_trueL 52 rfl (by decide +kernel) ?_
  refine f_stepPY rfl rfl rfl rfl rfl (o_move rfl) ?_
  refine f_stepPY rfl rfl rfl rfl rfl (o_idx sl32 rfl rfl 1 ⟨by decide, by decide, rfl⟩) ?_
  refine f_stepPY rfl rfl rfl rfl rfl (o_load Try.isAgg9 rfl (rdA rfl)) ?_
  refine f_stepPY rfl rfl rfl rfl rfl (o_eqlS rfl rfl) ?_
  refine f_stepP rfl rfl rfl (o_pickT rfl rfl) ?_
  refine f_stepP rfl rfl rfl (o_move rfl) ?_
  refine f_trueL 58 rfl (by decide +kernel) ?_
  refine f_stepPY rfl rfl rfl rfl rfl (o_move rfl) ?_
  refine f_stepPY rfl rfl rfl rfl rfl (o_eql rfl rfl) ?_
  refine f_stepP rfl rfl rfl (o_pickT rfl rfl) ?_
  refine f_stepP rfl rfl rfl (o_move rfl) ?_
  refine f_trueL 62 rfl (by decide +kernel) ?_
  refine f_stepPY rfl rfl rfl rfl rfl (o_move rfl) ?_
  refine f_stepY rfl rfl rfl rfl rfl (o_callM [m5] _ Try.call10 rfl (Sub.pick (Sub.refl)) (fun w_ hp_ => Send_spec wk4 bn m5 (0, 0) ⟨#[]⟩ w_ hN5 hp_.owns) ?_)
  rintro _ _ ⟨rfl, m6, rfl, hN6⟩
  dsimp only [List.cons_append, List.nil_append]
  refine f_stepPY rfl rfl rfl rfl rfl (o_eql rfl rfl) ?_
  refine f_stepP rfl rfl rfl (o_pickT rfl rfl) ?_
  refine f_stepP rfl rfl rfl (o_assign rfl) ?_
  refine f_done ?_
  refine f_tn (kh7 _ _ ?_)
  clear kh7
  refine f_ret ?_
  exact f_fin1 [] Try.results9 rfl Sub.nil ⟨by rw [decide_eq_true (by decide +kernel)], rfl⟩

set_option maxRecDepth 100000 in
set_option maxHeartbeats 4000000 in
theorem NetFull_spec (s : ByteArray) (w : World) : Meets Try.prog 3 [.string s] w [] (fun u m => u = .bool true ∧ m = []) := by
  refine f_enter Try.func3 rfl Try.ntmps3 rfl Owns.nil ?_
  refine f_seq fun K1 kh1 => ?_
  refine f_region ?_
  refine f_stepP rfl rfl rfl (o_assign rfl) ?_
  refine f_done ?_
  refine f_tn (kh1 _ _ ?_)
  clear kh1
  refine f_seq fun K2 kh2 => ?_
  refine f_region ?_
  refine f_step rfl rfl rfl (o_call Try.call8 rfl (fun w_ hp_ => New_spec 2 w_) ?_)
  rintro _ _ hnew
  rw [if_pos ⟨by omega, by omega⟩] at hnew
  obtain ⟨bn, m0, rfl, rfl, hN0⟩ := hnew
  rw [show NetM.new (2 : Int).toNat = fs s 0 from (fs_zero s).symm] at hN0
  dsimp only [List.cons_append, List.nil_append]
  refine f_stepP rfl rfl rfl (o_move rfl) ?_
  refine f_stepP rfl rfl rfl (o_extract rfl rfl) ?_
  refine f_stepP rfl rfl rfl (o_extract rfl rfl) ?_
  refine f_stepP rfl rfl rfl (o_assign rfl) ?_
  refine f_stepP rfl rfl rfl (o_assign rfl) ?_
  refine f_done ?_
  refine f_tn (kh2 _ _ ?_)
  clear kh2
  refine f_seq fun K3 kh3 => ?_
  refine f_seq fun K4 kh4 => ?_
  refine f_region ?_
  refine f_stepP rfl rfl rfl (o_move rfl) ?_
  refine f_stepP rfl rfl rfl (o_eqlN (by kernel_rfl) rfl rfl) ?_
  refine f_stepP rfl rfl rfl (o_move rfl) ?_
  refine f_stepPY rfl rfl rfl rfl rfl (o_move rfl) ?_
  refine f_stepPY rfl rfl rfl rfl rfl (o_neq rfl rfl) ?_
  refine f_stepP rfl rfl rfl (o_pickF rfl rfl) ?_
  refine f_stepP rfl rfl rfl (o_move rfl) ?_
  refine f_falseL 17 rfl (by decide) ?_
  refine f_stepY rfl rfl rfl rfl rfl (o_call Try.call9 rfl (fun w_ hp_ => works_spec w_) ?_)
  rintro _ _ ⟨rfl, rfl⟩
  dsimp only [List.cons_append, List.nil_append]
  refine f_stepPY rfl rfl rfl rfl rfl (o_not rfl) ?_
  refine f_stepP rfl rfl rfl (o_pickF rfl rfl) ?_
  refine f_done ?_
  refine f_tn (kh4 _ _ ?_)
  clear kh4
  refine f_condF rfl ?_
  refine f_skip ?_
  refine f_tn (kh3 _ _ ?_)
  clear kh3
  refine f_seq fun K5 kh5 => ?_
  refine f_seq fun K6 kh6 => ?_
  refine f_region ?_
  refine f_stepP rfl rfl rfl (o_move rfl) ?_
  refine f_stepP rfl rfl rfl (o_lenS Try.runUnderlying9 rfl) ?_
  refine f_stepP rfl rfl rfl (o_gtr rfl rfl) ?_
  refine f_done ?_
  refine f_tn (kh6 _ _ ?_)
  clear kh6
  refine f_cond rfl (fun c23 => ?_) (fun c23 => ?_)
  · skip
    refine f_seq fun K7 kh7 => ?_
    refine f_region ?_
    refine f_stepP rfl rfl rfl (o_assign rfl) ?_
    refine f_done ?_
    refine f_tn (kh7 _ _ ?_)
    clear kh7
    refine f_ret ?_
    refine f_tr ?_
    exact f_fin1 [] Try.results3 rfl Sub.nil ⟨rfl, rfl⟩
  · skip
    have hs : s.size ≤ 100 := by omega
    refine f_skip ?_
    refine f_tn (kh5 _ _ ?_)
    clear kh5
    refine f_seq fun K8 kh8 => ?_
    refine f_seq fun K9 kh9 => ?_
    refine f_region ?_
    refine f_stepP rfl rfl rfl (o_assign rfl) ?_
    refine f_done ?_
    refine f_tn (kh9 _ _ ?_)
    clear kh9
    refine f_block ?_
    refine f_loop (α := Nat × Seg) [0, 3] (fun ⟨i, m⟩ => [(5, .int .i64 (i : Int))]) (fun ⟨i, m⟩ => [m]) (fun ⟨i, m⟩ => i ≤ 4096 ∧ NetRep (fs s i) bn m) (fun ⟨i, m⟩ => 4096 - i) (0, m0) ?_ ?_ ?_ ?_
    · exact (by repeat (first | exact trivial | refine ⟨rfl, ?_⟩))
    · repeat (first | exact Sub.nil | refine Sub.pick ?_ | refine Sub.castO rfl ?_ | refine Sub.skip ?_)
    · exact ⟨by omega, hN0⟩
    · rintro ⟨i, m⟩ ⟨hi0, hN⟩
      refine f_seq fun K10 kh10 => ?_
      refine f_seq fun K11 kh11 => ?_
      refine f_region ?_
      refine f_stepP rfl rfl rfl (o_move rfl) ?_
      refine f_stepP rfl rfl rfl (o_lss rfl rfl) ?_
      refine f_done ?_
      refine f_tn (kh11 _ _ ?_)
      clear kh11
      refine f_cond rfl (fun c25 => ?_) (fun c25 => ?_)
      · skip
        refine f_skip ?_
        refine f_tn (kh10 _ _ ?_)
        clear kh10
        refine f_seq fun K12 kh12 => ?_
        refine f_block ?_
        refine f_seq fun K13 kh13 => ?_
        refine f_region ?_
        have hi : i < 4096 := by omega
        refine f_stepP rfl rfl rfl (o_move rfl) ?_
        refine f_stepP rfl rfl rfl (o_move rfl) ?_
        refine f_step rfl rfl rfl (o_callM [m] _ Try.call10 rfl (Sub.pick (Sub.refl)) (fun w_ hp_ => Send_spec (fs s i) bn m (0, 1) s w_ hN hp_.owns) ?_)
        rintro u _ ⟨hu, m1, rfl, hN1⟩
        rw [send_fs hs hi] at hu hN1
        subst hu
        dsimp only [List.cons_append, List.nil_append]
        refine f_stepP rfl rfl rfl (o_neq rfl rfl) ?_
        refine f_done ?_
        refine f_tn (kh13 _ _ ?_)
        clear kh13
        refine f_condN rfl (by decide) ?_
        refine f_skip ?_
        refine f_bn ?_
        refine f_tn (kh12 _ _ ?_)
        clear kh12
        refine f_region ?_
        refine f_stepP rfl rfl rfl (o_move rfl) ?_
        refine f_stepP rfl rfl rfl (o_add rfl rfl _ (wrap_i64 (by omega))) ?_
        refine f_stepP rfl rfl rfl (o_assign rfl) ?_
        refine f_done ?_
        refine f_tn (f_again (i + 1, m1) (by first | omega | (dsimp only; omega) | (simp; omega)) ⟨by omega, hN1⟩ ?_ ?_ ?_)
        · exact (by repeat (first | exact trivial | refine ⟨rfl, ?_⟩))
        · exact (by repeat (first | exact trivial | refine ⟨rfl, ?_⟩))
        · repeat (first | exact Sub.nil | refine Sub.pick ?_ | refine Sub.castO rfl ?_ | refine Sub.skip ?_)
      · skip
        refine f_exit ?_
        refine f_te ?_
        clear kh10
        refine f_te ?_
        refine f_be ?_
        refine f_tn (kh8 _ _ ?_)
        clear kh8
        refine f_seq fun K14 kh14 => ?_
        refine f_seq fun K15 kh15 => ?_
        obtain rfl : i = 4096 := by omega
        refine f_region ?_
        refine f_stepP rfl rfl rfl (o_move rfl) ?_
        refine f_stepP rfl rfl rfl (o_move rfl) ?_
        refine f_step rfl rfl rfl (o_callM [m] _ Try.call10 rfl (Sub.pick (Sub.refl)) (fun w_ hp_ => Send_spec (fs s 4096) bn m (0, 1) s w_ hN hp_.owns) ?_)
        rintro u _ ⟨hu, m1, rfl, hN1⟩
        rw [send_full hs] at hu hN1
        subst hu
        dsimp only [List.cons_append, List.nil_append]
        refine f_stepP rfl rfl rfl (o_neq rfl rfl) ?_
        refine f_stepP rfl rfl rfl (o_move rfl) ?_
        refine f_falseL 36 rfl (by decide) ?_
        refine f_stepPY rfl rfl rfl rfl rfl (o_move rfl) ?_
        refine f_stepY rfl rfl rfl rfl rfl (o_callM [m1] _ Try.call11 rfl (Sub.pick (Sub.refl)) (fun w_ hp_ => Copy_spec (fs s 4096) bn m1 (0, 1) 0 w_ hN1 hp_.owns) ?_)
        rintro u _ ⟨hu, m2, rfl, hN2⟩
        rw [copy_full] at hu hN2
        subst hu
        dsimp only [List.cons_append, List.nil_append]
        refine f_stepPY rfl rfl rfl rfl rfl (o_neq rfl rfl) ?_
        refine f_stepP rfl rfl rfl (o_pickF rfl rfl) ?_
        refine f_done ?_
        refine f_tn (kh15 _ _ ?_)
        clear kh15
        refine f_condN rfl (by decide) ?_
        refine f_skip ?_
        refine f_tn (kh14 _ _ ?_)
        clear kh14
        refine f_seq fun K16 kh16 => ?_
        refine f_region ?_
        refine f_stepP rfl rfl rfl (o_move rfl) ?_
        refine f_step rfl rfl rfl (o_callM [m2] _ Try.call12 rfl (Sub.pick (Sub.refl)) (fun w_ hp_ => Take_spec (fs s 4096) bn m2 (0, 1) 4095 w_ hN2 hp_.owns) ?_)
        rintro u _ ⟨hu, m3, rfl, hN3⟩
        rw [take_full] at hu hN3
        subst hu
        dsimp only [List.cons_append, List.nil_append]
        refine f_stepP rfl rfl rfl (o_move rfl) ?_
        refine f_stepP rfl rfl rfl (o_extract rfl rfl) ?_
        refine f_stepP rfl rfl rfl (o_extract rfl rfl) ?_
        refine f_stepP rfl rfl rfl (o_assign rfl) ?_
        refine f_stepP rfl rfl rfl (o_assign rfl) ?_
        refine f_done ?_
        refine f_tn (kh16 _ _ ?_)
        clear kh16
        refine f_seq fun K17 kh17 => ?_
        refine f_region ?_
        refine f_stepP rfl rfl rfl (o_move rfl) ?_
        refine f_stepP rfl rfl rfl (o_move rfl) ?_
        refine f_stepP rfl rfl rfl (o_eqlS rfl rfl) ?_
        refine f_stepP rfl rfl rfl (o_move rfl) ?_
        refine f_trueL 49 rfl (rfl) ?_
        refine f_stepPY rfl rfl rfl rfl rfl (o_move rfl) ?_
        refine f_stepPY rfl rfl rfl rfl rfl (o_eql rfl rfl) ?_
        refine f_stepP rfl rfl rfl (o_pickT rfl rfl) ?_
        refine f_stepP rfl rfl rfl (o_move rfl) ?_
        refine f_trueL 53 rfl (rfl) ?_
        refine f_stepPY rfl rfl rfl rfl rfl (o_move rfl) ?_
        refine f_stepPY rfl rfl rfl rfl rfl (o_move rfl) ?_
        refine f_stepY rfl rfl rfl rfl rfl (o_callM [m3] _ Try.call10 rfl (Sub.pick (Sub.refl)) (fun w_ hp_ => Send_spec (fs s 4095) bn m3 (0, 1) s w_ hN3 hp_.owns) ?_)
        rintro u _ ⟨hu, m4, rfl, hN4⟩
        rw [send_fs hs (by omega)] at hu hN4
        subst hu
        dsimp only [List.cons_append, List.nil_append]
        refine f_stepPY rfl rfl rfl rfl rfl (o_eql rfl rfl) ?_
        refine f_stepP rfl rfl rfl (o_pickT rfl rfl) ?_
        refine f_stepP rfl rfl rfl (o_move rfl) ?_
        refine f_trueL 59 rfl (rfl) ?_
        refine f_stepPY rfl rfl rfl rfl rfl (o_move rfl) ?_
        refine f_stepPY rfl rfl rfl rfl rfl (o_move rfl) ?_
        refine f_stepY rfl rfl rfl rfl rfl (o_callM [m4] _ Try.call10 rfl (Sub.pick (Sub.refl)) (fun w_ hp_ => Send_spec (fs s 4096) bn m4 (0, 1) s w_ hN4 hp_.owns) ?_)
        rintro u _ ⟨hu, m5, rfl, hN5⟩
        rw [send_full hs] at hu hN5
        subst hu
        dsimp only [List.cons_append, List.nil_append]
        refine f_stepPY rfl rfl rfl rfl rfl (o_eql rfl rfl) ?_
        refine f_stepP rfl rfl rfl (o_pickT rfl rfl) ?_
        refine f_stepP rfl rfl rfl (o_move rfl) ?_
        refine f_trueL 65 rfl (rfl) ?_
        refine f_stepPY rfl rfl rfl rfl rfl (o_move rfl) ?_
        refine f_stepPY rfl rfl rfl rfl rfl (o_move rfl) ?_
        refine f_stepY rfl rfl rfl rfl rfl (o_callM [m5] _ Try.call10 rfl (Sub.pick (Sub.refl)) (fun w_ hp_ => Send_spec (fs s 4096) bn m5 (1, 0) s w_ hN5 hp_.owns) ?_)
        rintro u _ ⟨hu, m6, rfl, hN6⟩
        rw [send_back 4096 hs] at hu
        subst hu
        dsimp only [List.cons_append, List.nil_append]
        refine f_stepPY rfl rfl rfl rfl rfl (o_eql rfl rfl) ?_
        refine f_stepP rfl rfl rfl (o_pickT rfl rfl) ?_
        refine f_stepP rfl rfl rfl (o_assign rfl) ?_
        refine f_done ?_
        refine f_tn (kh17 _ _ ?_)
        clear kh17
        refine f_ret ?_
        exact f_fin1 [] Try.results3 rfl Sub.nil ⟨rfl, rfl⟩

set_option maxRecDepth 100000 in
set_option maxHeartbeats 4000000 in
theorem NetOrder_spec (A B : Option Addr) (l r : List ByteArray) (ca cb : Nat) (w : World) (hA : Ro (Fr w []) w A (strs l)) (hB : Ro (Fr w []) w B (strs r)) :
    Meets Try.prog 4 [.slice A l.length ca, .slice B r.length cb] w [] (fun u m => u = .bool true ∧ m = []) := by
  refine f_enter Try.func4 rfl Try.ntmps4 rfl Owns.nil ?_
  refine f_seq fun K1 kh1 => ?_
  refine f_region ?_
  refine f_stepP rfl rfl rfl (o_assign rfl) ?_
  refine f_done ?_
  refine f_tn (kh1 _ _ ?_)
  clear kh1
  refine f_seq fun K2 kh2 => ?_
  refine f_region ?_
  refine f_step rfl rfl rfl (o_call Try.call8 rfl (fun w_ hp_ => New_spec 3 w_) ?_)
  rintro _ _ hnew
  rw [if_pos ⟨by omega, by omega⟩] at hnew
  obtain ⟨bn, m0, rfl, rfl, hN0⟩ := hnew
  rw [show NetM.new (3 : Int).toNat = fo (kept (l.take 0)) (kept (r.take 0)) from fo_nil.symm] at hN0
  dsimp only [List.cons_append, List.nil_append]
  refine f_stepP rfl rfl rfl (o_move rfl) ?_
  refine f_stepP rfl rfl rfl (o_extract rfl rfl) ?_
  refine f_stepP rfl rfl rfl (o_extract rfl rfl) ?_
  refine f_stepP rfl rfl rfl (o_assign rfl) ?_
  refine f_stepP rfl rfl rfl (o_assign rfl) ?_
  refine f_done ?_
  refine f_tn (kh2 _ _ ?_)
  clear kh2
  refine f_seq fun K3 kh3 => ?_
  refine f_seq fun K4 kh4 => ?_
  refine f_region ?_
  refine f_stepP rfl rfl rfl (o_move rfl) ?_
  refine f_stepP rfl rfl rfl (o_eqlN (by kernel_rfl) rfl rfl) ?_
  refine f_stepP rfl rfl rfl (o_move rfl) ?_
  refine f_stepPY rfl rfl rfl rfl rfl (o_move rfl) ?_
  refine f_stepPY rfl rfl rfl rfl rfl (o_neq rfl rfl) ?_
  refine f_stepP rfl rfl rfl (o_pickF rfl rfl) ?_
  refine f_stepP rfl rfl rfl (o_move rfl) ?_
  refine f_falseL 24 rfl (by decide) ?_
  refine f_stepY rfl rfl rfl rfl rfl (o_call Try.call9 rfl (fun w_ hp_ => works_spec w_) ?_)
  rintro _ _ ⟨rfl, rfl⟩
  dsimp only [List.cons_append, List.nil_append]
  refine f_stepPY rfl rfl rfl rfl rfl (o_not rfl) ?_
  refine f_stepP rfl rfl rfl (o_pickF rfl rfl) ?_
  refine f_done ?_
  refine f_tn (kh4 _ _ ?_)
  clear kh4
  refine f_condF rfl ?_
  refine f_skip ?_
  refine f_tn (kh3 _ _ ?_)
  clear kh3
  refine f_seq fun K5 kh5 => ?_
  refine f_seq fun K6 kh6 => ?_
  refine f_region ?_
  refine f_stepP rfl rfl rfl (o_move rfl) ?_
  refine f_stepP rfl rfl rfl (o_len sl32 rfl) ?_
  refine f_stepP rfl rfl rfl (o_gtr rfl rfl) ?_
  refine f_stepP rfl rfl rfl (o_move rfl) ?_
  refine f_splitL 31 rfl (fun g31 => ?_) (fun g31 => ?_)
  · skip
    refine f_stepN rfl rfl rfl rfl rfl rfl ?_
    refine f_stepN rfl rfl rfl rfl rfl rfl ?_
    refine f_stepN rfl rfl rfl rfl rfl rfl ?_
    refine f_stepP rfl rfl rfl (o_pickT rfl rfl) ?_
    refine f_done ?_
    refine f_tn (kh6 _ _ ?_)
    clear kh6
    refine f_condT rfl ?_
    refine f_seq fun K7 kh7 => ?_
    refine f_region ?_
    refine f_stepP rfl rfl rfl (o_assign rfl) ?_
    refine f_done ?_
    refine f_tn (kh7 _ _ ?_)
    clear kh7
    refine f_ret ?_
    refine f_tr ?_
    exact f_fin1 [] Try.results4 rfl Sub.nil ⟨rfl, rfl⟩
  · skip
    refine f_stepPY rfl rfl rfl rfl rfl (o_move rfl) ?_
    refine f_stepPY rfl rfl rfl rfl rfl (o_len sl32 rfl) ?_
    refine f_stepPY rfl rfl rfl rfl rfl (o_gtr rfl rfl) ?_
    refine f_stepP rfl rfl rfl (o_pickF rfl rfl) ?_
    refine f_done ?_
    refine f_tn (kh6 _ _ ?_)
    clear kh6
    refine f_cond rfl (fun c35 => ?_) (fun c35 => ?_)
    · skip
      refine f_seq fun K8 kh8 => ?_
      refine f_region ?_
      refine f_stepP rfl rfl rfl (o_assign rfl) ?_
      refine f_done ?_
      refine f_tn (kh8 _ _ ?_)
      clear kh8
      refine f_ret ?_
      refine f_tr ?_
      exact f_fin1 [] Try.results4 rfl Sub.nil ⟨rfl, rfl⟩
    · skip
      refine f_skip ?_
      refine f_tn (kh5 _ _ ?_)
      clear kh5
      refine f_seq fun K9 kh9 => ?_
      refine f_seq fun K10 kh10 => ?_
      refine f_region ?_
      refine f_stepP rfl rfl rfl (o_assign rfl) ?_
      refine f_done ?_
      refine f_tn (kh10 _ _ ?_)
      clear kh10
      refine f_block ?_
      refine f_loop (α := Nat × Seg) [0, 1, 5] (fun ⟨i, m⟩ => [(7, .int .i64 (i : Int))]) (fun ⟨i, m⟩ => [m]) (fun ⟨i, m⟩ => i ≤ 100 ∧ NetRep (fo (kept (l.take i)) (kept (r.take i))) bn m) (fun ⟨i, m⟩ => 100 - i) (0, m0) ?_ ?_ ?_ ?_
      · exact (by repeat (first | exact trivial | refine ⟨rfl, ?_⟩))
      · repeat (first | exact Sub.nil | refine Sub.pick ?_ | refine Sub.castO rfl ?_ | refine Sub.skip ?_)
      · exact ⟨by omega, hN0⟩
      · rintro ⟨i, m⟩ ⟨hi0, hN⟩
        refine f_seq fun K11 kh11 => ?_
        refine f_seq fun K12 kh12 => ?_
        refine f_region ?_
        refine f_stepP rfl rfl rfl (o_move rfl) ?_
        refine f_stepP rfl rfl rfl (o_move rfl) ?_
        refine f_stepP rfl rfl rfl (o_len sl32 rfl) ?_
        refine f_stepP rfl rfl rfl (o_lss rfl rfl) ?_
        refine f_stepP rfl rfl rfl (o_move rfl) ?_
        refine f_splitL 40 rfl (fun g40 => ?_) (fun g40 => ?_)
        · skip
          refine f_stepN rfl rfl rfl rfl rfl rfl ?_
          refine f_stepN rfl rfl rfl rfl rfl rfl ?_
          refine f_stepN rfl rfl rfl rfl rfl rfl ?_
          refine f_stepN rfl rfl rfl rfl rfl rfl ?_
          refine f_stepP rfl rfl rfl (o_pickT rfl rfl) ?_
          refine f_done ?_
          refine f_tn (kh12 _ _ ?_)
          clear kh12
          refine f_condT rfl ?_
          refine f_skip ?_
          refine f_tn (kh11 _ _ ?_)
          clear kh11
          refine f_seq fun K13 kh13 => ?_
          refine f_block ?_
          refine f_seq fun K14 kh14 => ?_
          refine f_region ?_
          refine f_stepP rfl rfl rfl (o_move rfl) ?_
          refine f_stepP rfl rfl rfl (o_move rfl) ?_
          refine f_stepP rfl rfl rfl (o_len sl32 rfl) ?_
          refine f_stepP rfl rfl rfl (o_lss rfl rfl) ?_
          refine f_stepP rfl rfl rfl (o_move rfl) ?_
          refine f_splitL 52 rfl (fun g52 => ?_) (fun g52 => ?_)
          · skip
            refine f_stepPY rfl rfl rfl rfl rfl (o_move rfl) ?_
            refine f_stepPY rfl rfl rfl rfl rfl (o_move rfl) ?_
            refine f_stepPY rfl rfl rfl rfl rfl (o_move rfl) ?_
            have hi : i < l.length := by omega
            obtain ⟨bl, ol, rfl, hS, hc⟩ := hA (strs_ne hi)
            refine f_stepPY rfl rfl rfl rfl rfl (o_idx sl32 rfl rfl (ol + i) ⟨by omega, by omega, by first | omega | (simp; done) | (simp; omega)⟩) ?_
            refine f_stepPY rfl rfl rfl rfl rfl (o_load Try.isAgg9 rfl (roOne (enc := Value.string) hS hc hi)) ?_
            refine f_stepY rfl rfl rfl rfl rfl (o_callM [m] _ Try.call10 rfl (Sub.pick (Sub.refl)) (fun w_ hp_ => Send_spec (fo (kept (l.take i)) (kept (r.take i))) bn m (0, 1) l[i] w_ hN hp_.owns) ?_)
            rintro u _ ⟨hu, m, rfl, hN⟩
            rw [send_fo1 _ (by have := kept_len (l.take i); simp at this; omega), ← kept_take hi] at hu hN
            subst hu
            dsimp only [List.cons_append, List.nil_append]
            refine f_stepPY rfl rfl rfl rfl rfl (o_neq rfl rfl) ?_
            refine f_stepP rfl rfl rfl (o_pickT rfl rfl) ?_
            refine f_stepP rfl rfl rfl (o_move rfl) ?_
            refine f_splitL 61 rfl (fun g61 => ?_) (fun g61 => ?_)
            · skip
              refine f_stepPY rfl rfl rfl rfl rfl (o_move rfl) ?_
              refine f_stepPY rfl rfl rfl rfl rfl (o_move rfl) ?_
              refine f_stepPY rfl rfl rfl rfl rfl (o_idx sl32 rfl rfl (ol + i) ⟨by omega, by omega, by first | omega | (simp; done) | (simp; omega)⟩) ?_
              refine f_stepPY rfl rfl rfl rfl rfl (o_load Try.isAgg9 rfl (roOne (enc := Value.string) hS hc hi)) ?_
              refine f_stepPY rfl rfl rfl rfl rfl (o_lenS Try.runUnderlying9 rfl) ?_
              refine f_stepPY rfl rfl rfl rfl rfl (o_leq rfl rfl) ?_
              refine f_stepP rfl rfl rfl (o_pickT rfl rfl) ?_
              refine f_stepP rfl rfl rfl (o_move rfl) ?_
              refine f_falseL 69 rfl (by intro h; rw [if_pos (by omega)] at g61; exact g61 rfl) ?_
              refine f_stepPY rfl rfl rfl rfl rfl (o_move rfl) ?_
              refine f_stepPY rfl rfl rfl rfl rfl (o_move rfl) ?_
              refine f_stepPY rfl rfl rfl rfl rfl (o_len sl32 rfl) ?_
              refine f_stepPY rfl rfl rfl rfl rfl (o_lss rfl rfl) ?_
              refine f_stepPY rfl rfl rfl rfl rfl (o_move rfl) ?_
              refine f_splitL 74 rfl (fun g74 => ?_) (fun g74 => ?_)
              · skip
                refine f_stepPY rfl rfl rfl rfl rfl (o_move rfl) ?_
                refine f_stepPY rfl rfl rfl rfl rfl (o_move rfl) ?_
                refine f_stepPY rfl rfl rfl rfl rfl (o_move rfl) ?_
                have hj : i < r.length := by omega
                obtain ⟨br, orr, rfl, hSr, hcr⟩ := hB (strs_ne hj)
                refine f_stepPY rfl rfl rfl rfl rfl (o_idx sl32 rfl rfl (orr + i) ⟨by omega, by omega, by first | omega | (simp; done) | (simp; omega)⟩) ?_
                refine f_stepPY rfl rfl rfl rfl rfl (o_load Try.isAgg9 rfl (roOne (enc := Value.string) hSr hcr hj)) ?_
                refine f_stepY rfl rfl rfl rfl rfl (o_callM [m] _ Try.call10 rfl (Sub.pick (Sub.refl)) (fun w_ hp_ => Send_spec _ bn m (2, 1) r[i] w_ hN hp_.owns) ?_)
                rintro u _ ⟨hu, m, rfl, hN⟩
                rw [send_fo2 _ (by have := kept_len (r.take i); simp at this; omega), ← kept_take hj] at hu hN
                subst hu
                dsimp only [List.cons_append, List.nil_append]
                refine f_stepPY rfl rfl rfl rfl rfl (o_neq rfl rfl) ?_
                refine f_stepPY rfl rfl rfl rfl rfl (o_pickT rfl rfl) ?_
                refine f_stepPY rfl rfl rfl rfl rfl (o_move rfl) ?_
                refine f_splitL 83 rfl (fun g83 => ?_) (fun g83 => ?_)
                · skip
                  refine f_stepPY rfl rfl rfl rfl rfl (o_move rfl) ?_
                  refine f_stepPY rfl rfl rfl rfl rfl (o_move rfl) ?_
                  refine f_stepPY rfl rfl rfl rfl rfl (o_idx sl32 rfl rfl (orr + i) ⟨by omega, by omega, by first | omega | (simp; done) | (simp; omega)⟩) ?_
                  refine f_stepPY rfl rfl rfl rfl rfl (o_load Try.isAgg9 rfl (roOne (enc := Value.string) hSr hcr hj)) ?_
                  refine f_stepPY rfl rfl rfl rfl rfl (o_lenS Try.runUnderlying9 rfl) ?_
                  refine f_stepPY rfl rfl rfl rfl rfl (o_leq rfl rfl) ?_
                  refine f_stepPY rfl rfl rfl rfl rfl (o_pickT rfl rfl) ?_
                  refine f_stepP rfl rfl rfl (o_pickF rfl rfl) ?_
                  refine f_done ?_
                  refine f_tn (kh14 _ _ ?_)
                  clear kh14
                  refine f_condN rfl (by intro h; rw [if_pos (by omega)] at g83; exact g83 rfl) ?_
                  refine f_skip ?_
                  refine f_bn ?_
                  refine f_tn (kh13 _ _ ?_)
                  clear kh13
                  refine f_region ?_
                  refine f_stepP rfl rfl rfl (o_move rfl) ?_
                  refine f_stepP rfl rfl rfl (o_add rfl rfl _ (wrap_i64 (by omega))) ?_
                  refine f_stepP rfl rfl rfl (o_assign rfl) ?_
                  refine f_done ?_
                  refine f_tn (f_again (i + 1, m) (by first | omega | (dsimp only; omega) | (simp; omega)) ⟨by omega, hN⟩ ?_ ?_ ?_)
                  · exact (by repeat (first | exact trivial | refine ⟨rfl, ?_⟩))
                  · exact (by repeat (first | exact trivial | refine ⟨rfl, ?_⟩))
                  · repeat (first | exact Sub.nil | refine Sub.pick ?_ | refine Sub.castO rfl ?_ | refine Sub.skip ?_)
                · skip
                  refine f_stepN rfl rfl rfl rfl rfl rfl ?_
                  refine f_stepN rfl rfl rfl rfl rfl rfl ?_
                  refine f_stepN rfl rfl rfl rfl rfl rfl ?_
                  refine f_stepN rfl rfl rfl rfl rfl rfl ?_
                  refine f_stepN rfl rfl rfl rfl rfl rfl ?_
                  refine f_stepN rfl rfl rfl rfl rfl rfl ?_
                  refine f_stepPY rfl rfl rfl rfl rfl (o_pickF rfl rfl) ?_
                  refine f_stepP rfl rfl rfl (o_pickF rfl rfl) ?_
                  refine f_done ?_
                  refine f_tn (kh14 _ _ ?_)
                  clear kh14
                  refine f_condF rfl ?_
                  refine f_skip ?_
                  refine f_bn ?_
                  refine f_tn (kh13 _ _ ?_)
                  clear kh13
                  refine f_region ?_
                  refine f_stepP rfl rfl rfl (o_move rfl) ?_
                  refine f_stepP rfl rfl rfl (o_add rfl rfl _ (wrap_i64 (by omega))) ?_
                  refine f_stepP rfl rfl rfl (o_assign rfl) ?_
                  refine f_done ?_
                  refine f_tn (f_again (i + 1, m) (by first | omega | (dsimp only; omega) | (simp; omega)) ⟨by omega, hN⟩ ?_ ?_ ?_)
                  · exact (by repeat (first | exact trivial | refine ⟨rfl, ?_⟩))
                  · exact (by repeat (first | exact trivial | refine ⟨rfl, ?_⟩))
                  · repeat (first | exact Sub.nil | refine Sub.pick ?_ | refine Sub.castO rfl ?_ | refine Sub.skip ?_)
              · skip
                rw [kept_stay (l := r) (i := i) (by omega)] at hN
                refine f_stepN rfl rfl rfl rfl rfl rfl ?_
                refine f_stepN rfl rfl rfl rfl rfl rfl ?_
                refine f_stepN rfl rfl rfl rfl rfl rfl ?_
                refine f_stepN rfl rfl rfl rfl rfl rfl ?_
                refine f_stepN rfl rfl rfl rfl rfl rfl ?_
                refine f_stepN rfl rfl rfl rfl rfl rfl ?_
                refine f_stepN rfl rfl rfl rfl rfl rfl ?_
                refine f_stepPY rfl rfl rfl rfl rfl (o_pickF rfl rfl) ?_
                refine f_stepPY rfl rfl rfl rfl rfl (o_move rfl) ?_
                refine f_stepN rfl rfl rfl rfl rfl rfl ?_
                refine f_stepN rfl rfl rfl rfl rfl rfl ?_
                refine f_stepN rfl rfl rfl rfl rfl rfl ?_
                refine f_stepN rfl rfl rfl rfl rfl rfl ?_
                refine f_stepN rfl rfl rfl rfl rfl rfl ?_
                refine f_stepN rfl rfl rfl rfl rfl rfl ?_
                refine f_stepPY rfl rfl rfl rfl rfl (o_pickF rfl rfl) ?_
                refine f_stepP rfl rfl rfl (o_pickF rfl rfl) ?_
                refine f_done ?_
                refine f_tn (kh14 _ _ ?_)
                clear kh14
                refine f_condF rfl ?_
                refine f_skip ?_
                refine f_bn ?_
                refine f_tn (kh13 _ _ ?_)
                clear kh13
                refine f_region ?_
                refine f_stepP rfl rfl rfl (o_move rfl) ?_
                refine f_stepP rfl rfl rfl (o_add rfl rfl _ (wrap_i64 (by omega))) ?_
                refine f_stepP rfl rfl rfl (o_assign rfl) ?_
                refine f_done ?_
                refine f_tn (f_again (i + 1, m) (by first | omega | (dsimp only; omega) | (simp; omega)) ⟨by omega, hN⟩ ?_ ?_ ?_)
                · exact (by repeat (first | exact trivial | refine ⟨rfl, ?_⟩))
                · exact (by repeat (first | exact trivial | refine ⟨rfl, ?_⟩))
                · repeat (first | exact Sub.nil | refine Sub.pick ?_ | refine Sub.castO rfl ?_ | refine Sub.skip ?_)
            · skip
              refine f_stepN rfl rfl rfl rfl rfl rfl ?_
              refine f_stepN rfl rfl rfl rfl rfl rfl ?_
              refine f_stepN rfl rfl rfl rfl rfl rfl ?_
              refine f_stepN rfl rfl rfl rfl rfl rfl ?_
              refine f_stepN rfl rfl rfl rfl rfl rfl ?_
              refine f_stepN rfl rfl rfl rfl rfl rfl ?_
              refine f_stepP rfl rfl rfl (o_pickF rfl rfl) ?_
              refine f_stepP rfl rfl rfl (o_move rfl) ?_
              refine f_stepPY rfl rfl rfl rfl rfl (o_move rfl) ?_
              refine f_stepPY rfl rfl rfl rfl rfl (o_move rfl) ?_
              refine f_stepPY rfl rfl rfl rfl rfl (o_len sl32 rfl) ?_
              refine f_stepPY rfl rfl rfl rfl rfl (o_lss rfl rfl) ?_
              refine f_stepPY rfl rfl rfl rfl rfl (o_move rfl) ?_
              refine f_splitL 74 rfl (fun g74 => ?_) (fun g74 => ?_)
              · skip
                refine f_stepPY rfl rfl rfl rfl rfl (o_move rfl) ?_
                refine f_stepPY rfl rfl rfl rfl rfl (o_move rfl) ?_
                refine f_stepPY rfl rfl rfl rfl rfl (o_move rfl) ?_
                have hj : i < r.length := by omega
                obtain ⟨br, orr, rfl, hSr, hcr⟩ := hB (strs_ne hj)
                refine f_stepPY rfl rfl rfl rfl rfl (o_idx sl32 rfl rfl (orr + i) ⟨by omega, by omega, by first | omega | (simp; done) | (simp; omega)⟩) ?_
                refine f_stepPY rfl rfl rfl rfl rfl (o_load Try.isAgg9 rfl (roOne (enc := Value.string) hSr hcr hj)) ?_
                refine f_stepY rfl rfl rfl rfl rfl (o_callM [m] _ Try.call10 rfl (Sub.pick (Sub.refl)) (fun w_ hp_ => Send_spec _ bn m (2, 1) r[i] w_ hN hp_.owns) ?_)
                rintro u _ ⟨hu, m, rfl, hN⟩
                rw [send_fo2 _ (by have := kept_len (r.take i); simp at this; omega), ← kept_take hj] at hu hN
                subst hu
                dsimp only [List.cons_append, List.nil_append]
                refine f_stepPY rfl rfl rfl rfl rfl (o_neq rfl rfl) ?_
                refine f_stepPY rfl rfl rfl rfl rfl (o_pickT rfl rfl) ?_
                refine f_stepPY rfl rfl rfl rfl rfl (o_move rfl) ?_
                refine f_splitL 83 rfl (fun g83 => ?_) (fun g83 => ?_)
                · skip
                  refine f_stepPY rfl rfl rfl rfl rfl (o_move rfl) ?_
                  refine f_stepPY rfl rfl rfl rfl rfl (o_move rfl) ?_
                  refine f_stepPY rfl rfl rfl rfl rfl (o_idx sl32 rfl rfl (orr + i) ⟨by omega, by omega, by first | omega | (simp; done) | (simp; omega)⟩) ?_
                  refine f_stepPY rfl rfl rfl rfl rfl (o_load Try.isAgg9 rfl (roOne (enc := Value.string) hSr hcr hj)) ?_
                  refine f_stepPY rfl rfl rfl rfl rfl (o_lenS Try.runUnderlying9 rfl) ?_
                  refine f_stepPY rfl rfl rfl rfl rfl (o_leq rfl rfl) ?_
                  refine f_stepPY rfl rfl rfl rfl rfl (o_pickT rfl rfl) ?_
                  refine f_stepP rfl rfl rfl (o_pickF rfl rfl) ?_
                  refine f_done ?_
                  refine f_tn (kh14 _ _ ?_)
                  clear kh14
                  refine f_condN rfl (by intro h; rw [if_pos (by omega)] at g83; exact g83 rfl) ?_
                  refine f_skip ?_
                  refine f_bn ?_
                  refine f_tn (kh13 _ _ ?_)
                  clear kh13
                  refine f_region ?_
                  refine f_stepP rfl rfl rfl (o_move rfl) ?_
                  refine f_stepP rfl rfl rfl (o_add rfl rfl _ (wrap_i64 (by omega))) ?_
                  refine f_stepP rfl rfl rfl (o_assign rfl) ?_
                  refine f_done ?_
                  refine f_tn (f_again (i + 1, m) (by first | omega | (dsimp only; omega) | (simp; omega)) ⟨by omega, hN⟩ ?_ ?_ ?_)
                  · exact (by repeat (first | exact trivial | refine ⟨rfl, ?_⟩))
                  · exact (by repeat (first | exact trivial | refine ⟨rfl, ?_⟩))
                  · repeat (first | exact Sub.nil | refine Sub.pick ?_ | refine Sub.castO rfl ?_ | refine Sub.skip ?_)
                · skip
                  refine f_stepN rfl rfl rfl rfl rfl rfl ?_
                  refine f_stepN rfl rfl rfl rfl rfl rfl ?_
                  refine f_stepN rfl rfl rfl rfl rfl rfl ?_
                  refine f_stepN rfl rfl rfl rfl rfl rfl ?_
                  refine f_stepN rfl rfl rfl rfl rfl rfl ?_
                  refine f_stepN rfl rfl rfl rfl rfl rfl ?_
                  refine f_stepPY rfl rfl rfl rfl rfl (o_pickF rfl rfl) ?_
                  refine f_stepP rfl rfl rfl (o_pickF rfl rfl) ?_
                  refine f_done ?_
                  refine f_tn (kh14 _ _ ?_)
                  clear kh14
                  refine f_condF rfl ?_
                  refine f_skip ?_
                  refine f_bn ?_
                  refine f_tn (kh13 _ _ ?_)
                  clear kh13
                  refine f_region ?_
                  refine f_stepP rfl rfl rfl (o_move rfl) ?_
                  refine f_stepP rfl rfl rfl (o_add rfl rfl _ (wrap_i64 (by omega))) ?_
                  refine f_stepP rfl rfl rfl (o_assign rfl) ?_
                  refine f_done ?_
                  refine f_tn (f_again (i + 1, m) (by first | omega | (dsimp only; omega) | (simp; omega)) ⟨by omega, hN⟩ ?_ ?_ ?_)
                  · exact (by repeat (first | exact trivial | refine ⟨rfl, ?_⟩))
                  · exact (by repeat (first | exact trivial | refine ⟨rfl, ?_⟩))
                  · repeat (first | exact Sub.nil | refine Sub.pick ?_ | refine Sub.castO rfl ?_ | refine Sub.skip ?_)
              · skip
                rw [kept_stay (l := r) (i := i) (by omega)] at hN
                refine f_stepN rfl rfl rfl rfl rfl rfl ?_
                refine f_stepN rfl rfl rfl rfl rfl rfl ?_
                refine f_stepN rfl rfl rfl rfl rfl rfl ?_
                refine f_stepN rfl rfl rfl rfl rfl rfl ?_
                refine f_stepN rfl rfl rfl rfl rfl rfl ?_
                refine f_stepN rfl rfl rfl rfl rfl rfl ?_
                refine f_stepN rfl rfl rfl rfl rfl rfl ?_
                refine f_stepPY rfl rfl rfl rfl rfl (o_pickF rfl rfl) ?_
                refine f_stepPY rfl rfl rfl rfl rfl (o_move rfl) ?_
                refine f_stepN rfl rfl rfl rfl rfl rfl ?_
                refine f_stepN rfl rfl rfl rfl rfl rfl ?_
                refine f_stepN rfl rfl rfl rfl rfl rfl ?_
                refine f_stepN rfl rfl rfl rfl rfl rfl ?_
                refine f_stepN rfl rfl rfl rfl rfl rfl ?_
                refine f_stepN rfl rfl rfl rfl rfl rfl ?_
                refine f_stepPY rfl rfl rfl rfl rfl (o_pickF rfl rfl) ?_
                refine f_stepP rfl rfl rfl (o_pickF rfl rfl) ?_
                refine f_done ?_
                refine f_tn (kh14 _ _ ?_)
                clear kh14
                refine f_condF rfl ?_
                refine f_skip ?_
                refine f_bn ?_
                refine f_tn (kh13 _ _ ?_)
                clear kh13
                refine f_region ?_
                refine f_stepP rfl rfl rfl (o_move rfl) ?_
                refine f_stepP rfl rfl rfl (o_add rfl rfl _ (wrap_i64 (by omega))) ?_
                refine f_stepP rfl rfl rfl (o_assign rfl) ?_
                refine f_done ?_
                refine f_tn (f_again (i + 1, m) (by first | omega | (dsimp only; omega) | (simp; omega)) ⟨by omega, hN⟩ ?_ ?_ ?_)
                · exact (by repeat (first | exact trivial | refine ⟨rfl, ?_⟩))
                · exact (by repeat (first | exact trivial | refine ⟨rfl, ?_⟩))
                · repeat (first | exact Sub.nil | refine Sub.pick ?_ | refine Sub.castO rfl ?_ | refine Sub.skip ?_)
          · skip
            rw [kept_stay (l := l) (i := i) (by omega)] at hN
            refine f_stepN rfl rfl rfl rfl rfl rfl ?_
            refine f_stepN rfl rfl rfl rfl rfl rfl ?_
            refine f_stepN rfl rfl rfl rfl rfl rfl ?_
            refine f_stepN rfl rfl rfl rfl rfl rfl ?_
            refine f_stepN rfl rfl rfl rfl rfl rfl ?_
            refine f_stepN rfl rfl rfl rfl rfl rfl ?_
            refine f_stepN rfl rfl rfl rfl rfl rfl ?_
            refine f_stepP rfl rfl rfl (o_pickF rfl rfl) ?_
            refine f_stepP rfl rfl rfl (o_move rfl) ?_
            refine f_stepN rfl rfl rfl rfl rfl rfl ?_
            refine f_stepN rfl rfl rfl rfl rfl rfl ?_
            refine f_stepN rfl rfl rfl rfl rfl rfl ?_
            refine f_stepN rfl rfl rfl rfl rfl rfl ?_
            refine f_stepN rfl rfl rfl rfl rfl rfl ?_
            refine f_stepN rfl rfl rfl rfl rfl rfl ?_
            refine f_stepP rfl rfl rfl (o_pickF rfl rfl) ?_
            refine f_stepP rfl rfl rfl (o_move rfl) ?_
            refine f_stepPY rfl rfl rfl rfl rfl (o_move rfl) ?_
            refine f_stepPY rfl rfl rfl rfl rfl (o_move rfl) ?_
            refine f_stepPY rfl rfl rfl rfl rfl (o_len sl32 rfl) ?_
            refine f_stepPY rfl rfl rfl rfl rfl (o_lss rfl rfl) ?_
            refine f_stepPY rfl rfl rfl rfl rfl (o_move rfl) ?_
            refine f_splitL 74 rfl (fun g74 => ?_) (fun g74 => ?_)
            · skip
              refine f_stepPY rfl rfl rfl rfl rfl (o_move rfl) ?_
              refine f_stepPY rfl rfl rfl rfl rfl (o_move rfl) ?_
              refine f_stepPY rfl rfl rfl rfl rfl (o_move rfl) ?_
              have hj : i < r.length := by omega
              obtain ⟨br, orr, rfl, hSr, hcr⟩ := hB (strs_ne hj)
              refine f_stepPY rfl rfl rfl rfl rfl (o_idx sl32 rfl rfl (orr + i) ⟨by omega, by omega, by first | omega | (simp; done) | (simp; omega)⟩) ?_
              refine f_stepPY rfl rfl rfl rfl rfl (o_load Try.isAgg9 rfl (roOne (enc := Value.string) hSr hcr hj)) ?_
              refine f_stepY rfl rfl rfl rfl rfl (o_callM [m] _ Try.call10 rfl (Sub.pick (Sub.refl)) (fun w_ hp_ => Send_spec _ bn m (2, 1) r[i] w_ hN hp_.owns) ?_)
              rintro u _ ⟨hu, m, rfl, hN⟩
              rw [send_fo2 _ (by have := kept_len (r.take i); simp at this; omega), ← kept_take hj] at hu hN
              subst hu
              dsimp only [List.cons_append, List.nil_append]
              refine f_stepPY rfl rfl rfl rfl rfl (o_neq rfl rfl) ?_
              refine f_stepPY rfl rfl rfl rfl rfl (o_pickT rfl rfl) ?_
              refine f_stepPY rfl rfl rfl rfl rfl (o_move rfl) ?_
              refine f_splitL 83 rfl (fun g83 => ?_) (fun g83 => ?_)
              · skip
                refine f_stepPY rfl rfl rfl rfl rfl (o_move rfl) ?_
                refine f_stepPY rfl rfl rfl rfl rfl (o_move rfl) ?_
                refine f_stepPY rfl rfl rfl rfl rfl (o_idx sl32 rfl rfl (orr + i) ⟨by omega, by omega, by first | omega | (simp; done) | (simp; omega)⟩) ?_
                refine f_stepPY rfl rfl rfl rfl rfl (o_load Try.isAgg9 rfl (roOne (enc := Value.string) hSr hcr hj)) ?_
                refine f_stepPY rfl rfl rfl rfl rfl (o_lenS Try.runUnderlying9 rfl) ?_
                refine f_stepPY rfl rfl rfl rfl rfl (o_leq rfl rfl) ?_
                refine f_stepPY rfl rfl rfl rfl rfl (o_pickT rfl rfl) ?_
                refine f_stepP rfl rfl rfl (o_pickF rfl rfl) ?_
                refine f_done ?_
                refine f_tn (kh14 _ _ ?_)
                clear kh14
                refine f_condN rfl (by intro h; rw [if_pos (by omega)] at g83; exact g83 rfl) ?_
                refine f_skip ?_
                refine f_bn ?_
                refine f_tn (kh13 _ _ ?_)
                clear kh13
                refine f_region ?_
                refine f_stepP rfl rfl rfl (o_move rfl) ?_
                refine f_stepP rfl rfl rfl (o_add rfl rfl _ (wrap_i64 (by omega))) ?_
                refine f_stepP rfl rfl rfl (o_assign rfl) ?_
                refine f_done ?_
                refine f_tn (f_again (i + 1, m) (by first | omega | (dsimp only; omega) | (simp; omega)) ⟨by omega, hN⟩ ?_ ?_ ?_)
                · exact (by repeat (first | exact trivial | refine ⟨rfl, ?_⟩))
                · exact (by repeat (first | exact trivial | refine ⟨rfl, ?_⟩))
                · repeat (first | exact Sub.nil | refine Sub.pick ?_ | refine Sub.castO rfl ?_ | refine Sub.skip ?_)
              · skip
                refine f_stepN rfl rfl rfl rfl rfl rfl ?_
                refine f_stepN rfl rfl rfl rfl rfl rfl ?_
                refine f_stepN rfl rfl rfl rfl rfl rfl ?_
                refine f_stepN rfl rfl rfl rfl rfl rfl ?_
                refine f_stepN rfl rfl rfl rfl rfl rfl ?_
                refine f_stepN rfl rfl rfl rfl rfl rfl ?_
                refine f_stepPY rfl rfl rfl rfl rfl (o_pickF rfl rfl) ?_
                refine f_stepP rfl rfl rfl (o_pickF rfl rfl) ?_
                refine f_done ?_
                refine f_tn (kh14 _ _ ?_)
                clear kh14
                refine f_condF rfl ?_
                refine f_skip ?_
                refine f_bn ?_
                refine f_tn (kh13 _ _ ?_)
                clear kh13
                refine f_region ?_
                refine f_stepP rfl rfl rfl (o_move rfl) ?_
                refine f_stepP rfl rfl rfl (o_add rfl rfl _ (wrap_i64 (by omega))) ?_
                refine f_stepP rfl rfl rfl (o_assign rfl) ?_
                refine f_done ?_
                refine f_tn (f_again (i + 1, m) (by first | omega | (dsimp only; omega) | (simp; omega)) ⟨by omega, hN⟩ ?_ ?_ ?_)
                · exact (by repeat (first | exact trivial | refine ⟨rfl, ?_⟩))
                · exact (by repeat (first | exact trivial | refine ⟨rfl, ?_⟩))
                · repeat (first | exact Sub.nil | refine Sub.pick ?_ | refine Sub.castO rfl ?_ | refine Sub.skip ?_)
            · skip
              rw [kept_stay (l := r) (i := i) (by omega)] at hN
              refine f_stepN rfl rfl rfl rfl rfl rfl ?_
              refine f_stepN rfl rfl rfl rfl rfl rfl ?_
              refine f_stepN rfl rfl rfl rfl rfl rfl ?_
              refine f_stepN rfl rfl rfl rfl rfl rfl ?_
              refine f_stepN rfl rfl rfl rfl rfl rfl ?_
              refine f_stepN rfl rfl rfl rfl rfl rfl ?_
              refine f_stepN rfl rfl rfl rfl rfl rfl ?_
              refine f_stepPY rfl rfl rfl rfl rfl (o_pickF rfl rfl) ?_
              refine f_stepPY rfl rfl rfl rfl rfl (o_move rfl) ?_
              refine f_stepN rfl rfl rfl rfl rfl rfl ?_
              refine f_stepN rfl rfl rfl rfl rfl rfl ?_
              refine f_stepN rfl rfl rfl rfl rfl rfl ?_
              refine f_stepN rfl rfl rfl rfl rfl rfl ?_
              refine f_stepN rfl rfl rfl rfl rfl rfl ?_
              refine f_stepN rfl rfl rfl rfl rfl rfl ?_
              refine f_stepPY rfl rfl rfl rfl rfl (o_pickF rfl rfl) ?_
              refine f_stepP rfl rfl rfl (o_pickF rfl rfl) ?_
              refine f_done ?_
              refine f_tn (kh14 _ _ ?_)
              clear kh14
              refine f_condF rfl ?_
              refine f_skip ?_
              refine f_bn ?_
              refine f_tn (kh13 _ _ ?_)
              clear kh13
              refine f_region ?_
              refine f_stepP rfl rfl rfl (o_move rfl) ?_
              refine f_stepP rfl rfl rfl (o_add rfl rfl _ (wrap_i64 (by omega))) ?_
              refine f_stepP rfl rfl rfl (o_assign rfl) ?_
              refine f_done ?_
              refine f_tn (f_again (i + 1, m) (by first | omega | (dsimp only; omega) | (simp; omega)) ⟨by omega, hN⟩ ?_ ?_ ?_)
              · exact (by repeat (first | exact trivial | refine ⟨rfl, ?_⟩))
              · exact (by repeat (first | exact trivial | refine ⟨rfl, ?_⟩))
              · repeat (first | exact Sub.nil | refine Sub.pick ?_ | refine Sub.castO rfl ?_ | refine Sub.skip ?_)
        · skip
          refine f_stepPY rfl rfl rfl rfl rfl (o_move rfl) ?_
          refine f_stepPY rfl rfl rfl rfl rfl (o_move rfl) ?_
          refine f_stepPY rfl rfl rfl rfl rfl (o_len sl32 rfl) ?_
          refine f_stepPY rfl rfl rfl rfl rfl (o_lss rfl rfl) ?_
          refine f_stepP rfl rfl rfl (o_pickF rfl rfl) ?_
          refine f_done ?_
          refine f_tn (kh12 _ _ ?_)
          clear kh12
          refine f_cond rfl (fun c45 => ?_) (fun c45 => ?_)
          · skip
            refine f_skip ?_
            refine f_tn (kh11 _ _ ?_)
            clear kh11
            refine f_seq fun K15 kh15 => ?_
            refine f_block ?_
            refine f_seq fun K16 kh16 => ?_
            refine f_region ?_
            refine f_stepP rfl rfl rfl (o_move rfl) ?_
            refine f_stepP rfl rfl rfl (o_move rfl) ?_
            refine f_stepP rfl rfl rfl (o_len sl32 rfl) ?_
            refine f_stepP rfl rfl rfl (o_lss rfl rfl) ?_
            refine f_stepP rfl rfl rfl (o_move rfl) ?_
            refine f_splitL 52 rfl (fun g52 => ?_) (fun g52 => ?_)
            · skip
              refine f_stepPY rfl rfl rfl rfl rfl (o_move rfl) ?_
              refine f_stepPY rfl rfl rfl rfl rfl (o_move rfl) ?_
              refine f_stepPY rfl rfl rfl rfl rfl (o_move rfl) ?_
              have hi : i < l.length := by omega
              obtain ⟨bl, ol, rfl, hS, hc⟩ := hA (strs_ne hi)
              refine f_stepPY rfl rfl rfl rfl rfl (o_idx sl32 rfl rfl (ol + i) ⟨by omega, by omega, by first | omega | (simp; done) | (simp; omega)⟩) ?_
              refine f_stepPY rfl rfl rfl rfl rfl (o_load Try.isAgg9 rfl (roOne (enc := Value.string) hS hc hi)) ?_
              refine f_stepY rfl rfl rfl rfl rfl (o_callM [m] _ Try.call10 rfl (Sub.pick (Sub.refl)) (fun w_ hp_ => Send_spec (fo (kept (l.take i)) (kept (r.take i))) bn m (0, 1) l[i] w_ hN hp_.owns) ?_)
              rintro u _ ⟨hu, m, rfl, hN⟩
              rw [send_fo1 _ (by have := kept_len (l.take i); simp at this; omega), ← kept_take hi] at hu hN
              subst hu
              dsimp only [List.cons_append, List.nil_append]
              refine f_stepPY rfl rfl rfl rfl rfl (o_neq rfl rfl) ?_
              refine f_stepP rfl rfl rfl (o_pickT rfl rfl) ?_
              refine f_stepP rfl rfl rfl (o_move rfl) ?_
              refine f_splitL 61 rfl (fun g61 => ?_) (fun g61 => ?_)
              · skip
                refine f_stepPY rfl rfl rfl rfl rfl (o_move rfl) ?_
                refine f_stepPY rfl rfl rfl rfl rfl (o_move rfl) ?_
                refine f_stepPY rfl rfl rfl rfl rfl (o_idx sl32 rfl rfl (ol + i) ⟨by omega, by omega, by first | omega | (simp; done) | (simp; omega)⟩) ?_
                refine f_stepPY rfl rfl rfl rfl rfl (o_load Try.isAgg9 rfl (roOne (enc := Value.string) hS hc hi)) ?_
                refine f_stepPY rfl rfl rfl rfl rfl (o_lenS Try.runUnderlying9 rfl) ?_
                refine f_stepPY rfl rfl rfl rfl rfl (o_leq rfl rfl) ?_
                refine f_stepP rfl rfl rfl (o_pickT rfl rfl) ?_
                refine f_stepP rfl rfl rfl (o_move rfl) ?_
                refine f_falseL 69 rfl (by intro h; rw [if_pos (by omega)] at g61; exact g61 rfl) ?_
                refine f_stepPY rfl rfl rfl rfl rfl (o_move rfl) ?_
                refine f_stepPY rfl rfl rfl rfl rfl (o_move rfl) ?_
                refine f_stepPY rfl rfl rfl rfl rfl (o_len sl32 rfl) ?_
                refine f_stepPY rfl rfl rfl rfl rfl (o_lss rfl rfl) ?_
                refine f_stepPY rfl rfl rfl rfl rfl (o_move rfl) ?_
                refine f_splitL 74 rfl (fun g74 => ?_) (fun g74 => ?_)
                · skip
                  refine f_stepPY rfl rfl rfl rfl rfl (o_move rfl) ?_
                  refine f_stepPY rfl rfl rfl rfl rfl (o_move rfl) ?_
                  refine f_stepPY rfl rfl rfl rfl rfl (o_move rfl) ?_
                  have hj : i < r.length := by omega
                  obtain ⟨br, orr, rfl, hSr, hcr⟩ := hB (strs_ne hj)
                  refine f_stepPY rfl rfl rfl rfl rfl (o_idx sl32 rfl rfl (orr + i) ⟨by omega, by omega, by first | omega | (simp; done) | (simp; omega)⟩) ?_
                  refine f_stepPY rfl rfl rfl rfl rfl (o_load Try.isAgg9 rfl (roOne (enc := Value.string) hSr hcr hj)) ?_
                  refine f_stepY rfl rfl rfl rfl rfl (o_callM [m] _ Try.call10 rfl (Sub.pick (Sub.refl)) (fun w_ hp_ => Send_spec _ bn m (2, 1) r[i] w_ hN hp_.owns) ?_)
                  rintro u _ ⟨hu, m, rfl, hN⟩
                  rw [send_fo2 _ (by have := kept_len (r.take i); simp at this; omega), ← kept_take hj] at hu hN
                  subst hu
                  dsimp only [List.cons_append, List.nil_append]
                  refine f_stepPY rfl rfl rfl rfl rfl (o_neq rfl rfl) ?_
                  refine f_stepPY rfl rfl rfl rfl rfl (o_pickT rfl rfl) ?_
                  refine f_stepPY rfl rfl rfl rfl rfl (o_move rfl) ?_
                  refine f_splitL 83 rfl (fun g83 => ?_) (fun g83 => ?_)
                  · skip
                    refine f_stepPY rfl rfl rfl rfl rfl (o_move rfl) ?_
                    refine f_stepPY rfl rfl rfl rfl rfl (o_move rfl) ?_
                    refine f_stepPY rfl rfl rfl rfl rfl (o_idx sl32 rfl rfl (orr + i) ⟨by omega, by omega, by first | omega | (simp; done) | (simp; omega)⟩) ?_
                    refine f_stepPY rfl rfl rfl rfl rfl (o_load Try.isAgg9 rfl (roOne (enc := Value.string) hSr hcr hj)) ?_
                    refine f_stepPY rfl rfl rfl rfl rfl (o_lenS Try.runUnderlying9 rfl) ?_
                    refine f_stepPY rfl rfl rfl rfl rfl (o_leq rfl rfl) ?_
                    refine f_stepPY rfl rfl rfl rfl rfl (o_pickT rfl rfl) ?_
                    refine f_stepP rfl rfl rfl (o_pickF rfl rfl) ?_
                    refine f_done ?_
                    refine f_tn (kh16 _ _ ?_)
                    clear kh16
                    refine f_condN rfl (by intro h; rw [if_pos (by omega)] at g83; exact g83 rfl) ?_
                    refine f_skip ?_
                    refine f_bn ?_
                    refine f_tn (kh15 _ _ ?_)
                    clear kh15
                    refine f_region ?_
                    refine f_stepP rfl rfl rfl (o_move rfl) ?_
                    refine f_stepP rfl rfl rfl (o_add rfl rfl _ (wrap_i64 (by omega))) ?_
                    refine f_stepP rfl rfl rfl (o_assign rfl) ?_
                    refine f_done ?_
                    refine f_tn (f_again (i + 1, m) (by first | omega | (dsimp only; omega) | (simp; omega)) ⟨by omega, hN⟩ ?_ ?_ ?_)
                    · exact (by repeat (first | exact trivial | refine ⟨rfl, ?_⟩))
                    · exact (by repeat (first | exact trivial | refine ⟨rfl, ?_⟩))
                    · repeat (first | exact Sub.nil | refine Sub.pick ?_ | refine Sub.castO rfl ?_ | refine Sub.skip ?_)
                  · skip
                    refine f_stepN rfl rfl rfl rfl rfl rfl ?_
                    refine f_stepN rfl rfl rfl rfl rfl rfl ?_
                    refine f_stepN rfl rfl rfl rfl rfl rfl ?_
                    refine f_stepN rfl rfl rfl rfl rfl rfl ?_
                    refine f_stepN rfl rfl rfl rfl rfl rfl ?_
                    refine f_stepN rfl rfl rfl rfl rfl rfl ?_
                    refine f_stepPY rfl rfl rfl rfl rfl (o_pickF rfl rfl) ?_
                    refine f_stepP rfl rfl rfl (o_pickF rfl rfl) ?_
                    refine f_done ?_
                    refine f_tn (kh16 _ _ ?_)
                    clear kh16
                    refine f_condF rfl ?_
                    refine f_skip ?_
                    refine f_bn ?_
                    refine f_tn (kh15 _ _ ?_)
                    clear kh15
                    refine f_region ?_
                    refine f_stepP rfl rfl rfl (o_move rfl) ?_
                    refine f_stepP rfl rfl rfl (o_add rfl rfl _ (wrap_i64 (by omega))) ?_
                    refine f_stepP rfl rfl rfl (o_assign rfl) ?_
                    refine f_done ?_
                    refine f_tn (f_again (i + 1, m) (by first | omega | (dsimp only; omega) | (simp; omega)) ⟨by omega, hN⟩ ?_ ?_ ?_)
                    · exact (by repeat (first | exact trivial | refine ⟨rfl, ?_⟩))
                    · exact (by repeat (first | exact trivial | refine ⟨rfl, ?_⟩))
                    · repeat (first | exact Sub.nil | refine Sub.pick ?_ | refine Sub.castO rfl ?_ | refine Sub.skip ?_)
                · skip
                  rw [kept_stay (l := r) (i := i) (by omega)] at hN
                  refine f_stepN rfl rfl rfl rfl rfl rfl ?_
                  refine f_stepN rfl rfl rfl rfl rfl rfl ?_
                  refine f_stepN rfl rfl rfl rfl rfl rfl ?_
                  refine f_stepN rfl rfl rfl rfl rfl rfl ?_
                  refine f_stepN rfl rfl rfl rfl rfl rfl ?_
                  refine f_stepN rfl rfl rfl rfl rfl rfl ?_
                  refine f_stepN rfl rfl rfl rfl rfl rfl ?_
                  refine f_stepPY rfl rfl rfl rfl rfl (o_pickF rfl rfl) ?_
                  refine f_stepPY rfl rfl rfl rfl rfl (o_move rfl) ?_
                  refine f_stepN rfl rfl rfl rfl rfl rfl ?_
                  refine f_stepN rfl rfl rfl rfl rfl rfl ?_
                  refine f_stepN rfl rfl rfl rfl rfl rfl ?_
                  refine f_stepN rfl rfl rfl rfl rfl rfl ?_
                  refine f_stepN rfl rfl rfl rfl rfl rfl ?_
                  refine f_stepN rfl rfl rfl rfl rfl rfl ?_
                  refine f_stepPY rfl rfl rfl rfl rfl (o_pickF rfl rfl) ?_
                  refine f_stepP rfl rfl rfl (o_pickF rfl rfl) ?_
                  refine f_done ?_
                  refine f_tn (kh16 _ _ ?_)
                  clear kh16
                  refine f_condF rfl ?_
                  refine f_skip ?_
                  refine f_bn ?_
                  refine f_tn (kh15 _ _ ?_)
                  clear kh15
                  refine f_region ?_
                  refine f_stepP rfl rfl rfl (o_move rfl) ?_
                  refine f_stepP rfl rfl rfl (o_add rfl rfl _ (wrap_i64 (by omega))) ?_
                  refine f_stepP rfl rfl rfl (o_assign rfl) ?_
                  refine f_done ?_
                  refine f_tn (f_again (i + 1, m) (by first | omega | (dsimp only; omega) | (simp; omega)) ⟨by omega, hN⟩ ?_ ?_ ?_)
                  · exact (by repeat (first | exact trivial | refine ⟨rfl, ?_⟩))
                  · exact (by repeat (first | exact trivial | refine ⟨rfl, ?_⟩))
                  · repeat (first | exact Sub.nil | refine Sub.pick ?_ | refine Sub.castO rfl ?_ | refine Sub.skip ?_)
              · skip
                refine f_stepN rfl rfl rfl rfl rfl rfl ?_
                refine f_stepN rfl rfl rfl rfl rfl rfl ?_
                refine f_stepN rfl rfl rfl rfl rfl rfl ?_
                refine f_stepN rfl rfl rfl rfl rfl rfl ?_
                refine f_stepN rfl rfl rfl rfl rfl rfl ?_
                refine f_stepN rfl rfl rfl rfl rfl rfl ?_
                refine f_stepP rfl rfl rfl (o_pickF rfl rfl) ?_
                refine f_stepP rfl rfl rfl (o_move rfl) ?_
                refine f_stepPY rfl rfl rfl rfl rfl (o_move rfl) ?_
                refine f_stepPY rfl rfl rfl rfl rfl (o_move rfl) ?_
                refine f_stepPY rfl rfl rfl rfl rfl (o_len sl32 rfl) ?_
                refine f_stepPY rfl rfl rfl rfl rfl (o_lss rfl rfl) ?_
                refine f_stepPY rfl rfl rfl rfl rfl (o_move rfl) ?_
                refine f_splitL 74 rfl (fun g74 => ?_) (fun g74 => ?_)
                · skip
                  refine f_stepPY rfl rfl rfl rfl rfl (o_move rfl) ?_
                  refine f_stepPY rfl rfl rfl rfl rfl (o_move rfl) ?_
                  refine f_stepPY rfl rfl rfl rfl rfl (o_move rfl) ?_
                  have hj : i < r.length := by omega
                  obtain ⟨br, orr, rfl, hSr, hcr⟩ := hB (strs_ne hj)
                  refine f_stepPY rfl rfl rfl rfl rfl (o_idx sl32 rfl rfl (orr + i) ⟨by omega, by omega, by first | omega | (simp; done) | (simp; omega)⟩) ?_
                  refine f_stepPY rfl rfl rfl rfl rfl (o_load Try.isAgg9 rfl (roOne (enc := Value.string) hSr hcr hj)) ?_
                  refine f_stepY rfl rfl rfl rfl rfl (o_callM [m] _ Try.call10 rfl (Sub.pick (Sub.refl)) (fun w_ hp_ => Send_spec _ bn m (2, 1) r[i] w_ hN hp_.owns) ?_)
                  rintro u _ ⟨hu, m, rfl, hN⟩
                  rw [send_fo2 _ (by have := kept_len (r.take i); simp at this; omega), ← kept_take hj] at hu hN
                  subst hu
                  dsimp only [List.cons_append, List.nil_append]
                  refine f_stepPY rfl rfl rfl rfl rfl (o_neq rfl rfl) ?_
                  refine f_stepPY rfl rfl rfl rfl rfl (o_pickT rfl rfl) ?_
                  refine f_stepPY rfl rfl rfl rfl rfl (o_move rfl) ?_
                  refine f_splitL 83 rfl (fun g83 => ?_) (fun g83 => ?_)
                  · skip
                    refine f_stepPY rfl rfl rfl rfl rfl (o_move rfl) ?_
                    refine f_stepPY rfl rfl rfl rfl rfl (o_move rfl) ?_
                    refine f_stepPY rfl rfl rfl rfl rfl (o_idx sl32 rfl rfl (orr + i) ⟨by omega, by omega, by first | omega | (simp; done) | (simp; omega)⟩) ?_
                    refine f_stepPY rfl rfl rfl rfl rfl (o_load Try.isAgg9 rfl (roOne (enc := Value.string) hSr hcr hj)) ?_
                    refine f_stepPY rfl rfl rfl rfl rfl (o_lenS Try.runUnderlying9 rfl) ?_
                    refine f_stepPY rfl rfl rfl rfl rfl (o_leq rfl rfl) ?_
                    refine f_stepPY rfl rfl rfl rfl rfl (o_pickT rfl rfl) ?_
                    refine f_stepP rfl rfl rfl (o_pickF rfl rfl) ?_
                    refine f_done ?_
                    refine f_tn (kh16 _ _ ?_)
                    clear kh16
                    refine f_condN rfl (by intro h; rw [if_pos (by omega)] at g83; exact g83 rfl) ?_
                    refine f_skip ?_
                    refine f_bn ?_
                    refine f_tn (kh15 _ _ ?_)
                    clear kh15
                    refine f_region ?_
                    refine f_stepP rfl rfl rfl (o_move rfl) ?_
                    refine f_stepP rfl rfl rfl (o_add rfl rfl _ (wrap_i64 (by omega))) ?_
                    refine f_stepP rfl rfl rfl (o_assign rfl) ?_
                    refine f_done ?_
                    refine f_tn (f_again (i + 1, m) (by first | omega | (dsimp only; omega) | (simp; omega)) ⟨by omega, hN⟩ ?_ ?_ ?_)
                    · exact (by repeat (first | exact trivial | refine ⟨rfl, ?_⟩))
                    · exact (by repeat (first | exact trivial | refine ⟨rfl, ?_⟩))
                    · repeat (first | exact Sub.nil | refine Sub.pick ?_ | refine Sub.castO rfl ?_ | refine Sub.skip ?_)
                  · skip
                    refine f_stepN rfl rfl rfl rfl rfl rfl ?_
                    refine f_stepN rfl rfl rfl rfl rfl rfl ?_
                    refine f_stepN rfl rfl rfl rfl rfl rfl ?_
                    refine f_stepN rfl rfl rfl rfl rfl rfl ?_
                    refine f_stepN rfl rfl rfl rfl rfl rfl ?_
                    refine f_stepN rfl rfl rfl rfl rfl rfl ?_
                    refine f_stepPY rfl rfl rfl rfl rfl (o_pickF rfl rfl) ?_
                    refine f_stepP rfl rfl rfl (o_pickF rfl rfl) ?_
                    refine f_done ?_
                    refine f_tn (kh16 _ _ ?_)
                    clear kh16
                    refine f_condF rfl ?_
                    refine f_skip ?_
                    refine f_bn ?_
                    refine f_tn (kh15 _ _ ?_)
                    clear kh15
                    refine f_region ?_
                    refine f_stepP rfl rfl rfl (o_move rfl) ?_
                    refine f_stepP rfl rfl rfl (o_add rfl rfl _ (wrap_i64 (by omega))) ?_
                    refine f_stepP rfl rfl rfl (o_assign rfl) ?_
                    refine f_done ?_
                    refine f_tn (f_again (i + 1, m) (by first | omega | (dsimp only; omega) | (simp; omega)) ⟨by omega, hN⟩ ?_ ?_ ?_)
                    · exact (by repeat (first | exact trivial | refine ⟨rfl, ?_⟩))
                    · exact (by repeat (first | exact trivial | refine ⟨rfl, ?_⟩))
                    · repeat (first | exact Sub.nil | refine Sub.pick ?_ | refine Sub.castO rfl ?_ | refine Sub.skip ?_)
                · skip
                  rw [kept_stay (l := r) (i := i) (by omega)] at hN
                  refine f_stepN rfl rfl rfl rfl rfl rfl ?_
                  refine f_stepN rfl rfl rfl rfl rfl rfl ?_
                  refine f_stepN rfl rfl rfl rfl rfl rfl ?_
                  refine f_stepN rfl rfl rfl rfl rfl rfl ?_
                  refine f_stepN rfl rfl rfl rfl rfl rfl ?_
                  refine f_stepN rfl rfl rfl rfl rfl rfl ?_
                  refine f_stepN rfl rfl rfl rfl rfl rfl ?_
                  refine f_stepPY rfl rfl rfl rfl rfl (o_pickF rfl rfl) ?_
                  refine f_stepPY rfl rfl rfl rfl rfl (o_move rfl) ?_
                  refine f_stepN rfl rfl rfl rfl rfl rfl ?_
                  refine f_stepN rfl rfl rfl rfl rfl rfl ?_
                  refine f_stepN rfl rfl rfl rfl rfl rfl ?_
                  refine f_stepN rfl rfl rfl rfl rfl rfl ?_
                  refine f_stepN rfl rfl rfl rfl rfl rfl ?_
                  refine f_stepN rfl rfl rfl rfl rfl rfl ?_
                  refine f_stepPY rfl rfl rfl rfl rfl (o_pickF rfl rfl) ?_
                  refine f_stepP rfl rfl rfl (o_pickF rfl rfl) ?_
                  refine f_done ?_
                  refine f_tn (kh16 _ _ ?_)
                  clear kh16
                  refine f_condF rfl ?_
                  refine f_skip ?_
                  refine f_bn ?_
                  refine f_tn (kh15 _ _ ?_)
                  clear kh15
                  refine f_region ?_
                  refine f_stepP rfl rfl rfl (o_move rfl) ?_
                  refine f_stepP rfl rfl rfl (o_add rfl rfl _ (wrap_i64 (by omega))) ?_
                  refine f_stepP rfl rfl rfl (o_assign rfl) ?_
                  refine f_done ?_
                  refine f_tn (f_again (i + 1, m) (by first | omega | (dsimp only; omega) | (simp; omega)) ⟨by omega, hN⟩ ?_ ?_ ?_)
                  · exact (by repeat (first | exact trivial | refine ⟨rfl, ?_⟩))
                  · exact (by repeat (first | exact trivial | refine ⟨rfl, ?_⟩))
                  · repeat (first | exact Sub.nil | refine Sub.pick ?_ | refine Sub.castO rfl ?_ | refine Sub.skip ?_)
            · skip
              rw [kept_stay (l := l) (i := i) (by omega)] at hN
              refine f_stepN rfl rfl rfl rfl rfl rfl ?_
              refine f_stepN rfl rfl rfl rfl rfl rfl ?_
              refine f_stepN rfl rfl rfl rfl rfl rfl ?_
              refine f_stepN rfl rfl rfl rfl rfl rfl ?_
              refine f_stepN rfl rfl rfl rfl rfl rfl ?_
              refine f_stepN rfl rfl rfl rfl rfl rfl ?_
              refine f_stepN rfl rfl rfl rfl rfl rfl ?_
              refine f_stepP rfl rfl rfl (o_pickF rfl rfl) ?_
              refine f_stepP rfl rfl rfl (o_move rfl) ?_
              refine f_stepN rfl rfl rfl rfl rfl rfl ?_
              refine f_stepN rfl rfl rfl rfl rfl rfl ?_
              refine f_stepN rfl rfl rfl rfl rfl rfl ?_
              refine f_stepN rfl rfl rfl rfl rfl rfl ?_
              refine f_stepN rfl rfl rfl rfl rfl rfl ?_
              refine f_stepN rfl rfl rfl rfl rfl rfl ?_
              refine f_stepP rfl rfl rfl (o_pickF rfl rfl) ?_
              refine f_stepP rfl rfl rfl (o_move rfl) ?_
              refine f_stepPY rfl rfl rfl rfl rfl (o_move rfl) ?_
              refine f_stepPY rfl rfl rfl rfl rfl (o_move rfl) ?_
              refine f_stepPY rfl rfl rfl rfl rfl (o_len sl32 rfl) ?_
              refine f_stepPY rfl rfl rfl rfl rfl (o_lss rfl rfl) ?_
              refine f_stepPY rfl rfl rfl rfl rfl (o_move rfl) ?_
              refine f_splitL 74 rfl (fun g74 => ?_) (fun g74 => ?_)
              · skip
                refine f_stepPY rfl rfl rfl rfl rfl (o_move rfl) ?_
                refine f_stepPY rfl rfl rfl rfl rfl (o_move rfl) ?_
                refine f_stepPY rfl rfl rfl rfl rfl (o_move rfl) ?_
                have hj : i < r.length := by omega
                obtain ⟨br, orr, rfl, hSr, hcr⟩ := hB (strs_ne hj)
                refine f_stepPY rfl rfl rfl rfl rfl (o_idx sl32 rfl rfl (orr + i) ⟨by omega, by omega, by first | omega | (simp; done) | (simp; omega)⟩) ?_
                refine f_stepPY rfl rfl rfl rfl rfl (o_load Try.isAgg9 rfl (roOne (enc := Value.string) hSr hcr hj)) ?_
                refine f_stepY rfl rfl rfl rfl rfl (o_callM [m] _ Try.call10 rfl (Sub.pick (Sub.refl)) (fun w_ hp_ => Send_spec _ bn m (2, 1) r[i] w_ hN hp_.owns) ?_)
                rintro u _ ⟨hu, m, rfl, hN⟩
                rw [send_fo2 _ (by have := kept_len (r.take i); simp at this; omega), ← kept_take hj] at hu hN
                subst hu
                dsimp only [List.cons_append, List.nil_append]
                refine f_stepPY rfl rfl rfl rfl rfl (o_neq rfl rfl) ?_
                refine f_stepPY rfl rfl rfl rfl rfl (o_pickT rfl rfl) ?_
                refine f_stepPY rfl rfl rfl rfl rfl (o_move rfl) ?_
                refine f_splitL 83 rfl (fun g83 => ?_) (fun g83 => ?_)
                · skip
                  refine f_stepPY rfl rfl rfl rfl rfl (o_move rfl) ?_
                  refine f_stepPY rfl rfl rfl rfl rfl (o_move rfl) ?_
                  refine f_stepPY rfl rfl rfl rfl rfl (o_idx sl32 rfl rfl (orr + i) ⟨by omega, by omega, by first | omega | (simp; done) | (simp; omega)⟩) ?_
                  refine f_stepPY rfl rfl rfl rfl rfl (o_load Try.isAgg9 rfl (roOne (enc := Value.string) hSr hcr hj)) ?_
                  refine f_stepPY rfl rfl rfl rfl rfl (o_lenS Try.runUnderlying9 rfl) ?_
                  refine f_stepPY rfl rfl rfl rfl rfl (o_leq rfl rfl) ?_
                  refine f_stepPY rfl rfl rfl rfl rfl (o_pickT rfl rfl) ?_
                  refine f_stepP rfl rfl rfl (o_pickF rfl rfl) ?_
                  refine f_done ?_
                  refine f_tn (kh16 _ _ ?_)
                  clear kh16
                  refine f_condN rfl (by intro h; rw [if_pos (by omega)] at g83; exact g83 rfl) ?_
                  refine f_skip ?_
                  refine f_bn ?_
                  refine f_tn (kh15 _ _ ?_)
                  clear kh15
                  refine f_region ?_
                  refine f_stepP rfl rfl rfl (o_move rfl) ?_
                  refine f_stepP rfl rfl rfl (o_add rfl rfl _ (wrap_i64 (by omega))) ?_
                  refine f_stepP rfl rfl rfl (o_assign rfl) ?_
                  refine f_done ?_
                  refine f_tn (f_again (i + 1, m) (by first | omega | (dsimp only; omega) | (simp; omega)) ⟨by omega, hN⟩ ?_ ?_ ?_)
                  · exact (by repeat (first | exact trivial | refine ⟨rfl, ?_⟩))
                  · exact (by repeat (first | exact trivial | refine ⟨rfl, ?_⟩))
                  · repeat (first | exact Sub.nil | refine Sub.pick ?_ | refine Sub.castO rfl ?_ | refine Sub.skip ?_)
                · skip
                  refine f_stepN rfl rfl rfl rfl rfl rfl ?_
                  refine f_stepN rfl rfl rfl rfl rfl rfl ?_
                  refine f_stepN rfl rfl rfl rfl rfl rfl ?_
                  refine f_stepN rfl rfl rfl rfl rfl rfl ?_
                  refine f_stepN rfl rfl rfl rfl rfl rfl ?_
                  refine f_stepN rfl rfl rfl rfl rfl rfl ?_
                  refine f_stepPY rfl rfl rfl rfl rfl (o_pickF rfl rfl) ?_
                  refine f_stepP rfl rfl rfl (o_pickF rfl rfl) ?_
                  refine f_done ?_
                  refine f_tn (kh16 _ _ ?_)
                  clear kh16
                  refine f_condF rfl ?_
                  refine f_skip ?_
                  refine f_bn ?_
                  refine f_tn (kh15 _ _ ?_)
                  clear kh15
                  refine f_region ?_
                  refine f_stepP rfl rfl rfl (o_move rfl) ?_
                  refine f_stepP rfl rfl rfl (o_add rfl rfl _ (wrap_i64 (by omega))) ?_
                  refine f_stepP rfl rfl rfl (o_assign rfl) ?_
                  refine f_done ?_
                  refine f_tn (f_again (i + 1, m) (by first | omega | (dsimp only; omega) | (simp; omega)) ⟨by omega, hN⟩ ?_ ?_ ?_)
                  · exact (by repeat (first | exact trivial | refine ⟨rfl, ?_⟩))
                  · exact (by repeat (first | exact trivial | refine ⟨rfl, ?_⟩))
                  · repeat (first | exact Sub.nil | refine Sub.pick ?_ | refine Sub.castO rfl ?_ | refine Sub.skip ?_)
              · skip
                rw [kept_stay (l := r) (i := i) (by omega)] at hN
                refine f_stepN rfl rfl rfl rfl rfl rfl ?_
                refine f_stepN rfl rfl rfl rfl rfl rfl ?_
                refine f_stepN rfl rfl rfl rfl rfl rfl ?_
                refine f_stepN rfl rfl rfl rfl rfl rfl ?_
                refine f_stepN rfl rfl rfl rfl rfl rfl ?_
                refine f_stepN rfl rfl rfl rfl rfl rfl ?_
                refine f_stepN rfl rfl rfl rfl rfl rfl ?_
                refine f_stepPY rfl rfl rfl rfl rfl (o_pickF rfl rfl) ?_
                refine f_stepPY rfl rfl rfl rfl rfl (o_move rfl) ?_
                refine f_stepN rfl rfl rfl rfl rfl rfl ?_
                refine f_stepN rfl rfl rfl rfl rfl rfl ?_
                refine f_stepN rfl rfl rfl rfl rfl rfl ?_
                refine f_stepN rfl rfl rfl rfl rfl rfl ?_
                refine f_stepN rfl rfl rfl rfl rfl rfl ?_
                refine f_stepN rfl rfl rfl rfl rfl rfl ?_
                refine f_stepPY rfl rfl rfl rfl rfl (o_pickF rfl rfl) ?_
                refine f_stepP rfl rfl rfl (o_pickF rfl rfl) ?_
                refine f_done ?_
                refine f_tn (kh16 _ _ ?_)
                clear kh16
                refine f_condF rfl ?_
                refine f_skip ?_
                refine f_bn ?_
                refine f_tn (kh15 _ _ ?_)
                clear kh15
                refine f_region ?_
                refine f_stepP rfl rfl rfl (o_move rfl) ?_
                refine f_stepP rfl rfl rfl (o_add rfl rfl _ (wrap_i64 (by omega))) ?_
                refine f_stepP rfl rfl rfl (o_assign rfl) ?_
                refine f_done ?_
                refine f_tn (f_again (i + 1, m) (by first | omega | (dsimp only; omega) | (simp; omega)) ⟨by omega, hN⟩ ?_ ?_ ?_)
                · exact (by repeat (first | exact trivial | refine ⟨rfl, ?_⟩))
                · exact (by repeat (first | exact trivial | refine ⟨rfl, ?_⟩))
                · repeat (first | exact Sub.nil | refine Sub.pick ?_ | refine Sub.castO rfl ?_ | refine Sub.skip ?_)
          · skip
            refine f_exit ?_
            refine f_te ?_
            clear kh11
            refine f_te ?_
            refine f_be ?_
            refine f_tn (kh9 _ _ ?_)
            clear kh9
            refine f_seq fun K17 kh17 => ?_
            refine f_seq fun K18 kh18 => ?_
            rw [kept_all (by omega), kept_all (by omega)] at hN
            refine f_region ?_
            refine f_stepP rfl rfl rfl (o_move rfl) ?_
            refine f_stepP rfl rfl rfl (o_len sl32 rfl) ?_
            refine f_stepP rfl rfl rfl (o_move rfl) ?_
            refine f_done ?_
            refine f_tn (kh18 _ _ ?_)
            clear kh18
            refine f_block ?_
            refine f_loop (α := Nat × Seg) [5, 92, 93] (fun ⟨j, m⟩ => [(94, .int .i64 (j : Int))]) (fun ⟨j, m⟩ => [m]) (fun ⟨j, m⟩ => j ≤ l.length ∧ NetRep (fo (kept (l.drop j)) (kept r)) bn m) (fun ⟨j, m⟩ => l.length - j) (0, m) ?_ ?_ ?_ ?_
            · exact (by repeat (first | exact trivial | refine ⟨rfl, ?_⟩))
            · repeat (first | exact Sub.nil | refine Sub.pick ?_ | refine Sub.castO rfl ?_ | refine Sub.skip ?_)
            · exact ⟨by omega, hN⟩
            · rintro ⟨j, m⟩ ⟨hj0, hN⟩
              refine f_seq fun K19 kh19 => ?_
              refine f_region ?_
              refine f_stepP rfl rfl rfl (o_lss rfl rfl) ?_
              refine f_done ?_
              refine f_tn (kh19 _ _ ?_)
              clear kh19
              refine f_seq fun K20 kh20 => ?_
              refine f_cond rfl (fun c95 => ?_) (fun c95 => ?_)
              · skip
                refine f_skip ?_
                refine f_tn (kh20 _ _ ?_)
                clear kh20
                refine f_seq fun K21 kh21 => ?_
                refine f_block ?_
                refine f_seq fun K22 kh22 => ?_
                refine f_region ?_
                have hk : j < l.length := by omega
                obtain ⟨bl, ol, rfl, hS, hc⟩ := hA (strs_ne hk)
                refine f_stepP rfl rfl rfl (o_idx sl32 rfl rfl (ol + j) ⟨by omega, by omega, by first | omega | (simp; done) | (simp; omega)⟩) ?_
                refine f_stepP rfl rfl rfl (o_load Try.isAgg9 rfl (roOne (enc := Value.string) hS hc hk)) ?_
                refine f_stepP rfl rfl rfl (o_assign rfl) ?_
                refine f_done ?_
                refine f_tn (kh22 _ _ ?_)
                clear kh22
                refine f_seq fun K23 kh23 => ?_
                refine f_seq fun K24 kh24 => ?_
                refine f_region ?_
                refine f_stepP rfl rfl rfl (o_move rfl) ?_
                refine f_stepP rfl rfl rfl (o_lenS Try.runUnderlying9 rfl) ?_
                refine f_stepP rfl rfl rfl (o_gtr rfl rfl) ?_
                refine f_done ?_
                refine f_tn (kh24 _ _ ?_)
                clear kh24
                refine f_cond rfl (fun c100 => ?_) (fun c100 => ?_)
                · skip
                  rw [kept_dropN hk (by omega)] at hN
                  refine f_exit ?_
                  refine f_te ?_
                  clear kh23
                  refine f_be ?_
                  refine f_tn (kh21 _ _ ?_)
                  clear kh21
                  refine f_region ?_
                  refine f_stepP rfl rfl rfl (o_add rfl rfl _ (wrap_i64 (by omega))) ?_
                  refine f_stepP rfl rfl rfl (o_move rfl) ?_
                  refine f_done ?_
                  refine f_tn (f_again (j + 1, m) (by first | omega | (dsimp only; omega) | (simp; omega)) ⟨by omega, hN⟩ ?_ ?_ ?_)
                  · exact (by repeat (first | exact trivial | refine ⟨rfl, ?_⟩))
                  · exact (by repeat (first | exact trivial | refine ⟨rfl, ?_⟩))
                  · repeat (first | exact Sub.nil | refine Sub.pick ?_ | refine Sub.castO rfl ?_ | refine Sub.skip ?_)
                · skip
                  refine f_skip ?_
                  refine f_tn (kh23 _ _ ?_)
                  clear kh23
                  refine f_seq fun K25 kh25 => ?_
                  refine f_region ?_
                  refine f_stepP rfl rfl rfl (o_move rfl) ?_
                  refine f_step rfl rfl rfl (o_callM [m] _ Try.call12 rfl (Sub.pick (Sub.refl)) (fun w_ hp_ => Take_spec (fo (kept (l.drop j)) (kept r)) bn m (0, 1) 0 w_ hN hp_.owns) ?_)
                  rintro u _ ⟨hu, m, rfl, hN⟩
                  rw [kept_dropY hk (by omega), take_fo] at hu hN
                  subst hu
                  dsimp only [List.cons_append, List.nil_append]
                  refine f_stepP rfl rfl rfl (o_move rfl) ?_
                  refine f_stepP rfl rfl rfl (o_extract rfl rfl) ?_
                  refine f_stepP rfl rfl rfl (o_extract rfl rfl) ?_
                  refine f_stepP rfl rfl rfl (o_assign rfl) ?_
                  refine f_stepP rfl rfl rfl (o_assign rfl) ?_
                  refine f_done ?_
                  refine f_tn (kh25 _ _ ?_)
                  clear kh25
                  refine f_seq fun K26 kh26 => ?_
                  refine f_region ?_
                  refine f_stepP rfl rfl rfl (o_move rfl) ?_
                  refine f_stepP rfl rfl rfl (o_neq rfl rfl) ?_
                  refine f_stepP rfl rfl rfl (o_move rfl) ?_
                  refine f_falseL 108 rfl (by decide) ?_
                  refine f_stepPY rfl rfl rfl rfl rfl (o_move rfl) ?_
                  refine f_stepPY rfl rfl rfl rfl rfl (o_move rfl) ?_
                  refine f_stepPY rfl rfl rfl rfl rfl (o_neqS rfl rfl) ?_
                  refine f_stepP rfl rfl rfl (o_pickF rfl rfl) ?_
                  refine f_done ?_
                  refine f_tn (kh26 _ _ ?_)
                  clear kh26
                  refine f_condN rfl (by simp) ?_
                  refine f_skip ?_
                  refine f_bn ?_
                  refine f_tn (kh21 _ _ ?_)
                  clear kh21
                  refine f_region ?_
                  refine f_stepP rfl rfl rfl (o_add rfl rfl _ (wrap_i64 (by omega))) ?_
                  refine f_stepP rfl rfl rfl (o_move rfl) ?_
                  refine f_done ?_
                  refine f_tn (f_again (j + 1, m) (by first | omega | (dsimp only; omega) | (simp; omega)) ⟨by omega, hN⟩ ?_ ?_ ?_)
                  · exact (by repeat (first | exact trivial | refine ⟨rfl, ?_⟩))
                  · exact (by repeat (first | exact trivial | refine ⟨rfl, ?_⟩))
                  · repeat (first | exact Sub.nil | refine Sub.pick ?_ | refine Sub.castO rfl ?_ | refine Sub.skip ?_)
              · skip
                refine f_exit ?_
                refine f_te ?_
                clear kh20
                refine f_te ?_
                refine f_be ?_
                refine f_tn (kh17 _ _ ?_)
                clear kh17
                refine f_seq fun K27 kh27 => ?_
                rw [show kept (l.drop j) = [] from by rw [List.drop_eq_nil_of_le (by omega)]; rfl] at hN
                refine f_region ?_
                refine f_stepP rfl rfl rfl (o_move rfl) ?_
                refine f_step rfl rfl rfl (o_callM [m] _ Try.call12 rfl (Sub.pick (Sub.refl)) (fun w_ hp_ => Take_spec (fo [] (kept r)) bn m (0, 1) 0 w_ hN hp_.owns) ?_)
                rintro u _ ⟨hu, m1, rfl, hN1⟩
                subst hu
                dsimp only [List.cons_append, List.nil_append]
                refine f_stepP rfl rfl rfl (o_move rfl) ?_
                refine f_stepP rfl rfl rfl (o_extract rfl rfl) ?_
                refine f_stepP rfl rfl rfl (o_extract rfl rfl) ?_
                refine f_stepP rfl rfl rfl (o_assign rfl) ?_
                refine f_stepP rfl rfl rfl (o_assign rfl) ?_
                refine f_done ?_
                refine f_tn (kh27 _ _ ?_)
                clear kh27
                refine f_seq fun K28 kh28 => ?_
                refine f_region ?_
                refine f_stepP rfl rfl rfl (o_move rfl) ?_
                refine f_stepP rfl rfl rfl (o_eql rfl rfl) ?_
                refine f_stepP rfl rfl rfl (o_assign rfl) ?_
                refine f_done ?_
                refine f_tn (kh28 _ _ ?_)
                clear kh28
                refine f_ret ?_
                exact f_fin1 [] Try.results4 rfl Sub.nil ⟨by rw [decide_eq_true (take_none _)], rfl⟩

end Go.Proofs.Ytbkneamjpiiepaa
