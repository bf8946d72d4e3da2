/- The indexed heap: container/heap over the entries, by the laws of the text PHeap. -/
import Derived.Test.YtlllpmafhnfihaaFlyT
import Derived.Test.YtlllpmafhnfihaaPHeap
namespace Go.Proofs.Ytlllpmafhnfihaa
open Go Go.RowKit Fly
set_option linter.unusedVariables false
set_option linter.unusedSimpArgs false


abbrev tsegs (bT bA N : Nat) (sl : Value) (m : Seg) (at_ : List Int) : List Seg := [[(bT, blk [sl, .slice (some ⟨bA, 0, none⟩) N N, .func (.func 66) #[] #[]] 104)], m, [(bA, blk (ints at_) 3)]]
theorem inv_Len (p : Option Addr) (args : Array Value) (w : World) : (callMethod (.iface 100 (.pointer p)) "Len" args).run Try.prog w = .ok (.enter 104 (#[.pointer p] ++ args)) w := by kernel_rfl
theorem inv_Less (p : Option Addr) (args : Array Value) (w : World) : (callMethod (.iface 100 (.pointer p)) "Less" args).run Try.prog w = .ok (.enter 105 (#[.pointer p] ++ args)) w := by kernel_rfl
theorem inv_Swap (p : Option Addr) (args : Array Value) (w : World) : (callMethod (.iface 100 (.pointer p)) "Swap" args).run Try.prog w = .ok (.enter 108 (#[.pointer p] ++ args)) w := by kernel_rfl
theorem inv_Push (p : Option Addr) (args : Array Value) (w : World) : (callMethod (.iface 100 (.pointer p)) "Push" args).run Try.prog w = .ok (.enter 107 (#[.pointer p] ++ args)) w := by kernel_rfl
theorem inv_Pop (p : Option Addr) (args : Array Value) (w : World) : (callMethod (.iface 100 (.pointer p)) "Pop" args).run Try.prog w = .ok (.enter 106 (#[.pointer p] ++ args)) w := by kernel_rfl
theorem ints_set (l : List Int) (i : Nat) (x : Int) : (ints l).set i (.int .i64 x) = ints (l.set i x) := by simp [ints, List.map_set]
theorem ints_at {l : List Int} {i : Nat} {x : Int} (h : l[i]? = some x) : (ints l)[i]? = some (.int .i64 x) := by simp [ints, h]
theorem par_div (j : Nat) : ((j : Int) - 1).tdiv 2 = (par j : Int) := by
  cases j with
  | zero => rfl
  | succ k => rw [show (((k + 1 : Nat) : Int) - 1) = (k : Int) from by omega]; exact tdiv_nat k 2
theorem wrap_par {j : Nat} (h : j ≤ 1000000) : IntKind.i64.wrap (((j : Int) - 1).tdiv 2) = (par j : Int) := by rw [par_div]; exact wrap_i64 (by unfold par; omega)
theorem wrap_two {i : Nat} (h : i ≤ 1000000) : IntKind.i64.wrap (2 * (i : Int) + 1) = ((2 * i + 1 : Nat) : Int) := by rw [wrap_i64 (by omega)]; omega
theorem wrap_two2 {i : Nat} (h : i ≤ 1000000) : IntKind.i64.wrap (((2 * i + 1 : Nat) : Int) + 1) = ((2 * i + 2 : Nat) : Int) := by rw [wrap_i64 (by omega)]; omega
theorem pars {c i : Nat} (h0 : 0 < c) (h : par c = i) : c = 2 * i + 1 ∨ c = 2 * i + 2 := by unfold par at h; omega
/-- What a function of the tree leaves. -/
def Left (bT bA N : Nat) (sl : Value) (l : List Ent) (n : Nat) (own : List Seg) (G : List Ent → Prop) : Prop :=
  ∃ l' m' at', own = tsegs bT bA N sl m' at' ∧ Own 106 2 sl l'.length (l'.flatMap entCs) m' ∧ HOk l' at' ∧ at'.length = N ∧ l'.Perm l ∧ l'.drop n = l.drop n ∧ G l'

set_option maxRecDepth 100000 in
set_option maxHeartbeats 4000000 in
theorem Ahead_spec (a b : Ent) (w : World) : Meets Try.prog 66 [.agg (entCs a).toArray, .agg (entCs b).toArray] w [] (fun u m => u = .bool (decide (elt a b)) ∧ m = []) := by
  refine f_enter Try.func66 rfl Try.ntmps66 rfl Owns.nil ?_
  refine f_seq fun K1 kh1 => ?_
  refine f_region ?_
  refine f_step rfl rfl rfl (o_box rfl rfl fun b2 => ?_)
  refine f_step rfl rfl rfl (o_box rfl rfl fun b3 => ?_)
  refine f_stepP rfl rfl rfl (o_assign rfl) ?_
  refine f_done ?_
  refine f_tn (kh1 _ _ ?_)
  clear kh1
  refine f_seq fun K2 kh2 => ?_
  refine f_seq fun K3 kh3 => ?_
  refine f_region ?_
  refine f_stepP rfl rfl rfl (o_field fa106_1 rfl) ?_
  refine f_stepP rfl rfl rfl (o_load Try.isAgg49 rfl (rdA rfl)) ?_
  refine f_stepP rfl rfl rfl (o_field fa106_1 rfl) ?_
  refine f_stepP rfl rfl rfl (o_load Try.isAgg49 rfl (rdA rfl)) ?_
  refine f_stepP rfl rfl rfl (o_neq rfl rfl) ?_
  refine f_done ?_
  refine f_tn (kh3 _ _ ?_)
  clear kh3
  refine f_cond rfl (fun c9 => ?_) (fun c9 => ?_)
  · skip
    refine f_seq fun K4 kh4 => ?_
    refine f_region ?_
    refine f_stepP rfl rfl rfl (o_field fa106_1 rfl) ?_
    refine f_stepP rfl rfl rfl (o_load Try.isAgg49 rfl (rdA rfl)) ?_
    refine f_stepP rfl rfl rfl (o_field fa106_1 rfl) ?_
    refine f_stepP rfl rfl rfl (o_load Try.isAgg49 rfl (rdA rfl)) ?_
    refine f_stepP rfl rfl rfl (o_lss rfl rfl) ?_
    refine f_stepP rfl rfl rfl (o_assign rfl) ?_
    refine f_done ?_
    refine f_tn (kh4 _ _ ?_)
    clear kh4
    refine f_ret ?_
    refine f_tr ?_
    exact f_fin1 [] Try.results66 rfl Sub.nil ⟨by congr 1; exact decide_eq_decide.2 (by unfold elt; omega), rfl⟩
  · skip
    refine f_skip ?_
    refine f_tn (kh2 _ _ ?_)
    clear kh2
    refine f_seq fun K5 kh5 => ?_
    refine f_region ?_
    refine f_stepP rfl rfl rfl (o_field fa106_0 rfl) ?_
    refine f_stepP rfl rfl rfl (o_load Try.isAgg3 rfl (rdA rfl)) ?_
    refine f_stepP rfl rfl rfl (o_field fa106_0 rfl) ?_
    refine f_stepP rfl rfl rfl (o_load Try.isAgg3 rfl (rdA rfl)) ?_
    refine f_stepP rfl rfl rfl (o_lss rfl rfl) ?_
    refine f_stepP rfl rfl rfl (o_assign rfl) ?_
    refine f_done ?_
    refine f_tn (kh5 _ _ ?_)
    clear kh5
    refine f_ret ?_
    exact f_fin1 [] Try.results66 rfl Sub.nil ⟨by congr 1; exact decide_eq_decide.2 (by unfold elt; omega), rfl⟩

set_option maxRecDepth 100000 in
set_option maxHeartbeats 4000000 in
theorem TLen_spec (bT bA N : Nat) (A : Option Addr) (cap : Nat) (m : Seg) (at_ : List Int) (l : List Ent) (w : World) (hw : Owns w (tsegs bT bA N (.slice A l.length cap) m at_)) : Meets Try.prog 104 [.pointer (some ⟨bT, 0, none⟩)] w (tsegs bT bA N (.slice A l.length cap) m at_) (fun u own' => u = .int .i64 (l.length : Int) ∧ own' = tsegs bT bA N (.slice A l.length cap) m at_) := by
  refine f_enter Try.func104 rfl Try.ntmps104 rfl hw ?_
  unfold tsegs
  refine f_seq fun K1 kh1 => ?_
  refine f_region ?_
  refine f_stepP rfl rfl rfl (o_assign rfl) ?_
  refine f_done ?_
  refine f_tn (kh1 _ _ ?_)
  clear kh1
  refine f_seq fun K2 kh2 => ?_
  refine f_region ?_
  refine f_stepP rfl rfl rfl (o_move rfl) ?_
  refine f_stepP rfl rfl rfl (o_nil rfl) ?_
  refine f_stepP rfl rfl rfl (o_field fa104_0 rfl) ?_
  refine f_stepP rfl rfl rfl (o_load Try.isAgg101 rfl (rdA rfl)) ?_
  refine f_stepP rfl rfl rfl (o_len sl101 rfl) ?_
  refine f_stepP rfl rfl rfl (o_assign rfl) ?_
  refine f_done ?_
  refine f_tn (kh2 _ _ ?_)
  clear kh2
  refine f_ret ?_
  exact f_fin1 (tsegs bT bA N (.slice A l.length cap) m at_) Try.results104 rfl (by repeat (first | exact Sub.nil | refine Sub.pick ?_ | refine Sub.castO rfl ?_)) ⟨rfl, rfl⟩

set_option maxRecDepth 100000 in
set_option maxHeartbeats 4000000 in
theorem Less_spec (bT bA N : Nat) (A : Option Addr) (cap : Nat) (m : Seg) (at_ : List Int) (l : List Ent) (i j : Nat) (w : World) (ho : Own 106 2 (.slice A l.length cap) l.length (l.flatMap entCs) m) (hi : i < l.length) (hj : j < l.length) (hw : Owns w (tsegs bT bA N (.slice A l.length cap) m at_)) : Meets Try.prog 105 [.pointer (some ⟨bT, 0, none⟩), .int .i64 (i : Int), .int .i64 (j : Int)] w (tsegs bT bA N (.slice A l.length cap) m at_) (fun u own' => u = .bool (decide (elt (eg l i) (eg l j))) ∧ own' = tsegs bT bA N (.slice A l.length cap) m at_) := by
  obtain ⟨bl, sp, rfl, rfl, hup⟩ := ho.upd (by omega)
  refine f_enter Try.func105 rfl Try.ntmps105 rfl hw ?_
  unfold tsegs
  refine f_seq fun K1 kh1 => ?_
  refine f_region ?_
  refine f_stepP rfl rfl rfl (o_assign rfl) ?_
  refine f_done ?_
  refine f_tn (kh1 _ _ ?_)
  clear kh1
  refine f_seq fun K2 kh2 => ?_
  refine f_regionT 18 rfl (by decide +kernel) ?_
  refine f_stillP rfl rfl rfl (o_move rfl) ?_
  refine f_stillP rfl rfl rfl (o_nil rfl) ?_
  refine f_stillP rfl rfl rfl (o_field fa104_2 rfl) ?_
  refine f_stillP rfl rfl rfl (o_load Try.isAgg102 rfl (rdA rfl)) ?_
  refine f_stillP rfl rfl rfl (o_move rfl) ?_
  refine f_stillP rfl rfl rfl (o_nil rfl) ?_
  refine f_stillP rfl rfl rfl (o_field fa104_0 rfl) ?_
  refine f_stillP rfl rfl rfl (o_load Try.isAgg101 rfl (rdA rfl)) ?_
  refine f_stillP rfl rfl rfl (o_move rfl) ?_
  refine f_stillP rfl rfl rfl (o_idx sl101 rfl rfl (i * 2) ⟨by omega, by omega, by first | omega | (simp; done) | (simp; omega)⟩) ?_
  refine f_stillP rfl rfl rfl (o_loadA (vs := entCs (eg l i)) Try.isAgg106 Try.sizeOf106 rfl rfl (by rw [eg_eq hi]; exact rdsOwn entCs_len hi)) ?_
  refine f_stillP rfl rfl rfl (o_move rfl) ?_
  refine f_stillP rfl rfl rfl (o_nil rfl) ?_
  refine f_stillP rfl rfl rfl (o_field fa104_0 rfl) ?_
  refine f_stillP rfl rfl rfl (o_load Try.isAgg101 rfl (rdA rfl)) ?_
  refine f_stillP rfl rfl rfl (o_move rfl) ?_
  refine f_stillP rfl rfl rfl (o_idx sl101 rfl rfl (j * 2) ⟨by omega, by omega, by first | omega | (simp; done) | (simp; omega)⟩) ?_
  refine f_stillP rfl rfl rfl (o_loadA (vs := entCs (eg l j)) Try.isAgg106 Try.sizeOf106 rfl rfl (by rw [eg_eq hj]; exact rdsOwn entCs_len hj)) ?_
  refine f_stillD (f_tail ?_)
  refine f_step rfl rfl rfl (o_callV [] _ Try.call66 rfl rfl Sub.refl (fun w_ hp_ => Ahead_spec (eg l i) (eg l j) w_) ?_)
  rintro _ _ ⟨rfl, rfl⟩
  dsimp only [List.cons_append, List.nil_append]
  refine f_stepP rfl rfl rfl (o_assign rfl) ?_
  refine f_done ?_
  refine f_tn (kh2 _ _ ?_)
  clear kh2
  refine f_ret ?_
  exact f_fin1 (tsegs bT bA N (.slice (some ⟨bl, 0, none⟩) l.length cap) [(bl, blk (l.flatMap entCs ++ sp) 106)] at_) Try.results105 rfl (by repeat (first | exact Sub.nil | refine Sub.pick ?_ | refine Sub.castO rfl ?_)) ⟨rfl, rfl⟩

set_option maxRecDepth 100000 in
set_option maxHeartbeats 4000000 in
theorem Swap_spec (bT bA N : Nat) (A : Option Addr) (cap : Nat) (m : Seg) (at_ : List Int) (l : List Ent) (i j : Nat) (w : World) (ho : Own 106 2 (.slice A l.length cap) l.length (l.flatMap entCs) m) (hH : HOk l at_) (hN : at_.length = N) (hi : i < l.length) (hj : j < l.length) (hw : Owns w (tsegs bT bA N (.slice A l.length cap) m at_)) : Meets Try.prog 108 [.pointer (some ⟨bT, 0, none⟩), .int .i64 (i : Int), .int .i64 (j : Int)] w (tsegs bT bA N (.slice A l.length cap) m at_) (fun u own' => u = .tuple #[] ∧ ∃ m', own' = tsegs bT bA N (.slice A l.length cap) m' (swAt l at_ i j) ∧ Own 106 2 (.slice A l.length cap) l.length ((sw l i j).flatMap entCs) m') := by
  obtain ⟨bl, sp, rfl, rfl, hup⟩ := ho.upd (by omega)
  have hai := hH.lt hi
  have haj := hH.lt hj
  have hsl := sw_len l i j
  have hgi : eg (sw l i j) i = eg l j := by rw [eg_sw hi hj]; split <;> simp_all
  have hgj : eg (sw l i j) j = eg l i := by rw [eg_sw hi hj, if_pos rfl]
  refine f_enter Try.func108 rfl Try.ntmps108 rfl hw ?_
  unfold tsegs
  refine f_seq fun K1 kh1 => ?_
  refine f_regionH [[(bT, blk [.slice (some ⟨bl, 0, none⟩) l.length cap, .slice (some ⟨bA, 0, none⟩) N N, .func (.func 66) #[] #[]] 104)]] rfl ?_
  refine f_take 0 rfl (by decide +kernel) rfl rfl rfl (by repeat (first | exact Sub.nil | refine Sub.pick ?_ | refine Sub.castO rfl ?_ | refine Sub.skip ?_)) (o_move rfl) ?_
  refine f_take 1 rfl (by decide +kernel) rfl rfl rfl (by repeat (first | exact Sub.nil | refine Sub.pick ?_ | refine Sub.castO rfl ?_ | refine Sub.skip ?_)) (o_nil rfl) ?_
  refine f_take 2 rfl (by decide +kernel) rfl rfl rfl (by repeat (first | exact Sub.nil | refine Sub.pick ?_ | refine Sub.castO rfl ?_ | refine Sub.skip ?_)) (o_field fa104_0 rfl) ?_
  refine f_take 3 rfl (by decide +kernel) rfl rfl rfl (by repeat (first | exact Sub.nil | refine Sub.pick ?_ | refine Sub.castO rfl ?_ | refine Sub.skip ?_)) (o_load Try.isAgg101 rfl (rdA rfl)) ?_
  refine f_take 4 rfl (by decide +kernel) rfl rfl rfl (by repeat (first | exact Sub.nil | refine Sub.pick ?_ | refine Sub.castO rfl ?_ | refine Sub.skip ?_)) (o_move rfl) ?_
  refine f_take 5 rfl (by decide +kernel) rfl rfl rfl (by repeat (first | exact Sub.nil | refine Sub.pick ?_ | refine Sub.castO rfl ?_ | refine Sub.skip ?_)) (o_move rfl) ?_
  refine f_take 6 rfl (by decide +kernel) rfl rfl rfl (by repeat (first | exact Sub.nil | refine Sub.pick ?_ | refine Sub.castO rfl ?_ | refine Sub.skip ?_)) (o_nil rfl) ?_
  refine f_take 7 rfl (by decide +kernel) rfl rfl rfl (by repeat (first | exact Sub.nil | refine Sub.pick ?_ | refine Sub.castO rfl ?_ | refine Sub.skip ?_)) (o_field fa104_0 rfl) ?_
  refine f_take 8 rfl (by decide +kernel) rfl rfl rfl (by repeat (first | exact Sub.nil | refine Sub.pick ?_ | refine Sub.castO rfl ?_ | refine Sub.skip ?_)) (o_load Try.isAgg101 rfl (rdA rfl)) ?_
  refine f_take 9 rfl (by decide +kernel) rfl rfl rfl (by repeat (first | exact Sub.nil | refine Sub.pick ?_ | refine Sub.castO rfl ?_ | refine Sub.skip ?_)) (o_move rfl) ?_
  refine f_take 10 rfl (by decide +kernel) rfl rfl rfl (by repeat (first | exact Sub.nil | refine Sub.pick ?_ | refine Sub.castO rfl ?_ | refine Sub.skip ?_)) (o_move rfl) ?_
  refine f_take 11 rfl (by decide +kernel) rfl rfl rfl (by repeat (first | exact Sub.nil | refine Sub.pick ?_ | refine Sub.castO rfl ?_ | refine Sub.skip ?_)) (o_nil rfl) ?_
  refine f_take 12 rfl (by decide +kernel) rfl rfl rfl (by repeat (first | exact Sub.nil | refine Sub.pick ?_ | refine Sub.castO rfl ?_ | refine Sub.skip ?_)) (o_field fa104_0 rfl) ?_
  refine f_take 13 rfl (by decide +kernel) rfl rfl rfl (by repeat (first | exact Sub.nil | refine Sub.pick ?_ | refine Sub.castO rfl ?_ | refine Sub.skip ?_)) (o_load Try.isAgg101 rfl (rdA rfl)) ?_
  refine f_take 14 rfl (by decide +kernel) rfl rfl rfl (by repeat (first | exact Sub.nil | refine Sub.pick ?_ | refine Sub.castO rfl ?_ | refine Sub.skip ?_)) (o_move rfl) ?_
  refine f_take 15 rfl (by decide +kernel) rfl rfl rfl (by repeat (first | exact Sub.nil | refine Sub.pick ?_ | refine Sub.castO rfl ?_ | refine Sub.skip ?_)) (o_idx sl101 rfl rfl (j * 2) ⟨by omega, by omega, by first | omega | (simp; done) | (simp; omega)⟩) ?_
  refine f_take 17 rfl (by decide +kernel) rfl rfl rfl (by repeat (first | exact Sub.nil | refine Sub.pick ?_ | refine Sub.castO rfl ?_ | refine Sub.skip ?_)) (o_move rfl) ?_
  refine f_take 18 rfl (by decide +kernel) rfl rfl rfl (by repeat (first | exact Sub.nil | refine Sub.pick ?_ | refine Sub.castO rfl ?_ | refine Sub.skip ?_)) (o_nil rfl) ?_
  refine f_take 19 rfl (by decide +kernel) rfl rfl rfl (by repeat (first | exact Sub.nil | refine Sub.pick ?_ | refine Sub.castO rfl ?_ | refine Sub.skip ?_)) (o_field fa104_0 rfl) ?_
  refine f_take 20 rfl (by decide +kernel) rfl rfl rfl (by repeat (first | exact Sub.nil | refine Sub.pick ?_ | refine Sub.castO rfl ?_ | refine Sub.skip ?_)) (o_load Try.isAgg101 rfl (rdA rfl)) ?_
  refine f_take 21 rfl (by decide +kernel) rfl rfl rfl (by repeat (first | exact Sub.nil | refine Sub.pick ?_ | refine Sub.castO rfl ?_ | refine Sub.skip ?_)) (o_move rfl) ?_
  refine f_take 22 rfl (by decide +kernel) rfl rfl rfl (by repeat (first | exact Sub.nil | refine Sub.pick ?_ | refine Sub.castO rfl ?_ | refine Sub.skip ?_)) (o_idx sl101 rfl rfl (i * 2) ⟨by omega, by omega, by first | omega | (simp; done) | (simp; omega)⟩) ?_
  refine f_two 16 23 rfl rfl (by decide +kernel) rfl rfl rfl rfl rfl rfl ?_ ?_
  · skip
    refine (o_loadA (vs := entCs (eg l j)) Try.isAgg106 Try.sizeOf106 rfl rfl (by rw [eg_eq hj]; exact rdsOwn entCs_len hj)).does ⟨(by repeat (first | exact Sub.nil | refine Sub.pick ?_ | refine Sub.castO rfl ?_ | refine Sub.skip ?_)), ?_⟩
    refine f_only 23 rfl (by decide +kernel) rfl rfl rfl ((o_loadA (vs := entCs (eg l i)) Try.isAgg106 Try.sizeOf106 rfl rfl (by rw [eg_eq hi]; exact rdsOwn entCs_len hi)).does ⟨(by repeat (first | exact Sub.nil | refine Sub.pick ?_ | refine Sub.castO rfl ?_ | refine Sub.skip ?_)), ?_⟩)
    refine f_take 24 rfl (by decide +kernel) rfl rfl rfl (by repeat (first | exact Sub.nil | refine Sub.pick ?_ | refine Sub.castO rfl ?_ | refine Sub.skip ?_)) (o_idx sl101 rfl rfl (i * 2) ⟨by omega, by omega, by first | omega | (simp; done) | (simp; omega)⟩) ?_
    refine f_only0 25 rfl (by decide +kernel) rfl rfl (o_storeA Try.sizeOf106 rfl rfl rfl rfl (by rw [List.length_append, flat_length entCs entCs_len]; simp [entCs]; omega) ((l.set i (eg l j)).flatMap entCs ++ sp) (setMany_flat entCs_len sp l i (eg l j) hi) ⟨(by repeat (first | exact Sub.nil | refine Sub.pick ?_ | refine Sub.castO rfl ?_ | refine Sub.skip ?_)), ?_⟩)
    refine f_take 26 rfl (by decide +kernel) rfl rfl rfl (by repeat (first | exact Sub.nil | refine Sub.pick ?_ | refine Sub.castO rfl ?_ | refine Sub.skip ?_)) (o_idx sl101 rfl rfl (j * 2) ⟨by omega, by omega, by first | omega | (simp; done) | (simp; omega)⟩) ?_
    refine f_only0 27 rfl (by decide +kernel) rfl rfl (o_storeA Try.sizeOf106 rfl rfl rfl rfl (by rw [List.length_append, flat_length entCs entCs_len, List.length_set]; simp [entCs]; omega) ((sw l i j).flatMap entCs ++ sp) (setMany_flat entCs_len sp (l.set i (eg l j)) j (eg l i) (by simpa using hj)) ⟨(by repeat (first | exact Sub.nil | refine Sub.pick ?_ | refine Sub.castO rfl ?_ | refine Sub.skip ?_)), ?_⟩)
    refine f_over (by decide +kernel) ?_
    refine f_tn (kh1 _ _ ?_)
    clear kh1
    refine f_regionH [[(bT, blk [.slice (some ⟨bl, 0, none⟩) l.length cap, .slice (some ⟨bA, 0, none⟩) N N, .func (.func 66) #[] #[]] 104)], [(bl, blk ((sw l i j).flatMap entCs ++ sp) 106)]] rfl ?_
    refine f_take 0 rfl (by decide +kernel) rfl rfl rfl (by repeat (first | exact Sub.nil | refine Sub.pick ?_ | refine Sub.castO rfl ?_ | refine Sub.skip ?_)) (o_move rfl) ?_
    refine f_take 1 rfl (by decide +kernel) rfl rfl rfl (by repeat (first | exact Sub.nil | refine Sub.pick ?_ | refine Sub.castO rfl ?_ | refine Sub.skip ?_)) (o_nil rfl) ?_
    refine f_take 2 rfl (by decide +kernel) rfl rfl rfl (by repeat (first | exact Sub.nil | refine Sub.pick ?_ | refine Sub.castO rfl ?_ | refine Sub.skip ?_)) (o_field fa104_1 rfl) ?_
    refine f_take 3 rfl (by decide +kernel) rfl rfl rfl (by repeat (first | exact Sub.nil | refine Sub.pick ?_ | refine Sub.castO rfl ?_ | refine Sub.skip ?_)) (o_load Try.isAgg28 rfl (rdA rfl)) ?_
    refine f_take 4 rfl (by decide +kernel) rfl rfl rfl (by repeat (first | exact Sub.nil | refine Sub.pick ?_ | refine Sub.castO rfl ?_ | refine Sub.skip ?_)) (o_move rfl) ?_
    refine f_take 5 rfl (by decide +kernel) rfl rfl rfl (by repeat (first | exact Sub.nil | refine Sub.pick ?_ | refine Sub.castO rfl ?_ | refine Sub.skip ?_)) (o_nil rfl) ?_
    refine f_take 6 rfl (by decide +kernel) rfl rfl rfl (by repeat (first | exact Sub.nil | refine Sub.pick ?_ | refine Sub.castO rfl ?_ | refine Sub.skip ?_)) (o_field fa104_0 rfl) ?_
    refine f_take 7 rfl (by decide +kernel) rfl rfl rfl (by repeat (first | exact Sub.nil | refine Sub.pick ?_ | refine Sub.castO rfl ?_ | refine Sub.skip ?_)) (o_load Try.isAgg101 rfl (rdA rfl)) ?_
    refine f_take 8 rfl (by decide +kernel) rfl rfl rfl (by repeat (first | exact Sub.nil | refine Sub.pick ?_ | refine Sub.castO rfl ?_ | refine Sub.skip ?_)) (o_move rfl) ?_
    refine f_take 9 rfl (by decide +kernel) rfl rfl rfl (by repeat (first | exact Sub.nil | refine Sub.pick ?_ | refine Sub.castO rfl ?_ | refine Sub.skip ?_)) (o_idx sl101 rfl rfl (i * 2) ⟨by omega, by omega, by first | omega | (simp; done) | (simp; omega)⟩) ?_
    refine f_take 10 rfl (by decide +kernel) rfl rfl rfl (by repeat (first | exact Sub.nil | refine Sub.pick ?_ | refine Sub.castO rfl ?_ | refine Sub.skip ?_)) (o_field fa106_0 rfl) ?_
    refine f_take 11 rfl (by decide +kernel) rfl rfl rfl (by repeat (first | exact Sub.nil | refine Sub.pick ?_ | refine Sub.castO rfl ?_ | refine Sub.skip ?_)) (o_load Try.isAgg3 rfl (rdOwn (v := .int .i64 ((eg l j).id : Int)) entCs_len (by omega) (by rw [← eg_eq (by omega), hgi]; rfl))) ?_
    refine f_take 12 rfl (by decide +kernel) rfl rfl rfl (by repeat (first | exact Sub.nil | refine Sub.pick ?_ | refine Sub.castO rfl ?_ | refine Sub.skip ?_)) (o_move rfl) ?_
    refine f_take 13 rfl (by decide +kernel) rfl rfl rfl (by repeat (first | exact Sub.nil | refine Sub.pick ?_ | refine Sub.castO rfl ?_ | refine Sub.skip ?_)) (o_nil rfl) ?_
    refine f_take 14 rfl (by decide +kernel) rfl rfl rfl (by repeat (first | exact Sub.nil | refine Sub.pick ?_ | refine Sub.castO rfl ?_ | refine Sub.skip ?_)) (o_field fa104_1 rfl) ?_
    refine f_take 15 rfl (by decide +kernel) rfl rfl rfl (by repeat (first | exact Sub.nil | refine Sub.pick ?_ | refine Sub.castO rfl ?_ | refine Sub.skip ?_)) (o_load Try.isAgg28 rfl (rdA rfl)) ?_
    refine f_take 16 rfl (by decide +kernel) rfl rfl rfl (by repeat (first | exact Sub.nil | refine Sub.pick ?_ | refine Sub.castO rfl ?_ | refine Sub.skip ?_)) (o_move rfl) ?_
    refine f_take 17 rfl (by decide +kernel) rfl rfl rfl (by repeat (first | exact Sub.nil | refine Sub.pick ?_ | refine Sub.castO rfl ?_ | refine Sub.skip ?_)) (o_nil rfl) ?_
    refine f_take 18 rfl (by decide +kernel) rfl rfl rfl (by repeat (first | exact Sub.nil | refine Sub.pick ?_ | refine Sub.castO rfl ?_ | refine Sub.skip ?_)) (o_field fa104_0 rfl) ?_
    refine f_take 19 rfl (by decide +kernel) rfl rfl rfl (by repeat (first | exact Sub.nil | refine Sub.pick ?_ | refine Sub.castO rfl ?_ | refine Sub.skip ?_)) (o_load Try.isAgg101 rfl (rdA rfl)) ?_
    refine f_take 20 rfl (by decide +kernel) rfl rfl rfl (by repeat (first | exact Sub.nil | refine Sub.pick ?_ | refine Sub.castO rfl ?_ | refine Sub.skip ?_)) (o_move rfl) ?_
    refine f_take 21 rfl (by decide +kernel) rfl rfl rfl (by repeat (first | exact Sub.nil | refine Sub.pick ?_ | refine Sub.castO rfl ?_ | refine Sub.skip ?_)) (o_idx sl101 rfl rfl (j * 2) ⟨by omega, by omega, by first | omega | (simp; done) | (simp; omega)⟩) ?_
    refine f_take 22 rfl (by decide +kernel) rfl rfl rfl (by repeat (first | exact Sub.nil | refine Sub.pick ?_ | refine Sub.castO rfl ?_ | refine Sub.skip ?_)) (o_field fa106_0 rfl) ?_
    refine f_take 23 rfl (by decide +kernel) rfl rfl rfl (by repeat (first | exact Sub.nil | refine Sub.pick ?_ | refine Sub.castO rfl ?_ | refine Sub.skip ?_)) (o_load Try.isAgg3 rfl (rdOwn (v := .int .i64 ((eg l i).id : Int)) entCs_len (by omega) (by rw [← eg_eq (by omega), hgj]; rfl))) ?_
    refine f_take 24 rfl (by decide +kernel) rfl rfl rfl (by repeat (first | exact Sub.nil | refine Sub.pick ?_ | refine Sub.castO rfl ?_ | refine Sub.skip ?_)) (o_move rfl) ?_
    refine f_take 25 rfl (by decide +kernel) rfl rfl rfl (by repeat (first | exact Sub.nil | refine Sub.pick ?_ | refine Sub.castO rfl ?_ | refine Sub.skip ?_)) (o_move rfl) ?_
    refine f_take 26 rfl (by decide +kernel) rfl rfl rfl (by repeat (first | exact Sub.nil | refine Sub.pick ?_ | refine Sub.castO rfl ?_ | refine Sub.skip ?_)) (o_idx sl28 rfl rfl ((eg l j).id) ⟨by omega, by omega, by first | omega | (simp; done) | (simp; omega)⟩) ?_
    refine f_only0 27 rfl (by decide +kernel) rfl rfl (o_store Try.sizeOf3 rfl rfl rfl rfl (by rw [ints_length]; omega) (ints (at_.set (eg l j).id (i : Int))) (ints_set _ _ _) ⟨(by repeat (first | exact Sub.nil | refine Sub.pick ?_ | refine Sub.castO rfl ?_ | refine Sub.skip ?_)), ?_⟩)
    refine f_take 28 rfl (by decide +kernel) rfl rfl rfl (by repeat (first | exact Sub.nil | refine Sub.pick ?_ | refine Sub.castO rfl ?_ | refine Sub.skip ?_)) (o_idx sl28 rfl rfl ((eg l i).id) ⟨by omega, by omega, by first | omega | (simp; done) | (simp; omega)⟩) ?_
    refine f_only0 29 rfl (by decide +kernel) rfl rfl (o_store Try.sizeOf3 rfl rfl rfl rfl (by rw [ints_length, List.length_set]; omega) (ints (swAt l at_ i j)) (ints_set _ _ _) ⟨(by repeat (first | exact Sub.nil | refine Sub.pick ?_ | refine Sub.castO rfl ?_ | refine Sub.skip ?_)), ?_⟩)
    refine f_over (by decide +kernel) ?_
    exact f_fin0n (tsegs bT bA N (.slice (some ⟨bl, 0, none⟩) l.length cap) [(bl, blk ((sw l i j).flatMap entCs ++ sp) 106)] (swAt l at_ i j)) Try.results108 (by repeat (first | exact Sub.nil | refine Sub.pick ?_ | refine Sub.castO rfl ?_)) ⟨rfl, _, rfl, hup _ (by rw [flat_length entCs entCs_len, flat_length entCs entCs_len, hsl])⟩
  · skip
    refine (o_loadA (vs := entCs (eg l i)) Try.isAgg106 Try.sizeOf106 rfl rfl (by rw [eg_eq hi]; exact rdsOwn entCs_len hi)).does ⟨(by repeat (first | exact Sub.nil | refine Sub.pick ?_ | refine Sub.castO rfl ?_ | refine Sub.skip ?_)), ?_⟩
    refine f_only 16 rfl (by decide +kernel) rfl rfl rfl ((o_loadA (vs := entCs (eg l j)) Try.isAgg106 Try.sizeOf106 rfl rfl (by rw [eg_eq hj]; exact rdsOwn entCs_len hj)).does ⟨(by repeat (first | exact Sub.nil | refine Sub.pick ?_ | refine Sub.castO rfl ?_ | refine Sub.skip ?_)), ?_⟩)
    refine f_take 24 rfl (by decide +kernel) rfl rfl rfl (by repeat (first | exact Sub.nil | refine Sub.pick ?_ | refine Sub.castO rfl ?_ | refine Sub.skip ?_)) (o_idx sl101 rfl rfl (i * 2) ⟨by omega, by omega, by first | omega | (simp; done) | (simp; omega)⟩) ?_
    refine f_only0 25 rfl (by decide +kernel) rfl rfl (o_storeA Try.sizeOf106 rfl rfl rfl rfl (by rw [List.length_append, flat_length entCs entCs_len]; simp [entCs]; omega) ((l.set i (eg l j)).flatMap entCs ++ sp) (setMany_flat entCs_len sp l i (eg l j) hi) ⟨(by repeat (first | exact Sub.nil | refine Sub.pick ?_ | refine Sub.castO rfl ?_ | refine Sub.skip ?_)), ?_⟩)
    refine f_take 26 rfl (by decide +kernel) rfl rfl rfl (by repeat (first | exact Sub.nil | refine Sub.pick ?_ | refine Sub.castO rfl ?_ | refine Sub.skip ?_)) (o_idx sl101 rfl rfl (j * 2) ⟨by omega, by omega, by first | omega | (simp; done) | (simp; omega)⟩) ?_
    refine f_only0 27 rfl (by decide +kernel) rfl rfl (o_storeA Try.sizeOf106 rfl rfl rfl rfl (by rw [List.length_append, flat_length entCs entCs_len, List.length_set]; simp [entCs]; omega) ((sw l i j).flatMap entCs ++ sp) (setMany_flat entCs_len sp (l.set i (eg l j)) j (eg l i) (by simpa using hj)) ⟨(by repeat (first | exact Sub.nil | refine Sub.pick ?_ | refine Sub.castO rfl ?_ | refine Sub.skip ?_)), ?_⟩)
    refine f_over (by decide +kernel) ?_
    refine f_tn (kh1 _ _ ?_)
    clear kh1
    refine f_regionH [[(bT, blk [.slice (some ⟨bl, 0, none⟩) l.length cap, .slice (some ⟨bA, 0, none⟩) N N, .func (.func 66) #[] #[]] 104)], [(bl, blk ((sw l i j).flatMap entCs ++ sp) 106)]] rfl ?_
    refine f_take 0 rfl (by decide +kernel) rfl rfl rfl (by repeat (first | exact Sub.nil | refine Sub.pick ?_ | refine Sub.castO rfl ?_ | refine Sub.skip ?_)) (o_move rfl) ?_
    refine f_take 1 rfl (by decide +kernel) rfl rfl rfl (by repeat (first | exact Sub.nil | refine Sub.pick ?_ | refine Sub.castO rfl ?_ | refine Sub.skip ?_)) (o_nil rfl) ?_
    refine f_take 2 rfl (by decide +kernel) rfl rfl rfl (by repeat (first | exact Sub.nil | refine Sub.pick ?_ | refine Sub.castO rfl ?_ | refine Sub.skip ?_)) (o_field fa104_1 rfl) ?_
    refine f_take 3 rfl (by decide +kernel) rfl rfl rfl (by repeat (first | exact Sub.nil | refine Sub.pick ?_ | refine Sub.castO rfl ?_ | refine Sub.skip ?_)) (o_load Try.isAgg28 rfl (rdA rfl)) ?_
    refine f_take 4 rfl (by decide +kernel) rfl rfl rfl (by repeat (first | exact Sub.nil | refine Sub.pick ?_ | refine Sub.castO rfl ?_ | refine Sub.skip ?_)) (o_move rfl) ?_
    refine f_take 5 rfl (by decide +kernel) rfl rfl rfl (by repeat (first | exact Sub.nil | refine Sub.pick ?_ | refine Sub.castO rfl ?_ | refine Sub.skip ?_)) (o_nil rfl) ?_
    refine f_take 6 rfl (by decide +kernel) rfl rfl rfl (by repeat (first | exact Sub.nil | refine Sub.pick ?_ | refine Sub.castO rfl ?_ | refine Sub.skip ?_)) (o_field fa104_0 rfl) ?_
    refine f_take 7 rfl (by decide +kernel) rfl rfl rfl (by repeat (first | exact Sub.nil | refine Sub.pick ?_ | refine Sub.castO rfl ?_ | refine Sub.skip ?_)) (o_load Try.isAgg101 rfl (rdA rfl)) ?_
    refine f_take 8 rfl (by decide +kernel) rfl rfl rfl (by repeat (first | exact Sub.nil | refine Sub.pick ?_ | refine Sub.castO rfl ?_ | refine Sub.skip ?_)) (o_move rfl) ?_
    refine f_take 9 rfl (by decide +kernel) rfl rfl rfl (by repeat (first | exact Sub.nil | refine Sub.pick ?_ | refine Sub.castO rfl ?_ | refine Sub.skip ?_)) (o_idx sl101 rfl rfl (i * 2) ⟨by omega, by omega, by first | omega | (simp; done) | (simp; omega)⟩) ?_
    refine f_take 10 rfl (by decide +kernel) rfl rfl rfl (by repeat (first | exact Sub.nil | refine Sub.pick ?_ | refine Sub.castO rfl ?_ | refine Sub.skip ?_)) (o_field fa106_0 rfl) ?_
    refine f_take 11 rfl (by decide +kernel) rfl rfl rfl (by repeat (first | exact Sub.nil | refine Sub.pick ?_ | refine Sub.castO rfl ?_ | refine Sub.skip ?_)) (o_load Try.isAgg3 rfl (rdOwn (v := .int .i64 ((eg l j).id : Int)) entCs_len (by omega) (by rw [← eg_eq (by omega), hgi]; rfl))) ?_
    refine f_take 12 rfl (by decide +kernel) rfl rfl rfl (by repeat (first | exact Sub.nil | refine Sub.pick ?_ | refine Sub.castO rfl ?_ | refine Sub.skip ?_)) (o_move rfl) ?_
    refine f_take 13 rfl (by decide +kernel) rfl rfl rfl (by repeat (first | exact Sub.nil | refine Sub.pick ?_ | refine Sub.castO rfl ?_ | refine Sub.skip ?_)) (o_nil rfl) ?_
    refine f_take 14 rfl (by decide +kernel) rfl rfl rfl (by repeat (first | exact Sub.nil | refine Sub.pick ?_ | refine Sub.castO rfl ?_ | refine Sub.skip ?_)) (o_field fa104_1 rfl) ?_
    refine f_take 15 rfl (by decide +kernel) rfl rfl rfl (by repeat (first | exact Sub.nil | refine Sub.pick ?_ | refine Sub.castO rfl ?_ | refine Sub.skip ?_)) (o_load Try.isAgg28 rfl (rdA rfl)) ?_
    refine f_take 16 rfl (by decide +kernel) rfl rfl rfl (by repeat (first | exact Sub.nil | refine Sub.pick ?_ | refine Sub.castO rfl ?_ | refine Sub.skip ?_)) (o_move rfl) ?_
    refine f_take 17 rfl (by decide +kernel) rfl rfl rfl (by repeat (first | exact Sub.nil | refine Sub.pick ?_ | refine Sub.castO rfl ?_ | refine Sub.skip ?_)) (o_nil rfl) ?_
    refine f_take 18 rfl (by decide +kernel) rfl rfl rfl (by repeat (first | exact Sub.nil | refine Sub.pick ?_ | refine Sub.castO rfl ?_ | refine Sub.skip ?_)) (o_field fa104_0 rfl) ?_
    refine f_take 19 rfl (by decide +kernel) rfl rfl rfl (by repeat (first | exact Sub.nil | refine Sub.pick ?_ | refine Sub.castO rfl ?_ | refine Sub.skip ?_)) (o_load Try.isAgg101 rfl (rdA rfl)) ?_
    refine f_take 20 rfl (by decide +kernel) rfl rfl rfl (by repeat (first | exact Sub.nil | refine Sub.pick ?_ | refine Sub.castO rfl ?_ | refine Sub.skip ?_)) (o_move rfl) ?_
    refine f_take 21 rfl (by decide +kernel) rfl rfl rfl (by repeat (first | exact Sub.nil | refine Sub.pick ?_ | refine Sub.castO rfl ?_ | refine Sub.skip ?_)) (o_idx sl101 rfl rfl (j * 2) ⟨by omega, by omega, by first | omega | (simp; done) | (simp; omega)⟩) ?_
    refine f_take 22 rfl (by decide +kernel) rfl rfl rfl (by repeat (first | exact Sub.nil | refine Sub.pick ?_ | refine Sub.castO rfl ?_ | refine Sub.skip ?_)) (o_field fa106_0 rfl) ?_
    refine f_take 23 rfl (by decide +kernel) rfl rfl rfl (by repeat (first | exact Sub.nil | refine Sub.pick ?_ | refine Sub.castO rfl ?_ | refine Sub.skip ?_)) (o_load Try.isAgg3 rfl (rdOwn (v := .int .i64 ((eg l i).id : Int)) entCs_len (by omega) (by rw [← eg_eq (by omega), hgj]; rfl))) ?_
    refine f_take 24 rfl (by decide +kernel) rfl rfl rfl (by repeat (first | exact Sub.nil | refine Sub.pick ?_ | refine Sub.castO rfl ?_ | refine Sub.skip ?_)) (o_move rfl) ?_
    refine f_take 25 rfl (by decide +kernel) rfl rfl rfl (by repeat (first | exact Sub.nil | refine Sub.pick ?_ | refine Sub.castO rfl ?_ | refine Sub.skip ?_)) (o_move rfl) ?_
    refine f_take 26 rfl (by decide +kernel) rfl rfl rfl (by repeat (first | exact Sub.nil | refine Sub.pick ?_ | refine Sub.castO rfl ?_ | refine Sub.skip ?_)) (o_idx sl28 rfl rfl ((eg l j).id) ⟨by omega, by omega, by first | omega | (simp; done) | (simp; omega)⟩) ?_
    refine f_only0 27 rfl (by decide +kernel) rfl rfl (o_store Try.sizeOf3 rfl rfl rfl rfl (by rw [ints_length]; omega) (ints (at_.set (eg l j).id (i : Int))) (ints_set _ _ _) ⟨(by repeat (first | exact Sub.nil | refine Sub.pick ?_ | refine Sub.castO rfl ?_ | refine Sub.skip ?_)), ?_⟩)
    refine f_take 28 rfl (by decide +kernel) rfl rfl rfl (by repeat (first | exact Sub.nil | refine Sub.pick ?_ | refine Sub.castO rfl ?_ | refine Sub.skip ?_)) (o_idx sl28 rfl rfl ((eg l i).id) ⟨by omega, by omega, by first | omega | (simp; done) | (simp; omega)⟩) ?_
    refine f_only0 29 rfl (by decide +kernel) rfl rfl (o_store Try.sizeOf3 rfl rfl rfl rfl (by rw [ints_length, List.length_set]; omega) (ints (swAt l at_ i j)) (ints_set _ _ _) ⟨(by repeat (first | exact Sub.nil | refine Sub.pick ?_ | refine Sub.castO rfl ?_ | refine Sub.skip ?_)), ?_⟩)
    refine f_over (by decide +kernel) ?_
    exact f_fin0n (tsegs bT bA N (.slice (some ⟨bl, 0, none⟩) l.length cap) [(bl, blk ((sw l i j).flatMap entCs ++ sp) 106)] (swAt l at_ i j)) Try.results108 (by repeat (first | exact Sub.nil | refine Sub.pick ?_ | refine Sub.castO rfl ?_)) ⟨rfl, _, rfl, hup _ (by rw [flat_length entCs entCs_len, flat_length entCs entCs_len, hsl])⟩

set_option maxRecDepth 100000 in
set_option maxHeartbeats 4000000 in
theorem TPop_spec (bT bA N : Nat) (A : Option Addr) (cap : Nat) (m : Seg) (at_ : List Int) (l : List Ent) (n : Nat) (w : World) (ho : Own 106 2 (.slice A l.length cap) l.length (l.flatMap entCs) m) (hH : HOk l at_) (hN : at_.length = N) (hn : l.length = n + 1) (hcap : l.length ≤ cap ∧ cap ≤ 9223372036854775807) (hw : Owns w (tsegs bT bA N (.slice A l.length cap) m at_)) : Meets Try.prog 106 [.pointer (some ⟨bT, 0, none⟩)] w (tsegs bT bA N (.slice A l.length cap) m at_) (fun u own' => own' = tsegs bT bA N (.slice A n cap) m (at_.set (eg l n).id (-1))) := by
  obtain ⟨bl, sp, rfl, rfl, hup⟩ := ho.upd (by omega)
  have han := hH.lt (i := n) (by omega)
  refine f_enter Try.func106 rfl Try.ntmps106 rfl hw ?_
  unfold tsegs
  refine f_seq fun K1 kh1 => ?_
  refine f_region ?_
  refine f_stepP rfl rfl rfl (o_assign rfl) ?_
  refine f_done ?_
  refine f_tn (kh1 _ _ ?_)
  clear kh1
  refine f_seq fun K2 kh2 => ?_
  refine f_region ?_
  refine f_stepP rfl rfl rfl (o_move rfl) ?_
  refine f_stepP rfl rfl rfl (o_nil rfl) ?_
  refine f_stepP rfl rfl rfl (o_field fa104_0 rfl) ?_
  refine f_stepP rfl rfl rfl (o_load Try.isAgg101 rfl (rdA rfl)) ?_
  refine f_stepP rfl rfl rfl (o_len sl101 rfl) ?_
  refine f_stepP rfl rfl rfl (o_sub rfl rfl _ (show IntKind.i64.wrap ((l.length : Int) - 1) = (n : Int) from by rw [wrap_i64 (by omega)]; omega)) ?_
  refine f_stepP rfl rfl rfl (o_assign rfl) ?_
  refine f_done ?_
  refine f_tn (kh2 _ _ ?_)
  clear kh2
  refine f_seq fun K3 kh3 => ?_
  refine f_region ?_
  refine f_stepP rfl rfl rfl (o_move rfl) ?_
  refine f_stepP rfl rfl rfl (o_nil rfl) ?_
  refine f_stepP rfl rfl rfl (o_field fa104_0 rfl) ?_
  refine f_stepP rfl rfl rfl (o_load Try.isAgg101 rfl (rdA rfl)) ?_
  refine f_stepP rfl rfl rfl (o_move rfl) ?_
  refine f_stepP rfl rfl rfl (o_idx sl101 rfl rfl (n * 2) ⟨by omega, by omega, by first | omega | (simp; done) | (simp; omega)⟩) ?_
  refine f_stepP rfl rfl rfl (o_loadA (vs := entCs (eg l n)) Try.isAgg106 Try.sizeOf106 rfl rfl (by rw [eg_eq (show n < l.length by omega)]; exact rdsOwn entCs_len (by omega))) ?_
  refine f_step rfl rfl rfl (o_alloc Try.zeroValue106 rfl fun b4 => ?_)
  refine f_step0 rfl rfl (o_storeA Try.sizeOf106 rfl rfl rfl rfl (by first | exact Nat.le_of_ble_eq_true rfl | (simp; done) | (simp; omega)) _ rfl ?_)
  refine f_done ?_
  refine f_tn (kh3 _ _ ?_)
  clear kh3
  refine f_seq fun K4 kh4 => ?_
  refine f_region ?_
  refine f_stepP rfl rfl rfl (o_move rfl) ?_
  refine f_stepP rfl rfl rfl (o_move rfl) ?_
  refine f_stepP rfl rfl rfl (o_nil rfl) ?_
  refine f_stepP rfl rfl rfl (o_field fa104_0 rfl) ?_
  refine f_stepP rfl rfl rfl (o_load Try.isAgg101 rfl (rdA rfl)) ?_
  refine f_stepP rfl rfl rfl (o_move rfl) ?_
  refine f_stepP rfl rfl rfl (o_slice sl101 rfl rfl rfl rfl (fun h => by cases h) 0 n _ (.inl ⟨rfl, rfl⟩) (.inr ⟨_, _, rfl, by omega⟩) (.inl ⟨rfl, rfl⟩) ⟨by omega, by omega, by omega⟩ (.slice (some ⟨bl, 0, none⟩) n cap) (by rw [if_neg (by omega)]; simp [add_at])) ?_
  refine f_stepP rfl rfl rfl (o_nil rfl) ?_
  refine f_stepP rfl rfl rfl (o_field fa104_0 rfl) ?_
  refine f_step0 rfl rfl (o_store Try.sizeOf101 rfl rfl rfl rfl (by first | exact Nat.le_of_ble_eq_true rfl | (simp; done) | (simp; omega)) _ rfl ?_)
  refine f_done ?_
  refine f_tn (kh4 _ _ ?_)
  clear kh4
  refine f_seq fun K5 kh5 => ?_
  refine f_regionT 7 rfl (by decide +kernel) ?_
  refine f_stillP rfl rfl rfl (o_move rfl) ?_
  refine f_stillP rfl rfl rfl (o_nil rfl) ?_
  refine f_stillP rfl rfl rfl (o_field fa104_1 rfl) ?_
  refine f_stillP rfl rfl rfl (o_load Try.isAgg28 rfl (rdA rfl)) ?_
  refine f_stillP rfl rfl rfl (o_field fa106_0 rfl) ?_
  refine f_stillP rfl rfl rfl (o_load Try.isAgg3 rfl (rdA rfl)) ?_
  refine f_stillP rfl rfl rfl (o_idx sl28 rfl rfl ((eg l n).id) ⟨by omega, by omega, by first | omega | (simp; done) | (simp; omega)⟩) ?_
  refine f_stillD (f_tail ?_)
  refine f_step0 rfl rfl (o_store Try.sizeOf3 rfl rfl rfl rfl (by rw [ints_length]; omega) (ints (at_.set (eg l n).id (-1))) (ints_set _ _ _) ?_)
  refine f_done ?_
  refine f_tn (kh5 _ _ ?_)
  clear kh5
  refine f_seq fun K6 kh6 => ?_
  refine f_region ?_
  refine f_stepP rfl rfl rfl (o_loadA (vs := [_, _]) Try.isAgg106 Try.sizeOf106 rfl rfl ⟨(rdA rfl), (rdA rfl), trivial⟩) ?_
  refine f_stepP rfl rfl rfl (o_iface Try.underlying106 rfl rfl) ?_
  refine f_stepP rfl rfl rfl (o_assign rfl) ?_
  refine f_done ?_
  refine f_tn (kh6 _ _ ?_)
  clear kh6
  refine f_ret ?_
  exact f_fin1 (tsegs bT bA N (.slice (some ⟨bl, 0, none⟩) n cap) [(bl, blk (l.flatMap entCs ++ sp) 106)] (at_.set (eg l n).id (-1))) Try.results106 rfl (by repeat (first | exact Sub.nil | refine Sub.pick ?_ | refine Sub.castO rfl ?_)) rfl

set_option maxRecDepth 100000 in
set_option maxHeartbeats 4000000 in
theorem TPush_spec (bT bA N : Nat) (A : Option Addr) (cap : Nat) (m : Seg) (at_ : List Int) (l : List Ent) (e : Ent) (w : World) (ho : Own 106 2 (.slice A l.length cap) l.length (l.flatMap entCs) m) (hN : at_.length = N) (he : e.id < N) (hl : l.length ≤ 1000000) (hw : Owns w (tsegs bT bA N (.slice A l.length cap) m at_)) : Meets Try.prog 107 [.pointer (some ⟨bT, 0, none⟩), .iface 106 (.agg (entCs e).toArray)] w (tsegs bT bA N (.slice A l.length cap) m at_) (fun u own' => u = .tuple #[] ∧ ∃ A' cap' m', own' = tsegs bT bA N (.slice A' (l ++ [e]).length cap') m' (at_.set e.id (l.length : Int)) ∧ Own 106 2 (.slice A' (l ++ [e]).length cap') (l ++ [e]).length ((l ++ [e]).flatMap entCs) m') := by
  refine f_enter Try.func107 rfl Try.ntmps107 rfl hw ?_
  unfold tsegs
  refine f_seq fun K1 kh1 => ?_
  refine f_region ?_
  refine f_stepP rfl rfl rfl (o_move rfl) ?_
  refine f_stepP rfl rfl rfl (o_assert Try.underlying106 rfl rfl) ?_
  refine f_step rfl rfl rfl (o_alloc Try.zeroValue106 rfl fun b4 => ?_)
  refine f_step0 rfl rfl (o_storeA Try.sizeOf106 rfl rfl rfl rfl (by first | exact Nat.le_of_ble_eq_true rfl | (simp; done) | (simp; omega)) _ rfl ?_)
  refine f_done ?_
  refine f_tn (kh1 _ _ ?_)
  clear kh1
  refine f_seq fun K2 kh2 => ?_
  refine f_regionT 12 rfl (by decide +kernel) ?_
  refine f_stillP rfl rfl rfl (o_move rfl) ?_
  refine f_stillP rfl rfl rfl (o_nil rfl) ?_
  refine f_stillP rfl rfl rfl (o_field fa104_1 rfl) ?_
  refine f_stillP rfl rfl rfl (o_load Try.isAgg28 rfl (rdA rfl)) ?_
  refine f_stillP rfl rfl rfl (o_field fa106_0 rfl) ?_
  refine f_stillP rfl rfl rfl (o_load Try.isAgg3 rfl (rdA rfl)) ?_
  refine f_stillP rfl rfl rfl (o_move rfl) ?_
  refine f_stillP rfl rfl rfl (o_nil rfl) ?_
  refine f_stillP rfl rfl rfl (o_field fa104_0 rfl) ?_
  refine f_stillP rfl rfl rfl (o_load Try.isAgg101 rfl (rdA rfl)) ?_
  refine f_stillP rfl rfl rfl (o_len sl101 rfl) ?_
  refine f_stillP rfl rfl rfl (o_idx sl28 rfl rfl (e.id) ⟨by omega, by omega, by first | omega | (simp; done) | (simp; omega)⟩) ?_
  refine f_stillD (f_tail ?_)
  refine f_step0 rfl rfl (o_store Try.sizeOf3 rfl rfl rfl rfl (by rw [ints_length]; omega) (ints (at_.set e.id (l.length : Int))) (ints_set _ _ _) ?_)
  refine f_done ?_
  refine f_tn (kh2 _ _ ?_)
  clear kh2
  refine f_regionH [[(b4, blk (entCs e) 106)]] rfl ?_
  refine f_take 0 rfl (by decide +kernel) rfl rfl rfl (by repeat (first | exact Sub.nil | refine Sub.pick ?_ | refine Sub.castO rfl ?_ | refine Sub.skip ?_)) (o_move rfl) ?_
  refine f_take 1 rfl (by decide +kernel) rfl rfl rfl (by repeat (first | exact Sub.nil | refine Sub.pick ?_ | refine Sub.castO rfl ?_ | refine Sub.skip ?_)) (o_move rfl) ?_
  refine f_take 2 rfl (by decide +kernel) rfl rfl rfl (by repeat (first | exact Sub.nil | refine Sub.pick ?_ | refine Sub.castO rfl ?_ | refine Sub.skip ?_)) (o_nil rfl) ?_
  refine f_take 3 rfl (by decide +kernel) rfl rfl rfl (by repeat (first | exact Sub.nil | refine Sub.pick ?_ | refine Sub.castO rfl ?_ | refine Sub.skip ?_)) (o_field fa104_0 rfl) ?_
  refine f_take 5 rfl (by decide +kernel) rfl rfl rfl (by repeat (first | exact Sub.nil | refine Sub.pick ?_ | refine Sub.castO rfl ?_ | refine Sub.skip ?_)) (o_loadA (vs := [_, _]) Try.isAgg106 Try.sizeOf106 rfl rfl ⟨(rdA rfl), (rdA rfl), trivial⟩) ?_
  refine f_two 4 6 rfl rfl (by decide +kernel) rfl rfl rfl rfl rfl rfl ?_ ?_
  · skip
    refine (o_load Try.isAgg101 rfl (rdA rfl)).does ⟨(by repeat (first | exact Sub.nil | refine Sub.pick ?_ | refine Sub.castO rfl ?_ | refine Sub.skip ?_)), ?_⟩
    refine f_only 6 rfl (by decide +kernel) rfl rfl rfl (o_slice1 el101 (by omega) rfl rfl rfl fun b25 => ⟨(by repeat (first | exact Sub.nil | refine Sub.pick ?_ | refine Sub.castO rfl ?_ | refine Sub.skip ?_)), ?_⟩)
    refine f_only 7 rfl (by decide +kernel) rfl rfl rfl (o_append el101 rfl rfl ho (ys := entCs e) ⟨(rdA rfl), (rdA rfl), trivial⟩ rfl rfl (by omega) (by omega) fun v26 m26 o26 => ⟨(by repeat (first | exact Sub.nil | refine Sub.pick ?_ | refine Sub.castO rfl ?_ | refine Sub.skip ?_)), ?_⟩)
    obtain ⟨A26, cap26, rfl, _⟩ := o26.val
    refine f_take 8 rfl (by decide +kernel) rfl rfl rfl (by repeat (first | exact Sub.nil | refine Sub.pick ?_ | refine Sub.castO rfl ?_ | refine Sub.skip ?_)) (o_nil rfl) ?_
    refine f_take 9 rfl (by decide +kernel) rfl rfl rfl (by repeat (first | exact Sub.nil | refine Sub.pick ?_ | refine Sub.castO rfl ?_ | refine Sub.skip ?_)) (o_field fa104_0 rfl) ?_
    refine f_only0 10 rfl (by decide +kernel) rfl rfl (o_store Try.sizeOf101 rfl rfl rfl rfl (by first | exact Nat.le_of_ble_eq_true rfl | (simp; done) | (simp; omega)) _ rfl ⟨(by repeat (first | exact Sub.nil | refine Sub.pick ?_ | refine Sub.castO rfl ?_ | refine Sub.skip ?_)), ?_⟩)
    refine f_over (by decide +kernel) ?_
    have e1 : l.flatMap entCs ++ entCs e = (l ++ [e]).flatMap entCs := by simp
    rw [e1] at o26
    have e2 : l.length + 1 = (l ++ [e]).length := by simp
    rw [e2] at o26
    exact f_fin0n (tsegs bT bA N (.slice A26 (l ++ [e]).length cap26) m26 (at_.set e.id (l.length : Int))) Try.results107 (by rw [← e2]; repeat (first | exact Sub.nil | refine Sub.pick ?_ | refine Sub.castO rfl ?_)) ⟨rfl, _, _, _, rfl, o26⟩
  · skip
    refine (o_slice1 el101 (by omega) rfl rfl rfl fun b25 => ⟨(by repeat (first | exact Sub.nil | refine Sub.pick ?_ | refine Sub.castO rfl ?_ | refine Sub.skip ?_)), ?_⟩)
    refine f_only 4 rfl (by decide +kernel) rfl rfl rfl ((o_load Try.isAgg101 rfl (rdA rfl)).does ⟨(by repeat (first | exact Sub.nil | refine Sub.pick ?_ | refine Sub.castO rfl ?_ | refine Sub.skip ?_)), ?_⟩)
    refine f_only 7 rfl (by decide +kernel) rfl rfl rfl (o_append el101 rfl rfl ho (ys := entCs e) ⟨(rdA rfl), (rdA rfl), trivial⟩ rfl rfl (by omega) (by omega) fun v26 m26 o26 => ⟨(by repeat (first | exact Sub.nil | refine Sub.pick ?_ | refine Sub.castO rfl ?_ | refine Sub.skip ?_)), ?_⟩)
    obtain ⟨A26, cap26, rfl, _⟩ := o26.val
    refine f_take 8 rfl (by decide +kernel) rfl rfl rfl (by repeat (first | exact Sub.nil | refine Sub.pick ?_ | refine Sub.castO rfl ?_ | refine Sub.skip ?_)) (o_nil rfl) ?_
    refine f_take 9 rfl (by decide +kernel) rfl rfl rfl (by repeat (first | exact Sub.nil | refine Sub.pick ?_ | refine Sub.castO rfl ?_ | refine Sub.skip ?_)) (o_field fa104_0 rfl) ?_
    refine f_only0 10 rfl (by decide +kernel) rfl rfl (o_store Try.sizeOf101 rfl rfl rfl rfl (by first | exact Nat.le_of_ble_eq_true rfl | (simp; done) | (simp; omega)) _ rfl ⟨(by repeat (first | exact Sub.nil | refine Sub.pick ?_ | refine Sub.castO rfl ?_ | refine Sub.skip ?_)), ?_⟩)
    refine f_over (by decide +kernel) ?_
    have e1 : l.flatMap entCs ++ entCs e = (l ++ [e]).flatMap entCs := by simp
    rw [e1] at o26
    have e2 : l.length + 1 = (l ++ [e]).length := by simp
    rw [e2] at o26
    exact f_fin0n (tsegs bT bA N (.slice A26 (l ++ [e]).length cap26) m26 (at_.set e.id (l.length : Int))) Try.results107 (by rw [← e2]; repeat (first | exact Sub.nil | refine Sub.pick ?_ | refine Sub.castO rfl ?_)) ⟨rfl, _, _, _, rfl, o26⟩

set_option maxRecDepth 100000 in
set_option maxHeartbeats 4000000 in
theorem up_spec (bT bA N : Nat) (A : Option Addr) (cap : Nat) (m : Seg) (at_ : List Int) (l : List Ent) (n j : Nat) (w : World) (ho : Own 106 2 (.slice A l.length cap) l.length (l.flatMap entCs) m) (hH : HOk l at_) (hN : at_.length = N) (hU : UpOk l n j) (hj : j < n) (hn : n ≤ l.length) (hl : l.length ≤ 1000000) (hw : Owns w (tsegs bT bA N (.slice A l.length cap) m at_)) : Meets Try.prog 81 [.iface 100 (.pointer (some ⟨bT, 0, none⟩)), .int .i64 (j : Int)] w (tsegs bT bA N (.slice A l.length cap) m at_) (fun u own' => u = .tuple #[] ∧ Left bT bA N (.slice A l.length cap) l n own' (fun l' => Full l' n)) := by
  refine f_enter Try.func81 rfl Try.ntmps81 rfl hw ?_
  refine f_block ?_
  refine f_loop (α := Nat × List Ent × Seg × List Int) [0] (fun ⟨j', l', m', at'⟩ => [(1, .int .i64 (j' : Int))]) (fun ⟨j', l', m', at'⟩ => [[(bT, blk [.slice A l.length cap, .slice (some ⟨bA, 0, none⟩) N N, .func (.func 66) #[] #[]] 104)], m', [(bA, blk (ints at') 3)]]) (fun ⟨j', l', m', at'⟩ => Own 106 2 (.slice A l'.length cap) l'.length (l'.flatMap entCs) m' ∧ HOk l' at' ∧ at'.length = N ∧ UpOk l' n j' ∧ j' < n ∧ l'.Perm l ∧ l'.drop n = l.drop n) (fun ⟨j', l', m', at'⟩ => j') (j, l, m, at_) ?_ ?_ ?_ ?_
  · exact (by repeat (first | exact trivial | refine ⟨rfl, ?_⟩))
  · repeat (first | exact Sub.nil | refine Sub.pick ?_ | refine Sub.castO rfl ?_ | refine Sub.skip ?_)
  · exact ⟨ho, hH, hN, hU, hj, List.Perm.refl _, rfl⟩
  · rintro ⟨j', l', m', at'⟩ ⟨ho', hH', hN', hU', hj', hp', hd'⟩
    have hll := hp'.length_eq
    have hpj : par j' ≤ j' := by unfold par; omega
    refine f_block ?_
    refine f_seq fun K1 kh1 => ?_
    refine f_region ?_
    refine f_stepP rfl rfl rfl (o_move rfl) ?_
    refine f_stepP rfl rfl rfl (o_sub rfl rfl _ (wrap_i64 (by omega))) ?_
    refine f_stepP rfl rfl rfl (o_quo rfl rfl (by decide) (par j' : Int) (wrap_par (by omega))) ?_
    refine f_stepP rfl rfl rfl (o_assign rfl) ?_
    refine f_done ?_
    refine f_tn (kh1 _ _ ?_)
    clear kh1
    refine f_seq fun K2 kh2 => ?_
    refine f_seq fun K3 kh3 => ?_
    refine f_region ?_
    refine f_stepP rfl rfl rfl (o_move rfl) ?_
    refine f_stepP rfl rfl rfl (o_move rfl) ?_
    refine f_stepP rfl rfl rfl (o_eql rfl rfl) ?_
    refine f_stepP rfl rfl rfl (o_move rfl) ?_
    refine f_splitL 11 rfl (fun g11 => ?_) (fun g11 => ?_)
    · skip
      refine f_stepN rfl rfl rfl rfl rfl rfl ?_
      refine f_stepN rfl rfl rfl rfl rfl rfl ?_
      refine f_stepN rfl rfl rfl rfl rfl rfl ?_
      refine f_stepN rfl rfl rfl rfl rfl rfl ?_
      refine f_stepN rfl rfl rfl rfl rfl rfl ?_
      refine f_stepP rfl rfl rfl (o_pickT rfl rfl) ?_
      refine f_done ?_
      refine f_tn (kh3 _ _ ?_)
      clear kh3
      refine f_condT rfl ?_
      refine f_exit ?_
      refine f_te ?_
      clear kh2
      refine f_bo rfl ?_
      refine f_te ?_
      refine f_be ?_
      have hj0 : j' = 0 := by unfold par at g11; omega
      subst hj0
      exact f_fin0n (tsegs bT bA N (.slice A l.length cap) m' at') Try.results81 (by repeat (first | exact Sub.nil | refine Sub.pick ?_ | refine Sub.castO rfl ?_)) ⟨rfl, l', m', at', rfl, by rw [hll] at ho'; rw [hll]; exact ho', hH', hN', hp', hd', up_zero hU'⟩
    · skip
      have hj0 : 0 < j' := by unfold par at g11; omega
      have hpl : par j' < j' := by unfold par; omega
      refine f_stepPY rfl rfl rfl rfl rfl (o_move rfl) ?_
      refine f_stepPY rfl rfl rfl rfl rfl (o_move rfl) ?_
      refine f_stepPY rfl rfl rfl rfl rfl (o_move rfl) ?_
      refine f_stepY rfl rfl rfl rfl rfl (o_invoke (tsegs bT bA N (.slice A l'.length cap) m' at') _ (inv_Less (some ⟨bT, 0, none⟩)) rfl rfl (by rw [hll]; unfold tsegs; exact Sub.pick (Sub.pick (Sub.pick Sub.refl))) (fun w_ hp_ => Less_spec bT bA N A cap m' at' l' j' (par j') w_ ho' (by omega) (by omega) hp_.owns) ?_)
      rintro _ _ ⟨rfl, rfl⟩
      unfold tsegs
      rw [hll]
      dsimp only [List.cons_append, List.nil_append]
      refine f_stepPY rfl rfl rfl rfl rfl (o_not rfl) ?_
      refine f_stepP rfl rfl rfl (o_pickF rfl rfl) ?_
      refine f_done ?_
      refine f_tn (kh3 _ _ ?_)
      clear kh3
      refine f_condB rfl (fun c17 => ?_) (fun c17 => ?_)
      · skip
        refine f_exit ?_
        refine f_te ?_
        clear kh2
        refine f_bo rfl ?_
        refine f_te ?_
        refine f_be ?_
        exact f_fin0n (tsegs bT bA N (.slice A l.length cap) m' at') Try.results81 (by repeat (first | exact Sub.nil | refine Sub.pick ?_ | refine Sub.castO rfl ?_)) ⟨rfl, l', m', at', rfl, by rw [hll] at ho'; rw [hll]; exact ho', hH', hN', hp', hd', up_stop hU' (by simpa using c17)⟩
      · skip
        have c17 : elt (eg l' j') (eg l' (par j')) := by simpa using c17
        refine f_skip ?_
        refine f_tn (kh2 _ _ ?_)
        clear kh2
        refine f_seq fun K4 kh4 => ?_
        refine f_region ?_
        refine f_stepP rfl rfl rfl (o_move rfl) ?_
        refine f_stepP rfl rfl rfl (o_move rfl) ?_
        refine f_stepP rfl rfl rfl (o_move rfl) ?_
        refine f_step rfl rfl rfl (o_invoke (tsegs bT bA N (.slice A l'.length cap) m' at') _ (inv_Swap (some ⟨bT, 0, none⟩)) rfl rfl (by rw [hll]; unfold tsegs; exact Sub.pick (Sub.pick (Sub.pick Sub.refl))) (fun w_ hp_ => Swap_spec bT bA N A cap m' at' l' (par j') j' w_ ho' hH' hN' (by omega) (by omega) hp_.owns) ?_)
        rintro _ _ ⟨rfl, m'', rfl, ho''⟩
        unfold tsegs
        rw [hll]
        dsimp only [List.cons_append, List.nil_append]
        refine f_done ?_
        refine f_tn (kh4 _ _ ?_)
        clear kh4
        refine f_region ?_
        refine f_stepP rfl rfl rfl (o_move rfl) ?_
        refine f_stepP rfl rfl rfl (o_assign rfl) ?_
        refine f_done ?_
        refine f_bn ?_
        refine f_tn (f_again (par j', sw l' (par j') j', m'', swAt l' at' (par j') j') (by first | omega | (dsimp only; omega) | (simp; omega)) ⟨by rw [sw_len]; exact ho'', hH'.sw (by omega) (by omega), by rw [swAt_len]; exact hN', up_step hU' hj0 hj' (by omega) c17, by omega, (sw_perm (by omega) (by omega)).trans hp', by rw [sw_drop (by omega) hj']; exact hd'⟩ ?_ ?_ ?_)
        · exact (by repeat (first | exact trivial | refine ⟨rfl, ?_⟩))
        · exact (by repeat (first | exact trivial | refine ⟨rfl, ?_⟩))
        · repeat (first | exact Sub.nil | refine Sub.pick ?_ | refine Sub.castO rfl ?_ | refine Sub.skip ?_)

end Go.Proofs.Ytlllpmafhnfihaa
