import Derived.Test.YtkhjckghpakliaaAll3
import Derived.Test.YtkhjckghpakliaaAll1
import Derived.Test.YtkhjckghpakliaaAll0
import Derived.Test.YtkhjckghpakliaaFlyOps2
import Derived.RangeFuncRecord
import Derived.TacticsIn

/- grow.sides: the neighbours of each vertex, rising. -/
namespace Go.Proofs.Ytkhjckghpakliaa
open Go Go.RowKit Fly
set_option linter.unusedVariables false
set_option linter.unusedSimpArgs false


def rawRows (n : Nat) (l : List Arc) : List (List Int) := (List.range n).map fun v => l.flatMap (nbr (Int.ofNat v))
def nrows (n : Nat) (l : List Arc) : List (List Int) := (List.range n).map fun v => nbrs (Int.ofNat v) l
/-- Rows of which the first j are in order. -/
def mixRows (n : Nat) (l : List Arc) (j : Nat) : List (List Int) := (List.range n).map fun v => if v < j then nbrs (Int.ofNat v) l else l.flatMap (nbr (Int.ofNat v))
theorem rawRows_len (n : Nat) (l : List Arc) : (rawRows n l).length = n := by simp [rawRows]
theorem nrows_len (n : Nat) (l : List Arc) : (nrows n l).length = n := by simp [nrows]
theorem mixRows_len (n : Nat) (l : List Arc) (j : Nat) : (mixRows n l j).length = n := by simp [mixRows]
theorem rawRows_get {n : Nat} {l : List Arc} {i : Nat} (h : i < (rawRows n l).length) : (rawRows n l)[i] = l.flatMap (nbr (i : Int)) := by simp [rawRows]
theorem nrows_get {n : Nat} {l : List Arc} {i : Nat} (h : i < (nrows n l).length) : (nrows n l)[i] = nbrs (i : Int) l := by simp [nrows]
theorem mixRows_get {n : Nat} {l : List Arc} {i j : Nat} (h : i < (mixRows n l j).length) : (mixRows n l j)[i] = if i < j then nbrs (i : Int) l else l.flatMap (nbr (i : Int)) := by simp [mixRows]
theorem rawRows_nil (n : Nat) : rawRows n [] = List.replicate n [] := by
  refine List.ext_getElem (by simp [rawRows]) fun i h1 h2 => ?_
  rw [rawRows_get]; simp
theorem rawRows_same {n : Nat} {l : List Arc} {k : Nat} (hk : k < l.length) (h : l[k].src = l[k].dst) : rawRows n (l.take (k + 1)) = rawRows n (l.take k) := by
  refine List.ext_getElem (by simp [rawRows]) fun i h1 h2 => ?_
  rw [rawRows_get, rawRows_get, nbr_next hk]
  simp [nbr, h]
theorem rawRows_two {n : Nat} {l : List Arc} {k s d : Nat} (hk : k < l.length) (hs : l[k].src = (s : Int)) (hd : l[k].dst = (d : Int)) (hne : s ≠ d) :
    ((rawRows n (l.take k)).set s ((l.take k).flatMap (nbr (s : Int)) ++ [l[k].dst])).set d ((l.take k).flatMap (nbr (d : Int)) ++ [l[k].src]) = rawRows n (l.take (k + 1)) := by
  refine List.ext_getElem (by simp [rawRows]) fun i h1 h2 => ?_
  have e1 : ¬ l[k].src = l[k].dst := by omega
  rw [rawRows_get, nbr_next hk]
  by_cases h : i = d
  · subst h
    rw [List.getElem_set_self]
    unfold nbr
    rw [if_neg e1, if_neg (by omega), if_pos (by omega)]
  · rw [List.getElem_set_ne (by omega)]
    by_cases h' : i = s
    · subst h'
      rw [List.getElem_set_self]
      unfold nbr
      rw [if_neg e1, if_pos (by omega)]
    · rw [List.getElem_set_ne (by omega), rawRows_get]
      unfold nbr
      rw [if_neg e1, if_neg (by omega), if_neg (by omega)]; simp
theorem mixRows_zero (n : Nat) (l : List Arc) : mixRows n l 0 = rawRows n l := by simp [mixRows, rawRows]
theorem mixRows_all (n : Nat) (l : List Arc) : mixRows n l n = nrows n l := by
  refine List.ext_getElem (by simp [mixRows, nrows]) fun i h1 h2 => ?_
  rw [mixRows_get, nrows_get, if_pos (by simpa [nrows] using h2)]
theorem mixRows_next {n : Nat} {l : List Arc} {j : Nat} : (mixRows n l j).set j (cpt (sortI (l.flatMap (nbr (j : Int))))) = mixRows n l (j + 1) := by
  refine List.ext_getElem (by simp [mixRows]) fun i h1 h2 => ?_
  rw [mixRows_get]
  by_cases h : i = j
  · subst h; rw [List.getElem_set_self, if_pos (by omega)]; rfl
  · rw [List.getElem_set_ne (by omega), mixRows_get]
    by_cases h' : i < j
    · rw [if_pos h', if_pos (by omega)]
    · rw [if_neg h', if_neg (by omega)]
theorem ints_len1' {E : TypeId} {v : Value} {l : List Int} {x : Int} {m : Seg} : Own E 1 v (l.length + 1) (ints l ++ [.int .i64 x]) m = Own E 1 v (l ++ [x]).length (ints (l ++ [x])) m := by rw [ints_append, List.length_append]; rfl
theorem rep_flat' (n : Nat) (v : Value) : List.replicate n v = (List.replicate n [v]).flatten := by
  induction n with
  | zero => rfl
  | succ n ih => rw [List.replicate_succ, List.replicate_succ, List.flatten_cons, ← ih]; rfl

set_option maxRecDepth 100000 in
set_option maxHeartbeats 4000000 in
theorem sides_spec (n : Nat) (A : Option Addr) (l : List Arc) (cap : Nat) (w : World) (hr : Ro (Fr w []) w A (l.flatMap arcCs)) (hn : n ≤ 1024) (hlen : l.length ≤ 8192) (hgd : ∀ k (hk : k < l.length), 0 ≤ l[k].src ∧ l[k].src < (n : Int) ∧ 0 ≤ l[k].dst ∧ l[k].dst < (n : Int)) :
    Meets Try.prog 32 [.agg #[.int .i64 (n : Int), .slice A l.length cap]] w [] (fun u own' => ∃ bo vs ms, u = .slice (some ⟨bo, 0, none⟩) n n ∧ own' = [[(bo, blk vs 25)], ms.flatten] ∧ RowsI 3 (nrows n l) vs ms) := by
 refine f_enter Try.func32 rfl Try.ntmps32 rfl Owns.nil ?_
 refine f_seq fun K1 kh1 => ?_
 refine f_region ?_
 refine f_step rfl rfl rfl (o_box rfl rfl fun b1 => ?_)
 refine f_stepP rfl rfl rfl (o_assign rfl) ?_
 refine f_done ?_
 refine f_tn (kh1 _ _ ?_)
 clear kh1
 refine f_seq fun K2 kh2 => ?_
 refine f_region ?_
 refine f_stepP rfl rfl rfl (o_field fa24_0 rfl) ?_
 refine f_stepP rfl rfl rfl (o_load Try.isAgg3 rfl (rdA rfl)) ?_
 refine f_step rfl rfl rfl (o_make el67 rfl rfl n rfl (by omega) (by omega) (List.replicate n (.slice none 0 0)) (rep_flat' n _).symm fun b9 => ?_)
 refine f_stepP rfl rfl rfl (o_assign rfl) ?_
 refine f_done ?_
 refine f_tn (kh2 _ _ ?_)
 clear kh2
 refine f_seq fun K3 kh3 => ?_
 refine f_seq fun K4 kh4 => ?_
 refine f_region ?_
 refine f_stepP rfl rfl rfl (o_field fa24_1 rfl) ?_
 refine f_stepP rfl rfl rfl (o_load Try.isAgg22 rfl (rdA rfl)) ?_
 refine f_stepP rfl rfl rfl (o_len sl22 rfl) ?_
 refine f_stepP rfl rfl rfl (o_move rfl) ?_
 refine f_done ?_
 refine f_tn (kh4 _ _ ?_)
 clear kh4
 refine f_block ?_
 refine f_loop (α := Nat × List Value × List Seg) [3, 11, 12] (fun ⟨k, vs, ms⟩ => [(13, .int .i64 (k : Int))]) (fun ⟨k, vs, ms⟩ => [[(b9, blk vs 25)], ms.flatten, [(b1, blk [.int .i64 (n : Int), .slice A l.length cap] 24)]]) (fun ⟨k, vs, ms⟩ => k ≤ l.length ∧ RowsI 3 (rawRows n (l.take k)) vs ms) (fun ⟨k, vs, ms⟩ => l.length - k) (0, List.replicate n (.slice none 0 0), List.replicate n []) ?_ ?_ ?_ ?_
 · exact (by repeat (first | exact trivial | refine ⟨rfl, ?_⟩))
 · dsimp only
   rw [show (List.replicate n ([] : Seg)).flatten = [] from by simp]
   repeat (first | exact Sub.nil | refine Sub.pick ?_ | refine Sub.castO rfl ?_ | refine Sub.skip ?_)
 · exact ⟨by omega, by rw [List.take_zero, rawRows_nil]; exact RowsI.start _ n⟩
 ·
  rintro ⟨k, vs, ms⟩ ⟨hkl, hR⟩
  refine f_seq fun K5 kh5 => ?_
  refine f_region ?_
  refine f_stepP rfl rfl rfl (o_lss rfl rfl) ?_
  refine f_done ?_
  refine f_tn (kh5 _ _ ?_)
  clear kh5
  refine f_seq fun K6 kh6 => ?_
  refine f_cond rfl (fun c14 => ?_) (fun c14 => ?_)
  ·
   refine f_skip ?_
   refine f_tn (kh6 _ _ ?_)
   clear kh6
   refine f_seq fun K7 kh7 => ?_
   refine f_block ?_
   refine f_seq fun K8 kh8 => ?_
   refine f_region ?_
   have hk : k < l.length := by omega
   obtain ⟨bl, off, rfl, hS, hc⟩ := hr (flat_ne arcCs arcCs_len (by omega) hk)
   have hgk := hgd k hk
   refine f_stepP rfl rfl rfl (o_idx sl22 rfl rfl (off + k * 3) ⟨by omega, by omega, by first | omega | (simp; done) | (simp; omega)⟩) ?_
   refine f_stepP rfl rfl rfl (o_loadA (vs := arcCs l[k]) Try.isAgg44 Try.sizeOf44 rfl rfl (roElem arcCs_len hS hc hk)) ?_
   refine f_step rfl rfl rfl (o_alloc Try.zeroValue44 rfl fun b5 => ?_)
   refine f_step0 rfl rfl (o_storeA Try.sizeOf44 rfl rfl rfl rfl (by first | exact Nat.le_of_ble_eq_true rfl | (simp; done) | (simp; omega)) (arcCs l[k]) rfl ?_)
   refine f_done ?_
   refine f_tn (kh8 _ _ ?_)
   clear kh8
   refine f_seq fun K9 kh9 => ?_
   refine f_region ?_
   refine f_stepP rfl rfl rfl (o_field fa44_0 rfl) ?_
   refine f_stepP rfl rfl rfl (o_load Try.isAgg3 rfl (rdA rfl)) ?_
   refine f_stepP rfl rfl rfl (o_field fa44_1 rfl) ?_
   refine f_stepP rfl rfl rfl (o_load Try.isAgg3 rfl (rdA rfl)) ?_
   refine f_stepP rfl rfl rfl (o_neq rfl rfl) ?_
   refine f_done ?_
   refine f_tn (kh9 _ _ ?_)
   clear kh9
   refine f_cond rfl (fun c21 => ?_) (fun c21 => ?_)
   ·
    refine f_seq fun K10 kh10 => ?_
    obtain ⟨s, hs, hsn⟩ : ∃ s : Nat, l[k].src = (s : Int) ∧ s < n := ⟨l[k].src.toNat, by omega, by omega⟩
    obtain ⟨d, hd, hdn⟩ : ∃ d : Nat, l[k].dst = (d : Int) ∧ d < n := ⟨l[k].dst.toNat, by omega, by omega⟩
    have hsd : s ≠ d := by omega
    obtain ⟨rv, rm, rG, hrv, hro, hrp, hput⟩ := hR.split (i := s) (by rw [rawRows_len]; exact hsn)
    rw [rawRows_get] at hro
    have hrlen := nbr_len (s : Int) (l.take k)
    rw [List.length_take] at hrlen
    obtain ⟨rl, hrl⟩ : ∃ rl, rl = (l.take k).flatMap (nbr (s : Int)) := ⟨_, rfl⟩
    rw [← hrl] at hro hrlen
    obtain ⟨Ar, cr, rfl, hcr⟩ := hro.val
    refine f_subC (Sub.splitF hrp) ?_
    refine f_regionH [[(b5, blk (arcCs l[k]) 44)]] rfl ?_
    refine f_take 0 rfl (by decide +kernel) rfl rfl rfl (by repeat (first | exact Sub.nil | refine Sub.pick ?_ | refine Sub.castO rfl ?_ | refine Sub.skip ?_)) (o_move rfl) ?_
    refine f_take 1 rfl (by decide +kernel) rfl rfl rfl (by repeat (first | exact Sub.nil | refine Sub.pick ?_ | refine Sub.castO rfl ?_ | refine Sub.skip ?_)) (o_field fa44_0 rfl) ?_
    refine f_take 2 rfl (by decide +kernel) rfl rfl rfl (by repeat (first | exact Sub.nil | refine Sub.pick ?_ | refine Sub.castO rfl ?_ | refine Sub.skip ?_)) (o_load Try.isAgg3 rfl (rdA rfl)) ?_
    refine f_take 3 rfl (by decide +kernel) rfl rfl rfl (by repeat (first | exact Sub.nil | refine Sub.pick ?_ | refine Sub.castO rfl ?_ | refine Sub.skip ?_)) (o_move rfl) ?_
    refine f_take 4 rfl (by decide +kernel) rfl rfl rfl (by repeat (first | exact Sub.nil | refine Sub.pick ?_ | refine Sub.castO rfl ?_ | refine Sub.skip ?_)) (o_field fa44_0 rfl) ?_
    refine f_take 5 rfl (by decide +kernel) rfl rfl rfl (by repeat (first | exact Sub.nil | refine Sub.pick ?_ | refine Sub.castO rfl ?_ | refine Sub.skip ?_)) (o_load Try.isAgg3 rfl (rdA rfl)) ?_
    refine f_take 6 rfl (by decide +kernel) rfl rfl rfl (by repeat (first | exact Sub.nil | refine Sub.pick ?_ | refine Sub.castO rfl ?_ | refine Sub.skip ?_)) (o_idx sl67 rfl rfl (s) ⟨by omega, by omega, by first | omega | (simp; done) | (simp; omega)⟩) ?_
    refine f_take 8 rfl (by decide +kernel) rfl rfl rfl (by repeat (first | exact Sub.nil | refine Sub.pick ?_ | refine Sub.castO rfl ?_ | refine Sub.skip ?_)) (o_field fa44_1 rfl) ?_
    refine f_take 9 rfl (by decide +kernel) rfl rfl rfl (by repeat (first | exact Sub.nil | refine Sub.pick ?_ | refine Sub.castO rfl ?_ | refine Sub.skip ?_)) (o_load Try.isAgg3 rfl (rdA rfl)) ?_
    refine f_two 7 10 rfl rfl (by decide +kernel) rfl rfl rfl rfl rfl rfl ?_ ?_
    ·
     refine (o_load Try.isAgg25 rfl (rdA hrv)).does ⟨(by repeat (first | exact Sub.nil | refine Sub.pick ?_ | refine Sub.castO rfl ?_ | refine Sub.skip ?_)), ?_⟩
     refine f_only 10 rfl (by decide +kernel) rfl rfl rfl (o_slice1 el25 (by omega) rfl rfl rfl fun b32 => ⟨(by repeat (first | exact Sub.nil | refine Sub.pick ?_ | refine Sub.castO rfl ?_ | refine Sub.skip ?_)), ?_⟩)
     refine f_only 11 rfl (by decide +kernel) rfl rfl rfl (o_append el25 rfl rfl hro (ys := [.int .i64 l[k].dst]) ⟨(rdA rfl), trivial⟩ rfl rfl (by omega) (by omega) fun v33 m33 o33 => ⟨(by repeat (first | exact Sub.nil | refine Sub.pick ?_ | refine Sub.castO rfl ?_ | refine Sub.skip ?_)), ?_⟩)
     obtain ⟨A33, cap33, rfl, _⟩ := o33.val
     refine f_take 12 rfl (by decide +kernel) rfl rfl rfl (by repeat (first | exact Sub.nil | refine Sub.pick ?_ | refine Sub.castO rfl ?_ | refine Sub.skip ?_)) (o_idx sl67 rfl rfl (s) ⟨by omega, by omega, by first | omega | (simp; done) | (simp; omega)⟩) ?_
     refine f_only0 13 rfl (by decide +kernel) rfl rfl (o_store Try.sizeOf25 rfl rfl rfl rfl (by have := hR.lv; rw [rawRows_len] at this; omega) (vs.set s (.slice A33 (rl.length + 1) cap33)) rfl ⟨(by repeat (first | exact Sub.nil | refine Sub.pick ?_ | refine Sub.castO rfl ?_ | refine Sub.skip ?_)), ?_⟩)
     refine f_over (by decide +kernel) ?_
     refine f_tn (kh10 _ _ ?_)
     clear kh10
     refine f_subC (Sub.joinF (m := m33) (G' := rG) (hput _ _ _ (by rw [← ints_len1']; exact o33)).2) ?_
     obtain ⟨rv2, rm2, rG2, hrv2, hro2, hrp2, hput2⟩ := (hput _ _ _ (by rw [← ints_len1']; exact o33)).1.split (i := d) (by rw [List.length_set, rawRows_len]; exact hdn)
     rw [List.getElem_set_ne hsd, rawRows_get] at hro2
     have hrlen2 := nbr_len (d : Int) (l.take k)
     rw [List.length_take] at hrlen2
     obtain ⟨rl2, hrl2⟩ : ∃ rl2, rl2 = (l.take k).flatMap (nbr (d : Int)) := ⟨_, rfl⟩
     rw [← hrl2] at hro2 hrlen2
     obtain ⟨Ar2, cr2, rfl, hcr2⟩ := hro2.val
     refine f_subC (Sub.splitF hrp2) ?_
     refine f_regionH [[(b5, blk (arcCs l[k]) 44)]] rfl ?_
     refine f_take 0 rfl (by decide +kernel) rfl rfl rfl (by repeat (first | exact Sub.nil | refine Sub.pick ?_ | refine Sub.castO rfl ?_ | refine Sub.skip ?_)) (o_move rfl) ?_
     refine f_take 1 rfl (by decide +kernel) rfl rfl rfl (by repeat (first | exact Sub.nil | refine Sub.pick ?_ | refine Sub.castO rfl ?_ | refine Sub.skip ?_)) (o_field fa44_1 rfl) ?_
     refine f_take 2 rfl (by decide +kernel) rfl rfl rfl (by repeat (first | exact Sub.nil | refine Sub.pick ?_ | refine Sub.castO rfl ?_ | refine Sub.skip ?_)) (o_load Try.isAgg3 rfl (rdA rfl)) ?_
     refine f_take 3 rfl (by decide +kernel) rfl rfl rfl (by repeat (first | exact Sub.nil | refine Sub.pick ?_ | refine Sub.castO rfl ?_ | refine Sub.skip ?_)) (o_move rfl) ?_
     refine f_take 4 rfl (by decide +kernel) rfl rfl rfl (by repeat (first | exact Sub.nil | refine Sub.pick ?_ | refine Sub.castO rfl ?_ | refine Sub.skip ?_)) (o_field fa44_1 rfl) ?_
     refine f_take 5 rfl (by decide +kernel) rfl rfl rfl (by repeat (first | exact Sub.nil | refine Sub.pick ?_ | refine Sub.castO rfl ?_ | refine Sub.skip ?_)) (o_load Try.isAgg3 rfl (rdA rfl)) ?_
     refine f_take 6 rfl (by decide +kernel) rfl rfl rfl (by repeat (first | exact Sub.nil | refine Sub.pick ?_ | refine Sub.castO rfl ?_ | refine Sub.skip ?_)) (o_idx sl67 rfl rfl (d) ⟨by omega, by omega, by first | omega | (simp; done) | (simp; omega)⟩) ?_
     refine f_take 8 rfl (by decide +kernel) rfl rfl rfl (by repeat (first | exact Sub.nil | refine Sub.pick ?_ | refine Sub.castO rfl ?_ | refine Sub.skip ?_)) (o_field fa44_0 rfl) ?_
     refine f_take 9 rfl (by decide +kernel) rfl rfl rfl (by repeat (first | exact Sub.nil | refine Sub.pick ?_ | refine Sub.castO rfl ?_ | refine Sub.skip ?_)) (o_load Try.isAgg3 rfl (rdA rfl)) ?_
     refine f_two 7 10 rfl rfl (by decide +kernel) rfl rfl rfl rfl rfl rfl ?_ ?_
     ·
      refine (o_load Try.isAgg25 rfl (rdA hrv2)).does ⟨(by repeat (first | exact Sub.nil | refine Sub.pick ?_ | refine Sub.castO rfl ?_ | refine Sub.skip ?_)), ?_⟩
      refine f_only 10 rfl (by decide +kernel) rfl rfl rfl (o_slice1 el25 (by omega) rfl rfl rfl fun b45 => ⟨(by repeat (first | exact Sub.nil | refine Sub.pick ?_ | refine Sub.castO rfl ?_ | refine Sub.skip ?_)), ?_⟩)
      refine f_only 11 rfl (by decide +kernel) rfl rfl rfl (o_append el25 rfl rfl hro2 (ys := [.int .i64 l[k].src]) ⟨(rdA rfl), trivial⟩ rfl rfl (by omega) (by omega) fun v46 m46 o46 => ⟨(by repeat (first | exact Sub.nil | refine Sub.pick ?_ | refine Sub.castO rfl ?_ | refine Sub.skip ?_)), ?_⟩)
      obtain ⟨A46, cap46, rfl, _⟩ := o46.val
      refine f_take 12 rfl (by decide +kernel) rfl rfl rfl (by repeat (first | exact Sub.nil | refine Sub.pick ?_ | refine Sub.castO rfl ?_ | refine Sub.skip ?_)) (o_idx sl67 rfl rfl (d) ⟨by omega, by omega, by first | omega | (simp; done) | (simp; omega)⟩) ?_
      refine f_only0 13 rfl (by decide +kernel) rfl rfl (o_store Try.sizeOf25 rfl rfl rfl rfl (by have := hR.lv; rw [rawRows_len] at this; rw [List.length_set]; omega) ((vs.set s (.slice A33 (rl.length + 1) cap33)).set d (.slice A46 (rl2.length + 1) cap46)) rfl ⟨(by repeat (first | exact Sub.nil | refine Sub.pick ?_ | refine Sub.castO rfl ?_ | refine Sub.skip ?_)), ?_⟩)
      refine f_over (by decide +kernel) ?_
      refine f_bn ?_
      refine f_tn (kh7 _ _ ?_)
      clear kh7
      refine f_region ?_
      refine f_stepP rfl rfl rfl (o_add rfl rfl _ (wrap_i64 (by omega))) ?_
      refine f_stepP rfl rfl rfl (o_move rfl) ?_
      refine f_done ?_
      refine f_subQ (Sub.joinF (m := m46) (G' := rG2) (hput2 _ _ _ (by rw [← ints_len1']; exact o46)).2) ?_
      refine f_tn (f_again (k + 1, (vs.set s (.slice A33 (rl.length + 1) cap33)).set d (.slice A46 (rl2.length + 1) cap46), (ms.set s m33).set d m46) (by first | omega | (dsimp only; omega) | (simp; omega)) ⟨by omega, by have := (hput2 _ _ _ (by rw [← ints_len1']; exact o46)).1; rw [hrl, hrl2, rawRows_two hk hs hd hsd] at this; rw [hrl, hrl2]; exact this⟩ ?_ ?_ ?_)
      · exact (by repeat (first | exact trivial | refine ⟨rfl, ?_⟩))
      · exact (by repeat (first | exact trivial | refine ⟨rfl, ?_⟩))
      · repeat (first | exact Sub.nil | refine Sub.pick ?_ | refine Sub.castO rfl ?_ | refine Sub.skip ?_)
     ·
      refine (o_slice1 el25 (by omega) rfl rfl rfl fun b45 => ⟨(by repeat (first | exact Sub.nil | refine Sub.pick ?_ | refine Sub.castO rfl ?_ | refine Sub.skip ?_)), ?_⟩)
      refine f_only 7 rfl (by decide +kernel) rfl rfl rfl ((o_load Try.isAgg25 rfl (rdA hrv2)).does ⟨(by repeat (first | exact Sub.nil | refine Sub.pick ?_ | refine Sub.castO rfl ?_ | refine Sub.skip ?_)), ?_⟩)
      refine f_only 11 rfl (by decide +kernel) rfl rfl rfl (o_append el25 rfl rfl hro2 (ys := [.int .i64 l[k].src]) ⟨(rdA rfl), trivial⟩ rfl rfl (by omega) (by omega) fun v46 m46 o46 => ⟨(by repeat (first | exact Sub.nil | refine Sub.pick ?_ | refine Sub.castO rfl ?_ | refine Sub.skip ?_)), ?_⟩)
      obtain ⟨A46, cap46, rfl, _⟩ := o46.val
      refine f_take 12 rfl (by decide +kernel) rfl rfl rfl (by repeat (first | exact Sub.nil | refine Sub.pick ?_ | refine Sub.castO rfl ?_ | refine Sub.skip ?_)) (o_idx sl67 rfl rfl (d) ⟨by omega, by omega, by first | omega | (simp; done) | (simp; omega)⟩) ?_
      refine f_only0 13 rfl (by decide +kernel) rfl rfl (o_store Try.sizeOf25 rfl rfl rfl rfl (by have := hR.lv; rw [rawRows_len] at this; rw [List.length_set]; omega) ((vs.set s (.slice A33 (rl.length + 1) cap33)).set d (.slice A46 (rl2.length + 1) cap46)) rfl ⟨(by repeat (first | exact Sub.nil | refine Sub.pick ?_ | refine Sub.castO rfl ?_ | refine Sub.skip ?_)), ?_⟩)
      refine f_over (by decide +kernel) ?_
      refine f_bn ?_
      refine f_tn (kh7 _ _ ?_)
      clear kh7
      refine f_region ?_
      refine f_stepP rfl rfl rfl (o_add rfl rfl _ (wrap_i64 (by omega))) ?_
      refine f_stepP rfl rfl rfl (o_move rfl) ?_
      refine f_done ?_
      refine f_subQ (Sub.joinF (m := m46) (G' := rG2) (hput2 _ _ _ (by rw [← ints_len1']; exact o46)).2) ?_
      refine f_tn (f_again (k + 1, (vs.set s (.slice A33 (rl.length + 1) cap33)).set d (.slice A46 (rl2.length + 1) cap46), (ms.set s m33).set d m46) (by first | omega | (dsimp only; omega) | (simp; omega)) ⟨by omega, by have := (hput2 _ _ _ (by rw [← ints_len1']; exact o46)).1; rw [hrl, hrl2, rawRows_two hk hs hd hsd] at this; rw [hrl, hrl2]; exact this⟩ ?_ ?_ ?_)
      · exact (by repeat (first | exact trivial | refine ⟨rfl, ?_⟩))
      · exact (by repeat (first | exact trivial | refine ⟨rfl, ?_⟩))
      · repeat (first | exact Sub.nil | refine Sub.pick ?_ | refine Sub.castO rfl ?_ | refine Sub.skip ?_)
    ·
     refine (o_slice1 el25 (by omega) rfl rfl rfl fun b32 => ⟨(by repeat (first | exact Sub.nil | refine Sub.pick ?_ | refine Sub.castO rfl ?_ | refine Sub.skip ?_)), ?_⟩)
     refine f_only 7 rfl (by decide +kernel) rfl rfl rfl ((o_load Try.isAgg25 rfl (rdA hrv)).does ⟨(by repeat (first | exact Sub.nil | refine Sub.pick ?_ | refine Sub.castO rfl ?_ | refine Sub.skip ?_)), ?_⟩)
     refine f_only 11 rfl (by decide +kernel) rfl rfl rfl (o_append el25 rfl rfl hro (ys := [.int .i64 l[k].dst]) ⟨(rdA rfl), trivial⟩ rfl rfl (by omega) (by omega) fun v33 m33 o33 => ⟨(by repeat (first | exact Sub.nil | refine Sub.pick ?_ | refine Sub.castO rfl ?_ | refine Sub.skip ?_)), ?_⟩)
     obtain ⟨A33, cap33, rfl, _⟩ := o33.val
     refine f_take 12 rfl (by decide +kernel) rfl rfl rfl (by repeat (first | exact Sub.nil | refine Sub.pick ?_ | refine Sub.castO rfl ?_ | refine Sub.skip ?_)) (o_idx sl67 rfl rfl (s) ⟨by omega, by omega, by first | omega | (simp; done) | (simp; omega)⟩) ?_
     refine f_only0 13 rfl (by decide +kernel) rfl rfl (o_store Try.sizeOf25 rfl rfl rfl rfl (by have := hR.lv; rw [rawRows_len] at this; omega) (vs.set s (.slice A33 (rl.length + 1) cap33)) rfl ⟨(by repeat (first | exact Sub.nil | refine Sub.pick ?_ | refine Sub.castO rfl ?_ | refine Sub.skip ?_)), ?_⟩)
     refine f_over (by decide +kernel) ?_
     refine f_tn (kh10 _ _ ?_)
     clear kh10
     refine f_subC (Sub.joinF (m := m33) (G' := rG) (hput _ _ _ (by rw [← ints_len1']; exact o33)).2) ?_
     obtain ⟨rv2, rm2, rG2, hrv2, hro2, hrp2, hput2⟩ := (hput _ _ _ (by rw [← ints_len1']; exact o33)).1.split (i := d) (by rw [List.length_set, rawRows_len]; exact hdn)
     rw [List.getElem_set_ne hsd, rawRows_get] at hro2
     have hrlen2 := nbr_len (d : Int) (l.take k)
     rw [List.length_take] at hrlen2
     obtain ⟨rl2, hrl2⟩ : ∃ rl2, rl2 = (l.take k).flatMap (nbr (d : Int)) := ⟨_, rfl⟩
     rw [← hrl2] at hro2 hrlen2
     obtain ⟨Ar2, cr2, rfl, hcr2⟩ := hro2.val
     refine f_subC (Sub.splitF hrp2) ?_
     refine f_regionH [[(b5, blk (arcCs l[k]) 44)]] rfl ?_
     refine f_take 0 rfl (by decide +kernel) rfl rfl rfl (by repeat (first | exact Sub.nil | refine Sub.pick ?_ | refine Sub.castO rfl ?_ | refine Sub.skip ?_)) (o_move rfl) ?_
     refine f_take 1 rfl (by decide +kernel) rfl rfl rfl (by repeat (first | exact Sub.nil | refine Sub.pick ?_ | refine Sub.castO rfl ?_ | refine Sub.skip ?_)) (o_field fa44_1 rfl) ?_
     refine f_take 2 rfl (by decide +kernel) rfl rfl rfl (by repeat (first | exact Sub.nil | refine Sub.pick ?_ | refine Sub.castO rfl ?_ | refine Sub.skip ?_)) (o_load Try.isAgg3 rfl (rdA rfl)) ?_
     refine f_take 3 rfl (by decide +kernel) rfl rfl rfl (by repeat (first | exact Sub.nil | refine Sub.pick ?_ | refine Sub.castO rfl ?_ | refine Sub.skip ?_)) (o_move rfl) ?_
     refine f_take 4 rfl (by decide +kernel) rfl rfl rfl (by repeat (first | exact Sub.nil | refine Sub.pick ?_ | refine Sub.castO rfl ?_ | refine Sub.skip ?_)) (o_field fa44_1 rfl) ?_
     refine f_take 5 rfl (by decide +kernel) rfl rfl rfl (by repeat (first | exact Sub.nil | refine Sub.pick ?_ | refine Sub.castO rfl ?_ | refine Sub.skip ?_)) (o_load Try.isAgg3 rfl (rdA rfl)) ?_
     refine f_take 6 rfl (by decide +kernel) rfl rfl rfl (by repeat (first | exact Sub.nil | refine Sub.pick ?_ | refine Sub.castO rfl ?_ | refine Sub.skip ?_)) (o_idx sl67 rfl rfl (d) ⟨by omega, by omega, by first | omega | (simp; done) | (simp; omega)⟩) ?_
     refine f_take 8 rfl (by decide +kernel) rfl rfl rfl (by repeat (first | exact Sub.nil | refine Sub.pick ?_ | refine Sub.castO rfl ?_ | refine Sub.skip ?_)) (o_field fa44_0 rfl) ?_
     refine f_take 9 rfl (by decide +kernel) rfl rfl rfl (by repeat (first | exact Sub.nil | refine Sub.pick ?_ | refine Sub.castO rfl ?_ | refine Sub.skip ?_)) (o_load Try.isAgg3 rfl (rdA rfl)) ?_
     refine f_two 7 10 rfl rfl (by decide +kernel) rfl rfl rfl rfl rfl rfl ?_ ?_
     ·
      refine (o_load Try.isAgg25 rfl (rdA hrv2)).does ⟨(by repeat (first | exact Sub.nil | refine Sub.pick ?_ | refine Sub.castO rfl ?_ | refine Sub.skip ?_)), ?_⟩
      refine f_only 10 rfl (by decide +kernel) rfl rfl rfl (o_slice1 el25 (by omega) rfl rfl rfl fun b45 => ⟨(by repeat (first | exact Sub.nil | refine Sub.pick ?_ | refine Sub.castO rfl ?_ | refine Sub.skip ?_)), ?_⟩)
      refine f_only 11 rfl (by decide +kernel) rfl rfl rfl (o_append el25 rfl rfl hro2 (ys := [.int .i64 l[k].src]) ⟨(rdA rfl), trivial⟩ rfl rfl (by omega) (by omega) fun v46 m46 o46 => ⟨(by repeat (first | exact Sub.nil | refine Sub.pick ?_ | refine Sub.castO rfl ?_ | refine Sub.skip ?_)), ?_⟩)
      obtain ⟨A46, cap46, rfl, _⟩ := o46.val
      refine f_take 12 rfl (by decide +kernel) rfl rfl rfl (by repeat (first | exact Sub.nil | refine Sub.pick ?_ | refine Sub.castO rfl ?_ | refine Sub.skip ?_)) (o_idx sl67 rfl rfl (d) ⟨by omega, by omega, by first | omega | (simp; done) | (simp; omega)⟩) ?_
      refine f_only0 13 rfl (by decide +kernel) rfl rfl (o_store Try.sizeOf25 rfl rfl rfl rfl (by have := hR.lv; rw [rawRows_len] at this; rw [List.length_set]; omega) ((vs.set s (.slice A33 (rl.length + 1) cap33)).set d (.slice A46 (rl2.length + 1) cap46)) rfl ⟨(by repeat (first | exact Sub.nil | refine Sub.pick ?_ | refine Sub.castO rfl ?_ | refine Sub.skip ?_)), ?_⟩)
      refine f_over (by decide +kernel) ?_
      refine f_bn ?_
      refine f_tn (kh7 _ _ ?_)
      clear kh7
      refine f_region ?_
      refine f_stepP rfl rfl rfl (o_add rfl rfl _ (wrap_i64 (by omega))) ?_
      refine f_stepP rfl rfl rfl (o_move rfl) ?_
      refine f_done ?_
      refine f_subQ (Sub.joinF (m := m46) (G' := rG2) (hput2 _ _ _ (by rw [← ints_len1']; exact o46)).2) ?_
      refine f_tn (f_again (k + 1, (vs.set s (.slice A33 (rl.length + 1) cap33)).set d (.slice A46 (rl2.length + 1) cap46), (ms.set s m33).set d m46) (by first | omega | (dsimp only; omega) | (simp; omega)) ⟨by omega, by have := (hput2 _ _ _ (by rw [← ints_len1']; exact o46)).1; rw [hrl, hrl2, rawRows_two hk hs hd hsd] at this; rw [hrl, hrl2]; exact this⟩ ?_ ?_ ?_)
      · exact (by repeat (first | exact trivial | refine ⟨rfl, ?_⟩))
      · exact (by repeat (first | exact trivial | refine ⟨rfl, ?_⟩))
      · repeat (first | exact Sub.nil | refine Sub.pick ?_ | refine Sub.castO rfl ?_ | refine Sub.skip ?_)
     ·
      refine (o_slice1 el25 (by omega) rfl rfl rfl fun b45 => ⟨(by repeat (first | exact Sub.nil | refine Sub.pick ?_ | refine Sub.castO rfl ?_ | refine Sub.skip ?_)), ?_⟩)
      refine f_only 7 rfl (by decide +kernel) rfl rfl rfl ((o_load Try.isAgg25 rfl (rdA hrv2)).does ⟨(by repeat (first | exact Sub.nil | refine Sub.pick ?_ | refine Sub.castO rfl ?_ | refine Sub.skip ?_)), ?_⟩)
      refine f_only 11 rfl (by decide +kernel) rfl rfl rfl (o_append el25 rfl rfl hro2 (ys := [.int .i64 l[k].src]) ⟨(rdA rfl), trivial⟩ rfl rfl (by omega) (by omega) fun v46 m46 o46 => ⟨(by repeat (first | exact Sub.nil | refine Sub.pick ?_ | refine Sub.castO rfl ?_ | refine Sub.skip ?_)), ?_⟩)
      obtain ⟨A46, cap46, rfl, _⟩ := o46.val
      refine f_take 12 rfl (by decide +kernel) rfl rfl rfl (by repeat (first | exact Sub.nil | refine Sub.pick ?_ | refine Sub.castO rfl ?_ | refine Sub.skip ?_)) (o_idx sl67 rfl rfl (d) ⟨by omega, by omega, by first | omega | (simp; done) | (simp; omega)⟩) ?_
      refine f_only0 13 rfl (by decide +kernel) rfl rfl (o_store Try.sizeOf25 rfl rfl rfl rfl (by have := hR.lv; rw [rawRows_len] at this; rw [List.length_set]; omega) ((vs.set s (.slice A33 (rl.length + 1) cap33)).set d (.slice A46 (rl2.length + 1) cap46)) rfl ⟨(by repeat (first | exact Sub.nil | refine Sub.pick ?_ | refine Sub.castO rfl ?_ | refine Sub.skip ?_)), ?_⟩)
      refine f_over (by decide +kernel) ?_
      refine f_bn ?_
      refine f_tn (kh7 _ _ ?_)
      clear kh7
      refine f_region ?_
      refine f_stepP rfl rfl rfl (o_add rfl rfl _ (wrap_i64 (by omega))) ?_
      refine f_stepP rfl rfl rfl (o_move rfl) ?_
      refine f_done ?_
      refine f_subQ (Sub.joinF (m := m46) (G' := rG2) (hput2 _ _ _ (by rw [← ints_len1']; exact o46)).2) ?_
      refine f_tn (f_again (k + 1, (vs.set s (.slice A33 (rl.length + 1) cap33)).set d (.slice A46 (rl2.length + 1) cap46), (ms.set s m33).set d m46) (by first | omega | (dsimp only; omega) | (simp; omega)) ⟨by omega, by have := (hput2 _ _ _ (by rw [← ints_len1']; exact o46)).1; rw [hrl, hrl2, rawRows_two hk hs hd hsd] at this; rw [hrl, hrl2]; exact this⟩ ?_ ?_ ?_)
      · exact (by repeat (first | exact trivial | refine ⟨rfl, ?_⟩))
      · exact (by repeat (first | exact trivial | refine ⟨rfl, ?_⟩))
      · repeat (first | exact Sub.nil | refine Sub.pick ?_ | refine Sub.castO rfl ?_ | refine Sub.skip ?_)
   ·
    refine f_skip ?_
    refine f_bn ?_
    refine f_tn (kh7 _ _ ?_)
    clear kh7
    refine f_region ?_
    refine f_stepP rfl rfl rfl (o_add rfl rfl _ (wrap_i64 (by omega))) ?_
    refine f_stepP rfl rfl rfl (o_move rfl) ?_
    refine f_done ?_
    refine f_tn (f_again (k + 1, vs, ms) (by first | omega | (dsimp only; omega) | (simp; omega)) ⟨by omega, by rw [rawRows_same hk (by simpa using c21)]; exact hR⟩ ?_ ?_ ?_)
    · exact (by repeat (first | exact trivial | refine ⟨rfl, ?_⟩))
    · exact (by repeat (first | exact trivial | refine ⟨rfl, ?_⟩))
    · repeat (first | exact Sub.nil | refine Sub.pick ?_ | refine Sub.castO rfl ?_ | refine Sub.skip ?_)
  ·
   refine f_exit ?_
   refine f_te ?_
   clear kh6
   refine f_te ?_
   refine f_be ?_
   refine f_tn (kh3 _ _ ?_)
   clear kh3
   refine f_seq fun K11 kh11 => ?_
   refine f_seq fun K12 kh12 => ?_
   obtain rfl : k = l.length := by omega
   rw [List.take_length] at hR
   refine f_region ?_
   refine f_stepP rfl rfl rfl (o_move rfl) ?_
   refine f_stepP rfl rfl rfl (o_len sl67 rfl) ?_
   refine f_stepP rfl rfl rfl (o_move rfl) ?_
   refine f_done ?_
   refine f_tn (kh12 _ _ ?_)
   clear kh12
   refine f_block ?_
   refine f_loop (α := Nat × List Value × List Seg) [3, 50] (fun ⟨j, vs, ms⟩ => [(51, .int .i64 (j : Int))]) (fun ⟨j, vs, ms⟩ => [[(b9, blk vs 25)], ms.flatten]) (fun ⟨j, vs, ms⟩ => j ≤ n ∧ RowsI 3 (mixRows n l j) vs ms) (fun ⟨j, vs, ms⟩ => n - j) (0, vs, ms) ?_ ?_ ?_ ?_
   · exact (by repeat (first | exact trivial | refine ⟨rfl, ?_⟩))
   · repeat (first | exact Sub.nil | refine Sub.pick ?_ | refine Sub.castO rfl ?_ | refine Sub.skip ?_)
   · exact ⟨by omega, by rw [mixRows_zero]; exact hR⟩
   ·
    rintro ⟨j, vs, ms⟩ ⟨hjn, hR⟩
    refine f_envC (e := [(51, _), (3, _), (50, _)]) (by repeat (first | exact trivial | refine ⟨rfl, ?_⟩)) ?_
    refine f_seq fun K13 kh13 => ?_
    refine f_region ?_
    refine f_stepP rfl rfl rfl (o_lss rfl rfl) ?_
    refine f_done ?_
    refine f_tn (kh13 _ _ ?_)
    clear kh13
    refine f_seq fun K14 kh14 => ?_
    refine f_cond rfl (fun c52 => ?_) (fun c52 => ?_)
    ·
     refine f_skip ?_
     refine f_tn (kh14 _ _ ?_)
     clear kh14
     refine f_seq fun K15 kh15 => ?_
     refine f_block ?_
     refine f_seq fun K16 kh16 => ?_
     refine f_region ?_
     refine f_stepP rfl rfl rfl (o_move rfl) ?_
     refine f_stepP rfl rfl rfl (o_assign rfl) ?_
     refine f_done ?_
     refine f_tn (kh16 _ _ ?_)
     clear kh16
     refine f_seq fun K17 kh17 => ?_
     have hj : j < n := by omega
     obtain ⟨rv, rm, rG, hrv, hro, hrp, hput⟩ := hR.split (i := j) (by rw [mixRows_len]; exact hj)
     rw [mixRows_get, if_neg (by omega)] at hro
     have hrlen := nbr_len (j : Int) l
     obtain ⟨rl, hrl⟩ : ∃ rl, rl = l.flatMap (nbr (j : Int)) := ⟨_, rfl⟩
     rw [← hrl] at hro hrlen
     obtain ⟨Ar, cr, rfl, hcr⟩ := hro.val
     refine f_subC (Sub.splitF hrp) ?_
     refine f_region ?_
     refine f_stepP rfl rfl rfl (o_move rfl) ?_
     refine f_stepP rfl rfl rfl (o_move rfl) ?_
     refine f_stepP rfl rfl rfl (o_idx sl67 rfl rfl (j) ⟨by omega, by omega, by first | omega | (simp; done) | (simp; omega)⟩) ?_
     refine f_stepP rfl rfl rfl (o_load Try.isAgg25 rfl (rdA hrv)) ?_
     refine f_step rfl rfl rfl (o_callM [rm] _ Try.call39 rfl (Sub.pick Sub.refl) (fun w_ hp_ => SortInts_spec Ar cr rl rm w_ hro (by omega) hp_.owns) ?_)
     rintro _ _ ⟨rfl, m2, rfl, ho2⟩
     dsimp only [List.cons_append, List.nil_append]
     refine f_done ?_
     refine f_tn (kh17 _ _ ?_)
     clear kh17
     refine f_region ?_
     refine f_stepP rfl rfl rfl (o_move rfl) ?_
     refine f_stepP rfl rfl rfl (o_move rfl) ?_
     refine f_stepP rfl rfl rfl (o_move rfl) ?_
     refine f_stepP rfl rfl rfl (o_move rfl) ?_
     refine f_stepP rfl rfl rfl (o_idx sl67 rfl rfl (j) ⟨by omega, by omega, by first | omega | (simp; done) | (simp; omega)⟩) ?_
     refine f_stepP rfl rfl rfl (o_load Try.isAgg25 rfl (rdA hrv)) ?_
     refine f_step rfl rfl rfl (o_callM [m2] _ Try.call40 rfl (Sub.pick Sub.refl) (fun w_ hp_ => (by have h := Compact_spec Ar cr (sortI rl) m2 w_ (by rw [sortI_len]; exact ho2) (by rw [sortI_len]; omega) hp_.owns; rw [sortI_len] at h; exact h)) ?_)
     rintro v65 _ ⟨m3, rfl, ho3⟩
     obtain ⟨A3, c3, rfl, hc3⟩ := ho3.val
     dsimp only [List.cons_append, List.nil_append]
     refine f_stepP rfl rfl rfl (o_idx sl67 rfl rfl (j) ⟨by omega, by omega, by first | omega | (simp; done) | (simp; omega)⟩) ?_
     refine f_step0 rfl rfl (o_store Try.sizeOf25 rfl rfl rfl rfl (by have := hR.lv; rw [mixRows_len] at this; omega) (vs.set j (.slice A3 (cpt (sortI rl)).length c3)) rfl ?_)
     refine f_done ?_
     refine f_bn ?_
     refine f_tn (kh15 _ _ ?_)
     clear kh15
     refine f_region ?_
     refine f_stepP rfl rfl rfl (o_add rfl rfl _ (wrap_i64 (by omega))) ?_
     refine f_stepP rfl rfl rfl (o_move rfl) ?_
     refine f_done ?_
     refine f_subQ (Sub.joinF (m := m3) (G' := rG) (hput _ _ _ ho3).2) ?_
     refine f_tn (f_again (j + 1, vs.set j (.slice A3 (cpt (sortI rl)).length c3), ms.set j m3) (by first | omega | (dsimp only; omega) | (simp; omega)) ⟨by omega, by have := (hput _ _ _ ho3).1; rw [hrl, mixRows_next] at this; rw [hrl]; exact this⟩ ?_ ?_ ?_)
     · exact (by repeat (first | exact trivial | refine ⟨rfl, ?_⟩))
     · exact (by repeat (first | exact trivial | refine ⟨rfl, ?_⟩))
     · repeat (first | exact Sub.nil | refine Sub.pick ?_ | refine Sub.castO rfl ?_ | refine Sub.skip ?_)
    ·
     refine f_exit ?_
     refine f_te ?_
     clear kh14
     refine f_te ?_
     refine f_be ?_
     refine f_tn (kh11 _ _ ?_)
     clear kh11
     refine f_seq fun K18 kh18 => ?_
     obtain rfl : j = n := by omega
     rw [mixRows_all] at hR
     refine f_region ?_
     refine f_stepP rfl rfl rfl (o_move rfl) ?_
     refine f_stepP rfl rfl rfl (o_assign rfl) ?_
     refine f_done ?_
     refine f_tn (kh18 _ _ ?_)
     clear kh18
     refine f_ret ?_
     exact f_fin1 [[(b9, blk vs 25)], ms.flatten] Try.results32 rfl (by repeat (first | exact Sub.nil | refine Sub.pick ?_ | refine Sub.castO rfl ?_)) ⟨b9, vs, ms, rfl, rfl, hR⟩

end Go.Proofs.Ytkhjckghpakliaa

/- Functions that range over a function, the rounds that they hand out, and functions that ask for such rounds: the small logic once more, under the kit's fences. -/

namespace Go.Proofs.Ytkhjckghpakliaa.Fly
open Go Go.RowKit
set_option linter.unusedVariables false
set_option linter.unusedSimpArgs false
set_option linter.unusedSectionVars false

/-- No fence at all; in a round of the loop 'rd'. -/
abbrev FW (rd : Option Nat) : Fence := { fn := fun _ => True, depth := none, alive := false, round := rd }
/-- The marks that loops over functions leave among the deferred calls, and their blocks. -/
abbrev coll (mk : List Nat) : List Deferred := mk.map fun D => { target := .collected D, args := #[] }
abbrev mks (mk : List Nat) : Seg := mk.map fun D => (D, Obj.deferred (some []))

structure EnR (n : Nat) (mk : List Nat) (env : Env) (a : Act) : Prop where
  size : a.tmps.size = n
  defers : a.defers = coll mk
  get : ∀ t v, look env t = some v → a.tmps[t]? = some v

theorem eval_defers (a : Act) (ds : List Deferred) : ({ a with defers := ds } : Act).eval = a.eval := by funext x; cases x <;> rfl
section
variable {n : Nat} {mk : List Nat} {env : Env} {a : Act}
theorem EnR.base (h : EnR n mk env a) : En n env { a with defers := [] } := ⟨h.size, rfl, h.get⟩
theorem EnR.eval (h : EnR n mk env a) {x : Operand} {v : Value} (hx : ev env x = some v) : a.eval x = v := by
  have := h.base.eval hx; rwa [eval_defers] at this
theorem EnR.evals (h : EnR n mk env a) {l : List Operand} {vs : List Value} (hx : evs env l = some vs) : l.map a.eval = vs := by
  have := h.base.evals hx; rwa [eval_defers] at this
theorem EnR.put (h : EnR n mk env a) {d : Nat} (hd : Nat.blt d n = true) (v : Value) : EnR n mk ((d, v) :: env) (a.put (some d) v) := by
  have := h.base.put hd v
  exact ⟨this.size, by simp [Act.put, h.defers], this.get⟩
theorem EnR.none (h : EnR n mk env a) (v : Value) : EnR n mk env (a.put none v) := by simpa [Act.put] using h
theorem EnR.also (h : EnR n mk env a) {t : Nat} {v : Value} (hl : look env t = some v) : EnR n mk ((t, v) :: env) a := by
  have := h.base.also hl
  exact ⟨h.size, h.defers, this.get⟩
theorem EnR.keep (h : EnR n mk env a) (ts : List Nat) : EnR n mk (Fly.keep ts env) a := ⟨h.size, h.defers, (h.base.keep ts).get⟩
theorem EnR.agree {e' : Env} (h : EnR n mk env a) {ts : List Nat} (hk : Agree ts env e') : EnR n mk (Fly.keep ts e') a := ⟨h.size, h.defers, (h.base.agree hk).get⟩
theorem EnR.has {b : Env} (h : EnR n mk env a) (hb : EnR n mk b a) {l : Env} (hl : Has env l) : EnR n mk (l ++ b) a := ⟨h.size, h.defers, (h.base.has hb.base hl).get⟩
end

def notDefer : Op → Bool
  | .defer _ => false
  | _ => true
def plainNext : Result Next → Prop
  | .ok (.row _ _) _ => False
  | _ => True

section
variable (P : Program) (n : Nat) (S : Nat → Prop) (w0 : World) (rd : Option Nat) (mk : List Nat)
def WqR (R : Act → World → Prop) (env : Env) (segs : List Seg) : Prop := ∀ a w, EnR n mk env a → Hp S w0 segs.flatten w → R a w
def WcR (Q : Exit → Act → World → Prop) (env : Env) (segs : List Seg) (c : Code) : Prop := ∀ a w, EnR n mk env a → Hp S w0 segs.flatten w → c.wpIn (FW rd) 0 P Q a w
def WlR (ops : Array Oper) (Q : Exit → Act → World → Prop) (env : Env) (segs : List Seg) (l : List Oper) : Prop :=
  ∀ a w, EnR n mk env a → Hp S w0 segs.flatten w → wpListIn (FW rd) 0 P ops Q l a w
def DoesR (env : Env) (segs : List Seg) (o : Oper) (K : Value → List Seg → Prop) : Prop :=
  ∀ a w (next : Act → World → Prop) (Q : Exit → Act → World → Prop), EnR n mk env a → Hp S w0 segs.flatten w →
    (∀ v segs' w', K v segs' → Hp S w0 segs'.flatten w' → next (a.put o.dst v) w') → o.wpIn (FW rd) 0 P a w next Q
end

theorem wpIn_loop_ghost {F : Fence} {m : Nat} {P : Program} {Q : Exit → Act → World → Prop} {a : Act} {w : World} {c : Code} (I : Nat → Act → World → Prop) (n₀ : Nat) (h₀ : I n₀ a w)
    (round : ∀ n a w, I n a w → c.wpIn F m P (Exit.then (fun a' w' => ∃ n', n' < n ∧ I n' a' w') Q) a w) : (Code.loop c).wpIn F m P Q a w := by
  refine wpIn_loop (fun a w => ∃ n, I n a w) (fun a w => leastOf (fun n => I n a w)) ⟨n₀, h₀⟩ ?_
  intro a w hI
  refine wpIn_mono (round _ a w (leastOf_spec hI).1) ?_
  intro e a' w' hq
  cases e with
  | normal =>
    obtain ⟨n', hlt, hI'⟩ := hq
    exact show (∃ n, I n a' w') ∧ leastOf (fun n => I n a' w') < leastOf (fun n => I n a w) from ⟨⟨n', hI'⟩, Nat.lt_of_le_of_lt ((leastOf_spec ⟨n', hI'⟩).2 n' hI') hlt⟩
  | exit id => exact hq
  | goto l => exact hq
  | ret => exact hq
  | panic ch => exact hq
  | outgrown => exact hq

section
variable {P : Program} {n : Nat} {S : Nat → Prop} {w0 : World} {rd : Option Nat} {mk : List Nat} {env : Env} {segs : List Seg} {Q : Exit → Act → World → Prop} {ops : Array Oper} {rest : List Oper} {o : Oper}

theorem put_defers (a : Act) (ds : List Deferred) (d : Option Tmp) (v : Value) : ({ ({ a with defers := [] } : Act).put d v with defers := a.defers } : Act) = a.put d v := by cases d <;> rfl

theorem Does.toR {K : Value → List Seg → Prop} (hn : notDefer o.op = true) (h : Does P n S w0 env segs o K) : DoesR P n S w0 rd mk env segs o K := by
  intro a w next Q ha hp hk
  have h0 := h { a with defers := [] } w (fun a' w' => a'.defers = [] ∧ next { a' with defers := a.defers } w') (fun _ _ _ => False) ha.base hp
    (fun v segs' w' hK hp' => ⟨by cases o.dst <;> rfl, by rw [put_defers a []]; exact hk v segs' w' hK hp'⟩)
  unfold Oper.wp at h0
  unfold Oper.wpIn
  refine ⟨fun _ _ => trivial, ?_⟩
  rw [Oper.semAt_eq _ _ _ (fun c hc => by rw [hc] at hn; cases hn)]
  rw [eval_defers] at h0
  generalize (execOp a.eval o).run P w = r at h0 ⊢
  cases r with
  | halt hh w' =>
    cases hh <;> simp only [Oper.upon] at h0
  | ok x w' =>
    cases x with
    | value v =>
      have := h0.2
      rw [put_defers a []] at this
      exact this
    | skip =>
      have := h0.2
      rw [put_defers a []] at this
      exact this
    | defer d =>
      have := h0.1
      cases hd : o.dst <;> simp [Act.put, hd] at this
    | enter f args =>
      have h1 : Calls P f args w' _ := h0
      refine ⟨(fun h => by cases h), ?_⟩
      show CallsIn Fence.wide 0 P f args w' _
      refine callsIn_wide.2 (Calls.mono h1 ?_)
      intro e w'' he
      cases e with
      | returned v =>
        have := he.2
        rw [put_defers a []] at this
        exact this
      | panicked ch => exact he.elim
      | outgrown => obtain ⟨_, _, hf⟩ := he; exact hf.elim
    | row r args =>
      have h1 : Rows P r args w' _ := h0
      refine ⟨(fun h => by cases h), fun c cs _ => ?_⟩
      obtain ⟨v, w'', hv, hst⟩ := h1 c cs
      have hv2 := hv.2
      rw [put_defers a []] at hv2
      exact ⟨v, w'', hv2, (stepsIn_wide (P := P)).2 hst⟩
    | round l f tmps assign body => exact h0.elim
    | _ => exact h0.elim

theorem Pure.atR {v : Value} (h : Pure P n S w0 env segs o v) {a : Act} {w : World} (ha : EnR n mk env a) (hp : Hp S w0 segs.flatten w) : (execOp a.eval o).run P w = .ok (.value v) w := by
  have := h _ w ha.base hp; rwa [eval_defers] at this

theorem r_step {d : Nat} (hg : o.guard = none) (hd : o.dst = some d) (hn : Nat.blt d n = true)
    (h : DoesR P n S w0 rd mk env segs o fun v segs' => WlR P n S w0 rd mk ops Q ((d, v) :: env) segs' rest) : WlR P n S w0 rd mk ops Q env segs (o :: rest) := by
  intro a w ha hp
  refine wpListIn_plain hg fun K hK => h a w K Q ha hp fun v segs' w' hk hp' => hK _ _ (hk _ _ ?_ hp')
  rw [hd]; exact ha.put hn v
theorem r_step0 (hg : o.guard = none) (hd : o.dst = none)
    (h : DoesR P n S w0 rd mk env segs o fun _ segs' => WlR P n S w0 rd mk ops Q env segs' rest) : WlR P n S w0 rd mk ops Q env segs (o :: rest) := by
  intro a w ha hp
  refine wpListIn_plain hg fun K hK => h a w K Q ha hp fun v segs' w' hk hp' => hK _ _ (hk _ _ ?_ hp')
  rw [hd]; exact ha.none v
theorem r_stepP {d : Nat} {v : Value} (hg : o.guard = none) (hd : o.dst = some d) (hn : Nat.blt d n = true) (hnd : notDefer o.op = true) (hp : Pure P n S w0 env segs o v)
    (h : WlR P n S w0 rd mk ops Q ((d, v) :: env) segs rest) : WlR P n S w0 rd mk ops Q env segs (o :: rest) :=
  r_step hg hd hn (Does.toR hnd (hp.does h))
theorem r_stepPY {d j t : Nat} {b : Bool} {v : Value} (hg : o.guard = some (j, b)) (hj : (ops[j]?).bind (·.dst) = some t) (hl : look env t = some (.bool b)) (hd : o.dst = some d) (hn : Nat.blt d n = true) (hnd : notDefer o.op = true) (hp : Pure P n S w0 env segs o v)
    (h : WlR P n S w0 rd mk ops Q ((d, v) :: env) segs rest) : WlR P n S w0 rd mk ops Q env segs (o :: rest) := by
  intro a w ha hh
  refine wpListIn_step fun K hK => ?_
  rw [if_pos (by simp [Region.wanted, hg, yielded, hj, ha.get _ _ hl])]
  exact (Does.toR hnd (hp.does (K := fun u segs' => u = v ∧ segs' = segs) ⟨rfl, rfl⟩) : DoesR P n S w0 rd mk env segs o _) a w K Q ha hh fun u segs' w' ⟨hu, hs⟩ hp' => hK _ _ (h _ _ (by rw [hd, hu]; exact ha.put hn v) (hs ▸ hp'))
theorem r_stepN {d j t : Nat} {b c : Bool} (hg : o.guard = some (j, b)) (hj : (ops[j]?).bind (·.dst) = some t) (hl : look env t = some (.bool c)) (hc : (c == b) = false) (hd : o.dst = some d) (hn : Nat.blt d n = true)
    (h : WlR P n S w0 rd mk ops Q ((d, undef) :: env) segs rest) : WlR P n S w0 rd mk ops Q env segs (o :: rest) := by
  intro a w ha hp
  refine wpListIn_step fun K hK => ?_
  have hne : c ≠ b := by simpa using hc
  rw [if_neg (by simp [Region.wanted, hg, yielded, hj, ha.get _ _ hl, hne])]
  refine ⟨fun _ _ => trivial, hK _ _ (h _ _ ?_ hp)⟩
  rw [hd]; exact ha.put hn undef
theorem r_stepU {d j t : Nat} {b : Bool} (hg : o.guard = some (j, b)) (hj : (ops[j]?).bind (·.dst) = some t) (hl : look env t = some undef) (hd : o.dst = some d) (hn : Nat.blt d n = true)
    (h : WlR P n S w0 rd mk ops Q ((d, undef) :: env) segs rest) : WlR P n S w0 rd mk ops Q env segs (o :: rest) := by
  intro a w ha hp
  refine wpListIn_step fun K hK => ?_
  rw [if_neg (by simp [Region.wanted, hg, yielded, hj, ha.get _ _ hl, undef])]
  refine ⟨fun _ _ => trivial, hK _ _ (h _ _ ?_ hp)⟩
  rw [hd]; exact ha.put hn undef
theorem r_done (h : WqR n S w0 mk (Q .normal) env segs) : WlR P n S w0 rd mk ops Q env segs [] := fun a w ha hp => wpListIn_nil (h a w ha hp)
theorem r_region {id : Nat} {l : List Oper} (h : WlR P n S w0 rd mk l.toArray Q env segs l) : WcR P n S w0 rd mk Q env segs (.region id l.toArray false) :=
  fun a w ha hp => wpIn_region_lit (h a w ha hp)
/-- A piece of code outside of any round and ahead of any mark: by the plain logic. -/
theorem r_old {c : Code} (h : Wc P n S w0 Q env segs c) : WcR P n S w0 none [] Q env segs c :=
  fun a w ha hp => wpIn_wide.2 (h a w ⟨ha.size, ha.defers, ha.get⟩ hp)
theorem r_new {R : Act → World → Prop} (h : WqR n S w0 [] R env segs) : Wq n S w0 R env segs := fun a w ha hp => h a w ⟨ha.size, ha.defers, ha.get⟩ hp
theorem r_splitL (t : Nat) {φ : Prop} [Decidable φ] {l : List Oper} (hl : look env t = some (.bool (decide φ)))
    (hy : φ → WlR P n S w0 rd mk ops Q ((t, .bool true) :: env) segs l) (hn : ¬ φ → WlR P n S w0 rd mk ops Q ((t, .bool false) :: env) segs l) : WlR P n S w0 rd mk ops Q env segs l := by
  intro a w ha hp
  by_cases h : φ
  · refine hy h a w (ha.also ?_) hp
    rw [hl, decide_eq_true h]
  · refine hn h a w (ha.also ?_) hp
    rw [hl, decide_eq_false h]
theorem r_splitLB (t : Nat) {b : Bool} {l : List Oper} (hl : look env t = some (.bool b))
    (hy : b = true → WlR P n S w0 rd mk ops Q ((t, .bool true) :: env) segs l) (hn : b = false → WlR P n S w0 rd mk ops Q ((t, .bool false) :: env) segs l) : WlR P n S w0 rd mk ops Q env segs l := by
  intro a w ha hp
  cases b
  · exact hn rfl a w (ha.also hl) hp
  · exact hy rfl a w (ha.also hl) hp
theorem r_trueL (t : Nat) {φ : Prop} [Decidable φ] {l : List Oper} (hl : look env t = some (.bool (decide φ))) (h : φ) (k : WlR P n S w0 rd mk ops Q ((t, .bool true) :: env) segs l) : WlR P n S w0 rd mk ops Q env segs l :=
  fun a w ha hp => k a w (ha.also (by rw [hl, decide_eq_true h])) hp
theorem r_falseL (t : Nat) {φ : Prop} [Decidable φ] {l : List Oper} (hl : look env t = some (.bool (decide φ))) (h : ¬ φ) (k : WlR P n S w0 rd mk ops Q ((t, .bool false) :: env) segs l) : WlR P n S w0 rd mk ops Q env segs l :=
  fun a w ha hp => k a w (ha.also (by rw [hl, decide_eq_false h])) hp
theorem r_reL (t : Nat) {u v : Value} {l : List Oper} (hl : look env t = some u) (e : u = v) (h : WlR P n S w0 rd mk ops Q ((t, v) :: env) segs l) : WlR P n S w0 rd mk ops Q env segs l :=
  fun a w ha hp => h a w (ha.also (e ▸ hl)) hp
theorem r_reC (t : Nat) {u v : Value} {c : Code} (hl : look env t = some u) (e : u = v) (h : WcR P n S w0 rd mk Q ((t, v) :: env) segs c) : WcR P n S w0 rd mk Q env segs c :=
  fun a w ha hp => h a w (ha.also (e ▸ hl)) hp
theorem r_envC {e : Env} {c : Code} (he : Has env e) (h : WcR P n S w0 rd mk Q e segs c) : WcR P n S w0 rd mk Q env segs c :=
  fun a w ha hp => h a w (by
    have h0 : EnR n mk [] a := ⟨ha.size, ha.defers, fun t v hx => by simp [look] at hx⟩
    have := ha.has h0 he
    rwa [List.append_nil] at this) hp
theorem r_subL {out : List Seg} {l : List Oper} (hs : Sub segs out) (h : WlR P n S w0 rd mk ops Q env out l) : WlR P n S w0 rd mk ops Q env segs l := fun a w ha hp => h a w ha (hp.sub hs)
theorem r_subC {out : List Seg} {c : Code} (hs : Sub segs out) (h : WcR P n S w0 rd mk Q env out c) : WcR P n S w0 rd mk Q env segs c := fun a w ha hp => h a w ha (hp.sub hs)
theorem r_subQ {out : List Seg} {R : Act → World → Prop} (hs : Sub segs out) (h : WqR n S w0 mk R env out) : WqR n S w0 mk R env segs := fun a w ha hp => h a w ha (hp.sub hs)
theorem r_reQ (t : Nat) {u v : Value} {R : Act → World → Prop} (hl : look env t = some u) (e : u = v) (h : WqR n S w0 mk R ((t, v) :: env) segs) : WqR n S w0 mk R env segs :=
  fun a w ha hp => h a w (ha.also (e ▸ hl)) hp

theorem r_seq {x y : Code} (h : ∀ K : Act → World → Prop, (∀ env segs mk, WcR P n S w0 rd mk Q env segs y → WqR n S w0 mk K env segs) → WcR P n S w0 rd mk (Exit.then K Q) env segs x) :
    WcR P n S w0 rd mk Q env segs (.seq x y) :=
  fun a w ha hp => wpIn_seq (h (y.wpIn (FW rd) 0 P Q) (fun _ _ _ hy a' w' ha' hp' => hy a' w' ha' hp') a w ha hp)
theorem r_cond {c : Operand} {x y : Code} {φ : Prop} [Decidable φ] (hc : ev env c = some (.bool (decide φ))) (ht : φ → WcR P n S w0 rd mk Q env segs x) (hf : ¬ φ → WcR P n S w0 rd mk Q env segs y) :
    WcR P n S w0 rd mk Q env segs (.cond c x y) := by
  intro a w ha hp
  have he := ha.eval hc
  by_cases h : φ
  · exact wpIn_cond_true (by rw [he, decide_eq_true h]) (ht h a w ha hp)
  · exact wpIn_cond_false (by rw [he, decide_eq_false h]) (hf h a w ha hp)
theorem r_condY {c : Operand} {x y : Code} {φ : Prop} [Decidable φ] (hc : ev env c = some (.bool (decide φ))) (h : φ) (ht : WcR P n S w0 rd mk Q env segs x) : WcR P n S w0 rd mk Q env segs (.cond c x y) :=
  fun a w ha hp => wpIn_cond_true ((ha.eval hc).trans (by rw [decide_eq_true h])) (ht a w ha hp)
theorem r_condN {c : Operand} {x y : Code} {φ : Prop} [Decidable φ] (hc : ev env c = some (.bool (decide φ))) (h : ¬ φ) (hf : WcR P n S w0 rd mk Q env segs y) : WcR P n S w0 rd mk Q env segs (.cond c x y) :=
  fun a w ha hp => wpIn_cond_false ((ha.eval hc).trans (by rw [decide_eq_false h])) (hf a w ha hp)
theorem r_condT {c : Operand} {x y : Code} (hc : ev env c = some (.bool true)) (ht : WcR P n S w0 rd mk Q env segs x) : WcR P n S w0 rd mk Q env segs (.cond c x y) :=
  fun a w ha hp => wpIn_cond_true (ha.eval hc) (ht a w ha hp)
theorem r_condF {c : Operand} {x y : Code} (hc : ev env c = some (.bool false)) (hf : WcR P n S w0 rd mk Q env segs y) : WcR P n S w0 rd mk Q env segs (.cond c x y) :=
  fun a w ha hp => wpIn_cond_false (ha.eval hc) (hf a w ha hp)
theorem r_condB {c : Operand} {x y : Code} {b : Bool} (hc : ev env c = some (.bool b)) (ht : b = true → WcR P n S w0 rd mk Q env segs x) (hf : b = false → WcR P n S w0 rd mk Q env segs y) :
    WcR P n S w0 rd mk Q env segs (.cond c x y) := by
  intro a w ha hp
  have he := ha.eval hc
  cases b
  · exact wpIn_cond_false he (hf rfl a w ha hp)
  · exact wpIn_cond_true he (ht rfl a w ha hp)
theorem r_block {id : Nat} {c : Code} (h : WcR P n S w0 rd mk (Exit.inBlock id Q) env segs c) : WcR P n S w0 rd mk Q env segs (.block id c) := fun a w ha hp => wpIn_block (h a w ha hp)
theorem r_skip (h : WqR n S w0 mk (Q .normal) env segs) : WcR P n S w0 rd mk Q env segs .skip := fun a w ha hp => wpIn_skip (h a w ha hp)
theorem r_ret (h : WqR n S w0 mk (Q .ret) env segs) : WcR P n S w0 rd mk Q env segs .ret := fun a w ha hp => wpIn_ret (h a w ha hp)
theorem r_exit {id : Nat} (h : WqR n S w0 mk (Q (.exit id)) env segs) : WcR P n S w0 rd mk Q env segs (.exit id) := fun a w ha hp => wpIn_exit (h a w ha hp)

theorem r_tn {K : Act → World → Prop} (h : WqR n S w0 mk K env segs) : WqR n S w0 mk (Exit.then K Q .normal) env segs := h
theorem r_tr {K : Act → World → Prop} (h : WqR n S w0 mk (Q .ret) env segs) : WqR n S w0 mk (Exit.then K Q .ret) env segs := h
theorem r_te {K : Act → World → Prop} {id : Nat} (h : WqR n S w0 mk (Q (.exit id)) env segs) : WqR n S w0 mk (Exit.then K Q (.exit id)) env segs := h
theorem r_bn {id : Nat} (h : WqR n S w0 mk (Q .normal) env segs) : WqR n S w0 mk (Exit.inBlock id Q .normal) env segs := h
theorem r_br {id : Nat} (h : WqR n S w0 mk (Q .ret) env segs) : WqR n S w0 mk (Exit.inBlock id Q .ret) env segs := h
theorem r_be {id : Nat} (h : WqR n S w0 mk (Q .normal) env segs) : WqR n S w0 mk (Exit.inBlock id Q (.exit id)) env segs := by
  intro a w ha hp; simpa [Exit.inBlock] using h a w ha hp
theorem r_bo {id id' : Nat} (hne : Nat.beq id' id = false) (h : WqR n S w0 mk (Q (.exit id')) env segs) : WqR n S w0 mk (Exit.inBlock id Q (.exit id')) env segs := by
  intro a w ha hp
  have : id' ≠ id := fun e => by subst e; simp at hne
  simpa [Exit.inBlock, this] using h a w ha hp

def AgainR {α : Type} (n : Nat) (S : Nat → Prop) (w0 : World) (base : Env) (mkf : α → List Nat) (mod : α → Env) (sg : α → List Seg) (inv : α → Prop) (μ : α → Nat) (m : Nat) (a : Act) (w : World) : Prop :=
  ∃ x, μ x < m ∧ inv x ∧ EnR n (mkf x) (mod x ++ base) a ∧ Hp S w0 (sg x).flatten w

theorem r_loop {α : Type} (mkf : α → List Nat) (ts : List Nat) (mod : α → Env) (sg : α → List Seg) (inv : α → Prop) (μ : α → Nat) (x0 : α) {c : Code}
    (hm : mkf x0 = mk) (he : Has env (mod x0)) (hs : Sub segs (sg x0)) (hi : inv x0)
    (round : ∀ x, inv x → WcR P n S w0 rd (mkf x) (Exit.then (AgainR n S w0 (keep ts env) mkf mod sg inv μ (μ x)) Q) (mod x ++ keep ts env) (sg x) c) :
    WcR P n S w0 rd mk Q env segs (.loop c) := by
  intro a w ha hp
  refine wpIn_loop_ghost (fun m a w => ∃ x, μ x = m ∧ inv x ∧ EnR n (mkf x) (mod x ++ keep ts env) a ∧ Hp S w0 (sg x).flatten w) (μ x0)
    ⟨x0, rfl, hi, hm ▸ ha.has (ha.keep ts) he, hp.sub hs⟩ ?_
  rintro m a' w' ⟨x, rfl, hix, hax, hpx⟩
  refine wpIn_mono (round x hix a' w' hax hpx) ?_
  intro e a'' w'' hq
  cases e with
  | normal =>
    obtain ⟨x', h1, h2, h3, h4⟩ := hq
    exact ⟨μ x', h1, x', rfl, h2, h3, h4⟩
  | exit id => exact hq
  | goto l => exact hq
  | ret => exact hq
  | panic ch => exact hq
  | outgrown => exact hq
theorem r_again {α : Type} {mkf : α → List Nat} {ts : List Nat} {env0 : Env} {mod : α → Env} {sg : α → List Seg} {inv : α → Prop} {μ : α → Nat} {m : Nat} (x : α)
    (hm : μ x < m) (hk0 : mkf x = mk) (hi : inv x) (he : Has env (mod x)) (hk : Agree ts env env0) (hs : Sub segs (sg x)) :
    WqR n S w0 mk (AgainR n S w0 (keep ts env0) mkf mod sg inv μ m) env segs :=
  fun _ _ ha hp => ⟨x, hm, hi, hk0 ▸ ha.has (ha.agree hk) he, hp.sub hs⟩
end

theorem r_meet {P : Program} {n : Nat} {S : Nat → Prop} {w0 : World} {rd : Option Nat} {mk : List Nat} {env : Env} {segs : List Seg} {Q : Exit → Act → World → Prop} {α : Type} (ts : List Nat) (mod : α → Env) (sg : α → List Seg) (inv : α → Prop) {x y : Code}
    (h1 : ∀ K : Act → World → Prop, (∀ env' segs' z, inv z → Has env' (mod z) → Agree ts env' env → Sub segs' (sg z) → WqR n S w0 mk K env' segs') → WcR P n S w0 rd mk (Exit.then K Q) env segs x)
    (h2 : ∀ z, inv z → WcR P n S w0 rd mk Q (mod z ++ keep ts env) (sg z) y) : WcR P n S w0 rd mk Q env segs (.seq x y) :=
  fun a w ha hp => wpIn_seq (h1 (y.wpIn (FW rd) 0 P Q) (fun _ _ z hz he hk hs a' w' ha' hp' => h2 z hz a' w' (ha'.has (ha'.agree hk) he) (hp'.sub hs)) a w ha hp)
/-! ### entering and leaving -/
theorem r_enter {P : Program} {f : FuncId} {fn : Func} {n : Nat} {args : List Value} {w : World} {own : List Seg} {Φ : Value → List Seg → Prop} {c : Code}
    (hf : P.funcs[f]? = some fn) (hb : fn.body = some c) (hn : fn.ntmps = n) (hl : Nat.ble args.length n = true) (ho : Owns w own)
    (h : WcR P n (Fr w own) w none [] (bodyPostM (FW none) 0 P fn (SpecPost w own Φ)) (initEnv 0 args) own c) : Meets P f args w own Φ := by
  have hle : args.length ≤ n := Nat.le_of_ble_eq_true hl
  refine (callsIn_wide (n := 0)).1 (show CallsIn (FW none) 0 P f args.toArray w _ from callsIn_of_wp_marks hf hb trivial (h _ _ ⟨?_, rfl, fun t v ht => ?_⟩ (Hp.start ho)) rfl)
  · simp [hn]; omega
  · have ⟨_, h2⟩ := look_initEnv args 0 t v ht
    simp only [Nat.sub_zero] at h2
    have hlt : t < args.length := (List.getElem?_eq_some_iff.1 h2).1
    rw [Array.getElem?_append_left (by simpa using hlt)]
    simpa using h2

theorem Hp.putObj {S : Nat → Prop} {w0 w : World} {D : Nat} {o : Obj} {r : Seg} (o' : Obj) (h : Hp S w0 ((D, o) :: r) w) : Hp S w0 ((D, o') :: r) (w.putObj D o') := by
  have h' : Hp S w0 (([] : Seg) ++ (D, o) :: r) w := h
  have := Hp.put (w' := w.putObj D o') h' rfl rfl rfl (by simp) (Nat.le_refl _) (World.putObj_heap_same (h.key_lt (o := o) (by simp))) (fun k hk => World.putObj_heap_other hk)
  exact this
theorem Hp.tailR {S : Nat → Prop} {w0 w : World} {x : Nat × Obj} {r : Seg} (h : Hp S w0 (x :: r) w) : Hp S w0 r w := by
  have h' : Hp S w0 ([x] ++ r) w := h
  exact (h'.perm List.perm_append_comm).left

theorem leaves_marks {P : Program} {fn : Func} {tmps : Array Value} {R : Ending → World → Prop} {S : Nat → Prop} {w0 : World} {out : Seg} :
    ∀ (mk : List Nat) (w : World), Hp S w0 (mks mk ++ out) w → (∀ w', Hp S w0 out w' → ∃ v, (results fn tmps).run P w' = .ok v w' ∧ R (.returned v) w') → LeavesInM (FW none) 0 P fn tmps R (coll mk) .returning w
  | [], w, hp, h => by
    obtain ⟨v, h1, h2⟩ := h w hp
    exact ⟨v, h1, h2⟩
  | D :: mk, w, hp, h => by
    refine ⟨by simp, .inl ⟨D, w.putObj D (.deferred none), rfl, run_takeDeferred (hp.own D _ (by simp)), ?_⟩⟩
    exact leaves_marks mk _ (Hp.tailR (Hp.putObj (.deferred none) hp)) h

section
variable {P : Program} {fn : Func} {n : Nat} {w : World} {own : List Seg} {Φ : Value → List Seg → Prop} {env : Env} {segs : List Seg} {mk : List Nat}
theorem r_fin0 (own' : List Seg) (hr : fn.results = #[]) (hs : Sub segs (mks mk :: own')) (hΦ : Φ (.tuple #[]) own') : WqR n (Fr w own) w mk (bodyPostM (FW none) 0 P fn (SpecPost w own Φ) .ret) env segs := fun a w' ha hp => by
  show LeavesInM _ _ _ _ _ _ a.defers _ _
  rw [ha.defers]
  exact leaves_marks mk w' (out := own'.flatten) (by simpa using hp.sub hs) fun w'' hp' => ⟨_, results_none hr _ _ _, _, own', rfl, hp', hΦ⟩
theorem r_fin0n (own' : List Seg) (hr : fn.results = #[]) (hs : Sub segs (mks mk :: own')) (hΦ : Φ (.tuple #[]) own') : WqR n (Fr w own) w mk (bodyPostM (FW none) 0 P fn (SpecPost w own Φ) .normal) env segs :=
  r_fin0 own' hr hs hΦ
theorem r_fin1 (own' : List Seg) {r : Tmp} {v : Value} (hr : fn.results = #[.tmp r]) (hv : look env r = some v) (hs : Sub segs (mks mk :: own')) (hΦ : Φ v own') :
    WqR n (Fr w own) w mk (bodyPostM (FW none) 0 P fn (SpecPost w own Φ) .ret) env segs := fun a w' ha hp => by
  show LeavesInM _ _ _ _ _ _ a.defers _ _
  rw [ha.defers]
  exact leaves_marks mk w' (out := own'.flatten) (by simpa using hp.sub hs) fun w'' hp' => ⟨_, results_tmp hr _ _ _, _, own', rfl, hp', by rw [Array.getD_eq_getD_getElem?, ha.get _ _ hv]; exact hΦ⟩
theorem r_fin2 (own' : List Seg) {r s : Tmp} {v u : Value} (hr : fn.results = #[.tmp r, .tmp s]) (hv : look env r = some v) (hu : look env s = some u) (hs : Sub segs (mks mk :: own')) (hΦ : Φ (.tuple #[v, u]) own') :
    WqR n (Fr w own) w mk (bodyPostM (FW none) 0 P fn (SpecPost w own Φ) .ret) env segs := fun a w' ha hp => by
  show LeavesInM _ _ _ _ _ _ a.defers _ _
  rw [ha.defers]
  exact leaves_marks mk w' (out := own'.flatten) (by simpa using hp.sub hs) fun w'' hp' => ⟨_, results_tmp2 hr _ _ _, _, own', rfl, hp', by simp only [Array.getD_eq_getD_getElem?, ha.get _ _ hv, ha.get _ _ hu]; exact hΦ⟩
end

theorem Hp.fz {S : Nat → Prop} {w0 w : World} {own fr : List Seg} (hp : Hp S w0 (own ++ fr).flatten w) (k : Nat) (hk : S k) : Fr w own k ∧ w.heap[k]? = w0.heap[k]? := by
  refine ⟨⟨Nat.lt_of_lt_of_le (hp.lt k hk) hp.size, fun hm => ?_⟩, hp.same k hk⟩
  obtain ⟨⟨b', o⟩, hx, rfl⟩ := List.mem_map.1 hm
  rw [List.flatten_append] at hp
  exact hp.out b' o (List.mem_append_left _ hx) hk
/-- A cell of one of many blocks that are held as one segment. -/
theorem rdG {S : Nat → Prop} {w0 : World} {segs out : List Seg} {G : Seg} {b i : Nat} {cs : List Value} {T : TypeId} {v : Value} [pk : Pick segs G out] (hin : (b, blk cs T) ∈ G) (hi : cs[i]? = some v) : Rd S w0 segs b i v := fun w hp => by
  have hb := hp.own b _ (pk.perm.symm.subset (List.mem_append_left _ hin))
  simp [World.cell?, hb, hi]
theorem Sub.reg {segs out out' : List Seg} (h : Sub segs out) (e : out.flatten = out'.flatten) : Sub segs out' := by
  obtain ⟨rest, h⟩ := h; exact ⟨rest, by rw [← e]; exact h⟩
theorem Sub.op2 {a m : Seg} {segs out parts : List Seg} (hm : m = parts.flatten) (h : Sub (a :: (parts ++ segs)) out) : Sub (a :: m :: segs) out := by
  obtain ⟨rest, h⟩ := h
  exact ⟨rest, by subst hm; simpa using h⟩
theorem Sub.op3 {a b m : Seg} {segs out parts : List Seg} (hm : m = parts.flatten) (h : Sub (a :: b :: (parts ++ segs)) out) : Sub (a :: b :: m :: segs) out := by
  obtain ⟨rest, h⟩ := h
  exact ⟨rest, by subst hm; simpa using h⟩
theorem roMemG {S : Nat → Prop} {w0 w : World} {segs : List Seg} {b : Nat} {cs sp : List Value} {T : TypeId} (hm : (b, blk (cs ++ sp) T) ∈ segs.flatten) (hp : Hp S w0 segs.flatten w) : Ro (Fr w []) w (some ⟨b, 0, none⟩) cs := fun _ => by
  have hb := hp.own b _ hm
  refine ⟨b, 0, rfl, ⟨hp.key_lt hm, by simp⟩, fun j v hj => ?_⟩
  have : (cs ++ sp)[j]? = some v := app_get hj
  simp [World.cell?, hb, this]
/-! ### asking for a round -/
def YMeets (P : Program) (l : Nat) (args : List Value) (w : World) (own : List Seg) (Φ : Value → List Seg → Prop) : Prop :=
  ∃ f tmps assign body, (Instr.yield l args.toArray).run P w = .ok (.round l f tmps assign body) w ∧ RoundIn (FW none) 0 P l f tmps assign body w (SpecPost w own Φ)
section
variable {P : Program} {n : Nat} {S : Nat → Prop} {w0 : World} {rd : Option Nat} {mk : List Nat} {env : Env} {segs : List Seg} {K : Value → List Seg → Prop} {d : Option Tmp} {ty : TypeId} {pos : String} {af : Array Edge} {g : Option (Nat × Bool)}
theorem o_yield (own fr : List Seg) {l : Nat} {x : Operand} {args : List Operand} {tys : Array TypeId} {vs : List Value} {Φ : Value → List Seg → Prop}
    (hx : ev env x = some (.func (.yield l) #[] #[])) (ha : evs env args = some vs) (hsub : Sub segs (own ++ fr)) (hspec : ∀ w, Hp S w0 (own ++ fr).flatten w → YMeets P l vs w own Φ) (k : ∀ v own', Φ v own' → K v (own' ++ fr)) :
    DoesR P n S w0 rd mk env segs ⟨d, .call ⟨.value x, args.toArray, tys⟩, ty, pos, af, g⟩ K := by
  intro a w next Q hE hp hk
  obtain ⟨f, tmps, assign, body, hrun, hR⟩ := hspec w (hp.sub hsub)
  unfold Oper.wpIn
  refine ⟨fun _ _ => trivial, ?_⟩
  rw [Oper.semAt_eq _ _ _ (fun c hc => by cases hc)]
  have hex : (execOp a.eval ⟨d, .call ⟨.value x, args.toArray, tys⟩, ty, pos, af, g⟩).run P w = .ok (.round l f tmps assign body) w := by
    simp [execOp, resolve, Deferred.ofValue, invoke, hE.eval hx, hE.evals ha, hrun]
  rw [hex]
  refine ⟨(fun h => by cases h), ?_⟩
  show RoundIn (FW none) 0 P l f tmps assign body w _
  refine RoundIn.mono hR ?_
  rintro e w' ⟨v, own', rfl, hp', hΦ⟩
  exact hk v _ w' (k v own' hΦ) ((hp.sub hsub).called hp')
end

/-! ### the statement 'for .. range f' -/
/-- What a loop's record bears. -/
structure LoopD where
  fn : FuncId
  tmps : Array Value
  params : Array Tmp
  assign : Code
  body : Code
  D : Nat
def LoopD.rc (d : LoopD) (st : LoopState) (pe : Option Code) : Loop := { state := st, pending := pe, fn := d.fn, tmps := d.tmps, params := d.params, assign := d.assign, body := d.body, defers := d.D }
/-- The caller's memory with the loop's two blocks. -/
abbrev lseg (l : Nat) (d : LoopD) (st : LoopState) (pe : Option Code) (m : Seg) : Seg := (l, .loop (d.rc st pe)) :: (d.D, .deferred (some [])) :: m

/-- What a round hands over: J between two rounds, Jx behind a round that has left. -/
def YPost {β : Type} (l : Nat) (d : LoopD) (I Ix : List β → Seg → Prop) (cx : Code) (ys : List β) (u : Value) (own' : List Seg) : Prop :=
  ∃ m', own' = [m'] ∧ ((u = .bool true ∧ ∃ m, m' = lseg l d .ready none m ∧ I ys m) ∨ (u = .bool false ∧ ∃ m, m' = lseg l d .done (some cx) m ∧ Ix ys m))

/-- An iterator: for whatever is done in its rounds, J between two rounds (what has come), Jx behind a round that has left. -/
def IterAt {β : Type} (P : Program) (gf : FuncId) (lb : List Value) (own : List Seg) (enc : β → Value) (may : List β → β → Prop) (Fin Stp : List β → List Seg → Prop) (m0 : Seg) (w : World) : Prop :=
  ∀ (l : Nat) (J Jx : List β → Seg → Prop), J [] m0 → Owns w (m0 :: own) →
    (∀ ys y w' m, J ys m → may ys y → Owns w' [m] → (∀ k, Fr w (m0 :: own) k → Fr w' [m] k ∧ w'.heap[k]? = w.heap[k]?) →
      YMeets P l [enc y] w' [m] fun u own' => ∃ m', own' = [m'] ∧ ((u = .bool true ∧ J (ys ++ [y]) m') ∨ (u = .bool false ∧ Jx (ys ++ [y]) m'))) →
    Meets P gf (.func (.yield l) #[] #[] :: lb) w (m0 :: own) fun u own' => u = .tuple #[] ∧ ∃ m' o', own' = m' :: o' ∧ ((∃ ys, Fin ys o' ∧ J ys m') ∨ (∃ ys, Stp ys o' ∧ Jx ys m'))

section
variable {P : Program} {n : Nat} {S' : Nat → Prop} {w' : World} {env : Env} {segs : List Seg} {β : Type} {l : Nat} {d : LoopD} {I Ix : List β → Seg → Prop} {cx : Code} {ys : List β} {m m' : Seg}
theorem r_roundEnd (hs : Sub segs [[(l, .loop (d.rc .busy none))], [(d.D, .deferred (some []))], m']) (hI : I ys m') :
    WqR n (Fr w' [lseg l d .ready none m]) w' [] (roundPost P l (SpecPost w' [lseg l d .ready none m] (YPost l d I Ix cx ys)) .normal) env segs := fun a w ha hp => by
  have hp1 : Hp (Fr w' [lseg l d .ready none m]) w' ((l, Obj.loop (d.rc .busy none)) :: ((d.D, .deferred (some [])) :: m')) w := by simpa using hp.sub hs
  refine ⟨_, _, run_endRound none (hp1.own l _ (List.mem_cons_self ..)), .bool true, [lseg l d .ready none m'], rfl, ?_, ⟨_, rfl, .inl ⟨rfl, _, rfl, hI⟩⟩⟩
  have := Hp.putObj (.loop (d.rc .ready none)) hp1
  rw [List.flatten_cons, List.flatten_nil, List.append_nil]; exact this
theorem r_roundOut {e : Exit} (he : (e = .ret ∧ cx = .ret) ∨ ∃ id, e = .exit id ∧ cx = .exit id) (hs : Sub segs [[(l, .loop (d.rc .busy none))], [(d.D, .deferred (some []))], m']) (hI : Ix ys m') :
    WqR n (Fr w' [lseg l d .ready none m]) w' [] (roundPost P l (SpecPost w' [lseg l d .ready none m] (YPost l d I Ix cx ys)) e) env segs := fun a w ha hp => by
  have hp1 : Hp (Fr w' [lseg l d .ready none m]) w' ((l, Obj.loop (d.rc .busy none)) :: ((d.D, .deferred (some [])) :: m')) w := by simpa using hp.sub hs
  have hq := Hp.putObj (.loop (d.rc .done (some cx))) hp1
  rcases he with ⟨rfl, rfl⟩ | ⟨id, rfl, rfl⟩
  · exact ⟨_, _, run_endRound (some .ret) (hp1.own l _ (List.mem_cons_self ..)), .bool false, [lseg l d .done (some .ret) m'], rfl, (by rw [List.flatten_cons, List.flatten_nil, List.append_nil]; exact hq), ⟨_, rfl, .inr ⟨rfl, _, rfl, hI⟩⟩⟩
  · exact ⟨_, _, run_endRound (some (.exit id)) (hp1.own l _ (List.mem_cons_self ..)), .bool false, [lseg l d .done (some (.exit id)) m'], rfl, (by rw [List.flatten_cons, List.flatten_nil, List.append_nil]; exact hq), ⟨_, rfl, .inr ⟨rfl, _, rfl, hI⟩⟩⟩
end

section
variable {P : Program} {n : Nat} {S : Nat → Prop} {w0 : World} {mk : List Nat} {env : Env} {segs : List Seg} {Q : Exit → Act → World → Prop}
theorem r_range {β : Type} {g : Operand} {p : Tmp} {assign body : Code} {gf : FuncId} {lb : List Value} (hg : ev env g = some (.func (.func gf) #[] lb.toArray))
    (hc : ∀ args w, (callFunc gf args).run P w = .ok (.enter gf args) w) (hn : Nat.blt p n = true) (C own fr : List Seg) (hs : Sub segs (C ++ (own ++ fr)))
    (enc : β → Value) {may : List β → β → Prop} {Fin Stp : List β → List Seg → Prop}
    (hit : ∀ w1 m0, Hp S w0 (m0 :: (own ++ fr)).flatten w1 → IterAt P gf lb own enc may Fin Stp m0 w1)
    (I Ix : List β → Seg → Prop) (cx : Code) (h0 : I [] C.flatten)
    (hround : ∀ (w' : World) (l : Nat) (d : LoopD) (ys : List β) (y : β) (m : Seg), I ys m → may ys y → (∀ k, S k → Fr w' [lseg l d .ready none m] k ∧ w'.heap[k]? = w0.heap[k]?) →
      ∀ K : Act → World → Prop, (∀ env' rest, WcR P n (Fr w' [lseg l d .ready none m]) w' (some l) [] (roundPost P l (SpecPost w' [lseg l d .ready none m] (YPost l d I Ix cx (ys ++ [y])))) env' ([(l, .loop (d.rc .busy none))] :: rest) body →
          WqR n (Fr w' [lseg l d .ready none m]) w' [] K env' ([(l, .loop (d.rc .ready none))] :: rest)) →
        WcR P n (Fr w' [lseg l d .ready none m]) w' (some l) [] (Exit.then K fun _ _ _ => False) ((p, enc y) :: env) [[(l, .loop (d.rc .ready none))], [(d.D, .deferred (some []))], m] assign)
    (hdone : ∀ D ys m o', Fin ys o' → I ys m → WqR n S w0 (D :: mk) (Q .normal) env ([(D, .deferred (some []))] :: m :: (o' ++ fr)))
    (hstop : ∀ D ys m o', Stp ys o' → Ix ys m → WcR P n S w0 none (D :: mk) Q env ([(D, .deferred (some []))] :: m :: (o' ++ fr)) cx) :
    WcR P n S w0 none mk Q env segs (.rangeFunc g #[p] assign body) := by
  intro a w ha hp
  refine wpIn_rangeFunc ?_
  intro fn _
  obtain ⟨d, hd⟩ : ∃ d : LoopD, d = ⟨fn, a.tmps, #[p], assign, body, w.heap.size⟩ := ⟨_, rfl⟩
  obtain ⟨l, hl⟩ : ∃ l, l = w.heap.size + 1 := ⟨_, rfl⟩
  obtain ⟨W1, hW1⟩ : ∃ W1, W1 = (w.alloc (.deferred (some []))).alloc (.loop (d.rc .ready none)) := ⟨_, rfl⟩
  have hD : d.D = w.heap.size := by rw [hd]
  have hp1 : Hp S w0 (lseg l d .ready none C.flatten :: (own ++ fr)).flatten W1 := by
    have h1 := (Hp.alloc (hp.sub hs) (.deferred (some []))).alloc (.loop (d.rc .ready none))
    rw [World.size_alloc, ← hl, ← hW1, ← hD] at h1
    simpa using h1
  refine ⟨l, [{ target := .collected w.heap.size, args := #[] }], W1, { target := .fn (.func gf) lb.toArray, args := #[.func (.yield l) #[] #[]] }, W1, gf,
    (.func (.yield l) #[] #[] :: lb).toArray, W1, ?_, ?_, fun _ _ => trivial, ?_, (fun h => by cases h), ?_⟩
  · have := run_enterLoop_outer (P := P) (w := w) fn a.tmps #[p] assign body
    rw [hl, hW1, hd]; exact this
  · simp [resolve, Deferred.ofValue, ha.eval hg]
    simp [Act.eval]
  · simp [invoke, hc]
  have hown : Owns W1 (lseg l d .ready none C.flatten :: own) := Hp.owns (fr := fr) hp1
  have hSF : ∀ k, S k → Fr W1 (lseg l d .ready none C.flatten :: own) k ∧ W1.heap[k]? = w0.heap[k]? := fun k hk => by
    refine ⟨⟨Nat.lt_of_lt_of_le (hp1.lt k hk) hp1.size, fun hm => ?_⟩, hp1.same k hk⟩
    obtain ⟨⟨b', o⟩, hx, rfl⟩ := List.mem_map.1 hm
    refine hp1.out b' o ?_ hk
    have e : (lseg l d .ready none C.flatten :: (own ++ fr)) = (lseg l d .ready none C.flatten :: own) ++ fr := rfl
    rw [e, List.flatten_append]
    exact List.mem_append_left _ hx
  have hM := hit W1 _ hp1 l (fun ys m => ∃ m', m = lseg l d .ready none m' ∧ I ys m') (fun ys m => ∃ m', m = lseg l d .done (some cx) m' ∧ Ix ys m') ⟨_, rfl, h0⟩ hown ?_
  · show CallsIn Fence.wide 0 P gf _ W1 _
    refine callsIn_wide.2 (Calls.mono hM ?_)
    rintro e w3 ⟨v, own', rfl, hp3, rfl, m', o', rfl, hc3⟩
    have hp4 := Hp.called (own := lseg l d .ready none C.flatten :: own) (fr := fr) hp1 hp3
    have hE : EnR n (w.heap.size :: mk) env { a with defers := [{ target := .collected w.heap.size, args := #[] }] ++ a.defers } := ⟨ha.size, by simp [ha.defers], ha.get⟩
    rcases hc3 with ⟨ys, hF, m, rfl, hI⟩ | ⟨ys, hF, m, rfl, hI⟩
    · have hp5 : Hp S w0 ((l, Obj.loop (d.rc .ready none)) :: ((d.D, .deferred (some [])) :: (m ++ (o' ++ fr).flatten))) w3 := by simpa using hp4
      refine ⟨none, _, run_endLoop (hp5.own l _ (List.mem_cons_self ..)) (by simp [LoopD.rc]), ?_⟩
      have hp6 := Hp.tailR (Hp.putObj (.loop { d.rc .ready none with state := .exhausted }) hp5)
      rw [hD] at hp6
      exact hdone w.heap.size ys m o' hF hI _ _ hE (by simpa using hp6)
    · have hp5 : Hp S w0 ((l, Obj.loop (d.rc .done (some cx))) :: ((d.D, .deferred (some [])) :: (m ++ (o' ++ fr).flatten))) w3 := by simpa using hp4
      refine ⟨some cx, _, run_endLoop (hp5.own l _ (List.mem_cons_self ..)) (by simp [LoopD.rc]), ?_⟩
      have hp6 := Hp.tailR (Hp.putObj (.loop { d.rc .done (some cx) with state := .exhausted }) hp5)
      rw [hD] at hp6
      exact hstop w.heap.size ys m o' hF hI _ _ hE (by simpa using hp6)
  · rintro ys y w' _ ⟨m, rfl, hI⟩ hmay hown' hfr
    refine ⟨fn, a.tmps.setIfInBounds p (enc y), assign, body, ?_, ?_⟩
    · have hy := run_yield (P := P) (w := w') (l := l) (r := d.rc .ready none) (args := #[enc y]) (hown'.there l _ (by simp)) (by rw [hd]; rfl)
      rw [hd] at hy
      simpa [LoopD.rc] using hy
    · refine RoundIn.mono (R := SpecPost w' [lseg l d .ready none m] (YPost l d I Ix cx (ys ++ [y]))) (roundIn_of_wpIn trivial ?_) ?_
      · refine hround w' l d ys y m hI hmay (fun k hk => ⟨(hfr k (hSF k hk).1).1, (hfr k (hSF k hk).1).2.trans (hSF k hk).2⟩) _ ?_ _ w' ?_ (by simpa using Hp.start hown')
        · intro env' rest hb a1 w1 ha1 hp1'
          have hp2 : Hp (Fr w' [lseg l d .ready none m]) w' ((l, Obj.loop (d.rc .ready none)) :: rest.flatten) w1 := by simpa using hp1'
          refine ⟨_, run_beginRound (hp2.own l _ (List.mem_cons_self ..)) rfl, hb _ _ ha1 ?_⟩
          have := Hp.putObj (.loop (d.rc .busy none)) hp2
          rw [List.flatten_cons, List.singleton_append]; exact this
        · have := ha.put hn (enc y)
          exact ⟨by simpa [Act.put] using this.size, rfl, by simpa [Act.put] using this.get⟩
      · rintro e w'' ⟨v, own', rfl, hp', m', rfl, hΦ⟩
        exact ⟨v, _, rfl, hp', m', rfl, hΦ⟩
end
end Go.Proofs.Ytkhjckghpakliaa.Fly
