/- grow.sides: the neighbours of each vertex, rising. -/
import Derived.Test.YtlllpmafhnfihaaFCpt3
import Derived.Test.YtlllpmafhnfihaaFSortI
import Derived.Test.YtlllpmafhnfihaaPNbr3
import Derived.Test.YtlllpmafhnfihaaFGraph
namespace Go.Proofs.Ytlllpmafhnfihaa
open Go Go.RowKit Fly
set_option linter.unusedVariables false
set_option linter.unusedSimpArgs false


def rawRows (n : Nat) (l : List Arc) : List (List Int) := (List.range n).map fun v => l.flatMap (nbr (Int.ofNat v))
def nrows (n : Nat) (l : List Arc) : List (List Int) := (List.range n).map fun v => nbrs (Int.ofNat v) l
/-- Rows of which the first j are in order. -/
def mixRows (n : Nat) (l : List Arc) (j : Nat) : List (List Int) := (List.range n).map fun v => if v < j then nbrs (Int.ofNat v) l else l.flatMap (nbr (Int.ofNat v))
theorem rawRows_len (n : Nat) (l : List Arc) : (rawRows n l).length = n := by simp [rawRows]
theorem nrows_len (n : Nat) (l : List Arc) : (nrows n l).length = n := by simp [nrows]
theorem mixRows_len (n : Nat) (l : List Arc) (j : Nat) : (mixRows n l j).length = n := by simp [mixRows]
theorem rawRows_get {n : Nat} {l : List Arc} {i : Nat} (h : i < (rawRows n l).length) : (rawRows n l)[i] = l.flatMap (nbr (i : Int)) := by simp [rawRows]
theorem nrows_get {n : Nat} {l : List Arc} {i : Nat} (h : i < (nrows n l).length) : (nrows n l)[i] = nbrs (i : Int) l := by simp [nrows]
theorem mixRows_get {n : Nat} {l : List Arc} {i j : Nat} (h : i < (mixRows n l j).length) : (mixRows n l j)[i] = if i < j then nbrs (i : Int) l else l.flatMap (nbr (i : Int)) := by simp [mixRows]
theorem rawRows_nil (n : Nat) : rawRows n [] = List.replicate n [] := by
  refine List.ext_getElem (by simp [rawRows]) fun i h1 h2 => ?_
  rw [rawRows_get]; simp
theorem rawRows_same {n : Nat} {l : List Arc} {k : Nat} (hk : k < l.length) (h : l[k].src = l[k].dst) : rawRows n (l.take (k + 1)) = rawRows n (l.take k) := by
  refine List.ext_getElem (by simp [rawRows]) fun i h1 h2 => ?_
  rw [rawRows_get, rawRows_get, nbr_next hk]
  simp [nbr, h]
theorem rawRows_two {n : Nat} {l : List Arc} {k s d : Nat} (hk : k < l.length) (hs : l[k].src = (s : Int)) (hd : l[k].dst = (d : Int)) (hne : s ≠ d) :
    ((rawRows n (l.take k)).set s ((l.take k).flatMap (nbr (s : Int)) ++ [l[k].dst])).set d ((l.take k).flatMap (nbr (d : Int)) ++ [l[k].src]) = rawRows n (l.take (k + 1)) := by
  refine List.ext_getElem (by simp [rawRows]) fun i h1 h2 => ?_
  have e1 : ¬ l[k].src = l[k].dst := by omega
  rw [rawRows_get, nbr_next hk]
  by_cases h : i = d
  · subst h
    rw [List.getElem_set_self]
    unfold nbr
    rw [if_neg e1, if_neg (by omega), if_pos (by omega)]
  · rw [List.getElem_set_ne (by omega)]
    by_cases h' : i = s
    · subst h'
      rw [List.getElem_set_self]
      unfold nbr
      rw [if_neg e1, if_pos (by omega)]
    · rw [List.getElem_set_ne (by omega), rawRows_get]
      unfold nbr
      rw [if_neg e1, if_neg (by omega), if_neg (by omega)]; simp
theorem mixRows_zero (n : Nat) (l : List Arc) : mixRows n l 0 = rawRows n l := by simp [mixRows, rawRows]
theorem mixRows_all (n : Nat) (l : List Arc) : mixRows n l n = nrows n l := by
  refine List.ext_getElem (by simp [mixRows, nrows]) fun i h1 h2 => ?_
  rw [mixRows_get, nrows_get, if_pos (by simpa [nrows] using h2)]
theorem mixRows_next {n : Nat} {l : List Arc} {j : Nat} : (mixRows n l j).set j (cpt (sortI (l.flatMap (nbr (j : Int))))) = mixRows n l (j + 1) := by
  refine List.ext_getElem (by simp [mixRows]) fun i h1 h2 => ?_
  rw [mixRows_get]
  by_cases h : i = j
  · subst h; rw [List.getElem_set_self, if_pos (by omega)]; rfl
  · rw [List.getElem_set_ne (by omega), mixRows_get]
    by_cases h' : i < j
    · rw [if_pos h', if_pos (by omega)]
    · rw [if_neg h', if_neg (by omega)]
theorem ints_len1' {E : TypeId} {v : Value} {l : List Int} {x : Int} {m : Seg} : Own E 1 v (l.length + 1) (ints l ++ [.int .i64 x]) m = Own E 1 v (l ++ [x]).length (ints (l ++ [x])) m := by rw [ints_append, List.length_append]; rfl
theorem rep_flat' (n : Nat) (v : Value) : List.replicate n v = (List.replicate n [v]).flatten := by
  induction n with
  | zero => rfl
  | succ n ih => rw [List.replicate_succ, List.replicate_succ, List.flatten_cons, ← ih]; rfl

set_option maxRecDepth 100000 in
set_option maxHeartbeats 4000000 in
theorem sides_spec (n : Nat) (A : Option Addr) (l : List Arc) (cap : Nat) (w : World) (hr : Ro (Fr w []) w A (l.flatMap arcCs)) (hn : n ≤ 1024) (hlen : l.length ≤ 8192) (hgd : ∀ k (hk : k < l.length), 0 ≤ l[k].src ∧ l[k].src < (n : Int) ∧ 0 ≤ l[k].dst ∧ l[k].dst < (n : Int)) :
    Meets Try.prog 25 [.agg #[.int .i64 (n : Int), .slice A l.length cap]] w [] (fun u own' => ∃ bo vs ms, u = .slice (some ⟨bo, 0, none⟩) n n ∧ own' = [[(bo, blk vs 28)], ms.flatten] ∧ RowsI 3 (nrows n l) vs ms) := by
  refine f_enter Try.func25 rfl Try.ntmps25 rfl Owns.nil ?_
  refine f_seq fun K1 kh1 => ?_
  refine f_region ?_
  refine f_step rfl rfl rfl (o_box rfl rfl fun b1 => ?_)
  refine f_stepP rfl rfl rfl (o_assign rfl) ?_
  refine f_done ?_
  refine f_tn (kh1 _ _ ?_)
  clear kh1
  refine f_seq fun K2 kh2 => ?_
  refine f_region ?_
  refine f_stepP rfl rfl rfl (o_field fa24_0 rfl) ?_
  refine f_stepP rfl rfl rfl (o_load Try.isAgg3 rfl (rdA rfl)) ?_
  refine f_step rfl rfl rfl (o_make el55 rfl rfl n rfl (by omega) (by omega) (List.replicate n (.slice none 0 0)) (rep_flat' n _).symm fun b9 => ?_)
  refine f_stepP rfl rfl rfl (o_assign rfl) ?_
  refine f_done ?_
  refine f_tn (kh2 _ _ ?_)
  clear kh2
  refine f_seq fun K3 kh3 => ?_
  refine f_seq fun K4 kh4 => ?_
  refine f_region ?_
  refine f_stepP rfl rfl rfl (o_field fa24_1 rfl) ?_
  refine f_stepP rfl rfl rfl (o_load Try.isAgg22 rfl (rdA rfl)) ?_
  refine f_stepP rfl rfl rfl (o_len sl22 rfl) ?_
  refine f_stepP rfl rfl rfl (o_move rfl) ?_
  refine f_done ?_
  refine f_tn (kh4 _ _ ?_)
  clear kh4
  refine f_block ?_
  refine f_loop (α := Nat × List Value × List Seg) [3, 11, 12] (fun ⟨k, vs, ms⟩ => [(13, .int .i64 (k : Int))]) (fun ⟨k, vs, ms⟩ => [[(b9, blk vs 28)], ms.flatten, [(b1, blk [.int .i64 (n : Int), .slice A l.length cap] 24)]]) (fun ⟨k, vs, ms⟩ => k ≤ l.length ∧ RowsI 3 (rawRows n (l.take k)) vs ms) (fun ⟨k, vs, ms⟩ => l.length - k) (0, List.replicate n (.slice none 0 0), List.replicate n []) ?_ ?_ ?_ ?_
  · exact (by repeat (first | exact trivial | refine ⟨rfl, ?_⟩))
  · dsimp only
    rw [show (List.replicate n ([] : Seg)).flatten = [] from by simp]
    repeat (first | exact Sub.nil | refine Sub.pick ?_ | refine Sub.castO rfl ?_ | refine Sub.skip ?_)
  · exact ⟨by omega, by rw [List.take_zero, rawRows_nil]; exact RowsI.start _ n⟩
  · rintro ⟨k, vs, ms⟩ ⟨hkl, hR⟩
    refine f_seq fun K5 kh5 => ?_
    refine f_region ?_
    refine f_stepP rfl rfl rfl (o_lss rfl rfl) ?_
    refine f_done ?_
    refine f_tn (kh5 _ _ ?_)
    clear kh5
    refine f_seq fun K6 kh6 => ?_
    refine f_cond rfl (fun c14 => ?_) (fun c14 => ?_)
    · skip
      refine f_skip ?_
      refine f_tn (kh6 _ _ ?_)
      clear kh6
      refine f_seq fun K7 kh7 => ?_
      refine f_block ?_
      refine f_seq fun K8 kh8 => ?_
      refine f_region ?_
      have hk : k < l.length := by omega
      obtain ⟨bl, off, rfl, hS, hc⟩ := hr (flat_ne arcCs arcCs_len (by omega) hk)
      have hgk := hgd k hk
      refine f_stepP rfl rfl rfl (o_idx sl22 rfl rfl (off + k * 3) ⟨by omega, by omega, by first | omega | (simp; done) | (simp; omega)⟩) ?_
      refine f_stepP rfl rfl rfl (o_loadA (vs := arcCs l[k]) Try.isAgg44 Try.sizeOf44 rfl rfl (roElem arcCs_len hS hc hk)) ?_
      refine f_step rfl rfl rfl (o_alloc Try.zeroValue44 rfl fun b5 => ?_)
      refine f_step0 rfl rfl (o_storeA Try.sizeOf44 rfl rfl rfl rfl (by first | exact Nat.le_of_ble_eq_true rfl | (simp; done) | (simp; omega)) (arcCs l[k]) rfl ?_)
      refine f_done ?_
      refine f_tn (kh8 _ _ ?_)
      clear kh8
      refine f_seq fun K9 kh9 => ?_
      refine f_region ?_
      refine f_stepP rfl rfl rfl (o_field fa44_0 rfl) ?_
      refine f_stepP rfl rfl rfl (o_load Try.isAgg3 rfl (rdA rfl)) ?_
      refine f_stepP rfl rfl rfl (o_field fa44_1 rfl) ?_
      refine f_stepP rfl rfl rfl (o_load Try.isAgg3 rfl (rdA rfl)) ?_
      refine f_stepP rfl rfl rfl (o_neq rfl rfl) ?_
      refine f_done ?_
      refine f_tn (kh9 _ _ ?_)
      clear kh9
      refine f_cond rfl (fun c21 => ?_) (fun c21 => ?_)
      · skip
        refine f_seq fun K10 kh10 => ?_
        obtain ⟨s, hs, hsn⟩ : ∃ s : Nat, l[k].src = (s : Int) ∧ s < n := ⟨l[k].src.toNat, by omega, by omega⟩
        obtain ⟨d, hd, hdn⟩ : ∃ d : Nat, l[k].dst = (d : Int) ∧ d < n := ⟨l[k].dst.toNat, by omega, by omega⟩
        have hsd : s ≠ d := by omega
        obtain ⟨rv, rm, rG, hrv, hro, hrp, hput⟩ := hR.split (i := s) (by rw [rawRows_len]; exact hsn)
        rw [rawRows_get] at hro
        have hrlen := nbr_len (s : Int) (l.take k)
        rw [List.length_take] at hrlen
        obtain ⟨rl, hrl⟩ : ∃ rl, rl = (l.take k).flatMap (nbr (s : Int)) := ⟨_, rfl⟩
        rw [← hrl] at hro hrlen
        obtain ⟨Ar, cr, rfl, hcr⟩ := hro.val
        refine f_subC (Sub.splitF hrp) ?_
        refine f_regionH [[(b5, blk (arcCs l[k]) 44)]] rfl ?_
        refine f_take 0 rfl (by decide +kernel) rfl rfl rfl (by repeat (first | exact Sub.nil | refine Sub.pick ?_ | refine Sub.castO rfl ?_ | refine Sub.skip ?_)) (o_move rfl) ?_
        refine f_take 1 rfl (by decide +kernel) rfl rfl rfl (by repeat (first | exact Sub.nil | refine Sub.pick ?_ | refine Sub.castO rfl ?_ | refine Sub.skip ?_)) (o_field fa44_0 rfl) ?_
        refine f_take 2 rfl (by decide +kernel) rfl rfl rfl (by repeat (first | exact Sub.nil | refine Sub.pick ?_ | refine Sub.castO rfl ?_ | refine Sub.skip ?_)) (o_load Try.isAgg3 rfl (rdA rfl)) ?_
        refine f_take 3 rfl (by decide +kernel) rfl rfl rfl (by repeat (first | exact Sub.nil | refine Sub.pick ?_ | refine Sub.castO rfl ?_ | refine Sub.skip ?_)) (o_move rfl) ?_
        refine f_take 4 rfl (by decide +kernel) rfl rfl rfl (by repeat (first | exact Sub.nil | refine Sub.pick ?_ | refine Sub.castO rfl ?_ | refine Sub.skip ?_)) (o_field fa44_0 rfl) ?_
        refine f_take 5 rfl (by decide +kernel) rfl rfl rfl (by repeat (first | exact Sub.nil | refine Sub.pick ?_ | refine Sub.castO rfl ?_ | refine Sub.skip ?_)) (o_load Try.isAgg3 rfl (rdA rfl)) ?_
        refine f_take 6 rfl (by decide +kernel) rfl rfl rfl (by repeat (first | exact Sub.nil | refine Sub.pick ?_ | refine Sub.castO rfl ?_ | refine Sub.skip ?_)) (o_idx sl55 rfl rfl (s) ⟨by omega, by omega, by first | omega | (simp; done) | (simp; omega)⟩) ?_
        refine f_take 8 rfl (by decide +kernel) rfl rfl rfl (by repeat (first | exact Sub.nil | refine Sub.pick ?_ | refine Sub.castO rfl ?_ | refine Sub.skip ?_)) (o_field fa44_1 rfl) ?_
        refine f_take 9 rfl (by decide +kernel) rfl rfl rfl (by repeat (first | exact Sub.nil | refine Sub.pick ?_ | refine Sub.castO rfl ?_ | refine Sub.skip ?_)) (o_load Try.isAgg3 rfl (rdA rfl)) ?_
        refine f_two 7 10 rfl rfl (by decide +kernel) rfl rfl rfl rfl rfl rfl ?_ ?_
        · skip
          refine (o_load Try.isAgg28 rfl (rdA hrv)).does ⟨(by repeat (first | exact Sub.nil | refine Sub.pick ?_ | refine Sub.castO rfl ?_ | refine Sub.skip ?_)), ?_⟩
          refine f_only 10 rfl (by decide +kernel) rfl rfl rfl (o_slice1 el28 (by omega) rfl rfl rfl fun b32 => ⟨(by repeat (first | exact Sub.nil | refine Sub.pick ?_ | refine Sub.castO rfl ?_ | refine Sub.skip ?_)), ?_⟩)
          refine f_only 11 rfl (by decide +kernel) rfl rfl rfl (o_append el28 rfl rfl hro (ys := [.int .i64 l[k].dst]) ⟨(rdA rfl), trivial⟩ rfl rfl (by omega) (by omega) fun v33 m33 o33 => ⟨(by repeat (first | exact Sub.nil | refine Sub.pick ?_ | refine Sub.castO rfl ?_ | refine Sub.skip ?_)), ?_⟩)
          obtain ⟨A33, cap33, rfl, _⟩ := o33.val
          refine f_take 12 rfl (by decide +kernel) rfl rfl rfl (by repeat (first | exact Sub.nil | refine Sub.pick ?_ | refine Sub.castO rfl ?_ | refine Sub.skip ?_)) (o_idx sl55 rfl rfl (s) ⟨by omega, by omega, by first | omega | (simp; done) | (simp; omega)⟩) ?_
          refine f_only0 13 rfl (by decide +kernel) rfl rfl (o_store Try.sizeOf28 rfl rfl rfl rfl (by have := hR.lv; rw [rawRows_len] at this; omega) (vs.set s (.slice A33 (rl.length + 1) cap33)) rfl ⟨(by repeat (first | exact Sub.nil | refine Sub.pick ?_ | refine Sub.castO rfl ?_ | refine Sub.skip ?_)), ?_⟩)
          refine f_over (by decide +kernel) ?_
          refine f_tn (kh10 _ _ ?_)
          clear kh10
          refine f_subC (Sub.joinF (m := m33) (G' := rG) (hput _ _ _ (by rw [← ints_len1']; exact o33)).2) ?_
          obtain ⟨rv2, rm2, rG2, hrv2, hro2, hrp2, hput2⟩ := (hput _ _ _ (by rw [← ints_len1']; exact o33)).1.split (i := d) (by rw [List.length_set, rawRows_len]; exact hdn)
          rw [List.getElem_set_ne hsd, rawRows_get] at hro2
          have hrlen2 := nbr_len (d : Int) (l.take k)
          rw [List.length_take] at hrlen2
          obtain ⟨rl2, hrl2⟩ : ∃ rl2, rl2 = (l.take k).flatMap (nbr (d : Int)) := ⟨_, rfl⟩
          rw [← hrl2] at hro2 hrlen2
          obtain ⟨Ar2, cr2, rfl, hcr2⟩ := hro2.val
          refine f_subC (Sub.splitF hrp2) ?_
          refine f_regionH [[(b5, blk (arcCs l[k]) 44)]] rfl ?_
          refine f_take 0 rfl (by decide +kernel) rfl rfl rfl (by repeat (first | exact Sub.nil | refine Sub.pick ?_ | refine Sub.castO rfl ?_ | refine Sub.skip ?_)) (o_move rfl) ?_
          refine f_take 1 rfl (by decide +kernel) rfl rfl rfl (by repeat (first | exact Sub.nil | refine Sub.pick ?_ | refine Sub.castO rfl ?_ | refine Sub.skip ?_)) (o_field fa44_1 rfl) ?_
          refine f_take 2 rfl (by decide +kernel) rfl rfl rfl (by repeat (first | exact Sub.nil | refine Sub.pick ?_ | refine Sub.castO rfl ?_ | refine Sub.skip ?_)) (o_load Try.isAgg3 rfl (rdA rfl)) ?_
          refine f_take 3 rfl (by decide +kernel) rfl rfl rfl (by repeat (first | exact Sub.nil | refine Sub.pick ?_ | refine Sub.castO rfl ?_ | refine Sub.skip ?_)) (o_move rfl) ?_
          refine f_take 4 rfl (by decide +kernel) rfl rfl rfl (by repeat (first | exact Sub.nil | refine Sub.pick ?_ | refine Sub.castO rfl ?_ | refine Sub.skip ?_)) (o_field fa44_1 rfl) ?_
          refine f_take 5 rfl (by decide +kernel) rfl rfl rfl (by repeat (first | exact Sub.nil | refine Sub.pick ?_ | refine Sub.castO rfl ?_ | refine Sub.skip ?_)) (o_load Try.isAgg3 rfl (rdA rfl)) ?_
          refine f_take 6 rfl (by decide +kernel) rfl rfl rfl (by repeat (first | exact Sub.nil | refine Sub.pick ?_ | refine Sub.castO rfl ?_ | refine Sub.skip ?_)) (o_idx sl55 rfl rfl (d) ⟨by omega, by omega, by first | omega | (simp; done) | (simp; omega)⟩) ?_
          refine f_take 8 rfl (by decide +kernel) rfl rfl rfl (by repeat (first | exact Sub.nil | refine Sub.pick ?_ | refine Sub.castO rfl ?_ | refine Sub.skip ?_)) (o_field fa44_0 rfl) ?_
          refine f_take 9 rfl (by decide +kernel) rfl rfl rfl (by repeat (first | exact Sub.nil | refine Sub.pick ?_ | refine Sub.castO rfl ?_ | refine Sub.skip ?_)) (o_load Try.isAgg3 rfl (rdA rfl)) ?_
          refine f_two 7 10 rfl rfl (by decide +kernel) rfl rfl rfl rfl rfl rfl ?_ ?_
          · skip
            refine (o_load Try.isAgg28 rfl (rdA hrv2)).does ⟨(by repeat (first | exact Sub.nil | refine Sub.pick ?_ | refine Sub.castO rfl ?_ | refine Sub.skip ?_)), ?_⟩
            refine f_only 10 rfl (by decide +kernel) rfl rfl rfl (o_slice1 el28 (by omega) rfl rfl rfl fun b45 => ⟨(by repeat (first | exact Sub.nil | refine Sub.pick ?_ | refine Sub.castO rfl ?_ | refine Sub.skip ?_)), ?_⟩)
            refine f_only 11 rfl (by decide +kernel) rfl rfl rfl (o_append el28 rfl rfl hro2 (ys := [.int .i64 l[k].src]) ⟨(rdA rfl), trivial⟩ rfl rfl (by omega) (by omega) fun v46 m46 o46 => ⟨(by repeat (first | exact Sub.nil | refine Sub.pick ?_ | refine Sub.castO rfl ?_ | refine Sub.skip ?_)), ?_⟩)
            obtain ⟨A46, cap46, rfl, _⟩ := o46.val
            refine f_take 12 rfl (by decide +kernel) rfl rfl rfl (by repeat (first | exact Sub.nil | refine Sub.pick ?_ | refine Sub.castO rfl ?_ | refine Sub.skip ?_)) (o_idx sl55 rfl rfl (d) ⟨by omega, by omega, by first | omega | (simp; done) | (simp; omega)⟩) ?_
            refine f_only0 13 rfl (by decide +kernel) rfl rfl (o_store Try.sizeOf28 rfl rfl rfl rfl (by have := hR.lv; rw [rawRows_len] at this; rw [List.length_set]; omega) ((vs.set s (.slice A33 (rl.length + 1) cap33)).set d (.slice A46 (rl2.length + 1) cap46)) rfl ⟨(by repeat (first | exact Sub.nil | refine Sub.pick ?_ | refine Sub.castO rfl ?_ | refine Sub.skip ?_)), ?_⟩)
            refine f_over (by decide +kernel) ?_
            refine f_bn ?_
            refine f_tn (kh7 _ _ ?_)
            clear kh7
            refine f_region ?_
            refine f_stepP rfl rfl rfl (o_add rfl rfl _ (wrap_i64 (by omega))) ?_
            refine f_stepP rfl rfl rfl (o_move rfl) ?_
            refine f_done ?_
            refine f_subQ (Sub.joinF (m := m46) (G' := rG2) (hput2 _ _ _ (by rw [← ints_len1']; exact o46)).2) ?_
            refine f_tn (f_again (k + 1, (vs.set s (.slice A33 (rl.length + 1) cap33)).set d (.slice A46 (rl2.length + 1) cap46), (ms.set s m33).set d m46) (by first | omega | (dsimp only; omega) | (simp; omega)) ⟨by omega, by have := (hput2 _ _ _ (by rw [← ints_len1']; exact o46)).1; rw [hrl, hrl2, rawRows_two hk hs hd hsd] at this; rw [hrl, hrl2]; exact this⟩ ?_ ?_ ?_)
            · exact (by repeat (first | exact trivial | refine ⟨rfl, ?_⟩))
            · exact (by repeat (first | exact trivial | refine ⟨rfl, ?_⟩))
            · repeat (first | exact Sub.nil | refine Sub.pick ?_ | refine Sub.castO rfl ?_ | refine Sub.skip ?_)
          · skip
            refine (o_slice1 el28 (by omega) rfl rfl rfl fun b45 => ⟨(by repeat (first | exact Sub.nil | refine Sub.pick ?_ | refine Sub.castO rfl ?_ | refine Sub.skip ?_)), ?_⟩)
            refine f_only 7 rfl (by decide +kernel) rfl rfl rfl ((o_load Try.isAgg28 rfl (rdA hrv2)).does ⟨(by repeat (first | exact Sub.nil | refine Sub.pick ?_ | refine Sub.castO rfl ?_ | refine Sub.skip ?_)), ?_⟩)
            refine f_only 11 rfl (by decide +kernel) rfl rfl rfl (o_append el28 rfl rfl hro2 (ys := [.int .i64 l[k].src]) ⟨(rdA rfl), trivial⟩ rfl rfl (by omega) (by omega) fun v46 m46 o46 => ⟨(by repeat (first | exact Sub.nil | refine Sub.pick ?_ | refine Sub.castO rfl ?_ | refine Sub.skip ?_)), ?_⟩)
            obtain ⟨A46, cap46, rfl, _⟩ := o46.val
            refine f_take 12 rfl (by decide +kernel) rfl rfl rfl (by repeat (first | exact Sub.nil | refine Sub.pick ?_ | refine Sub.castO rfl ?_ | refine Sub.skip ?_)) (o_idx sl55 rfl rfl (d) ⟨by omega, by omega, by first | omega | (simp; done) | (simp; omega)⟩) ?_
            refine f_only0 13 rfl (by decide +kernel) rfl rfl (o_store Try.sizeOf28 rfl rfl rfl rfl (by have := hR.lv; rw [rawRows_len] at this; rw [List.length_set]; omega) ((vs.set s (.slice A33 (rl.length + 1) cap33)).set d (.slice A46 (rl2.length + 1) cap46)) rfl ⟨(by repeat (first | exact Sub.nil | refine Sub.pick ?_ | refine Sub.castO rfl ?_ | refine Sub.skip ?_)), ?_⟩)
            refine f_over (by decide +kernel) ?_
            refine f_bn ?_
            refine f_tn (kh7 _ _ ?_)
            clear kh7
            refine f_region ?_
            refine f_stepP rfl rfl rfl (o_add rfl rfl _ (wrap_i64 (by omega))) ?_
            refine f_stepP rfl rfl rfl (o_move rfl) ?_
            refine f_done ?_
            refine f_subQ (Sub.joinF (m := m46) (G' := rG2) (hput2 _ _ _ (by rw [← ints_len1']; exact o46)).2) ?_
            refine f_tn (f_again (k + 1, (vs.set s (.slice A33 (rl.length + 1) cap33)).set d (.slice A46 (rl2.length + 1) cap46), (ms.set s m33).set d m46) (by first | omega | (dsimp only; omega) | (simp; omega)) ⟨by omega, by have := (hput2 _ _ _ (by rw [← ints_len1']; exact o46)).1; rw [hrl, hrl2, rawRows_two hk hs hd hsd] at this; rw [hrl, hrl2]; exact this⟩ ?_ ?_ ?_)
            · exact (by repeat (first | exact trivial | refine ⟨rfl, ?_⟩))
            · exact (by repeat (first | exact trivial | refine ⟨rfl, ?_⟩))
            · repeat (first | exact Sub.nil | refine Sub.pick ?_ | refine Sub.castO rfl ?_ | refine Sub.skip ?_)
        · skip
          refine (o_slice1 el28 (by omega) rfl rfl rfl fun b32 => ⟨(by repeat (first | exact Sub.nil | refine Sub.pick ?_ | refine Sub.castO rfl ?_ | refine Sub.skip ?_)), ?_⟩)
          refine f_only 7 rfl (by decide +kernel) rfl rfl rfl ((o_load Try.isAgg28 rfl (rdA hrv)).does ⟨(by repeat (first | exact Sub.nil | refine Sub.pick ?_ | refine Sub.castO rfl ?_ | refine Sub.skip ?_)), ?_⟩)
          refine f_only 11 rfl (by decide +kernel) rfl rfl rfl (o_append el28 rfl rfl hro (ys := [.int .i64 l[k].dst]) ⟨(rdA rfl), trivial⟩ rfl rfl (by omega) (by omega) fun v33 m33 o33 => ⟨(by repeat (first | exact Sub.nil | refine Sub.pick ?_ | refine Sub.castO rfl ?_ | refine Sub.skip ?_)), ?_⟩)
          obtain ⟨A33, cap33, rfl, _⟩ := o33.val
          refine f_take 12 rfl (by decide +kernel) rfl rfl rfl (by repeat (first | exact Sub.nil | refine Sub.pick ?_ | refine Sub.castO rfl ?_ | refine Sub.skip ?_)) (o_idx sl55 rfl rfl (s) ⟨by omega, by omega, by first | omega | (simp; done) | (simp; omega)⟩) ?_
          refine f_only0 13 rfl (by decide +kernel) rfl rfl (o_store Try.sizeOf28 rfl rfl rfl rfl (by have := hR.lv; rw [rawRows_len] at this; omega) (vs.set s (.slice A33 (rl.length + 1) cap33)) rfl ⟨(by repeat (first | exact Sub.nil | refine Sub.pick ?_ | refine Sub.castO rfl ?_ | refine Sub.skip ?_)), ?_⟩)
          refine f_over (by decide +kernel) ?_
          refine f_tn (kh10 _ _ ?_)
          clear kh10
          refine f_subC (Sub.joinF (m := m33) (G' := rG) (hput _ _ _ (by rw [← ints_len1']; exact o33)).2) ?_
          obtain ⟨rv2, rm2, rG2, hrv2, hro2, hrp2, hput2⟩ := (hput _ _ _ (by rw [← ints_len1']; exact o33)).1.split (i := d) (by rw [List.length_set, rawRows_len]; exact hdn)
          rw [List.getElem_set_ne hsd, rawRows_get] at hro2
          have hrlen2 := nbr_len (d : Int) (l.take k)
          rw [List.length_take] at hrlen2
          obtain ⟨rl2, hrl2⟩ : ∃ rl2, rl2 = (l.take k).flatMap (nbr (d : Int)) := ⟨_, rfl⟩
          rw [← hrl2] at hro2 hrlen2
          obtain ⟨Ar2, cr2, rfl, hcr2⟩ := hro2.val
          refine f_subC (Sub.splitF hrp2) ?_
          refine f_regionH [[(b5, blk (arcCs l[k]) 44)]] rfl ?_
          refine f_take 0 rfl (by decide +kernel) rfl rfl rfl (by repeat (first | exact Sub.nil | refine Sub.pick ?_ | refine Sub.castO rfl ?_ | refine Sub.skip ?_)) (o_move rfl) ?_
          refine f_take 1 rfl (by decide +kernel) rfl rfl rfl (by repeat (first | exact Sub.nil | refine Sub.pick ?_ | refine Sub.castO rfl ?_ | refine Sub.skip ?_)) (o_field fa44_1 rfl) ?_
          refine f_take 2 rfl (by decide +kernel) rfl rfl rfl (by repeat (first | exact Sub.nil | refine Sub.pick ?_ | refine Sub.castO rfl ?_ | refine Sub.skip ?_)) (o_load Try.isAgg3 rfl (rdA rfl)) ?_
          refine f_take 3 rfl (by decide +kernel) rfl rfl rfl (by repeat (first | exact Sub.nil | refine Sub.pick ?_ | refine Sub.castO rfl ?_ | refine Sub.skip ?_)) (o_move rfl) ?_
          refine f_take 4 rfl (by decide +kernel) rfl rfl rfl (by repeat (first | exact Sub.nil | refine Sub.pick ?_ | refine Sub.castO rfl ?_ | refine Sub.skip ?_)) (o_field fa44_1 rfl) ?_
          refine f_take 5 rfl (by decide +kernel) rfl rfl rfl (by repeat (first | exact Sub.nil | refine Sub.pick ?_ | refine Sub.castO rfl ?_ | refine Sub.skip ?_)) (o_load Try.isAgg3 rfl (rdA rfl)) ?_
          refine f_take 6 rfl (by decide +kernel) rfl rfl rfl (by repeat (first | exact Sub.nil | refine Sub.pick ?_ | refine Sub.castO rfl ?_ | refine Sub.skip ?_)) (o_idx sl55 rfl rfl (d) ⟨by omega, by omega, by first | omega | (simp; done) | (simp; omega)⟩) ?_
          refine f_take 8 rfl (by decide +kernel) rfl rfl rfl (by repeat (first | exact Sub.nil | refine Sub.pick ?_ | refine Sub.castO rfl ?_ | refine Sub.skip ?_)) (o_field fa44_0 rfl) ?_
          refine f_take 9 rfl (by decide +kernel) rfl rfl rfl (by repeat (first | exact Sub.nil | refine Sub.pick ?_ | refine Sub.castO rfl ?_ | refine Sub.skip ?_)) (o_load Try.isAgg3 rfl (rdA rfl)) ?_
          refine f_two 7 10 rfl rfl (by decide +kernel) rfl rfl rfl rfl rfl rfl ?_ ?_
          · skip
            refine (o_load Try.isAgg28 rfl (rdA hrv2)).does ⟨(by repeat (first | exact Sub.nil | refine Sub.pick ?_ | refine Sub.castO rfl ?_ | refine Sub.skip ?_)), ?_⟩
            refine f_only 10 rfl (by decide +kernel) rfl rfl rfl (o_slice1 el28 (by omega) rfl rfl rfl fun b45 => ⟨(by repeat (first | exact Sub.nil | refine Sub.pick ?_ | refine Sub.castO rfl ?_ | refine Sub.skip ?_)), ?_⟩)
            refine f_only 11 rfl (by decide +kernel) rfl rfl rfl (o_append el28 rfl rfl hro2 (ys := [.int .i64 l[k].src]) ⟨(rdA rfl), trivial⟩ rfl rfl (by omega) (by omega) fun v46 m46 o46 => ⟨(by repeat (first | exact Sub.nil | refine Sub.pick ?_ | refine Sub.castO rfl ?_ | refine Sub.skip ?_)), ?_⟩)
            obtain ⟨A46, cap46, rfl, _⟩ := o46.val
            refine f_take 12 rfl (by decide +kernel) rfl rfl rfl (by repeat (first | exact Sub.nil | refine Sub.pick ?_ | refine Sub.castO rfl ?_ | refine Sub.skip ?_)) (o_idx sl55 rfl rfl (d) ⟨by omega, by omega, by first | omega | (simp; done) | (simp; omega)⟩) ?_
            refine f_only0 13 rfl (by decide +kernel) rfl rfl (o_store Try.sizeOf28 rfl rfl rfl rfl (by have := hR.lv; rw [rawRows_len] at this; rw [List.length_set]; omega) ((vs.set s (.slice A33 (rl.length + 1) cap33)).set d (.slice A46 (rl2.length + 1) cap46)) rfl ⟨(by repeat (first | exact Sub.nil | refine Sub.pick ?_ | refine Sub.castO rfl ?_ | refine Sub.skip ?_)), ?_⟩)
            refine f_over (by decide +kernel) ?_
            refine f_bn ?_
            refine f_tn (kh7 _ _ ?_)
            clear kh7
            refine f_region ?_
            refine f_stepP rfl rfl rfl (o_add rfl rfl _ (wrap_i64 (by omega))) ?_
            refine f_stepP rfl rfl rfl (o_move rfl) ?_
            refine f_done ?_
            refine f_subQ (Sub.joinF (m := m46) (G' := rG2) (hput2 _ _ _ (by rw [← ints_len1']; exact o46)).2) ?_
            refine f_tn (f_again (k + 1, (vs.set s (.slice A33 (rl.length + 1) cap33)).set d (.slice A46 (rl2.length + 1) cap46), (ms.set s m33).set d m46) (by first | omega | (dsimp only; omega) | (simp; omega)) ⟨by omega, by have := (hput2 _ _ _ (by rw [← ints_len1']; exact o46)).1; rw [hrl, hrl2, rawRows_two hk hs hd hsd] at this; rw [hrl, hrl2]; exact this⟩ ?_ ?_ ?_)
            · exact (by repeat (first | exact trivial | refine ⟨rfl, ?_⟩))
            · exact (by repeat (first | exact trivial | refine ⟨rfl, ?_⟩))
            · repeat (first | exact Sub.nil | refine Sub.pick ?_ | refine Sub.castO rfl ?_ | refine Sub.skip ?_)
          · skip
            refine (o_slice1 el28 (by omega) rfl rfl rfl fun b45 => ⟨(by repeat (first | exact Sub.nil | refine Sub.pick ?_ | refine Sub.castO rfl ?_ | refine Sub.skip ?_)), ?_⟩)
            refine f_only 7 rfl (by decide +kernel) rfl rfl rfl ((o_load Try.isAgg28 rfl (rdA hrv2)).does ⟨(by repeat (first | exact Sub.nil | refine Sub.pick ?_ | refine Sub.castO rfl ?_ | refine Sub.skip ?_)), ?_⟩)
            refine f_only 11 rfl (by decide +kernel) rfl rfl rfl (o_append el28 rfl rfl hro2 (ys := [.int .i64 l[k].src]) ⟨(rdA rfl), trivial⟩ rfl rfl (by omega) (by omega) fun v46 m46 o46 => ⟨(by repeat (first | exact Sub.nil | refine Sub.pick ?_ | refine Sub.castO rfl ?_ | refine Sub.skip ?_)), ?_⟩)
            obtain ⟨A46, cap46, rfl, _⟩ := o46.val
            refine f_take 12 rfl (by decide +kernel) rfl rfl rfl (by repeat (first | exact Sub.nil | refine Sub.pick ?_ | refine Sub.castO rfl ?_ | refine Sub.skip ?_)) (o_idx sl55 rfl rfl (d) ⟨by omega, by omega, by first | omega | (simp; done) | (simp; omega)⟩) ?_
            refine f_only0 13 rfl (by decide +kernel) rfl rfl (o_store Try.sizeOf28 rfl rfl rfl rfl (by have := hR.lv; rw [rawRows_len] at this; rw [List.length_set]; omega) ((vs.set s (.slice A33 (rl.length + 1) cap33)).set d (.slice A46 (rl2.length + 1) cap46)) rfl ⟨(by repeat (first | exact Sub.nil | refine Sub.pick ?_ | refine Sub.castO rfl ?_ | refine Sub.skip ?_)), ?_⟩)
            refine f_over (by decide +kernel) ?_
            refine f_bn ?_
            refine f_tn (kh7 _ _ ?_)
            clear kh7
            refine f_region ?_
            refine f_stepP rfl rfl rfl (o_add rfl rfl _ (wrap_i64 (by omega))) ?_
            refine f_stepP rfl rfl rfl (o_move rfl) ?_
            refine f_done ?_
            refine f_subQ (Sub.joinF (m := m46) (G' := rG2) (hput2 _ _ _ (by rw [← ints_len1']; exact o46)).2) ?_
            refine f_tn (f_again (k + 1, (vs.set s (.slice A33 (rl.length + 1) cap33)).set d (.slice A46 (rl2.length + 1) cap46), (ms.set s m33).set d m46) (by first | omega | (dsimp only; omega) | (simp; omega)) ⟨by omega, by have := (hput2 _ _ _ (by rw [← ints_len1']; exact o46)).1; rw [hrl, hrl2, rawRows_two hk hs hd hsd] at this; rw [hrl, hrl2]; exact this⟩ ?_ ?_ ?_)
            · exact (by repeat (first | exact trivial | refine ⟨rfl, ?_⟩))
            · exact (by repeat (first | exact trivial | refine ⟨rfl, ?_⟩))
            · repeat (first | exact Sub.nil | refine Sub.pick ?_ | refine Sub.castO rfl ?_ | refine Sub.skip ?_)
      · skip
        refine f_skip ?_
        refine f_bn ?_
        refine f_tn (kh7 _ _ ?_)
        clear kh7
        refine f_region ?_
        refine f_stepP rfl rfl rfl (o_add rfl rfl _ (wrap_i64 (by omega))) ?_
        refine f_stepP rfl rfl rfl (o_move rfl) ?_
        refine f_done ?_
        refine f_tn (f_again (k + 1, vs, ms) (by first | omega | (dsimp only; omega) | (simp; omega)) ⟨by omega, by rw [rawRows_same hk (by simpa using c21)]; exact hR⟩ ?_ ?_ ?_)
        · exact (by repeat (first | exact trivial | refine ⟨rfl, ?_⟩))
        · exact (by repeat (first | exact trivial | refine ⟨rfl, ?_⟩))
        · repeat (first | exact Sub.nil | refine Sub.pick ?_ | refine Sub.castO rfl ?_ | refine Sub.skip ?_)
    · skip
      refine f_exit ?_
      refine f_te ?_
      clear kh6
      refine f_te ?_
      refine f_be ?_
      refine f_tn (kh3 _ _ ?_)
      clear kh3
      refine f_seq fun K11 kh11 => ?_
      refine f_seq fun K12 kh12 => ?_
      obtain rfl : k = l.length := by omega
      rw [List.take_length] at hR
      refine f_region ?_
      refine f_stepP rfl rfl rfl (o_move rfl) ?_
      refine f_stepP rfl rfl rfl (o_len sl55 rfl) ?_
      refine f_stepP rfl rfl rfl (o_move rfl) ?_
      refine f_done ?_
      refine f_tn (kh12 _ _ ?_)
      clear kh12
      refine f_block ?_
      refine f_loop (α := Nat × List Value × List Seg) [3, 50] (fun ⟨j, vs, ms⟩ => [(51, .int .i64 (j : Int))]) (fun ⟨j, vs, ms⟩ => [[(b9, blk vs 28)], ms.flatten]) (fun ⟨j, vs, ms⟩ => j ≤ n ∧ RowsI 3 (mixRows n l j) vs ms) (fun ⟨j, vs, ms⟩ => n - j) (0, vs, ms) ?_ ?_ ?_ ?_
      · exact (by repeat (first | exact trivial | refine ⟨rfl, ?_⟩))
      · repeat (first | exact Sub.nil | refine Sub.pick ?_ | refine Sub.castO rfl ?_ | refine Sub.skip ?_)
      · exact ⟨by omega, by rw [mixRows_zero]; exact hR⟩
      · rintro ⟨j, vs, ms⟩ ⟨hjn, hR⟩
        refine f_envC (e := [(51, _), (3, _), (50, _)]) (by repeat (first | exact trivial | refine ⟨rfl, ?_⟩)) ?_
        refine f_seq fun K13 kh13 => ?_
        refine f_region ?_
        refine f_stepP rfl rfl rfl (o_lss rfl rfl) ?_
        refine f_done ?_
        refine f_tn (kh13 _ _ ?_)
        clear kh13
        refine f_seq fun K14 kh14 => ?_
        refine f_cond rfl (fun c52 => ?_) (fun c52 => ?_)
        · skip
          refine f_skip ?_
          refine f_tn (kh14 _ _ ?_)
          clear kh14
          refine f_seq fun K15 kh15 => ?_
          refine f_block ?_
          refine f_seq fun K16 kh16 => ?_
          refine f_region ?_
          refine f_stepP rfl rfl rfl (o_move rfl) ?_
          refine f_stepP rfl rfl rfl (o_assign rfl) ?_
          refine f_done ?_
          refine f_tn (kh16 _ _ ?_)
          clear kh16
          refine f_seq fun K17 kh17 => ?_
          have hj : j < n := by omega
          obtain ⟨rv, rm, rG, hrv, hro, hrp, hput⟩ := hR.split (i := j) (by rw [mixRows_len]; exact hj)
          rw [mixRows_get, if_neg (by omega)] at hro
          have hrlen := nbr_len (j : Int) l
          obtain ⟨rl, hrl⟩ : ∃ rl, rl = l.flatMap (nbr (j : Int)) := ⟨_, rfl⟩
          rw [← hrl] at hro hrlen
          obtain ⟨Ar, cr, rfl, hcr⟩ := hro.val
          refine f_subC (Sub.splitF hrp) ?_
          refine f_region ?_
          refine f_stepP rfl rfl rfl (o_move rfl) ?_
          refine f_stepP rfl rfl rfl (o_move rfl) ?_
          refine f_stepP rfl rfl rfl (o_idx sl55 rfl rfl (j) ⟨by omega, by omega, by first | omega | (simp; done) | (simp; omega)⟩) ?_
          refine f_stepP rfl rfl rfl (o_load Try.isAgg28 rfl (rdA hrv)) ?_
          refine f_step rfl rfl rfl (o_callM [rm] _ Try.call34 rfl (Sub.pick Sub.refl) (fun w_ hp_ => SortInts_spec Ar cr rl rm w_ hro (by omega) hp_.owns) ?_)
          rintro _ _ ⟨rfl, m2, rfl, ho2⟩
          dsimp only [List.cons_append, List.nil_append]
          refine f_done ?_
          refine f_tn (kh17 _ _ ?_)
          clear kh17
          refine f_region ?_
          refine f_stepP rfl rfl rfl (o_move rfl) ?_
          refine f_stepP rfl rfl rfl (o_move rfl) ?_
          refine f_stepP rfl rfl rfl (o_move rfl) ?_
          refine f_stepP rfl rfl rfl (o_move rfl) ?_
          refine f_stepP rfl rfl rfl (o_idx sl55 rfl rfl (j) ⟨by omega, by omega, by first | omega | (simp; done) | (simp; omega)⟩) ?_
          refine f_stepP rfl rfl rfl (o_load Try.isAgg28 rfl (rdA hrv)) ?_
          refine f_step rfl rfl rfl (o_callM [m2] _ Try.call36 rfl (Sub.pick Sub.refl) (fun w_ hp_ => (by have h := Compact_spec Ar cr (sortI rl) m2 w_ (by rw [sortI_len]; exact ho2) (by rw [sortI_len]; omega) hp_.owns; rw [sortI_len] at h; exact h)) ?_)
          rintro v65 _ ⟨m3, rfl, ho3⟩
          obtain ⟨A3, c3, rfl, hc3⟩ := ho3.val
          dsimp only [List.cons_append, List.nil_append]
          refine f_stepP rfl rfl rfl (o_idx sl55 rfl rfl (j) ⟨by omega, by omega, by first | omega | (simp; done) | (simp; omega)⟩) ?_
          refine f_step0 rfl rfl (o_store Try.sizeOf28 rfl rfl rfl rfl (by have := hR.lv; rw [mixRows_len] at this; omega) (vs.set j (.slice A3 (cpt (sortI rl)).length c3)) rfl ?_)
          refine f_done ?_
          refine f_bn ?_
          refine f_tn (kh15 _ _ ?_)
          clear kh15
          refine f_region ?_
          refine f_stepP rfl rfl rfl (o_add rfl rfl _ (wrap_i64 (by omega))) ?_
          refine f_stepP rfl rfl rfl (o_move rfl) ?_
          refine f_done ?_
          refine f_subQ (Sub.joinF (m := m3) (G' := rG) (hput _ _ _ ho3).2) ?_
          refine f_tn (f_again (j + 1, vs.set j (.slice A3 (cpt (sortI rl)).length c3), ms.set j m3) (by first | omega | (dsimp only; omega) | (simp; omega)) ⟨by omega, by have := (hput _ _ _ ho3).1; rw [hrl, mixRows_next] at this; rw [hrl]; exact this⟩ ?_ ?_ ?_)
          · exact (by repeat (first | exact trivial | refine ⟨rfl, ?_⟩))
          · exact (by repeat (first | exact trivial | refine ⟨rfl, ?_⟩))
          · repeat (first | exact Sub.nil | refine Sub.pick ?_ | refine Sub.castO rfl ?_ | refine Sub.skip ?_)
        · skip
          refine f_exit ?_
          refine f_te ?_
          clear kh14
          refine f_te ?_
          refine f_be ?_
          refine f_tn (kh11 _ _ ?_)
          clear kh11
          refine f_seq fun K18 kh18 => ?_
          obtain rfl : j = n := by omega
          rw [mixRows_all] at hR
          refine f_region ?_
          refine f_stepP rfl rfl rfl (o_move rfl) ?_
          refine f_stepP rfl rfl rfl (o_assign rfl) ?_
          refine f_done ?_
          refine f_tn (kh18 _ _ ?_)
          clear kh18
          refine f_ret ?_
          exact f_fin1 [[(b9, blk vs 28)], ms.flatten] Try.results25 rfl (by repeat (first | exact Sub.nil | refine Sub.pick ?_ | refine Sub.castO rfl ?_)) ⟨b9, vs, ms, rfl, rfl, hR⟩

end Go.Proofs.Ytlllpmafhnfihaa
