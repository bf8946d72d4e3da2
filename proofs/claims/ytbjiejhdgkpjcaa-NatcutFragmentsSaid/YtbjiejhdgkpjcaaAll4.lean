import Derived.Test.YtbjiejhdgkpjcaaFlyT
import Derived.Test.YtbjiejhdgkpjcaaAll2
import Derived.Test.YtbjiejhdgkpjcaaAll3

/- Package graph: what its functions do, over the lists of arcs as they are read. -/
namespace Go.Proofs.Ytbjiejhdgkpjcaa
open Go Go.RowKit Fly
set_option linter.unusedVariables false
set_option linter.unusedSimpArgs false



set_option maxRecDepth 100000 in
set_option maxHeartbeats 4000000 in
theorem Check_spec (N : Int) (A : Option Addr) (l : List Arc) (cap : Nat) (w : World) (hr : Ro (Fr w []) w A (l.flatMap arcCs)) (hl : l.length ≤ 9223372036854775807) (hN : I64 N) (hok : ∀ x ∈ l, ArcOk x) :
    Meets Try.prog 37 [.agg #[.int .i64 N, .slice A l.length cap]] w [] (fun v m => v = .tuple #[.int .i64 (gcheck N l).1, .int .i64 (gcheck N l).2] ∧ m = []) := by
 refine f_enter Try.func37 rfl Try.ntmps37 rfl Owns.nil ?_
 refine f_seq fun K1 kh1 => ?_
 refine f_region ?_
 refine f_step rfl rfl rfl (o_box rfl rfl fun b1 => ?_)
 refine f_stepP rfl rfl rfl (o_assign rfl) ?_
 refine f_stepP rfl rfl rfl (o_assign rfl) ?_
 refine f_done ?_
 refine f_tn (kh1 _ _ ?_)
 clear kh1
 refine f_seq fun K2 kh2 => ?_
 refine f_seq fun K3 kh3 => ?_
 refine f_region ?_
 refine f_stepP rfl rfl rfl (o_field fa24_0 rfl) ?_
 refine f_stepP rfl rfl rfl (o_load Try.isAgg3 rfl (rdA rfl)) ?_
 refine f_stepP rfl rfl rfl (o_lss rfl rfl) ?_
 refine f_stepP rfl rfl rfl (o_move rfl) ?_
 refine f_splitL 9 rfl (fun g9 => ?_) (fun g9 => ?_)
 ·
  refine f_stepN rfl rfl rfl rfl rfl rfl ?_
  refine f_stepN rfl rfl rfl rfl rfl rfl ?_
  refine f_stepN rfl rfl rfl rfl rfl rfl ?_
  refine f_stepP rfl rfl rfl (o_pickT rfl rfl) ?_
  refine f_done ?_
  refine f_tn (kh3 _ _ ?_)
  clear kh3
  refine f_condT rfl ?_
  refine f_seq fun K4 kh4 => ?_
  refine f_region ?_
  refine f_stepP rfl rfl rfl (o_assign rfl) ?_
  refine f_stepP rfl rfl rfl (o_assign rfl) ?_
  refine f_done ?_
  refine f_tn (kh4 _ _ ?_)
  clear kh4
  refine f_ret ?_
  refine f_tr ?_
  exact f_fin2 [] Try.results37 rfl rfl Sub.nil ⟨by rw [gcheck_range (by omega)], rfl⟩
 ·
  refine f_stepPY rfl rfl rfl rfl rfl (o_field fa24_0 rfl) ?_
  refine f_stepPY rfl rfl rfl rfl rfl (o_load Try.isAgg3 rfl (rdA rfl)) ?_
  refine f_stepPY rfl rfl rfl rfl rfl (o_gtr rfl rfl) ?_
  refine f_stepP rfl rfl rfl (o_pickF rfl rfl) ?_
  refine f_done ?_
  refine f_tn (kh3 _ _ ?_)
  clear kh3
  refine f_cond rfl (fun c13 => ?_) (fun c13 => ?_)
  ·
   refine f_seq fun K5 kh5 => ?_
   refine f_region ?_
   refine f_stepP rfl rfl rfl (o_assign rfl) ?_
   refine f_stepP rfl rfl rfl (o_assign rfl) ?_
   refine f_done ?_
   refine f_tn (kh5 _ _ ?_)
   clear kh5
   refine f_ret ?_
   refine f_tr ?_
   exact f_fin2 [] Try.results37 rfl rfl Sub.nil ⟨by rw [gcheck_range (by omega)], rfl⟩
  ·
   have hN1 : 1 ≤ N ∧ N ≤ 1024 := by omega
   refine f_skip ?_
   refine f_tn (kh2 _ _ ?_)
   clear kh2
   refine f_seq fun K6 kh6 => ?_
   refine f_seq fun K7 kh7 => ?_
   refine f_region ?_
   refine f_stepP rfl rfl rfl (o_field fa24_1 rfl) ?_
   refine f_stepP rfl rfl rfl (o_load Try.isAgg22 rfl (rdA rfl)) ?_
   refine f_stepP rfl rfl rfl (o_len sl22 rfl) ?_
   refine f_stepP rfl rfl rfl (o_gtr rfl rfl) ?_
   refine f_done ?_
   refine f_tn (kh7 _ _ ?_)
   clear kh7
   refine f_cond rfl (fun c17 => ?_) (fun c17 => ?_)
   ·
    refine f_seq fun K8 kh8 => ?_
    refine f_region ?_
    refine f_stepP rfl rfl rfl (o_assign rfl) ?_
    refine f_stepP rfl rfl rfl (o_assign rfl) ?_
    refine f_done ?_
    refine f_tn (kh8 _ _ ?_)
    clear kh8
    refine f_ret ?_
    refine f_tr ?_
    exact f_fin2 [] Try.results37 rfl rfl Sub.nil ⟨by rw [gcheck_long hN1 (by omega)], rfl⟩
   ·
    refine f_skip ?_
    refine f_tn (kh6 _ _ ?_)
    clear kh6
    refine f_seq fun K9 kh9 => ?_
    refine f_seq fun K10 kh10 => ?_
    refine f_region ?_
    refine f_stepP rfl rfl rfl (o_field fa24_1 rfl) ?_
    refine f_stepP rfl rfl rfl (o_load Try.isAgg22 rfl (rdA rfl)) ?_
    refine f_stepP rfl rfl rfl (o_len sl22 rfl) ?_
    refine f_stepP rfl rfl rfl (o_move rfl) ?_
    refine f_done ?_
    refine f_tn (kh10 _ _ ?_)
    clear kh10
    refine f_block ?_
    refine f_loopK (α := Nat) [1, 19, 20] (fun k => [(21, .int .i64 (k : Int))]) (fun k => k ≤ l.length ∧ ∀ j (h : j < l.length), j < k → arcBad N l[j] = false) (fun k => l.length - k) (0) ?_ ?_ ?_
    · exact (by repeat (first | exact trivial | refine ⟨rfl, ?_⟩))
    · exact ⟨by omega, fun j h hj => by omega⟩
    ·
     rintro k ⟨hkl, hall⟩
     refine f_seq fun K11 kh11 => ?_
     refine f_region ?_
     refine f_stepP rfl rfl rfl (o_lss rfl rfl) ?_
     refine f_done ?_
     refine f_tn (kh11 _ _ ?_)
     clear kh11
     refine f_seq fun K12 kh12 => ?_
     refine f_cond rfl (fun c22 => ?_) (fun c22 => ?_)
     ·
      refine f_skip ?_
      refine f_tn (kh12 _ _ ?_)
      clear kh12
      refine f_seq fun K13 kh13 => ?_
      refine f_block ?_
      refine f_seq fun K14 kh14 => ?_
      refine f_region ?_
      refine f_stepP rfl rfl rfl (o_move rfl) ?_
      have hk : k < l.length := by omega
      obtain ⟨b, off, rfl, hS, hc⟩ := hr (flat_ne arcCs arcCs_len (by omega) hk)
      refine f_stepP rfl rfl rfl (o_idx sl22 rfl rfl (off + k * 3) ⟨by omega, by omega, by first | omega | (simp; done) | (simp; omega)⟩) ?_
      refine f_stepP rfl rfl rfl (o_loadA (vs := arcCs l[k]) Try.isAgg55 Try.sizeOf55 rfl rfl (roElem arcCs_len hS hc hk)) ?_
      refine f_step rfl rfl rfl (o_alloc Try.zeroValue55 rfl fun b5 => ?_)
      refine f_stepP rfl rfl rfl (o_assign rfl) ?_
      refine f_step0 rfl rfl (o_storeA Try.sizeOf55 rfl rfl rfl rfl (by first | exact Nat.le_of_ble_eq_true rfl | (simp; done) | (simp; omega)) _ rfl ?_)
      refine f_done ?_
      refine f_tn (kh14 _ _ ?_)
      clear kh14
      refine f_seq fun K15 kh15 => ?_
      refine f_region ?_
      refine f_stepP rfl rfl rfl (o_field fa55_0 rfl) ?_
      refine f_stepP rfl rfl rfl (o_load Try.isAgg3 rfl (rdA rfl)) ?_
      refine f_stepP rfl rfl rfl (o_conv Try.runUnderlying3 Try.runUnderlying72 rfl _ rfl) ?_
      refine f_stepP rfl rfl rfl (o_field fa24_0 rfl) ?_
      refine f_stepP rfl rfl rfl (o_load Try.isAgg3 rfl (rdA rfl)) ?_
      refine f_stepP rfl rfl rfl (o_conv Try.runUnderlying3 Try.runUnderlying72 rfl _ rfl) ?_
      refine f_stepP rfl rfl rfl (o_geq rfl rfl) ?_
      refine f_stepP rfl rfl rfl (o_move rfl) ?_
      refine f_splitL 33 rfl (fun g33 => ?_) (fun g33 => ?_)
      ·
       refine f_stepN rfl rfl rfl rfl rfl rfl ?_
       refine f_stepN rfl rfl rfl rfl rfl rfl ?_
       refine f_stepN rfl rfl rfl rfl rfl rfl ?_
       refine f_stepN rfl rfl rfl rfl rfl rfl ?_
       refine f_stepN rfl rfl rfl rfl rfl rfl ?_
       refine f_stepN rfl rfl rfl rfl rfl rfl ?_
       refine f_stepN rfl rfl rfl rfl rfl rfl ?_
       refine f_stepP rfl rfl rfl (o_pickT rfl rfl) ?_
       refine f_done ?_
       refine f_tn (kh15 _ _ ?_)
       clear kh15
       refine f_condT rfl ?_
       refine f_seq fun K16 kh16 => ?_
       refine f_region ?_
       refine f_stepP rfl rfl rfl (o_move rfl) ?_
       refine f_stepP rfl rfl rfl (o_assign rfl) ?_
       refine f_stepP rfl rfl rfl (o_assign rfl) ?_
       refine f_done ?_
       refine f_tn (kh16 _ _ ?_)
       clear kh16
       refine f_ret ?_
       refine f_br ?_
       refine f_tr ?_
       refine f_tr ?_
       refine f_br ?_
       refine f_tr ?_
       exact f_fin2 [] Try.results37 rfl rfl Sub.nil ⟨by rw [gcheck_bad hN1 (by omega) hk hall (arcBadL hN1 (hok _ (List.getElem_mem hk)) g33)], rfl⟩
      ·
       refine f_stepPY rfl rfl rfl rfl rfl (o_field fa55_1 rfl) ?_
       refine f_stepPY rfl rfl rfl rfl rfl (o_load Try.isAgg3 rfl (rdA rfl)) ?_
       refine f_stepPY rfl rfl rfl rfl rfl (o_conv Try.runUnderlying3 Try.runUnderlying72 rfl _ rfl) ?_
       refine f_stepPY rfl rfl rfl rfl rfl (o_field fa24_0 rfl) ?_
       refine f_stepPY rfl rfl rfl rfl rfl (o_load Try.isAgg3 rfl (rdA rfl)) ?_
       refine f_stepPY rfl rfl rfl rfl rfl (o_conv Try.runUnderlying3 Try.runUnderlying72 rfl _ rfl) ?_
       refine f_stepPY rfl rfl rfl rfl rfl (o_geq rfl rfl) ?_
       refine f_stepP rfl rfl rfl (o_pickF rfl rfl) ?_
       refine f_done ?_
       refine f_tn (kh15 _ _ ?_)
       clear kh15
       refine f_cond rfl (fun c41 => ?_) (fun c41 => ?_)
       ·
        refine f_seq fun K17 kh17 => ?_
        refine f_region ?_
        refine f_stepP rfl rfl rfl (o_move rfl) ?_
        refine f_stepP rfl rfl rfl (o_assign rfl) ?_
        refine f_stepP rfl rfl rfl (o_assign rfl) ?_
        refine f_done ?_
        refine f_tn (kh17 _ _ ?_)
        clear kh17
        refine f_ret ?_
        refine f_br ?_
        refine f_tr ?_
        refine f_tr ?_
        refine f_br ?_
        refine f_tr ?_
        exact f_fin2 [] Try.results37 rfl rfl Sub.nil ⟨by rw [gcheck_bad hN1 (by omega) hk hall (arcBadR hN1 (hok _ (List.getElem_mem hk)) c41)], rfl⟩
       ·
        refine f_skip ?_
        refine f_bn ?_
        refine f_tn (kh13 _ _ ?_)
        clear kh13
        refine f_region ?_
        refine f_stepP rfl rfl rfl (o_add rfl rfl _ (wrap_i64 (by omega))) ?_
        refine f_stepP rfl rfl rfl (o_move rfl) ?_
        refine f_done ?_
        refine f_tn (f_again (k + 1) (by first | omega | (dsimp only; omega) | (simp; omega)) ⟨by omega, good_next hall (arcGood hN1 (hok _ (List.getElem_mem hk)) g33 c41)⟩ ?_ ?_ ?_)
        · exact (by repeat (first | exact trivial | refine ⟨rfl, ?_⟩))
        · exact (by repeat (first | exact trivial | refine ⟨rfl, ?_⟩))
        · repeat (first | exact Sub.nil | refine Sub.pick ?_ | refine Sub.castO rfl ?_ | refine Sub.skip ?_)
     ·
      refine f_exit ?_
      refine f_te ?_
      clear kh12
      refine f_te ?_
      refine f_be ?_
      refine f_tn (kh9 _ _ ?_)
      clear kh9
      refine f_seq fun K18 kh18 => ?_
      refine f_region ?_
      refine f_stepP rfl rfl rfl (o_assign rfl) ?_
      refine f_stepP rfl rfl rfl (o_assign rfl) ?_
      refine f_done ?_
      refine f_tn (kh18 _ _ ?_)
      clear kh18
      refine f_ret ?_
      exact f_fin2 [] Try.results37 rfl rfl Sub.nil ⟨by rw [gcheck_ok hN1 (by omega) (fun j h => hall j h (by omega))], rfl⟩

end Go.Proofs.Ytbjiejhdgkpjcaa

/- grow.sides: the neighbours of each vertex, rising. -/
namespace Go.Proofs.Ytbjiejhdgkpjcaa
open Go Go.RowKit Fly
set_option linter.unusedVariables false
set_option linter.unusedSimpArgs false


def rawRows (n : Nat) (l : List Arc) : List (List Int) := (List.range n).map fun v => l.flatMap (nbr (Int.ofNat v))
def nrows (n : Nat) (l : List Arc) : List (List Int) := (List.range n).map fun v => nbrs (Int.ofNat v) l
/-- Rows of which the first j are in order. -/
def mixRows (n : Nat) (l : List Arc) (j : Nat) : List (List Int) := (List.range n).map fun v => if v < j then nbrs (Int.ofNat v) l else l.flatMap (nbr (Int.ofNat v))
theorem rawRows_len (n : Nat) (l : List Arc) : (rawRows n l).length = n := by simp [rawRows]
theorem nrows_len (n : Nat) (l : List Arc) : (nrows n l).length = n := by simp [nrows]
theorem mixRows_len (n : Nat) (l : List Arc) (j : Nat) : (mixRows n l j).length = n := by simp [mixRows]
theorem rawRows_get {n : Nat} {l : List Arc} {i : Nat} (h : i < (rawRows n l).length) : (rawRows n l)[i] = l.flatMap (nbr (i : Int)) := by simp [rawRows]
theorem nrows_get {n : Nat} {l : List Arc} {i : Nat} (h : i < (nrows n l).length) : (nrows n l)[i] = nbrs (i : Int) l := by simp [nrows]
theorem mixRows_get {n : Nat} {l : List Arc} {i j : Nat} (h : i < (mixRows n l j).length) : (mixRows n l j)[i] = if i < j then nbrs (i : Int) l else l.flatMap (nbr (i : Int)) := by simp [mixRows]
theorem rawRows_nil (n : Nat) : rawRows n [] = List.replicate n [] := by
  refine List.ext_getElem (by simp [rawRows]) fun i h1 h2 => ?_
  rw [rawRows_get]; simp
theorem rawRows_same {n : Nat} {l : List Arc} {k : Nat} (hk : k < l.length) (h : l[k].src = l[k].dst) : rawRows n (l.take (k + 1)) = rawRows n (l.take k) := by
  refine List.ext_getElem (by simp [rawRows]) fun i h1 h2 => ?_
  rw [rawRows_get, rawRows_get, nbr_next hk]
  simp [nbr, h]
theorem rawRows_two {n : Nat} {l : List Arc} {k s d : Nat} (hk : k < l.length) (hs : l[k].src = (s : Int)) (hd : l[k].dst = (d : Int)) (hne : s ≠ d) :
    ((rawRows n (l.take k)).set s ((l.take k).flatMap (nbr (s : Int)) ++ [l[k].dst])).set d ((l.take k).flatMap (nbr (d : Int)) ++ [l[k].src]) = rawRows n (l.take (k + 1)) := by
  refine List.ext_getElem (by simp [rawRows]) fun i h1 h2 => ?_
  have e1 : ¬ l[k].src = l[k].dst := by omega
  rw [rawRows_get, nbr_next hk]
  by_cases h : i = d
  · subst h
    rw [List.getElem_set_self]
    unfold nbr
    rw [if_neg e1, if_neg (by omega), if_pos (by omega)]
  · rw [List.getElem_set_ne (by omega)]
    by_cases h' : i = s
    · subst h'
      rw [List.getElem_set_self]
      unfold nbr
      rw [if_neg e1, if_pos (by omega)]
    · rw [List.getElem_set_ne (by omega), rawRows_get]
      unfold nbr
      rw [if_neg e1, if_neg (by omega), if_neg (by omega)]; simp
theorem mixRows_zero (n : Nat) (l : List Arc) : mixRows n l 0 = rawRows n l := by simp [mixRows, rawRows]
theorem mixRows_all (n : Nat) (l : List Arc) : mixRows n l n = nrows n l := by
  refine List.ext_getElem (by simp [mixRows, nrows]) fun i h1 h2 => ?_
  rw [mixRows_get, nrows_get, if_pos (by simpa [nrows] using h2)]
theorem mixRows_next {n : Nat} {l : List Arc} {j : Nat} : (mixRows n l j).set j (cpt (sortI (l.flatMap (nbr (j : Int))))) = mixRows n l (j + 1) := by
  refine List.ext_getElem (by simp [mixRows]) fun i h1 h2 => ?_
  rw [mixRows_get]
  by_cases h : i = j
  · subst h; rw [List.getElem_set_self, if_pos (by omega)]; rfl
  · rw [List.getElem_set_ne (by omega), mixRows_get]
    by_cases h' : i < j
    · rw [if_pos h', if_pos (by omega)]
    · rw [if_neg h', if_neg (by omega)]
theorem ints_len1' {E : TypeId} {v : Value} {l : List Int} {x : Int} {m : Seg} : Own E 1 v (l.length + 1) (ints l ++ [.int .i64 x]) m = Own E 1 v (l ++ [x]).length (ints (l ++ [x])) m := by rw [ints_append, List.length_append]; rfl
theorem rep_flat' (n : Nat) (v : Value) : List.replicate n v = (List.replicate n [v]).flatten := by
  induction n with
  | zero => rfl
  | succ n ih => rw [List.replicate_succ, List.replicate_succ, List.flatten_cons, ← ih]; rfl

set_option maxRecDepth 100000 in
set_option maxHeartbeats 4000000 in
theorem sides_spec (n : Nat) (A : Option Addr) (l : List Arc) (cap : Nat) (w : World) (hr : Ro (Fr w []) w A (l.flatMap arcCs)) (hn : n ≤ 1024) (hlen : l.length ≤ 8192) (hgd : ∀ k (hk : k < l.length), 0 ≤ l[k].src ∧ l[k].src < (n : Int) ∧ 0 ≤ l[k].dst ∧ l[k].dst < (n : Int)) :
    Meets Try.prog 41 [.agg #[.int .i64 (n : Int), .slice A l.length cap]] w [] (fun u own' => ∃ bo vs ms, u = .slice (some ⟨bo, 0, none⟩) n n ∧ own' = [[(bo, blk vs 35)], ms.flatten] ∧ RowsI 3 (nrows n l) vs ms) := by
 refine f_enter Try.func41 rfl Try.ntmps41 rfl Owns.nil ?_
 refine f_seq fun K1 kh1 => ?_
 refine f_region ?_
 refine f_step rfl rfl rfl (o_box rfl rfl fun b1 => ?_)
 refine f_stepP rfl rfl rfl (o_assign rfl) ?_
 refine f_done ?_
 refine f_tn (kh1 _ _ ?_)
 clear kh1
 refine f_seq fun K2 kh2 => ?_
 refine f_region ?_
 refine f_stepP rfl rfl rfl (o_field fa24_0 rfl) ?_
 refine f_stepP rfl rfl rfl (o_load Try.isAgg3 rfl (rdA rfl)) ?_
 refine f_step rfl rfl rfl (o_make el77 rfl rfl n rfl (by omega) (by omega) (List.replicate n (.slice none 0 0)) (rep_flat' n _).symm fun b9 => ?_)
 refine f_stepP rfl rfl rfl (o_assign rfl) ?_
 refine f_done ?_
 refine f_tn (kh2 _ _ ?_)
 clear kh2
 refine f_seq fun K3 kh3 => ?_
 refine f_seq fun K4 kh4 => ?_
 refine f_region ?_
 refine f_stepP rfl rfl rfl (o_field fa24_1 rfl) ?_
 refine f_stepP rfl rfl rfl (o_load Try.isAgg22 rfl (rdA rfl)) ?_
 refine f_stepP rfl rfl rfl (o_len sl22 rfl) ?_
 refine f_stepP rfl rfl rfl (o_move rfl) ?_
 refine f_done ?_
 refine f_tn (kh4 _ _ ?_)
 clear kh4
 refine f_block ?_
 refine f_loop (α := Nat × List Value × List Seg) [3, 11, 12] (fun ⟨k, vs, ms⟩ => [(13, .int .i64 (k : Int))]) (fun ⟨k, vs, ms⟩ => [[(b9, blk vs 35)], ms.flatten, [(b1, blk [.int .i64 (n : Int), .slice A l.length cap] 24)]]) (fun ⟨k, vs, ms⟩ => k ≤ l.length ∧ RowsI 3 (rawRows n (l.take k)) vs ms) (fun ⟨k, vs, ms⟩ => l.length - k) (0, List.replicate n (.slice none 0 0), List.replicate n []) ?_ ?_ ?_ ?_
 · exact (by repeat (first | exact trivial | refine ⟨rfl, ?_⟩))
 · dsimp only
   rw [show (List.replicate n ([] : Seg)).flatten = [] from by simp]
   repeat (first | exact Sub.nil | refine Sub.pick ?_ | refine Sub.castO rfl ?_ | refine Sub.skip ?_)
 · exact ⟨by omega, by rw [List.take_zero, rawRows_nil]; exact RowsI.start _ n⟩
 ·
  rintro ⟨k, vs, ms⟩ ⟨hkl, hR⟩
  refine f_seq fun K5 kh5 => ?_
  refine f_region ?_
  refine f_stepP rfl rfl rfl (o_lss rfl rfl) ?_
  refine f_done ?_
  refine f_tn (kh5 _ _ ?_)
  clear kh5
  refine f_seq fun K6 kh6 => ?_
  refine f_cond rfl (fun c14 => ?_) (fun c14 => ?_)
  ·
   refine f_skip ?_
   refine f_tn (kh6 _ _ ?_)
   clear kh6
   refine f_seq fun K7 kh7 => ?_
   refine f_block ?_
   refine f_seq fun K8 kh8 => ?_
   refine f_region ?_
   have hk : k < l.length := by omega
   obtain ⟨bl, off, rfl, hS, hc⟩ := hr (flat_ne arcCs arcCs_len (by omega) hk)
   have hgk := hgd k hk
   refine f_stepP rfl rfl rfl (o_idx sl22 rfl rfl (off + k * 3) ⟨by omega, by omega, by first | omega | (simp; done) | (simp; omega)⟩) ?_
   refine f_stepP rfl rfl rfl (o_loadA (vs := arcCs l[k]) Try.isAgg55 Try.sizeOf55 rfl rfl (roElem arcCs_len hS hc hk)) ?_
   refine f_step rfl rfl rfl (o_alloc Try.zeroValue55 rfl fun b5 => ?_)
   refine f_step0 rfl rfl (o_storeA Try.sizeOf55 rfl rfl rfl rfl (by first | exact Nat.le_of_ble_eq_true rfl | (simp; done) | (simp; omega)) (arcCs l[k]) rfl ?_)
   refine f_done ?_
   refine f_tn (kh8 _ _ ?_)
   clear kh8
   refine f_seq fun K9 kh9 => ?_
   refine f_region ?_
   refine f_stepP rfl rfl rfl (o_field fa55_0 rfl) ?_
   refine f_stepP rfl rfl rfl (o_load Try.isAgg3 rfl (rdA rfl)) ?_
   refine f_stepP rfl rfl rfl (o_field fa55_1 rfl) ?_
   refine f_stepP rfl rfl rfl (o_load Try.isAgg3 rfl (rdA rfl)) ?_
   refine f_stepP rfl rfl rfl (o_neq rfl rfl) ?_
   refine f_done ?_
   refine f_tn (kh9 _ _ ?_)
   clear kh9
   refine f_cond rfl (fun c21 => ?_) (fun c21 => ?_)
   ·
    refine f_seq fun K10 kh10 => ?_
    obtain ⟨s, hs, hsn⟩ : ∃ s : Nat, l[k].src = (s : Int) ∧ s < n := ⟨l[k].src.toNat, by omega, by omega⟩
    obtain ⟨d, hd, hdn⟩ : ∃ d : Nat, l[k].dst = (d : Int) ∧ d < n := ⟨l[k].dst.toNat, by omega, by omega⟩
    have hsd : s ≠ d := by omega
    obtain ⟨rv, rm, rG, hrv, hro, hrp, hput⟩ := hR.split (i := s) (by rw [rawRows_len]; exact hsn)
    rw [rawRows_get] at hro
    have hrlen := nbr_len (s : Int) (l.take k)
    rw [List.length_take] at hrlen
    obtain ⟨rl, hrl⟩ : ∃ rl, rl = (l.take k).flatMap (nbr (s : Int)) := ⟨_, rfl⟩
    rw [← hrl] at hro hrlen
    obtain ⟨Ar, cr, rfl, hcr⟩ := hro.val
    refine f_subC (Sub.splitF hrp) ?_
    refine f_regionH [[(b5, blk (arcCs l[k]) 55)]] rfl ?_
    refine f_take 0 rfl (by decide +kernel) rfl rfl rfl (by repeat (first | exact Sub.nil | refine Sub.pick ?_ | refine Sub.castO rfl ?_ | refine Sub.skip ?_)) (o_move rfl) ?_
    refine f_take 1 rfl (by decide +kernel) rfl rfl rfl (by repeat (first | exact Sub.nil | refine Sub.pick ?_ | refine Sub.castO rfl ?_ | refine Sub.skip ?_)) (o_field fa55_0 rfl) ?_
    refine f_take 2 rfl (by decide +kernel) rfl rfl rfl (by repeat (first | exact Sub.nil | refine Sub.pick ?_ | refine Sub.castO rfl ?_ | refine Sub.skip ?_)) (o_load Try.isAgg3 rfl (rdA rfl)) ?_
    refine f_take 3 rfl (by decide +kernel) rfl rfl rfl (by repeat (first | exact Sub.nil | refine Sub.pick ?_ | refine Sub.castO rfl ?_ | refine Sub.skip ?_)) (o_move rfl) ?_
    refine f_take 4 rfl (by decide +kernel) rfl rfl rfl (by repeat (first | exact Sub.nil | refine Sub.pick ?_ | refine Sub.castO rfl ?_ | refine Sub.skip ?_)) (o_field fa55_0 rfl) ?_
    refine f_take 5 rfl (by decide +kernel) rfl rfl rfl (by repeat (first | exact Sub.nil | refine Sub.pick ?_ | refine Sub.castO rfl ?_ | refine Sub.skip ?_)) (o_load Try.isAgg3 rfl (rdA rfl)) ?_
    refine f_take 6 rfl (by decide +kernel) rfl rfl rfl (by repeat (first | exact Sub.nil | refine Sub.pick ?_ | refine Sub.castO rfl ?_ | refine Sub.skip ?_)) (o_idx sl77 rfl rfl (s) ⟨by omega, by omega, by first | omega | (simp; done) | (simp; omega)⟩) ?_
    refine f_take 8 rfl (by decide +kernel) rfl rfl rfl (by repeat (first | exact Sub.nil | refine Sub.pick ?_ | refine Sub.castO rfl ?_ | refine Sub.skip ?_)) (o_field fa55_1 rfl) ?_
    refine f_take 9 rfl (by decide +kernel) rfl rfl rfl (by repeat (first | exact Sub.nil | refine Sub.pick ?_ | refine Sub.castO rfl ?_ | refine Sub.skip ?_)) (o_load Try.isAgg3 rfl (rdA rfl)) ?_
    refine f_two 7 10 rfl rfl (by decide +kernel) rfl rfl rfl rfl rfl rfl ?_ ?_
    ·
     refine (o_load Try.isAgg35 rfl (rdA hrv)).does ⟨(by repeat (first | exact Sub.nil | refine Sub.pick ?_ | refine Sub.castO rfl ?_ | refine Sub.skip ?_)), ?_⟩
     refine f_only 10 rfl (by decide +kernel) rfl rfl rfl (o_slice1 el35 (by omega) rfl rfl rfl fun b32 => ⟨(by repeat (first | exact Sub.nil | refine Sub.pick ?_ | refine Sub.castO rfl ?_ | refine Sub.skip ?_)), ?_⟩)
     refine f_only 11 rfl (by decide +kernel) rfl rfl rfl (o_append el35 rfl rfl hro (ys := [.int .i64 l[k].dst]) ⟨(rdA rfl), trivial⟩ rfl rfl (by omega) (by omega) fun v33 m33 o33 => ⟨(by repeat (first | exact Sub.nil | refine Sub.pick ?_ | refine Sub.castO rfl ?_ | refine Sub.skip ?_)), ?_⟩)
     obtain ⟨A33, cap33, rfl, _⟩ := o33.val
     refine f_take 12 rfl (by decide +kernel) rfl rfl rfl (by repeat (first | exact Sub.nil | refine Sub.pick ?_ | refine Sub.castO rfl ?_ | refine Sub.skip ?_)) (o_idx sl77 rfl rfl (s) ⟨by omega, by omega, by first | omega | (simp; done) | (simp; omega)⟩) ?_
     refine f_only0 13 rfl (by decide +kernel) rfl rfl (o_store Try.sizeOf35 rfl rfl rfl rfl (by have := hR.lv; rw [rawRows_len] at this; omega) (vs.set s (.slice A33 (rl.length + 1) cap33)) rfl ⟨(by repeat (first | exact Sub.nil | refine Sub.pick ?_ | refine Sub.castO rfl ?_ | refine Sub.skip ?_)), ?_⟩)
     refine f_over (by decide +kernel) ?_
     refine f_tn (kh10 _ _ ?_)
     clear kh10
     refine f_subC (Sub.joinF (m := m33) (G' := rG) (hput _ _ _ (by rw [← ints_len1']; exact o33)).2) ?_
     obtain ⟨rv2, rm2, rG2, hrv2, hro2, hrp2, hput2⟩ := (hput _ _ _ (by rw [← ints_len1']; exact o33)).1.split (i := d) (by rw [List.length_set, rawRows_len]; exact hdn)
     rw [List.getElem_set_ne hsd, rawRows_get] at hro2
     have hrlen2 := nbr_len (d : Int) (l.take k)
     rw [List.length_take] at hrlen2
     obtain ⟨rl2, hrl2⟩ : ∃ rl2, rl2 = (l.take k).flatMap (nbr (d : Int)) := ⟨_, rfl⟩
     rw [← hrl2] at hro2 hrlen2
     obtain ⟨Ar2, cr2, rfl, hcr2⟩ := hro2.val
     refine f_subC (Sub.splitF hrp2) ?_
     refine f_regionH [[(b5, blk (arcCs l[k]) 55)]] rfl ?_
     refine f_take 0 rfl (by decide +kernel) rfl rfl rfl (by repeat (first | exact Sub.nil | refine Sub.pick ?_ | refine Sub.castO rfl ?_ | refine Sub.skip ?_)) (o_move rfl) ?_
     refine f_take 1 rfl (by decide +kernel) rfl rfl rfl (by repeat (first | exact Sub.nil | refine Sub.pick ?_ | refine Sub.castO rfl ?_ | refine Sub.skip ?_)) (o_field fa55_1 rfl) ?_
     refine f_take 2 rfl (by decide +kernel) rfl rfl rfl (by repeat (first | exact Sub.nil | refine Sub.pick ?_ | refine Sub.castO rfl ?_ | refine Sub.skip ?_)) (o_load Try.isAgg3 rfl (rdA rfl)) ?_
     refine f_take 3 rfl (by decide +kernel) rfl rfl rfl (by repeat (first | exact Sub.nil | refine Sub.pick ?_ | refine Sub.castO rfl ?_ | refine Sub.skip ?_)) (o_move rfl) ?_
     refine f_take 4 rfl (by decide +kernel) rfl rfl rfl (by repeat (first | exact Sub.nil | refine Sub.pick ?_ | refine Sub.castO rfl ?_ | refine Sub.skip ?_)) (o_field fa55_1 rfl) ?_
     refine f_take 5 rfl (by decide +kernel) rfl rfl rfl (by repeat (first | exact Sub.nil | refine Sub.pick ?_ | refine Sub.castO rfl ?_ | refine Sub.skip ?_)) (o_load Try.isAgg3 rfl (rdA rfl)) ?_
     refine f_take 6 rfl (by decide +kernel) rfl rfl rfl (by repeat (first | exact Sub.nil | refine Sub.pick ?_ | refine Sub.castO rfl ?_ | refine Sub.skip ?_)) (o_idx sl77 rfl rfl (d) ⟨by omega, by omega, by first | omega | (simp; done) | (simp; omega)⟩) ?_
     refine f_take 8 rfl (by decide +kernel) rfl rfl rfl (by repeat (first | exact Sub.nil | refine Sub.pick ?_ | refine Sub.castO rfl ?_ | refine Sub.skip ?_)) (o_field fa55_0 rfl) ?_
     refine f_take 9 rfl (by decide +kernel) rfl rfl rfl (by repeat (first | exact Sub.nil | refine Sub.pick ?_ | refine Sub.castO rfl ?_ | refine Sub.skip ?_)) (o_load Try.isAgg3 rfl (rdA rfl)) ?_
     refine f_two 7 10 rfl rfl (by decide +kernel) rfl rfl rfl rfl rfl rfl ?_ ?_
     ·
      refine (o_load Try.isAgg35 rfl (rdA hrv2)).does ⟨(by repeat (first | exact Sub.nil | refine Sub.pick ?_ | refine Sub.castO rfl ?_ | refine Sub.skip ?_)), ?_⟩
      refine f_only 10 rfl (by decide +kernel) rfl rfl rfl (o_slice1 el35 (by omega) rfl rfl rfl fun b45 => ⟨(by repeat (first | exact Sub.nil | refine Sub.pick ?_ | refine Sub.castO rfl ?_ | refine Sub.skip ?_)), ?_⟩)
      refine f_only 11 rfl (by decide +kernel) rfl rfl rfl (o_append el35 rfl rfl hro2 (ys := [.int .i64 l[k].src]) ⟨(rdA rfl), trivial⟩ rfl rfl (by omega) (by omega) fun v46 m46 o46 => ⟨(by repeat (first | exact Sub.nil | refine Sub.pick ?_ | refine Sub.castO rfl ?_ | refine Sub.skip ?_)), ?_⟩)
      obtain ⟨A46, cap46, rfl, _⟩ := o46.val
      refine f_take 12 rfl (by decide +kernel) rfl rfl rfl (by repeat (first | exact Sub.nil | refine Sub.pick ?_ | refine Sub.castO rfl ?_ | refine Sub.skip ?_)) (o_idx sl77 rfl rfl (d) ⟨by omega, by omega, by first | omega | (simp; done) | (simp; omega)⟩) ?_
      refine f_only0 13 rfl (by decide +kernel) rfl rfl (o_store Try.sizeOf35 rfl rfl rfl rfl (by have := hR.lv; rw [rawRows_len] at this; rw [List.length_set]; omega) ((vs.set s (.slice A33 (rl.length + 1) cap33)).set d (.slice A46 (rl2.length + 1) cap46)) rfl ⟨(by repeat (first | exact Sub.nil | refine Sub.pick ?_ | refine Sub.castO rfl ?_ | refine Sub.skip ?_)), ?_⟩)
      refine f_over (by decide +kernel) ?_
      refine f_bn ?_
      refine f_tn (kh7 _ _ ?_)
      clear kh7
      refine f_region ?_
      refine f_stepP rfl rfl rfl (o_add rfl rfl _ (wrap_i64 (by omega))) ?_
      refine f_stepP rfl rfl rfl (o_move rfl) ?_
      refine f_done ?_
      refine f_subQ (Sub.joinF (m := m46) (G' := rG2) (hput2 _ _ _ (by rw [← ints_len1']; exact o46)).2) ?_
      refine f_tn (f_again (k + 1, (vs.set s (.slice A33 (rl.length + 1) cap33)).set d (.slice A46 (rl2.length + 1) cap46), (ms.set s m33).set d m46) (by first | omega | (dsimp only; omega) | (simp; omega)) ⟨by omega, by have := (hput2 _ _ _ (by rw [← ints_len1']; exact o46)).1; rw [hrl, hrl2, rawRows_two hk hs hd hsd] at this; rw [hrl, hrl2]; exact this⟩ ?_ ?_ ?_)
      · exact (by repeat (first | exact trivial | refine ⟨rfl, ?_⟩))
      · exact (by repeat (first | exact trivial | refine ⟨rfl, ?_⟩))
      · repeat (first | exact Sub.nil | refine Sub.pick ?_ | refine Sub.castO rfl ?_ | refine Sub.skip ?_)
     ·
      refine (o_slice1 el35 (by omega) rfl rfl rfl fun b45 => ⟨(by repeat (first | exact Sub.nil | refine Sub.pick ?_ | refine Sub.castO rfl ?_ | refine Sub.skip ?_)), ?_⟩)
      refine f_only 7 rfl (by decide +kernel) rfl rfl rfl ((o_load Try.isAgg35 rfl (rdA hrv2)).does ⟨(by repeat (first | exact Sub.nil | refine Sub.pick ?_ | refine Sub.castO rfl ?_ | refine Sub.skip ?_)), ?_⟩)
      refine f_only 11 rfl (by decide +kernel) rfl rfl rfl (o_append el35 rfl rfl hro2 (ys := [.int .i64 l[k].src]) ⟨(rdA rfl), trivial⟩ rfl rfl (by omega) (by omega) fun v46 m46 o46 => ⟨(by repeat (first | exact Sub.nil | refine Sub.pick ?_ | refine Sub.castO rfl ?_ | refine Sub.skip ?_)), ?_⟩)
      obtain ⟨A46, cap46, rfl, _⟩ := o46.val
      refine f_take 12 rfl (by decide +kernel) rfl rfl rfl (by repeat (first | exact Sub.nil | refine Sub.pick ?_ | refine Sub.castO rfl ?_ | refine Sub.skip ?_)) (o_idx sl77 rfl rfl (d) ⟨by omega, by omega, by first | omega | (simp; done) | (simp; omega)⟩) ?_
      refine f_only0 13 rfl (by decide +kernel) rfl rfl (o_store Try.sizeOf35 rfl rfl rfl rfl (by have := hR.lv; rw [rawRows_len] at this; rw [List.length_set]; omega) ((vs.set s (.slice A33 (rl.length + 1) cap33)).set d (.slice A46 (rl2.length + 1) cap46)) rfl ⟨(by repeat (first | exact Sub.nil | refine Sub.pick ?_ | refine Sub.castO rfl ?_ | refine Sub.skip ?_)), ?_⟩)
      refine f_over (by decide +kernel) ?_
      refine f_bn ?_
      refine f_tn (kh7 _ _ ?_)
      clear kh7
      refine f_region ?_
      refine f_stepP rfl rfl rfl (o_add rfl rfl _ (wrap_i64 (by omega))) ?_
      refine f_stepP rfl rfl rfl (o_move rfl) ?_
      refine f_done ?_
      refine f_subQ (Sub.joinF (m := m46) (G' := rG2) (hput2 _ _ _ (by rw [← ints_len1']; exact o46)).2) ?_
      refine f_tn (f_again (k + 1, (vs.set s (.slice A33 (rl.length + 1) cap33)).set d (.slice A46 (rl2.length + 1) cap46), (ms.set s m33).set d m46) (by first | omega | (dsimp only; omega) | (simp; omega)) ⟨by omega, by have := (hput2 _ _ _ (by rw [← ints_len1']; exact o46)).1; rw [hrl, hrl2, rawRows_two hk hs hd hsd] at this; rw [hrl, hrl2]; exact this⟩ ?_ ?_ ?_)
      · exact (by repeat (first | exact trivial | refine ⟨rfl, ?_⟩))
      · exact (by repeat (first | exact trivial | refine ⟨rfl, ?_⟩))
      · repeat (first | exact Sub.nil | refine Sub.pick ?_ | refine Sub.castO rfl ?_ | refine Sub.skip ?_)
    ·
     refine (o_slice1 el35 (by omega) rfl rfl rfl fun b32 => ⟨(by repeat (first | exact Sub.nil | refine Sub.pick ?_ | refine Sub.castO rfl ?_ | refine Sub.skip ?_)), ?_⟩)
     refine f_only 7 rfl (by decide +kernel) rfl rfl rfl ((o_load Try.isAgg35 rfl (rdA hrv)).does ⟨(by repeat (first | exact Sub.nil | refine Sub.pick ?_ | refine Sub.castO rfl ?_ | refine Sub.skip ?_)), ?_⟩)
     refine f_only 11 rfl (by decide +kernel) rfl rfl rfl (o_append el35 rfl rfl hro (ys := [.int .i64 l[k].dst]) ⟨(rdA rfl), trivial⟩ rfl rfl (by omega) (by omega) fun v33 m33 o33 => ⟨(by repeat (first | exact Sub.nil | refine Sub.pick ?_ | refine Sub.castO rfl ?_ | refine Sub.skip ?_)), ?_⟩)
     obtain ⟨A33, cap33, rfl, _⟩ := o33.val
     refine f_take 12 rfl (by decide +kernel) rfl rfl rfl (by repeat (first | exact Sub.nil | refine Sub.pick ?_ | refine Sub.castO rfl ?_ | refine Sub.skip ?_)) (o_idx sl77 rfl rfl (s) ⟨by omega, by omega, by first | omega | (simp; done) | (simp; omega)⟩) ?_
     refine f_only0 13 rfl (by decide +kernel) rfl rfl (o_store Try.sizeOf35 rfl rfl rfl rfl (by have := hR.lv; rw [rawRows_len] at this; omega) (vs.set s (.slice A33 (rl.length + 1) cap33)) rfl ⟨(by repeat (first | exact Sub.nil | refine Sub.pick ?_ | refine Sub.castO rfl ?_ | refine Sub.skip ?_)), ?_⟩)
     refine f_over (by decide +kernel) ?_
     refine f_tn (kh10 _ _ ?_)
     clear kh10
     refine f_subC (Sub.joinF (m := m33) (G' := rG) (hput _ _ _ (by rw [← ints_len1']; exact o33)).2) ?_
     obtain ⟨rv2, rm2, rG2, hrv2, hro2, hrp2, hput2⟩ := (hput _ _ _ (by rw [← ints_len1']; exact o33)).1.split (i := d) (by rw [List.length_set, rawRows_len]; exact hdn)
     rw [List.getElem_set_ne hsd, rawRows_get] at hro2
     have hrlen2 := nbr_len (d : Int) (l.take k)
     rw [List.length_take] at hrlen2
     obtain ⟨rl2, hrl2⟩ : ∃ rl2, rl2 = (l.take k).flatMap (nbr (d : Int)) := ⟨_, rfl⟩
     rw [← hrl2] at hro2 hrlen2
     obtain ⟨Ar2, cr2, rfl, hcr2⟩ := hro2.val
     refine f_subC (Sub.splitF hrp2) ?_
     refine f_regionH [[(b5, blk (arcCs l[k]) 55)]] rfl ?_
     refine f_take 0 rfl (by decide +kernel) rfl rfl rfl (by repeat (first | exact Sub.nil | refine Sub.pick ?_ | refine Sub.castO rfl ?_ | refine Sub.skip ?_)) (o_move rfl) ?_
     refine f_take 1 rfl (by decide +kernel) rfl rfl rfl (by repeat (first | exact Sub.nil | refine Sub.pick ?_ | refine Sub.castO rfl ?_ | refine Sub.skip ?_)) (o_field fa55_1 rfl) ?_
     refine f_take 2 rfl (by decide +kernel) rfl rfl rfl (by repeat (first | exact Sub.nil | refine Sub.pick ?_ | refine Sub.castO rfl ?_ | refine Sub.skip ?_)) (o_load Try.isAgg3 rfl (rdA rfl)) ?_
     refine f_take 3 rfl (by decide +kernel) rfl rfl rfl (by repeat (first | exact Sub.nil | refine Sub.pick ?_ | refine Sub.castO rfl ?_ | refine Sub.skip ?_)) (o_move rfl) ?_
     refine f_take 4 rfl (by decide +kernel) rfl rfl rfl (by repeat (first | exact Sub.nil | refine Sub.pick ?_ | refine Sub.castO rfl ?_ | refine Sub.skip ?_)) (o_field fa55_1 rfl) ?_
     refine f_take 5 rfl (by decide +kernel) rfl rfl rfl (by repeat (first | exact Sub.nil | refine Sub.pick ?_ | refine Sub.castO rfl ?_ | refine Sub.skip ?_)) (o_load Try.isAgg3 rfl (rdA rfl)) ?_
     refine f_take 6 rfl (by decide +kernel) rfl rfl rfl (by repeat (first | exact Sub.nil | refine Sub.pick ?_ | refine Sub.castO rfl ?_ | refine Sub.skip ?_)) (o_idx sl77 rfl rfl (d) ⟨by omega, by omega, by first | omega | (simp; done) | (simp; omega)⟩) ?_
     refine f_take 8 rfl (by decide +kernel) rfl rfl rfl (by repeat (first | exact Sub.nil | refine Sub.pick ?_ | refine Sub.castO rfl ?_ | refine Sub.skip ?_)) (o_field fa55_0 rfl) ?_
     refine f_take 9 rfl (by decide +kernel) rfl rfl rfl (by repeat (first | exact Sub.nil | refine Sub.pick ?_ | refine Sub.castO rfl ?_ | refine Sub.skip ?_)) (o_load Try.isAgg3 rfl (rdA rfl)) ?_
     refine f_two 7 10 rfl rfl (by decide +kernel) rfl rfl rfl rfl rfl rfl ?_ ?_
     ·
      refine (o_load Try.isAgg35 rfl (rdA hrv2)).does ⟨(by repeat (first | exact Sub.nil | refine Sub.pick ?_ | refine Sub.castO rfl ?_ | refine Sub.skip ?_)), ?_⟩
      refine f_only 10 rfl (by decide +kernel) rfl rfl rfl (o_slice1 el35 (by omega) rfl rfl rfl fun b45 => ⟨(by repeat (first | exact Sub.nil | refine Sub.pick ?_ | refine Sub.castO rfl ?_ | refine Sub.skip ?_)), ?_⟩)
      refine f_only 11 rfl (by decide +kernel) rfl rfl rfl (o_append el35 rfl rfl hro2 (ys := [.int .i64 l[k].src]) ⟨(rdA rfl), trivial⟩ rfl rfl (by omega) (by omega) fun v46 m46 o46 => ⟨(by repeat (first | exact Sub.nil | refine Sub.pick ?_ | refine Sub.castO rfl ?_ | refine Sub.skip ?_)), ?_⟩)
      obtain ⟨A46, cap46, rfl, _⟩ := o46.val
      refine f_take 12 rfl (by decide +kernel) rfl rfl rfl (by repeat (first | exact Sub.nil | refine Sub.pick ?_ | refine Sub.castO rfl ?_ | refine Sub.skip ?_)) (o_idx sl77 rfl rfl (d) ⟨by omega, by omega, by first | omega | (simp; done) | (simp; omega)⟩) ?_
      refine f_only0 13 rfl (by decide +kernel) rfl rfl (o_store Try.sizeOf35 rfl rfl rfl rfl (by have := hR.lv; rw [rawRows_len] at this; rw [List.length_set]; omega) ((vs.set s (.slice A33 (rl.length + 1) cap33)).set d (.slice A46 (rl2.length + 1) cap46)) rfl ⟨(by repeat (first | exact Sub.nil | refine Sub.pick ?_ | refine Sub.castO rfl ?_ | refine Sub.skip ?_)), ?_⟩)
      refine f_over (by decide +kernel) ?_
      refine f_bn ?_
      refine f_tn (kh7 _ _ ?_)
      clear kh7
      refine f_region ?_
      refine f_stepP rfl rfl rfl (o_add rfl rfl _ (wrap_i64 (by omega))) ?_
      refine f_stepP rfl rfl rfl (o_move rfl) ?_
      refine f_done ?_
      refine f_subQ (Sub.joinF (m := m46) (G' := rG2) (hput2 _ _ _ (by rw [← ints_len1']; exact o46)).2) ?_
      refine f_tn (f_again (k + 1, (vs.set s (.slice A33 (rl.length + 1) cap33)).set d (.slice A46 (rl2.length + 1) cap46), (ms.set s m33).set d m46) (by first | omega | (dsimp only; omega) | (simp; omega)) ⟨by omega, by have := (hput2 _ _ _ (by rw [← ints_len1']; exact o46)).1; rw [hrl, hrl2, rawRows_two hk hs hd hsd] at this; rw [hrl, hrl2]; exact this⟩ ?_ ?_ ?_)
      · exact (by repeat (first | exact trivial | refine ⟨rfl, ?_⟩))
      · exact (by repeat (first | exact trivial | refine ⟨rfl, ?_⟩))
      · repeat (first | exact Sub.nil | refine Sub.pick ?_ | refine Sub.castO rfl ?_ | refine Sub.skip ?_)
     ·
      refine (o_slice1 el35 (by omega) rfl rfl rfl fun b45 => ⟨(by repeat (first | exact Sub.nil | refine Sub.pick ?_ | refine Sub.castO rfl ?_ | refine Sub.skip ?_)), ?_⟩)
      refine f_only 7 rfl (by decide +kernel) rfl rfl rfl ((o_load Try.isAgg35 rfl (rdA hrv2)).does ⟨(by repeat (first | exact Sub.nil | refine Sub.pick ?_ | refine Sub.castO rfl ?_ | refine Sub.skip ?_)), ?_⟩)
      refine f_only 11 rfl (by decide +kernel) rfl rfl rfl (o_append el35 rfl rfl hro2 (ys := [.int .i64 l[k].src]) ⟨(rdA rfl), trivial⟩ rfl rfl (by omega) (by omega) fun v46 m46 o46 => ⟨(by repeat (first | exact Sub.nil | refine Sub.pick ?_ | refine Sub.castO rfl ?_ | refine Sub.skip ?_)), ?_⟩)
      obtain ⟨A46, cap46, rfl, _⟩ := o46.val
      refine f_take 12 rfl (by decide +kernel) rfl rfl rfl (by repeat (first | exact Sub.nil | refine Sub.pick ?_ | refine Sub.castO rfl ?_ | refine Sub.skip ?_)) (o_idx sl77 rfl rfl (d) ⟨by omega, by omega, by first | omega | (simp; done) | (simp; omega)⟩) ?_
      refine f_only0 13 rfl (by decide +kernel) rfl rfl (o_store Try.sizeOf35 rfl rfl rfl rfl (by have := hR.lv; rw [rawRows_len] at this; rw [List.length_set]; omega) ((vs.set s (.slice A33 (rl.length + 1) cap33)).set d (.slice A46 (rl2.length + 1) cap46)) rfl ⟨(by repeat (first | exact Sub.nil | refine Sub.pick ?_ | refine Sub.castO rfl ?_ | refine Sub.skip ?_)), ?_⟩)
      refine f_over (by decide +kernel) ?_
      refine f_bn ?_
      refine f_tn (kh7 _ _ ?_)
      clear kh7
      refine f_region ?_
      refine f_stepP rfl rfl rfl (o_add rfl rfl _ (wrap_i64 (by omega))) ?_
      refine f_stepP rfl rfl rfl (o_move rfl) ?_
      refine f_done ?_
      refine f_subQ (Sub.joinF (m := m46) (G' := rG2) (hput2 _ _ _ (by rw [← ints_len1']; exact o46)).2) ?_
      refine f_tn (f_again (k + 1, (vs.set s (.slice A33 (rl.length + 1) cap33)).set d (.slice A46 (rl2.length + 1) cap46), (ms.set s m33).set d m46) (by first | omega | (dsimp only; omega) | (simp; omega)) ⟨by omega, by have := (hput2 _ _ _ (by rw [← ints_len1']; exact o46)).1; rw [hrl, hrl2, rawRows_two hk hs hd hsd] at this; rw [hrl, hrl2]; exact this⟩ ?_ ?_ ?_)
      · exact (by repeat (first | exact trivial | refine ⟨rfl, ?_⟩))
      · exact (by repeat (first | exact trivial | refine ⟨rfl, ?_⟩))
      · repeat (first | exact Sub.nil | refine Sub.pick ?_ | refine Sub.castO rfl ?_ | refine Sub.skip ?_)
   ·
    refine f_skip ?_
    refine f_bn ?_
    refine f_tn (kh7 _ _ ?_)
    clear kh7
    refine f_region ?_
    refine f_stepP rfl rfl rfl (o_add rfl rfl _ (wrap_i64 (by omega))) ?_
    refine f_stepP rfl rfl rfl (o_move rfl) ?_
    refine f_done ?_
    refine f_tn (f_again (k + 1, vs, ms) (by first | omega | (dsimp only; omega) | (simp; omega)) ⟨by omega, by rw [rawRows_same hk (by simpa using c21)]; exact hR⟩ ?_ ?_ ?_)
    · exact (by repeat (first | exact trivial | refine ⟨rfl, ?_⟩))
    · exact (by repeat (first | exact trivial | refine ⟨rfl, ?_⟩))
    · repeat (first | exact Sub.nil | refine Sub.pick ?_ | refine Sub.castO rfl ?_ | refine Sub.skip ?_)
  ·
   refine f_exit ?_
   refine f_te ?_
   clear kh6
   refine f_te ?_
   refine f_be ?_
   refine f_tn (kh3 _ _ ?_)
   clear kh3
   refine f_seq fun K11 kh11 => ?_
   refine f_seq fun K12 kh12 => ?_
   obtain rfl : k = l.length := by omega
   rw [List.take_length] at hR
   refine f_region ?_
   refine f_stepP rfl rfl rfl (o_move rfl) ?_
   refine f_stepP rfl rfl rfl (o_len sl77 rfl) ?_
   refine f_stepP rfl rfl rfl (o_move rfl) ?_
   refine f_done ?_
   refine f_tn (kh12 _ _ ?_)
   clear kh12
   refine f_block ?_
   refine f_loop (α := Nat × List Value × List Seg) [3, 50] (fun ⟨j, vs, ms⟩ => [(51, .int .i64 (j : Int))]) (fun ⟨j, vs, ms⟩ => [[(b9, blk vs 35)], ms.flatten]) (fun ⟨j, vs, ms⟩ => j ≤ n ∧ RowsI 3 (mixRows n l j) vs ms) (fun ⟨j, vs, ms⟩ => n - j) (0, vs, ms) ?_ ?_ ?_ ?_
   · exact (by repeat (first | exact trivial | refine ⟨rfl, ?_⟩))
   · repeat (first | exact Sub.nil | refine Sub.pick ?_ | refine Sub.castO rfl ?_ | refine Sub.skip ?_)
   · exact ⟨by omega, by rw [mixRows_zero]; exact hR⟩
   ·
    rintro ⟨j, vs, ms⟩ ⟨hjn, hR⟩
    refine f_envC (e := [(51, _), (3, _), (50, _)]) (by repeat (first | exact trivial | refine ⟨rfl, ?_⟩)) ?_
    refine f_seq fun K13 kh13 => ?_
    refine f_region ?_
    refine f_stepP rfl rfl rfl (o_lss rfl rfl) ?_
    refine f_done ?_
    refine f_tn (kh13 _ _ ?_)
    clear kh13
    refine f_seq fun K14 kh14 => ?_
    refine f_cond rfl (fun c52 => ?_) (fun c52 => ?_)
    ·
     refine f_skip ?_
     refine f_tn (kh14 _ _ ?_)
     clear kh14
     refine f_seq fun K15 kh15 => ?_
     refine f_block ?_
     refine f_seq fun K16 kh16 => ?_
     refine f_region ?_
     refine f_stepP rfl rfl rfl (o_move rfl) ?_
     refine f_stepP rfl rfl rfl (o_assign rfl) ?_
     refine f_done ?_
     refine f_tn (kh16 _ _ ?_)
     clear kh16
     refine f_seq fun K17 kh17 => ?_
     have hj : j < n := by omega
     obtain ⟨rv, rm, rG, hrv, hro, hrp, hput⟩ := hR.split (i := j) (by rw [mixRows_len]; exact hj)
     rw [mixRows_get, if_neg (by omega)] at hro
     have hrlen := nbr_len (j : Int) l
     obtain ⟨rl, hrl⟩ : ∃ rl, rl = l.flatMap (nbr (j : Int)) := ⟨_, rfl⟩
     rw [← hrl] at hro hrlen
     obtain ⟨Ar, cr, rfl, hcr⟩ := hro.val
     refine f_subC (Sub.splitF hrp) ?_
     refine f_region ?_
     refine f_stepP rfl rfl rfl (o_move rfl) ?_
     refine f_stepP rfl rfl rfl (o_move rfl) ?_
     refine f_stepP rfl rfl rfl (o_idx sl77 rfl rfl (j) ⟨by omega, by omega, by first | omega | (simp; done) | (simp; omega)⟩) ?_
     refine f_stepP rfl rfl rfl (o_load Try.isAgg35 rfl (rdA hrv)) ?_
     refine f_step rfl rfl rfl (o_callM [rm] _ Try.call62 rfl (Sub.pick Sub.refl) (fun w_ hp_ => SortInts_spec Ar cr rl rm w_ hro (by omega) hp_.owns) ?_)
     rintro _ _ ⟨rfl, m2, rfl, ho2⟩
     dsimp only [List.cons_append, List.nil_append]
     refine f_done ?_
     refine f_tn (kh17 _ _ ?_)
     clear kh17
     refine f_region ?_
     refine f_stepP rfl rfl rfl (o_move rfl) ?_
     refine f_stepP rfl rfl rfl (o_move rfl) ?_
     refine f_stepP rfl rfl rfl (o_move rfl) ?_
     refine f_stepP rfl rfl rfl (o_move rfl) ?_
     refine f_stepP rfl rfl rfl (o_idx sl77 rfl rfl (j) ⟨by omega, by omega, by first | omega | (simp; done) | (simp; omega)⟩) ?_
     refine f_stepP rfl rfl rfl (o_load Try.isAgg35 rfl (rdA hrv)) ?_
     refine f_step rfl rfl rfl (o_callM [m2] _ Try.call63 rfl (Sub.pick Sub.refl) (fun w_ hp_ => (by have h := Compact_spec Ar cr (sortI rl) m2 w_ (by rw [sortI_len]; exact ho2) (by rw [sortI_len]; omega) hp_.owns; rw [sortI_len] at h; exact h)) ?_)
     rintro v65 _ ⟨m3, rfl, ho3⟩
     obtain ⟨A3, c3, rfl, hc3⟩ := ho3.val
     dsimp only [List.cons_append, List.nil_append]
     refine f_stepP rfl rfl rfl (o_idx sl77 rfl rfl (j) ⟨by omega, by omega, by first | omega | (simp; done) | (simp; omega)⟩) ?_
     refine f_step0 rfl rfl (o_store Try.sizeOf35 rfl rfl rfl rfl (by have := hR.lv; rw [mixRows_len] at this; omega) (vs.set j (.slice A3 (cpt (sortI rl)).length c3)) rfl ?_)
     refine f_done ?_
     refine f_bn ?_
     refine f_tn (kh15 _ _ ?_)
     clear kh15
     refine f_region ?_
     refine f_stepP rfl rfl rfl (o_add rfl rfl _ (wrap_i64 (by omega))) ?_
     refine f_stepP rfl rfl rfl (o_move rfl) ?_
     refine f_done ?_
     refine f_subQ (Sub.joinF (m := m3) (G' := rG) (hput _ _ _ ho3).2) ?_
     refine f_tn (f_again (j + 1, vs.set j (.slice A3 (cpt (sortI rl)).length c3), ms.set j m3) (by first | omega | (dsimp only; omega) | (simp; omega)) ⟨by omega, by have := (hput _ _ _ ho3).1; rw [hrl, mixRows_next] at this; rw [hrl]; exact this⟩ ?_ ?_ ?_)
     · exact (by repeat (first | exact trivial | refine ⟨rfl, ?_⟩))
     · exact (by repeat (first | exact trivial | refine ⟨rfl, ?_⟩))
     · repeat (first | exact Sub.nil | refine Sub.pick ?_ | refine Sub.castO rfl ?_ | refine Sub.skip ?_)
    ·
     refine f_exit ?_
     refine f_te ?_
     clear kh14
     refine f_te ?_
     refine f_be ?_
     refine f_tn (kh11 _ _ ?_)
     clear kh11
     refine f_seq fun K18 kh18 => ?_
     obtain rfl : j = n := by omega
     rw [mixRows_all] at hR
     refine f_region ?_
     refine f_stepP rfl rfl rfl (o_move rfl) ?_
     refine f_stepP rfl rfl rfl (o_assign rfl) ?_
     refine f_done ?_
     refine f_tn (kh18 _ _ ?_)
     clear kh18
     refine f_ret ?_
     exact f_fin1 [[(b9, blk vs 35)], ms.flatten] Try.results41 rfl (by repeat (first | exact Sub.nil | refine Sub.pick ?_ | refine Sub.castO rfl ?_)) ⟨b9, vs, ms, rfl, rfl, hR⟩

end Go.Proofs.Ytbjiejhdgkpjcaa

/- The order around a centre: nearest first. -/

namespace Go.Proofs.Ytbjiejhdgkpjcaa
open Go Fly
set_option linter.unusedVariables false
set_option linter.unusedSimpArgs false
set_option linter.unusedSectionVars false

abbrev BSt := List Int × List Bool
def bpush1 (s : BSt) (u : Int) : BSt := if s.2.getD u.toNat false = true then s else (s.1 ++ [u], s.2.set u.toNat true)
def bpush (row : List Int) (s : BSt) : BSt := row.foldl bpush1 s
def bstep (rows : Nat → List Int) (k : Nat) (s : BSt) : BSt :=
  match s.1[k]? with
  | some v => bpush (rows v.toNat) s
  | none => s
/-- k vertices have been gone through. -/
def bgo (rows : Nat → List Int) (s : BSt) : Nat → BSt
  | 0 => s
  | k + 1 => bstep rows k (bgo rows s k)
def bstart (c : Nat) (b : List Bool) : BSt := ([(c : Int)], b.set c true)
def bfs (n : Nat) (rows : Nat → List Int) (c : Nat) (b : List Bool) : BSt := bgo rows (bstart c b) n

theorem bpush_next {row : List Int} {j : Nat} (hj : j < row.length) (s : BSt) : bpush (row.take (j + 1)) s = bpush1 (bpush (row.take j) s) row[j] := by
  unfold bpush; rw [List.take_succ_eq_append_getElem hj, List.foldl_append]; rfl
theorem bpush1_ext (s : BSt) (u : Int) : ∃ r, (bpush1 s u).1 = s.1 ++ r := by
  unfold bpush1
  split
  · exact ⟨[], by simp⟩
  · exact ⟨[u], rfl⟩
theorem bpush_ext (row : List Int) : ∀ s : BSt, ∃ r, (bpush row s).1 = s.1 ++ r := by
  induction row with
  | nil => intro s; exact ⟨[], by simp [bpush]⟩
  | cons u row ih =>
    intro s
    obtain ⟨r1, h1⟩ := bpush1_ext s u
    obtain ⟨r2, h2⟩ := ih (bpush1 s u)
    refine ⟨r1 ++ r2, ?_⟩
    show (bpush row (bpush1 s u)).1 = _
    rw [h2, h1, List.append_assoc]
theorem bstep_at {rows : Nat → List Int} {k : Nat} {s : BSt} (h : k < s.1.length) : bstep rows k s = bpush (rows s.1[k].toNat) s := by
  unfold bstep; rw [List.getElem?_eq_getElem h]
theorem bstep_no {rows : Nat → List Int} {k : Nat} {s : BSt} (h : s.1.length ≤ k) : bstep rows k s = s := by
  unfold bstep; rw [List.getElem?_eq_none h]
theorem bstep_ext (rows : Nat → List Int) (k : Nat) (s : BSt) : ∃ r, (bstep rows k s).1 = s.1 ++ r := by
  rcases Nat.lt_or_ge k s.1.length with h | h
  · rw [bstep_at h]; exact bpush_ext _ _
  · rw [bstep_no h]; exact ⟨[], by simp⟩
theorem bgo_ext (rows : Nat → List Int) (s : BSt) (k : Nat) : ∀ d, ∃ r, (bgo rows s (k + d)).1 = (bgo rows s k).1 ++ r
  | 0 => ⟨[], by simp⟩
  | d + 1 => by
    obtain ⟨r1, h1⟩ := bgo_ext rows s k d
    obtain ⟨r2, h2⟩ := bstep_ext rows (k + d) (bgo rows s (k + d))
    refine ⟨r1 ++ r2, ?_⟩
    show (bstep rows (k + d) (bgo rows s (k + d))).1 = _
    rw [h2, h1, List.append_assoc]
theorem bgo_stop {rows : Nat → List Int} {s : BSt} {k : Nat} (h : (bgo rows s k).1.length ≤ k) : ∀ d, bgo rows s (k + d) = bgo rows s k
  | 0 => rfl
  | d + 1 => by
    have ih := bgo_stop h d
    show bstep rows (k + d) (bgo rows s (k + d)) = _
    rw [ih, bstep_no (by omega)]

structure BInv (n : Nat) (s : BSt) : Prop where
  len : s.2.length = n
  rng : ∀ x ∈ s.1, 0 ≤ x ∧ x < (n : Int)
  nd : s.1.Nodup
  tr : ∀ x ∈ s.1, s.2.getD x.toNat false = true
theorem ints_card {n : Nat} {l : List Int} (hr : ∀ x ∈ l, 0 ≤ x ∧ x < (n : Int)) (hn : l.Nodup) : l.length ≤ n := by
  have h := List.Nodup.length_le_of_subset hn (l₂ := (List.range n).map Int.ofNat) fun x hx => by
    have := hr x hx
    exact List.mem_map.2 ⟨x.toNat, List.mem_range.2 (by omega), by show ((x.toNat : Nat) : Int) = x; omega⟩
  simpa using h
theorem BInv.out {n : Nat} {s : BSt} (h : BInv n s) : s.1.length ≤ n := ints_card h.rng h.nd
theorem getD_set (l : List Bool) (i j : Nat) (b : Bool) : (l.set i b).getD j false = if i = j ∧ i < l.length then b else l.getD j false := by
  simp only [List.getD_eq_getElem?_getD, List.getElem?_set]
  by_cases h : i = j
  · subst h
    by_cases h' : i < l.length
    · simp [h']
    · simp [h']
  · simp [h]
theorem BInv.start {n c : Nat} {b : List Bool} (hb : b.length = n) (hc : c < n) : BInv n (bstart c b) := by
  refine ⟨by simp [bstart, hb], fun x hx => ?_, by simp [bstart], fun x hx => ?_⟩
  · simp only [bstart, List.mem_singleton] at hx; omega
  · simp only [bstart, List.mem_singleton] at hx
    subst hx
    show (b.set c true).getD _ false = true
    rw [getD_set, if_pos ⟨by omega, by omega⟩]
theorem BInv.push1 {n : Nat} {s : BSt} (h : BInv n s) {u : Int} (hu : 0 ≤ u ∧ u < (n : Int)) : BInv n (bpush1 s u) := by
  unfold bpush1
  split
  · exact h
  · rename_i hn
    refine ⟨by simp [h.len], fun x hx => ?_, ?_, fun x hx => ?_⟩
    · rcases List.mem_append.1 hx with hx | hx
      · exact h.rng x hx
      · simp only [List.mem_singleton] at hx; omega
    · rw [List.nodup_append]
      refine ⟨h.nd, by simp, fun a ha b hb e => ?_⟩
      simp only [List.mem_singleton] at hb
      subst hb; subst e
      exact hn (h.tr _ ha)
    · show (s.2.set u.toNat true).getD _ false = true
      rw [getD_set]
      split
      · rfl
      · rename_i hne
        rcases List.mem_append.1 hx with hx | hx
        · exact h.tr x hx
        · simp only [List.mem_singleton] at hx; subst hx
          exact absurd ⟨rfl, by rw [h.len]; omega⟩ hne
theorem BInv.push {n : Nat} {row : List Int} (hr : ∀ u ∈ row, 0 ≤ u ∧ u < (n : Int)) : ∀ {s : BSt}, BInv n s → BInv n (bpush row s) := by
  induction row with
  | nil => exact fun h => h
  | cons u row ih => exact fun h => ih (fun x hx => hr x (List.mem_cons_of_mem _ hx)) (h.push1 (hr u (List.mem_cons_self ..)))
theorem BInv.step {n : Nat} {rows : Nat → List Int} (hr : ∀ v, v < n → ∀ u ∈ rows v, 0 ≤ u ∧ u < (n : Int)) {k : Nat} {s : BSt} (h : BInv n s) : BInv n (bstep rows k s) := by
  rcases Nat.lt_or_ge k s.1.length with hk | hk
  · rw [bstep_at hk]
    exact h.push (hr _ (by have := h.rng _ (List.getElem_mem hk); omega))
  · rw [bstep_no hk]; exact h
theorem BInv.go {n : Nat} {rows : Nat → List Int} (hr : ∀ v, v < n → ∀ u ∈ rows v, 0 ≤ u ∧ u < (n : Int)) {s : BSt} (h : BInv n s) : ∀ k, BInv n (bgo rows s k)
  | 0 => h
  | k + 1 => (BInv.go hr h k).step hr
/-- What has been gone through is the beginning of the whole. -/
theorem bgo_pre {n : Nat} {rows : Nat → List Int} {s : BSt} {k : Nat} (hk : k ≤ n) : ∃ r, (bgo rows s n).1 = (bgo rows s k).1 ++ r := by
  have := bgo_ext rows s k (n - k)
  rwa [show k + (n - k) = n by omega] at this
theorem bgo_fin {n : Nat} {rows : Nat → List Int} {s : BSt} {k : Nat} (hk : k ≤ n) (h : (bgo rows s k).1.length ≤ k) : bgo rows s n = bgo rows s k := by
  have := bgo_stop h (n - k)
  rwa [show k + (n - k) = n by omega] at this
theorem bgo_get {n : Nat} {rows : Nat → List Int} {s : BSt} {k : Nat} (hk : k ≤ n) (h : k < (bgo rows s k).1.length) : ∃ h' : k < (bgo rows s n).1.length, (bgo rows s n).1[k] = (bgo rows s k).1[k] := by
  obtain ⟨r, hr⟩ := bgo_pre (rows := rows) (s := s) hk
  refine ⟨by rw [hr, List.length_append]; omega, ?_⟩
  simp only [hr]
  exact List.getElem_append_left h
end Go.Proofs.Ytbjiejhdgkpjcaa
