/- A searcher is begun; what is asked of it. -/
import Derived.Test.YtagidegklmgilaaFLoc
import Derived.Test.YtagidegklmgilaaFNbr3
namespace Go.Proofs.Ytagidegklmgilaa
open Go Go.RowKit Fly
set_option linter.unusedVariables false
set_option linter.unusedSimpArgs false


theorem ints_oneC (l : List Int) : (ints l).all (·.oneCell') = true := by
  rw [List.all_eq_true]; intro x hx; obtain ⟨s, _, rfl⟩ := List.mem_map.1 hx; rfl
theorem rep_flatC (n : Nat) (z : Value) : (List.replicate n [z]).flatten = List.replicate n z := by
  induction n with
  | zero => rfl
  | succ n ih => simp only [List.replicate_succ, List.flatten_cons, ih]; rfl
theorem RowsC.start (E : TypeId) (n : Nat) (r : Nat → List Int) : RowsC E n (fun i => if i < 0 then r i else []) (List.replicate n (.slice none 0 0)) (List.replicate n []) :=
  ⟨by simp, by simp, fun i h => ⟨none, 0, by simp [h], by simpa [ints] using Own.nil E 1⟩⟩
theorem RowsC.next {E : TypeId} {n k : Nat} {r : Nat → List Int} {vs : List Value} {ms : List Seg} (h : RowsC E n (fun i => if i < k then r i else []) vs ms) (hk : k < n) {A : Option Addr} {c : Nat} {m : Seg} (ho : Own E 1 (.slice A (r k).length c) (r k).length (ints (r k)) m) :
    RowsC E n (fun i => if i < k + 1 then r i else []) (vs.set k (.slice A (r k).length (r k).length)) (ms.set k m) where
  lv := by rw [List.length_set]; exact h.lv
  lm := by rw [List.length_set]; exact h.lm
  own := fun i hi => by
    by_cases e : k = i
    · subst e
      refine ⟨A, c, ?_, ?_⟩
      · rw [List.getElem?_set_self (by rw [h.lv]; exact hk), if_pos (by omega)]
      · rw [if_pos (by omega), List.getElem_set_self]; exact ho
    · obtain ⟨A', c', h1, h2⟩ := h.own i hi
      refine ⟨A', c', ?_, ?_⟩
      · rw [List.getElem?_set_ne e, h1]
        by_cases hik : i < k
        · rw [if_pos hik, if_pos (by omega)]
        · rw [if_neg hik, if_neg (by omega)]
      · rw [List.getElem_set_ne e]
        by_cases hik : i < k
        · rw [if_pos hik] at h2; rw [if_pos (by omega)]; exact h2
        · rw [if_neg hik] at h2; rw [if_neg (by omega)]; exact h2
theorem RowsC.all {E : TypeId} {n : Nat} {r : Nat → List Int} {vs : List Value} {ms : List Seg} (h : RowsC E n (fun i => if i < n then r i else []) vs ms) : RowsC E n r vs ms :=
  ⟨h.lv, h.lm, fun i hi => by have := h.own i hi; simpa only [if_pos hi] using this⟩
theorem flat_put {ms : List Seg} {k : Nat} (hk : ms[k]? = some []) (m : Seg) : (m ++ ms.flatten).Perm (ms.set k m).flatten := by
  obtain ⟨hlt, he⟩ := List.getElem?_eq_some_iff.1 hk
  have h1 := flat_erase ms k hlt
  rw [he, List.nil_append] at h1
  have h2 := flat_erase (ms.set k m) k (by simpa using hlt)
  rw [List.getElem_set_self, List.eraseIdx_set_eq] at h2
  exact (h1.append_left m).trans h2.symm

set_option maxRecDepth 100000 in
set_option maxHeartbeats 4000000 in
theorem CloneI_spec (A : Option Addr) (len : Nat) (cs : List Value) (cap : Nat) (w : World) (hs : Ro (Fr w []) w A cs) (hn : A = none → len = 0) (hl : cs.length = len * 1) (hone : cs.all (·.oneCell') = true) (hmax : len ≤ 1000000000) :
    Meets Try.prog 30 [.slice A len cap] w [] (fun u own' => ∃ m, own' = [m] ∧ Own 3 1 u len cs m) := by
  refine f_enter Try.func30 rfl Try.ntmps30 rfl Owns.nil ?_
  refine f_seq fun K1 kh1 => ?_
  refine f_region ?_
  refine f_stepP rfl rfl rfl (o_assign rfl) ?_
  refine f_done ?_
  refine f_tn (kh1 _ _ ?_)
  clear kh1
  refine f_seq fun K2 kh2 => ?_
  refine f_seq fun K3 kh3 => ?_
  refine f_region ?_
  refine f_stepP rfl rfl rfl (o_move rfl) ?_
  refine f_stepP rfl rfl rfl (o_eqlSl Try.underlying25 rfl rfl) ?_
  refine f_done ?_
  refine f_tn (kh3 _ _ ?_)
  clear kh3
  refine f_condB rfl (fun c4 => ?_) (fun c4 => ?_)
  · skip
    obtain rfl : A = none := by cases A <;> first | rfl | simp at c4
    obtain rfl : len = 0 := hn rfl
    obtain rfl : cs = [] := List.eq_nil_of_length_eq_zero (by simpa using hl)
    refine f_seq fun K4 kh4 => ?_
    refine f_region ?_
    refine f_stepP rfl rfl rfl (o_assign rfl) ?_
    refine f_done ?_
    refine f_tn (kh4 _ _ ?_)
    clear kh4
    refine f_ret ?_
    refine f_tr ?_
    exact f_fin1 [[]] Try.results30 rfl Sub.empty ⟨[], rfl, Own.nil _ _⟩
  · skip
    refine f_skip ?_
    refine f_tn (kh2 _ _ ?_)
    clear kh2
    refine f_seq fun K5 kh5 => ?_
    refine f_region ?_
    refine f_step rfl rfl rfl (o_slice0 el25 fun b5 => ?_)
    refine f_stepP rfl rfl rfl (o_move rfl) ?_
    refine f_step rfl rfl rfl (o_appendQ el25 rfl rfl (Own.mk (b := b5) (cs := []) (len := 0) rfl (by omega)) (ys := cs) (fun hne => by obtain ⟨b, off, e, hS, hc⟩ := hs hne; exact ⟨b, off, e, Seen.rds fun _ => ⟨hS, hc⟩⟩) hl hone (by omega) (by omega) fun v7 m7 o7 => ?_)
    refine f_stepP rfl rfl rfl (o_assign rfl) ?_
    refine f_done ?_
    refine f_tn (kh5 _ _ ?_)
    clear kh5
    refine f_ret ?_
    exact f_fin1 [m7] Try.results30 rfl (by repeat (first | exact Sub.nil | refine Sub.pick ?_)) ⟨m7, rfl, by simpa using o7⟩

set_option maxRecDepth 100000 in
set_option maxHeartbeats 4000000 in
theorem begin_spec (n : Nat) (A B : Option Addr) (l : List Arc) (cap : Nat) (L : List Int) (cb : Nat) (w : World) (hr : Ro (Fr w []) w A (l.flatMap arcCs)) (hok : ∀ x ∈ l, ArcOk x) (hg : (gcheck (n : Int) l).2 = 0) (hL : Ro (Fr w []) w B (ints L)) (hrt : rightB (n : Int) L = true) :
    Meets Try.prog 21 [.agg #[.int .i64 (n : Int), .slice A l.length cap], .slice B L.length cb] w [] (fun u own' => ∃ bs m, u = .pointer (some ⟨bs, 0, none⟩) ∧ own' = [m] ∧ LRep n (fun v => nbrs (v : Int) l) L (sizesL L) bs m) := by
  obtain ⟨hn1, hn2, hlen, hgd⟩ := gcheck_zero hg
  have hrt2 := hrt
  unfold rightB at hrt2
  simp only [Bool.and_eq_true, decide_eq_true_eq] at hrt2
  have hLn : L.length = n := by omega
  have h0 : 0 < L.length := by omega
  have hp0 := rgo_pos hrt2.1
  have hp1 := rgo_lt hrt2.1
  have hx0 : 0 ≤ maxL L := Int.le_trans (hp0 L[0] (List.getElem_mem h0)) (le_maxL (List.getElem_mem h0))
  have hx1 : maxL L ≤ 1023 := maxL_le h0 fun x hx => by have := hp1 x hx; omega
  obtain ⟨M, hM⟩ : ∃ M : Nat, maxL L + 1 = (M : Int) := ⟨(maxL L + 1).toNat, by omega⟩
  have hN : I64 (n : Int) := by unfold I64; omega
  obtain ⟨bb, ob, rfl, hSb, hcb⟩ := hL (fun e => by have := ints_length L; rw [e] at this; simp at this; omega)
  refine f_enter Try.func21 rfl Try.ntmps21 rfl Owns.nil ?_
  refine f_seq fun K1 kh1 => ?_
  refine f_region ?_
  refine f_step rfl rfl rfl (o_box rfl rfl fun b2 => ?_)
  refine f_stepP rfl rfl rfl (o_assign rfl) ?_
  refine f_done ?_
  refine f_tn (kh1 _ _ ?_)
  clear kh1
  refine f_meet (α := Nat × Nat × Nat × Option Addr × Nat × Seg) [1, 2] (fun ⟨b17, b11, b15, Al8, c8, m8⟩ => [(5, .pointer (some ⟨b17, 0, none⟩))]) (fun ⟨b17, b11, b15, Al8, c8, m8⟩ => [[(b17, blk [.slice Al8 L.length c8, .slice (some ⟨b11, 0, none⟩) n n, .slice (some ⟨b15, 0, none⟩) M M] 63)], m8, [(b11, blk (List.replicate n (.slice none 0 0)) 25)], [(b15, blk (ints (szs M [])) 3)], [(b2, blk [.int .i64 (n : Int), .slice A l.length cap] 24)]]) (fun ⟨b17, b11, b15, Al8, c8, m8⟩ => Own 3 1 (.slice Al8 L.length c8) L.length (ints L) m8) ?_ ?_
  · intro K2 kh2
    refine f_regionH [[(b2, blk [.int .i64 (n : Int), .slice A l.length cap] 24)]] rfl ?_
    refine f_take 0 rfl (by decide +kernel) rfl rfl rfl (by repeat (first | exact Sub.nil | refine Sub.pick ?_ | refine Sub.castO rfl ?_ | refine Sub.skip ?_)) (o_move rfl) ?_
    refine f_take 2 rfl (by decide +kernel) rfl rfl rfl (by repeat (first | exact Sub.nil | refine Sub.pick ?_ | refine Sub.castO rfl ?_ | refine Sub.skip ?_)) (o_field fa24_0 rfl) ?_
    refine f_take 3 rfl (by decide +kernel) rfl rfl rfl (by repeat (first | exact Sub.nil | refine Sub.pick ?_ | refine Sub.castO rfl ?_ | refine Sub.skip ?_)) (o_load Try.isAgg3 rfl (rdA rfl)) ?_
    refine f_take 5 rfl (by decide +kernel) rfl rfl rfl (by repeat (first | exact Sub.nil | refine Sub.pick ?_ | refine Sub.castO rfl ?_ | refine Sub.skip ?_)) (o_move rfl) ?_
    refine f_two 1 4 rfl rfl (by decide +kernel) rfl rfl rfl rfl rfl rfl ?_ ?_
    · skip
      refine (o_call Try.call30 rfl (fun w_ hp_ => CloneI_spec _ L.length (ints L) cb w_ (hL.up0 hp_) (fun e => by cases e) (by rw [ints_length]; omega) (ints_oneC _) (by omega)) ?_)
      rintro v8 _ ⟨m8, rfl, o8⟩
      obtain ⟨Al8, c8, rfl, _⟩ := o8.val
      dsimp only [List.cons_append, List.nil_append]
      refine ⟨(by repeat (first | exact Sub.nil | refine Sub.pick ?_ | refine Sub.castO rfl ?_ | refine Sub.skip ?_)), ?_⟩
      refine f_two 4 6 rfl rfl (by decide +kernel) rfl rfl rfl rfl rfl rfl ?_ ?_
      · skip
        refine (o_make el61 rfl rfl n rfl (by omega) (by omega) (List.replicate n (.slice none 0 0)) (rep_flatC n _) fun b11 => ⟨(by repeat (first | exact Sub.nil | refine Sub.pick ?_ | refine Sub.castO rfl ?_ | refine Sub.skip ?_)), ?_⟩)
        refine f_only 6 rfl (by decide +kernel) rfl rfl rfl (o_call Try.call29 rfl (fun w_ hp_ => Max_spec _ L cb w_ (hL.up0 hp_) h0 (by omega)) ?_)
        rintro _ _ ⟨rfl, rfl⟩
        dsimp only [List.cons_append, List.nil_append]
        refine ⟨(by repeat (first | exact Sub.nil | refine Sub.pick ?_ | refine Sub.castO rfl ?_ | refine Sub.skip ?_)), ?_⟩
        refine f_take 7 rfl (by decide +kernel) rfl rfl rfl (by repeat (first | exact Sub.nil | refine Sub.pick ?_ | refine Sub.castO rfl ?_ | refine Sub.skip ?_)) (o_add rfl rfl _ (show IntKind.i64.wrap (maxL L + 1) = (M : Int) from by rw [wrap_i64 (by omega)]; omega)) ?_
        refine f_only 8 rfl (by decide +kernel) rfl rfl rfl (o_make el25 rfl rfl M rfl (by omega) (by omega) (ints (szs M [])) (by rw [szs_nil]; simp [ints, List.flatten_replicate_singleton]) fun b15 => ⟨(by repeat (first | exact Sub.nil | refine Sub.pick ?_ | refine Sub.castO rfl ?_ | refine Sub.skip ?_)), ?_⟩)
        refine f_take 9 rfl (by decide +kernel) rfl rfl rfl (by repeat (first | exact Sub.nil | refine Sub.pick ?_ | refine Sub.castO rfl ?_ | refine Sub.skip ?_)) (o_build (cs := [.slice Al8 L.length c8, .slice (some ⟨b11, 0, none⟩) n n, .slice (some ⟨b15, 0, none⟩) M M]) st63 rfl rfl) ?_
        refine f_only 10 rfl (by decide +kernel) rfl rfl rfl (o_box rfl rfl fun b17 => ⟨(by repeat (first | exact Sub.nil | refine Sub.pick ?_ | refine Sub.castO rfl ?_ | refine Sub.skip ?_)), ?_⟩)
        refine f_only 11 rfl (by decide +kernel) rfl rfl rfl ((o_assign rfl).does ⟨(by repeat (first | exact Sub.nil | refine Sub.pick ?_ | refine Sub.castO rfl ?_ | refine Sub.skip ?_)), ?_⟩)
        refine f_over (by decide +kernel) ?_
        refine f_tn (kh2 _ _ (b17, b11, b15, Al8, c8, m8) o8 ?_ ?_ ?_)
        · exact (by repeat (first | exact trivial | refine ⟨rfl, ?_⟩))
        · exact (by repeat (first | exact trivial | refine ⟨rfl, ?_⟩))
        · repeat (first | exact Sub.nil | refine Sub.pick ?_ | refine Sub.castO rfl ?_ | refine Sub.skip ?_)
      · skip
        refine (o_call Try.call29 rfl (fun w_ hp_ => Max_spec _ L cb w_ (hL.up0 hp_) h0 (by omega)) ?_)
        rintro _ _ ⟨rfl, rfl⟩
        dsimp only [List.cons_append, List.nil_append]
        refine ⟨(by repeat (first | exact Sub.nil | refine Sub.pick ?_ | refine Sub.castO rfl ?_ | refine Sub.skip ?_)), ?_⟩
        refine f_take 7 rfl (by decide +kernel) rfl rfl rfl (by repeat (first | exact Sub.nil | refine Sub.pick ?_ | refine Sub.castO rfl ?_ | refine Sub.skip ?_)) (o_add rfl rfl _ (show IntKind.i64.wrap (maxL L + 1) = (M : Int) from by rw [wrap_i64 (by omega)]; omega)) ?_
        refine f_two 4 8 rfl rfl (by decide +kernel) rfl rfl rfl rfl rfl rfl ?_ ?_
        · skip
          refine (o_make el61 rfl rfl n rfl (by omega) (by omega) (List.replicate n (.slice none 0 0)) (rep_flatC n _) fun b11 => ⟨(by repeat (first | exact Sub.nil | refine Sub.pick ?_ | refine Sub.castO rfl ?_ | refine Sub.skip ?_)), ?_⟩)
          refine f_only 8 rfl (by decide +kernel) rfl rfl rfl (o_make el25 rfl rfl M rfl (by omega) (by omega) (ints (szs M [])) (by rw [szs_nil]; simp [ints, List.flatten_replicate_singleton]) fun b15 => ⟨(by repeat (first | exact Sub.nil | refine Sub.pick ?_ | refine Sub.castO rfl ?_ | refine Sub.skip ?_)), ?_⟩)
          refine f_take 9 rfl (by decide +kernel) rfl rfl rfl (by repeat (first | exact Sub.nil | refine Sub.pick ?_ | refine Sub.castO rfl ?_ | refine Sub.skip ?_)) (o_build (cs := [.slice Al8 L.length c8, .slice (some ⟨b11, 0, none⟩) n n, .slice (some ⟨b15, 0, none⟩) M M]) st63 rfl rfl) ?_
          refine f_only 10 rfl (by decide +kernel) rfl rfl rfl (o_box rfl rfl fun b17 => ⟨(by repeat (first | exact Sub.nil | refine Sub.pick ?_ | refine Sub.castO rfl ?_ | refine Sub.skip ?_)), ?_⟩)
          refine f_only 11 rfl (by decide +kernel) rfl rfl rfl ((o_assign rfl).does ⟨(by repeat (first | exact Sub.nil | refine Sub.pick ?_ | refine Sub.castO rfl ?_ | refine Sub.skip ?_)), ?_⟩)
          refine f_over (by decide +kernel) ?_
          refine f_tn (kh2 _ _ (b17, b11, b15, Al8, c8, m8) o8 ?_ ?_ ?_)
          · exact (by repeat (first | exact trivial | refine ⟨rfl, ?_⟩))
          · exact (by repeat (first | exact trivial | refine ⟨rfl, ?_⟩))
          · repeat (first | exact Sub.nil | refine Sub.pick ?_ | refine Sub.castO rfl ?_ | refine Sub.skip ?_)
        · skip
          refine (o_make el25 rfl rfl M rfl (by omega) (by omega) (ints (szs M [])) (by rw [szs_nil]; simp [ints, List.flatten_replicate_singleton]) fun b15 => ⟨(by repeat (first | exact Sub.nil | refine Sub.pick ?_ | refine Sub.castO rfl ?_ | refine Sub.skip ?_)), ?_⟩)
          refine f_only 4 rfl (by decide +kernel) rfl rfl rfl (o_make el61 rfl rfl n rfl (by omega) (by omega) (List.replicate n (.slice none 0 0)) (rep_flatC n _) fun b11 => ⟨(by repeat (first | exact Sub.nil | refine Sub.pick ?_ | refine Sub.castO rfl ?_ | refine Sub.skip ?_)), ?_⟩)
          refine f_take 9 rfl (by decide +kernel) rfl rfl rfl (by repeat (first | exact Sub.nil | refine Sub.pick ?_ | refine Sub.castO rfl ?_ | refine Sub.skip ?_)) (o_build (cs := [.slice Al8 L.length c8, .slice (some ⟨b11, 0, none⟩) n n, .slice (some ⟨b15, 0, none⟩) M M]) st63 rfl rfl) ?_
          refine f_only 10 rfl (by decide +kernel) rfl rfl rfl (o_box rfl rfl fun b17 => ⟨(by repeat (first | exact Sub.nil | refine Sub.pick ?_ | refine Sub.castO rfl ?_ | refine Sub.skip ?_)), ?_⟩)
          refine f_only 11 rfl (by decide +kernel) rfl rfl rfl ((o_assign rfl).does ⟨(by repeat (first | exact Sub.nil | refine Sub.pick ?_ | refine Sub.castO rfl ?_ | refine Sub.skip ?_)), ?_⟩)
          refine f_over (by decide +kernel) ?_
          refine f_tn (kh2 _ _ (b17, b11, b15, Al8, c8, m8) o8 ?_ ?_ ?_)
          · exact (by repeat (first | exact trivial | refine ⟨rfl, ?_⟩))
          · exact (by repeat (first | exact trivial | refine ⟨rfl, ?_⟩))
          · repeat (first | exact Sub.nil | refine Sub.pick ?_ | refine Sub.castO rfl ?_ | refine Sub.skip ?_)
    · skip
      refine (o_make el61 rfl rfl n rfl (by omega) (by omega) (List.replicate n (.slice none 0 0)) (rep_flatC n _) fun b11 => ⟨(by repeat (first | exact Sub.nil | refine Sub.pick ?_ | refine Sub.castO rfl ?_ | refine Sub.skip ?_)), ?_⟩)
      refine f_only 1 rfl (by decide +kernel) rfl rfl rfl (o_call Try.call30 rfl (fun w_ hp_ => CloneI_spec _ L.length (ints L) cb w_ (hL.up0 hp_) (fun e => by cases e) (by rw [ints_length]; omega) (ints_oneC _) (by omega)) ?_)
      rintro v8 _ ⟨m8, rfl, o8⟩
      obtain ⟨Al8, c8, rfl, _⟩ := o8.val
      dsimp only [List.cons_append, List.nil_append]
      refine ⟨(by repeat (first | exact Sub.nil | refine Sub.pick ?_ | refine Sub.castO rfl ?_ | refine Sub.skip ?_)), ?_⟩
      refine f_only 6 rfl (by decide +kernel) rfl rfl rfl (o_call Try.call29 rfl (fun w_ hp_ => Max_spec _ L cb w_ (hL.up0 hp_) h0 (by omega)) ?_)
      rintro _ _ ⟨rfl, rfl⟩
      dsimp only [List.cons_append, List.nil_append]
      refine ⟨(by repeat (first | exact Sub.nil | refine Sub.pick ?_ | refine Sub.castO rfl ?_ | refine Sub.skip ?_)), ?_⟩
      refine f_take 7 rfl (by decide +kernel) rfl rfl rfl (by repeat (first | exact Sub.nil | refine Sub.pick ?_ | refine Sub.castO rfl ?_ | refine Sub.skip ?_)) (o_add rfl rfl _ (show IntKind.i64.wrap (maxL L + 1) = (M : Int) from by rw [wrap_i64 (by omega)]; omega)) ?_
      refine f_only 8 rfl (by decide +kernel) rfl rfl rfl (o_make el25 rfl rfl M rfl (by omega) (by omega) (ints (szs M [])) (by rw [szs_nil]; simp [ints, List.flatten_replicate_singleton]) fun b15 => ⟨(by repeat (first | exact Sub.nil | refine Sub.pick ?_ | refine Sub.castO rfl ?_ | refine Sub.skip ?_)), ?_⟩)
      refine f_take 9 rfl (by decide +kernel) rfl rfl rfl (by repeat (first | exact Sub.nil | refine Sub.pick ?_ | refine Sub.castO rfl ?_ | refine Sub.skip ?_)) (o_build (cs := [.slice Al8 L.length c8, .slice (some ⟨b11, 0, none⟩) n n, .slice (some ⟨b15, 0, none⟩) M M]) st63 rfl rfl) ?_
      refine f_only 10 rfl (by decide +kernel) rfl rfl rfl (o_box rfl rfl fun b17 => ⟨(by repeat (first | exact Sub.nil | refine Sub.pick ?_ | refine Sub.castO rfl ?_ | refine Sub.skip ?_)), ?_⟩)
      refine f_only 11 rfl (by decide +kernel) rfl rfl rfl ((o_assign rfl).does ⟨(by repeat (first | exact Sub.nil | refine Sub.pick ?_ | refine Sub.castO rfl ?_ | refine Sub.skip ?_)), ?_⟩)
      refine f_over (by decide +kernel) ?_
      refine f_tn (kh2 _ _ (b17, b11, b15, Al8, c8, m8) o8 ?_ ?_ ?_)
      · exact (by repeat (first | exact trivial | refine ⟨rfl, ?_⟩))
      · exact (by repeat (first | exact trivial | refine ⟨rfl, ?_⟩))
      · repeat (first | exact Sub.nil | refine Sub.pick ?_ | refine Sub.castO rfl ?_ | refine Sub.skip ?_)
  · rintro ⟨b17, b11, b15, Al8, c8, m8⟩ o8
    refine f_seq fun K3 kh3 => ?_
    refine f_seq fun K4 kh4 => ?_
    refine f_region ?_
    refine f_stepP rfl rfl rfl (o_field fa24_0 rfl) ?_
    refine f_stepP rfl rfl rfl (o_load Try.isAgg3 rfl (rdA rfl)) ?_
    refine f_stepP rfl rfl rfl (o_move rfl) ?_
    refine f_done ?_
    refine f_tn (kh4 _ _ ?_)
    clear kh4
    refine f_block ?_
    refine f_loop (α := Nat × List Value × List Seg) [1, 2, 5, 19] (fun ⟨k, vs, ms⟩ => [(20, .int .i64 (k : Int))]) (fun ⟨k, vs, ms⟩ => [[(b17, blk [.slice Al8 L.length c8, .slice (some ⟨b11, 0, none⟩) n n, .slice (some ⟨b15, 0, none⟩) M M] 63)], m8, [(b11, blk vs 25)], ms.flatten, [(b15, blk (ints (szs M (L.take k))) 3)], [(b2, blk [.int .i64 (n : Int), .slice A l.length cap] 24)]]) (fun ⟨k, vs, ms⟩ => k ≤ n ∧ RowsC 3 n (fun i => if i < k then nbrs (i : Int) l else []) vs ms ∧ ∀ i, k ≤ i → i < n → ms[i]? = some []) (fun ⟨k, vs, ms⟩ => n - k) (0, List.replicate n (.slice none 0 0), List.replicate n []) ?_ ?_ ?_ ?_
    · exact (by repeat (first | exact trivial | refine ⟨rfl, ?_⟩))
    · dsimp only
      rw [show (List.replicate n ([] : Seg)).flatten = [] from by simp]
      repeat (first | exact Sub.nil | refine Sub.pick ?_ | refine Sub.castO rfl ?_ | refine Sub.skip ?_)
    · exact ⟨by omega, RowsC.start _ n _, fun i _ hi => by simp [hi]⟩
    · rintro ⟨k, vs, ms⟩ ⟨hkn, hRC, hnil⟩
      refine f_seq fun K5 kh5 => ?_
      refine f_region ?_
      refine f_stepP rfl rfl rfl (o_lss rfl rfl) ?_
      refine f_done ?_
      refine f_tn (kh5 _ _ ?_)
      clear kh5
      refine f_seq fun K6 kh6 => ?_
      refine f_cond rfl (fun c21 => ?_) (fun c21 => ?_)
      · skip
        have hk : k < n := by omega
        have hkL : k < L.length := by omega
        have hz : glooked (n : Int) l (k : Int) = 0 := by unfold glooked; rw [if_neg (by rw [hg]; simp), if_neg (by omega)]
        obtain ⟨y, hy⟩ : ∃ y : Nat, L[k] = (y : Int) := ⟨L[k].toNat, by have := hp0 _ (List.getElem_mem hkL); omega⟩
        have hyM : y < M := by have := le_maxL (List.getElem_mem hkL); omega
        have hcl := cnt_le (L.take k) y
        rw [List.length_take] at hcl
        refine f_skip ?_
        refine f_tn (kh6 _ _ ?_)
        clear kh6
        refine f_seq fun K7 kh7 => ?_
        refine f_block ?_
        refine f_seq fun K8 kh8 => ?_
        refine f_region ?_
        refine f_stepP rfl rfl rfl (o_move rfl) ?_
        refine f_stepP rfl rfl rfl (o_assign rfl) ?_
        refine f_done ?_
        refine f_tn (kh8 _ _ ?_)
        clear kh8
        refine f_seq fun K9 kh9 => ?_
        refine f_regionH [[(b17, blk [.slice Al8 L.length c8, .slice (some ⟨b11, 0, none⟩) n n, .slice (some ⟨b15, 0, none⟩) M M] 63)], [(b2, blk [.int .i64 (n : Int), .slice A l.length cap] 24)]] rfl ?_
        refine f_take 0 rfl (by decide +kernel) rfl rfl rfl (by repeat (first | exact Sub.nil | refine Sub.pick ?_ | refine Sub.castO rfl ?_ | refine Sub.skip ?_)) (o_move rfl) ?_
        refine f_take 1 rfl (by decide +kernel) rfl rfl rfl (by repeat (first | exact Sub.nil | refine Sub.pick ?_ | refine Sub.castO rfl ?_ | refine Sub.skip ?_)) (o_nil rfl) ?_
        refine f_take 2 rfl (by decide +kernel) rfl rfl rfl (by repeat (first | exact Sub.nil | refine Sub.pick ?_ | refine Sub.castO rfl ?_ | refine Sub.skip ?_)) (o_field fa63_1 rfl) ?_
        refine f_take 3 rfl (by decide +kernel) rfl rfl rfl (by repeat (first | exact Sub.nil | refine Sub.pick ?_ | refine Sub.castO rfl ?_ | refine Sub.skip ?_)) (o_load Try.isAgg61 rfl (rdA rfl)) ?_
        refine f_take 4 rfl (by decide +kernel) rfl rfl rfl (by repeat (first | exact Sub.nil | refine Sub.pick ?_ | refine Sub.castO rfl ?_ | refine Sub.skip ?_)) (o_move rfl) ?_
        refine f_take 5 rfl (by decide +kernel) rfl rfl rfl (by repeat (first | exact Sub.nil | refine Sub.pick ?_ | refine Sub.castO rfl ?_ | refine Sub.skip ?_)) (o_loadA (vs := [.int .i64 (n : Int), .slice A l.length cap]) Try.isAgg24 Try.sizeOf24 rfl rfl ⟨(rdA rfl), (rdA rfl), trivial⟩) ?_
        refine f_take 6 rfl (by decide +kernel) rfl rfl rfl (by repeat (first | exact Sub.nil | refine Sub.pick ?_ | refine Sub.castO rfl ?_ | refine Sub.skip ?_)) (o_move rfl) ?_
        refine f_only 7 rfl (by decide +kernel) rfl rfl rfl (o_call Try.call31 rfl (fun w_ hp_ => Neighbours_spec (n : Int) A l cap (k : Int) w_ (hr.up0 hp_) (by omega) hN hok) ?_)
        rintro _ _ ⟨Ar, W, cr, m31, rfl, rfl, hor, hW⟩
        rw [if_pos hz] at hW
        subst hW
        dsimp only [List.cons_append, List.nil_append]
        refine ⟨(by repeat (first | exact Sub.nil | refine Sub.pick ?_ | refine Sub.castO rfl ?_ | refine Sub.skip ?_)), ?_⟩
        refine f_take 8 rfl (by decide +kernel) rfl rfl rfl (by repeat (first | exact Sub.nil | refine Sub.pick ?_ | refine Sub.castO rfl ?_ | refine Sub.skip ?_)) (o_move rfl) ?_
        refine f_take 9 rfl (by decide +kernel) rfl rfl rfl (by repeat (first | exact Sub.nil | refine Sub.pick ?_ | refine Sub.castO rfl ?_ | refine Sub.skip ?_)) (o_extract rfl rfl) ?_
        refine f_take 10 rfl (by decide +kernel) rfl rfl rfl (by repeat (first | exact Sub.nil | refine Sub.pick ?_ | refine Sub.castO rfl ?_ | refine Sub.skip ?_)) (o_extract rfl rfl) ?_
        refine f_take 11 rfl (by decide +kernel) rfl rfl rfl (by repeat (first | exact Sub.nil | refine Sub.pick ?_ | refine Sub.castO rfl ?_ | refine Sub.skip ?_)) (o_idx sl61 rfl rfl (k) ⟨by omega, by omega, by first | omega | (simp; done) | (simp; omega)⟩) ?_
        refine f_only0 12 rfl (by decide +kernel) rfl rfl (o_store Try.sizeOf25 rfl rfl rfl rfl (by rw [hRC.lv]; omega) (vs.set k (.slice Ar (nbrs (k : Int) l).length (nbrs (k : Int) l).length)) rfl ⟨(by repeat (first | exact Sub.nil | refine Sub.pick ?_ | refine Sub.castO rfl ?_ | refine Sub.skip ?_)), ?_⟩)
        refine f_over (by decide +kernel) ?_
        refine f_tn (kh9 _ _ ?_)
        clear kh9
        refine f_regionH [[(b17, blk [.slice Al8 L.length c8, .slice (some ⟨b11, 0, none⟩) n n, .slice (some ⟨b15, 0, none⟩) M M] 63)]] rfl ?_
        refine f_take 0 rfl (by decide +kernel) rfl rfl rfl (by repeat (first | exact Sub.nil | refine Sub.pick ?_ | refine Sub.castO rfl ?_ | refine Sub.skip ?_)) (o_move rfl) ?_
        refine f_take 1 rfl (by decide +kernel) rfl rfl rfl (by repeat (first | exact Sub.nil | refine Sub.pick ?_ | refine Sub.castO rfl ?_ | refine Sub.skip ?_)) (o_nil rfl) ?_
        refine f_take 2 rfl (by decide +kernel) rfl rfl rfl (by repeat (first | exact Sub.nil | refine Sub.pick ?_ | refine Sub.castO rfl ?_ | refine Sub.skip ?_)) (o_field fa63_2 rfl) ?_
        refine f_take 3 rfl (by decide +kernel) rfl rfl rfl (by repeat (first | exact Sub.nil | refine Sub.pick ?_ | refine Sub.castO rfl ?_ | refine Sub.skip ?_)) (o_load Try.isAgg25 rfl (rdA rfl)) ?_
        refine f_take 4 rfl (by decide +kernel) rfl rfl rfl (by repeat (first | exact Sub.nil | refine Sub.pick ?_ | refine Sub.castO rfl ?_ | refine Sub.skip ?_)) (o_move rfl) ?_
        refine f_take 5 rfl (by decide +kernel) rfl rfl rfl (by repeat (first | exact Sub.nil | refine Sub.pick ?_ | refine Sub.castO rfl ?_ | refine Sub.skip ?_)) (o_move rfl) ?_
        refine f_take 6 rfl (by decide +kernel) rfl rfl rfl (by repeat (first | exact Sub.nil | refine Sub.pick ?_ | refine Sub.castO rfl ?_ | refine Sub.skip ?_)) (o_idx sl25 rfl rfl (ob + k) ⟨by omega, by omega, by first | omega | (simp; done) | (simp; omega)⟩) ?_
        refine f_take 7 rfl (by decide +kernel) rfl rfl rfl (by repeat (first | exact Sub.nil | refine Sub.pick ?_ | refine Sub.castO rfl ?_ | refine Sub.skip ?_)) (o_load Try.isAgg3 rfl (show Rd _ _ _ _ _ (.int .i64 (y : Int)) by rw [← hy]; exact roOne (enc := (.int .i64 ·)) hSb hcb hkL)) ?_
        refine f_take 8 rfl (by decide +kernel) rfl rfl rfl (by repeat (first | exact Sub.nil | refine Sub.pick ?_ | refine Sub.castO rfl ?_ | refine Sub.skip ?_)) (o_idx sl25 rfl rfl (y) ⟨by omega, by omega, by first | omega | (simp; done) | (simp; omega)⟩) ?_
        refine f_only 9 rfl (by decide +kernel) rfl rfl rfl ((o_load Try.isAgg3 rfl (rdA (v := .int .i64 (cnt (L.take k) y : Int)) (by rw [ints_get (by rw [szs_len]; exact hyM), szs_get hyM]))).does ⟨(by repeat (first | exact Sub.nil | refine Sub.pick ?_ | refine Sub.castO rfl ?_ | refine Sub.skip ?_)), ?_⟩)
        refine f_take 10 rfl (by decide +kernel) rfl rfl rfl (by repeat (first | exact Sub.nil | refine Sub.pick ?_ | refine Sub.castO rfl ?_ | refine Sub.skip ?_)) (o_add rfl rfl _ (wrap_i64 (by omega))) ?_
        refine f_take 11 rfl (by decide +kernel) rfl rfl rfl (by repeat (first | exact Sub.nil | refine Sub.pick ?_ | refine Sub.castO rfl ?_ | refine Sub.skip ?_)) (o_idx sl25 rfl rfl (y) ⟨by omega, by omega, by first | omega | (simp; done) | (simp; omega)⟩) ?_
        refine f_only0 12 rfl (by decide +kernel) rfl rfl (o_store Try.sizeOf3 rfl rfl rfl rfl (by rw [ints_length, szs_len]; omega) (ints (szs M (L.take (k + 1)))) (by rw [szs_next hkL hy hyM]; simp [ints]) ⟨(by repeat (first | exact Sub.nil | refine Sub.pick ?_ | refine Sub.castO rfl ?_ | refine Sub.skip ?_)), ?_⟩)
        refine f_over (by decide +kernel) ?_
        refine f_bn ?_
        refine f_tn (kh7 _ _ ?_)
        clear kh7
        refine f_region ?_
        refine f_stepP rfl rfl rfl (o_add rfl rfl _ (wrap_i64 (by omega))) ?_
        refine f_stepP rfl rfl rfl (o_move rfl) ?_
        refine f_done ?_
        refine f_subQ (Sub.joinF (m := m31) (G' := ms.flatten) (flat_put (hnil k (Nat.le_refl _) hk) m31)) ?_
        refine f_tn (f_again (k + 1, vs.set k (.slice Ar (nbrs (k : Int) l).length (nbrs (k : Int) l).length), ms.set k m31) (by first | omega | (dsimp only; omega) | (simp; omega)) ⟨by omega, hRC.next (r := fun i => nbrs (i : Int) l) hk hor, fun i h1 h2 => by rw [List.getElem?_set_ne (by omega)]; exact hnil i (by omega) h2⟩ ?_ ?_ ?_)
        · exact (by repeat (first | exact trivial | refine ⟨rfl, ?_⟩))
        · exact (by repeat (first | exact trivial | refine ⟨rfl, ?_⟩))
        · repeat (first | exact Sub.nil | refine Sub.pick ?_ | refine Sub.castO rfl ?_ | refine Sub.skip ?_)
      · skip
        refine f_exit ?_
        refine f_te ?_
        clear kh6
        refine f_te ?_
        refine f_be ?_
        refine f_tn (kh3 _ _ ?_)
        clear kh3
        refine f_seq fun K10 kh10 => ?_
        refine f_region ?_
        refine f_stepP rfl rfl rfl (o_move rfl) ?_
        refine f_stepP rfl rfl rfl (o_assign rfl) ?_
        refine f_done ?_
        refine f_tn (kh10 _ _ ?_)
        clear kh10
        refine f_ret ?_
        obtain rfl : k = n := by omega
        dsimp only
        rw [List.take_of_length_le (by omega)]
        exact f_fin1 [(lsegs b17 Al8 c8 L m8 b11 k vs ms.flatten b15 (szs M L)).flatten] Try.results21 rfl (Sub.flat (by unfold lsegs; rw [szs_len]; repeat (first | exact Sub.nil | refine Sub.pick ?_))) ⟨b17, _, rfl, rfl, by rw [sizesL, show (maxL L + 1).toNat = M by omega]; exact ⟨Al8, c8, m8, b11, vs, ms, b15, List.Perm.refl _, o8, hRC.all⟩⟩

end Go.Proofs.Ytagidegklmgilaa
