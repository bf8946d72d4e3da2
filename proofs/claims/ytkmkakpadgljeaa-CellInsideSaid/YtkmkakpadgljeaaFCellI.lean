/- flyoverlaw12.CellInside. -/
import Derived.Test.YtkmkakpadgljeaaFCellT
import Derived.Test.YtkmkakpadgljeaaFNestH
namespace Go.Proofs.Ytkmkakpadgljeaa
open Go Go.RowKit Fly
set_option linter.unusedVariables false
set_option linter.unusedSimpArgs false


theorem countP_addC {α : Type} {p q r : α → Bool} : ∀ {l : List α}, (∀ a ∈ l, r a = (p a || q a)) → (∀ a ∈ l, p a = true → q a = false) → l.countP r = l.countP p + l.countP q
  | [], _, _ => rfl
  | a :: l, h, hd => by
    have ih := countP_addC (p := p) (q := q) (r := r) (l := l) (fun b hb => h b (List.mem_cons_of_mem _ hb)) (fun b hb => hd b (List.mem_cons_of_mem _ hb))
    have h1 := h a (List.mem_cons_self ..)
    have h2 := hd a (List.mem_cons_self ..)
    rw [List.countP_cons, List.countP_cons, List.countP_cons, ih, h1]
    cases hp : p a
    · cases hq : q a <;> simp <;> omega
    · rw [h2 hp]; simp; omega
theorem countP_eqC {α : Type} {p q : α → Bool} {l : List α} (h : ∀ a ∈ l, p a = q a) : l.countP p = l.countP q := by
  have := countP_addC (p := p) (q := fun _ => false) (r := q) (l := l) (fun a ha => by rw [h a ha]; simp) (fun _ _ _ => rfl)
  rw [this]; simp
/-- Arcs between cells, or inside of one of the first. -/
def prP (L : List Int) (c : Nat) (a : Arc) : Bool := unP L a || (decide (L.getD a.src.toNat 0 = L.getD a.dst.toNat 0) && decide (L.getD a.src.toNat 0 < (c : Int)))
theorem prP_zero {L : List Int} {l : List Arc} (h : ∀ a ∈ l, 0 ≤ L.getD a.src.toNat 0) : l.countP (prP L 0) = (idxs (unP L) l).length := by
  rw [idxs_length]
  refine countP_eqC fun a ha => ?_
  have := h a ha
  unfold prP
  rw [decide_eq_false (p := L.getD a.src.toNat 0 < ((0 : Nat) : Int)) (by omega)]; simp
theorem prP_next {L : List Int} {l : List Arc} {c : Nat} : l.countP (prP L (c + 1)) = l.countP (prP L c) + (idxs (inP L (c : Int)) l).length := by
  rw [idxs_length]
  refine countP_addC (fun a _ => ?_) fun a _ h => ?_
  · unfold prP inP unP
    rw [Bool.eq_iff_iff]
    simp only [Bool.or_eq_true, Bool.and_eq_true, decide_eq_true_eq]
    constructor
    · rintro (h | ⟨h1, h2⟩)
      · exact .inl (.inl h)
      · by_cases e : L.getD a.src.toNat 0 = (c : Int)
        · exact .inr ⟨e, by omega⟩
        · exact .inl (.inr ⟨h1, by omega⟩)
    · rintro ((h | ⟨h1, h2⟩) | ⟨h1, h2⟩)
      · exact .inl h
      · exact .inr ⟨h1, by omega⟩
      · exact .inr ⟨by omega, by omega⟩
  · unfold prP unP at h
    unfold inP
    simp only [Bool.or_eq_true, Bool.and_eq_true, decide_eq_true_eq] at h
    rw [Bool.and_eq_false_iff, decide_eq_false_iff_not, decide_eq_false_iff_not]
    by_cases e : L.getD a.src.toNat 0 = (c : Int)
    · right; intro e2
      rcases h with h | ⟨h1, h2⟩
      · exact h (by omega)
      · omega
    · exact .inl e
theorem prP_all {L : List Int} {l : List Arc} {m : Nat} (h : ∀ a ∈ l, L.getD a.src.toNat 0 < (m : Int)) : l.countP (prP L m) = l.length := by
  rw [List.countP_eq_length]
  intro a ha
  have := h a ha
  unfold prP unP
  by_cases e : L.getD a.src.toNat 0 = L.getD a.dst.toNat 0
  · rw [decide_eq_true e, decide_eq_true this]; simp
  · rw [decide_eq_true (show L.getD a.src.toNat 0 ≠ L.getD a.dst.toNat 0 from e)]; simp
/-- Arcs between children, or inside of one of some. -/
def chP (L B : List Int) (c : Int) (X : List Int) (a : Arc) : Bool := btP L B c a || (decide (B.getD a.src.toNat 0 = B.getD a.dst.toNat 0) && decide (B.getD a.src.toNat 0 ∈ X))
theorem chP_zero (L B : List Int) (c : Int) (l : List Arc) : l.countP (chP L B c []) = (idxs (btP L B c) l).length := by
  rw [idxs_length]
  exact countP_eqC fun a _ => by unfold chP; simp
theorem chP_next {L B : List Int} {c : Int} {X : List Int} {j : Nat} {l : List Arc} (hj : j < X.length) (hx : X[j] ∉ X.take j) : l.countP (chP L B c (X.take (j + 1))) = l.countP (chP L B c (X.take j)) + (idxs (inP B X[j]) l).length := by
  rw [idxs_length]
  refine countP_addC (fun a _ => ?_) fun a _ h => ?_
  · unfold chP inP
    rw [Bool.eq_iff_iff]
    simp only [Bool.or_eq_true, Bool.and_eq_true, decide_eq_true_eq, List.take_succ_eq_append_getElem hj, List.mem_append, List.mem_singleton]
    constructor
    · rintro (h | ⟨h1, h2 | h2⟩)
      · exact .inl (.inl h)
      · exact .inl (.inr ⟨h1, h2⟩)
      · exact .inr ⟨h2, by omega⟩
    · rintro ((h | ⟨h1, h2⟩) | ⟨h1, h2⟩)
      · exact .inl h
      · exact .inr ⟨h1, .inl h2⟩
      · exact .inr ⟨by omega, .inr h1⟩
  · unfold chP btP unP at h
    unfold inP
    simp only [Bool.or_eq_true, Bool.and_eq_true, decide_eq_true_eq] at h
    rw [Bool.and_eq_false_iff, decide_eq_false_iff_not, decide_eq_false_iff_not]
    by_cases e : B.getD a.src.toNat 0 = X[j]
    · right; intro e2
      rcases h with ⟨_, h⟩ | ⟨h1, h2⟩
      · exact h (by omega)
      · exact hx (by rw [← e]; exact h2)
    · exact .inl e
theorem chP_all {L B : List Int} {c : Int} {X : List Int} {l : List Arc} (h : ∀ a ∈ l, B.getD a.src.toNat 0 ∈ X ↔ L.getD a.src.toNat 0 = c) (hw : ∀ a ∈ l, B.getD a.src.toNat 0 = B.getD a.dst.toNat 0 → L.getD a.src.toNat 0 = L.getD a.dst.toNat 0) : l.countP (chP L B c X) = (idxs (inP L c) l).length := by
  rw [idxs_length]
  refine countP_eqC fun a ha => ?_
  have h1 := h a ha
  have h2 := hw a ha
  unfold chP btP inP unP
  rw [Bool.eq_iff_iff]
  simp only [Bool.or_eq_true, Bool.and_eq_true, decide_eq_true_eq]
  constructor
  · rintro (⟨h, _⟩ | ⟨h3, h4⟩)
    · exact h
    · have := h1.1 h4
      exact ⟨this, by rw [← h2 h3]; exact this⟩
  · rintro ⟨h3, h4⟩
    by_cases e : B.getD a.src.toNat 0 = B.getD a.dst.toNat 0
    · exact .inr ⟨e, h1.2 h3⟩
    · exact .inl ⟨⟨h3, h4⟩, e⟩

set_option maxRecDepth 100000 in
set_option maxHeartbeats 4000000 in
theorem CellInside_spec (N : Int) (A : Option Addr) (l : List Arc) (cap : Nat) (Ab : Option Addr) (bs : List Int) (cb : Nat) (Ac : Option Addr) (R : List Row) (cc : Nat) (w : World) (hr : Ro (Fr w []) w A (l.flatMap arcCs)) (hl : l.length ≤ 9223372036854775807) (hN : I64 N) (hok : ∀ x ∈ l, ArcOk x) (hn : NestRo (Fr w []) w Ab bs Ac R) :
    Meets Try.prog 5 [.agg #[.int .i64 N, .slice A l.length cap], .agg #[.slice Ab bs.length cb, .slice Ac R.length cc]] w [] (fun u m => u = .bool true ∧ m = []) := by
 refine f_enter Try.func5 rfl Try.ntmps5 rfl Owns.nil ?_
 refine f_seq fun K1 kh1 => ?_
 refine f_region ?_
 refine f_step rfl rfl rfl (o_box rfl rfl fun b2 => ?_)
 refine f_step rfl rfl rfl (o_box rfl rfl fun b3 => ?_)
 refine f_stepP rfl rfl rfl (o_assign rfl) ?_
 refine f_done ?_
 refine f_tn (kh1 _ _ ?_)
 clear kh1
 refine f_seq fun K2 kh2 => ?_
 refine f_seq fun K3 kh3 => ?_
 refine f_region ?_
 refine f_step rfl rfl rfl (o_call Try.call7 rfl (fun w_ hp_ => works_spec w_) ?_)
 rintro _ _ ⟨rfl, rfl⟩
 dsimp only [List.cons_append, List.nil_append]
 refine f_stepP rfl rfl rfl (o_not rfl) ?_
 refine f_done ?_
 refine f_tn (kh3 _ _ ?_)
 clear kh3
 refine f_condF rfl ?_
 refine f_skip ?_
 refine f_tn (kh2 _ _ ?_)
 clear kh2
 refine f_seq fun K4 kh4 => ?_
 refine f_seq fun K5 kh5 => ?_
 refine f_region ?_
 refine f_stepP rfl rfl rfl (o_loadA (vs := [_, _]) Try.isAgg24 Try.sizeOf24 rfl rfl ⟨(rdA rfl), (rdA rfl), trivial⟩) ?_
 refine f_step rfl rfl rfl (o_call Try.call8 rfl (fun w_ hp_ => large_spec N A l cap w_ (hr.up0 hp_) hl hN hok) ?_)
 rintro _ _ ⟨bL, rfl, rfl⟩
 dsimp only [List.cons_append, List.nil_append]
 refine f_done ?_
 refine f_tn (kh5 _ _ ?_)
 clear kh5
 refine f_condB rfl (fun c27 => ?_) (fun c27 => ?_)
 ·
  refine f_seq fun K6 kh6 => ?_
  refine f_region ?_
  refine f_stepP rfl rfl rfl (o_assign rfl) ?_
  refine f_done ?_
  refine f_tn (kh6 _ _ ?_)
  clear kh6
  refine f_ret ?_
  refine f_tr ?_
  exact f_fin1 [] Try.results5 rfl Sub.nil ⟨rfl, rfl⟩
 ·
  refine f_skip ?_
  refine f_tn (kh4 _ _ ?_)
  clear kh4
  refine f_seq fun K7 kh7 => ?_
  refine f_seq fun K8 kh8 => ?_
  refine f_region ?_
  refine f_stepP rfl rfl rfl (o_assign rfl) ?_
  refine f_done ?_
  refine f_tn (kh8 _ _ ?_)
  clear kh8
  refine f_block ?_
  refine f_loop (α := Nat) [2, 3] (fun k => [(5, .int .i64 ((k : Int) + 1))]) (fun k => [[(b2, blk [.int .i64 N, .slice A l.length cap] 24)], [(b3, blk [.slice Ab bs.length cb, .slice Ac R.length cc] 28)]]) (fun k => k ≤ bs.length) (fun k => bs.length - k) (0) ?_ ?_ ?_ ?_
  · exact (by repeat (first | exact trivial | refine ⟨rfl, ?_⟩))
  · repeat (first | exact Sub.nil | refine Sub.pick ?_ | refine Sub.castO rfl ?_ | refine Sub.skip ?_)
  · exact Nat.zero_le _
  ·
   rintro k hkl
   refine f_seq fun K9 kh9 => ?_
   refine f_seq fun K10 kh10 => ?_
   refine f_region ?_
   refine f_stepP rfl rfl rfl (o_move rfl) ?_
   refine f_stepP rfl rfl rfl (o_field fa28_0 rfl) ?_
   refine f_stepP rfl rfl rfl (o_load Try.isAgg25 rfl (rdA rfl)) ?_
   refine f_stepP rfl rfl rfl (o_len sl25 rfl) ?_
   refine f_stepP rfl rfl rfl (o_leq rfl rfl) ?_
   refine f_done ?_
   refine f_tn (kh10 _ _ ?_)
   clear kh10
   refine f_cond rfl (fun c32 => ?_) (fun c32 => ?_)
   ·
    refine f_skip ?_
    refine f_tn (kh9 _ _ ?_)
    clear kh9
    refine f_seq fun K11 kh11 => ?_
    refine f_block ?_
    refine f_seq fun K12 kh12 => ?_
    refine f_region ?_
    refine f_stepP rfl rfl rfl (o_loadA (vs := [_, _]) Try.isAgg24 Try.sizeOf24 rfl rfl ⟨(rdA rfl), (rdA rfl), trivial⟩) ?_
    refine f_stepP rfl rfl rfl (o_loadA (vs := [_, _]) Try.isAgg28 Try.sizeOf28 rfl rfl ⟨(rdA rfl), (rdA rfl), trivial⟩) ?_
    refine f_stepP rfl rfl rfl (o_move rfl) ?_
    refine f_step rfl rfl rfl (o_call Try.call10 rfl (fun w_ hp_ => NMany_spec N A l cap Ab bs cb Ac R cc ((k : Int) + 1) w_ (hr.up0 hp_) hl hN hok (hn.up0 hp_)) ?_)
    rintro _ _ ⟨rfl, rfl⟩
    dsimp only [List.cons_append, List.nil_append]
    refine f_stepP rfl rfl rfl (o_move rfl) ?_
    refine f_stepP rfl rfl rfl (o_extract rfl rfl) ?_
    refine f_stepP rfl rfl rfl (o_extract rfl rfl) ?_
    refine f_stepP rfl rfl rfl (o_assign rfl) ?_
    refine f_stepP rfl rfl rfl (o_assign rfl) ?_
    refine f_done ?_
    refine f_tn (kh12 _ _ ?_)
    clear kh12
    refine f_seq fun K13 kh13 => ?_
    refine f_region ?_
    refine f_stepP rfl rfl rfl (o_loadA (vs := [_, _]) Try.isAgg24 Try.sizeOf24 rfl rfl ⟨(rdA rfl), (rdA rfl), trivial⟩) ?_
    refine f_stepP rfl rfl rfl (o_loadA (vs := [_, _]) Try.isAgg28 Try.sizeOf28 rfl rfl ⟨(rdA rfl), (rdA rfl), trivial⟩) ?_
    refine f_stepP rfl rfl rfl (o_move rfl) ?_
    refine f_step rfl rfl rfl (o_call Try.call9 rfl (fun w_ hp_ => COuter_spec N A l cap Ab bs cb Ac R cc ((k : Int) + 1) w_ (hr.up0 hp_) hl hN hok (hn.up0 hp_)) ?_)
    rintro _ _ ⟨O_, AO, cO, mO, rfl, rfl, hoO, _, hO0⟩
    dsimp only [List.cons_append, List.nil_append]
    refine f_stepP rfl rfl rfl (o_move rfl) ?_
    refine f_stepP rfl rfl rfl (o_extract rfl rfl) ?_
    refine f_stepP rfl rfl rfl (o_extract rfl rfl) ?_
    refine f_stepP rfl rfl rfl (o_assign rfl) ?_
    refine f_stepP rfl rfl rfl (o_assign rfl) ?_
    refine f_done ?_
    refine f_tn (kh13 _ _ ?_)
    clear kh13
    refine f_seq fun K14 kh14 => ?_
    refine f_seq fun K15 kh15 => ?_
    refine f_region ?_
    refine f_stepP rfl rfl rfl (o_move rfl) ?_
    refine f_stepP rfl rfl rfl (o_neq rfl rfl) ?_
    refine f_stepP rfl rfl rfl (o_move rfl) ?_
    refine f_splitL 51 rfl (fun g51 => ?_) (fun g51 => ?_)
    ·
     refine f_stepN rfl rfl rfl rfl rfl rfl ?_
     refine f_stepN rfl rfl rfl rfl rfl rfl ?_
     refine f_stepP rfl rfl rfl (o_pickT rfl rfl) ?_
     refine f_done ?_
     refine f_tn (kh15 _ _ ?_)
     clear kh15
     refine f_condT rfl ?_
     refine f_seq fun K16 kh16 => ?_
     refine f_region ?_
     refine f_stepP rfl rfl rfl (o_move rfl) ?_
     refine f_stepP rfl rfl rfl (o_move rfl) ?_
     refine f_stepP rfl rfl rfl (o_eql rfl rfl) ?_
     refine f_stepP rfl rfl rfl (o_assign rfl) ?_
     refine f_done ?_
     refine f_tn (kh16 _ _ ?_)
     clear kh16
     refine f_ret ?_
     refine f_tr ?_
     refine f_br ?_
     refine f_tr ?_
     refine f_tr ?_
     refine f_br ?_
     refine f_tr ?_
     have hlz : lkE N l bs (rowsL R) ((k : Int) + 1) ≠ 0 := by simpa using g51
     exact f_fin1 [] Try.results5 rfl Sub.nil ⟨by simp, rfl⟩
    ·
     have hlz : lkE N l bs (rowsL R) ((k : Int) + 1) = 0 := by simpa using g51
     obtain ⟨n, k', rfl, hNo, hqk, hkb⟩ := lkE_zero hlz
     obtain rfl : k = k' := by omega
     obtain ⟨hn1, hn2, hlen, hgd⟩ := gcheck_zero hNo.g
     have hmany := hNo.many
     have hk : k < bs.length := by omega
     have hlenk := hNo.rowlen hk
     have hRk := hNo.right hk
     have hrng := right_range hRk (by omega)
     obtain ⟨m, hm⟩ : ∃ m : Nat, maxL ((rowsL R).getD k []) + 1 = (m : Int) := ⟨(maxL ((rowsL R).getD k []) + 1).toNat, by have := hrng _ (List.getElem_mem (show 0 < ((rowsL R).getD k []).length by omega)); have := le_maxL (List.getElem_mem (show 0 < ((rowsL R).getD k []).length by omega)); omega⟩
     have hmn : m ≤ n := by have := (hrng _ (List.getElem_mem (show 0 < ((rowsL R).getD k []).length by omega))).2.2; omega
     have hO1 := hO0 hlz
     rw [show ((k : Int) + 1).toNat - 1 = k by omega] at hO1
     obtain rfl := hO1
     have hOl := idxs_len_leC (unP ((rowsL R).getD k [])) l
     have hlab := fun v (hv : v < n) => row_lab hNo hk (v := v) hv
     have hsrc : ∀ a ∈ l, a.src.toNat < n ∧ a.dst.toNat < n := fun a ha => by
       obtain ⟨i, hi, rfl⟩ := List.mem_iff_getElem.1 ha
       have := hgd i hi
       omega
     refine f_stepPY rfl rfl rfl rfl rfl (o_move rfl) ?_
     refine f_stepPY rfl rfl rfl rfl rfl (o_neq rfl rfl) ?_
     refine f_stepP rfl rfl rfl (o_pickF rfl rfl) ?_
     refine f_done ?_
     refine f_tn (kh15 _ _ ?_)
     clear kh15
     refine f_condN rfl (by simpa using hlz) ?_
     refine f_skip ?_
     refine f_tn (kh14 _ _ ?_)
     clear kh14
     refine f_seq fun K17 kh17 => ?_
     refine f_region ?_
     refine f_stepP rfl rfl rfl (o_move rfl) ?_
     refine f_stepP rfl rfl rfl (o_len sl25 rfl) ?_
     refine f_stepP rfl rfl rfl (o_assign rfl) ?_
     refine f_done ?_
     refine f_tn (kh17 _ _ ?_)
     clear kh17
     refine f_seq fun K18 kh18 => ?_
     refine f_seq fun K19 kh19 => ?_
     refine f_region ?_
     refine f_reL 6 rfl (v := .int .i64 (m : Int)) (by rw [if_neg (by rw [hlz]; simp), show ((k : Int) + 1).toNat - 1 = k by omega, hm]) ?_
     refine f_stepP rfl rfl rfl (o_move rfl) ?_
     refine f_stepP rfl rfl rfl (o_move rfl) ?_
     refine f_done ?_
     refine f_tn (kh19 _ _ ?_)
     clear kh19
     refine f_block ?_
     refine f_loop (α := Nat × Nat) [2, 3, 5, 60] (fun ⟨c, s⟩ => [(61, .int .i64 (c : Int)), (10, .int .i64 (s : Int))]) (fun ⟨c, s⟩ => [[(b2, blk [.int .i64 (n : Int), .slice A l.length cap] 24)], [(b3, blk [.slice Ab bs.length cb, .slice Ac R.length cc] 28)]]) (fun ⟨c, s⟩ => c ≤ m ∧ s = l.countP (prP ((rowsL R).getD k []) c)) (fun ⟨c, s⟩ => m - c) (0, (idxs (unP ((rowsL R).getD k [])) l).length) ?_ ?_ ?_ ?_
     · exact (by repeat (first | exact trivial | refine ⟨rfl, ?_⟩))
     · repeat (first | exact Sub.nil | refine Sub.pick ?_ | refine Sub.castO rfl ?_ | refine Sub.skip ?_)
     · exact ⟨Nat.zero_le _, (prP_zero fun a ha => (hlab a.src.toNat (hsrc a ha).1).1).symm⟩
     ·
      rintro ⟨c, s⟩ ⟨hcm0, hs⟩
      refine f_envC (e := [(61, _), (10, _), (2, _), (3, _), (5, _), (60, _)]) (by repeat (first | exact trivial | refine ⟨rfl, ?_⟩)) ?_
      refine f_seq fun K20 kh20 => ?_
      refine f_region ?_
      refine f_stepP rfl rfl rfl (o_lss rfl rfl) ?_
      refine f_done ?_
      refine f_tn (kh20 _ _ ?_)
      clear kh20
      refine f_seq fun K21 kh21 => ?_
      refine f_cond rfl (fun c62 => ?_) (fun c62 => ?_)
      ·
       have hce := clE_ok hNo hk (c := (c : Int)) ⟨by omega, by omega⟩
       refine f_skip ?_
       refine f_tn (kh21 _ _ ?_)
       clear kh21
       refine f_seq fun K22 kh22 => ?_
       refine f_block ?_
       refine f_seq fun K23 kh23 => ?_
       refine f_region ?_
       refine f_stepP rfl rfl rfl (o_move rfl) ?_
       refine f_stepP rfl rfl rfl (o_assign rfl) ?_
       refine f_done ?_
       refine f_tn (kh23 _ _ ?_)
       clear kh23
       refine f_seq fun K24 kh24 => ?_
       refine f_region ?_
       refine f_stepP rfl rfl rfl (o_loadA (vs := [_, _]) Try.isAgg24 Try.sizeOf24 rfl rfl ⟨(rdA rfl), (rdA rfl), trivial⟩) ?_
       refine f_stepP rfl rfl rfl (o_loadA (vs := [_, _]) Try.isAgg28 Try.sizeOf28 rfl rfl ⟨(rdA rfl), (rdA rfl), trivial⟩) ?_
       refine f_stepP rfl rfl rfl (o_move rfl) ?_
       refine f_stepP rfl rfl rfl (o_move rfl) ?_
       refine f_step rfl rfl rfl (o_call Try.call24 rfl (fun w_ hp_ => (by have h := CInner_spec (n : Int) A l cap Ab bs cb Ac R cc ((k : Int) + 1) (c : Int) w_ (hr.up0 hp_) hl hN hok (hn.up0 hp_); rw [hce, show ((k : Int) + 1).toNat - 1 = k by omega] at h; exact h)) ?_)
       rintro _ _ ⟨I_, AI, cI, mI, rfl, rfl, hoI, _, hI0⟩
       obtain rfl := hI0 rfl
       have hIl := idxs_len_leC (inP ((rowsL R).getD k []) (c : Int)) l
       have hnx := prP_next (L := ((rowsL R).getD k [])) (l := l) (c := c)
       have hpl : l.countP (prP ((rowsL R).getD k []) (c + 1)) ≤ l.length := List.countP_le_length
       dsimp only [List.cons_append, List.nil_append]
       refine f_stepP rfl rfl rfl (o_move rfl) ?_
       refine f_stepP rfl rfl rfl (o_extract rfl rfl) ?_
       refine f_stepP rfl rfl rfl (o_extract rfl rfl) ?_
       refine f_stepP rfl rfl rfl (o_assign rfl) ?_
       refine f_stepP rfl rfl rfl (o_assign rfl) ?_
       refine f_done ?_
       refine f_tn (kh24 _ _ ?_)
       clear kh24
       refine f_seq fun K25 kh25 => ?_
       refine f_seq fun K26 kh26 => ?_
       refine f_region ?_
       refine f_stepP rfl rfl rfl (o_move rfl) ?_
       refine f_stepP rfl rfl rfl (o_neq rfl rfl) ?_
       refine f_done ?_
       refine f_tn (kh26 _ _ ?_)
       clear kh26
       refine f_condN rfl (by simp) ?_
       refine f_skip ?_
       refine f_tn (kh25 _ _ ?_)
       clear kh25
       refine f_seq fun K27 kh27 => ?_
       refine f_region ?_
       refine f_stepP rfl rfl rfl (o_move rfl) ?_
       refine f_stepP rfl rfl rfl (o_move rfl) ?_
       refine f_stepP rfl rfl rfl (o_len sl25 rfl) ?_
       refine f_stepP rfl rfl rfl (o_add rfl rfl _ (Eq.trans (wrap_i64 (by omega)) (show _ = ((s + (idxs (inP ((rowsL R).getD k []) (c : Int)) l).length : Nat) : Int) by omega))) ?_
       refine f_stepP rfl rfl rfl (o_assign rfl) ?_
       refine f_done ?_
       refine f_tn (kh27 _ _ ?_)
       clear kh27
       refine f_seq fun K28 kh28 => ?_
       refine f_seq fun K29 kh29 => ?_
       refine f_region ?_
       refine f_stepP rfl rfl rfl (o_move rfl) ?_
       refine f_stepP rfl rfl rfl (o_eql rfl rfl) ?_
       refine f_done ?_
       refine f_tn (kh29 _ _ ?_)
       clear kh29
       refine f_cond rfl (fun c79 => ?_) (fun c79 => ?_)
       ·
        have hk0 : k = 0 := by omega
        refine f_exit ?_
        refine f_te ?_
        clear kh28
        refine f_be ?_
        refine f_tn (kh22 _ _ ?_)
        clear kh22
        refine f_region ?_
        refine f_stepP rfl rfl rfl (o_add rfl rfl _ (wrap_i64 (by omega))) ?_
        refine f_stepP rfl rfl rfl (o_move rfl) ?_
        refine f_done ?_
        refine f_tn (f_again (c + 1, s + (idxs (inP ((rowsL R).getD k []) (c : Int)) l).length) (by first | omega | (dsimp only; omega) | (simp; omega)) ⟨by omega, by omega⟩ ?_ ?_ ?_)
        · exact (by repeat (first | exact trivial | refine ⟨rfl, ?_⟩))
        · exact (by repeat (first | exact trivial | refine ⟨rfl, ?_⟩))
        · repeat (first | exact Sub.nil | refine Sub.pick ?_ | refine Sub.castO rfl ?_ | refine Sub.skip ?_)
       ·
        obtain ⟨k1, hk1⟩ : ∃ k1, k = k1 + 1 := ⟨k - 1, by omega⟩
        have hche : chE (n : Int) l bs (rowsL R) ((k : Int) + 1) (c : Int) = 0 := by unfold chE; rw [hce, if_neg (by simp), if_neg (by omega)]
        have hbw : bwE (n : Int) l bs (rowsL R) ((k : Int) + 1) (c : Int) = 0 := by unfold bwE; rw [hce, if_neg (by simp), if_neg (by omega)]
        have hcn := ch_nodup (rowsL R) ((k : Int) + 1) (c : Int)
        have hcl := ch_len (rowsL R) k (c : Int)
        have hml := memTo_len ((rowsL R).getD k []) (c : Int) ((rowsL R).getD k []).length
        have hwi : ∀ a ∈ l, ((rowsL R).getD k1 []).getD a.src.toNat 0 = ((rowsL R).getD k1 []).getD a.dst.toNat 0 → ((rowsL R).getD k []).getD a.src.toNat 0 = ((rowsL R).getD k []).getD a.dst.toNat 0 := fun a ha e => by
          subst hk1
          exact ch_within hNo hk (hsrc a ha).1 (hsrc a ha).2 e
        have hcm : ∀ v, v < n → (((rowsL R).getD k1 []).getD v 0 ∈ (chL (rowsL R) ((k : Int) + 1) (c : Int)) ↔ ((rowsL R).getD k []).getD v 0 = (c : Int)) := fun v hv => by
          rw [ch_mem hk1 hlenk]
          subst hk1
          constructor
          · rintro ⟨u, hu, h1, h2⟩
            rw [← ch_within hNo hk hu hv h2]; exact h1
          · intro h; exact ⟨v, hv, h, rfl⟩
        have hcall := chP_all (c := (c : Int)) (l := l) (fun a ha => hcm a.src.toNat (hsrc a ha).1) hwi
        refine f_skip ?_
        refine f_tn (kh28 _ _ ?_)
        clear kh28
        refine f_seq fun K30 kh30 => ?_
        refine f_region ?_
        refine f_stepP rfl rfl rfl (o_loadA (vs := [_, _]) Try.isAgg24 Try.sizeOf24 rfl rfl ⟨(rdA rfl), (rdA rfl), trivial⟩) ?_
        refine f_stepP rfl rfl rfl (o_loadA (vs := [_, _]) Try.isAgg28 Try.sizeOf28 rfl rfl ⟨(rdA rfl), (rdA rfl), trivial⟩) ?_
        refine f_stepP rfl rfl rfl (o_move rfl) ?_
        refine f_stepP rfl rfl rfl (o_move rfl) ?_
        refine f_step rfl rfl rfl (o_call Try.call25 rfl (fun w_ hp_ => (by have h := CBetween_spec (n : Int) A l cap Ab bs cb Ac R cc ((k : Int) + 1) (c : Int) w_ (hr.up0 hp_) hl hN hok (hn.up0 hp_); rw [hbw, show ((k : Int) + 1).toNat - 1 = k by omega, show ((k : Int) + 1).toNat - 2 = k1 by omega] at h; exact h)) ?_)
        rintro _ _ ⟨W_, AW, cW, mW, rfl, rfl, hoW, _, hW0⟩
        obtain rfl := hW0 rfl
        have hWl := idxs_len_leC (btP ((rowsL R).getD k []) ((rowsL R).getD k1 []) (c : Int)) l
        dsimp only [List.cons_append, List.nil_append]
        refine f_stepP rfl rfl rfl (o_move rfl) ?_
        refine f_stepP rfl rfl rfl (o_extract rfl rfl) ?_
        refine f_stepP rfl rfl rfl (o_extract rfl rfl) ?_
        refine f_stepP rfl rfl rfl (o_assign rfl) ?_
        refine f_stepP rfl rfl rfl (o_assign rfl) ?_
        refine f_done ?_
        refine f_tn (kh30 _ _ ?_)
        clear kh30
        refine f_seq fun K31 kh31 => ?_
        refine f_region ?_
        refine f_stepP rfl rfl rfl (o_loadA (vs := [_, _]) Try.isAgg24 Try.sizeOf24 rfl rfl ⟨(rdA rfl), (rdA rfl), trivial⟩) ?_
        refine f_stepP rfl rfl rfl (o_loadA (vs := [_, _]) Try.isAgg28 Try.sizeOf28 rfl rfl ⟨(rdA rfl), (rdA rfl), trivial⟩) ?_
        refine f_stepP rfl rfl rfl (o_move rfl) ?_
        refine f_stepP rfl rfl rfl (o_move rfl) ?_
        refine f_step rfl rfl rfl (o_call Try.call26 rfl (fun w_ hp_ => (by have h := NChildren_spec (n : Int) A l cap Ab bs cb Ac R cc ((k : Int) + 1) (c : Int) w_ (hr.up0 hp_) hl hN hok (hn.up0 hp_); rw [hche] at h; exact h)) ?_)
        rintro _ _ ⟨C_, AC, cC, mC, rfl, rfl, hoC, _, hC0⟩
        obtain rfl := hC0 rfl
        dsimp only [List.cons_append, List.nil_append]
        refine f_stepP rfl rfl rfl (o_move rfl) ?_
        refine f_stepP rfl rfl rfl (o_extract rfl rfl) ?_
        refine f_stepP rfl rfl rfl (o_extract rfl rfl) ?_
        refine f_stepP rfl rfl rfl (o_assign rfl) ?_
        refine f_stepP rfl rfl rfl (o_assign rfl) ?_
        refine f_done ?_
        refine f_tn (kh31 _ _ ?_)
        clear kh31
        refine f_seq fun K32 kh32 => ?_
        refine f_region ?_
        refine f_stepP rfl rfl rfl (o_move rfl) ?_
        refine f_stepP rfl rfl rfl (o_len sl25 rfl) ?_
        refine f_stepP rfl rfl rfl (o_assign rfl) ?_
        refine f_done ?_
        refine f_tn (kh32 _ _ ?_)
        clear kh32
        refine f_seq fun K33 kh33 => ?_
        refine f_seq fun K34 kh34 => ?_
        refine f_region ?_
        refine f_stepP rfl rfl rfl (o_move rfl) ?_
        refine f_stepP rfl rfl rfl (o_len sl25 rfl) ?_
        refine f_stepP rfl rfl rfl (o_move rfl) ?_
        refine f_done ?_
        refine f_tn (kh34 _ _ ?_)
        clear kh34
        refine f_block ?_
        refine f_loop (α := Nat × Nat) [2, 3, 5, 10, 12, 13, 14, 16, 60, 61, 98, 99] (fun ⟨j, s2⟩ => [(100, .int .i64 (j : Int)), (17, .int .i64 (s2 : Int))]) (fun ⟨j, s2⟩ => [mC, mW, mI, [(b2, blk [.int .i64 (n : Int), .slice A l.length cap] 24)], [(b3, blk [.slice Ab bs.length cb, .slice Ac R.length cc] 28)]]) (fun ⟨j, s2⟩ => j ≤ (chL (rowsL R) ((k : Int) + 1) (c : Int)).length ∧ s2 = l.countP (chP ((rowsL R).getD k []) ((rowsL R).getD k1 []) (c : Int) ((chL (rowsL R) ((k : Int) + 1) (c : Int)).take j))) (fun ⟨j, s2⟩ => (chL (rowsL R) ((k : Int) + 1) (c : Int)).length - j) (0, (idxs (btP ((rowsL R).getD k []) ((rowsL R).getD k1 []) (c : Int)) l).length) ?_ ?_ ?_ ?_
        · exact (by repeat (first | exact trivial | refine ⟨rfl, ?_⟩))
        · repeat (first | exact Sub.nil | refine Sub.pick ?_ | refine Sub.castO rfl ?_ | refine Sub.skip ?_)
        · exact ⟨Nat.zero_le _, by rw [List.take_zero, chP_zero]⟩
        ·
         rintro ⟨j, s2⟩ ⟨hjl, hs2⟩
         refine f_envC (e := [(100, _), (17, _), (2, _), (3, _), (5, _), (10, _), (12, _), (13, _), (14, _), (16, _), (60, _), (61, _), (98, _), (99, _)]) (by repeat (first | exact trivial | refine ⟨rfl, ?_⟩)) ?_
         refine f_seq fun K35 kh35 => ?_
         refine f_region ?_
         refine f_stepP rfl rfl rfl (o_lss rfl rfl) ?_
         refine f_done ?_
         refine f_tn (kh35 _ _ ?_)
         clear kh35
         refine f_seq fun K36 kh36 => ?_
         refine f_cond rfl (fun c101 => ?_) (fun c101 => ?_)
         ·
          have hj : j < (chL (rowsL R) ((k : Int) + 1) (c : Int)).length := by omega
          obtain ⟨bC, spC, rfl, rfl⟩ := hoC.at_ (by omega)
          have hxr := ch_rng hNo hk1 hk (List.getElem_mem hj)
          obtain ⟨x, hx⟩ : ∃ x : Nat, (chL (rowsL R) ((k : Int) + 1) (c : Int))[j] = (x : Int) := ⟨_, (Int.toNat_of_nonneg hxr.1).symm⟩
          have hxm : (x : Int) ∈ (chL (rowsL R) ((k : Int) + 1) (c : Int)) := by rw [← hx]; exact List.getElem_mem hj
          rw [hx] at hxr
          have hcx := clE_ok hNo (show k1 < bs.length by omega) hxr
          have hcnx := chP_next (L := ((rowsL R).getD k [])) (B := ((rowsL R).getD k1 [])) (c := (c : Int)) (l := l) hj (fun h => nodup_notH hj h hcn)
          rw [hx] at hcnx
          have hcpl : l.countP (chP ((rowsL R).getD k []) ((rowsL R).getD k1 []) (c : Int) ((chL (rowsL R) ((k : Int) + 1) (c : Int)).take (j + 1))) ≤ l.length := List.countP_le_length
          refine f_skip ?_
          refine f_tn (kh36 _ _ ?_)
          clear kh36
          refine f_seq fun K37 kh37 => ?_
          refine f_block ?_
          refine f_seq fun K38 kh38 => ?_
          refine f_region ?_
          refine f_stepP rfl rfl rfl (o_idx sl25 rfl rfl (j) ⟨by omega, by omega, by first | omega | (simp; done) | (simp; omega)⟩) ?_
          refine f_stepP rfl rfl rfl (o_load Try.isAgg3 rfl (rdA (v := .int .i64 (x : Int)) (app_get (by rw [ints_get hj, hx])))) ?_
          refine f_stepP rfl rfl rfl (o_assign rfl) ?_
          refine f_done ?_
          refine f_tn (kh38 _ _ ?_)
          clear kh38
          refine f_seq fun K39 kh39 => ?_
          refine f_region ?_
          refine f_stepP rfl rfl rfl (o_loadA (vs := [_, _]) Try.isAgg24 Try.sizeOf24 rfl rfl ⟨(rdA rfl), (rdA rfl), trivial⟩) ?_
          refine f_stepP rfl rfl rfl (o_loadA (vs := [_, _]) Try.isAgg28 Try.sizeOf28 rfl rfl ⟨(rdA rfl), (rdA rfl), trivial⟩) ?_
          refine f_stepP rfl rfl rfl (o_move rfl) ?_
          refine f_stepP rfl rfl rfl (o_sub rfl rfl _ (Eq.trans (wrap_i64 (by omega)) (show _ = ((k1 : Int) + 1) by omega))) ?_
          refine f_stepP rfl rfl rfl (o_move rfl) ?_
          refine f_step rfl rfl rfl (o_call Try.call24 rfl (fun w_ hp_ => (by have h := CInner_spec (n : Int) A l cap Ab bs cb Ac R cc ((k1 : Int) + 1) (x : Int) w_ (hr.up0 hp_) hl hN hok (hn.up0 hp_); rw [hcx, show ((k1 : Int) + 1).toNat - 1 = k1 by omega] at h; exact h)) ?_)
          rintro _ _ ⟨J_, AJ, cJ, mJ, rfl, rfl, hoJ, _, hJ0⟩
          obtain rfl := hJ0 rfl
          have hJl := idxs_len_leC (inP ((rowsL R).getD k1 []) (x : Int)) l
          dsimp only [List.cons_append, List.nil_append]
          refine f_stepP rfl rfl rfl (o_move rfl) ?_
          refine f_stepP rfl rfl rfl (o_extract rfl rfl) ?_
          refine f_stepP rfl rfl rfl (o_extract rfl rfl) ?_
          refine f_stepP rfl rfl rfl (o_assign rfl) ?_
          refine f_stepP rfl rfl rfl (o_assign rfl) ?_
          refine f_done ?_
          refine f_tn (kh39 _ _ ?_)
          clear kh39
          refine f_seq fun K40 kh40 => ?_
          refine f_seq fun K41 kh41 => ?_
          refine f_region ?_
          refine f_stepP rfl rfl rfl (o_move rfl) ?_
          refine f_stepP rfl rfl rfl (o_neq rfl rfl) ?_
          refine f_done ?_
          refine f_tn (kh41 _ _ ?_)
          clear kh41
          refine f_condN rfl (by simp) ?_
          refine f_skip ?_
          refine f_tn (kh40 _ _ ?_)
          clear kh40
          refine f_seq fun K42 kh42 => ?_
          refine f_seq fun K43 kh43 => ?_
          refine f_region ?_
          refine f_stepP rfl rfl rfl (o_move rfl) ?_
          refine f_stepP rfl rfl rfl (o_len sl25 rfl) ?_
          refine f_stepP rfl rfl rfl (o_move rfl) ?_
          refine f_done ?_
          refine f_tn (kh43 _ _ ?_)
          clear kh43
          refine f_block ?_
          refine f_loop (α := Nat) [2, 3, 5, 10, 12, 13, 14, 16, 17, 20, 60, 61, 98, 99, 100, 115, 116] (fun i => [(117, .int .i64 (i : Int))]) (fun i => [mJ, [(bC, blk (ints (chL (rowsL R) ((k : Int) + 1) (c : Int)) ++ spC) 3)], mW, mI, [(b2, blk [.int .i64 (n : Int), .slice A l.length cap] 24)], [(b3, blk [.slice Ab bs.length cb, .slice Ac R.length cc] 28)]]) (fun i => i ≤ (idxs (inP ((rowsL R).getD k1 []) (x : Int)) l).length) (fun i => (idxs (inP ((rowsL R).getD k1 []) (x : Int)) l).length - i) (0) ?_ ?_ ?_ ?_
          · exact (by repeat (first | exact trivial | refine ⟨rfl, ?_⟩))
          · repeat (first | exact Sub.nil | refine Sub.pick ?_ | refine Sub.castO rfl ?_ | refine Sub.skip ?_)
          · exact Nat.zero_le _
          ·
           rintro i hil
           refine f_envC (e := [(117, _), (2, _), (3, _), (5, _), (10, _), (12, _), (13, _), (14, _), (16, _), (17, _), (20, _), (60, _), (61, _), (98, _), (99, _), (100, _), (115, _), (116, _)]) (by repeat (first | exact trivial | refine ⟨rfl, ?_⟩)) ?_
           refine f_seq fun K44 kh44 => ?_
           refine f_region ?_
           refine f_stepP rfl rfl rfl (o_lss rfl rfl) ?_
           refine f_done ?_
           refine f_tn (kh44 _ _ ?_)
           clear kh44
           refine f_seq fun K45 kh45 => ?_
           refine f_cond rfl (fun c118 => ?_) (fun c118 => ?_)
           ·
            have hi : i < (idxs (inP ((rowsL R).getD k1 []) (x : Int)) l).length := by omega
            obtain ⟨bJ, spJ, rfl, rfl⟩ := hoJ.at_ (by omega)
            obtain ⟨u, hu, hxu, hpu⟩ := idxs_memC.1 (List.getElem_mem hi)
            have hpu1 : ((rowsL R).getD k1 []).getD l[u].src.toNat 0 = (x : Int) ∧ ((rowsL R).getD k1 []).getD l[u].dst.toNat 0 = (x : Int) := by unfold inP at hpu; simpa only [Bool.and_eq_true, decide_eq_true_eq] using hpu
            have hlc : ((rowsL R).getD k []).getD l[u].src.toNat 0 = (c : Int) := (hcm _ (hsrc _ (List.getElem_mem hu)).1).1 (by rw [hpu1.1]; exact hxm)
            have hld : ((rowsL R).getD k []).getD l[u].dst.toNat 0 = (c : Int) := by rw [← hwi _ (List.getElem_mem hu) (by rw [hpu1.1, hpu1.2])]; exact hlc
            have hin : (idxs (inP ((rowsL R).getD k1 []) (x : Int)) l)[i] ∈ (idxs (inP ((rowsL R).getD k []) (c : Int)) l) := idxs_memC.2 ⟨u, hu, hxu, by unfold inP; rw [hlc, hld]; simp⟩
            have hout : (idxs (inP ((rowsL R).getD k1 []) (x : Int)) l)[i] ∉ (idxs (btP ((rowsL R).getD k []) ((rowsL R).getD k1 []) (c : Int)) l) := fun h => by
              obtain ⟨u', hu', e, h⟩ := idxs_memC.1 h
              obtain rfl : u = u' := by omega
              unfold btP unP at h
              rw [hpu1.1, hpu1.2] at h
              simp at h
            refine f_skip ?_
            refine f_tn (kh45 _ _ ?_)
            clear kh45
            refine f_seq fun K46 kh46 => ?_
            refine f_block ?_
            refine f_seq fun K47 kh47 => ?_
            refine f_region ?_
            refine f_stepP rfl rfl rfl (o_idx sl25 rfl rfl (i) ⟨by omega, by omega, by first | omega | (simp; done) | (simp; omega)⟩) ?_
            refine f_stepP rfl rfl rfl (o_load Try.isAgg3 rfl (rdA (v := .int .i64 (idxs (inP ((rowsL R).getD k1 []) (x : Int)) l)[i]) (app_get (by rw [ints_get hi])))) ?_
            refine f_stepP rfl rfl rfl (o_assign rfl) ?_
            refine f_done ?_
            refine f_tn (kh47 _ _ ?_)
            clear kh47
            refine f_seq fun K48 kh48 => ?_
            refine f_region ?_
            refine f_stepP rfl rfl rfl (o_move rfl) ?_
            refine f_stepP rfl rfl rfl (o_move rfl) ?_
            refine f_step rfl rfl rfl (o_call Try.call13 rfl (fun w_ hp_ => has_spec AI (idxs (inP ((rowsL R).getD k []) (c : Int)) l) (idxs (inP ((rowsL R).getD k []) (c : Int)) l).length (idxs (inP ((rowsL R).getD k1 []) (x : Int)) l)[i] w_ (seen_ro (hoI.seen hp_)) (by omega)) ?_)
            rintro _ _ ⟨rfl, rfl⟩
            dsimp only [List.cons_append, List.nil_append]
            refine f_stepP rfl rfl rfl (o_not rfl) ?_
            refine f_stepP rfl rfl rfl (o_move rfl) ?_
            refine f_reL 125 rfl (v := .bool false) (by rw [decide_eq_true hin]; rfl) ?_
            refine f_stepPY rfl rfl rfl rfl rfl (o_move rfl) ?_
            refine f_stepPY rfl rfl rfl rfl rfl (o_move rfl) ?_
            refine f_stepY rfl rfl rfl rfl rfl (o_call Try.call13 rfl (fun w_ hp_ => has_spec AW (idxs (btP ((rowsL R).getD k []) ((rowsL R).getD k1 []) (c : Int)) l) (idxs (btP ((rowsL R).getD k []) ((rowsL R).getD k1 []) (c : Int)) l).length (idxs (inP ((rowsL R).getD k1 []) (x : Int)) l)[i] w_ (seen_ro (hoW.seen hp_)) (by omega)) ?_)
            rintro _ _ ⟨rfl, rfl⟩
            dsimp only [List.cons_append, List.nil_append]
            refine f_stepP rfl rfl rfl (o_pickF rfl rfl) ?_
            refine f_done ?_
            refine f_tn (kh48 _ _ ?_)
            clear kh48
            refine f_condN rfl (hout) ?_
            refine f_skip ?_
            refine f_bn ?_
            refine f_tn (kh46 _ _ ?_)
            clear kh46
            refine f_region ?_
            refine f_stepP rfl rfl rfl (o_add rfl rfl _ (wrap_i64 (by omega))) ?_
            refine f_stepP rfl rfl rfl (o_move rfl) ?_
            refine f_done ?_
            refine f_tn (f_again (i + 1) (by first | omega | (dsimp only; omega) | (simp; omega)) (by omega) ?_ ?_ ?_)
            · exact (by repeat (first | exact trivial | refine ⟨rfl, ?_⟩))
            · exact (by repeat (first | exact trivial | refine ⟨rfl, ?_⟩))
            · repeat (first | exact Sub.nil | refine Sub.pick ?_ | refine Sub.castO rfl ?_ | refine Sub.skip ?_)
           ·
            refine f_exit ?_
            refine f_te ?_
            clear kh45
            refine f_te ?_
            refine f_be ?_
            refine f_tn (kh42 _ _ ?_)
            clear kh42
            refine f_region ?_
            refine f_stepP rfl rfl rfl (o_move rfl) ?_
            refine f_stepP rfl rfl rfl (o_move rfl) ?_
            refine f_stepP rfl rfl rfl (o_len sl25 rfl) ?_
            refine f_stepP rfl rfl rfl (o_add rfl rfl _ (Eq.trans (wrap_i64 (by omega)) (show _ = ((s2 + (idxs (inP ((rowsL R).getD k1 []) (x : Int)) l).length : Nat) : Int) by omega))) ?_
            refine f_stepP rfl rfl rfl (o_assign rfl) ?_
            refine f_done ?_
            refine f_bn ?_
            refine f_tn (kh37 _ _ ?_)
            clear kh37
            refine f_region ?_
            refine f_stepP rfl rfl rfl (o_add rfl rfl _ (wrap_i64 (by omega))) ?_
            refine f_stepP rfl rfl rfl (o_move rfl) ?_
            refine f_done ?_
            refine f_tn (f_again (j + 1, s2 + (idxs (inP ((rowsL R).getD k1 []) (x : Int)) l).length) (by first | omega | (dsimp only; omega) | (simp; omega)) ⟨by omega, by omega⟩ ?_ ?_ ?_)
            · exact (by repeat (first | exact trivial | refine ⟨rfl, ?_⟩))
            · exact (by repeat (first | exact trivial | refine ⟨rfl, ?_⟩))
            · repeat (first | exact Sub.nil | refine Sub.pick ?_ | refine Sub.castO rfl ?_ | refine Sub.skip ?_)
         ·
          obtain rfl : j = (chL (rowsL R) ((k : Int) + 1) (c : Int)).length := by omega
          rw [List.take_length, hcall] at hs2
          refine f_exit ?_
          refine f_te ?_
          clear kh36
          refine f_te ?_
          refine f_be ?_
          refine f_tn (kh33 _ _ ?_)
          clear kh33
          refine f_seq fun K49 kh49 => ?_
          refine f_region ?_
          refine f_stepP rfl rfl rfl (o_move rfl) ?_
          refine f_stepP rfl rfl rfl (o_neq rfl rfl) ?_
          refine f_stepP rfl rfl rfl (o_move rfl) ?_
          refine f_falseL 138 rfl (by simp) ?_
          refine f_stepPY rfl rfl rfl rfl rfl (o_move rfl) ?_
          refine f_stepPY rfl rfl rfl rfl rfl (o_neq rfl rfl) ?_
          refine f_stepP rfl rfl rfl (o_pickF rfl rfl) ?_
          refine f_stepP rfl rfl rfl (o_move rfl) ?_
          refine f_falseL 142 rfl (by simp) ?_
          refine f_stepPY rfl rfl rfl rfl rfl (o_move rfl) ?_
          refine f_stepPY rfl rfl rfl rfl rfl (o_move rfl) ?_
          refine f_stepPY rfl rfl rfl rfl rfl (o_len sl25 rfl) ?_
          refine f_stepPY rfl rfl rfl rfl rfl (o_neq rfl rfl) ?_
          refine f_stepP rfl rfl rfl (o_pickF rfl rfl) ?_
          refine f_done ?_
          refine f_tn (kh49 _ _ ?_)
          clear kh49
          refine f_condN rfl (by omega) ?_
          refine f_skip ?_
          refine f_bn ?_
          refine f_tn (kh22 _ _ ?_)
          clear kh22
          refine f_region ?_
          refine f_stepP rfl rfl rfl (o_add rfl rfl _ (wrap_i64 (by omega))) ?_
          refine f_stepP rfl rfl rfl (o_move rfl) ?_
          refine f_done ?_
          refine f_tn (f_again (c + 1, s + (idxs (inP ((rowsL R).getD k []) (c : Int)) l).length) (by first | omega | (dsimp only; omega) | (simp; omega)) ⟨by omega, by omega⟩ ?_ ?_ ?_)
          · exact (by repeat (first | exact trivial | refine ⟨rfl, ?_⟩))
          · exact (by repeat (first | exact trivial | refine ⟨rfl, ?_⟩))
          · repeat (first | exact Sub.nil | refine Sub.pick ?_ | refine Sub.castO rfl ?_ | refine Sub.skip ?_)
      ·
       obtain rfl : m = c := by omega
       have hall := prP_all (L := ((rowsL R).getD k [])) (l := l) (m := m) fun a ha => by have := hlab a.src.toNat (hsrc a ha).1; omega
       refine f_exit ?_
       refine f_te ?_
       clear kh21
       refine f_te ?_
       refine f_be ?_
       refine f_tn (kh18 _ _ ?_)
       clear kh18
       refine f_seq fun K50 kh50 => ?_
       refine f_region ?_
       refine f_stepP rfl rfl rfl (o_move rfl) ?_
       refine f_stepP rfl rfl rfl (o_field fa24_1 rfl) ?_
       refine f_stepP rfl rfl rfl (o_load Try.isAgg22 rfl (rdA rfl)) ?_
       refine f_stepP rfl rfl rfl (o_len sl22 rfl) ?_
       refine f_stepP rfl rfl rfl (o_neq rfl rfl) ?_
       refine f_done ?_
       refine f_tn (kh50 _ _ ?_)
       clear kh50
       refine f_condN rfl (by omega) ?_
       refine f_skip ?_
       refine f_bn ?_
       refine f_tn (kh11 _ _ ?_)
       clear kh11
       refine f_region ?_
       refine f_stepP rfl rfl rfl (o_move rfl) ?_
       refine f_stepP rfl rfl rfl (o_add rfl rfl _ (Eq.trans (wrap_i64 (by omega)) (show _ = (((k + 1 : Nat) : Int) + 1) by omega))) ?_
       refine f_stepP rfl rfl rfl (o_assign rfl) ?_
       refine f_done ?_
       refine f_tn (f_again (k + 1) (by first | omega | (dsimp only; omega) | (simp; omega)) (by omega) ?_ ?_ ?_)
       · exact (by repeat (first | exact trivial | refine ⟨rfl, ?_⟩))
       · exact (by repeat (first | exact trivial | refine ⟨rfl, ?_⟩))
       · repeat (first | exact Sub.nil | refine Sub.pick ?_ | refine Sub.castO rfl ?_ | refine Sub.skip ?_)
   ·
    refine f_exit ?_
    refine f_te ?_
    clear kh9
    refine f_te ?_
    refine f_be ?_
    refine f_tn (kh7 _ _ ?_)
    clear kh7
    refine f_seq fun K51 kh51 => ?_
    refine f_region ?_
    refine f_stepP rfl rfl rfl (o_assign rfl) ?_
    refine f_done ?_
    refine f_tn (kh51 _ _ ?_)
    clear kh51
    refine f_ret ?_
    exact f_fin1 [] Try.results5 rfl Sub.nil ⟨rfl, rfl⟩

end Go.Proofs.Ytkmkakpadgljeaa
