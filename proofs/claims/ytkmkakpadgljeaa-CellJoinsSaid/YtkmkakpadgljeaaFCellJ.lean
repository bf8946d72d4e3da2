/- flyoverlaw12.CellJoins. -/
import Derived.Test.YtkmkakpadgljeaaFCellT
import Derived.Test.YtkmkakpadgljeaaFNestH
namespace Go.Proofs.Ytkmkakpadgljeaa
open Go Go.RowKit Fly
set_option linter.unusedVariables false
set_option linter.unusedSimpArgs false


abbrev boolsJ (l : List Bool) : List Value := l.map .bool
theorem boolsJ_set (l : List Bool) (i : Nat) (b : Bool) : (boolsJ l).set i (.bool b) = boolsJ (l.set i b) := by simp [boolsJ, List.map_set]
theorem boolsJ_at {l : List Bool} {i : Nat} (h : i < l.length) : (boolsJ l)[i]? = some (.bool (l.getD i false)) := by simp [boolsJ, List.getD_eq_getElem?_getD, h]
theorem reps_J (n : Nat) (b : Bool) : (List.replicate n [Value.bool b]).flatten = boolsJ (List.replicate n b) := by
  induction n with
  | zero => rfl
  | succ n ih => rw [List.replicate_succ, List.flatten_cons, ih]; rfl
theorem getD_setJ {l : List Bool} {i v : Nat} {b : Bool} (hi : i < l.length) : (l.set i b).getD v false = if i = v then b else l.getD v false := by
  rw [List.getD_eq_getElem?_getD, List.getElem?_set, List.getD_eq_getElem?_getD]
  by_cases e : i = v
  · subst e; rw [if_pos rfl, if_pos rfl, if_pos hi]; rfl
  · rw [if_neg e, if_neg e]
/-- Is a vertex an end of an arc between cells? -/
def bndB (L : List Int) (l : List Arc) (v : Nat) : Bool := l.any fun a => unP L a && (decide (a.src = (v : Int)) || decide (a.dst = (v : Int)))
/-- Is it an end of one of some arcs? -/
def tch (l : List Arc) (X : List Int) (v : Nat) : Bool := X.any fun x => (l[x.toNat]?).elim false fun a => decide (a.src = (v : Int)) || decide (a.dst = (v : Int))
theorem tch_next {l : List Arc} {X : List Int} {i u : Nat} {v : Nat} (hi : i < X.length) (hX : X[i] = (u : Int)) (hu : u < l.length) : tch l (X.take (i + 1)) v = (tch l (X.take i) v || (decide (l[u].src = (v : Int)) || decide (l[u].dst = (v : Int)))) := by
  unfold tch
  rw [any_take hi, hX, Int.toNat_natCast, List.getElem?_eq_getElem hu]; rfl
theorem tch_all (L : List Int) (l : List Arc) (v : Nat) : tch l (idxs (unP L) l) v = bndB L l v := by
  unfold tch bndB
  rw [Bool.eq_iff_iff, List.any_eq_true, List.any_eq_true]
  constructor
  · rintro ⟨x, hx, h⟩
    obtain ⟨u, hu, rfl, hp⟩ := idxs_memC.1 hx
    rw [Int.toNat_natCast, List.getElem?_eq_getElem hu] at h
    exact ⟨l[u], List.getElem_mem hu, by rw [hp]; simpa using h⟩
  · rintro ⟨a, ha, h⟩
    obtain ⟨u, hu, rfl⟩ := List.mem_iff_getElem.1 ha
    rw [Bool.and_eq_true] at h
    exact ⟨(u : Int), idxs_memC.2 ⟨u, hu, rfl, h.1⟩, by rw [Int.toNat_natCast, List.getElem?_eq_getElem hu]; exact h.2⟩
theorem bdL_iff {L : List Int} {l : List Arc} {c : Int} {v : Nat} : (v : Int) ∈ bdL L c l ↔ bndB L l v = true ∧ L.getD v 0 = c := by
  rw [bdL_mem]
  unfold bndB unP
  rw [List.any_eq_true]
  constructor
  · rintro ⟨a, ha, h⟩
    obtain ⟨h1, ⟨h2, h3⟩ | ⟨h2, h3⟩⟩ := bdOf_mem.1 h
    · refine ⟨⟨a, ha, ?_⟩, by rw [← h2, ← h3, Int.toNat_natCast]⟩
      rw [decide_eq_true h1, ← h3]; simp
    · refine ⟨⟨a, ha, ?_⟩, by rw [← h2, ← h3, Int.toNat_natCast]⟩
      rw [decide_eq_true h1, ← h3]; simp
  · rintro ⟨⟨a, ha, h⟩, hc⟩
    simp only [Bool.and_eq_true, Bool.or_eq_true, decide_eq_true_eq] at h
    obtain ⟨h1, h2 | h2⟩ := h
    · exact ⟨a, ha, bdOf_mem.2 ⟨h1, .inl ⟨by rw [h2, Int.toNat_natCast]; exact hc, h2.symm⟩⟩⟩
    · exact ⟨a, ha, bdOf_mem.2 ⟨h1, .inr ⟨by rw [h2, Int.toNat_natCast]; exact hc, h2.symm⟩⟩⟩
theorem bdL_nat {L : List Int} {l : List Arc} {c x : Int} {n : Nat} (hg : ∀ k (hk : k < l.length), 0 ≤ l[k].src ∧ l[k].src < (n : Int) ∧ 0 ≤ l[k].dst ∧ l[k].dst < (n : Int)) (h : x ∈ bdL L c l) : ∃ v : Nat, x = (v : Int) ∧ v < n := by
  obtain ⟨a, ha, h⟩ := bdL_mem.1 h
  obtain ⟨u, hu, rfl⟩ := List.mem_iff_getElem.1 ha
  have := hg u hu
  obtain ⟨_, ⟨_, h3⟩ | ⟨_, h3⟩⟩ := bdOf_mem.1 h
  · exact ⟨x.toNat, by omega, by omega⟩
  · exact ⟨x.toNat, by omega, by omega⟩
theorem bndB_low {L B : List Int} {l : List Arc} {v : Nat} (hw : ∀ a ∈ l, B.getD a.src.toNat 0 = B.getD a.dst.toNat 0 → L.getD a.src.toNat 0 = L.getD a.dst.toNat 0) (h : bndB L l v = true) : bndB B l v = true := by
  unfold bndB at *
  rw [List.any_eq_true] at *
  obtain ⟨a, ha, h⟩ := h
  refine ⟨a, ha, ?_⟩
  rw [Bool.and_eq_true] at *
  refine ⟨?_, h.2⟩
  have h1 := h.1
  unfold unP at *
  rw [decide_eq_true_eq] at *
  exact fun e => h1 (hw a ha e)
theorem rise_at {l : List Int} (h : l.Pairwise (· < ·)) {i j : Nat} (hj : j < l.length) {x : Int} (hi : l[i]? = some x) (hx : l[j] = x) : i = j := by
  obtain ⟨hi', e⟩ := List.getElem?_eq_some_iff.1 hi
  rcases Nat.lt_trichotomy i j with h1 | h1 | h1
  · have := rise_lt h h1 hj; omega
  · exact h1
  · have := rise_lt h h1 hi'; omega
/-- The ends that are left ahead of a cell; and when some of its vertices are done. -/
def lfB (L : List Int) (l : List Arc) (c v : Nat) : Bool := bndB L l v && decide ((c : Int) ≤ L.getD v 0)
def lfC (L : List Int) (l : List Arc) (c j v : Nat) : Bool := bndB L l v && (decide ((c : Int) < L.getD v 0) || (decide (L.getD v 0 = (c : Int)) && decide ((v : Int) ∉ (bdL L (c : Int) l).take j)))
theorem lfB_zero {L : List Int} {l : List Arc} {v : Nat} (h : 0 ≤ L.getD v 0) : lfB L l 0 v = bndB L l v := by
  unfold lfB; rw [decide_eq_true (by omega)]; simp
theorem lfB_all {L : List Int} {l : List Arc} {m v : Nat} (h : L.getD v 0 < (m : Int)) : lfB L l m v = false := by
  unfold lfB; rw [decide_eq_false (by omega)]; simp
theorem lfC_zero (L : List Int) (l : List Arc) (c v : Nat) : lfC L l c 0 v = lfB L l c v := by
  unfold lfC lfB
  congr 1
  rw [Bool.eq_iff_iff]
  simp only [Bool.or_eq_true, Bool.and_eq_true, decide_eq_true_eq, List.take_zero, List.not_mem_nil, not_false_eq_true, and_true]
  omega
theorem lfC_all (L : List Int) (l : List Arc) (c v : Nat) : lfC L l c (bdL L (c : Int) l).length v = lfB L l (c + 1) v := by
  unfold lfC lfB
  cases hb : bndB L l v
  · rfl
  · rw [Bool.eq_iff_iff]
    simp only [Bool.true_and, Bool.or_eq_true, Bool.and_eq_true, decide_eq_true_eq, List.take_length]
    constructor
    · rintro (h | ⟨h1, h2⟩)
      · omega
      · exact absurd (bdL_iff.2 ⟨hb, h1⟩) h2
    · intro h; exact .inl (by omega)
theorem lfC_here {L : List Int} {l : List Arc} {c j v : Nat} (hj : j < (bdL L (c : Int) l).length) (hv : (bdL L (c : Int) l)[j] = (v : Int)) : lfC L l c j v = true := by
  have hm : (v : Int) ∈ bdL L (c : Int) l := by rw [← hv]; exact List.getElem_mem hj
  obtain ⟨h1, h2⟩ := bdL_iff.1 hm
  unfold lfC
  rw [h1, decide_eq_true h2, decide_eq_true (p := (v : Int) ∉ _)]
  · simp
  · intro h
    rw [← hv] at h
    exact nodup_notH hj h ((bdL_rising L (c : Int) l).imp fun {a b} h e => by omega)
theorem lfC_next {L : List Int} {l : List Arc} {c j v u : Nat} (hj : j < (bdL L (c : Int) l).length) (hv : (bdL L (c : Int) l)[j] = (v : Int)) : lfC L l c (j + 1) u = if v = u then false else lfC L l c j u := by
  have hm : (v : Int) ∈ bdL L (c : Int) l := by rw [← hv]; exact List.getElem_mem hj
  obtain ⟨h1, h2⟩ := bdL_iff.1 hm
  unfold lfC
  rw [List.take_succ_eq_append_getElem hj, hv]
  by_cases e : v = u
  · subst e
    rw [if_pos rfl, decide_eq_false (by omega), decide_eq_false (p := (v : Int) ∉ _) (by simp)]; simp
  · rw [if_neg e]
    congr 2
    congr 1
    rw [decide_eq_decide, List.mem_append, List.mem_singleton]
    constructor
    · exact fun h h3 => h (.inl h3)
    · rintro h (h3 | h3)
      · exact h h3
      · omega

set_option maxRecDepth 100000 in
set_option maxHeartbeats 4000000 in
theorem CellJoins_spec (N : Int) (A : Option Addr) (l : List Arc) (cap : Nat) (Ab : Option Addr) (bs : List Int) (cb : Nat) (Ac : Option Addr) (R : List Row) (cc : Nat) (w : World) (hr : Ro (Fr w []) w A (l.flatMap arcCs)) (hl : l.length ≤ 9223372036854775807) (hN : I64 N) (hok : ∀ x ∈ l, ArcOk x) (hn : NestRo (Fr w []) w Ab bs Ac R) :
    Meets Try.prog 3 [.agg #[.int .i64 N, .slice A l.length cap], .agg #[.slice Ab bs.length cb, .slice Ac R.length cc]] w [] (fun u m => u = .bool true ∧ m = []) := by
 refine f_enter Try.func3 rfl Try.ntmps3 rfl Owns.nil ?_
 refine f_seq fun K1 kh1 => ?_
 refine f_region ?_
 refine f_step rfl rfl rfl (o_box rfl rfl fun b2 => ?_)
 refine f_step rfl rfl rfl (o_box rfl rfl fun b3 => ?_)
 refine f_stepP rfl rfl rfl (o_assign rfl) ?_
 refine f_done ?_
 refine f_tn (kh1 _ _ ?_)
 clear kh1
 refine f_seq fun K2 kh2 => ?_
 refine f_seq fun K3 kh3 => ?_
 refine f_region ?_
 refine f_step rfl rfl rfl (o_call Try.call7 rfl (fun w_ hp_ => works_spec w_) ?_)
 rintro _ _ ⟨rfl, rfl⟩
 dsimp only [List.cons_append, List.nil_append]
 refine f_stepP rfl rfl rfl (o_not rfl) ?_
 refine f_done ?_
 refine f_tn (kh3 _ _ ?_)
 clear kh3
 refine f_condF rfl ?_
 refine f_skip ?_
 refine f_tn (kh2 _ _ ?_)
 clear kh2
 refine f_seq fun K4 kh4 => ?_
 refine f_seq fun K5 kh5 => ?_
 refine f_region ?_
 refine f_stepP rfl rfl rfl (o_loadA (vs := [_, _]) Try.isAgg24 Try.sizeOf24 rfl rfl ⟨(rdA rfl), (rdA rfl), trivial⟩) ?_
 refine f_step rfl rfl rfl (o_call Try.call8 rfl (fun w_ hp_ => large_spec N A l cap w_ (hr.up0 hp_) hl hN hok) ?_)
 rintro _ _ ⟨bL, rfl, rfl⟩
 dsimp only [List.cons_append, List.nil_append]
 refine f_done ?_
 refine f_tn (kh5 _ _ ?_)
 clear kh5
 refine f_condB rfl (fun c27 => ?_) (fun c27 => ?_)
 ·
  refine f_seq fun K6 kh6 => ?_
  refine f_region ?_
  refine f_stepP rfl rfl rfl (o_assign rfl) ?_
  refine f_done ?_
  refine f_tn (kh6 _ _ ?_)
  clear kh6
  refine f_ret ?_
  refine f_tr ?_
  exact f_fin1 [] Try.results3 rfl Sub.nil ⟨rfl, rfl⟩
 ·
  refine f_skip ?_
  refine f_tn (kh4 _ _ ?_)
  clear kh4
  refine f_seq fun K7 kh7 => ?_
  refine f_seq fun K8 kh8 => ?_
  refine f_region ?_
  refine f_stepP rfl rfl rfl (o_assign rfl) ?_
  refine f_done ?_
  refine f_tn (kh8 _ _ ?_)
  clear kh8
  refine f_block ?_
  refine f_loop (α := Nat) [2, 3] (fun k => [(5, .int .i64 ((k : Int) + 1))]) (fun k => [[(b2, blk [.int .i64 N, .slice A l.length cap] 24)], [(b3, blk [.slice Ab bs.length cb, .slice Ac R.length cc] 28)]]) (fun k => k ≤ bs.length) (fun k => bs.length - k) (0) ?_ ?_ ?_ ?_
  · exact (by repeat (first | exact trivial | refine ⟨rfl, ?_⟩))
  · repeat (first | exact Sub.nil | refine Sub.pick ?_ | refine Sub.castO rfl ?_ | refine Sub.skip ?_)
  · exact Nat.zero_le _
  ·
   rintro k hkl
   refine f_seq fun K9 kh9 => ?_
   refine f_seq fun K10 kh10 => ?_
   refine f_region ?_
   refine f_stepP rfl rfl rfl (o_move rfl) ?_
   refine f_stepP rfl rfl rfl (o_field fa28_0 rfl) ?_
   refine f_stepP rfl rfl rfl (o_load Try.isAgg25 rfl (rdA rfl)) ?_
   refine f_stepP rfl rfl rfl (o_len sl25 rfl) ?_
   refine f_stepP rfl rfl rfl (o_leq rfl rfl) ?_
   refine f_done ?_
   refine f_tn (kh10 _ _ ?_)
   clear kh10
   refine f_cond rfl (fun c32 => ?_) (fun c32 => ?_)
   ·
    refine f_skip ?_
    refine f_tn (kh9 _ _ ?_)
    clear kh9
    refine f_seq fun K11 kh11 => ?_
    refine f_block ?_
    refine f_seq fun K12 kh12 => ?_
    refine f_region ?_
    refine f_stepP rfl rfl rfl (o_loadA (vs := [_, _]) Try.isAgg24 Try.sizeOf24 rfl rfl ⟨(rdA rfl), (rdA rfl), trivial⟩) ?_
    refine f_stepP rfl rfl rfl (o_loadA (vs := [_, _]) Try.isAgg28 Try.sizeOf28 rfl rfl ⟨(rdA rfl), (rdA rfl), trivial⟩) ?_
    refine f_stepP rfl rfl rfl (o_move rfl) ?_
    refine f_step rfl rfl rfl (o_call Try.call9 rfl (fun w_ hp_ => COuter_spec N A l cap Ab bs cb Ac R cc ((k : Int) + 1) w_ (hr.up0 hp_) hl hN hok (hn.up0 hp_)) ?_)
    rintro _ _ ⟨O_, AO, cO, mO, rfl, rfl, hoO, hOE, hO0⟩
    dsimp only [List.cons_append, List.nil_append]
    refine f_stepP rfl rfl rfl (o_move rfl) ?_
    refine f_stepP rfl rfl rfl (o_extract rfl rfl) ?_
    refine f_stepP rfl rfl rfl (o_extract rfl rfl) ?_
    refine f_stepP rfl rfl rfl (o_assign rfl) ?_
    refine f_stepP rfl rfl rfl (o_assign rfl) ?_
    refine f_done ?_
    refine f_tn (kh12 _ _ ?_)
    clear kh12
    refine f_seq fun K13 kh13 => ?_
    refine f_region ?_
    refine f_stepP rfl rfl rfl (o_loadA (vs := [_, _]) Try.isAgg24 Try.sizeOf24 rfl rfl ⟨(rdA rfl), (rdA rfl), trivial⟩) ?_
    refine f_stepP rfl rfl rfl (o_loadA (vs := [_, _]) Try.isAgg28 Try.sizeOf28 rfl rfl ⟨(rdA rfl), (rdA rfl), trivial⟩) ?_
    refine f_stepP rfl rfl rfl (o_move rfl) ?_
    refine f_step rfl rfl rfl (o_call Try.call10 rfl (fun w_ hp_ => NMany_spec N A l cap Ab bs cb Ac R cc ((k : Int) + 1) w_ (hr.up0 hp_) hl hN hok (hn.up0 hp_)) ?_)
    rintro _ _ ⟨rfl, rfl⟩
    dsimp only [List.cons_append, List.nil_append]
    refine f_stepP rfl rfl rfl (o_move rfl) ?_
    refine f_stepP rfl rfl rfl (o_extract rfl rfl) ?_
    refine f_stepP rfl rfl rfl (o_extract rfl rfl) ?_
    refine f_stepP rfl rfl rfl (o_assign rfl) ?_
    refine f_stepP rfl rfl rfl (o_assign rfl) ?_
    refine f_done ?_
    refine f_tn (kh13 _ _ ?_)
    clear kh13
    refine f_seq fun K14 kh14 => ?_
    refine f_seq fun K15 kh15 => ?_
    refine f_region ?_
    refine f_stepP rfl rfl rfl (o_move rfl) ?_
    refine f_stepP rfl rfl rfl (o_neq rfl rfl) ?_
    refine f_stepP rfl rfl rfl (o_move rfl) ?_
    refine f_splitL 51 rfl (fun g51 => ?_) (fun g51 => ?_)
    ·
     obtain rfl := hOE (by simpa using g51)
     refine f_stepN rfl rfl rfl rfl rfl rfl ?_
     refine f_stepN rfl rfl rfl rfl rfl rfl ?_
     refine f_stepP rfl rfl rfl (o_pickT rfl rfl) ?_
     refine f_done ?_
     refine f_tn (kh15 _ _ ?_)
     clear kh15
     refine f_condT rfl ?_
     refine f_seq fun K16 kh16 => ?_
     refine f_region ?_
     refine f_stepP rfl rfl rfl (o_move rfl) ?_
     refine f_stepP rfl rfl rfl (o_move rfl) ?_
     refine f_stepP rfl rfl rfl (o_eql rfl rfl) ?_
     refine f_stepP rfl rfl rfl (o_move rfl) ?_
     refine f_trueL 58 rfl (rfl) ?_
     refine f_stepPY rfl rfl rfl rfl rfl (o_move rfl) ?_
     refine f_stepPY rfl rfl rfl rfl rfl (o_len sl25 rfl) ?_
     refine f_stepPY rfl rfl rfl rfl rfl (o_eql rfl rfl) ?_
     refine f_stepP rfl rfl rfl (o_pickT rfl rfl) ?_
     refine f_stepP rfl rfl rfl (o_assign rfl) ?_
     refine f_done ?_
     refine f_tn (kh16 _ _ ?_)
     clear kh16
     refine f_ret ?_
     refine f_tr ?_
     refine f_br ?_
     refine f_tr ?_
     refine f_tr ?_
     refine f_br ?_
     refine f_tr ?_
     exact f_fin1 [] Try.results3 rfl Sub.nil ⟨by rfl, rfl⟩
    ·
     have hlz : lkE N l bs (rowsL R) ((k : Int) + 1) = 0 := by simpa using g51
     obtain ⟨n, k', rfl, hNo, hqk, hkb⟩ := lkE_zero hlz
     obtain rfl : k = k' := by omega
     obtain ⟨hn1, hn2, hlen, hgd⟩ := gcheck_zero hNo.g
     have hmany := hNo.many
     have hk : k < bs.length := by omega
     have hlenk := hNo.rowlen hk
     have hRk := hNo.right hk
     have hrng := right_range hRk (by omega)
     obtain ⟨m, hm⟩ : ∃ m : Nat, maxL ((rowsL R).getD k []) + 1 = (m : Int) := ⟨(maxL ((rowsL R).getD k []) + 1).toNat, by have := hrng _ (List.getElem_mem (show 0 < ((rowsL R).getD k []).length by omega)); have := le_maxL (List.getElem_mem (show 0 < ((rowsL R).getD k []).length by omega)); omega⟩
     have hmn : m ≤ n := by have := (hrng _ (List.getElem_mem (show 0 < ((rowsL R).getD k []).length by omega))).2.2; omega
     have hO1 := hO0 hlz
     rw [show ((k : Int) + 1).toNat - 1 = k by omega] at hO1
     obtain rfl := hO1
     have hOl := idxs_len_leC (unP ((rowsL R).getD k [])) l
     have hlab := fun v (hv : v < n) => row_lab hNo hk (v := v) hv
     have hsrc : ∀ a ∈ l, a.src.toNat < n ∧ a.dst.toNat < n := fun a ha => by
       obtain ⟨i, hi, rfl⟩ := List.mem_iff_getElem.1 ha
       have := hgd i hi
       omega
     refine f_stepPY rfl rfl rfl rfl rfl (o_move rfl) ?_
     refine f_stepPY rfl rfl rfl rfl rfl (o_neq rfl rfl) ?_
     refine f_stepP rfl rfl rfl (o_pickF rfl rfl) ?_
     refine f_done ?_
     refine f_tn (kh15 _ _ ?_)
     clear kh15
     refine f_condN rfl (by simpa using hlz) ?_
     refine f_skip ?_
     refine f_tn (kh14 _ _ ?_)
     clear kh14
     refine f_seq fun K17 kh17 => ?_
     refine f_region ?_
     refine f_reL 8 rfl (v := .int .i64 (m : Int)) (by rw [if_neg (by rw [hlz]; simp), show ((k : Int) + 1).toNat - 1 = k by omega, hm]) ?_
     refine f_stepP rfl rfl rfl (o_field fa24_0 rfl) ?_
     refine f_stepP rfl rfl rfl (o_load Try.isAgg3 rfl (rdA rfl)) ?_
     refine f_step rfl rfl rfl (o_make el36 rfl rfl n rfl (by omega) (by omega) (boolsJ (List.replicate n false)) (reps_J n false) fun b65 => ?_)
     refine f_stepP rfl rfl rfl (o_assign rfl) ?_
     refine f_done ?_
     refine f_tn (kh17 _ _ ?_)
     clear kh17
     refine f_seq fun K18 kh18 => ?_
     refine f_seq fun K19 kh19 => ?_
     refine f_region ?_
     refine f_stepP rfl rfl rfl (o_move rfl) ?_
     refine f_stepP rfl rfl rfl (o_len sl25 rfl) ?_
     refine f_stepP rfl rfl rfl (o_move rfl) ?_
     refine f_done ?_
     refine f_tn (kh19 _ _ ?_)
     clear kh19
     refine f_block ?_
     refine f_loop (α := Nat × List Bool) [2, 3, 5, 8, 10, 66, 67] (fun ⟨i, es⟩ => [(68, .int .i64 (i : Int))]) (fun ⟨i, es⟩ => [[(b65, blk (boolsJ es) 4)], mO, [(b2, blk [.int .i64 (n : Int), .slice A l.length cap] 24)], [(b3, blk [.slice Ab bs.length cb, .slice Ac R.length cc] 28)]]) (fun ⟨i, es⟩ => i ≤ (idxs (unP ((rowsL R).getD k [])) l).length ∧ es.length = n ∧ ∀ v, v < n → es.getD v false = tch l ((idxs (unP ((rowsL R).getD k [])) l).take i) v) (fun ⟨i, es⟩ => (idxs (unP ((rowsL R).getD k [])) l).length - i) (0, List.replicate n false) ?_ ?_ ?_ ?_
     · exact (by repeat (first | exact trivial | refine ⟨rfl, ?_⟩))
     · repeat (first | exact Sub.nil | refine Sub.pick ?_ | refine Sub.castO rfl ?_ | refine Sub.skip ?_)
     · exact ⟨Nat.zero_le _, by simp, fun v hv => by simp [tch, List.getD_eq_getElem?_getD, hv]⟩
     ·
      rintro ⟨i, es⟩ ⟨hil, hel, hes⟩
      refine f_envC (e := [(68, _), (2, _), (3, _), (5, _), (8, _), (10, _), (66, _), (67, _)]) (by repeat (first | exact trivial | refine ⟨rfl, ?_⟩)) ?_
      refine f_seq fun K20 kh20 => ?_
      refine f_region ?_
      refine f_stepP rfl rfl rfl (o_lss rfl rfl) ?_
      refine f_done ?_
      refine f_tn (kh20 _ _ ?_)
      clear kh20
      refine f_seq fun K21 kh21 => ?_
      refine f_cond rfl (fun c69 => ?_) (fun c69 => ?_)
      ·
       have hi : i < (idxs (unP ((rowsL R).getD k [])) l).length := by omega
       obtain ⟨bO, spO, rfl, rfl⟩ := hoO.at_ (by omega)
       obtain ⟨u, hu, hxu, hpu⟩ := idxs_memC.1 (List.getElem_mem hi)
       obtain ⟨bl, off, rfl, hS, hc⟩ := hr (flat_ne arcCs arcCs_len (by omega) hu)
       have hgu := hgd u hu
       obtain ⟨s, hs⟩ : ∃ s : Nat, l[u].src = (s : Int) := ⟨l[u].src.toNat, by omega⟩
       obtain ⟨d, hd⟩ : ∃ d : Nat, l[u].dst = (d : Int) := ⟨l[u].dst.toNat, by omega⟩
       refine f_skip ?_
       refine f_tn (kh21 _ _ ?_)
       clear kh21
       refine f_seq fun K22 kh22 => ?_
       refine f_block ?_
       refine f_seq fun K23 kh23 => ?_
       refine f_region ?_
       refine f_stepP rfl rfl rfl (o_idx sl25 rfl rfl (i) ⟨by omega, by omega, by first | omega | (simp; done) | (simp; omega)⟩) ?_
       refine f_stepP rfl rfl rfl (o_load Try.isAgg3 rfl (rdA (v := .int .i64 (u : Int)) (app_get (by rw [ints_get hi, hxu])))) ?_
       refine f_stepP rfl rfl rfl (o_assign rfl) ?_
       refine f_done ?_
       refine f_tn (kh23 _ _ ?_)
       clear kh23
       refine f_regionH [[(bO, blk (ints (idxs (unP ((rowsL R).getD k [])) l) ++ spO) 3)], [(b2, blk [.int .i64 (n : Int), .slice (some ⟨bl, off, none⟩) l.length cap] 24)], [(b3, blk [.slice Ab bs.length cb, .slice Ac R.length cc] 28)]] rfl ?_
       refine f_take 0 rfl (by decide +kernel) rfl rfl rfl (by repeat (first | exact Sub.nil | refine Sub.pick ?_ | refine Sub.castO rfl ?_ | refine Sub.skip ?_)) (o_move rfl) ?_
       refine f_take 1 rfl (by decide +kernel) rfl rfl rfl (by repeat (first | exact Sub.nil | refine Sub.pick ?_ | refine Sub.castO rfl ?_ | refine Sub.skip ?_)) (o_field fa24_1 rfl) ?_
       refine f_take 2 rfl (by decide +kernel) rfl rfl rfl (by repeat (first | exact Sub.nil | refine Sub.pick ?_ | refine Sub.castO rfl ?_ | refine Sub.skip ?_)) (o_load Try.isAgg22 rfl (rdA rfl)) ?_
       refine f_take 3 rfl (by decide +kernel) rfl rfl rfl (by repeat (first | exact Sub.nil | refine Sub.pick ?_ | refine Sub.castO rfl ?_ | refine Sub.skip ?_)) (o_move rfl) ?_
       refine f_take 4 rfl (by decide +kernel) rfl rfl rfl (by repeat (first | exact Sub.nil | refine Sub.pick ?_ | refine Sub.castO rfl ?_ | refine Sub.skip ?_)) (o_idx sl22 rfl rfl (off + u * 3) ⟨by omega, by omega, by first | omega | (simp; done) | (simp; omega)⟩) ?_
       refine f_take 5 rfl (by decide +kernel) rfl rfl rfl (by repeat (first | exact Sub.nil | refine Sub.pick ?_ | refine Sub.castO rfl ?_ | refine Sub.skip ?_)) (o_field fa39_0 rfl) ?_
       refine f_take 6 rfl (by decide +kernel) rfl rfl rfl (by repeat (first | exact Sub.nil | refine Sub.pick ?_ | refine Sub.castO rfl ?_ | refine Sub.skip ?_)) (o_load Try.isAgg3 rfl (show Rd _ _ _ _ _ (.int .i64 (s : Int)) by rw [← hs]; exact (roElem arcCs_len hS hc hu).1)) ?_
       refine f_take 7 rfl (by decide +kernel) rfl rfl rfl (by repeat (first | exact Sub.nil | refine Sub.pick ?_ | refine Sub.castO rfl ?_ | refine Sub.skip ?_)) (o_move rfl) ?_
       refine f_take 8 rfl (by decide +kernel) rfl rfl rfl (by repeat (first | exact Sub.nil | refine Sub.pick ?_ | refine Sub.castO rfl ?_ | refine Sub.skip ?_)) (o_field fa24_1 rfl) ?_
       refine f_take 9 rfl (by decide +kernel) rfl rfl rfl (by repeat (first | exact Sub.nil | refine Sub.pick ?_ | refine Sub.castO rfl ?_ | refine Sub.skip ?_)) (o_load Try.isAgg22 rfl (rdA rfl)) ?_
       refine f_take 10 rfl (by decide +kernel) rfl rfl rfl (by repeat (first | exact Sub.nil | refine Sub.pick ?_ | refine Sub.castO rfl ?_ | refine Sub.skip ?_)) (o_move rfl) ?_
       refine f_take 11 rfl (by decide +kernel) rfl rfl rfl (by repeat (first | exact Sub.nil | refine Sub.pick ?_ | refine Sub.castO rfl ?_ | refine Sub.skip ?_)) (o_idx sl22 rfl rfl (off + u * 3) ⟨by omega, by omega, by first | omega | (simp; done) | (simp; omega)⟩) ?_
       refine f_take 12 rfl (by decide +kernel) rfl rfl rfl (by repeat (first | exact Sub.nil | refine Sub.pick ?_ | refine Sub.castO rfl ?_ | refine Sub.skip ?_)) (o_field fa39_1 rfl) ?_
       refine f_take 13 rfl (by decide +kernel) rfl rfl rfl (by repeat (first | exact Sub.nil | refine Sub.pick ?_ | refine Sub.castO rfl ?_ | refine Sub.skip ?_)) (o_load Try.isAgg3 rfl (show Rd _ _ _ _ _ (.int .i64 (d : Int)) by rw [← hd]; exact (roElem arcCs_len hS hc hu).2.1)) ?_
       refine f_take 14 rfl (by decide +kernel) rfl rfl rfl (by repeat (first | exact Sub.nil | refine Sub.pick ?_ | refine Sub.castO rfl ?_ | refine Sub.skip ?_)) (o_idx sl36 rfl rfl (s) ⟨by omega, by omega, by first | omega | (simp; done) | (simp; omega)⟩) ?_
       refine f_only0 15 rfl (by decide +kernel) rfl rfl (o_store Try.sizeOf4 rfl rfl rfl rfl (by simp [boolsJ]; omega) (boolsJ (es.set s true)) (by rw [boolsJ_set]) ⟨(by repeat (first | exact Sub.nil | refine Sub.pick ?_ | refine Sub.castO rfl ?_ | refine Sub.skip ?_)), ?_⟩)
       refine f_take 16 rfl (by decide +kernel) rfl rfl rfl (by repeat (first | exact Sub.nil | refine Sub.pick ?_ | refine Sub.castO rfl ?_ | refine Sub.skip ?_)) (o_idx sl36 rfl rfl (d) ⟨by omega, by omega, by first | omega | (simp; done) | (simp; omega)⟩) ?_
       refine f_only0 17 rfl (by decide +kernel) rfl rfl (o_store Try.sizeOf4 rfl rfl rfl rfl (by simp [boolsJ]; omega) (boolsJ ((es.set s true).set d true)) (by rw [boolsJ_set]) ⟨(by repeat (first | exact Sub.nil | refine Sub.pick ?_ | refine Sub.castO rfl ?_ | refine Sub.skip ?_)), ?_⟩)
       refine f_over (by decide +kernel) ?_
       refine f_bn ?_
       refine f_tn (kh22 _ _ ?_)
       clear kh22
       refine f_region ?_
       refine f_stepP rfl rfl rfl (o_add rfl rfl _ (wrap_i64 (by omega))) ?_
       refine f_stepP rfl rfl rfl (o_move rfl) ?_
       refine f_done ?_
       refine f_tn (f_again (i + 1, (es.set s true).set d true) (by first | omega | (dsimp only; omega) | (simp; omega)) ⟨by omega, by simpa using hel, fun v hv => by
         rw [getD_setJ (by rw [List.length_set]; omega), getD_setJ (by omega), tch_next hi hxu hu, hes v hv, hs, hd]
         by_cases e1 : d = v
         · subst e1; simp
         · rw [if_neg e1, decide_eq_false (p := (d : Int) = (v : Int)) (by omega)]
           by_cases e2 : s = v
           · subst e2; simp
           · rw [if_neg e2, decide_eq_false (p := (s : Int) = (v : Int)) (by omega)]; simp⟩ ?_ ?_ ?_)
       · exact (by repeat (first | exact trivial | refine ⟨rfl, ?_⟩))
       · exact (by repeat (first | exact trivial | refine ⟨rfl, ?_⟩))
       · repeat (first | exact Sub.nil | refine Sub.pick ?_ | refine Sub.castO rfl ?_ | refine Sub.skip ?_)
      ·
       obtain rfl : i = (idxs (unP ((rowsL R).getD k [])) l).length := by omega
       rw [List.take_length] at hes
       refine f_exit ?_
       refine f_te ?_
       clear kh21
       refine f_te ?_
       refine f_be ?_
       refine f_tn (kh18 _ _ ?_)
       clear kh18
       refine f_seq fun K24 kh24 => ?_
       refine f_seq fun K25 kh25 => ?_
       refine f_region ?_
       refine f_stepP rfl rfl rfl (o_move rfl) ?_
       refine f_stepP rfl rfl rfl (o_move rfl) ?_
       refine f_done ?_
       refine f_tn (kh25 _ _ ?_)
       clear kh25
       refine f_block ?_
       refine f_loop (α := Nat × List Bool) [2, 3, 5, 10, 89] (fun ⟨c, es⟩ => [(90, .int .i64 (c : Int))]) (fun ⟨c, es⟩ => [[(b65, blk (boolsJ es) 4)], [(b2, blk [.int .i64 (n : Int), .slice A l.length cap] 24)], [(b3, blk [.slice Ab bs.length cb, .slice Ac R.length cc] 28)]]) (fun ⟨c, es⟩ => c ≤ m ∧ es.length = n ∧ ∀ v, v < n → es.getD v false = lfB ((rowsL R).getD k []) l c v) (fun ⟨c, es⟩ => m - c) (0, es) ?_ ?_ ?_ ?_
       · exact (by repeat (first | exact trivial | refine ⟨rfl, ?_⟩))
       · repeat (first | exact Sub.nil | refine Sub.pick ?_ | refine Sub.castO rfl ?_ | refine Sub.skip ?_)
       · exact ⟨Nat.zero_le _, hel, fun v hv => by rw [hes v hv, tch_all, lfB_zero (hlab v hv).1]⟩
       ·
        rintro ⟨c, es⟩ ⟨hcm0, hel, hes⟩
        refine f_envC (e := [(90, _), (2, _), (3, _), (5, _), (10, _), (89, _)]) (by repeat (first | exact trivial | refine ⟨rfl, ?_⟩)) ?_
        refine f_seq fun K26 kh26 => ?_
        refine f_region ?_
        refine f_stepP rfl rfl rfl (o_lss rfl rfl) ?_
        refine f_done ?_
        refine f_tn (kh26 _ _ ?_)
        clear kh26
        refine f_seq fun K27 kh27 => ?_
        refine f_cond rfl (fun c91 => ?_) (fun c91 => ?_)
        ·
         have hce := clE_ok hNo hk (c := (c : Int)) ⟨by omega, by omega⟩
         refine f_skip ?_
         refine f_tn (kh27 _ _ ?_)
         clear kh27
         refine f_seq fun K28 kh28 => ?_
         refine f_block ?_
         refine f_seq fun K29 kh29 => ?_
         refine f_region ?_
         refine f_stepP rfl rfl rfl (o_move rfl) ?_
         refine f_stepP rfl rfl rfl (o_assign rfl) ?_
         refine f_done ?_
         refine f_tn (kh29 _ _ ?_)
         clear kh29
         refine f_seq fun K30 kh30 => ?_
         refine f_region ?_
         refine f_stepP rfl rfl rfl (o_loadA (vs := [_, _]) Try.isAgg24 Try.sizeOf24 rfl rfl ⟨(rdA rfl), (rdA rfl), trivial⟩) ?_
         refine f_stepP rfl rfl rfl (o_loadA (vs := [_, _]) Try.isAgg28 Try.sizeOf28 rfl rfl ⟨(rdA rfl), (rdA rfl), trivial⟩) ?_
         refine f_stepP rfl rfl rfl (o_move rfl) ?_
         refine f_stepP rfl rfl rfl (o_move rfl) ?_
         refine f_step rfl rfl rfl (o_call Try.call11 rfl (fun w_ hp_ => (by have h := CBoundary_spec (n : Int) A l cap Ab bs cb Ac R cc ((k : Int) + 1) (c : Int) w_ (hr.up0 hp_) hl hN hok (hn.up0 hp_); rw [hce, show ((k : Int) + 1).toNat - 1 = k by omega] at h; exact h)) ?_)
         rintro _ _ ⟨D_, AD, cD, mD, rfl, rfl, hoD, _, hD0⟩
         obtain rfl := hD0 rfl
         have hDl := bdL_len ((rowsL R).getD k []) (c : Int) l
         dsimp only [List.cons_append, List.nil_append]
         refine f_stepP rfl rfl rfl (o_move rfl) ?_
         refine f_stepP rfl rfl rfl (o_extract rfl rfl) ?_
         refine f_stepP rfl rfl rfl (o_extract rfl rfl) ?_
         refine f_stepP rfl rfl rfl (o_assign rfl) ?_
         refine f_stepP rfl rfl rfl (o_assign rfl) ?_
         refine f_done ?_
         refine f_tn (kh30 _ _ ?_)
         clear kh30
         refine f_seq fun K31 kh31 => ?_
         refine f_seq fun K32 kh32 => ?_
         refine f_region ?_
         refine f_stepP rfl rfl rfl (o_move rfl) ?_
         refine f_stepP rfl rfl rfl (o_neq rfl rfl) ?_
         refine f_done ?_
         refine f_tn (kh32 _ _ ?_)
         clear kh32
         refine f_condN rfl (by simp) ?_
         refine f_skip ?_
         refine f_tn (kh31 _ _ ?_)
         clear kh31
         refine f_seq fun K33 kh33 => ?_
         refine f_region ?_
         refine f_stepP rfl rfl rfl (o_move rfl) ?_
         refine f_stepP rfl rfl rfl (o_len sl25 rfl) ?_
         refine f_stepP rfl rfl rfl (o_move rfl) ?_
         refine f_done ?_
         refine f_tn (kh33 _ _ ?_)
         clear kh33
         refine f_block ?_
         refine f_loop (α := Nat × List Bool) [2, 3, 5, 10, 13, 89, 90, 103, 104] (fun ⟨j, es⟩ => [(105, .int .i64 (j : Int))]) (fun ⟨j, es⟩ => [[(b65, blk (boolsJ es) 4)], mD, [(b2, blk [.int .i64 (n : Int), .slice A l.length cap] 24)], [(b3, blk [.slice Ab bs.length cb, .slice Ac R.length cc] 28)]]) (fun ⟨j, es⟩ => j ≤ (bdL ((rowsL R).getD k []) (c : Int) l).length ∧ es.length = n ∧ ∀ v, v < n → es.getD v false = lfC ((rowsL R).getD k []) l c j v) (fun ⟨j, es⟩ => (bdL ((rowsL R).getD k []) (c : Int) l).length - j) (0, es) ?_ ?_ ?_ ?_
         · exact (by repeat (first | exact trivial | refine ⟨rfl, ?_⟩))
         · repeat (first | exact Sub.nil | refine Sub.pick ?_ | refine Sub.castO rfl ?_ | refine Sub.skip ?_)
         · exact ⟨Nat.zero_le _, hel, fun v hv => by rw [hes v hv, lfC_zero]⟩
         ·
          rintro ⟨j, es⟩ ⟨hjl, hel, hes⟩
          refine f_envC (e := [(105, _), (2, _), (3, _), (5, _), (10, _), (13, _), (89, _), (90, _), (103, _), (104, _)]) (by repeat (first | exact trivial | refine ⟨rfl, ?_⟩)) ?_
          refine f_seq fun K34 kh34 => ?_
          refine f_region ?_
          refine f_stepP rfl rfl rfl (o_lss rfl rfl) ?_
          refine f_done ?_
          refine f_tn (kh34 _ _ ?_)
          clear kh34
          refine f_seq fun K35 kh35 => ?_
          refine f_cond rfl (fun c106 => ?_) (fun c106 => ?_)
          ·
           have hj : j < (bdL ((rowsL R).getD k []) (c : Int) l).length := by omega
           obtain ⟨bD, spD, rfl, rfl⟩ := hoD.at_ (by omega)
           obtain ⟨v, hv, hvn⟩ := bdL_nat hgd (List.getElem_mem hj)
           have hvm : (v : Int) ∈ (bdL ((rowsL R).getD k []) (c : Int) l) := by rw [← hv]; exact List.getElem_mem hj
           have hbv := bdL_iff.1 hvm
           have hesv : es.getD v false = true := by rw [hes v hvn]; exact lfC_here hj hv
           have hix : ixE (n : Int) l bs (rowsL R) ((k : Int) + 1) (c : Int) (v : Int) = 0 := by unfold ixE; rw [hce, if_neg (by simp), show ((k : Int) + 1).toNat - 1 = k by omega, if_pos hvm]
           refine f_skip ?_
           refine f_tn (kh35 _ _ ?_)
           clear kh35
           refine f_seq fun K36 kh36 => ?_
           refine f_block ?_
           refine f_seq fun K37 kh37 => ?_
           refine f_region ?_
           refine f_stepP rfl rfl rfl (o_move rfl) ?_
           refine f_stepP rfl rfl rfl (o_idx sl25 rfl rfl (j) ⟨by omega, by omega, by first | omega | (simp; done) | (simp; omega)⟩) ?_
           refine f_stepP rfl rfl rfl (o_load Try.isAgg3 rfl (rdA (v := .int .i64 (v : Int)) (app_get (by rw [ints_get hj, hv])))) ?_
           refine f_stepP rfl rfl rfl (o_assign rfl) ?_
           refine f_stepP rfl rfl rfl (o_assign rfl) ?_
           refine f_done ?_
           refine f_tn (kh37 _ _ ?_)
           clear kh37
           refine f_seq fun K38 kh38 => ?_
           refine f_region ?_
           refine f_stepP rfl rfl rfl (o_loadA (vs := [_, _]) Try.isAgg24 Try.sizeOf24 rfl rfl ⟨(rdA rfl), (rdA rfl), trivial⟩) ?_
           refine f_stepP rfl rfl rfl (o_loadA (vs := [_, _]) Try.isAgg28 Try.sizeOf28 rfl rfl ⟨(rdA rfl), (rdA rfl), trivial⟩) ?_
           refine f_stepP rfl rfl rfl (o_move rfl) ?_
           refine f_stepP rfl rfl rfl (o_move rfl) ?_
           refine f_stepP rfl rfl rfl (o_move rfl) ?_
           refine f_step rfl rfl rfl (o_call Try.call12 rfl (fun w_ hp_ => (by have h := CIndex_spec (n : Int) A l cap Ab bs cb Ac R cc ((k : Int) + 1) (c : Int) (v : Int) w_ (hr.up0 hp_) hl hN hok (hn.up0 hp_); rw [hix, show ((k : Int) + 1).toNat - 1 = k by omega] at h; exact h)) ?_)
           rintro _ _ ⟨ji, rfl, rfl, _, hi0⟩
           have hji := rise_at (bdL_rising _ _ _) hj (hi0 rfl) hv
           obtain rfl : j = ji := by omega
           dsimp only [List.cons_append, List.nil_append]
           refine f_stepP rfl rfl rfl (o_move rfl) ?_
           refine f_stepP rfl rfl rfl (o_extract rfl rfl) ?_
           refine f_stepP rfl rfl rfl (o_extract rfl rfl) ?_
           refine f_stepP rfl rfl rfl (o_assign rfl) ?_
           refine f_stepP rfl rfl rfl (o_assign rfl) ?_
           refine f_done ?_
           refine f_tn (kh38 _ _ ?_)
           clear kh38
           refine f_seq fun K39 kh39 => ?_
           refine f_seq fun K40 kh40 => ?_
           refine f_region ?_
           refine f_stepP rfl rfl rfl (o_move rfl) ?_
           refine f_stepP rfl rfl rfl (o_move rfl) ?_
           refine f_stepP rfl rfl rfl (o_idx sl36 rfl rfl (v) ⟨by omega, by omega, by first | omega | (simp; done) | (simp; omega)⟩) ?_
           refine f_stepP rfl rfl rfl (o_load Try.isAgg4 rfl (rdA (v := .bool true) (by rw [boolsJ_at (by omega), hesv]))) ?_
           refine f_stepP rfl rfl rfl (o_not rfl) ?_
           refine f_stepP rfl rfl rfl (o_move rfl) ?_
           refine f_reL 124 rfl (v := .bool false) rfl ?_
           refine f_stepPY rfl rfl rfl rfl rfl (o_move rfl) ?_
           refine f_stepPY rfl rfl rfl rfl rfl (o_neq rfl rfl) ?_
           refine f_stepP rfl rfl rfl (o_pickF rfl rfl) ?_
           refine f_stepP rfl rfl rfl (o_move rfl) ?_
           refine f_falseL 128 rfl (by simp) ?_
           refine f_stepPY rfl rfl rfl rfl rfl (o_move rfl) ?_
           refine f_stepPY rfl rfl rfl rfl rfl (o_move rfl) ?_
           refine f_stepPY rfl rfl rfl rfl rfl (o_neq rfl rfl) ?_
           refine f_stepP rfl rfl rfl (o_pickF rfl rfl) ?_
           refine f_done ?_
           refine f_tn (kh40 _ _ ?_)
           clear kh40
           refine f_condN rfl (by omega) ?_
           refine f_skip ?_
           refine f_tn (kh39 _ _ ?_)
           clear kh39
           refine f_seq fun K41 kh41 => ?_
           refine f_region ?_
           refine f_stepP rfl rfl rfl (o_move rfl) ?_
           refine f_stepP rfl rfl rfl (o_move rfl) ?_
           refine f_stepP rfl rfl rfl (o_idx sl36 rfl rfl (v) ⟨by omega, by omega, by first | omega | (simp; done) | (simp; omega)⟩) ?_
           refine f_step0 rfl rfl (o_store Try.sizeOf4 rfl rfl rfl rfl (by simp [boolsJ]; omega) (boolsJ (es.set v false)) (by rw [boolsJ_set]) ?_)
           refine f_done ?_
           refine f_tn (kh41 _ _ ?_)
           clear kh41
           refine f_seq fun K42 kh42 => ?_
           refine f_region ?_
           refine f_stepP rfl rfl rfl (o_move rfl) ?_
           refine f_stepP rfl rfl rfl (o_gtr rfl rfl) ?_
           refine f_done ?_
           refine f_tn (kh42 _ _ ?_)
           clear kh42
           refine f_cond rfl (fun c137 => ?_) (fun c137 => ?_)
           ·
            obtain ⟨k1, hk1⟩ : ∃ k1, k = k1 + 1 := ⟨k - 1, by omega⟩
            have hRl := hNo.len
            rw [rowsL_len] at hRl
            have hkR1 : k1 < R.length := by omega
            have hlen1 := hNo.rowlen (k := k1) (by omega)
            have hlab1 := fun v (hv : v < n) => row_lab hNo (show k1 < bs.length by omega) (v := v) hv
            obtain ⟨y, hy⟩ : ∃ y : Nat, ((rowsL R).getD k1 []).getD v 0 = (y : Int) := ⟨(((rowsL R).getD k1 []).getD v 0).toNat, by have := hlab1 v hvn; omega⟩
            have hcy := clE_ok hNo (show k1 < bs.length by omega) (c := (y : Int)) ⟨by omega, by have := hlab1 v hvn; omega⟩
            obtain ⟨b4, o4, hA4, hS4, hc4⟩ := hn.c (map_ne hkR1)
            have hrow1 := hn.rows _ (List.getElem_mem hkR1)
            have hrk1 := rowsL_at hkR1
            have hlr1 : (R[k1]'hkR1).2.1.length = n := by rw [← hrk1]; exact hlen1
            obtain ⟨b5, o5, hA5, hS5, hc5⟩ := hrow1.1 (fun e => by have := ints_length (R[k1]'hkR1).2.1; rw [e] at this; simp at this; omega)
            have hvr : v < (R[k1]'hkR1).2.1.length := by omega
            have hgy : (R[k1]'hkR1).2.1[v] = (y : Int) := by rw [← hy, hrk1, List.getD_eq_getElem?_getD, List.getElem?_eq_getElem hvr]; rfl
            have hwi : ∀ a ∈ l, ((rowsL R).getD k1 []).getD a.src.toNat 0 = ((rowsL R).getD k1 []).getD a.dst.toNat 0 → ((rowsL R).getD k []).getD a.src.toNat 0 = ((rowsL R).getD k []).getD a.dst.toNat 0 := fun a ha e => by
              subst hk1
              exact ch_within hNo hk (hsrc a ha).1 (hsrc a ha).2 e
            have hlowm : (v : Int) ∈ bdL ((rowsL R).getD k1 []) (y : Int) l := bdL_iff.2 ⟨bndB_low hwi hbv.1, hy⟩
            refine f_seq fun K43 kh43 => ?_
            refine f_regionH [[(b65, blk (boolsJ (es.set v false)) 4)], [(bD, blk (ints (bdL ((rowsL R).getD k []) (c : Int) l) ++ spD) 3)], [(b2, blk [.int .i64 (n : Int), .slice A l.length cap] 24)], [(b3, blk [.slice Ab bs.length cb, .slice Ac R.length cc] 28)]] rfl ?_
            refine f_take 0 rfl (by decide +kernel) rfl rfl rfl (by repeat (first | exact Sub.nil | refine Sub.pick ?_ | refine Sub.castO rfl ?_ | refine Sub.skip ?_)) (o_loadA (vs := [_, _]) Try.isAgg24 Try.sizeOf24 rfl rfl ⟨(rdA rfl), (rdA rfl), trivial⟩) ?_
            refine f_take 1 rfl (by decide +kernel) rfl rfl rfl (by repeat (first | exact Sub.nil | refine Sub.pick ?_ | refine Sub.castO rfl ?_ | refine Sub.skip ?_)) (o_loadA (vs := [_, _]) Try.isAgg28 Try.sizeOf28 rfl rfl ⟨(rdA rfl), (rdA rfl), trivial⟩) ?_
            refine f_take 2 rfl (by decide +kernel) rfl rfl rfl (by repeat (first | exact Sub.nil | refine Sub.pick ?_ | refine Sub.castO rfl ?_ | refine Sub.skip ?_)) (o_move rfl) ?_
            refine f_take 3 rfl (by decide +kernel) rfl rfl rfl (by repeat (first | exact Sub.nil | refine Sub.pick ?_ | refine Sub.castO rfl ?_ | refine Sub.skip ?_)) (o_sub rfl rfl _ (Eq.trans (wrap_i64 (by omega)) (show _ = ((k1 : Int) + 1) by omega))) ?_
            refine f_take 4 rfl (by decide +kernel) rfl rfl rfl (by repeat (first | exact Sub.nil | refine Sub.pick ?_ | refine Sub.castO rfl ?_ | refine Sub.skip ?_)) (o_field fa28_1 rfl) ?_
            refine f_take 5 rfl (by decide +kernel) rfl rfl rfl (by repeat (first | exact Sub.nil | refine Sub.pick ?_ | refine Sub.castO rfl ?_ | refine Sub.skip ?_)) (o_load Try.isAgg26 rfl (v := .slice (some ⟨b4, o4, none⟩) R.length cc) (rdA (by rw [← hA4]; rfl))) ?_
            refine f_take 6 rfl (by decide +kernel) rfl rfl rfl (by repeat (first | exact Sub.nil | refine Sub.pick ?_ | refine Sub.castO rfl ?_ | refine Sub.skip ?_)) (o_move rfl) ?_
            refine f_take 7 rfl (by decide +kernel) rfl rfl rfl (by repeat (first | exact Sub.nil | refine Sub.pick ?_ | refine Sub.castO rfl ?_ | refine Sub.skip ?_)) (o_sub rfl rfl _ (Eq.trans (wrap_i64 (by omega)) (show _ = (k1 : Int) by omega))) ?_
            refine f_take 8 rfl (by decide +kernel) rfl rfl rfl (by repeat (first | exact Sub.nil | refine Sub.pick ?_ | refine Sub.castO rfl ?_ | refine Sub.skip ?_)) (o_idx sl26 rfl rfl (o4 + k1) ⟨by omega, by omega, by first | omega | (simp; done) | (simp; omega)⟩) ?_
            refine f_take 9 rfl (by decide +kernel) rfl rfl rfl (by repeat (first | exact Sub.nil | refine Sub.pick ?_ | refine Sub.castO rfl ?_ | refine Sub.skip ?_)) (o_load Try.isAgg25 rfl (v := .slice (some ⟨b5, o5, none⟩) (R[k1]'hkR1).2.1.length (R[k1]'hkR1).2.2) (show Rd _ _ _ _ _ (Value.slice (some ⟨b5, o5, none⟩) (R[k1]'hkR1).2.1.length (R[k1]'hkR1).2.2) by rw [← hA5]; exact roOne (enc := rowV) hS4 hc4 hkR1)) ?_
            refine f_take 10 rfl (by decide +kernel) rfl rfl rfl (by repeat (first | exact Sub.nil | refine Sub.pick ?_ | refine Sub.castO rfl ?_ | refine Sub.skip ?_)) (o_move rfl) ?_
            refine f_take 11 rfl (by decide +kernel) rfl rfl rfl (by repeat (first | exact Sub.nil | refine Sub.pick ?_ | refine Sub.castO rfl ?_ | refine Sub.skip ?_)) (o_idx sl25 rfl rfl (o5 + v) ⟨by omega, by omega, by first | omega | (simp; done) | (simp; omega)⟩) ?_
            refine f_take 12 rfl (by decide +kernel) rfl rfl rfl (by repeat (first | exact Sub.nil | refine Sub.pick ?_ | refine Sub.castO rfl ?_ | refine Sub.skip ?_)) (o_load Try.isAgg3 rfl (show Rd _ _ _ _ _ (.int .i64 (y : Int)) by rw [← hgy]; exact roOne (enc := (.int .i64 ·)) hS5 hc5 hvr)) ?_
            refine f_only 13 rfl (by decide +kernel) rfl rfl rfl (o_call Try.call11 rfl (fun w_ hp_ => (by have h := CBoundary_spec (n : Int) A l cap Ab bs cb Ac R cc ((k1 : Int) + 1) (y : Int) w_ (hr.up0 hp_) hl hN hok (hn.up0 hp_); rw [hcy, show ((k1 : Int) + 1).toNat - 1 = k1 by omega] at h; exact h)) ?_)
            rintro _ _ ⟨F_, AF, cF, mF, rfl, rfl, hoF, _, hF0⟩
            obtain rfl := hF0 rfl
            have hFl := bdL_len ((rowsL R).getD k1 []) (y : Int) l
            dsimp only [List.cons_append, List.nil_append]
            refine ⟨(by repeat (first | exact Sub.nil | refine Sub.pick ?_ | refine Sub.castO rfl ?_ | refine Sub.skip ?_)), ?_⟩
            refine f_take 14 rfl (by decide +kernel) rfl rfl rfl (by repeat (first | exact Sub.nil | refine Sub.pick ?_ | refine Sub.castO rfl ?_ | refine Sub.skip ?_)) (o_move rfl) ?_
            refine f_take 15 rfl (by decide +kernel) rfl rfl rfl (by repeat (first | exact Sub.nil | refine Sub.pick ?_ | refine Sub.castO rfl ?_ | refine Sub.skip ?_)) (o_extract rfl rfl) ?_
            refine f_take 16 rfl (by decide +kernel) rfl rfl rfl (by repeat (first | exact Sub.nil | refine Sub.pick ?_ | refine Sub.castO rfl ?_ | refine Sub.skip ?_)) (o_extract rfl rfl) ?_
            refine f_only 17 rfl (by decide +kernel) rfl rfl rfl ((o_assign rfl).does ⟨(by repeat (first | exact Sub.nil | refine Sub.pick ?_ | refine Sub.castO rfl ?_ | refine Sub.skip ?_)), ?_⟩)
            refine f_only 18 rfl (by decide +kernel) rfl rfl rfl ((o_assign rfl).does ⟨(by repeat (first | exact Sub.nil | refine Sub.pick ?_ | refine Sub.castO rfl ?_ | refine Sub.skip ?_)), ?_⟩)
            refine f_over (by decide +kernel) ?_
            refine f_tn (kh43 _ _ ?_)
            clear kh43
            refine f_seq fun K44 kh44 => ?_
            refine f_region ?_
            refine f_stepP rfl rfl rfl (o_move rfl) ?_
            refine f_stepP rfl rfl rfl (o_neq rfl rfl) ?_
            refine f_stepP rfl rfl rfl (o_move rfl) ?_
            refine f_falseL 157 rfl (by simp) ?_
            refine f_stepPY rfl rfl rfl rfl rfl (o_move rfl) ?_
            refine f_stepPY rfl rfl rfl rfl rfl (o_move rfl) ?_
            refine f_stepY rfl rfl rfl rfl rfl (o_call Try.call13 rfl (fun w_ hp_ => has_spec AF (bdL ((rowsL R).getD k1 []) (y : Int) l) (bdL ((rowsL R).getD k1 []) (y : Int) l).length (v : Int) w_ (seen_ro (hoF.seen hp_)) (by omega)) ?_)
            rintro _ _ ⟨rfl, rfl⟩
            dsimp only [List.cons_append, List.nil_append]
            refine f_stepPY rfl rfl rfl rfl rfl (o_not rfl) ?_
            refine f_stepP rfl rfl rfl (o_pickF rfl rfl) ?_
            refine f_reL 162 rfl (v := .bool false) (by rw [decide_eq_true hlowm]; rfl) ?_
            refine f_done ?_
            refine f_tn (kh44 _ _ ?_)
            clear kh44
            refine f_condF rfl ?_
            refine f_skip ?_
            refine f_bn ?_
            refine f_tn (kh36 _ _ ?_)
            clear kh36
            refine f_region ?_
            refine f_stepP rfl rfl rfl (o_add rfl rfl _ (wrap_i64 (by omega))) ?_
            refine f_stepP rfl rfl rfl (o_move rfl) ?_
            refine f_done ?_
            refine f_tn (f_again (j + 1, es.set v false) (by first | omega | (dsimp only; omega) | (simp; omega)) ⟨by omega, by simpa using hel, fun u hu => by rw [getD_setJ (by omega), lfC_next hj hv, hes u hu]⟩ ?_ ?_ ?_)
            · exact (by repeat (first | exact trivial | refine ⟨rfl, ?_⟩))
            · exact (by repeat (first | exact trivial | refine ⟨rfl, ?_⟩))
            · repeat (first | exact Sub.nil | refine Sub.pick ?_ | refine Sub.castO rfl ?_ | refine Sub.skip ?_)
           ·
            refine f_skip ?_
            refine f_bn ?_
            refine f_tn (kh36 _ _ ?_)
            clear kh36
            refine f_region ?_
            refine f_stepP rfl rfl rfl (o_add rfl rfl _ (wrap_i64 (by omega))) ?_
            refine f_stepP rfl rfl rfl (o_move rfl) ?_
            refine f_done ?_
            refine f_tn (f_again (j + 1, es.set v false) (by first | omega | (dsimp only; omega) | (simp; omega)) ⟨by omega, by simpa using hel, fun u hu => by rw [getD_setJ (by omega), lfC_next hj hv, hes u hu]⟩ ?_ ?_ ?_)
            · exact (by repeat (first | exact trivial | refine ⟨rfl, ?_⟩))
            · exact (by repeat (first | exact trivial | refine ⟨rfl, ?_⟩))
            · repeat (first | exact Sub.nil | refine Sub.pick ?_ | refine Sub.castO rfl ?_ | refine Sub.skip ?_)
          ·
           obtain rfl : j = (bdL ((rowsL R).getD k []) (c : Int) l).length := by omega
           refine f_exit ?_
           refine f_te ?_
           clear kh35
           refine f_te ?_
           refine f_be ?_
           refine f_bn ?_
           refine f_tn (kh28 _ _ ?_)
           clear kh28
           refine f_region ?_
           refine f_stepP rfl rfl rfl (o_add rfl rfl _ (wrap_i64 (by omega))) ?_
           refine f_stepP rfl rfl rfl (o_move rfl) ?_
           refine f_done ?_
           refine f_tn (f_again (c + 1, es) (by first | omega | (dsimp only; omega) | (simp; omega)) ⟨by omega, hel, fun v hv => by rw [hes v hv, lfC_all]⟩ ?_ ?_ ?_)
           · exact (by repeat (first | exact trivial | refine ⟨rfl, ?_⟩))
           · exact (by repeat (first | exact trivial | refine ⟨rfl, ?_⟩))
           · repeat (first | exact Sub.nil | refine Sub.pick ?_ | refine Sub.castO rfl ?_ | refine Sub.skip ?_)
        ·
         obtain rfl : m = c := by omega
         have hfin : ∀ v, v < n → es.getD v false = false := fun v hv => by rw [hes v hv]; exact lfB_all (by have := hlab v hv; omega)
         refine f_exit ?_
         refine f_te ?_
         clear kh27
         refine f_te ?_
         refine f_be ?_
         refine f_tn (kh24 _ _ ?_)
         clear kh24
         refine f_seq fun K45 kh45 => ?_
         refine f_region ?_
         refine f_stepP rfl rfl rfl (o_move rfl) ?_
         refine f_stepP rfl rfl rfl (o_len sl36 rfl) ?_
         refine f_stepP rfl rfl rfl (o_move rfl) ?_
         refine f_done ?_
         refine f_tn (kh45 _ _ ?_)
         clear kh45
         refine f_block ?_
         refine f_loop (α := Nat) [2, 3, 5, 165, 166] (fun v => [(167, .int .i64 (v : Int))]) (fun v => [[(b65, blk (boolsJ es) 4)], [(b2, blk [.int .i64 (n : Int), .slice A l.length cap] 24)], [(b3, blk [.slice Ab bs.length cb, .slice Ac R.length cc] 28)]]) (fun v => v ≤ n) (fun v => n - v) (0) ?_ ?_ ?_ ?_
         · exact (by repeat (first | exact trivial | refine ⟨rfl, ?_⟩))
         · repeat (first | exact Sub.nil | refine Sub.pick ?_ | refine Sub.castO rfl ?_ | refine Sub.skip ?_)
         · exact Nat.zero_le _
         ·
          rintro v hvl
          refine f_envC (e := [(167, _), (2, _), (3, _), (5, _), (165, _), (166, _)]) (by repeat (first | exact trivial | refine ⟨rfl, ?_⟩)) ?_
          refine f_seq fun K46 kh46 => ?_
          refine f_region ?_
          refine f_stepP rfl rfl rfl (o_lss rfl rfl) ?_
          refine f_done ?_
          refine f_tn (kh46 _ _ ?_)
          clear kh46
          refine f_seq fun K47 kh47 => ?_
          refine f_cond rfl (fun c168 => ?_) (fun c168 => ?_)
          ·
           have hvn : v < n := by omega
           refine f_skip ?_
           refine f_tn (kh47 _ _ ?_)
           clear kh47
           refine f_seq fun K48 kh48 => ?_
           refine f_block ?_
           refine f_seq fun K49 kh49 => ?_
           refine f_region ?_
           refine f_stepP rfl rfl rfl (o_idx sl36 rfl rfl (v) ⟨by omega, by omega, by first | omega | (simp; done) | (simp; omega)⟩) ?_
           refine f_stepP rfl rfl rfl (o_load Try.isAgg4 rfl (rdA (v := .bool false) (by rw [boolsJ_at (by omega), hfin v hvn]))) ?_
           refine f_stepP rfl rfl rfl (o_assign rfl) ?_
           refine f_done ?_
           refine f_tn (kh49 _ _ ?_)
           clear kh49
           refine f_seq fun K50 kh50 => ?_
           refine f_region ?_
           refine f_stepP rfl rfl rfl (o_move rfl) ?_
           refine f_done ?_
           refine f_tn (kh50 _ _ ?_)
           clear kh50
           refine f_condF rfl ?_
           refine f_skip ?_
           refine f_bn ?_
           refine f_tn (kh48 _ _ ?_)
           clear kh48
           refine f_region ?_
           refine f_stepP rfl rfl rfl (o_add rfl rfl _ (wrap_i64 (by omega))) ?_
           refine f_stepP rfl rfl rfl (o_move rfl) ?_
           refine f_done ?_
           refine f_tn (f_again (v + 1) (by first | omega | (dsimp only; omega) | (simp; omega)) (by omega) ?_ ?_ ?_)
           · exact (by repeat (first | exact trivial | refine ⟨rfl, ?_⟩))
           · exact (by repeat (first | exact trivial | refine ⟨rfl, ?_⟩))
           · repeat (first | exact Sub.nil | refine Sub.pick ?_ | refine Sub.castO rfl ?_ | refine Sub.skip ?_)
          ·
           refine f_exit ?_
           refine f_te ?_
           clear kh47
           refine f_te ?_
           refine f_be ?_
           refine f_bn ?_
           refine f_tn (kh11 _ _ ?_)
           clear kh11
           refine f_region ?_
           refine f_stepP rfl rfl rfl (o_move rfl) ?_
           refine f_stepP rfl rfl rfl (o_add rfl rfl _ (Eq.trans (wrap_i64 (by omega)) (show _ = (((k + 1 : Nat) : Int) + 1) by omega))) ?_
           refine f_stepP rfl rfl rfl (o_assign rfl) ?_
           refine f_done ?_
           refine f_tn (f_again (k + 1) (by first | omega | (dsimp only; omega) | (simp; omega)) (by omega) ?_ ?_ ?_)
           · exact (by repeat (first | exact trivial | refine ⟨rfl, ?_⟩))
           · exact (by repeat (first | exact trivial | refine ⟨rfl, ?_⟩))
           · repeat (first | exact Sub.nil | refine Sub.pick ?_ | refine Sub.castO rfl ?_ | refine Sub.skip ?_)
   ·
    refine f_exit ?_
    refine f_te ?_
    clear kh9
    refine f_te ?_
    refine f_be ?_
    refine f_tn (kh7 _ _ ?_)
    clear kh7
    refine f_seq fun K51 kh51 => ?_
    refine f_region ?_
    refine f_stepP rfl rfl rfl (o_assign rfl) ?_
    refine f_done ?_
    refine f_tn (kh51 _ _ ?_)
    clear kh51
    refine f_ret ?_
    exact f_fin1 [] Try.results3 rfl Sub.nil ⟨rfl, rfl⟩

end Go.Proofs.Ytkmkakpadgljeaa
