/- flyoverlaw07: large, works, GrowRegions. -/
import Derived.Test.YtlllpmafhnfihaaFRefG
import Derived.Test.YtlllpmafhnfihaaFLend
namespace Go.Proofs.Ytlllpmafhnfihaa
open Go Go.RowKit Fly
set_option linter.unusedVariables false
set_option linter.unusedSimpArgs false


/-- The neighbours of a vertex, counted out. -/
def nbG (n : Nat) (l : List Arc) (v : Int) : List Int := ((List.range n).map Int.ofNat).filter fun u => l.any fun x => decide (u ∈ nbr v x)
theorem nbrs_canonG {n : Nat} {l : List Arc} (hg : (gcheck (n : Int) l).2 = 0) (v : Nat) (hv : v < n) : nbrs (v : Int) l = nbG n l v := by
  have h2 : (nbG n l v).Pairwise (· < ·) := by
    unfold nbG
    refine List.Pairwise.filter _ ?_
    rw [List.pairwise_map]
    exact List.pairwise_lt_range.imp fun {a b} h => by show (a : Int) < (b : Int); omega
  have h1 := nbrs_rising v l
  refine List.Perm.eq_of_pairwise (le := (· < ·)) (fun a b _ _ h h' => absurd h (by omega)) h1 h2 ?_
  refine (List.perm_ext_iff_of_nodup (h1.imp fun {a b} h e => by omega) (h2.imp fun {a b} h e => by omega)).2 fun u => ?_
  rw [nbrs_mem]
  unfold nbG
  simp only [List.mem_filter, List.mem_map, List.mem_range, List.any_eq_true, decide_eq_true_eq]
  constructor
  · rintro ⟨x, hx, hu⟩
    have := (nbrs_rngG hg).2 v hv u (nbrs_mem.2 ⟨x, hx, hu⟩)
    exact ⟨⟨u.toNat, by omega, by show ((u.toNat : Nat) : Int) = u; omega⟩, x, hx, hu⟩
  · rintro ⟨_, x, hx, hu⟩; exact ⟨x, hx, hu⟩
def wg : List Arc := [⟨0, 1, 0⟩, ⟨2, 1, 0⟩, ⟨2, 3, 0⟩, ⟨4, 3, 0⟩]
theorem wgOk : ∀ x ∈ wg, ArcOk x := by
  intro x hx
  simp only [wg, List.mem_cons, List.not_mem_nil, or_false] at hx
  rcases hx with rfl | rfl | rfl | rfl <;> exact ⟨⟨by decide, by decide⟩, ⟨by decide, by decide⟩, by decide⟩
theorem wgR : ∀ v, v < 5 → nbrs ((v : Nat) : Int) wg = nbG 5 wg (v : Int) := fun v hv => nbrs_canonG (n := 5) (by decide) v hv
theorem bpush_same {rows rows' : Nat → List Int} {n : Nat} (h : ∀ v, v < n → rows v = rows' v) {s : BSt} (hI : BInv n s) (k : Nat) : bstep rows k s = bstep rows' k s := by
  unfold bstep
  cases e : s.1[k]? with
  | none => rfl
  | some v =>
    have hv := hI.rng v (List.mem_of_getElem? e)
    simp only
    rw [h _ (by omega)]
theorem bgo_same {rows rows' : Nat → List Int} {n : Nat} (h : ∀ v, v < n → rows v = rows' v) (hr : ∀ v, v < n → ∀ u ∈ rows v, 0 ≤ u ∧ u < (n : Int)) {s : BSt} (hI : BInv n s) : ∀ k, bgo rows s k = bgo rows' s k
  | 0 => rfl
  | k + 1 => by
    show bstep rows k (bgo rows s k) = bstep rows' k (bgo rows' s k)
    rw [← bgo_same h hr hI k]
    exact bpush_same h (BInv.go hr hI k) k
theorem wgBfs : bfs 5 (fun v : Nat => nbrs (v : Int) wg) 2 (List.replicate 5 false) = bfs 5 (fun v : Nat => nbG 5 wg (v : Int)) 2 (List.replicate 5 false) :=
  bgo_same (n := 5) wgR (nbrs_rngG (n := 5) (l := wg) (by decide)).2 (BInv.start (by simp) (by decide)) 5
theorem wReg : regR 5 wg 2 4 = ([2, 1, 3, 0], 0) := by
  rw [rreg_is (N := 5) (c := 2) (l := wg) (most := 4) (n := 5) (cn := 2) rfl rfl (by decide) (by decide) (by decide), wgBfs]; decide +kernel
theorem wCore : coreR 5 wg 2 5 = ([2, 1], 0) := by
  have e : regR 5 wg 2 5 = ([2, 1, 3, 0, 4], 0) := by
    rw [rreg_is (N := 5) (c := 2) (l := wg) (most := 5) (n := 5) (cn := 2) rfl rfl (by decide) (by decide) (by decide), wgBfs]; decide +kernel
  unfold coreR; rw [e]; decide
theorem wRing : ringR 5 wg [1, 2] = ([0, 3], 0) := by
  unfold ringR
  rw [if_neg (by decide), if_neg (by decide), if_neg (by decide), if_neg (by decide)]
  have h0 := wgR 0 (by decide)
  have h1 := wgR 1 (by decide)
  have h2 := wgR 2 (by decide)
  have h3 := wgR 3 (by decide)
  have h4 := wgR 4 (by decide)
  show (ringL wg [1, 2] 5, (0 : Int)) = _
  simp only [ringL, rgB, h0, h1, h2, h3, h4]
  decide +kernel

set_option maxRecDepth 100000 in
set_option maxHeartbeats 4000000 in
theorem large_spec (N : Int) (A : Option Addr) (l : List Arc) (cap : Nat) (w : World) (hl : l.length ≤ 9223372036854775807) :
    Meets Try.prog 7 [.agg #[.int .i64 N, .slice A l.length cap]] w [] (fun u m => ∃ b, u = .bool b ∧ m = []) := by
  refine f_enter Try.func7 rfl Try.ntmps7 rfl Owns.nil ?_
  refine f_seq fun K1 kh1 => ?_
  refine f_region ?_
  refine f_step rfl rfl rfl (o_box rfl rfl fun b1 => ?_)
  refine f_stepP rfl rfl rfl (o_assign rfl) ?_
  refine f_done ?_
  refine f_tn (kh1 _ _ ?_)
  clear kh1
  refine f_seq fun K2 kh2 => ?_
  refine f_region ?_
  refine f_stepP rfl rfl rfl (o_field fa24_0 rfl) ?_
  refine f_stepP rfl rfl rfl (o_load Try.isAgg3 rfl (rdA rfl)) ?_
  refine f_stepP rfl rfl rfl (o_gtr rfl rfl) ?_
  refine f_stepP rfl rfl rfl (o_move rfl) ?_
  refine f_splitL 6 rfl (fun g6 => ?_) (fun g6 => ?_)
  · skip
    refine f_stepPY rfl rfl rfl rfl rfl (o_field fa24_1 rfl) ?_
    refine f_stepPY rfl rfl rfl rfl rfl (o_load Try.isAgg22 rfl (rdA rfl)) ?_
    refine f_stepPY rfl rfl rfl rfl rfl (o_len sl22 rfl) ?_
    refine f_stepPY rfl rfl rfl rfl rfl (o_gtr rfl rfl) ?_
    refine f_stepP rfl rfl rfl (o_pickT rfl rfl) ?_
    refine f_stepP rfl rfl rfl (o_assign rfl) ?_
    refine f_done ?_
    refine f_tn (kh2 _ _ ?_)
    clear kh2
    refine f_ret ?_
    exact f_fin1 [] Try.results7 rfl Sub.nil ⟨_, rfl, rfl⟩
  · skip
    refine f_stepN rfl rfl rfl rfl rfl rfl ?_
    refine f_stepN rfl rfl rfl rfl rfl rfl ?_
    refine f_stepN rfl rfl rfl rfl rfl rfl ?_
    refine f_stepN rfl rfl rfl rfl rfl rfl ?_
    refine f_stepP rfl rfl rfl (o_pickF rfl rfl) ?_
    refine f_stepP rfl rfl rfl (o_assign rfl) ?_
    refine f_done ?_
    refine f_tn (kh2 _ _ ?_)
    clear kh2
    refine f_ret ?_
    exact f_fin1 [] Try.results7 rfl Sub.nil ⟨_, rfl, rfl⟩

set_option maxRecDepth 100000 in
set_option maxHeartbeats 4000000 in
theorem works_spec (w : World) : Meets Try.prog 8 [] w [] (fun u m => u = .bool true ∧ m = []) := by
  refine f_enter Try.func8 rfl Try.ntmps8 rfl Owns.nil ?_
  refine f_seq fun K1 kh1 => ?_
  refine f_region ?_
  refine f_stepP rfl rfl rfl (o_assign rfl) ?_
  refine f_done ?_
  refine f_tn (kh1 _ _ ?_)
  clear kh1
  refine f_seq fun K2 kh2 => ?_
  refine f_region ?_
  refine f_stepP rfl rfl rfl (o_build st44 rfl rfl) ?_
  refine f_stepP rfl rfl rfl (o_build st44 rfl rfl) ?_
  refine f_stepP rfl rfl rfl (o_build st44 rfl rfl) ?_
  refine f_stepP rfl rfl rfl (o_build st44 rfl rfl) ?_
  refine f_step rfl rfl rfl (o_sliceN (len := 4) el22 (by omega) rfl rfl fun b12 => ?_)
  refine f_stepP rfl rfl rfl (o_build st24 rfl rfl) ?_
  refine f_step rfl rfl rfl (o_alloc Try.zeroValue24 rfl fun b1 => ?_)
  refine f_step0 rfl rfl (o_storeA Try.sizeOf24 rfl rfl rfl rfl (by first | exact Nat.le_of_ble_eq_true rfl | (simp; done) | (simp; omega)) _ rfl ?_)
  refine f_done ?_
  refine f_tn (kh2 _ _ ?_)
  clear kh2
  refine f_seq fun K3 kh3 => ?_
  refine f_region ?_
  refine f_stepP rfl rfl rfl (o_loadA (vs := [_, _]) Try.isAgg24 Try.sizeOf24 rfl rfl ⟨(rdA rfl), (rdA rfl), trivial⟩) ?_
  refine f_step rfl rfl rfl (o_call Try.call10 rfl (fun w_ hp_ => Region_spec 5 (some ⟨b12, 0, none⟩) wg 4 2 4 w_ (roOwn (b := b12) hp_ (cs := wg.flatMap arcCs) (fun j v hj => hj)) (by decide) (by decide) wgOk) ?_)
  rintro _ _ ⟨s1, ms1, rfl, rfl, ho1⟩
  rw [wReg] at ho1 ⊢
  obtain ⟨A1, c1, rfl, _⟩ := ho1.val
  dsimp only [List.cons_append, List.nil_append]
  refine f_stepP rfl rfl rfl (o_move rfl) ?_
  refine f_stepP rfl rfl rfl (o_extract rfl rfl) ?_
  refine f_stepP rfl rfl rfl (o_extract rfl rfl) ?_
  refine f_stepP rfl rfl rfl (o_assign rfl) ?_
  refine f_stepP rfl rfl rfl (o_assign rfl) ?_
  refine f_done ?_
  refine f_tn (kh3 _ _ ?_)
  clear kh3
  refine f_seq fun K4 kh4 => ?_
  refine f_region ?_
  refine f_stepP rfl rfl rfl (o_loadA (vs := [_, _]) Try.isAgg24 Try.sizeOf24 rfl rfl ⟨(rdA rfl), (rdA rfl), trivial⟩) ?_
  refine f_step rfl rfl rfl (o_call Try.call12 rfl (fun w_ hp_ => Core_spec 5 (some ⟨b12, 0, none⟩) wg 4 2 5 w_ (roOwn (b := b12) hp_ (cs := wg.flatMap arcCs) (fun j v hj => hj)) (by decide) (by decide) wgOk) ?_)
  rintro _ _ ⟨s2, ms2, rfl, rfl, ho2⟩
  rw [wCore] at ho2 ⊢
  obtain ⟨A2, c2, rfl, _⟩ := ho2.val
  dsimp only [List.cons_append, List.nil_append]
  refine f_stepP rfl rfl rfl (o_move rfl) ?_
  refine f_stepP rfl rfl rfl (o_extract rfl rfl) ?_
  refine f_stepP rfl rfl rfl (o_extract rfl rfl) ?_
  refine f_stepP rfl rfl rfl (o_assign rfl) ?_
  refine f_stepP rfl rfl rfl (o_assign rfl) ?_
  refine f_done ?_
  refine f_tn (kh4 _ _ ?_)
  clear kh4
  refine f_seq fun K5 kh5 => ?_
  refine f_region ?_
  refine f_stepP rfl rfl rfl (o_loadA (vs := [_, _]) Try.isAgg24 Try.sizeOf24 rfl rfl ⟨(rdA rfl), (rdA rfl), trivial⟩) ?_
  refine f_step rfl rfl rfl (o_sliceN (len := 2) el28 (by omega) rfl rfl fun b26 => ?_)
  refine f_step rfl rfl rfl (o_call Try.call17 rfl (fun w_ hp_ => Ring_spec 5 (some ⟨b12, 0, none⟩) wg 4 (some ⟨b26, 0, none⟩) [1, 2] 2 w_ (roOwn (b := b12) hp_ (cs := wg.flatMap arcCs) (fun j v hj => hj)) (by decide) (by decide) wgOk (roOwn (b := b26) hp_ (cs := ints [1, 2]) (fun j v hj => hj)) (by decide)) ?_)
  rintro _ _ ⟨s3, ms3, rfl, rfl, ho3⟩
  rw [wRing] at ho3 ⊢
  obtain ⟨A3, c3, rfl, _⟩ := ho3.val
  dsimp only [List.cons_append, List.nil_append]
  refine f_stepP rfl rfl rfl (o_move rfl) ?_
  refine f_stepP rfl rfl rfl (o_extract rfl rfl) ?_
  refine f_stepP rfl rfl rfl (o_extract rfl rfl) ?_
  refine f_stepP rfl rfl rfl (o_assign rfl) ?_
  refine f_stepP rfl rfl rfl (o_assign rfl) ?_
  refine f_done ?_
  refine f_tn (kh5 _ _ ?_)
  clear kh5
  refine f_seq fun K6 kh6 => ?_
  refine f_region ?_
  refine f_stepP rfl rfl rfl (o_move rfl) ?_
  refine f_stepP rfl rfl rfl (o_eql rfl rfl) ?_
  refine f_stepP rfl rfl rfl (o_move rfl) ?_
  refine f_trueL 32 rfl (rfl) ?_
  refine f_stepPY rfl rfl rfl rfl rfl (o_move rfl) ?_
  refine f_stepY rfl rfl rfl rfl rfl (o_sliceN (len := 4) el28 (by omega) rfl rfl fun b34 => ?_)
  refine f_stepY rfl rfl rfl rfl rfl (o_call Try.call14 rfl (fun w_ hp_ => SameInts_spec A1 (some ⟨b34, 0, none⟩) [2, 1, 3, 0] [2, 1, 3, 0] c1 4 w_ (seen_ro (ho1.seen hp_)) (roOwn (b := b34) hp_ (cs := ints [2, 1, 3, 0]) (fun j v hj => hj)) (by decide)) ?_)
  rintro _ _ ⟨rfl, rfl⟩
  rw [decide_eq_true rfl]
  dsimp only [List.cons_append, List.nil_append]
  refine f_stepP rfl rfl rfl (o_pickT rfl rfl) ?_
  refine f_stepP rfl rfl rfl (o_move rfl) ?_
  refine f_stepPY rfl rfl rfl rfl rfl (o_move rfl) ?_
  refine f_stepPY rfl rfl rfl rfl rfl (o_eql rfl rfl) ?_
  refine f_stepP rfl rfl rfl (o_pickT rfl rfl) ?_
  refine f_stepP rfl rfl rfl (o_move rfl) ?_
  refine f_trueL 41 rfl (rfl) ?_
  refine f_stepPY rfl rfl rfl rfl rfl (o_move rfl) ?_
  refine f_stepY rfl rfl rfl rfl rfl (o_sliceN (len := 2) el28 (by omega) rfl rfl fun b43 => ?_)
  refine f_stepY rfl rfl rfl rfl rfl (o_call Try.call14 rfl (fun w_ hp_ => SameInts_spec A2 (some ⟨b43, 0, none⟩) [2, 1] [2, 1] c2 2 w_ (seen_ro (ho2.seen hp_)) (roOwn (b := b43) hp_ (cs := ints [2, 1]) (fun j v hj => hj)) (by decide)) ?_)
  rintro _ _ ⟨rfl, rfl⟩
  rw [decide_eq_true rfl]
  dsimp only [List.cons_append, List.nil_append]
  refine f_stepP rfl rfl rfl (o_pickT rfl rfl) ?_
  refine f_stepP rfl rfl rfl (o_move rfl) ?_
  refine f_stepPY rfl rfl rfl rfl rfl (o_move rfl) ?_
  refine f_stepPY rfl rfl rfl rfl rfl (o_eql rfl rfl) ?_
  refine f_stepP rfl rfl rfl (o_pickT rfl rfl) ?_
  refine f_stepP rfl rfl rfl (o_move rfl) ?_
  refine f_trueL 50 rfl (rfl) ?_
  refine f_stepPY rfl rfl rfl rfl rfl (o_move rfl) ?_
  refine f_stepY rfl rfl rfl rfl rfl (o_sliceN (len := 2) el28 (by omega) rfl rfl fun b52 => ?_)
  refine f_stepY rfl rfl rfl rfl rfl (o_call Try.call14 rfl (fun w_ hp_ => SameInts_spec A3 (some ⟨b52, 0, none⟩) [0, 3] [0, 3] c3 2 w_ (seen_ro (ho3.seen hp_)) (roOwn (b := b52) hp_ (cs := ints [0, 3]) (fun j v hj => hj)) (by decide)) ?_)
  rintro _ _ ⟨rfl, rfl⟩
  rw [decide_eq_true rfl]
  dsimp only [List.cons_append, List.nil_append]
  refine f_stepP rfl rfl rfl (o_pickT rfl rfl) ?_
  refine f_stepP rfl rfl rfl (o_assign rfl) ?_
  refine f_done ?_
  refine f_tn (kh6 _ _ ?_)
  clear kh6
  refine f_ret ?_
  exact f_fin1 [] Try.results8 rfl Sub.nil ⟨rfl, rfl⟩

set_option maxRecDepth 100000 in
set_option maxHeartbeats 4000000 in
theorem GrowRegions_spec (N : Int) (A : Option Addr) (l : List Arc) (cap : Nat) (c most : Int) (w : World) (hr : Ro (Fr w []) w A (l.flatMap arcCs)) (hl : l.length ≤ 9223372036854775807) (hN : I64 N) (hok : ∀ x ∈ l, ArcOk x) (hz : l.length * 24 ≤ 140737488351232) :
    Meets Try.prog 3 [.agg #[.int .i64 N, .slice A l.length cap], .int .i64 c, .int .i64 most] w [] (fun u m => u = .bool true ∧ m = []) := by
  refine f_enter Try.func3 rfl Try.ntmps3 rfl Owns.nil ?_
  refine f_seq fun K1 kh1 => ?_
  refine f_region ?_
  refine f_step rfl rfl rfl (o_box rfl rfl fun b3 => ?_)
  refine f_stepP rfl rfl rfl (o_assign rfl) ?_
  refine f_done ?_
  refine f_tn (kh1 _ _ ?_)
  clear kh1
  refine f_seq fun K2 kh2 => ?_
  refine f_seq fun K3 kh3 => ?_
  refine f_region ?_
  refine f_stepP rfl rfl rfl (o_loadA (vs := [_, _]) Try.isAgg24 Try.sizeOf24 rfl rfl ⟨(rdA rfl), (rdA rfl), trivial⟩) ?_
  refine f_step rfl rfl rfl (o_call Try.call7 rfl (fun w_ hp_ => large_spec N A l cap w_ hl) ?_)
  rintro _ _ ⟨bL, rfl, rfl⟩
  dsimp only [List.cons_append, List.nil_append]
  refine f_done ?_
  refine f_tn (kh3 _ _ ?_)
  clear kh3
  refine f_condB rfl (fun c17 => ?_) (fun c17 => ?_)
  · skip
    refine f_seq fun K4 kh4 => ?_
    refine f_region ?_
    refine f_step rfl rfl rfl (o_call Try.call8 rfl (fun w_ hp_ => works_spec w_) ?_)
    rintro _ _ ⟨rfl, rfl⟩
    dsimp only [List.cons_append, List.nil_append]
    refine f_stepP rfl rfl rfl (o_assign rfl) ?_
    refine f_done ?_
    refine f_tn (kh4 _ _ ?_)
    clear kh4
    refine f_ret ?_
    refine f_tr ?_
    exact f_fin1 [] Try.results3 rfl Sub.nil ⟨rfl, rfl⟩
  · skip
    refine f_skip ?_
    refine f_tn (kh2 _ _ ?_)
    clear kh2
    refine f_seq fun K5 kh5 => ?_
    refine f_region ?_
    refine f_stepP rfl rfl rfl (o_loadA (vs := [_, _]) Try.isAgg24 Try.sizeOf24 rfl rfl ⟨(rdA rfl), (rdA rfl), trivial⟩) ?_
    refine f_step rfl rfl rfl (o_call Try.call9 rfl (fun w_ hp_ => LendGraph_spec N A l cap w_ (hr.up0 hp_) hz) ?_)
    rintro _ _ ⟨bg, cg, rg, rfl, rfl, hg1, hg2⟩
    dsimp only [List.cons_append, List.nil_append]
    refine f_step rfl rfl rfl (o_alloc Try.zeroValue24 rfl fun b7 => ?_)
    refine f_step0 rfl rfl (o_storeA Try.sizeOf24 rfl rfl rfl rfl (by first | exact Nat.le_of_ble_eq_true rfl | (simp; done) | (simp; omega)) [.int .i64 N, .slice (some ⟨bg, 0, none⟩) l.length cg] rfl ?_)
    refine f_done ?_
    refine f_tn (kh5 _ _ ?_)
    clear kh5
    refine f_seq fun K6 kh6 => ?_
    refine f_region ?_
    refine f_stepP rfl rfl rfl (o_loadA (vs := [_, _]) Try.isAgg24 Try.sizeOf24 rfl rfl ⟨(rdA rfl), (rdA rfl), trivial⟩) ?_
    refine f_stepP rfl rfl rfl (o_move rfl) ?_
    refine f_stepP rfl rfl rfl (o_move rfl) ?_
    refine f_step rfl rfl rfl (o_call Try.call10 rfl (fun w_ hp_ => Region_spec N (some ⟨bg, 0, none⟩) l cg c most w_ (roOwn (b := bg) hp_ (cs := l.flatMap arcCs) (fun j v hj => app_get hj)) hl hN hok) ?_)
    rintro _ _ ⟨s25, m25, rfl, rfl, o25⟩
    obtain ⟨A25, c25, rfl, _⟩ := o25.val
    dsimp only [List.cons_append, List.nil_append]
    refine f_stepP rfl rfl rfl (o_move rfl) ?_
    refine f_stepP rfl rfl rfl (o_extract rfl rfl) ?_
    refine f_stepP rfl rfl rfl (o_extract rfl rfl) ?_
    refine f_stepP rfl rfl rfl (o_assign rfl) ?_
    refine f_stepP rfl rfl rfl (o_assign rfl) ?_
    refine f_done ?_
    refine f_tn (kh6 _ _ ?_)
    clear kh6
    refine f_seq fun K7 kh7 => ?_
    refine f_region ?_
    refine f_stepP rfl rfl rfl (o_loadA (vs := [_, _]) Try.isAgg24 Try.sizeOf24 rfl rfl ⟨(rdA rfl), (rdA rfl), trivial⟩) ?_
    refine f_stepP rfl rfl rfl (o_move rfl) ?_
    refine f_stepP rfl rfl rfl (o_move rfl) ?_
    refine f_step rfl rfl rfl (o_call Try.call11 rfl (fun w_ hp_ => RRegion_spec N A l cap c most w_ (hr.up0 hp_) hl hN hok) ?_)
    rintro _ _ ⟨s32, m32, rfl, rfl, o32⟩
    obtain ⟨A32, c32, rfl, _⟩ := o32.val
    dsimp only [List.cons_append, List.nil_append]
    refine f_stepP rfl rfl rfl (o_move rfl) ?_
    refine f_stepP rfl rfl rfl (o_extract rfl rfl) ?_
    refine f_stepP rfl rfl rfl (o_extract rfl rfl) ?_
    refine f_stepP rfl rfl rfl (o_assign rfl) ?_
    refine f_stepP rfl rfl rfl (o_assign rfl) ?_
    refine f_done ?_
    refine f_tn (kh7 _ _ ?_)
    clear kh7
    refine f_seq fun K8 kh8 => ?_
    refine f_region ?_
    refine f_stepP rfl rfl rfl (o_loadA (vs := [_, _]) Try.isAgg24 Try.sizeOf24 rfl rfl ⟨(rdA rfl), (rdA rfl), trivial⟩) ?_
    refine f_stepP rfl rfl rfl (o_move rfl) ?_
    refine f_stepP rfl rfl rfl (o_move rfl) ?_
    refine f_step rfl rfl rfl (o_call Try.call12 rfl (fun w_ hp_ => Core_spec N (some ⟨bg, 0, none⟩) l cg c most w_ (roOwn (b := bg) hp_ (cs := l.flatMap arcCs) (fun j v hj => app_get hj)) hl hN hok) ?_)
    rintro _ _ ⟨s39, m39, rfl, rfl, o39⟩
    obtain ⟨A39, c39, rfl, _⟩ := o39.val
    dsimp only [List.cons_append, List.nil_append]
    refine f_stepP rfl rfl rfl (o_move rfl) ?_
    refine f_stepP rfl rfl rfl (o_extract rfl rfl) ?_
    refine f_stepP rfl rfl rfl (o_extract rfl rfl) ?_
    refine f_stepP rfl rfl rfl (o_assign rfl) ?_
    refine f_stepP rfl rfl rfl (o_assign rfl) ?_
    refine f_done ?_
    refine f_tn (kh8 _ _ ?_)
    clear kh8
    refine f_seq fun K9 kh9 => ?_
    refine f_region ?_
    refine f_stepP rfl rfl rfl (o_loadA (vs := [_, _]) Try.isAgg24 Try.sizeOf24 rfl rfl ⟨(rdA rfl), (rdA rfl), trivial⟩) ?_
    refine f_stepP rfl rfl rfl (o_move rfl) ?_
    refine f_stepP rfl rfl rfl (o_move rfl) ?_
    refine f_step rfl rfl rfl (o_call Try.call13 rfl (fun w_ hp_ => RCore_spec N A l cap c most w_ (hr.up0 hp_) hl hN hok) ?_)
    rintro _ _ ⟨s46, m46, rfl, rfl, o46⟩
    obtain ⟨A46, c46, rfl, _⟩ := o46.val
    dsimp only [List.cons_append, List.nil_append]
    refine f_stepP rfl rfl rfl (o_move rfl) ?_
    refine f_stepP rfl rfl rfl (o_extract rfl rfl) ?_
    refine f_stepP rfl rfl rfl (o_extract rfl rfl) ?_
    refine f_stepP rfl rfl rfl (o_assign rfl) ?_
    refine f_stepP rfl rfl rfl (o_assign rfl) ?_
    refine f_done ?_
    refine f_tn (kh9 _ _ ?_)
    clear kh9
    refine f_seq fun K10 kh10 => ?_
    refine f_seq fun K11 kh11 => ?_
    refine f_region ?_
    refine f_stepP rfl rfl rfl (o_move rfl) ?_
    refine f_stepP rfl rfl rfl (o_move rfl) ?_
    refine f_step rfl rfl rfl (o_call Try.call14 rfl (fun w_ hp_ => SameInts_spec A25 A32 _ _ c25 c32 w_ (seen_ro (o25.seen hp_)) (seen_ro (o32.seen hp_)) (by have := regR_len (N := N) (l := l) (c := c) (most := most); omega)) ?_)
    rintro _ _ ⟨rfl, rfl⟩
    rw [decide_eq_true rfl]
    dsimp only [List.cons_append, List.nil_append]
    refine f_stepP rfl rfl rfl (o_not rfl) ?_
    refine f_stepP rfl rfl rfl (o_move rfl) ?_
    refine f_stepPY rfl rfl rfl rfl rfl (o_move rfl) ?_
    refine f_stepPY rfl rfl rfl rfl rfl (o_move rfl) ?_
    refine f_stepPY rfl rfl rfl rfl rfl (o_neq rfl rfl) ?_
    refine f_stepP rfl rfl rfl (o_pickF rfl rfl) ?_
    refine f_stepP rfl rfl rfl (o_move rfl) ?_
    refine f_falseL 58 rfl (by simp) ?_
    refine f_stepPY rfl rfl rfl rfl rfl (o_move rfl) ?_
    refine f_stepPY rfl rfl rfl rfl rfl (o_move rfl) ?_
    refine f_stepY rfl rfl rfl rfl rfl (o_call Try.call14 rfl (fun w_ hp_ => SameInts_spec A39 A46 _ _ c39 c46 w_ (seen_ro (o39.seen hp_)) (seen_ro (o46.seen hp_)) (by have := regR_len (N := N) (l := l) (c := c) (most := most); unfold coreR; simp only [List.length_take]; omega)) ?_)
    rintro _ _ ⟨rfl, rfl⟩
    rw [decide_eq_true rfl]
    dsimp only [List.cons_append, List.nil_append]
    refine f_stepPY rfl rfl rfl rfl rfl (o_not rfl) ?_
    refine f_stepP rfl rfl rfl (o_pickF rfl rfl) ?_
    refine f_stepP rfl rfl rfl (o_move rfl) ?_
    refine f_stepPY rfl rfl rfl rfl rfl (o_move rfl) ?_
    refine f_stepPY rfl rfl rfl rfl rfl (o_move rfl) ?_
    refine f_stepPY rfl rfl rfl rfl rfl (o_neq rfl rfl) ?_
    refine f_stepP rfl rfl rfl (o_pickF rfl rfl) ?_
    refine f_done ?_
    refine f_tn (kh11 _ _ ?_)
    clear kh11
    refine f_condN rfl (by simp) ?_
    refine f_skip ?_
    refine f_tn (kh10 _ _ ?_)
    clear kh10
    refine f_seq fun K12 kh12 => ?_
    refine f_region ?_
    refine f_stepP rfl rfl rfl (o_move rfl) ?_
    refine f_step rfl rfl rfl (o_callM [m25] _ Try.call15 rfl (Sub.pick Sub.refl) (fun w_ hp_ => SpoilInts_spec A25 _ c25 _ m25 (-7) w_ o25 hp_.owns) ?_)
    rintro _ _ ⟨rfl, rfl⟩
    dsimp only [List.cons_append, List.nil_append]
    refine f_done ?_
    refine f_tn (kh12 _ _ ?_)
    clear kh12
    refine f_seq fun K13 kh13 => ?_
    refine f_region ?_
    refine f_stepP rfl rfl rfl (o_move rfl) ?_
    refine f_step rfl rfl rfl (o_callM [m39] _ Try.call15 rfl (Sub.pick Sub.refl) (fun w_ hp_ => SpoilInts_spec A39 _ c39 _ m39 (-8) w_ o39 hp_.owns) ?_)
    rintro _ _ ⟨rfl, rfl⟩
    dsimp only [List.cons_append, List.nil_append]
    refine f_done ?_
    refine f_tn (kh13 _ _ ?_)
    clear kh13
    refine f_seq fun K14 kh14 => ?_
    refine f_region ?_
    refine f_stepP rfl rfl rfl (o_loadA (vs := [_, _]) Try.isAgg24 Try.sizeOf24 rfl rfl ⟨(rdA rfl), (rdA rfl), trivial⟩) ?_
    refine f_stepP rfl rfl rfl (o_loadA (vs := [_, _]) Try.isAgg24 Try.sizeOf24 rfl rfl ⟨(rdA rfl), (rdA rfl), trivial⟩) ?_
    refine f_step rfl rfl rfl (o_call Try.call16 rfl (fun w_ hp_ => KeptGraph_spec N bg cg A l cap rg w_ (roOwn (b := bg) hp_ (fun j v hj => hj)) (hr.up0 hp_) hg1 hg2) ?_)
    rintro _ _ ⟨rfl, rfl⟩
    dsimp only [List.cons_append, List.nil_append]
    refine f_stepP rfl rfl rfl (o_move rfl) ?_
    refine f_stepY rfl rfl rfl rfl rfl (o_call Try.call8 rfl (fun w_ hp_ => works_spec w_) ?_)
    rintro _ _ ⟨rfl, rfl⟩
    dsimp only [List.cons_append, List.nil_append]
    refine f_stepP rfl rfl rfl (o_pickT rfl rfl) ?_
    refine f_stepP rfl rfl rfl (o_assign rfl) ?_
    refine f_done ?_
    refine f_tn (kh14 _ _ ?_)
    clear kh14
    refine f_ret ?_
    exact f_fin1 [] Try.results3 rfl Sub.nil ⟨rfl, rfl⟩

end Go.Proofs.Ytlllpmafhnfihaa
