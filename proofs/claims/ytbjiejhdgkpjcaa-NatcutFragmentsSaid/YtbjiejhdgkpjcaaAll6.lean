import Derived.Test.YtbjiejhdgkpjcaaAll5
import Derived.Test.YtbjiejhdgkpjcaaFlyT
import Derived.Test.YtbjiejhdgkpjcaaAll2
import Derived.Test.YtbjiejhdgkpjcaaAll3
import Derived.Shelf.SlSortCmp.Insertion
import Derived.Test.YtbjiejhdgkpjcaaFlyD
import Derived.Test.YtbjiejhdgkpjcaaFlyMem
import Derived.Shelf.SlSortCmp.WholeK
import Derived.Shelf.SlSortCmp.NoneTotal
import Derived.Shelf.Sort.Plain
import Derived.Shelf.SlLaysF0
import Derived.Test.YtbjiejhdgkpjcaaProg

/- grow.Region: so many vertices around a centre. -/
namespace Go.Proofs.Ytbjiejhdgkpjcaa
open Go Go.RowKit Fly
set_option linter.unusedVariables false
set_option linter.unusedSimpArgs false


/-- So many vertices around a centre, or what is wrong. -/
def regR (N : Int) (l : List Arc) (c most : Int) : List Int × Int :=
  if (gcheck N l).2 ≠ 0 then ([], (gcheck N l).2) else if c < 0 ∨ N ≤ c then ([], 5) else if most < 1 ∨ 1024 < most then ([], 1) else
    ((bfs N.toNat (fun v : Nat => nbrs (v : Int) l) c.toNat (List.replicate N.toNat false)).1.take most.toNat, 0)
theorem nbrs_rngG {n : Nat} {l : List Arc} (hg : (gcheck (n : Int) l).2 = 0) : (∀ v : Nat, (nbrs (v : Int) l).length ≤ 8192) ∧ ∀ v, v < n → ∀ u ∈ nbrs (v : Int) l, 0 ≤ u ∧ u < (n : Int) := by
  obtain ⟨_, _, hlen, hgd⟩ := gcheck_zero hg
  refine ⟨fun v => ?_, fun v _ u hu => ?_⟩
  · unfold nbrs
    refine Nat.le_trans (cpt_len_le _) ?_
    rw [sortI_len]
    exact Nat.le_trans (nbr_len v l) hlen
  · obtain ⟨x, hx, hux⟩ := nbrs_mem.1 hu
    obtain ⟨i, hi, rfl⟩ := List.mem_iff_getElem.1 hx
    have := hgd i hi
    unfold nbr at hux
    split at hux
    · simp at hux
    · split at hux
      · simp at hux; omega
      · split at hux
        · simp at hux; omega
        · simp at hux
theorem reps_bool (n : Nat) (b : Bool) : (List.replicate n [Value.bool b]).flatten = boolsG (List.replicate n b) := by
  induction n with
  | zero => rfl
  | succ n ih => rw [List.replicate_succ, List.flatten_cons, ih]; rfl

set_option maxRecDepth 100000 in
set_option maxHeartbeats 4000000 in
theorem Region_spec (N : Int) (A : Option Addr) (l : List Arc) (cap : Nat) (c most : Int) (w : World) (hr : Ro (Fr w []) w A (l.flatMap arcCs)) (hl : l.length ≤ 9223372036854775807) (hN : I64 N) (hok : ∀ x ∈ l, ArcOk x) :
    Meets Try.prog 20 [.agg #[.int .i64 N, .slice A l.length cap], .int .i64 c, .int .i64 most] w [] (fun u own' => ∃ s ms, u = .tuple #[s, .int .i64 (regR N l c most).2] ∧ own' = [ms] ∧ Own 3 1 s (regR N l c most).1.length (ints (regR N l c most).1) ms) := by
 refine r_enter Try.func20 rfl Try.ntmps20 rfl Owns.nil ?_
 refine r_seq fun K1 kh1 => ?_
 refine r_region ?_
 refine r_step rfl rfl rfl (Does.toR rfl (o_box rfl rfl fun b3 => ?_))
 refine r_step rfl rfl rfl (Does.toR rfl (o_box rfl rfl fun b5 => ?_))
 refine r_stepP rfl rfl rfl rfl (o_assign rfl) ?_
 refine r_stepP rfl rfl rfl rfl (o_assign rfl) ?_
 refine r_done ?_
 refine r_tn (kh1 _ _ _ ?_)
 clear kh1
 refine r_seq fun K2 kh2 => ?_
 refine r_seq fun K3 kh3 => ?_
 refine r_region ?_
 refine r_stepP rfl rfl rfl rfl (o_loadA (vs := [_, _]) Try.isAgg24 Try.sizeOf24 rfl rfl ⟨(rdA rfl), (rdA rfl), trivial⟩) ?_
 refine r_step rfl rfl rfl (Does.toR rfl (o_call Try.call37 rfl (fun w_ hp_ => Check_spec N A l cap w_ (hr.up0 hp_) hl hN hok) ?_))
 rintro _ _ ⟨rfl, rfl⟩
 dsimp only [List.cons_append, List.nil_append]
 refine r_stepP rfl rfl rfl rfl (o_move rfl) ?_
 refine r_stepP rfl rfl rfl rfl (o_extract rfl rfl) ?_
 refine r_stepP rfl rfl rfl rfl (o_extract rfl rfl) ?_
 refine r_stepP rfl rfl rfl rfl (o_assign rfl) ?_
 refine r_stepP rfl rfl rfl rfl (o_assign rfl) ?_
 refine r_done ?_
 refine r_tn (kh3 _ _ _ ?_)
 clear kh3
 refine r_seq fun K4 kh4 => ?_
 refine r_region ?_
 refine r_stepP rfl rfl rfl rfl (o_move rfl) ?_
 refine r_stepP rfl rfl rfl rfl (o_neq rfl rfl) ?_
 refine r_done ?_
 refine r_tn (kh4 _ _ _ ?_)
 clear kh4
 refine r_cond rfl (fun c18 => ?_) (fun c18 => ?_)
 ·
  refine r_seq fun K5 kh5 => ?_
  refine r_region ?_
  refine r_stepP rfl rfl rfl rfl (o_move rfl) ?_
  refine r_stepP rfl rfl rfl rfl (o_assign rfl) ?_
  refine r_stepP rfl rfl rfl rfl (o_assign rfl) ?_
  refine r_done ?_
  refine r_tn (kh5 _ _ _ ?_)
  clear kh5
  refine r_ret ?_
  refine r_tr ?_
  have e : regR N l c most = ([], (gcheck N l).2) := if_pos c18
  exact r_fin2 [[]] Try.results20 rfl rfl (show Fly.Sub _ [[], []] from (by repeat (first | exact Sub.nil | refine Sub.pick ?_ | refine Sub.castO rfl ?_ | refine Sub.skip ?_))) ⟨_, _, by rw [e], rfl, by rw [e]; exact Own.nil _ _⟩
 ·
  refine r_skip ?_
  refine r_tn (kh2 _ _ _ ?_)
  clear kh2
  refine r_seq fun K6 kh6 => ?_
  refine r_block ?_
  refine r_seq fun K7 kh7 => ?_
  refine r_region ?_
  refine r_stepP rfl rfl rfl rfl (o_move rfl) ?_
  refine r_stepP rfl rfl rfl rfl (o_lss rfl rfl) ?_
  refine r_stepP rfl rfl rfl rfl (o_move rfl) ?_
  refine r_splitL 23 rfl (fun g23 => ?_) (fun g23 => ?_)
  ·
   refine r_stepN rfl rfl rfl rfl rfl rfl ?_
   refine r_stepN rfl rfl rfl rfl rfl rfl ?_
   refine r_stepN rfl rfl rfl rfl rfl rfl ?_
   refine r_stepN rfl rfl rfl rfl rfl rfl ?_
   refine r_stepP rfl rfl rfl rfl (o_pickT rfl rfl) ?_
   refine r_stepP rfl rfl rfl rfl (o_assign rfl) ?_
   refine r_done ?_
   refine r_tn (kh7 _ _ _ ?_)
   clear kh7
   refine r_condT rfl ?_
   refine r_seq fun K8 kh8 => ?_
   refine r_region ?_
   refine r_stepP rfl rfl rfl rfl (o_assign rfl) ?_
   refine r_stepP rfl rfl rfl rfl (o_assign rfl) ?_
   refine r_done ?_
   refine r_tn (kh8 _ _ _ ?_)
   clear kh8
   refine r_ret ?_
   refine r_br ?_
   refine r_tr ?_
   have e : regR N l c most = ([], 5) := by unfold regR; rw [if_neg c18, if_pos (by omega)]
   exact r_fin2 [[]] Try.results20 rfl rfl (show Fly.Sub _ [[], []] from (by repeat (first | exact Sub.nil | refine Sub.pick ?_ | refine Sub.castO rfl ?_ | refine Sub.skip ?_))) ⟨_, _, by rw [e], rfl, by rw [e]; exact Own.nil _ _⟩
  ·
   refine r_stepPY rfl rfl rfl rfl rfl rfl (o_move rfl) ?_
   refine r_stepPY rfl rfl rfl rfl rfl rfl (o_field fa24_0 rfl) ?_
   refine r_stepPY rfl rfl rfl rfl rfl rfl (o_load Try.isAgg3 rfl (rdA rfl)) ?_
   refine r_stepPY rfl rfl rfl rfl rfl rfl (o_geq rfl rfl) ?_
   refine r_stepP rfl rfl rfl rfl (o_pickF rfl rfl) ?_
   refine r_stepP rfl rfl rfl rfl (o_assign rfl) ?_
   refine r_done ?_
   refine r_tn (kh7 _ _ _ ?_)
   clear kh7
   refine r_cond rfl (fun c20 => ?_) (fun c20 => ?_)
   ·
    refine r_seq fun K9 kh9 => ?_
    refine r_region ?_
    refine r_stepP rfl rfl rfl rfl (o_assign rfl) ?_
    refine r_stepP rfl rfl rfl rfl (o_assign rfl) ?_
    refine r_done ?_
    refine r_tn (kh9 _ _ _ ?_)
    clear kh9
    refine r_ret ?_
    refine r_br ?_
    refine r_tr ?_
    have e : regR N l c most = ([], 5) := by unfold regR; rw [if_neg c18, if_pos (by omega)]
    exact r_fin2 [[]] Try.results20 rfl rfl (show Fly.Sub _ [[], []] from (by repeat (first | exact Sub.nil | refine Sub.pick ?_ | refine Sub.castO rfl ?_ | refine Sub.skip ?_))) ⟨_, _, by rw [e], rfl, by rw [e]; exact Own.nil _ _⟩
   ·
    refine r_seq fun K10 kh10 => ?_
    refine r_region ?_
    refine r_stepP rfl rfl rfl rfl (o_load Try.isAgg3 rfl (rdA rfl)) ?_
    refine r_stepP rfl rfl rfl rfl (o_lss rfl rfl) ?_
    refine r_stepP rfl rfl rfl rfl (o_move rfl) ?_
    refine r_splitL 32 rfl (fun g32 => ?_) (fun g32 => ?_)
    ·
     refine r_stepN rfl rfl rfl rfl rfl rfl ?_
     refine r_stepN rfl rfl rfl rfl rfl rfl ?_
     refine r_stepP rfl rfl rfl rfl (o_pickT rfl rfl) ?_
     refine r_stepP rfl rfl rfl rfl (o_assign rfl) ?_
     refine r_done ?_
     refine r_tn (kh10 _ _ _ ?_)
     clear kh10
     refine r_condT rfl ?_
     refine r_seq fun K11 kh11 => ?_
     refine r_region ?_
     refine r_stepP rfl rfl rfl rfl (o_assign rfl) ?_
     refine r_stepP rfl rfl rfl rfl (o_assign rfl) ?_
     refine r_done ?_
     refine r_tn (kh11 _ _ _ ?_)
     clear kh11
     refine r_ret ?_
     refine r_br ?_
     refine r_tr ?_
     have e : regR N l c most = ([], 1) := by unfold regR; rw [if_neg c18, if_neg (by omega), if_pos (by omega)]
     exact r_fin2 [[]] Try.results20 rfl rfl (show Fly.Sub _ [[], []] from (by repeat (first | exact Sub.nil | refine Sub.pick ?_ | refine Sub.castO rfl ?_ | refine Sub.skip ?_))) ⟨_, _, by rw [e], rfl, by rw [e]; exact Own.nil _ _⟩
    ·
     refine r_stepPY rfl rfl rfl rfl rfl rfl (o_load Try.isAgg3 rfl (rdA rfl)) ?_
     refine r_stepPY rfl rfl rfl rfl rfl rfl (o_gtr rfl rfl) ?_
     refine r_stepP rfl rfl rfl rfl (o_pickF rfl rfl) ?_
     refine r_stepP rfl rfl rfl rfl (o_assign rfl) ?_
     refine r_done ?_
     refine r_tn (kh10 _ _ _ ?_)
     clear kh10
     refine r_cond rfl (fun c29 => ?_) (fun c29 => ?_)
     ·
      refine r_seq fun K12 kh12 => ?_
      refine r_region ?_
      refine r_stepP rfl rfl rfl rfl (o_assign rfl) ?_
      refine r_stepP rfl rfl rfl rfl (o_assign rfl) ?_
      refine r_done ?_
      refine r_tn (kh12 _ _ _ ?_)
      clear kh12
      refine r_ret ?_
      refine r_br ?_
      refine r_tr ?_
      have e : regR N l c most = ([], 1) := by unfold regR; rw [if_neg c18, if_neg (by omega), if_pos (by omega)]
      exact r_fin2 [[]] Try.results20 rfl rfl (show Fly.Sub _ [[], []] from (by repeat (first | exact Sub.nil | refine Sub.pick ?_ | refine Sub.castO rfl ?_ | refine Sub.skip ?_))) ⟨_, _, by rw [e], rfl, by rw [e]; exact Own.nil _ _⟩
     ·
      refine r_skip ?_
      refine r_bn ?_
      refine r_tn (kh6 _ _ _ ?_)
      clear kh6
      refine r_seq fun K13 kh13 => ?_
      have hg : (gcheck N l).2 = 0 := by simpa using c18
      obtain ⟨hg1, hg2, hgl, hgd⟩ := gcheck_zero hg
      obtain ⟨n, rfl⟩ : ∃ n : Nat, N = (n : Int) := ⟨N.toNat, by omega⟩
      obtain ⟨cn, rfl⟩ : ∃ cn : Nat, c = (cn : Int) := ⟨c.toNat, by omega⟩
      obtain ⟨mn, rfl⟩ : ∃ mn : Nat, most = (mn : Int) := ⟨most.toNat, by omega⟩
      have hn1 : n ≤ 1024 := by omega
      obtain ⟨hrl, hrng⟩ := nbrs_rngG hg
      have hres : regR (n : Int) l (cn : Int) (mn : Int) = ((bfs n (fun v : Nat => nbrs (v : Int) l) cn (List.replicate n false)).1.take mn, 0) := by unfold regR; rw [if_neg (by rw [hg]; simp), if_neg (by omega), if_neg (by omega), Int.toNat_natCast, Int.toNat_natCast, Int.toNat_natCast]
      refine r_region ?_
      refine r_step rfl rfl rfl (Does.toR rfl (o_alloc Try.zeroValue35 rfl fun b10 => ?_))
      refine r_done ?_
      refine r_tn (kh13 _ _ _ ?_)
      clear kh13
      refine r_seq fun K14 kh14 => ?_
      refine r_seq fun K15 kh15 => ?_
      refine r_old ?_
      refine f_regionH [[(b3, blk [.int .i64 (n : Int), .slice A l.length cap] 24)]] rfl ?_
      refine f_take 0 rfl (by decide +kernel) rfl rfl rfl (by repeat (first | exact Sub.nil | refine Sub.pick ?_ | refine Sub.castO rfl ?_ | refine Sub.skip ?_)) (o_loadA (vs := [_, _]) Try.isAgg24 Try.sizeOf24 rfl rfl ⟨(rdA rfl), (rdA rfl), trivial⟩) ?_
      refine f_take 2 rfl (by decide +kernel) rfl rfl rfl (by repeat (first | exact Sub.nil | refine Sub.pick ?_ | refine Sub.castO rfl ?_ | refine Sub.skip ?_)) (o_move rfl) ?_
      refine f_take 3 rfl (by decide +kernel) rfl rfl rfl (by repeat (first | exact Sub.nil | refine Sub.pick ?_ | refine Sub.castO rfl ?_ | refine Sub.skip ?_)) (o_field fa24_0 rfl) ?_
      refine f_take 4 rfl (by decide +kernel) rfl rfl rfl (by repeat (first | exact Sub.nil | refine Sub.pick ?_ | refine Sub.castO rfl ?_ | refine Sub.skip ?_)) (o_load Try.isAgg3 rfl (rdA rfl)) ?_
      refine f_two 1 5 rfl rfl (by decide +kernel) rfl rfl rfl rfl rfl rfl ?_ ?_
      ·
       refine (o_call Try.call41 rfl (fun w_ hp_ => sides_spec n A l cap w_ (hr.up0 hp_) hn1 hgl hgd) ?_)
       rintro _ _ ⟨bo, vs, ms, rfl, rfl, hR⟩
       dsimp only [List.cons_append, List.nil_append]
       refine ⟨(by repeat (first | exact Sub.nil | refine Sub.pick ?_ | refine Sub.castO rfl ?_ | refine Sub.skip ?_)), ?_⟩
       refine f_only 5 rfl (by decide +kernel) rfl rfl rfl (o_make el42 rfl rfl n rfl (by omega) (by omega) (boolsG (List.replicate n false)) (reps_bool n false) fun b41 => ⟨(by repeat (first | exact Sub.nil | refine Sub.pick ?_ | refine Sub.castO rfl ?_ | refine Sub.skip ?_)), ?_⟩)
       refine f_only 6 rfl (by decide +kernel) rfl rfl rfl (o_call Try.call40 rfl (fun w_ hp_ => around_spec n bo b41 (cn : Int) w_) ?_)
       rintro _ _ ⟨q3, q4, q5, rfl, rfl⟩
       dsimp only [List.cons_append, List.nil_append]
       refine ⟨(by repeat (first | exact Sub.nil | refine Sub.pick ?_ | refine Sub.castO rfl ?_ | refine Sub.skip ?_)), ?_⟩
       refine f_over (by decide +kernel) ?_
       refine r_new ?_
       refine r_tn (kh15 _ _ _ ?_)
       clear kh15
       refine r_block ?_
       refine r_range (p := 43) (lb := [.pointer (some ⟨q5, 0, none⟩), .pointer (some ⟨q4, 0, none⟩), .pointer (some ⟨q3, 0, none⟩)]) rfl Try.call61 rfl [[(b10, blk [.slice none 0 0] 35)], [(b5, blk [.int .i64 (mn : Int)] 3)]] [[(q5, blk [.slice (some ⟨b41, 0, none⟩) n n] 42)], [(q4, blk [.int .i64 (cn : Int)] 3)], [(q3, blk [.slice (some ⟨bo, 0, none⟩) n n] 77)], [(b41, blk (boolsG (List.replicate n false)) 4)], [(bo, blk vs 35)], ms.flatten] [] (by repeat (first | exact Sub.refl | exact Sub.nil | refine Sub.pick ?_ | refine Sub.castO rfl ?_ | refine Sub.skip ?_)) (fun y : Int => Value.int .i64 y) (may := arMay (bfs n (fun v : Nat => nbrs (v : Int) l) cn (List.replicate n false))) (Fin := arFin (bfs n (fun v : Nat => nbrs (v : Int) l) cn (List.replicate n false)) n cn b41 bo q3 q4 q5 vs ms.flatten) (Stp := arStp (bfs n (fun v : Nat => nbrs (v : Int) l) cn (List.replicate n false)) n cn b41 bo q3 q4 q5 vs ms.flatten) (fun w1_ m0_ hp_ => around1_iter n cn b41 bo q3 q4 q5 l (List.replicate n false) vs ms m0_ w1_ (by simp) (by omega) hn1 hR hrng hrl) (fun ys m => ys.length < mn ∧ ∃ vo mo, m = [(b10, blk [vo] 35), (b5, blk [.int .i64 (mn : Int)] 3)] ++ mo ∧ Own 3 1 vo ys.length (ints ys) mo) (fun ys m => ys.length = mn ∧ ∃ vo mo, m = [(b10, blk [vo] 35), (b5, blk [.int .i64 (mn : Int)] 3)] ++ mo ∧ Own 3 1 vo ys.length (ints ys) mo) (.exit 1) (⟨by show 0 < mn; omega, .slice none 0 0, [], rfl, Own.nil _ _⟩) ?_ ?_ ?_
       ·
        intro w1_ l_ d_ ys y m_ hI hmay hfr K_ kh_
        obtain ⟨hlt, vo, mo, rfl, hO⟩ := hI
        obtain ⟨Ao, co, rfl, hco⟩ := hO.val
        refine r_subC (Sub.op3 (parts := [[(b10, blk [.slice Ao ys.length co] 35)], [(b5, blk [.int .i64 (mn : Int)] 3)], mo]) (by simp) Sub.refl) ?_
        dsimp only [List.cons_append, List.nil_append]
        refine r_region ?_
        refine r_stepP rfl rfl rfl rfl (o_assign rfl) ?_
        refine r_done ?_
        refine r_tn (kh_ _ _ ?_)
        clear kh_
        refine r_block ?_
        refine r_seq fun K16 kh16 => ?_
        refine r_region ?_
        refine r_stepP rfl rfl rfl rfl (o_load Try.isAgg35 rfl (rdA rfl)) ?_
        refine r_stepP rfl rfl rfl rfl (o_move rfl) ?_
        refine r_step rfl rfl rfl (Does.toR rfl (o_slice1 el35 (by omega) rfl rfl rfl fun b46 => ?_))
        refine r_step rfl rfl rfl (Does.toR rfl (o_append el35 rfl rfl hO (ys := [.int .i64 y]) ⟨(rdA rfl), trivial⟩ rfl rfl (by omega) (by omega) fun v47 m47 o47 => ?_))
        obtain ⟨A47, c47, rfl, _⟩ := o47.val
        refine r_step0 rfl rfl (Does.toR rfl (o_store Try.sizeOf35 rfl rfl rfl rfl (by first | exact Nat.le_of_ble_eq_true rfl | (simp; done) | (simp; omega)) [.slice A47 (ys.length + 1) c47] rfl ?_))
        refine r_done ?_
        refine r_tn (kh16 _ _ _ ?_)
        clear kh16
        refine r_seq fun K17 kh17 => ?_
        refine r_region ?_
        refine r_stepP rfl rfl rfl rfl (o_load Try.isAgg35 rfl (rdA rfl)) ?_
        refine r_stepP rfl rfl rfl rfl (o_len sl35 rfl) ?_
        refine r_stepP rfl rfl rfl rfl (o_load Try.isAgg3 rfl (rdA rfl)) ?_
        refine r_stepP rfl rfl rfl rfl (o_eql rfl rfl) ?_
        refine r_done ?_
        refine r_tn (kh17 _ _ _ ?_)
        clear kh17
        refine r_cond rfl (fun c51 => ?_) (fun c51 => ?_)
        ·
         refine r_exit ?_
         refine r_bo rfl ?_
         exact r_roundOut (m' := [(b10, blk [.slice A47 (ys.length + 1) c47] 35), (b5, blk [.int .i64 (mn : Int)] 3)] ++ m47) (.inr ⟨_, rfl, rfl⟩) (Sub.reg (out := [[(l_, .loop (d_.rc .busy none))], [(d_.D, .deferred (some []))], [(b10, blk [.slice A47 (ys.length + 1) c47] 35)], [(b5, blk [.int .i64 (mn : Int)] 3)], m47]) (by repeat (first | exact Sub.nil | refine Sub.pick ?_ | refine Sub.castO rfl ?_ | refine Sub.skip ?_)) (by simp)) ⟨by simp at c51 ⊢; omega, _, m47, rfl, by rw [List.length_append, ints_append]; exact o47⟩
        ·
         refine r_skip ?_
         refine r_bn ?_
         exact r_roundEnd (m' := [(b10, blk [.slice A47 (ys.length + 1) c47] 35), (b5, blk [.int .i64 (mn : Int)] 3)] ++ m47) (Sub.reg (out := [[(l_, .loop (d_.rc .busy none))], [(d_.D, .deferred (some []))], [(b10, blk [.slice A47 (ys.length + 1) c47] 35)], [(b5, blk [.int .i64 (mn : Int)] 3)], m47]) (by repeat (first | exact Sub.nil | refine Sub.pick ?_ | refine Sub.castO rfl ?_ | refine Sub.skip ?_)) (by simp)) ⟨by simp at c51 ⊢; omega, _, m47, rfl, by rw [List.length_append, ints_append]; exact o47⟩
       ·
        intro D_ ys m_ o_ hF hI
        obtain ⟨hlt, vo, mo, rfl, hO⟩ := hI
        obtain ⟨Ao, co, rfl, hco⟩ := hO.val
        obtain ⟨hF1, rfl⟩ := hF
        have hys : (bfs n (fun v : Nat => nbrs (v : Int) l) cn (List.replicate n false)).1.take mn = ys := by rw [← hF1]; exact List.take_of_length_le (by omega)
        refine r_subQ (Sub.op2 (parts := [[(b10, blk [.slice Ao ys.length co] 35)], [(b5, blk [.int .i64 (mn : Int)] 3)], mo]) (by simp) (show Fly.Sub _ [[(D_, .deferred (some []))], [(b10, blk [.slice Ao ys.length co] 35)], mo] from by dsimp only [List.cons_append, List.nil_append]; repeat (first | exact Sub.nil | refine Sub.pick ?_ | refine Sub.castO rfl ?_ | refine Sub.skip ?_))) ?_
        refine r_bn ?_
        refine r_tn (kh14 _ _ _ ?_)
        clear kh14
        refine r_seq fun K18 kh18 => ?_
        refine r_region ?_
        refine r_stepP rfl rfl rfl rfl (o_load Try.isAgg35 rfl (rdA rfl)) ?_
        refine r_stepP rfl rfl rfl rfl (o_assign rfl) ?_
        refine r_stepP rfl rfl rfl rfl (o_assign rfl) ?_
        refine r_done ?_
        refine r_tn (kh18 _ _ _ ?_)
        clear kh18
        refine r_ret ?_
        exact r_fin2 [mo] Try.results20 rfl rfl (show Fly.Sub _ ([(D_, Obj.deferred (some []))] :: [mo]) from (by repeat (first | exact Sub.nil | refine Sub.pick ?_ | refine Sub.castO rfl ?_ | refine Sub.skip ?_))) ⟨.slice Ao ys.length co, mo, by rw [hres], rfl, by rw [hres]; simp only; rw [hys]; exact hO⟩
       ·
        intro D_ ys m_ o_ hF hI
        obtain ⟨hlt, vo, mo, rfl, hO⟩ := hI
        obtain ⟨Ao, co, rfl, hco⟩ := hO.val
        obtain ⟨kk, hkk, hF1, b', hb', rfl⟩ := hF
        have hys : (bfs n (fun v : Nat => nbrs (v : Int) l) cn (List.replicate n false)).1.take mn = ys := by rw [hF1]; congr 1; rw [hF1, List.length_take] at hlt; omega
        refine r_subC (Sub.op2 (parts := [[(b10, blk [.slice Ao ys.length co] 35)], [(b5, blk [.int .i64 (mn : Int)] 3)], mo]) (by simp) (show Fly.Sub _ [[(D_, .deferred (some []))], [(b10, blk [.slice Ao ys.length co] 35)], mo] from by dsimp only [List.cons_append, List.nil_append]; repeat (first | exact Sub.nil | refine Sub.pick ?_ | refine Sub.castO rfl ?_ | refine Sub.skip ?_))) ?_
        refine r_exit ?_
        refine r_be ?_
        refine r_tn (kh14 _ _ _ ?_)
        clear kh14
        refine r_seq fun K19 kh19 => ?_
        refine r_region ?_
        refine r_stepP rfl rfl rfl rfl (o_load Try.isAgg35 rfl (rdA rfl)) ?_
        refine r_stepP rfl rfl rfl rfl (o_assign rfl) ?_
        refine r_stepP rfl rfl rfl rfl (o_assign rfl) ?_
        refine r_done ?_
        refine r_tn (kh19 _ _ _ ?_)
        clear kh19
        refine r_ret ?_
        exact r_fin2 [mo] Try.results20 rfl rfl (show Fly.Sub _ ([(D_, Obj.deferred (some []))] :: [mo]) from (by repeat (first | exact Sub.nil | refine Sub.pick ?_ | refine Sub.castO rfl ?_ | refine Sub.skip ?_))) ⟨.slice Ao ys.length co, mo, by rw [hres], rfl, by rw [hres]; simp only; rw [hys]; exact hO⟩
      ·
       refine (o_make el42 rfl rfl n rfl (by omega) (by omega) (boolsG (List.replicate n false)) (reps_bool n false) fun b41 => ⟨(by repeat (first | exact Sub.nil | refine Sub.pick ?_ | refine Sub.castO rfl ?_ | refine Sub.skip ?_)), ?_⟩)
       refine f_only 1 rfl (by decide +kernel) rfl rfl rfl (o_call Try.call41 rfl (fun w_ hp_ => sides_spec n A l cap w_ (hr.up0 hp_) hn1 hgl hgd) ?_)
       rintro _ _ ⟨bo, vs, ms, rfl, rfl, hR⟩
       dsimp only [List.cons_append, List.nil_append]
       refine ⟨(by repeat (first | exact Sub.nil | refine Sub.pick ?_ | refine Sub.castO rfl ?_ | refine Sub.skip ?_)), ?_⟩
       refine f_only 6 rfl (by decide +kernel) rfl rfl rfl (o_call Try.call40 rfl (fun w_ hp_ => around_spec n bo b41 (cn : Int) w_) ?_)
       rintro _ _ ⟨q3, q4, q5, rfl, rfl⟩
       dsimp only [List.cons_append, List.nil_append]
       refine ⟨(by repeat (first | exact Sub.nil | refine Sub.pick ?_ | refine Sub.castO rfl ?_ | refine Sub.skip ?_)), ?_⟩
       refine f_over (by decide +kernel) ?_
       refine r_new ?_
       refine r_tn (kh15 _ _ _ ?_)
       clear kh15
       refine r_block ?_
       refine r_range (p := 43) (lb := [.pointer (some ⟨q5, 0, none⟩), .pointer (some ⟨q4, 0, none⟩), .pointer (some ⟨q3, 0, none⟩)]) rfl Try.call61 rfl [[(b10, blk [.slice none 0 0] 35)], [(b5, blk [.int .i64 (mn : Int)] 3)]] [[(q5, blk [.slice (some ⟨b41, 0, none⟩) n n] 42)], [(q4, blk [.int .i64 (cn : Int)] 3)], [(q3, blk [.slice (some ⟨bo, 0, none⟩) n n] 77)], [(b41, blk (boolsG (List.replicate n false)) 4)], [(bo, blk vs 35)], ms.flatten] [] (by repeat (first | exact Sub.refl | exact Sub.nil | refine Sub.pick ?_ | refine Sub.castO rfl ?_ | refine Sub.skip ?_)) (fun y : Int => Value.int .i64 y) (may := arMay (bfs n (fun v : Nat => nbrs (v : Int) l) cn (List.replicate n false))) (Fin := arFin (bfs n (fun v : Nat => nbrs (v : Int) l) cn (List.replicate n false)) n cn b41 bo q3 q4 q5 vs ms.flatten) (Stp := arStp (bfs n (fun v : Nat => nbrs (v : Int) l) cn (List.replicate n false)) n cn b41 bo q3 q4 q5 vs ms.flatten) (fun w1_ m0_ hp_ => around1_iter n cn b41 bo q3 q4 q5 l (List.replicate n false) vs ms m0_ w1_ (by simp) (by omega) hn1 hR hrng hrl) (fun ys m => ys.length < mn ∧ ∃ vo mo, m = [(b10, blk [vo] 35), (b5, blk [.int .i64 (mn : Int)] 3)] ++ mo ∧ Own 3 1 vo ys.length (ints ys) mo) (fun ys m => ys.length = mn ∧ ∃ vo mo, m = [(b10, blk [vo] 35), (b5, blk [.int .i64 (mn : Int)] 3)] ++ mo ∧ Own 3 1 vo ys.length (ints ys) mo) (.exit 1) (⟨by show 0 < mn; omega, .slice none 0 0, [], rfl, Own.nil _ _⟩) ?_ ?_ ?_
       ·
        intro w1_ l_ d_ ys y m_ hI hmay hfr K_ kh_
        obtain ⟨hlt, vo, mo, rfl, hO⟩ := hI
        obtain ⟨Ao, co, rfl, hco⟩ := hO.val
        refine r_subC (Sub.op3 (parts := [[(b10, blk [.slice Ao ys.length co] 35)], [(b5, blk [.int .i64 (mn : Int)] 3)], mo]) (by simp) Sub.refl) ?_
        dsimp only [List.cons_append, List.nil_append]
        refine r_region ?_
        refine r_stepP rfl rfl rfl rfl (o_assign rfl) ?_
        refine r_done ?_
        refine r_tn (kh_ _ _ ?_)
        clear kh_
        refine r_block ?_
        refine r_seq fun K20 kh20 => ?_
        refine r_region ?_
        refine r_stepP rfl rfl rfl rfl (o_load Try.isAgg35 rfl (rdA rfl)) ?_
        refine r_stepP rfl rfl rfl rfl (o_move rfl) ?_
        refine r_step rfl rfl rfl (Does.toR rfl (o_slice1 el35 (by omega) rfl rfl rfl fun b46 => ?_))
        refine r_step rfl rfl rfl (Does.toR rfl (o_append el35 rfl rfl hO (ys := [.int .i64 y]) ⟨(rdA rfl), trivial⟩ rfl rfl (by omega) (by omega) fun v47 m47 o47 => ?_))
        obtain ⟨A47, c47, rfl, _⟩ := o47.val
        refine r_step0 rfl rfl (Does.toR rfl (o_store Try.sizeOf35 rfl rfl rfl rfl (by first | exact Nat.le_of_ble_eq_true rfl | (simp; done) | (simp; omega)) [.slice A47 (ys.length + 1) c47] rfl ?_))
        refine r_done ?_
        refine r_tn (kh20 _ _ _ ?_)
        clear kh20
        refine r_seq fun K21 kh21 => ?_
        refine r_region ?_
        refine r_stepP rfl rfl rfl rfl (o_load Try.isAgg35 rfl (rdA rfl)) ?_
        refine r_stepP rfl rfl rfl rfl (o_len sl35 rfl) ?_
        refine r_stepP rfl rfl rfl rfl (o_load Try.isAgg3 rfl (rdA rfl)) ?_
        refine r_stepP rfl rfl rfl rfl (o_eql rfl rfl) ?_
        refine r_done ?_
        refine r_tn (kh21 _ _ _ ?_)
        clear kh21
        refine r_cond rfl (fun c51 => ?_) (fun c51 => ?_)
        ·
         refine r_exit ?_
         refine r_bo rfl ?_
         exact r_roundOut (m' := [(b10, blk [.slice A47 (ys.length + 1) c47] 35), (b5, blk [.int .i64 (mn : Int)] 3)] ++ m47) (.inr ⟨_, rfl, rfl⟩) (Sub.reg (out := [[(l_, .loop (d_.rc .busy none))], [(d_.D, .deferred (some []))], [(b10, blk [.slice A47 (ys.length + 1) c47] 35)], [(b5, blk [.int .i64 (mn : Int)] 3)], m47]) (by repeat (first | exact Sub.nil | refine Sub.pick ?_ | refine Sub.castO rfl ?_ | refine Sub.skip ?_)) (by simp)) ⟨by simp at c51 ⊢; omega, _, m47, rfl, by rw [List.length_append, ints_append]; exact o47⟩
        ·
         refine r_skip ?_
         refine r_bn ?_
         exact r_roundEnd (m' := [(b10, blk [.slice A47 (ys.length + 1) c47] 35), (b5, blk [.int .i64 (mn : Int)] 3)] ++ m47) (Sub.reg (out := [[(l_, .loop (d_.rc .busy none))], [(d_.D, .deferred (some []))], [(b10, blk [.slice A47 (ys.length + 1) c47] 35)], [(b5, blk [.int .i64 (mn : Int)] 3)], m47]) (by repeat (first | exact Sub.nil | refine Sub.pick ?_ | refine Sub.castO rfl ?_ | refine Sub.skip ?_)) (by simp)) ⟨by simp at c51 ⊢; omega, _, m47, rfl, by rw [List.length_append, ints_append]; exact o47⟩
       ·
        intro D_ ys m_ o_ hF hI
        obtain ⟨hlt, vo, mo, rfl, hO⟩ := hI
        obtain ⟨Ao, co, rfl, hco⟩ := hO.val
        obtain ⟨hF1, rfl⟩ := hF
        have hys : (bfs n (fun v : Nat => nbrs (v : Int) l) cn (List.replicate n false)).1.take mn = ys := by rw [← hF1]; exact List.take_of_length_le (by omega)
        refine r_subQ (Sub.op2 (parts := [[(b10, blk [.slice Ao ys.length co] 35)], [(b5, blk [.int .i64 (mn : Int)] 3)], mo]) (by simp) (show Fly.Sub _ [[(D_, .deferred (some []))], [(b10, blk [.slice Ao ys.length co] 35)], mo] from by dsimp only [List.cons_append, List.nil_append]; repeat (first | exact Sub.nil | refine Sub.pick ?_ | refine Sub.castO rfl ?_ | refine Sub.skip ?_))) ?_
        refine r_bn ?_
        refine r_tn (kh14 _ _ _ ?_)
        clear kh14
        refine r_seq fun K22 kh22 => ?_
        refine r_region ?_
        refine r_stepP rfl rfl rfl rfl (o_load Try.isAgg35 rfl (rdA rfl)) ?_
        refine r_stepP rfl rfl rfl rfl (o_assign rfl) ?_
        refine r_stepP rfl rfl rfl rfl (o_assign rfl) ?_
        refine r_done ?_
        refine r_tn (kh22 _ _ _ ?_)
        clear kh22
        refine r_ret ?_
        exact r_fin2 [mo] Try.results20 rfl rfl (show Fly.Sub _ ([(D_, Obj.deferred (some []))] :: [mo]) from (by repeat (first | exact Sub.nil | refine Sub.pick ?_ | refine Sub.castO rfl ?_ | refine Sub.skip ?_))) ⟨.slice Ao ys.length co, mo, by rw [hres], rfl, by rw [hres]; simp only; rw [hys]; exact hO⟩
       ·
        intro D_ ys m_ o_ hF hI
        obtain ⟨hlt, vo, mo, rfl, hO⟩ := hI
        obtain ⟨Ao, co, rfl, hco⟩ := hO.val
        obtain ⟨kk, hkk, hF1, b', hb', rfl⟩ := hF
        have hys : (bfs n (fun v : Nat => nbrs (v : Int) l) cn (List.replicate n false)).1.take mn = ys := by rw [hF1]; congr 1; rw [hF1, List.length_take] at hlt; omega
        refine r_subC (Sub.op2 (parts := [[(b10, blk [.slice Ao ys.length co] 35)], [(b5, blk [.int .i64 (mn : Int)] 3)], mo]) (by simp) (show Fly.Sub _ [[(D_, .deferred (some []))], [(b10, blk [.slice Ao ys.length co] 35)], mo] from by dsimp only [List.cons_append, List.nil_append]; repeat (first | exact Sub.nil | refine Sub.pick ?_ | refine Sub.castO rfl ?_ | refine Sub.skip ?_))) ?_
        refine r_exit ?_
        refine r_be ?_
        refine r_tn (kh14 _ _ _ ?_)
        clear kh14
        refine r_seq fun K23 kh23 => ?_
        refine r_region ?_
        refine r_stepP rfl rfl rfl rfl (o_load Try.isAgg35 rfl (rdA rfl)) ?_
        refine r_stepP rfl rfl rfl rfl (o_assign rfl) ?_
        refine r_stepP rfl rfl rfl rfl (o_assign rfl) ?_
        refine r_done ?_
        refine r_tn (kh23 _ _ _ ?_)
        clear kh23
        refine r_ret ?_
        exact r_fin2 [mo] Try.results20 rfl rfl (show Fly.Sub _ ([(D_, Obj.deferred (some []))] :: [mo]) from (by repeat (first | exact Sub.nil | refine Sub.pick ?_ | refine Sub.castO rfl ?_ | refine Sub.skip ?_))) ⟨.slice Ao ys.length co, mo, by rw [hres], rfl, by rw [hres]; simp only; rw [hys]; exact hO⟩

end Go.Proofs.Ytbjiejhdgkpjcaa

/- slices.IndexFunc, slices.ContainsFunc, slices.Clone over numbers. -/
namespace Go.Proofs.Ytbjiejhdgkpjcaa
open Go Go.RowKit Fly
set_option linter.unusedVariables false
set_option linter.unusedSimpArgs false


theorem anyG_no {α : Type} {p : α → Bool} {l : List α} {k : Nat} (hk : l.length ≤ k) (h : ∀ j (a : j < l.length), j < k → p l[j] = false) : l.any p = false := List.any_eq_false.2 fun x hx => by
  obtain ⟨i, hi, rfl⟩ := List.mem_iff_getElem.1 hx
  simp [h i hi (by omega)]
theorem anyG_yes {α : Type} {p : α → Bool} {l : List α} {k : Nat} (hk : k < l.length) (h : p l[k] = true) : l.any p = true := List.any_eq_true.2 ⟨_, List.getElem_mem hk, h⟩
theorem ints_oneG (l : List Int) : (ints l).all (·.oneCell') = true := by
  induction l with
  | nil => rfl
  | cons x l ih => rw [show ints (x :: l) = .int .i64 x :: ints l from rfl, List.all_cons, ih]; rfl

set_option maxRecDepth 100000 in
set_option maxHeartbeats 4000000 in
theorem IdxG_spec (A : Option Addr) (l : List Int) (cap : Nat) (p : Int → Bool) (fi : FuncId) (capi : List Value) (w : World) (hr : Ro (Fr w []) w A (ints l)) (hm : l.length ≤ 9223372036854775807) (hci : ∀ args w, (callFunc fi args).run Try.prog w = .ok (.enter fi args) w)
    (his : ∀ w', (∀ k, Fr w [] k → w'.heap[k]? = w.heap[k]?) → ∀ i, i ∈ l → Meets Try.prog fi ([.int .i64 i] ++ capi) w' [] (fun u m => u = .bool (p i) ∧ m = [])) :
    Meets Try.prog 64 [.slice A l.length cap, .func (.func fi) #[] capi.toArray] w [] (fun u m => ∃ r, u = .int .i64 r ∧ m = [] ∧ decide (0 ≤ r) = l.any p) := by
 refine f_enter Try.func64 rfl Try.ntmps64 rfl Owns.nil ?_
 refine f_seq fun K1 kh1 => ?_
 refine f_region ?_
 refine f_stepP rfl rfl rfl (o_assign rfl) ?_
 refine f_done ?_
 refine f_tn (kh1 _ _ ?_)
 clear kh1
 refine f_seq fun K2 kh2 => ?_
 refine f_seq fun K3 kh3 => ?_
 refine f_region ?_
 refine f_stepP rfl rfl rfl (o_move rfl) ?_
 refine f_stepP rfl rfl rfl (o_len sl35 rfl) ?_
 refine f_stepP rfl rfl rfl (o_move rfl) ?_
 refine f_done ?_
 refine f_tn (kh3 _ _ ?_)
 clear kh3
 refine f_block ?_
 refine f_loopK (α := Nat) [0, 1, 7] (fun k => [(8, .int .i64 (k : Int))]) (fun k => k ≤ l.length ∧ ∀ j (a : j < l.length), j < k → p l[j] = false) (fun k => l.length - k) (0) ?_ ?_ ?_
 · exact (by repeat (first | exact trivial | refine ⟨rfl, ?_⟩))
 · exact ⟨Nat.zero_le _, fun j _ h => by omega⟩
 ·
  rintro k ⟨hkl, hpre⟩
  refine f_seq fun K4 kh4 => ?_
  refine f_region ?_
  refine f_stepP rfl rfl rfl (o_lss rfl rfl) ?_
  refine f_done ?_
  refine f_tn (kh4 _ _ ?_)
  clear kh4
  refine f_seq fun K5 kh5 => ?_
  refine f_cond rfl (fun c9 => ?_) (fun c9 => ?_)
  ·
   refine f_skip ?_
   refine f_tn (kh5 _ _ ?_)
   clear kh5
   refine f_seq fun K6 kh6 => ?_
   refine f_block ?_
   refine f_seq fun K7 kh7 => ?_
   refine f_region ?_
   refine f_stepP rfl rfl rfl (o_move rfl) ?_
   refine f_stepP rfl rfl rfl (o_assign rfl) ?_
   refine f_done ?_
   refine f_tn (kh7 _ _ ?_)
   clear kh7
   refine f_seq fun K8 kh8 => ?_
   refine f_region ?_
   refine f_stepP rfl rfl rfl (o_move rfl) ?_
   refine f_stepP rfl rfl rfl (o_move rfl) ?_
   refine f_stepP rfl rfl rfl (o_move rfl) ?_
   have hk : k < l.length := by omega
   obtain ⟨b1, o1, rfl, hS1, hc1⟩ := hr (map_ne hk)
   refine f_stepP rfl rfl rfl (o_idx sl35 rfl rfl (o1 + k) ⟨by omega, by omega, by first | omega | (simp; done) | (simp; omega)⟩) ?_
   refine f_stepP rfl rfl rfl (o_load Try.isAgg3 rfl (roOne (enc := (.int .i64 ·)) hS1 hc1 hk)) ?_
   refine f_step rfl rfl rfl (o_callV [] _ hci rfl rfl Sub.refl (fun w_ hp_ => (by have h := his w_ (fun k hk => hp_.same k hk) _ (List.getElem_mem hk); exact h)) ?_)
   rintro _ _ ⟨rfl, rfl⟩
   dsimp only [List.cons_append, List.nil_append]
   refine f_done ?_
   refine f_tn (kh8 _ _ ?_)
   clear kh8
   refine f_condB rfl (fun c16 => ?_) (fun c16 => ?_)
   ·
    refine f_seq fun K9 kh9 => ?_
    refine f_region ?_
    refine f_stepP rfl rfl rfl (o_move rfl) ?_
    refine f_stepP rfl rfl rfl (o_assign rfl) ?_
    refine f_done ?_
    refine f_tn (kh9 _ _ ?_)
    clear kh9
    refine f_ret ?_
    refine f_br ?_
    refine f_tr ?_
    refine f_tr ?_
    refine f_br ?_
    refine f_tr ?_
    exact f_fin1 [] Try.results64 rfl Sub.nil ⟨_, rfl, rfl, by rw [anyG_yes hk c16]; simp⟩
   ·
    refine f_skip ?_
    refine f_bn ?_
    refine f_tn (kh6 _ _ ?_)
    clear kh6
    refine f_region ?_
    refine f_stepP rfl rfl rfl (o_add rfl rfl _ (wrap_i64 (by omega))) ?_
    refine f_stepP rfl rfl rfl (o_move rfl) ?_
    refine f_done ?_
    refine f_tn (f_again (k + 1) (by first | omega | (dsimp only; omega) | (simp; omega)) ⟨by omega, false_next (hk := hk) hpre (by simpa using c16)⟩ ?_ ?_ ?_)
    · exact (by repeat (first | exact trivial | refine ⟨rfl, ?_⟩))
    · exact (by repeat (first | exact trivial | refine ⟨rfl, ?_⟩))
    · repeat (first | exact Sub.nil | refine Sub.pick ?_ | refine Sub.castO rfl ?_ | refine Sub.skip ?_)
  ·
   refine f_exit ?_
   refine f_te ?_
   clear kh5
   refine f_te ?_
   refine f_be ?_
   refine f_tn (kh2 _ _ ?_)
   clear kh2
   refine f_seq fun K10 kh10 => ?_
   refine f_region ?_
   refine f_stepP rfl rfl rfl (o_assign rfl) ?_
   refine f_done ?_
   refine f_tn (kh10 _ _ ?_)
   clear kh10
   refine f_ret ?_
   exact f_fin1 [] Try.results64 rfl Sub.nil ⟨_, rfl, rfl, by rw [anyG_no (by omega) hpre]; rfl⟩

set_option maxRecDepth 100000 in
set_option maxHeartbeats 4000000 in
theorem ContG_spec (A : Option Addr) (l : List Int) (cap : Nat) (p : Int → Bool) (fi : FuncId) (capi : List Value) (w : World) (hr : Ro (Fr w []) w A (ints l)) (hm : l.length ≤ 9223372036854775807) (hci : ∀ args w, (callFunc fi args).run Try.prog w = .ok (.enter fi args) w)
    (his : ∀ w', (∀ k, Fr w [] k → w'.heap[k]? = w.heap[k]?) → ∀ i, i ∈ l → Meets Try.prog fi ([.int .i64 i] ++ capi) w' [] (fun u m => u = .bool (p i) ∧ m = [])) :
    Meets Try.prog 43 [.slice A l.length cap, .func (.func fi) #[] capi.toArray] w [] (fun u m => u = .bool (l.any p) ∧ m = []) := by
 refine f_enter Try.func43 rfl Try.ntmps43 rfl Owns.nil ?_
 refine f_seq fun K1 kh1 => ?_
 refine f_region ?_
 refine f_stepP rfl rfl rfl (o_assign rfl) ?_
 refine f_done ?_
 refine f_tn (kh1 _ _ ?_)
 clear kh1
 refine f_seq fun K2 kh2 => ?_
 refine f_region ?_
 refine f_stepP rfl rfl rfl (o_move rfl) ?_
 refine f_stepP rfl rfl rfl (o_move rfl) ?_
 refine f_step rfl rfl rfl (o_call Try.call64 rfl (fun w_ hp_ => IdxG_spec A l cap p fi capi w_ (hr.up0 hp_) hm hci (fun w' hs i hi => his w' (fun k hk => by rw [hs k ⟨Nat.lt_of_lt_of_le (hp_.lt k hk) hp_.size, by simp⟩]; exact hp_.same k hk) i hi)) ?_)
 rintro _ _ ⟨r, rfl, rfl, hr2⟩
 dsimp only [List.cons_append, List.nil_append]
 refine f_stepP rfl rfl rfl (o_geq rfl rfl) ?_
 refine f_stepP rfl rfl rfl (o_assign rfl) ?_
 refine f_done ?_
 refine f_tn (kh2 _ _ ?_)
 clear kh2
 refine f_ret ?_
 exact f_fin1 [] Try.results43 rfl Sub.nil ⟨by rw [← hr2], rfl⟩

set_option maxRecDepth 100000 in
set_option maxHeartbeats 4000000 in
theorem CloneG_spec (A : Option Addr) (len : Nat) (cs : List Value) (cap : Nat) (w : World) (hs : Ro (Fr w []) w A cs) (hn : A = none → len = 0) (hl : cs.length = len * 1) (hone : cs.all (·.oneCell') = true) (hmax : len ≤ 1000000000) :
    Meets Try.prog 42 [.slice A len cap] w [] (fun u own' => ∃ m, own' = [m] ∧ Own 3 1 u len cs m) := by
 refine f_enter Try.func42 rfl Try.ntmps42 rfl Owns.nil ?_
 refine f_seq fun K1 kh1 => ?_
 refine f_region ?_
 refine f_stepP rfl rfl rfl (o_assign rfl) ?_
 refine f_done ?_
 refine f_tn (kh1 _ _ ?_)
 clear kh1
 refine f_seq fun K2 kh2 => ?_
 refine f_seq fun K3 kh3 => ?_
 refine f_region ?_
 refine f_stepP rfl rfl rfl (o_move rfl) ?_
 refine f_stepP rfl rfl rfl (o_eqlSl Try.underlying35 rfl rfl) ?_
 refine f_done ?_
 refine f_tn (kh3 _ _ ?_)
 clear kh3
 refine f_condB rfl (fun c4 => ?_) (fun c4 => ?_)
 ·
  obtain rfl : A = none := by cases A <;> first | rfl | simp at c4
  obtain rfl : len = 0 := hn rfl
  obtain rfl : cs = [] := List.eq_nil_of_length_eq_zero (by simpa using hl)
  refine f_seq fun K4 kh4 => ?_
  refine f_region ?_
  refine f_stepP rfl rfl rfl (o_assign rfl) ?_
  refine f_done ?_
  refine f_tn (kh4 _ _ ?_)
  clear kh4
  refine f_ret ?_
  refine f_tr ?_
  exact f_fin1 [[]] Try.results42 rfl Sub.empty ⟨[], rfl, Own.nil _ _⟩
 ·
  refine f_skip ?_
  refine f_tn (kh2 _ _ ?_)
  clear kh2
  refine f_seq fun K5 kh5 => ?_
  refine f_region ?_
  refine f_step rfl rfl rfl (o_slice0 el35 fun b5 => ?_)
  refine f_stepP rfl rfl rfl (o_move rfl) ?_
  refine f_step rfl rfl rfl (o_appendQ el35 rfl rfl (Own.mk (b := b5) (cs := []) (len := 0) rfl (by omega)) (ys := cs) (fun hne => by obtain ⟨b, off, e, hS, hc⟩ := hs hne; exact ⟨b, off, e, Seen.rds fun _ => ⟨hS, hc⟩⟩) hl hone (by omega) (by omega) fun v7 m7 o7 => ?_)
  refine f_stepP rfl rfl rfl (o_assign rfl) ?_
  refine f_done ?_
  refine f_tn (kh5 _ _ ?_)
  clear kh5
  refine f_ret ?_
  exact f_fin1 [m7] Try.results42 rfl (by repeat (first | exact Sub.nil | refine Sub.pick ?_)) ⟨m7, rfl, by simpa using o7⟩

end Go.Proofs.Ytbjiejhdgkpjcaa

/- grow.Core, grow.Ring. -/
namespace Go.Proofs.Ytbjiejhdgkpjcaa
open Go Go.RowKit Fly
set_option linter.unusedVariables false
set_option linter.unusedSimpArgs false


def coreR (N : Int) (l : List Arc) (c most : Int) : List Int × Int := ((regR N l c most).1.take (((regR N l c most).1.length + 3) / 4), (regR N l c most).2)
theorem regR_len {N : Int} {l : List Arc} {c most : Int} : (regR N l c most).1.length ≤ 1024 := by
  unfold regR
  split
  · simp
  · split
    · simp
    · split
      · simp
      · simp only [List.length_take]; omega
theorem regR_err {N : Int} {l : List Arc} {c most : Int} (h : (regR N l c most).2 ≠ 0) : (regR N l c most).1 = [] := by
  unfold regR at h ⊢
  split
  · rfl
  · split
    · rfl
    · split
      · rfl
      · rename_i h1 h2 h3; rw [if_neg h1, if_neg h2, if_neg h3] at h; exact absurd rfl h
/-- Marks of some vertices. -/
def marksL (n : Nat) (M : List Int) : List Bool := (List.range n).map fun v => decide (Int.ofNat v ∈ M)
theorem marksL_len (n : Nat) (M : List Int) : (marksL n M).length = n := by simp [marksL]
theorem marksL_at {n v : Nat} {M : List Int} (h : v < n) : (marksL n M).getD v false = decide ((v : Int) ∈ M) := by simp [marksL, List.getD_eq_getElem?_getD, h]
theorem marksL_nil (n : Nat) : marksL n [] = List.replicate n false := List.ext_getElem (by simp [marksL]) fun i h1 h2 => by simp [marksL]
theorem marksL_next {n : Nat} {M : List Int} {k v : Nat} (hk : k < M.length) (hv : M[k] = (v : Int)) : (marksL n (M.take k)).set v true = marksL n (M.take (k + 1)) := by
  have e0 : marksL n (M.take (k + 1)) = marksL n (M.take k ++ [(v : Int)]) := by rw [List.take_succ_eq_append_getElem hk, hv]
  rw [e0]
  refine List.ext_getElem (by simp [marksL]) fun i h1 h2 => ?_
  by_cases e : v = i
  · subst e
    rw [List.getElem_set_self]
    simp [marksL]
  · rw [List.getElem_set_ne e]
    simp only [marksL, List.getElem_map, List.getElem_range]
    apply decide_eq_decide.2
    rw [List.mem_append, List.mem_singleton]
    constructor
    · exact .inl
    · rintro (h | h)
      · exact h
      · exact absurd (show v = i by have : (i : Int) = (v : Int) := h; omega) e
def offV (N : Int) (v : Int) : Bool := decide (v < 0 ∨ N ≤ v)
def rgB (l : List Arc) (M : List Int) (v : Nat) : Bool := !decide ((v : Int) ∈ M) && (nbrs (v : Int) l).any fun u => decide (u ∈ M)
def ringL (l : List Arc) (M : List Int) : Nat → List Int
  | 0 => []
  | v + 1 => if rgB l M v then ringL l M v ++ [(v : Int)] else ringL l M v
theorem ringL_len (l : List Arc) (M : List Int) : ∀ v, (ringL l M v).length ≤ v
  | 0 => Nat.le_refl _
  | v + 1 => by
    have := ringL_len l M v
    unfold ringL
    split
    · simp; omega
    · omega
def ringR (N : Int) (l : List Arc) (M : List Int) : List Int × Int :=
  if (gcheck N l).2 ≠ 0 then ([], (gcheck N l).2) else if 16384 < M.length then ([], 2) else if M.any (offV N) then ([], 5) else if ¬ M.Nodup then ([], 4) else (ringL l M N.toNat, 0)
theorem nodup_not {M : List Int} {k : Nat} (hk : k < M.length) (h : M[k] ∈ M.take k) : ¬ M.Nodup := fun hn => by
  obtain ⟨i, hi, e⟩ := List.mem_iff_getElem.1 h
  rw [List.getElem_take] at e
  have hik : i < k := by simp at hi; omega
  exact List.pairwise_iff_getElem.1 hn i k (by omega) hk hik e
theorem nodup_next {M : List Int} {k : Nat} (hk : k < M.length) (h : (M.take k).Nodup) (hn : M[k] ∉ M.take k) : (M.take (k + 1)).Nodup := by
  rw [List.take_succ_eq_append_getElem hk, List.nodup_append]
  exact ⟨h, by simp, fun a ha b hb e => by simp only [List.mem_singleton] at hb; subst hb; subst e; exact hn ha⟩

set_option maxRecDepth 100000 in
set_option maxHeartbeats 4000000 in
theorem Core_spec (N : Int) (A : Option Addr) (l : List Arc) (cap : Nat) (c most : Int) (w : World) (hr : Ro (Fr w []) w A (l.flatMap arcCs)) (hl : l.length ≤ 9223372036854775807) (hN : I64 N) (hok : ∀ x ∈ l, ArcOk x) :
    Meets Try.prog 21 [.agg #[.int .i64 N, .slice A l.length cap], .int .i64 c, .int .i64 most] w [] (fun u own' => ∃ s ms, u = .tuple #[s, .int .i64 (coreR N l c most).2] ∧ own' = [ms] ∧ Own 3 1 s (coreR N l c most).1.length (ints (coreR N l c most).1) ms) := by
 have hrl := regR_len (N := N) (l := l) (c := c) (most := most)
 refine f_enter Try.func21 rfl Try.ntmps21 rfl Owns.nil ?_
 refine f_seq fun K1 kh1 => ?_
 refine f_region ?_
 refine f_step rfl rfl rfl (o_box rfl rfl fun b3 => ?_)
 refine f_stepP rfl rfl rfl (o_assign rfl) ?_
 refine f_stepP rfl rfl rfl (o_assign rfl) ?_
 refine f_done ?_
 refine f_tn (kh1 _ _ ?_)
 clear kh1
 refine f_seq fun K2 kh2 => ?_
 refine f_region ?_
 refine f_stepP rfl rfl rfl (o_loadA (vs := [_, _]) Try.isAgg24 Try.sizeOf24 rfl rfl ⟨(rdA rfl), (rdA rfl), trivial⟩) ?_
 refine f_stepP rfl rfl rfl (o_move rfl) ?_
 refine f_stepP rfl rfl rfl (o_move rfl) ?_
 refine f_step rfl rfl rfl (o_call Try.call20 rfl (fun w_ hp_ => Region_spec N A l cap c most w_ (hr.up0 hp_) hl hN hok) ?_)
 rintro _ _ ⟨s, ms, rfl, rfl, ho⟩
 obtain ⟨Ao, co, rfl, hco⟩ := ho.val
 dsimp only [List.cons_append, List.nil_append]
 refine f_stepP rfl rfl rfl (o_move rfl) ?_
 refine f_stepP rfl rfl rfl (o_extract rfl rfl) ?_
 refine f_stepP rfl rfl rfl (o_extract rfl rfl) ?_
 refine f_stepP rfl rfl rfl (o_assign rfl) ?_
 refine f_stepP rfl rfl rfl (o_assign rfl) ?_
 refine f_done ?_
 refine f_tn (kh2 _ _ ?_)
 clear kh2
 refine f_seq fun K3 kh3 => ?_
 refine f_seq fun K4 kh4 => ?_
 refine f_region ?_
 refine f_stepP rfl rfl rfl (o_move rfl) ?_
 refine f_stepP rfl rfl rfl (o_neq rfl rfl) ?_
 refine f_done ?_
 refine f_tn (kh4 _ _ ?_)
 clear kh4
 refine f_cond rfl (fun c18 => ?_) (fun c18 => ?_)
 ·
  refine f_seq fun K5 kh5 => ?_
  refine f_region ?_
  refine f_stepP rfl rfl rfl (o_move rfl) ?_
  refine f_stepP rfl rfl rfl (o_assign rfl) ?_
  refine f_stepP rfl rfl rfl (o_assign rfl) ?_
  refine f_done ?_
  refine f_tn (kh5 _ _ ?_)
  clear kh5
  refine f_ret ?_
  refine f_tr ?_
  have e1 := regR_err c18
  exact f_fin2 [[]] Try.results21 rfl rfl (show Fly.Sub _ [[]] from (by repeat (first | exact Sub.nil | refine Sub.pick ?_ | refine Sub.castO rfl ?_ | refine Sub.skip ?_))) ⟨_, _, rfl, rfl, by unfold coreR; rw [e1]; exact Own.nil _ _⟩
 ·
  refine f_skip ?_
  refine f_tn (kh3 _ _ ?_)
  clear kh3
  refine f_seq fun K6 kh6 => ?_
  refine f_region ?_
  refine f_stepP rfl rfl rfl (o_move rfl) ?_
  refine f_stepP rfl rfl rfl (o_move rfl) ?_
  refine f_stepP rfl rfl rfl (o_len sl35 rfl) ?_
  refine f_stepP rfl rfl rfl (o_add rfl rfl _ (wrap_i64 (by omega))) ?_
  refine f_stepP rfl rfl rfl (o_quo rfl rfl (by decide) (((((regR N l c most).1.length + 3) / 4 : Nat)) : Int) (by rw [show ((((regR N l c most).1.length : Nat) : Int) + 3) = (((regR N l c most).1.length + 3 : Nat) : Int) by omega, show (4 : Int) = ((4 : Nat) : Int) from rfl, tdiv_nat]; exact wrap_i64 (by omega))) ?_
  refine f_stepP rfl rfl rfl (o_slice sl35 rfl rfl rfl rfl (fun h => by cases h) 0 (((regR N l c most).1.length + 3) / 4) co (.inl ⟨rfl, rfl⟩) (.inr ⟨_, _, rfl, by omega⟩) (.inl ⟨rfl, rfl⟩) ⟨by omega, by omega, by omega⟩ (.slice Ao (((regR N l c most).1.length + 3) / 4) co) (by rw [Nat.sub_zero]; congr 1; split; rfl; cases Ao with | none => rfl | some x => obtain ⟨p, q, r⟩ := x; cases r <;> simp [Addr.add])) ?_
  refine f_step rfl rfl rfl (o_call Try.call42 rfl (fun w_ hp_ => CloneG_spec Ao (((regR N l c most).1.length + 3) / 4) (ints ((regR N l c most).1.take (((regR N l c most).1.length + 3) / 4))) co w_ (by have h := seen_ro (ho.seen hp_); rw [← List.take_append_drop (((regR N l c most).1.length + 3) / 4) (regR N l c most).1, ints_append] at h; exact fun hne => by obtain ⟨b, off, e, hS, hc⟩ := h (by simp [hne]); exact ⟨b, off, e, hS, fun j v hj => hc j v (app_get hj)⟩) (fun e => by have := own_none ho e; omega) (by rw [ints_length, List.length_take]; omega) (ints_oneG _) (by omega)) ?_)
  rintro v26 _ ⟨m26, rfl, o26⟩
  dsimp only [List.cons_append, List.nil_append]
  refine f_stepP rfl rfl rfl (o_assign rfl) ?_
  refine f_stepP rfl rfl rfl (o_assign rfl) ?_
  refine f_done ?_
  refine f_tn (kh6 _ _ ?_)
  clear kh6
  refine f_ret ?_
  have e0 : (regR N l c most).2 = 0 := by simpa using c18
  exact f_fin2 [m26] Try.results21 rfl rfl (by repeat (first | exact Sub.nil | refine Sub.pick ?_ | refine Sub.castO rfl ?_ | refine Sub.skip ?_)) ⟨v26, m26, by unfold coreR; rw [e0], rfl, by unfold coreR; simp only; rw [List.length_take, Nat.min_eq_left (by omega)]; exact o26⟩

end Go.Proofs.Ytbjiejhdgkpjcaa

/- Pairs of vertices, in order. -/

namespace Go.Proofs.Ytbjiejhdgkpjcaa
open Go Go.RowKit Go.Sort Fly
set_option linter.unusedVariables false
set_option linter.unusedSimpArgs false
set_option linter.unusedSectionVars false

abbrev Pr := Int × Int
def prCs (p : Pr) : List Value := [.int .i64 p.1, .int .i64 p.2]
theorem prCs_len (p : Pr) : (prCs p).length = 2 := rfl
/-- What order says of two pairs. -/
def ordP (x y : Pr) : Int := if x.1 ≠ y.1 then x.1 - y.1 else x.2 - y.2
abbrev F20 := Fin 1048576 × Fin 1048576
def toP (x : F20) : Pr := (((x.1.val : Nat) : Int), ((x.2.val : Nat) : Int))
def ofP (p : Pr) : F20 := (⟨p.1.toNat % 1048576, Nat.mod_lt _ (by decide)⟩, ⟨p.2.toNat % 1048576, Nat.mod_lt _ (by decide)⟩)
def POk (p : Pr) : Prop := (0 ≤ p.1 ∧ p.1 < 1048576) ∧ 0 ≤ p.2 ∧ p.2 < 1048576
theorem to_of {p : Pr} (h : POk p) : toP (ofP p) = p := by
  unfold POk at h
  refine Prod.ext ?_ ?_ <;> simp only [toP, ofP] <;> omega
theorem toP_ok (x : F20) : POk (toP x) := by
  have h1 := x.1.isLt
  have h2 := x.2.isLt
  unfold POk toP; simp only; omega
theorem to_inj {x y : F20} (h : toP x = toP y) : x = y := by
  have h1 := congrArg Prod.fst h
  have h2 := congrArg Prod.snd h
  simp only [toP] at h1 h2
  exact Prod.ext (Fin.ext (by omega)) (Fin.ext (by omega))
def cfP (x y : F20) : Int := ordP (toP x) (toP y)
def ltX (x y : Pr) : Prop := x.1 < y.1 ∨ x.1 = y.1 ∧ x.2 < y.2
theorem ltF (x y : F20) : ltOf cfP x y = decide ((toP x).1 < (toP y).1 ∨ (toP x).1 = (toP y).1 ∧ (toP x).2 < (toP y).2) := by
  unfold ltOf
  apply decide_eq_decide.2
  unfold cfP ordP
  by_cases h1 : (toP x).1 = (toP y).1
  · rw [if_neg (by omega)]; omega
  · rw [if_pos h1]; omega
theorem swoF : SWO (ltOf cfP) where
  irrefl x := by rw [ltF, decide_eq_false]; omega
  trans x y z h1 h2 := by rw [ltF] at *; simp only [decide_eq_true_eq] at *; omega
  ntrans x y z h1 h2 := by rw [ltF] at *; simp only [decide_eq_false_iff_not] at *; omega
theorem totF (x y : F20) (h1 : ltOf cfP x y = false) (h2 : ltOf cfP y x = false) : x = y := by
  rw [ltF] at *; simp only [decide_eq_false_iff_not] at *
  exact to_inj (Prod.ext (by omega) (by omega))
theorem sorted_fin (l : List Pr) (hl : ∀ p ∈ l, POk p) : ∃ l2 : List Pr, l2 = (((l.map ofP).mergeSort fun x y => !(ltOf cfP) y x).map toP) ∧ l2.Perm l ∧ l2.Pairwise (fun x y => x = y ∨ ltX x y) := by
  refine ⟨_, rfl, ?_, ?_⟩
  · have h1 := (List.mergeSort_perm (l.map ofP) fun x y => !(ltOf cfP) y x).map toP
    have h2 : (l.map ofP).map toP = l := by
      rw [List.map_map]
      conv => rhs; rw [← List.map_id l]
      exact List.map_congr_left fun p hp => to_of (hl p hp)
    rw [h2] at h1; exact h1
  · rw [List.pairwise_map]
    refine (List.pairwise_mergeSort (fun a b c h1 h2 => ?_) (fun a b => ?_) (l.map ofP)).imp fun {a b} h => ?_
    · simp only [ltF] at *; simp only [Bool.not_eq_true', decide_eq_false_iff_not] at *; omega
    · simp only [ltF]; simp only [Bool.or_eq_true, Bool.not_eq_true', decide_eq_false_iff_not]; omega
    · simp only [ltF, Bool.not_eq_true', decide_eq_false_iff_not] at h
      unfold ltX
      by_cases e : toP a = toP b
      · exact .inl e
      · refine .inr ?_
        by_cases h1 : (toP a).1 = (toP b).1
        · by_cases h2 : (toP a).2 = (toP b).2
          · exact absurd (Prod.ext h1 h2) e
          · omega
        · omega
def allP (n : Nat) : List (Int × Int) := (List.range n).flatMap fun a : Nat => (List.range n).map fun b : Nat => ((Int.ofNat a, Int.ofNat b) : Int × Int)
theorem mem_allP {n : Nat} {k : Int × Int} : k ∈ allP n ↔ (0 ≤ k.1 ∧ k.1 < n) ∧ 0 ≤ k.2 ∧ k.2 < n := by
  unfold allP
  simp only [List.mem_flatMap, List.mem_range, List.mem_map]
  constructor
  · rintro ⟨a, ha, b, hb, rfl⟩; simp; omega
  · rintro ⟨⟨h1, h2⟩, h3, h4⟩
    exact ⟨k.1.toNat, by omega, k.2.toNat, by omega, Prod.ext (by simp; omega) (by simp; omega)⟩
theorem allP_len (n : Nat) : (allP n).length = n * n := by
  unfold allP
  rw [List.length_flatMap]
  simp [List.map_const']
theorem allP_sorted (n : Nat) : (allP n).Pairwise (fun x y => x.1 < y.1 ∨ x.1 = y.1 ∧ x.2 < y.2) := by
  unfold allP
  rw [List.pairwise_flatMap]
  refine ⟨fun a _ => ?_, ?_⟩
  · rw [List.pairwise_map]
    exact List.pairwise_lt_range.imp fun {x y} h => .inr ⟨rfl, by simpa using h⟩
  · refine List.pairwise_lt_range.imp fun {x y} h => ?_
    intro p hp q hq
    simp only [List.mem_map] at hp hq
    obtain ⟨_, _, rfl⟩ := hp
    obtain ⟨_, _, rfl⟩ := hq
    exact .inl (by simpa using h)
theorem nodup_of_lt {l : List (Int × Int)} (h : l.Pairwise (fun x y => x.1 < y.1 ∨ x.1 = y.1 ∧ x.2 < y.2)) : l.Nodup :=
  h.imp fun {x y} h e => by subst e; omega


/-- The pair of an arc. -/
def prOf (a : Arc) : Pr := (min a.src a.dst, max a.src a.dst)
/-- All pairs of a graph, in order. -/
def prs (n : Nat) (l : List Arc) : List Pr := (allP n).filter fun p => l.any fun a => decide (a.src ≠ a.dst) && decide (prOf a = p)
def prRaw (l : List Arc) : List Pr := (l.filter fun a => decide (a.src ≠ a.dst)).map prOf
theorem prs_sorted (n : Nat) (l : List Arc) : (prs n l).Pairwise ltX := (allP_sorted n).filter _
theorem mem_prRaw {l : List Arc} {p : Pr} : p ∈ prRaw l ↔ ∃ a ∈ l, a.src ≠ a.dst ∧ prOf a = p := by
  unfold prRaw
  simp only [List.mem_map, List.mem_filter, decide_eq_true_eq]
  constructor
  · rintro ⟨a, ⟨h1, h2⟩, h3⟩; exact ⟨a, h1, h2, h3⟩
  · rintro ⟨a, h1, h2, h3⟩; exact ⟨a, ⟨h1, h2⟩, h3⟩
theorem mem_prs {n : Nat} {l : List Arc} (hg : ∀ a ∈ l, (0 ≤ a.src ∧ a.src < n) ∧ 0 ≤ a.dst ∧ a.dst < n) {p : Pr} : p ∈ prs n l ↔ p ∈ prRaw l := by
  unfold prs
  rw [List.mem_filter, mem_allP, mem_prRaw]
  simp only [List.any_eq_true, Bool.and_eq_true, decide_eq_true_eq]
  constructor
  · rintro ⟨_, h⟩; exact h
  · rintro ⟨a, h1, h2, rfl⟩
    have := hg a h1
    unfold prOf
    exact ⟨by simp only; omega, a, h1, h2, rfl⟩
theorem nodup_X {l : List Pr} (h : l.Pairwise ltX) : l.Nodup := h.imp fun {x y} h e => by subst e; unfold ltX at h; omega
theorem prs_is {n : Nat} {l : List Arc} (hg : ∀ a ∈ l, (0 ≤ a.src ∧ a.src < n) ∧ 0 ≤ a.dst ∧ a.dst < n) {l2 : List Pr} (hp : l2.Perm (prRaw l)) (hs : l2.Pairwise (fun x y => x = y ∨ ltX x y)) : cpt l2 = prs n l := by
  have h1 : (cpt l2).Pairwise ltX := cpt_rising (R := ltX) (fun a b c h1 h2 => by unfold ltX at *; omega) (fun a b h e => by subst e; unfold ltX at h; omega) hs
  refine List.Perm.eq_of_pairwise (le := ltX) (fun a b _ _ h1 h2 => by unfold ltX at *; exact absurd h1 (by omega)) h1 (prs_sorted n l) ?_
  refine (List.perm_ext_iff_of_nodup (nodup_X h1) (nodup_X (prs_sorted n l))).2 fun p => ?_
  rw [cpt_mem, mem_prs hg]
  exact hp.mem_iff
end Go.Proofs.Ytbjiejhdgkpjcaa

/- slices.SortFunc over elements of k cells, by the shelf's contract, in the words of the small logic. -/

namespace Go.Proofs.Ytbjiejhdgkpjcaa.Fly
open Go Go.RowKit Go.Sort
set_option linter.unusedVariables false
set_option linter.unusedSimpArgs false
set_option linter.unusedSectionVars false

theorem Hp.grown {w w' : World} {m : Seg} (h : Hp (Fr w []) w m w') : ∃ q os', w' = grow (w.drewN q) os' := by
  refine ⟨w'.drawn - w.drawn, w'.heap.extract w.heap.size w'.heap.size, ?_⟩
  have h1 := h.drawn
  have h2 := h.size
  have hh : w'.heap = w.heap ++ w'.heap.extract w.heap.size w'.heap.size := by
    apply Array.ext_getElem?
    intro i
    by_cases hi : i < w.heap.size
    · rw [Array.getElem?_append_left hi]
      exact h.same i ⟨hi, by simp⟩
    · rw [Array.getElem?_append_right (by omega), Array.getElem?_extract]
      by_cases hj : i < w'.heap.size
      · rw [if_pos (by omega)]; congr 1; omega
      · rw [if_neg (by omega), Array.getElem?_eq_none (by omega)]
  cases w' with
  | mk heap tape drawn os output =>
    have e1 := h.os; have e2 := h.tape; have e3 := h.output
    simp only at e1 e2 e3 h1 hh
    subst e1 e2 e3
    simp only [grow, World.drewN]
    rw [← hh]
    congr 1
    omega

section
variable {α : Type} [Inhabited α] (enc : α → List Value) (k : Nat) (hk : ∀ x, (enc x).length = k)
include hk

theorem flat_len (l : List α) : (l.flatMap enc).length = l.length * k := by
  induction l with
  | nil => simp
  | cons a l ih => simp [List.flatMap_cons, ih, hk, Nat.add_mul]; omega

theorem flatK_list (l : List α) : (flatK enc k l.toArray).toList = l.flatMap enc := by
  rcases Nat.eq_zero_or_pos k with k0 | k0
  · subst k0
    have h1 : (flatK enc 0 l.toArray).toList.length = 0 := by simp
    have h2 := flat_len enc 0 hk l
    have h3 : (l.flatMap enc).length = 0 := by omega
    rw [List.eq_nil_of_length_eq_zero h1, List.eq_nil_of_length_eq_zero h3]
  apply List.ext_getElem?
  intro j
  induction l generalizing j with
  | nil => simp [flatK]
  | cons a l ih =>
    by_cases hj : j < (l.length + 1) * k
    · have e : (flatK enc k (a :: l).toArray).toList[j]? = some ((enc (a :: l).toArray[j / k]!)[j % k]!) := by
        simp [flatK, hj]
      rw [e, List.flatMap_cons]
      by_cases h0 : j < k
      · rw [List.getElem?_append_left (by rw [hk]; exact h0), Nat.div_eq_of_lt h0, Nat.mod_eq_of_lt h0]
        simp [List.getElem?_eq_getElem (show j < (enc a).length by rw [hk]; exact h0), getElem!_pos, hk, h0]
      · have hk0 : k ≤ j := by omega
        rw [List.getElem?_append_right (by rw [hk]; exact hk0), hk, ← ih (j - k)]
        have hj' : j - k < l.length * k := by rw [Nat.add_mul] at hj; omega
        have e' : (flatK enc k l.toArray).toList[j - k]? = some ((enc l.toArray[(j - k) / k]!)[(j - k) % k]!) := by
          simp [flatK, hj']
        rw [e']
        have hd : j / k = (j - k) / k + 1 := by
          rw [← Nat.div_eq_sub_div k0 hk0]
        have hm : j % k = (j - k) % k := Nat.mod_eq_sub_mod hk0
        rw [hd, hm]
        simp
    · rw [List.getElem?_eq_none (by simp; omega), List.getElem?_eq_none (by rw [flat_len enc k hk]; simp; omega)]
end

theorem putCells_id (F : Array Value) (cs sp : List Value) (h : cs.length = F.size) : (putCells id 0 F (cs ++ sp).toArray).toList = F.toList ++ sp := by
  apply List.ext_getElem?
  intro j
  rw [Array.getElem?_toList]
  simp only [putCells, Array.getElem?_mapIdx, List.getElem?_toArray]
  by_cases hj : j < F.size
  · rw [List.getElem?_append_left (by omega), List.getElem?_append_left (by simpa using hj)]
    simp [hj, h]
  · rw [List.getElem?_append_right (by omega), List.getElem?_append_right (by simp; omega)]
    simp only [Array.length_toList, h]
    cases sp[j - F.size]? <;> simp [hj]

theorem meets_sortF {P : Program} {ρ : Go.Shelf.Ren} (L : SlLaysF0.n6 P ρ) {E : TypeId} (k : Nat) (aE : ∀ w, (isAgg (ρ.t 24)).run P w = .ok true w) (zE : ∀ w, (Go.sizeOf (ρ.t 24)).run P w = .ok k w)
    {α : Type} [Inhabited α] (enc : α → List Value) (hk : ∀ x, (enc x).length = k) (h1 : ∀ x, ∀ v ∈ enc x, v.oneCell' = true) (cf : α → α → Int) (hO : SWO (ltOf cf)) (hT : ∀ x y, (ltOf cf) x y = false → (ltOf cf) y x = false → x = y)
    (g : Nat) (eg : ∀ args w, (callFunc g args).run P w = .ok (.enter g args) w) (hcmp : ∀ x y W, Meets P g [.agg (enc x).toArray, .agg (enc y).toArray] W [] (fun v _ => v = .int .i64 (cf x y)))
    (A : Option Addr) (cap : Nat) (l : List α) (m : Seg) (w : World) (ho : Own E k (.slice A l.length cap) l.length (l.flatMap enc) m) (hl : l.length < 4611686018427387904) (hw : Owns w [m]) :
    Meets P (ρ.f 6) [.slice A l.length cap, .func (.func g) #[] #[]] w [m] (fun u own' => u = .tuple #[] ∧ ∃ m', own' = [m'] ∧ Own E k (.slice A l.length cap) l.length ((l.mergeSort fun x y => !(ltOf cf) y x).flatMap enc) m') := by
  have ho' := ho
  obtain ⟨h0, h | ⟨b, c, sp, e, rfl, h1', h2, h3⟩⟩ := ho'
  · obtain ⟨e, hl0, rfl⟩ := h
    obtain rfl : l = [] := List.eq_nil_of_length_eq_zero hl0
    refine Calls.mono (AnyF.slices_SortFunc_none L A cap _ w) ?_
    rintro _ _ ⟨rfl, rfl⟩
    exact ⟨_, [[]], rfl, Hp.start hw, rfl, [], rfl, by simpa using ho⟩
  · cases e
    have hb : w.heap[b]? = some (blk (l.flatMap enc ++ sp) E) := hw.there b _ (by simp)
    have hlt : b < w.heap.size := by
      rcases Nat.lt_or_ge b w.heap.size with h' | h'
      · exact h'
      · rw [Array.getElem?_eq_none h'] at hb; cases hb
    have hfl := flatK_list enc k hk l
    have hlen := flat_len enc k hk l
    have hH : HoldsK enc k w b 0 l.toArray := by
      intro j hj
      have hj' : j < (l.flatMap enc).length := by rw [hlen]; simpa using hj
      refine ⟨?_, by simp [World.frozen?, hb]⟩
      have hg : (flatK enc k l.toArray)[j]? = (l.flatMap enc)[j]? := by rw [← hfl]; simp
      have : (l.flatMap enc ++ sp)[j]? = some (flatK enc k l.toArray)[j]! := by
        rw [List.getElem?_append_left hj', ← hg]
        simp at hj
        simp [hj]
      simp [World.cell?, hb, this]
    have hc : CmpLays P g #[] enc k cf b 0 l.toArray.size w := by
      intro m os dk _ x y
      refine Calls.mono (hcmp x y _) ?_
      rintro _ w' ⟨v, own', rfl, hp, rfl⟩
      exact ⟨rfl, hp.grown⟩
    have hcall := AnyQ.slices_SortFunc_total L k aE zE enc hk h1 cf hO g #[] b 0 cap l.toArray w eg hc hH hlt (by simpa using hl) hT
    simp only [List.size_toArray] at hcall
    refine Calls.mono hcall ?_
    rintro _ _ ⟨rfl, n, os, rfl⟩
    have hl2 : (l.mergeSort fun x y => !(ltOf cf) y x).length = l.length := List.length_mergeSort l
    generalize (l.mergeSort fun x y => !(ltOf cf) y x) = L2 at hl2 ⊢
    have hlen2 := flat_len enc k hk L2
    have hnew : (sortWorldK enc k w b 0 n L2.toArray os).heap[b]? = some (blk (L2.flatMap enc ++ sp) E) := by
      unfold sortWorldK putRowK
      rw [heap_grow_old _ _ (by simpa using hlt)]
      have : (putCells id 0 (flatK enc k L2.toArray) (l.flatMap enc ++ sp).toArray) = (L2.flatMap enc ++ sp).toArray := by
        rw [← Array.toList_inj, putCells_id _ _ _ (by rw [hlen]; simp [hl2]), flatK_list enc k hk]
      simp [putRow, mapBlock, Sort.ahead, Array.getElem?_modify, hb, onCells, this]
    have hoth : ∀ j, j < w.heap.size → j ≠ b → (sortWorldK enc k w b 0 n L2.toArray os).heap[j]? = w.heap[j]? := fun j hj hne => by
      unfold sortWorldK putRowK
      rw [heap_grow_old _ _ (by simpa using hj)]
      have : b ≠ j := fun e => hne e.symm
      simp [putRow, mapBlock, Sort.ahead, Array.getElem?_modify, this]
    refine ⟨.tuple #[], [[(b, blk (L2.flatMap enc ++ sp) E)]], rfl, ?_, rfl, _, rfl, ⟨by rw [hlen2, hl2], .inr ⟨b, cap, sp, rfl, rfl, h1', h2, h3⟩⟩⟩
    refine ⟨rfl, rfl, rfl, by simp [sortWorldK, putRowK, grow], by simp [sortWorldK, putRowK, grow, putRow, mapBlock, Sort.ahead], fun j hj => hj.1, fun j hj => hoth j hj.1 fun e => hj.2 (by subst e; simp), fun j o hm => ?_, fun j o hm hj => hj.2 (by simp at hm; obtain ⟨rfl, _⟩ := hm; simp), by simp⟩
    simp only [List.flatten_cons, List.flatten_nil, List.append_nil, List.mem_singleton, Prod.mk.injEq] at hm
    obtain ⟨rfl, rfl⟩ := hm
    exact hnew
end Go.Proofs.Ytbjiejhdgkpjcaa.Fly

/- What the shelf's contracts ask of this program: tables of numbers, and each fact by the kernel. -/
namespace Go.Proofs
open Go.Shelf
def Try.laysPr_ren : Go.Shelf.Ren := ⟨fun | 6 => 45 | 15 => 66 | 14 => 65 | 28 => 87 | 29 => 88 | 20 => 79 | 21 => 80 | 22 => 81 | 23 => 82 | 24 => 83 | 25 => 84 | 26 => 85 | 27 => 86 | 46 => 99 | 47 => 100 | 48 => 101 | 49 => 102 | 50 => 103 | 57 => 108 | n => n, fun | 22 => 28 | 24 => 47 | 25 => 84 | 3 => 3 | 39 => 72 | 0 => 0 | 53 => 53 | 55 => 63 | 4 => 4 | 46 => 128 | 45 => 127 | 50 => 132 | 5 => 5 | 9 => 9 | 66 => 141 | 70 => 145 | 76 => 149 | 77 => 150 | n => n, fun | n => n⟩
theorem Try.laysPr : Go.Proofs.SlLaysF0.n6 Try.prog Try.laysPr_ren := {
  mixed := by kernel_rfl
  f6 := ⟨Try.f45.name, by decide, Try.func45.trans (congrArg some (by kernel_rfl))⟩
  f14 := ⟨Try.f65.name, by decide, Try.func65.trans (congrArg some (by kernel_rfl))⟩
  f15 := Try.func66.trans (congrArg some (by kernel_rfl))
  f20 := ⟨Try.f79.name, by decide, Try.func79.trans (congrArg some (by kernel_rfl))⟩
  f21 := ⟨Try.f80.name, by decide, Try.func80.trans (congrArg some (by kernel_rfl))⟩
  f22 := ⟨Try.f81.name, by decide, Try.func81.trans (congrArg some (by kernel_rfl))⟩
  f23 := ⟨Try.f82.name, by decide, Try.func82.trans (congrArg some (by kernel_rfl))⟩
  f24 := ⟨Try.f83.name, by decide, Try.func83.trans (congrArg some (by kernel_rfl))⟩
  f25 := ⟨Try.f84.name, by decide, Try.func84.trans (congrArg some (by kernel_rfl))⟩
  f26 := ⟨Try.f85.name, by decide, Try.func85.trans (congrArg some (by kernel_rfl))⟩
  f27 := ⟨Try.f86.name, by decide, Try.func86.trans (congrArg some (by kernel_rfl))⟩
  f28 := Try.func87.trans (congrArg some (by kernel_rfl))
  f29 := Try.func88.trans (congrArg some (by kernel_rfl))
  f46 := ⟨Try.f99.name, by decide, Try.func99.trans (congrArg some (by kernel_rfl))⟩
  f47 := Try.func100.trans (congrArg some (by kernel_rfl))
  f48 := Try.func101.trans (congrArg some (by kernel_rfl))
  f49 := ⟨Try.f102.name, by decide, Try.func102.trans (congrArg some (by kernel_rfl))⟩
  f50 := ⟨Try.f103.name, by decide, Try.func103.trans (congrArg some (by kernel_rfl))⟩
  f57 := ⟨Try.f108.name, by decide, Try.func108.trans (congrArg some (by kernel_rfl))⟩
  t0 := Try.underlying0
  a0 := Try.isAgg0
  z0 := Try.sizeOf0
  v0 := Try.zeroValue0
  t3 := Try.underlying3
  a3 := Try.isAgg3
  z3 := Try.sizeOf3
  v3 := Try.zeroValue3
  t4 := Try.underlying4
  a4 := Try.isAgg4
  z4 := Try.sizeOf4
  v4 := Try.zeroValue4
  t5 := Try.underlying5
  a5 := Try.isAgg5
  z5 := Try.sizeOf5
  v5 := Try.zeroValue5
  t9 := Try.underlying9
  a9 := Try.isAgg9
  z9 := Try.sizeOf9
  v9 := Try.zeroValue9
  t22 := Try.underlying28
  a22 := Try.isAgg28
  z22 := Try.sizeOf28
  v22 := Try.zeroValue28
  t25 := Try.underlying84
  a25 := Try.isAgg84
  z25 := Try.sizeOf84
  v25 := Try.zeroValue84
  t39 := Try.underlying72
  a39 := Try.isAgg72
  z39 := Try.sizeOf72
  v39 := Try.zeroValue72
  t45 := Try.underlying127
  a45 := Try.isAgg127
  z45 := Try.sizeOf127
  v45 := Try.zeroValue127
  t46 := Try.underlying128
  a46 := Try.isAgg128
  z46 := Try.sizeOf128
  v46 := Try.zeroValue128
  t50 := Try.underlying132
  a50 := Try.isAgg132
  z50 := Try.sizeOf132
  v50 := Try.zeroValue132
  t53 := Try.underlying53
  a53 := Try.isAgg53
  z53 := Try.sizeOf53
  v53 := Try.zeroValue53
  t55 := Try.underlying63
  a55 := Try.isAgg63
  z55 := Try.sizeOf63
  v55 := Try.zeroValue63
  t66 := Try.underlying141
  a66 := Try.isAgg141
  z66 := Try.sizeOf141
  v66 := Try.zeroValue141
  t70 := Try.underlying145
  a70 := Try.isAgg145
  z70 := Try.sizeOf145
  v70 := Try.zeroValue145
  t76 := Try.underlying149
  a76 := Try.isAgg149
  z76 := Try.sizeOf149
  v76 := Try.zeroValue149
  t77 := Try.underlying150
  a77 := Try.isAgg150
  z77 := Try.sizeOf150
  v77 := Try.zeroValue150 }
end Go.Proofs
