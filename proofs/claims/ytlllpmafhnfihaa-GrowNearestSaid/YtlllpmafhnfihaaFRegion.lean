/- grow.Region: so many vertices around a centre. -/
import Derived.Test.YtlllpmafhnfihaaFAround
import Derived.Test.YtlllpmafhnfihaaPParts
namespace Go.Proofs.Ytlllpmafhnfihaa
open Go Go.RowKit Fly
set_option linter.unusedVariables false
set_option linter.unusedSimpArgs false


/-- So many vertices around a centre, or what is wrong. -/
def regR (N : Int) (l : List Arc) (c most : Int) : List Int × Int :=
  if (gcheck N l).2 ≠ 0 then ([], (gcheck N l).2) else if c < 0 ∨ N ≤ c then ([], 5) else if most < 1 ∨ 1024 < most then ([], 1) else
    ((bfs N.toNat (fun v : Nat => nbrs (v : Int) l) c.toNat (List.replicate N.toNat false)).1.take most.toNat, 0)
theorem nbrs_rngG {n : Nat} {l : List Arc} (hg : (gcheck (n : Int) l).2 = 0) : (∀ v : Nat, (nbrs (v : Int) l).length ≤ 8192) ∧ ∀ v, v < n → ∀ u ∈ nbrs (v : Int) l, 0 ≤ u ∧ u < (n : Int) := by
  obtain ⟨_, _, hlen, hgd⟩ := gcheck_zero hg
  refine ⟨fun v => ?_, fun v _ u hu => ?_⟩
  · unfold nbrs
    refine Nat.le_trans (cpt_len_le _) ?_
    rw [sortI_len]
    exact Nat.le_trans (nbr_len v l) hlen
  · obtain ⟨x, hx, hux⟩ := nbrs_mem.1 hu
    obtain ⟨i, hi, rfl⟩ := List.mem_iff_getElem.1 hx
    have := hgd i hi
    unfold nbr at hux
    split at hux
    · simp at hux
    · split at hux
      · simp at hux; omega
      · split at hux
        · simp at hux; omega
        · simp at hux
theorem reps_bool (n : Nat) (b : Bool) : (List.replicate n [Value.bool b]).flatten = boolsG (List.replicate n b) := by
  induction n with
  | zero => rfl
  | succ n ih => rw [List.replicate_succ, List.flatten_cons, ih]; rfl

set_option maxRecDepth 100000 in
set_option maxHeartbeats 4000000 in
theorem Region_spec (N : Int) (A : Option Addr) (l : List Arc) (cap : Nat) (c most : Int) (w : World) (hr : Ro (Fr w []) w A (l.flatMap arcCs)) (hl : l.length ≤ 9223372036854775807) (hN : I64 N) (hok : ∀ x ∈ l, ArcOk x) :
    Meets Try.prog 10 [.agg #[.int .i64 N, .slice A l.length cap], .int .i64 c, .int .i64 most] w [] (fun u own' => ∃ s ms, u = .tuple #[s, .int .i64 (regR N l c most).2] ∧ own' = [ms] ∧ Own 3 1 s (regR N l c most).1.length (ints (regR N l c most).1) ms) := by
  refine r_enter Try.func10 rfl Try.ntmps10 rfl Owns.nil ?_
  refine r_seq fun K1 kh1 => ?_
  refine r_region ?_
  refine r_step rfl rfl rfl (Does.toR rfl (o_box rfl rfl fun b3 => ?_))
  refine r_step rfl rfl rfl (Does.toR rfl (o_box rfl rfl fun b5 => ?_))
  refine r_stepP rfl rfl rfl rfl (o_assign rfl) ?_
  refine r_stepP rfl rfl rfl rfl (o_assign rfl) ?_
  refine r_done ?_
  refine r_tn (kh1 _ _ _ ?_)
  clear kh1
  refine r_seq fun K2 kh2 => ?_
  refine r_seq fun K3 kh3 => ?_
  refine r_region ?_
  refine r_stepP rfl rfl rfl rfl (o_loadA (vs := [_, _]) Try.isAgg24 Try.sizeOf24 rfl rfl ⟨(rdA rfl), (rdA rfl), trivial⟩) ?_
  refine r_step rfl rfl rfl (Does.toR rfl (o_call Try.call23 rfl (fun w_ hp_ => Check_spec N A l cap w_ (hr.up0 hp_) hl hN hok) ?_))
  rintro _ _ ⟨rfl, rfl⟩
  dsimp only [List.cons_append, List.nil_append]
  refine r_stepP rfl rfl rfl rfl (o_move rfl) ?_
  refine r_stepP rfl rfl rfl rfl (o_extract rfl rfl) ?_
  refine r_stepP rfl rfl rfl rfl (o_extract rfl rfl) ?_
  refine r_stepP rfl rfl rfl rfl (o_assign rfl) ?_
  refine r_stepP rfl rfl rfl rfl (o_assign rfl) ?_
  refine r_done ?_
  refine r_tn (kh3 _ _ _ ?_)
  clear kh3
  refine r_seq fun K4 kh4 => ?_
  refine r_region ?_
  refine r_stepP rfl rfl rfl rfl (o_move rfl) ?_
  refine r_stepP rfl rfl rfl rfl (o_neq rfl rfl) ?_
  refine r_done ?_
  refine r_tn (kh4 _ _ _ ?_)
  clear kh4
  refine r_cond rfl (fun c18 => ?_) (fun c18 => ?_)
  · skip
    refine r_seq fun K5 kh5 => ?_
    refine r_region ?_
    refine r_stepP rfl rfl rfl rfl (o_move rfl) ?_
    refine r_stepP rfl rfl rfl rfl (o_assign rfl) ?_
    refine r_stepP rfl rfl rfl rfl (o_assign rfl) ?_
    refine r_done ?_
    refine r_tn (kh5 _ _ _ ?_)
    clear kh5
    refine r_ret ?_
    refine r_tr ?_
    have e : regR N l c most = ([], (gcheck N l).2) := if_pos c18
    exact r_fin2 [[]] Try.results10 rfl rfl (show Fly.Sub _ [[], []] from (by repeat (first | exact Sub.nil | refine Sub.pick ?_ | refine Sub.castO rfl ?_ | refine Sub.skip ?_))) ⟨_, _, by rw [e], rfl, by rw [e]; exact Own.nil _ _⟩
  · skip
    refine r_skip ?_
    refine r_tn (kh2 _ _ _ ?_)
    clear kh2
    refine r_seq fun K6 kh6 => ?_
    refine r_block ?_
    refine r_seq fun K7 kh7 => ?_
    refine r_region ?_
    refine r_stepP rfl rfl rfl rfl (o_move rfl) ?_
    refine r_stepP rfl rfl rfl rfl (o_lss rfl rfl) ?_
    refine r_stepP rfl rfl rfl rfl (o_move rfl) ?_
    refine r_splitL 23 rfl (fun g23 => ?_) (fun g23 => ?_)
    · skip
      refine r_stepN rfl rfl rfl rfl rfl rfl ?_
      refine r_stepN rfl rfl rfl rfl rfl rfl ?_
      refine r_stepN rfl rfl rfl rfl rfl rfl ?_
      refine r_stepN rfl rfl rfl rfl rfl rfl ?_
      refine r_stepP rfl rfl rfl rfl (o_pickT rfl rfl) ?_
      refine r_stepP rfl rfl rfl rfl (o_assign rfl) ?_
      refine r_done ?_
      refine r_tn (kh7 _ _ _ ?_)
      clear kh7
      refine r_condT rfl ?_
      refine r_seq fun K8 kh8 => ?_
      refine r_region ?_
      refine r_stepP rfl rfl rfl rfl (o_assign rfl) ?_
      refine r_stepP rfl rfl rfl rfl (o_assign rfl) ?_
      refine r_done ?_
      refine r_tn (kh8 _ _ _ ?_)
      clear kh8
      refine r_ret ?_
      refine r_br ?_
      refine r_tr ?_
      have e : regR N l c most = ([], 5) := by unfold regR; rw [if_neg c18, if_pos (by omega)]
      exact r_fin2 [[]] Try.results10 rfl rfl (show Fly.Sub _ [[], []] from (by repeat (first | exact Sub.nil | refine Sub.pick ?_ | refine Sub.castO rfl ?_ | refine Sub.skip ?_))) ⟨_, _, by rw [e], rfl, by rw [e]; exact Own.nil _ _⟩
    · skip
      refine r_stepPY rfl rfl rfl rfl rfl rfl (o_move rfl) ?_
      refine r_stepPY rfl rfl rfl rfl rfl rfl (o_field fa24_0 rfl) ?_
      refine r_stepPY rfl rfl rfl rfl rfl rfl (o_load Try.isAgg3 rfl (rdA rfl)) ?_
      refine r_stepPY rfl rfl rfl rfl rfl rfl (o_geq rfl rfl) ?_
      refine r_stepP rfl rfl rfl rfl (o_pickF rfl rfl) ?_
      refine r_stepP rfl rfl rfl rfl (o_assign rfl) ?_
      refine r_done ?_
      refine r_tn (kh7 _ _ _ ?_)
      clear kh7
      refine r_cond rfl (fun c20 => ?_) (fun c20 => ?_)
      · skip
        refine r_seq fun K9 kh9 => ?_
        refine r_region ?_
        refine r_stepP rfl rfl rfl rfl (o_assign rfl) ?_
        refine r_stepP rfl rfl rfl rfl (o_assign rfl) ?_
        refine r_done ?_
        refine r_tn (kh9 _ _ _ ?_)
        clear kh9
        refine r_ret ?_
        refine r_br ?_
        refine r_tr ?_
        have e : regR N l c most = ([], 5) := by unfold regR; rw [if_neg c18, if_pos (by omega)]
        exact r_fin2 [[]] Try.results10 rfl rfl (show Fly.Sub _ [[], []] from (by repeat (first | exact Sub.nil | refine Sub.pick ?_ | refine Sub.castO rfl ?_ | refine Sub.skip ?_))) ⟨_, _, by rw [e], rfl, by rw [e]; exact Own.nil _ _⟩
      · skip
        refine r_seq fun K10 kh10 => ?_
        refine r_region ?_
        refine r_stepP rfl rfl rfl rfl (o_load Try.isAgg3 rfl (rdA rfl)) ?_
        refine r_stepP rfl rfl rfl rfl (o_lss rfl rfl) ?_
        refine r_stepP rfl rfl rfl rfl (o_move rfl) ?_
        refine r_splitL 32 rfl (fun g32 => ?_) (fun g32 => ?_)
        · skip
          refine r_stepN rfl rfl rfl rfl rfl rfl ?_
          refine r_stepN rfl rfl rfl rfl rfl rfl ?_
          refine r_stepP rfl rfl rfl rfl (o_pickT rfl rfl) ?_
          refine r_stepP rfl rfl rfl rfl (o_assign rfl) ?_
          refine r_done ?_
          refine r_tn (kh10 _ _ _ ?_)
          clear kh10
          refine r_condT rfl ?_
          refine r_seq fun K11 kh11 => ?_
          refine r_region ?_
          refine r_stepP rfl rfl rfl rfl (o_assign rfl) ?_
          refine r_stepP rfl rfl rfl rfl (o_assign rfl) ?_
          refine r_done ?_
          refine r_tn (kh11 _ _ _ ?_)
          clear kh11
          refine r_ret ?_
          refine r_br ?_
          refine r_tr ?_
          have e : regR N l c most = ([], 1) := by unfold regR; rw [if_neg c18, if_neg (by omega), if_pos (by omega)]
          exact r_fin2 [[]] Try.results10 rfl rfl (show Fly.Sub _ [[], []] from (by repeat (first | exact Sub.nil | refine Sub.pick ?_ | refine Sub.castO rfl ?_ | refine Sub.skip ?_))) ⟨_, _, by rw [e], rfl, by rw [e]; exact Own.nil _ _⟩
        · skip
          refine r_stepPY rfl rfl rfl rfl rfl rfl (o_load Try.isAgg3 rfl (rdA rfl)) ?_
          refine r_stepPY rfl rfl rfl rfl rfl rfl (o_gtr rfl rfl) ?_
          refine r_stepP rfl rfl rfl rfl (o_pickF rfl rfl) ?_
          refine r_stepP rfl rfl rfl rfl (o_assign rfl) ?_
          refine r_done ?_
          refine r_tn (kh10 _ _ _ ?_)
          clear kh10
          refine r_cond rfl (fun c29 => ?_) (fun c29 => ?_)
          · skip
            refine r_seq fun K12 kh12 => ?_
            refine r_region ?_
            refine r_stepP rfl rfl rfl rfl (o_assign rfl) ?_
            refine r_stepP rfl rfl rfl rfl (o_assign rfl) ?_
            refine r_done ?_
            refine r_tn (kh12 _ _ _ ?_)
            clear kh12
            refine r_ret ?_
            refine r_br ?_
            refine r_tr ?_
            have e : regR N l c most = ([], 1) := by unfold regR; rw [if_neg c18, if_neg (by omega), if_pos (by omega)]
            exact r_fin2 [[]] Try.results10 rfl rfl (show Fly.Sub _ [[], []] from (by repeat (first | exact Sub.nil | refine Sub.pick ?_ | refine Sub.castO rfl ?_ | refine Sub.skip ?_))) ⟨_, _, by rw [e], rfl, by rw [e]; exact Own.nil _ _⟩
          · skip
            refine r_skip ?_
            refine r_bn ?_
            refine r_tn (kh6 _ _ _ ?_)
            clear kh6
            refine r_seq fun K13 kh13 => ?_
            have hg : (gcheck N l).2 = 0 := by simpa using c18
            obtain ⟨hg1, hg2, hgl, hgd⟩ := gcheck_zero hg
            obtain ⟨n, rfl⟩ : ∃ n : Nat, N = (n : Int) := ⟨N.toNat, by omega⟩
            obtain ⟨cn, rfl⟩ : ∃ cn : Nat, c = (cn : Int) := ⟨c.toNat, by omega⟩
            obtain ⟨mn, rfl⟩ : ∃ mn : Nat, most = (mn : Int) := ⟨most.toNat, by omega⟩
            have hn1 : n ≤ 1024 := by omega
            obtain ⟨hrl, hrng⟩ := nbrs_rngG hg
            have hres : regR (n : Int) l (cn : Int) (mn : Int) = ((bfs n (fun v : Nat => nbrs (v : Int) l) cn (List.replicate n false)).1.take mn, 0) := by unfold regR; rw [if_neg (by rw [hg]; simp), if_neg (by omega), if_neg (by omega), Int.toNat_natCast, Int.toNat_natCast, Int.toNat_natCast]
            refine r_region ?_
            refine r_step rfl rfl rfl (Does.toR rfl (o_alloc Try.zeroValue28 rfl fun b10 => ?_))
            refine r_done ?_
            refine r_tn (kh13 _ _ _ ?_)
            clear kh13
            refine r_seq fun K14 kh14 => ?_
            refine r_seq fun K15 kh15 => ?_
            refine r_old ?_
            refine f_regionH [[(b3, blk [.int .i64 (n : Int), .slice A l.length cap] 24)]] rfl ?_
            refine f_take 0 rfl (by decide +kernel) rfl rfl rfl (by repeat (first | exact Sub.nil | refine Sub.pick ?_ | refine Sub.castO rfl ?_ | refine Sub.skip ?_)) (o_loadA (vs := [_, _]) Try.isAgg24 Try.sizeOf24 rfl rfl ⟨(rdA rfl), (rdA rfl), trivial⟩) ?_
            refine f_take 2 rfl (by decide +kernel) rfl rfl rfl (by repeat (first | exact Sub.nil | refine Sub.pick ?_ | refine Sub.castO rfl ?_ | refine Sub.skip ?_)) (o_move rfl) ?_
            refine f_take 3 rfl (by decide +kernel) rfl rfl rfl (by repeat (first | exact Sub.nil | refine Sub.pick ?_ | refine Sub.castO rfl ?_ | refine Sub.skip ?_)) (o_field fa24_0 rfl) ?_
            refine f_take 4 rfl (by decide +kernel) rfl rfl rfl (by repeat (first | exact Sub.nil | refine Sub.pick ?_ | refine Sub.castO rfl ?_ | refine Sub.skip ?_)) (o_load Try.isAgg3 rfl (rdA rfl)) ?_
            refine f_two 1 5 rfl rfl (by decide +kernel) rfl rfl rfl rfl rfl rfl ?_ ?_
            · skip
              refine (o_call Try.call25 rfl (fun w_ hp_ => sides_spec n A l cap w_ (hr.up0 hp_) hn1 hgl hgd) ?_)
              rintro _ _ ⟨bo, vs, ms, rfl, rfl, hR⟩
              dsimp only [List.cons_append, List.nil_append]
              refine ⟨(by repeat (first | exact Sub.nil | refine Sub.pick ?_ | refine Sub.castO rfl ?_ | refine Sub.skip ?_)), ?_⟩
              refine f_only 5 rfl (by decide +kernel) rfl rfl rfl (o_make el37 rfl rfl n rfl (by omega) (by omega) (boolsG (List.replicate n false)) (reps_bool n false) fun b41 => ⟨(by repeat (first | exact Sub.nil | refine Sub.pick ?_ | refine Sub.castO rfl ?_ | refine Sub.skip ?_)), ?_⟩)
              refine f_only 6 rfl (by decide +kernel) rfl rfl rfl (o_call Try.call24 rfl (fun w_ hp_ => around_spec n bo b41 (cn : Int) w_) ?_)
              rintro _ _ ⟨q3, q4, q5, rfl, rfl⟩
              dsimp only [List.cons_append, List.nil_append]
              refine ⟨(by repeat (first | exact Sub.nil | refine Sub.pick ?_ | refine Sub.castO rfl ?_ | refine Sub.skip ?_)), ?_⟩
              refine f_over (by decide +kernel) ?_
              refine r_new ?_
              refine r_tn (kh15 _ _ _ ?_)
              clear kh15
              refine r_block ?_
              refine r_range (p := 43) (lb := [.pointer (some ⟨q5, 0, none⟩), .pointer (some ⟨q4, 0, none⟩), .pointer (some ⟨q3, 0, none⟩)]) rfl Try.call42 rfl [[(b10, blk [.slice none 0 0] 28)], [(b5, blk [.int .i64 (mn : Int)] 3)]] [[(q5, blk [.slice (some ⟨b41, 0, none⟩) n n] 37)], [(q4, blk [.int .i64 (cn : Int)] 3)], [(q3, blk [.slice (some ⟨bo, 0, none⟩) n n] 55)], [(b41, blk (boolsG (List.replicate n false)) 4)], [(bo, blk vs 28)], ms.flatten] [] (by repeat (first | exact Sub.refl | exact Sub.nil | refine Sub.pick ?_ | refine Sub.castO rfl ?_ | refine Sub.skip ?_)) (fun y : Int => Value.int .i64 y) (may := arMay (bfs n (fun v : Nat => nbrs (v : Int) l) cn (List.replicate n false))) (Fin := arFin (bfs n (fun v : Nat => nbrs (v : Int) l) cn (List.replicate n false)) n cn b41 bo q3 q4 q5 vs ms.flatten) (Stp := arStp (bfs n (fun v : Nat => nbrs (v : Int) l) cn (List.replicate n false)) n cn b41 bo q3 q4 q5 vs ms.flatten) (fun w1_ m0_ hp_ => around1_iter n cn b41 bo q3 q4 q5 l (List.replicate n false) vs ms m0_ w1_ (by simp) (by omega) hn1 hR hrng hrl) (fun ys m => ys.length < mn ∧ ∃ vo mo, m = [(b10, blk [vo] 28), (b5, blk [.int .i64 (mn : Int)] 3)] ++ mo ∧ Own 3 1 vo ys.length (ints ys) mo) (fun ys m => ys.length = mn ∧ ∃ vo mo, m = [(b10, blk [vo] 28), (b5, blk [.int .i64 (mn : Int)] 3)] ++ mo ∧ Own 3 1 vo ys.length (ints ys) mo) (.exit 1) (⟨by show 0 < mn; omega, .slice none 0 0, [], rfl, Own.nil _ _⟩) ?_ ?_ ?_
              · intro w1_ l_ d_ ys y m_ hI hmay hfr K_ kh_
                obtain ⟨hlt, vo, mo, rfl, hO⟩ := hI
                obtain ⟨Ao, co, rfl, hco⟩ := hO.val
                refine r_subC (Sub.op3 (parts := [[(b10, blk [.slice Ao ys.length co] 28)], [(b5, blk [.int .i64 (mn : Int)] 3)], mo]) (by simp) Sub.refl) ?_
                dsimp only [List.cons_append, List.nil_append]
                refine r_region ?_
                refine r_stepP rfl rfl rfl rfl (o_assign rfl) ?_
                refine r_done ?_
                refine r_tn (kh_ _ _ ?_)
                clear kh_
                refine r_block ?_
                refine r_seq fun K16 kh16 => ?_
                refine r_region ?_
                refine r_stepP rfl rfl rfl rfl (o_load Try.isAgg28 rfl (rdA rfl)) ?_
                refine r_stepP rfl rfl rfl rfl (o_move rfl) ?_
                refine r_step rfl rfl rfl (Does.toR rfl (o_slice1 el28 (by omega) rfl rfl rfl fun b46 => ?_))
                refine r_step rfl rfl rfl (Does.toR rfl (o_append el28 rfl rfl hO (ys := [.int .i64 y]) ⟨(rdA rfl), trivial⟩ rfl rfl (by omega) (by omega) fun v47 m47 o47 => ?_))
                obtain ⟨A47, c47, rfl, _⟩ := o47.val
                refine r_step0 rfl rfl (Does.toR rfl (o_store Try.sizeOf28 rfl rfl rfl rfl (by first | exact Nat.le_of_ble_eq_true rfl | (simp; done) | (simp; omega)) [.slice A47 (ys.length + 1) c47] rfl ?_))
                refine r_done ?_
                refine r_tn (kh16 _ _ _ ?_)
                clear kh16
                refine r_seq fun K17 kh17 => ?_
                refine r_region ?_
                refine r_stepP rfl rfl rfl rfl (o_load Try.isAgg28 rfl (rdA rfl)) ?_
                refine r_stepP rfl rfl rfl rfl (o_len sl28 rfl) ?_
                refine r_stepP rfl rfl rfl rfl (o_load Try.isAgg3 rfl (rdA rfl)) ?_
                refine r_stepP rfl rfl rfl rfl (o_eql rfl rfl) ?_
                refine r_done ?_
                refine r_tn (kh17 _ _ _ ?_)
                clear kh17
                refine r_cond rfl (fun c51 => ?_) (fun c51 => ?_)
                · skip
                  refine r_exit ?_
                  refine r_bo rfl ?_
                  exact r_roundOut (m' := [(b10, blk [.slice A47 (ys.length + 1) c47] 28), (b5, blk [.int .i64 (mn : Int)] 3)] ++ m47) (.inr ⟨_, rfl, rfl⟩) (Sub.reg (out := [[(l_, .loop (d_.rc .busy none))], [(d_.D, .deferred (some []))], [(b10, blk [.slice A47 (ys.length + 1) c47] 28)], [(b5, blk [.int .i64 (mn : Int)] 3)], m47]) (by repeat (first | exact Sub.nil | refine Sub.pick ?_ | refine Sub.castO rfl ?_ | refine Sub.skip ?_)) (by simp)) ⟨by simp at c51 ⊢; omega, _, m47, rfl, by rw [List.length_append, ints_append]; exact o47⟩
                · skip
                  refine r_skip ?_
                  refine r_bn ?_
                  exact r_roundEnd (m' := [(b10, blk [.slice A47 (ys.length + 1) c47] 28), (b5, blk [.int .i64 (mn : Int)] 3)] ++ m47) (Sub.reg (out := [[(l_, .loop (d_.rc .busy none))], [(d_.D, .deferred (some []))], [(b10, blk [.slice A47 (ys.length + 1) c47] 28)], [(b5, blk [.int .i64 (mn : Int)] 3)], m47]) (by repeat (first | exact Sub.nil | refine Sub.pick ?_ | refine Sub.castO rfl ?_ | refine Sub.skip ?_)) (by simp)) ⟨by simp at c51 ⊢; omega, _, m47, rfl, by rw [List.length_append, ints_append]; exact o47⟩
              · intro D_ ys m_ o_ hF hI
                obtain ⟨hlt, vo, mo, rfl, hO⟩ := hI
                obtain ⟨Ao, co, rfl, hco⟩ := hO.val
                obtain ⟨hF1, rfl⟩ := hF
                have hys : (bfs n (fun v : Nat => nbrs (v : Int) l) cn (List.replicate n false)).1.take mn = ys := by rw [← hF1]; exact List.take_of_length_le (by omega)
                refine r_subQ (Sub.op2 (parts := [[(b10, blk [.slice Ao ys.length co] 28)], [(b5, blk [.int .i64 (mn : Int)] 3)], mo]) (by simp) (show Fly.Sub _ [[(D_, .deferred (some []))], [(b10, blk [.slice Ao ys.length co] 28)], mo] from by dsimp only [List.cons_append, List.nil_append]; repeat (first | exact Sub.nil | refine Sub.pick ?_ | refine Sub.castO rfl ?_ | refine Sub.skip ?_))) ?_
                refine r_bn ?_
                refine r_tn (kh14 _ _ _ ?_)
                clear kh14
                refine r_seq fun K18 kh18 => ?_
                refine r_region ?_
                refine r_stepP rfl rfl rfl rfl (o_load Try.isAgg28 rfl (rdA rfl)) ?_
                refine r_stepP rfl rfl rfl rfl (o_assign rfl) ?_
                refine r_stepP rfl rfl rfl rfl (o_assign rfl) ?_
                refine r_done ?_
                refine r_tn (kh18 _ _ _ ?_)
                clear kh18
                refine r_ret ?_
                exact r_fin2 [mo] Try.results10 rfl rfl (show Fly.Sub _ ([(D_, Obj.deferred (some []))] :: [mo]) from (by repeat (first | exact Sub.nil | refine Sub.pick ?_ | refine Sub.castO rfl ?_ | refine Sub.skip ?_))) ⟨.slice Ao ys.length co, mo, by rw [hres], rfl, by rw [hres]; simp only; rw [hys]; exact hO⟩
              · intro D_ ys m_ o_ hF hI
                obtain ⟨hlt, vo, mo, rfl, hO⟩ := hI
                obtain ⟨Ao, co, rfl, hco⟩ := hO.val
                obtain ⟨kk, hkk, hF1, b', hb', rfl⟩ := hF
                have hys : (bfs n (fun v : Nat => nbrs (v : Int) l) cn (List.replicate n false)).1.take mn = ys := by rw [hF1]; congr 1; rw [hF1, List.length_take] at hlt; omega
                refine r_subC (Sub.op2 (parts := [[(b10, blk [.slice Ao ys.length co] 28)], [(b5, blk [.int .i64 (mn : Int)] 3)], mo]) (by simp) (show Fly.Sub _ [[(D_, .deferred (some []))], [(b10, blk [.slice Ao ys.length co] 28)], mo] from by dsimp only [List.cons_append, List.nil_append]; repeat (first | exact Sub.nil | refine Sub.pick ?_ | refine Sub.castO rfl ?_ | refine Sub.skip ?_))) ?_
                refine r_exit ?_
                refine r_be ?_
                refine r_tn (kh14 _ _ _ ?_)
                clear kh14
                refine r_seq fun K19 kh19 => ?_
                refine r_region ?_
                refine r_stepP rfl rfl rfl rfl (o_load Try.isAgg28 rfl (rdA rfl)) ?_
                refine r_stepP rfl rfl rfl rfl (o_assign rfl) ?_
                refine r_stepP rfl rfl rfl rfl (o_assign rfl) ?_
                refine r_done ?_
                refine r_tn (kh19 _ _ _ ?_)
                clear kh19
                refine r_ret ?_
                exact r_fin2 [mo] Try.results10 rfl rfl (show Fly.Sub _ ([(D_, Obj.deferred (some []))] :: [mo]) from (by repeat (first | exact Sub.nil | refine Sub.pick ?_ | refine Sub.castO rfl ?_ | refine Sub.skip ?_))) ⟨.slice Ao ys.length co, mo, by rw [hres], rfl, by rw [hres]; simp only; rw [hys]; exact hO⟩
            · skip
              refine (o_make el37 rfl rfl n rfl (by omega) (by omega) (boolsG (List.replicate n false)) (reps_bool n false) fun b41 => ⟨(by repeat (first | exact Sub.nil | refine Sub.pick ?_ | refine Sub.castO rfl ?_ | refine Sub.skip ?_)), ?_⟩)
              refine f_only 1 rfl (by decide +kernel) rfl rfl rfl (o_call Try.call25 rfl (fun w_ hp_ => sides_spec n A l cap w_ (hr.up0 hp_) hn1 hgl hgd) ?_)
              rintro _ _ ⟨bo, vs, ms, rfl, rfl, hR⟩
              dsimp only [List.cons_append, List.nil_append]
              refine ⟨(by repeat (first | exact Sub.nil | refine Sub.pick ?_ | refine Sub.castO rfl ?_ | refine Sub.skip ?_)), ?_⟩
              refine f_only 6 rfl (by decide +kernel) rfl rfl rfl (o_call Try.call24 rfl (fun w_ hp_ => around_spec n bo b41 (cn : Int) w_) ?_)
              rintro _ _ ⟨q3, q4, q5, rfl, rfl⟩
              dsimp only [List.cons_append, List.nil_append]
              refine ⟨(by repeat (first | exact Sub.nil | refine Sub.pick ?_ | refine Sub.castO rfl ?_ | refine Sub.skip ?_)), ?_⟩
              refine f_over (by decide +kernel) ?_
              refine r_new ?_
              refine r_tn (kh15 _ _ _ ?_)
              clear kh15
              refine r_block ?_
              refine r_range (p := 43) (lb := [.pointer (some ⟨q5, 0, none⟩), .pointer (some ⟨q4, 0, none⟩), .pointer (some ⟨q3, 0, none⟩)]) rfl Try.call42 rfl [[(b10, blk [.slice none 0 0] 28)], [(b5, blk [.int .i64 (mn : Int)] 3)]] [[(q5, blk [.slice (some ⟨b41, 0, none⟩) n n] 37)], [(q4, blk [.int .i64 (cn : Int)] 3)], [(q3, blk [.slice (some ⟨bo, 0, none⟩) n n] 55)], [(b41, blk (boolsG (List.replicate n false)) 4)], [(bo, blk vs 28)], ms.flatten] [] (by repeat (first | exact Sub.refl | exact Sub.nil | refine Sub.pick ?_ | refine Sub.castO rfl ?_ | refine Sub.skip ?_)) (fun y : Int => Value.int .i64 y) (may := arMay (bfs n (fun v : Nat => nbrs (v : Int) l) cn (List.replicate n false))) (Fin := arFin (bfs n (fun v : Nat => nbrs (v : Int) l) cn (List.replicate n false)) n cn b41 bo q3 q4 q5 vs ms.flatten) (Stp := arStp (bfs n (fun v : Nat => nbrs (v : Int) l) cn (List.replicate n false)) n cn b41 bo q3 q4 q5 vs ms.flatten) (fun w1_ m0_ hp_ => around1_iter n cn b41 bo q3 q4 q5 l (List.replicate n false) vs ms m0_ w1_ (by simp) (by omega) hn1 hR hrng hrl) (fun ys m => ys.length < mn ∧ ∃ vo mo, m = [(b10, blk [vo] 28), (b5, blk [.int .i64 (mn : Int)] 3)] ++ mo ∧ Own 3 1 vo ys.length (ints ys) mo) (fun ys m => ys.length = mn ∧ ∃ vo mo, m = [(b10, blk [vo] 28), (b5, blk [.int .i64 (mn : Int)] 3)] ++ mo ∧ Own 3 1 vo ys.length (ints ys) mo) (.exit 1) (⟨by show 0 < mn; omega, .slice none 0 0, [], rfl, Own.nil _ _⟩) ?_ ?_ ?_
              · intro w1_ l_ d_ ys y m_ hI hmay hfr K_ kh_
                obtain ⟨hlt, vo, mo, rfl, hO⟩ := hI
                obtain ⟨Ao, co, rfl, hco⟩ := hO.val
                refine r_subC (Sub.op3 (parts := [[(b10, blk [.slice Ao ys.length co] 28)], [(b5, blk [.int .i64 (mn : Int)] 3)], mo]) (by simp) Sub.refl) ?_
                dsimp only [List.cons_append, List.nil_append]
                refine r_region ?_
                refine r_stepP rfl rfl rfl rfl (o_assign rfl) ?_
                refine r_done ?_
                refine r_tn (kh_ _ _ ?_)
                clear kh_
                refine r_block ?_
                refine r_seq fun K20 kh20 => ?_
                refine r_region ?_
                refine r_stepP rfl rfl rfl rfl (o_load Try.isAgg28 rfl (rdA rfl)) ?_
                refine r_stepP rfl rfl rfl rfl (o_move rfl) ?_
                refine r_step rfl rfl rfl (Does.toR rfl (o_slice1 el28 (by omega) rfl rfl rfl fun b46 => ?_))
                refine r_step rfl rfl rfl (Does.toR rfl (o_append el28 rfl rfl hO (ys := [.int .i64 y]) ⟨(rdA rfl), trivial⟩ rfl rfl (by omega) (by omega) fun v47 m47 o47 => ?_))
                obtain ⟨A47, c47, rfl, _⟩ := o47.val
                refine r_step0 rfl rfl (Does.toR rfl (o_store Try.sizeOf28 rfl rfl rfl rfl (by first | exact Nat.le_of_ble_eq_true rfl | (simp; done) | (simp; omega)) [.slice A47 (ys.length + 1) c47] rfl ?_))
                refine r_done ?_
                refine r_tn (kh20 _ _ _ ?_)
                clear kh20
                refine r_seq fun K21 kh21 => ?_
                refine r_region ?_
                refine r_stepP rfl rfl rfl rfl (o_load Try.isAgg28 rfl (rdA rfl)) ?_
                refine r_stepP rfl rfl rfl rfl (o_len sl28 rfl) ?_
                refine r_stepP rfl rfl rfl rfl (o_load Try.isAgg3 rfl (rdA rfl)) ?_
                refine r_stepP rfl rfl rfl rfl (o_eql rfl rfl) ?_
                refine r_done ?_
                refine r_tn (kh21 _ _ _ ?_)
                clear kh21
                refine r_cond rfl (fun c51 => ?_) (fun c51 => ?_)
                · skip
                  refine r_exit ?_
                  refine r_bo rfl ?_
                  exact r_roundOut (m' := [(b10, blk [.slice A47 (ys.length + 1) c47] 28), (b5, blk [.int .i64 (mn : Int)] 3)] ++ m47) (.inr ⟨_, rfl, rfl⟩) (Sub.reg (out := [[(l_, .loop (d_.rc .busy none))], [(d_.D, .deferred (some []))], [(b10, blk [.slice A47 (ys.length + 1) c47] 28)], [(b5, blk [.int .i64 (mn : Int)] 3)], m47]) (by repeat (first | exact Sub.nil | refine Sub.pick ?_ | refine Sub.castO rfl ?_ | refine Sub.skip ?_)) (by simp)) ⟨by simp at c51 ⊢; omega, _, m47, rfl, by rw [List.length_append, ints_append]; exact o47⟩
                · skip
                  refine r_skip ?_
                  refine r_bn ?_
                  exact r_roundEnd (m' := [(b10, blk [.slice A47 (ys.length + 1) c47] 28), (b5, blk [.int .i64 (mn : Int)] 3)] ++ m47) (Sub.reg (out := [[(l_, .loop (d_.rc .busy none))], [(d_.D, .deferred (some []))], [(b10, blk [.slice A47 (ys.length + 1) c47] 28)], [(b5, blk [.int .i64 (mn : Int)] 3)], m47]) (by repeat (first | exact Sub.nil | refine Sub.pick ?_ | refine Sub.castO rfl ?_ | refine Sub.skip ?_)) (by simp)) ⟨by simp at c51 ⊢; omega, _, m47, rfl, by rw [List.length_append, ints_append]; exact o47⟩
              · intro D_ ys m_ o_ hF hI
                obtain ⟨hlt, vo, mo, rfl, hO⟩ := hI
                obtain ⟨Ao, co, rfl, hco⟩ := hO.val
                obtain ⟨hF1, rfl⟩ := hF
                have hys : (bfs n (fun v : Nat => nbrs (v : Int) l) cn (List.replicate n false)).1.take mn = ys := by rw [← hF1]; exact List.take_of_length_le (by omega)
                refine r_subQ (Sub.op2 (parts := [[(b10, blk [.slice Ao ys.length co] 28)], [(b5, blk [.int .i64 (mn : Int)] 3)], mo]) (by simp) (show Fly.Sub _ [[(D_, .deferred (some []))], [(b10, blk [.slice Ao ys.length co] 28)], mo] from by dsimp only [List.cons_append, List.nil_append]; repeat (first | exact Sub.nil | refine Sub.pick ?_ | refine Sub.castO rfl ?_ | refine Sub.skip ?_))) ?_
                refine r_bn ?_
                refine r_tn (kh14 _ _ _ ?_)
                clear kh14
                refine r_seq fun K22 kh22 => ?_
                refine r_region ?_
                refine r_stepP rfl rfl rfl rfl (o_load Try.isAgg28 rfl (rdA rfl)) ?_
                refine r_stepP rfl rfl rfl rfl (o_assign rfl) ?_
                refine r_stepP rfl rfl rfl rfl (o_assign rfl) ?_
                refine r_done ?_
                refine r_tn (kh22 _ _ _ ?_)
                clear kh22
                refine r_ret ?_
                exact r_fin2 [mo] Try.results10 rfl rfl (show Fly.Sub _ ([(D_, Obj.deferred (some []))] :: [mo]) from (by repeat (first | exact Sub.nil | refine Sub.pick ?_ | refine Sub.castO rfl ?_ | refine Sub.skip ?_))) ⟨.slice Ao ys.length co, mo, by rw [hres], rfl, by rw [hres]; simp only; rw [hys]; exact hO⟩
              · intro D_ ys m_ o_ hF hI
                obtain ⟨hlt, vo, mo, rfl, hO⟩ := hI
                obtain ⟨Ao, co, rfl, hco⟩ := hO.val
                obtain ⟨kk, hkk, hF1, b', hb', rfl⟩ := hF
                have hys : (bfs n (fun v : Nat => nbrs (v : Int) l) cn (List.replicate n false)).1.take mn = ys := by rw [hF1]; congr 1; rw [hF1, List.length_take] at hlt; omega
                refine r_subC (Sub.op2 (parts := [[(b10, blk [.slice Ao ys.length co] 28)], [(b5, blk [.int .i64 (mn : Int)] 3)], mo]) (by simp) (show Fly.Sub _ [[(D_, .deferred (some []))], [(b10, blk [.slice Ao ys.length co] 28)], mo] from by dsimp only [List.cons_append, List.nil_append]; repeat (first | exact Sub.nil | refine Sub.pick ?_ | refine Sub.castO rfl ?_ | refine Sub.skip ?_))) ?_
                refine r_exit ?_
                refine r_be ?_
                refine r_tn (kh14 _ _ _ ?_)
                clear kh14
                refine r_seq fun K23 kh23 => ?_
                refine r_region ?_
                refine r_stepP rfl rfl rfl rfl (o_load Try.isAgg28 rfl (rdA rfl)) ?_
                refine r_stepP rfl rfl rfl rfl (o_assign rfl) ?_
                refine r_stepP rfl rfl rfl rfl (o_assign rfl) ?_
                refine r_done ?_
                refine r_tn (kh23 _ _ _ ?_)
                clear kh23
                refine r_ret ?_
                exact r_fin2 [mo] Try.results10 rfl rfl (show Fly.Sub _ ([(D_, Obj.deferred (some []))] :: [mo]) from (by repeat (first | exact Sub.nil | refine Sub.pick ?_ | refine Sub.castO rfl ?_ | refine Sub.skip ?_))) ⟨.slice Ao ys.length co, mo, by rw [hres], rfl, by rw [hres]; simp only; rw [hys]; exact hO⟩

end Go.Proofs.Ytlllpmafhnfihaa
