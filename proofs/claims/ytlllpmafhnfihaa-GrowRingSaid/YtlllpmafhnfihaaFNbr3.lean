/- graph.Neighbours. -/
import Derived.Test.YtlllpmafhnfihaaFOuts
import Derived.Test.YtlllpmafhnfihaaFCpt3
import Derived.Test.YtlllpmafhnfihaaFSortI
import Derived.Test.YtlllpmafhnfihaaPNbr3
namespace Go.Proofs.Ytlllpmafhnfihaa
open Go Go.RowKit Fly
set_option linter.unusedVariables false
set_option linter.unusedSimpArgs false


/-- The answer of Neighbours. -/
def NbΦ (N : Int) (l : List Arc) (v : Int) (u : Value) (own : List Seg) : Prop :=
  ∃ A W c m, u = .tuple #[.slice A W.length W.length, .int .i64 (glooked N l v)] ∧ own = [m] ∧ Own 3 1 (.slice A W.length c) W.length (ints W) m ∧ W = if glooked N l v = 0 then nbrs v l else []

set_option maxRecDepth 100000 in
set_option maxHeartbeats 4000000 in
theorem Neighbours_spec (N : Int) (A : Option Addr) (l : List Arc) (cap : Nat) (v : Int) (w : World) (hr : Ro (Fr w []) w A (l.flatMap arcCs)) (hl : l.length ≤ 9223372036854775807) (hN : I64 N) (hok : ∀ x ∈ l, ArcOk x) :
    Meets Try.prog 18 [.agg #[.int .i64 N, .slice A l.length cap], .int .i64 v] w [] (NbΦ N l v) := by
  refine f_enter Try.func18 rfl Try.ntmps18 rfl Owns.nil ?_
  refine f_seq fun K1 kh1 => ?_
  refine f_region ?_
  refine f_step rfl rfl rfl (o_box rfl rfl fun b2 => ?_)
  refine f_stepP rfl rfl rfl (o_assign rfl) ?_
  refine f_stepP rfl rfl rfl (o_assign rfl) ?_
  refine f_done ?_
  refine f_tn (kh1 _ _ ?_)
  clear kh1
  refine f_seq fun K2 kh2 => ?_
  refine f_seq fun K3 kh3 => ?_
  refine f_region ?_
  refine f_stepP rfl rfl rfl (o_loadA (vs := [_, _]) Try.isAgg24 Try.sizeOf24 rfl rfl ⟨(rdA rfl), (rdA rfl), trivial⟩) ?_
  refine f_stepP rfl rfl rfl (o_move rfl) ?_
  refine f_step rfl rfl rfl (o_call Try.call33 rfl (fun w_ hp_ => looked_spec N A l cap v w_ (hr.up0 hp_) hl hN hok) ?_)
  rintro _ _ ⟨rfl, rfl⟩
  dsimp only [List.cons_append, List.nil_append]
  refine f_stepP rfl rfl rfl (o_assign rfl) ?_
  refine f_done ?_
  refine f_tn (kh3 _ _ ?_)
  clear kh3
  refine f_seq fun K4 kh4 => ?_
  refine f_region ?_
  refine f_stepP rfl rfl rfl (o_move rfl) ?_
  refine f_stepP rfl rfl rfl (o_neq rfl rfl) ?_
  refine f_done ?_
  refine f_tn (kh4 _ _ ?_)
  clear kh4
  refine f_cond rfl (fun c14 => ?_) (fun c14 => ?_)
  · skip
    refine f_seq fun K5 kh5 => ?_
    refine f_region ?_
    refine f_stepP rfl rfl rfl (o_move rfl) ?_
    refine f_stepP rfl rfl rfl (o_assign rfl) ?_
    refine f_stepP rfl rfl rfl (o_assign rfl) ?_
    refine f_done ?_
    refine f_tn (kh5 _ _ ?_)
    clear kh5
    refine f_ret ?_
    refine f_tr ?_
    exact f_fin2 [[]] Try.results18 rfl rfl Sub.empty ⟨none, [], 0, [], rfl, rfl, Own.nil _ _, by rw [if_neg (by simpa using c14)]⟩
  · skip
    have hz : glooked N l v = 0 := by simpa using c14
    obtain ⟨hg0, hv0, hv1⟩ := glooked_zero hz
    have hlen := (gcheck_zero hg0).2.2.1
    refine f_skip ?_
    refine f_tn (kh2 _ _ ?_)
    clear kh2
    refine f_seq fun K6 kh6 => ?_
    refine f_region ?_
    refine f_stepP rfl rfl rfl (o_assign rfl) ?_
    refine f_done ?_
    refine f_tn (kh6 _ _ ?_)
    clear kh6
    refine f_seq fun K7 kh7 => ?_
    refine f_seq fun K8 kh8 => ?_
    refine f_region ?_
    refine f_stepP rfl rfl rfl (o_field fa24_1 rfl) ?_
    refine f_stepP rfl rfl rfl (o_load Try.isAgg22 rfl (rdA rfl)) ?_
    refine f_stepP rfl rfl rfl (o_len sl22 rfl) ?_
    refine f_stepP rfl rfl rfl (o_move rfl) ?_
    refine f_done ?_
    refine f_tn (kh8 _ _ ?_)
    clear kh8
    refine f_block ?_
    refine f_loop (α := Nat × Value × Seg) [1, 17, 18] (fun ⟨i, ov, om⟩ => [(19, .int .i64 (i : Int)), (7, ov)]) (fun ⟨i, ov, om⟩ => [om, [(b2, blk [.int .i64 N, .slice A l.length cap] 24)]]) (fun ⟨i, ov, om⟩ => i ≤ l.length ∧ Own 3 1 ov ((l.take i).flatMap (nbr v)).length (ints ((l.take i).flatMap (nbr v))) om) (fun ⟨i, ov, om⟩ => l.length - i) (0, .slice none 0 0, []) ?_ ?_ ?_ ?_
    · exact (by repeat (first | exact trivial | refine ⟨rfl, ?_⟩))
    · repeat (first | exact Sub.nil | refine Sub.pick ?_ | refine Sub.castO rfl ?_ | refine Sub.skip ?_)
    · exact ⟨Nat.zero_le _, Own.nil _ _⟩
    · rintro ⟨i, ov, om⟩ ⟨hil, hO⟩
      obtain ⟨Ao, co, rfl, hco⟩ := hO.val
      have hnl := nbr_len v (l.take i)
      rw [List.length_take] at hnl
      refine f_seq fun K9 kh9 => ?_
      refine f_region ?_
      refine f_stepP rfl rfl rfl (o_lss rfl rfl) ?_
      refine f_done ?_
      refine f_tn (kh9 _ _ ?_)
      clear kh9
      refine f_seq fun K10 kh10 => ?_
      refine f_cond rfl (fun c20 => ?_) (fun c20 => ?_)
      · skip
        refine f_skip ?_
        refine f_tn (kh10 _ _ ?_)
        clear kh10
        refine f_seq fun K11 kh11 => ?_
        refine f_block ?_
        refine f_seq fun K12 kh12 => ?_
        refine f_region ?_
        have hi : i < l.length := by omega
        obtain ⟨bq, off, rfl, hS, hc⟩ := hr (flat_ne arcCs arcCs_len (by omega) hi)
        refine f_stepP rfl rfl rfl (o_idx sl22 rfl rfl (off + i * 3) ⟨by omega, by omega, by first | omega | (simp; done) | (simp; omega)⟩) ?_
        refine f_stepP rfl rfl rfl (o_loadA (vs := arcCs l[i]) Try.isAgg44 Try.sizeOf44 rfl rfl (roElem arcCs_len hS hc hi)) ?_
        refine f_step rfl rfl rfl (o_alloc Try.zeroValue44 rfl fun b9 => ?_)
        refine f_step0 rfl rfl (o_storeA Try.sizeOf44 rfl rfl rfl rfl (by first | exact Nat.le_of_ble_eq_true rfl | (simp; done) | (simp; omega)) (arcCs l[i]) rfl ?_)
        refine f_done ?_
        refine f_tn (kh12 _ _ ?_)
        clear kh12
        refine f_block ?_
        refine f_seq fun K13 kh13 => ?_
        refine f_region ?_
        refine f_stepP rfl rfl rfl (o_field fa44_0 rfl) ?_
        refine f_stepP rfl rfl rfl (o_load Try.isAgg3 rfl (rdA rfl)) ?_
        refine f_stepP rfl rfl rfl (o_field fa44_1 rfl) ?_
        refine f_stepP rfl rfl rfl (o_load Try.isAgg3 rfl (rdA rfl)) ?_
        refine f_stepP rfl rfl rfl (o_eql rfl rfl) ?_
        refine f_stepP rfl rfl rfl (o_assign rfl) ?_
        refine f_done ?_
        refine f_tn (kh13 _ _ ?_)
        clear kh13
        refine f_cond rfl (fun c23 => ?_) (fun c23 => ?_)
        · skip
          refine f_skip ?_
          refine f_bn ?_
          refine f_bn ?_
          refine f_tn (kh11 _ _ ?_)
          clear kh11
          refine f_region ?_
          refine f_stepP rfl rfl rfl (o_add rfl rfl _ (wrap_i64 (by omega))) ?_
          refine f_stepP rfl rfl rfl (o_move rfl) ?_
          refine f_done ?_
          refine f_tn (f_again (i + 1, .slice Ao ((l.take i).flatMap (nbr v)).length co, om) (by first | omega | (dsimp only; omega) | (simp; omega)) ⟨by omega, by rw [nbr_next hi, show nbr v l[i] = [] from if_pos c23, List.append_nil]; exact hO⟩ ?_ ?_ ?_)
          · exact (by repeat (first | exact trivial | refine ⟨rfl, ?_⟩))
          · exact (by repeat (first | exact trivial | refine ⟨rfl, ?_⟩))
          · repeat (first | exact Sub.nil | refine Sub.pick ?_ | refine Sub.castO rfl ?_ | refine Sub.skip ?_)
        · skip
          refine f_seq fun K14 kh14 => ?_
          refine f_region ?_
          refine f_stepP rfl rfl rfl (o_field fa44_0 rfl) ?_
          refine f_stepP rfl rfl rfl (o_load Try.isAgg3 rfl (rdA rfl)) ?_
          refine f_stepP rfl rfl rfl (o_move rfl) ?_
          refine f_stepP rfl rfl rfl (o_eql rfl rfl) ?_
          refine f_stepP rfl rfl rfl (o_assign rfl) ?_
          refine f_done ?_
          refine f_tn (kh14 _ _ ?_)
          clear kh14
          refine f_cond rfl (fun c29 => ?_) (fun c29 => ?_)
          · skip
            refine f_region ?_
            refine f_stepP rfl rfl rfl (o_move rfl) ?_
            refine f_stepP rfl rfl rfl (o_field fa44_1 rfl) ?_
            refine f_stepP rfl rfl rfl (o_load Try.isAgg3 rfl (rdA rfl)) ?_
            refine f_step rfl rfl rfl (o_slice1 el28 (by omega) rfl rfl rfl fun b37 => ?_)
            refine f_step rfl rfl rfl (o_append el28 rfl rfl hO (ys := [.int .i64 l[i].dst]) ⟨(rdA rfl), trivial⟩ rfl rfl (by omega) (by omega) fun v38 m38 o38 => ?_)
            refine f_stepP rfl rfl rfl (o_assign rfl) ?_
            refine f_done ?_
            refine f_bn ?_
            refine f_bn ?_
            refine f_tn (kh11 _ _ ?_)
            clear kh11
            refine f_region ?_
            refine f_stepP rfl rfl rfl (o_add rfl rfl _ (wrap_i64 (by omega))) ?_
            refine f_stepP rfl rfl rfl (o_move rfl) ?_
            refine f_done ?_
            refine f_tn (f_again (i + 1, v38, m38) (by first | omega | (dsimp only; omega) | (simp; omega)) ⟨by omega, by rw [nbr_next hi, show nbr v l[i] = [l[i].dst] from by unfold nbr; rw [if_neg c23, if_pos c29], List.length_append, ints_append]; exact o38⟩ ?_ ?_ ?_)
            · exact (by repeat (first | exact trivial | refine ⟨rfl, ?_⟩))
            · exact (by repeat (first | exact trivial | refine ⟨rfl, ?_⟩))
            · repeat (first | exact Sub.nil | refine Sub.pick ?_ | refine Sub.castO rfl ?_ | refine Sub.skip ?_)
          · skip
            refine f_seq fun K15 kh15 => ?_
            refine f_region ?_
            refine f_stepP rfl rfl rfl (o_field fa44_1 rfl) ?_
            refine f_stepP rfl rfl rfl (o_load Try.isAgg3 rfl (rdA rfl)) ?_
            refine f_stepP rfl rfl rfl (o_move rfl) ?_
            refine f_stepP rfl rfl rfl (o_eql rfl rfl) ?_
            refine f_stepP rfl rfl rfl (o_assign rfl) ?_
            refine f_done ?_
            refine f_tn (kh15 _ _ ?_)
            clear kh15
            refine f_cond rfl (fun c39 => ?_) (fun c39 => ?_)
            · skip
              refine f_region ?_
              refine f_stepP rfl rfl rfl (o_move rfl) ?_
              refine f_stepP rfl rfl rfl (o_field fa44_0 rfl) ?_
              refine f_stepP rfl rfl rfl (o_load Try.isAgg3 rfl (rdA rfl)) ?_
              refine f_step rfl rfl rfl (o_slice1 el28 (by omega) rfl rfl rfl fun b47 => ?_)
              refine f_step rfl rfl rfl (o_append el28 rfl rfl hO (ys := [.int .i64 l[i].src]) ⟨(rdA rfl), trivial⟩ rfl rfl (by omega) (by omega) fun v48 m48 o48 => ?_)
              refine f_stepP rfl rfl rfl (o_assign rfl) ?_
              refine f_done ?_
              refine f_bn ?_
              refine f_bn ?_
              refine f_tn (kh11 _ _ ?_)
              clear kh11
              refine f_region ?_
              refine f_stepP rfl rfl rfl (o_add rfl rfl _ (wrap_i64 (by omega))) ?_
              refine f_stepP rfl rfl rfl (o_move rfl) ?_
              refine f_done ?_
              refine f_tn (f_again (i + 1, v48, m48) (by first | omega | (dsimp only; omega) | (simp; omega)) ⟨by omega, by rw [nbr_next hi, show nbr v l[i] = [l[i].src] from by unfold nbr; rw [if_neg c23, if_neg c29, if_pos c39], List.length_append, ints_append]; exact o48⟩ ?_ ?_ ?_)
              · exact (by repeat (first | exact trivial | refine ⟨rfl, ?_⟩))
              · exact (by repeat (first | exact trivial | refine ⟨rfl, ?_⟩))
              · repeat (first | exact Sub.nil | refine Sub.pick ?_ | refine Sub.castO rfl ?_ | refine Sub.skip ?_)
            · skip
              refine f_skip ?_
              refine f_bn ?_
              refine f_bn ?_
              refine f_tn (kh11 _ _ ?_)
              clear kh11
              refine f_region ?_
              refine f_stepP rfl rfl rfl (o_add rfl rfl _ (wrap_i64 (by omega))) ?_
              refine f_stepP rfl rfl rfl (o_move rfl) ?_
              refine f_done ?_
              refine f_tn (f_again (i + 1, .slice Ao ((l.take i).flatMap (nbr v)).length co, om) (by first | omega | (dsimp only; omega) | (simp; omega)) ⟨by omega, by rw [nbr_next hi, show nbr v l[i] = [] from by unfold nbr; rw [if_neg c23, if_neg c29, if_neg c39], List.append_nil]; exact hO⟩ ?_ ?_ ?_)
              · exact (by repeat (first | exact trivial | refine ⟨rfl, ?_⟩))
              · exact (by repeat (first | exact trivial | refine ⟨rfl, ?_⟩))
              · repeat (first | exact Sub.nil | refine Sub.pick ?_ | refine Sub.castO rfl ?_ | refine Sub.skip ?_)
      · skip
        refine f_exit ?_
        refine f_te ?_
        clear kh10
        refine f_te ?_
        refine f_be ?_
        refine f_tn (kh7 _ _ ?_)
        clear kh7
        refine f_seq fun K16 kh16 => ?_
        obtain rfl : i = l.length := by omega
        rw [List.take_length] at hO hnl ⊢
        refine f_region ?_
        refine f_stepP rfl rfl rfl (o_move rfl) ?_
        refine f_step rfl rfl rfl (o_callM [om] _ Try.call34 rfl (Sub.pick Sub.refl) (fun w_ hp_ => SortInts_spec Ao co _ om w_ hO (by omega) hp_.owns) ?_)
        rintro _ _ ⟨rfl, m2, rfl, ho2⟩
        dsimp only [List.cons_append, List.nil_append]
        refine f_done ?_
        refine f_tn (kh16 _ _ ?_)
        clear kh16
        refine f_seq fun K17 kh17 => ?_
        refine f_region ?_
        refine f_stepP rfl rfl rfl (o_move rfl) ?_
        refine f_step rfl rfl rfl (o_callM [m2] _ Try.call36 rfl (Sub.pick Sub.refl) (fun w_ hp_ => (by have h := Compact_spec Ao co (sortI (l.flatMap (nbr v))) m2 w_ (by rw [sortI_len]; exact ho2) (by rw [sortI_len]; omega) hp_.owns; rw [sortI_len] at h; exact h)) ?_)
        rintro v53 _ ⟨m3, rfl, ho3⟩
        obtain ⟨A3, c3, rfl, hc3⟩ := ho3.val
        dsimp only [List.cons_append, List.nil_append]
        refine f_step rfl rfl rfl (o_call Try.call35 rfl (fun w_ hp_ => Clip_spec A3 (cpt (sortI (l.flatMap (nbr v)))).length c3 w_ hc3.1 hc3.2 (own_none ho3)) ?_)
        rintro _ _ ⟨rfl, rfl⟩
        dsimp only [List.cons_append, List.nil_append]
        refine f_stepP rfl rfl rfl (o_assign rfl) ?_
        refine f_stepP rfl rfl rfl (o_assign rfl) ?_
        refine f_done ?_
        refine f_tn (kh17 _ _ ?_)
        clear kh17
        refine f_ret ?_
        exact f_fin2 [m3] Try.results18 rfl rfl (by repeat (first | exact Sub.nil | refine Sub.pick ?_ | refine Sub.castO rfl ?_)) ⟨A3, nbrs v l, c3, m3, by rw [hz]; rfl, rfl, ho3, by rw [if_pos hz]⟩

end Go.Proofs.Ytlllpmafhnfihaa
