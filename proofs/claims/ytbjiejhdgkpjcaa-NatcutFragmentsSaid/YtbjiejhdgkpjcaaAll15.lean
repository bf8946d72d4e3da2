import Derived.Test.YtbjiejhdgkpjcaaAll7
import Derived.Test.YtbjiejhdgkpjcaaAll9
import Derived.Test.YtbjiejhdgkpjcaaAll10

/- natcut.right, natcut.Count, slices.Max, split.sizes, split.looked, split.Sizes. -/
namespace Go.Proofs.Ytbjiejhdgkpjcaa
open Go Go.RowKit Fly
set_option linter.unusedVariables false
set_option linter.unusedSimpArgs false

set_option maxRecDepth 100000 in
set_option maxHeartbeats 4000000 in
theorem right_spec (N : Int) (A B : Option Addr) (ln cap : Nat) (L : List Int) (cb : Nat) (w : World) (hL : Ro (Fr w []) w B (ints L)) (hm : L.length ≤ 9223372036854775807) :
    Meets Try.prog 48 [.agg #[.int .i64 N, .slice A ln cap], .slice B L.length cb] w [] (fun u m => u = .bool (rightB N L) ∧ m = []) := by
 refine f_enter Try.func48 rfl Try.ntmps48 rfl Owns.nil ?_
 refine f_seq fun K1 kh1 => ?_
 refine f_region ?_
 refine f_step rfl rfl rfl (o_box rfl rfl fun b2 => ?_)
 refine f_stepP rfl rfl rfl (o_assign rfl) ?_
 refine f_done ?_
 refine f_tn (kh1 _ _ ?_)
 clear kh1
 refine f_seq fun K2 kh2 => ?_
 refine f_region ?_
 refine f_stepP rfl rfl rfl (o_assign rfl) ?_
 refine f_done ?_
 refine f_tn (kh2 _ _ ?_)
 clear kh2
 refine f_seq fun K3 kh3 => ?_
 refine f_seq fun K4 kh4 => ?_
 refine f_region ?_
 refine f_stepP rfl rfl rfl (o_move rfl) ?_
 refine f_stepP rfl rfl rfl (o_len sl35 rfl) ?_
 refine f_stepP rfl rfl rfl (o_move rfl) ?_
 refine f_done ?_
 refine f_tn (kh4 _ _ ?_)
 clear kh4
 refine f_block ?_
 refine f_loopK (α := Nat × Int) [1, 2, 8, 9] (fun ⟨k, q⟩ => [(10, .int .i64 (k : Int)), (5, .int .i64 q)]) (fun ⟨k, q⟩ => k ≤ L.length ∧ 0 ≤ q ∧ q ≤ k ∧ rgo 0 L = rgo q (L.drop k)) (fun ⟨k, q⟩ => L.length - k) (0, 0) ?_ ?_ ?_
 · exact (by repeat (first | exact trivial | refine ⟨rfl, ?_⟩))
 · exact ⟨by omega, by omega, by omega, by rw [List.drop_zero]⟩
 ·
  rintro ⟨k, q⟩ ⟨hkl, hq0, hqk, hrg⟩
  refine f_seq fun K5 kh5 => ?_
  refine f_region ?_
  refine f_stepP rfl rfl rfl (o_lss rfl rfl) ?_
  refine f_done ?_
  refine f_tn (kh5 _ _ ?_)
  clear kh5
  refine f_seq fun K6 kh6 => ?_
  refine f_cond rfl (fun c11 => ?_) (fun c11 => ?_)
  ·
   have hk : k < L.length := by omega
   obtain ⟨bb, ob, rfl, hSb, hcb⟩ := hL (fun e => by have := ints_length L; rw [e] at this; simp at this; omega)
   have hrd := rgo_drop hk q
   refine f_skip ?_
   refine f_tn (kh6 _ _ ?_)
   clear kh6
   refine f_seq fun K7 kh7 => ?_
   refine f_block ?_
   refine f_seq fun K8 kh8 => ?_
   refine f_region ?_
   refine f_stepP rfl rfl rfl (o_idx sl35 rfl rfl (ob + k) ⟨by omega, by omega, by first | omega | (simp; done) | (simp; omega)⟩) ?_
   refine f_stepP rfl rfl rfl (o_load Try.isAgg3 rfl (roOne (enc := (.int .i64 ·)) hSb hcb hk)) ?_
   refine f_stepP rfl rfl rfl (o_assign rfl) ?_
   refine f_done ?_
   refine f_tn (kh8 _ _ ?_)
   clear kh8
   refine f_seq fun K9 kh9 => ?_
   refine f_seq fun K10 kh10 => ?_
   refine f_region ?_
   refine f_stepP rfl rfl rfl (o_move rfl) ?_
   refine f_stepP rfl rfl rfl (o_lss rfl rfl) ?_
   refine f_stepP rfl rfl rfl (o_move rfl) ?_
   refine f_splitL 16 rfl (fun g16 => ?_) (fun g16 => ?_)
   ·
    refine f_stepN rfl rfl rfl rfl rfl rfl ?_
    refine f_stepN rfl rfl rfl rfl rfl rfl ?_
    refine f_stepN rfl rfl rfl rfl rfl rfl ?_
    refine f_stepP rfl rfl rfl (o_pickT rfl rfl) ?_
    refine f_done ?_
    refine f_tn (kh10 _ _ ?_)
    clear kh10
    refine f_condT rfl ?_
    refine f_seq fun K11 kh11 => ?_
    refine f_region ?_
    refine f_stepP rfl rfl rfl (o_assign rfl) ?_
    refine f_done ?_
    refine f_tn (kh11 _ _ ?_)
    clear kh11
    refine f_ret ?_
    refine f_tr ?_
    refine f_br ?_
    refine f_tr ?_
    refine f_tr ?_
    refine f_br ?_
    refine f_tr ?_
    have e : rightB N L = false := by rw [rightB, hrg, hrd, if_pos (.inl g16)]; rfl
    exact f_fin1 [] Try.results48 rfl Sub.nil ⟨by rw [e], rfl⟩
   ·
    refine f_stepPY rfl rfl rfl rfl rfl (o_move rfl) ?_
    refine f_stepPY rfl rfl rfl rfl rfl (o_move rfl) ?_
    refine f_stepPY rfl rfl rfl rfl rfl (o_gtr rfl rfl) ?_
    refine f_stepP rfl rfl rfl (o_pickF rfl rfl) ?_
    refine f_done ?_
    refine f_tn (kh10 _ _ ?_)
    clear kh10
    refine f_cond rfl (fun c20 => ?_) (fun c20 => ?_)
    ·
     refine f_seq fun K12 kh12 => ?_
     refine f_region ?_
     refine f_stepP rfl rfl rfl (o_assign rfl) ?_
     refine f_done ?_
     refine f_tn (kh12 _ _ ?_)
     clear kh12
     refine f_ret ?_
     refine f_tr ?_
     refine f_br ?_
     refine f_tr ?_
     refine f_tr ?_
     refine f_br ?_
     refine f_tr ?_
     have e : rightB N L = false := by rw [rightB, hrg, hrd, if_pos (.inr (by omega))]; rfl
     exact f_fin1 [] Try.results48 rfl Sub.nil ⟨by rw [e], rfl⟩
    ·
     refine f_skip ?_
     refine f_tn (kh9 _ _ ?_)
     clear kh9
     refine f_seq fun K13 kh13 => ?_
     refine f_region ?_
     refine f_stepP rfl rfl rfl (o_move rfl) ?_
     refine f_stepP rfl rfl rfl (o_move rfl) ?_
     refine f_stepP rfl rfl rfl (o_eql rfl rfl) ?_
     refine f_done ?_
     refine f_tn (kh13 _ _ ?_)
     clear kh13
     refine f_cond rfl (fun c23 => ?_) (fun c23 => ?_)
     ·
      rw [if_neg (by omega), if_pos c23] at hrd
      refine f_region ?_
      refine f_stepP rfl rfl rfl (o_move rfl) ?_
      refine f_stepP rfl rfl rfl (o_add rfl rfl _ (wrap_i64 (by omega))) ?_
      refine f_stepP rfl rfl rfl (o_assign rfl) ?_
      refine f_done ?_
      refine f_bn ?_
      refine f_tn (kh7 _ _ ?_)
      clear kh7
      refine f_region ?_
      refine f_stepP rfl rfl rfl (o_add rfl rfl _ (wrap_i64 (by omega))) ?_
      refine f_stepP rfl rfl rfl (o_move rfl) ?_
      refine f_done ?_
      refine f_tn (f_again (k + 1, q + 1) (by first | omega | (dsimp only; omega) | (simp; omega)) ⟨by omega, by omega, by omega, hrg.trans hrd⟩ ?_ ?_ ?_)
      · exact (by repeat (first | exact trivial | refine ⟨rfl, ?_⟩))
      · exact (by repeat (first | exact trivial | refine ⟨rfl, ?_⟩))
      · repeat (first | exact Sub.nil | refine Sub.pick ?_ | refine Sub.castO rfl ?_ | refine Sub.skip ?_)
     ·
      rw [if_neg (by omega), if_neg c23] at hrd
      refine f_skip ?_
      refine f_bn ?_
      refine f_tn (kh7 _ _ ?_)
      clear kh7
      refine f_region ?_
      refine f_stepP rfl rfl rfl (o_add rfl rfl _ (wrap_i64 (by omega))) ?_
      refine f_stepP rfl rfl rfl (o_move rfl) ?_
      refine f_done ?_
      refine f_tn (f_again (k + 1, q) (by first | omega | (dsimp only; omega) | (simp; omega)) ⟨by omega, by omega, by omega, hrg.trans hrd⟩ ?_ ?_ ?_)
      · exact (by repeat (first | exact trivial | refine ⟨rfl, ?_⟩))
      · exact (by repeat (first | exact trivial | refine ⟨rfl, ?_⟩))
      · repeat (first | exact Sub.nil | refine Sub.pick ?_ | refine Sub.castO rfl ?_ | refine Sub.skip ?_)
  ·
   refine f_exit ?_
   refine f_te ?_
   clear kh6
   refine f_te ?_
   refine f_be ?_
   refine f_tn (kh3 _ _ ?_)
   clear kh3
   refine f_seq fun K14 kh14 => ?_
   refine f_region ?_
   refine f_stepP rfl rfl rfl (o_move rfl) ?_
   refine f_stepP rfl rfl rfl (o_len sl35 rfl) ?_
   refine f_stepP rfl rfl rfl (o_field fa24_0 rfl) ?_
   refine f_stepP rfl rfl rfl (o_load Try.isAgg3 rfl (rdA rfl)) ?_
   refine f_stepP rfl rfl rfl (o_eql rfl rfl) ?_
   refine f_stepP rfl rfl rfl (o_assign rfl) ?_
   refine f_done ?_
   refine f_tn (kh14 _ _ ?_)
   clear kh14
   refine f_ret ?_
   have e : rightB N L = decide ((L.length : Int) = N) := by rw [rightB, hrg, rgo_end (by omega)]; rfl
   exact f_fin1 [] Try.results48 rfl Sub.nil ⟨by rw [e], rfl⟩

set_option maxRecDepth 100000 in
set_option maxHeartbeats 4000000 in
theorem Count_spec (N : Int) (A B : Option Addr) (l : List Arc) (cap : Nat) (L : List Int) (cb : Nat) (w : World) (hr : Ro (Fr w []) w A (l.flatMap arcCs)) (hl : l.length ≤ 9223372036854775807) (hN : I64 N) (hok : ∀ x ∈ l, ArcOk x) (hL : Ro (Fr w []) w B (ints L)) (hm : L.length ≤ 9223372036854775807) :
    Meets Try.prog 25 [.agg #[.int .i64 N, .slice A l.length cap], .slice B L.length cb] w [] (fun u m => u = .tuple #[.int .i64 (lcount N l L).1, .int .i64 (lcount N l L).2] ∧ m = []) := by
 refine f_enter Try.func25 rfl Try.ntmps25 rfl Owns.nil ?_
 refine f_seq fun K1 kh1 => ?_
 refine f_region ?_
 refine f_step rfl rfl rfl (o_box rfl rfl fun b2 => ?_)
 refine f_stepP rfl rfl rfl (o_assign rfl) ?_
 refine f_stepP rfl rfl rfl (o_assign rfl) ?_
 refine f_done ?_
 refine f_tn (kh1 _ _ ?_)
 clear kh1
 refine f_seq fun K2 kh2 => ?_
 refine f_seq fun K3 kh3 => ?_
 refine f_region ?_
 refine f_stepP rfl rfl rfl (o_loadA (vs := [_, _]) Try.isAgg24 Try.sizeOf24 rfl rfl ⟨(rdA rfl), (rdA rfl), trivial⟩) ?_
 refine f_step rfl rfl rfl (o_call Try.call37 rfl (fun w_ hp_ => Check_spec N A l cap w_ (hr.up0 hp_) hl hN hok) ?_)
 rintro _ _ ⟨rfl, rfl⟩
 dsimp only [List.cons_append, List.nil_append]
 refine f_stepP rfl rfl rfl (o_move rfl) ?_
 refine f_stepP rfl rfl rfl (o_extract rfl rfl) ?_
 refine f_stepP rfl rfl rfl (o_extract rfl rfl) ?_
 refine f_stepP rfl rfl rfl (o_assign rfl) ?_
 refine f_stepP rfl rfl rfl (o_assign rfl) ?_
 refine f_done ?_
 refine f_tn (kh3 _ _ ?_)
 clear kh3
 refine f_seq fun K4 kh4 => ?_
 refine f_region ?_
 refine f_stepP rfl rfl rfl (o_move rfl) ?_
 refine f_stepP rfl rfl rfl (o_neq rfl rfl) ?_
 refine f_done ?_
 refine f_tn (kh4 _ _ ?_)
 clear kh4
 refine f_cond rfl (fun c17 => ?_) (fun c17 => ?_)
 ·
  refine f_seq fun K5 kh5 => ?_
  refine f_region ?_
  refine f_stepP rfl rfl rfl (o_move rfl) ?_
  refine f_stepP rfl rfl rfl (o_assign rfl) ?_
  refine f_stepP rfl rfl rfl (o_assign rfl) ?_
  refine f_done ?_
  refine f_tn (kh5 _ _ ?_)
  clear kh5
  refine f_ret ?_
  refine f_tr ?_
  have e : lcount N l L = (0, (gcheck N l).2) := if_pos c17
  exact f_fin2 [] Try.results25 rfl rfl Sub.nil ⟨by rw [e], rfl⟩
 ·
  have hg0 : (gcheck N l).2 = 0 := by simpa using c17
  obtain ⟨hn1, hn2, _, hgd⟩ := gcheck_zero hg0
  refine f_skip ?_
  refine f_tn (kh2 _ _ ?_)
  clear kh2
  refine f_seq fun K6 kh6 => ?_
  refine f_seq fun K7 kh7 => ?_
  refine f_region ?_
  refine f_stepP rfl rfl rfl (o_loadA (vs := [_, _]) Try.isAgg24 Try.sizeOf24 rfl rfl ⟨(rdA rfl), (rdA rfl), trivial⟩) ?_
  refine f_stepP rfl rfl rfl (o_move rfl) ?_
  refine f_step rfl rfl rfl (o_call Try.call48 rfl (fun w_ hp_ => right_spec N A B l.length cap L cb w_ (hL.up0 hp_) hm) ?_)
  rintro _ _ ⟨rfl, rfl⟩
  dsimp only [List.cons_append, List.nil_append]
  refine f_stepP rfl rfl rfl (o_not rfl) ?_
  refine f_done ?_
  refine f_tn (kh7 _ _ ?_)
  clear kh7
  refine f_condB rfl (fun c22 => ?_) (fun c22 => ?_)
  ·
   refine f_seq fun K8 kh8 => ?_
   refine f_region ?_
   refine f_stepP rfl rfl rfl (o_assign rfl) ?_
   refine f_stepP rfl rfl rfl (o_assign rfl) ?_
   refine f_done ?_
   refine f_tn (kh8 _ _ ?_)
   clear kh8
   refine f_ret ?_
   refine f_tr ?_
   have e : lcount N l L = (0, 80) := by rw [lcount, if_neg c17, if_pos (by simpa using c22)]
   exact f_fin2 [] Try.results25 rfl rfl Sub.nil ⟨by rw [e], rfl⟩
  ·
   have hrt : rightB N L = true := by simpa using c22
   obtain ⟨n, rfl⟩ : ∃ n : Nat, N = (n : Int) := ⟨N.toNat, by omega⟩
   have hg : (gcheck (n : Int) l).2 = 0 := hg0
   have hLn : L.length = n := by unfold rightB at hrt; simp at hrt; omega
   refine f_skip ?_
   refine f_tn (kh6 _ _ ?_)
   clear kh6
   refine f_seq fun K9 kh9 => ?_
   refine f_region ?_
   refine f_stepP rfl rfl rfl (o_assign rfl) ?_
   refine f_done ?_
   refine f_tn (kh9 _ _ ?_)
   clear kh9
   refine f_seq fun K10 kh10 => ?_
   refine f_seq fun K11 kh11 => ?_
   refine f_region ?_
   refine f_stepP rfl rfl rfl (o_loadA (vs := [_, _]) Try.isAgg24 Try.sizeOf24 rfl rfl ⟨(rdA rfl), (rdA rfl), trivial⟩) ?_
   refine f_step rfl rfl rfl (o_call Try.call29 rfl (fun w_ hp_ => pairs_spec n A l cap w_ (hr.up0 hp_) hg) ?_)
   rintro _ _ ⟨A', mp, rfl, rfl, cp, hop⟩
   have hpl := prs_len (n := n) (by omega) l
   dsimp only [List.cons_append, List.nil_append]
   refine f_stepP rfl rfl rfl (o_len sl28 rfl) ?_
   refine f_stepP rfl rfl rfl (o_move rfl) ?_
   refine f_done ?_
   refine f_tn (kh11 _ _ ?_)
   clear kh11
   refine f_block ?_
   refine f_loop (α := Nat) [1, 24, 25] (fun i => [(26, .int .i64 (i : Int)), (8, .int .i64 ((((prs n l).take i).filter (apart L)).length : Int))]) (fun i => [mp]) (fun i => i ≤ (prs n l).length) (fun i => (prs n l).length - i) (0) ?_ ?_ ?_ ?_
   · exact (by repeat (first | exact trivial | refine ⟨rfl, ?_⟩))
   · repeat (first | exact Sub.nil | refine Sub.pick ?_ | refine Sub.castO rfl ?_ | refine Sub.skip ?_)
   · exact Nat.zero_le _
   ·
    rintro i hil
    have hfl : (((prs n l).take i).filter (apart L)).length ≤ i := Nat.le_trans (List.length_filter_le _ _) (by rw [List.length_take]; omega)
    refine f_seq fun K12 kh12 => ?_
    refine f_region ?_
    refine f_stepP rfl rfl rfl (o_lss rfl rfl) ?_
    refine f_done ?_
    refine f_tn (kh12 _ _ ?_)
    clear kh12
    refine f_seq fun K13 kh13 => ?_
    refine f_cond rfl (fun c27 => ?_) (fun c27 => ?_)
    ·
     have hi : i < (prs n l).length := by omega
     obtain ⟨bp, spp, rfl, rfl⟩ := hop.at_ (by omega)
     have hrg := prs_rng (List.getElem_mem hi)
     obtain ⟨bb, ob, rfl, hSb, hcb⟩ := hL (fun e => by have := ints_length L; rw [e] at this; simp at this; omega)
     have hx1 : (prs n l)[i].1.toNat < L.length := by omega
     have hx2 : (prs n l)[i].2.toNat < L.length := by omega
     have hap : apart L (prs n l)[i] = decide (L[(prs n l)[i].1.toNat] ≠ L[(prs n l)[i].2.toNat]) := by unfold apart; rw [List.getD_eq_getElem?_getD, List.getD_eq_getElem?_getD, List.getElem?_eq_getElem hx1, List.getElem?_eq_getElem hx2]; rfl
     have hnx := filt_len_next (q := apart L) hi
     rw [hap] at hnx
     refine f_skip ?_
     refine f_tn (kh13 _ _ ?_)
     clear kh13
     refine f_seq fun K14 kh14 => ?_
     refine f_block ?_
     refine f_seq fun K15 kh15 => ?_
     refine f_region ?_
     refine f_stepP rfl rfl rfl (o_idx sl28 rfl rfl (i * 2) ⟨by omega, by omega, by first | omega | (simp; done) | (simp; omega)⟩) ?_
     refine f_stepP rfl rfl rfl (o_loadA (vs := prCs (prs n l)[i]) Try.isAgg47 Try.sizeOf47 rfl rfl (rdsOwn prCs_len hi)) ?_
     refine f_step rfl rfl rfl (o_alloc Try.zeroValue47 rfl fun b10 => ?_)
     refine f_step0 rfl rfl (o_storeA Try.sizeOf47 rfl rfl rfl rfl (by first | exact Nat.le_of_ble_eq_true rfl | (simp; done) | (simp; omega)) (prCs (prs n l)[i]) rfl ?_)
     refine f_done ?_
     refine f_tn (kh15 _ _ ?_)
     clear kh15
     refine f_seq fun K16 kh16 => ?_
     refine f_regionS rfl (by decide +kernel) ?_
     refine f_stillP rfl rfl rfl (o_move rfl) ?_
     refine f_stillP rfl rfl rfl (o_field fa47_0 rfl) ?_
     refine f_stillP rfl rfl rfl (o_load Try.isAgg3 rfl (rdA rfl)) ?_
     refine f_stillP rfl rfl rfl (o_idx sl35 rfl rfl (ob + (prs n l)[i].1.toNat) ⟨by omega, by omega, by first | omega | (simp; done) | (simp; omega)⟩) ?_
     refine f_stillP rfl rfl rfl (o_load Try.isAgg3 rfl (roOne (enc := (.int .i64 ·)) hSb hcb hx1)) ?_
     refine f_stillP rfl rfl rfl (o_move rfl) ?_
     refine f_stillP rfl rfl rfl (o_field fa47_1 rfl) ?_
     refine f_stillP rfl rfl rfl (o_load Try.isAgg3 rfl (rdA rfl)) ?_
     refine f_stillP rfl rfl rfl (o_idx sl35 rfl rfl (ob + (prs n l)[i].2.toNat) ⟨by omega, by omega, by first | omega | (simp; done) | (simp; omega)⟩) ?_
     refine f_stillP rfl rfl rfl (o_load Try.isAgg3 rfl (roOne (enc := (.int .i64 ·)) hSb hcb hx2)) ?_
     refine f_stillP rfl rfl rfl (o_neq rfl rfl) ?_
     refine f_stillD ?_
     refine f_tn (kh16 _ _ ?_)
     clear kh16
     refine f_cond rfl (fun c40 => ?_) (fun c40 => ?_)
     ·
      rw [if_pos (by simpa using c40)] at hnx
      refine f_region ?_
      refine f_stepP rfl rfl rfl (o_move rfl) ?_
      refine f_stepP rfl rfl rfl (o_add rfl rfl _ (Eq.trans (wrap_i64 (by omega)) (show _ = ((((prs n l).take (i + 1)).filter (apart L)).length : Int) by omega))) ?_
      refine f_stepP rfl rfl rfl (o_assign rfl) ?_
      refine f_done ?_
      refine f_bn ?_
      refine f_tn (kh14 _ _ ?_)
      clear kh14
      refine f_region ?_
      refine f_stepP rfl rfl rfl (o_add rfl rfl _ (wrap_i64 (by omega))) ?_
      refine f_stepP rfl rfl rfl (o_move rfl) ?_
      refine f_done ?_
      refine f_tn (f_again (i + 1) (by first | omega | (dsimp only; omega) | (simp; omega)) (by omega) ?_ ?_ ?_)
      · exact (by repeat (first | exact trivial | refine ⟨rfl, ?_⟩))
      · exact (by repeat (first | exact trivial | refine ⟨rfl, ?_⟩))
      · repeat (first | exact Sub.nil | refine Sub.pick ?_ | refine Sub.castO rfl ?_ | refine Sub.skip ?_)
     ·
      rw [if_neg (by simpa using c40), Nat.add_zero] at hnx
      refine f_reC 8 rfl (v := .int .i64 ((((prs n l).take (i + 1)).filter (apart L)).length : Int)) (by rw [hnx]; rfl) ?_
      refine f_skip ?_
      refine f_bn ?_
      refine f_tn (kh14 _ _ ?_)
      clear kh14
      refine f_region ?_
      refine f_stepP rfl rfl rfl (o_add rfl rfl _ (wrap_i64 (by omega))) ?_
      refine f_stepP rfl rfl rfl (o_move rfl) ?_
      refine f_done ?_
      refine f_tn (f_again (i + 1) (by first | omega | (dsimp only; omega) | (simp; omega)) (by omega) ?_ ?_ ?_)
      · exact (by repeat (first | exact trivial | refine ⟨rfl, ?_⟩))
      · exact (by repeat (first | exact trivial | refine ⟨rfl, ?_⟩))
      · repeat (first | exact Sub.nil | refine Sub.pick ?_ | refine Sub.castO rfl ?_ | refine Sub.skip ?_)
    ·
     refine f_exit ?_
     refine f_te ?_
     clear kh13
     refine f_te ?_
     refine f_be ?_
     refine f_tn (kh10 _ _ ?_)
     clear kh10
     refine f_seq fun K17 kh17 => ?_
     refine f_region ?_
     refine f_stepP rfl rfl rfl (o_move rfl) ?_
     refine f_stepP rfl rfl rfl (o_assign rfl) ?_
     refine f_stepP rfl rfl rfl (o_assign rfl) ?_
     refine f_done ?_
     refine f_tn (kh17 _ _ ?_)
     clear kh17
     refine f_ret ?_
     have e : lcount (n : Int) l L = ((cutN n l L : Int), 0) := by rw [lcount, if_neg (by rw [hg]; simp), if_neg (by rw [hrt]; simp)]; rfl
     obtain rfl : i = (prs n l).length := by omega
     rw [e]
     exact f_fin2 [] Try.results25 rfl rfl Sub.nil ⟨by rw [cutN, List.take_length], rfl⟩

end Go.Proofs.Ytbjiejhdgkpjcaa

/- The first example of chapter 8: what the natural cut is asked of. -/

namespace Go.Proofs.Ytbjiejhdgkpjcaa
open Go Fly
set_option linter.unusedVariables false
set_option linter.unusedSimpArgs false
set_option linter.unusedSectionVars false

/-- The neighbours of a vertex, counted out. -/
def nbC (n : Nat) (l : List Arc) (v : Int) : List Int := ((List.range n).map Int.ofNat).filter fun u => l.any fun x => decide (u ∈ nbr v x)
theorem nbrs_canonC {n : Nat} {l : List Arc} (hg : (gcheck (n : Int) l).2 = 0) (v : Nat) (hv : v < n) : nbrs (v : Int) l = nbC n l v := by
  have h2 : (nbC n l v).Pairwise (· < ·) := by
    unfold nbC
    refine List.Pairwise.filter _ ?_
    rw [List.pairwise_map]
    exact List.pairwise_lt_range.imp fun {a b} h => by show (a : Int) < (b : Int); omega
  have h1 := nbrs_rising v l
  refine List.Perm.eq_of_pairwise (le := (· < ·)) (fun a b _ _ h h' => absurd h (by omega)) h1 h2 ?_
  refine (List.perm_ext_iff_of_nodup (h1.imp fun {a b} h e => by omega) (h2.imp fun {a b} h e => by omega)).2 fun u => ?_
  rw [nbrs_mem]
  unfold nbC
  simp only [List.mem_filter, List.mem_map, List.mem_range, List.any_eq_true, decide_eq_true_eq]
  constructor
  · rintro ⟨x, hx, hu⟩
    have := (nbrs_rngG hg).2 v hv u (nbrs_mem.2 ⟨x, hx, hu⟩)
    exact ⟨⟨u.toNat, by omega, by show ((u.toNat : Nat) : Int) = u; omega⟩, x, hx, hu⟩
  · rintro ⟨_, x, hx, hu⟩; exact ⟨x, hx, hu⟩
theorem bstep_sameC {rows rows' : Nat → List Int} {n : Nat} (h : ∀ v, v < n → rows v = rows' v) {s : BSt} (hI : BInv n s) (k : Nat) : bstep rows k s = bstep rows' k s := by
  unfold bstep
  cases e : s.1[k]? with
  | none => rfl
  | some v =>
    have hv := hI.rng v (List.mem_of_getElem? e)
    simp only
    rw [h _ (by omega)]
theorem bgo_sameC {rows rows' : Nat → List Int} {n : Nat} (h : ∀ v, v < n → rows v = rows' v) (hr : ∀ v, v < n → ∀ u ∈ rows v, 0 ≤ u ∧ u < (n : Int)) {s : BSt} (hI : BInv n s) : ∀ k, bgo rows s k = bgo rows' s k
  | 0 => rfl
  | k + 1 => by
    show bstep rows k (bgo rows s k) = bstep rows' k (bgo rows' s k)
    rw [← bgo_sameC h hr hI k]
    exact bstep_sameC h (BInv.go hr hI k) k
def wg8 : List Arc := [⟨0, 1, 0⟩, ⟨1, 2, 0⟩, ⟨2, 0, 0⟩, ⟨3, 4, 0⟩, ⟨4, 5, 0⟩, ⟨5, 3, 0⟩, ⟨2, 3, 0⟩]
theorem wg8Ok : ∀ x ∈ wg8, ArcOk x := by
  intro x hx
  simp only [wg8, List.mem_cons, List.not_mem_nil, or_false] at hx
  rcases hx with rfl | rfl | rfl | rfl | rfl | rfl | rfl <;> exact ⟨⟨by decide, by decide⟩, ⟨by decide, by decide⟩, by decide⟩
theorem w8Reg : regR 6 wg8 0 4 = ([0, 1, 2, 3], 0) := by
  unfold regR
  rw [if_neg (by decide), if_neg (by decide), if_neg (by decide)]
  have h : bfs 6 (fun v : Nat => nbrs (v : Int) wg8) 0 (List.replicate 6 false) = bfs 6 (fun v : Nat => nbC 6 wg8 (v : Int)) 0 (List.replicate 6 false) :=
    bgo_sameC (n := 6) (fun v hv => nbrs_canonC (n := 6) (l := wg8) (by decide) v hv) (nbrs_rngG (n := 6) (l := wg8) (by decide)).2 (BInv.start (by simp) (by decide)) 6
  show ((bfs 6 (fun v : Nat => nbrs (v : Int) wg8) 0 (List.replicate 6 false)).1.take 4, (0 : Int)) = _
  rw [h]; decide +kernel
theorem w8Node : nodeL 6 wg8 0 4 = [0, 2, 3, 4, 1, 1] := by
  unfold nodeL coreR
  rw [show regR ((6 : Nat) : Int) wg8 0 4 = ([0, 1, 2, 3], 0) from w8Reg]
  decide +kernel
theorem w8N : nodeN 6 wg8 0 4 = 5 := by
  unfold nodeN coreR
  rw [show regR ((6 : Nat) : Int) wg8 0 4 = ([0, 1, 2, 3], 0) from w8Reg]
  decide +kernel
/-- The network's edges. -/
def we8 : List Arc := [⟨0, 2, 1⟩, ⟨2, 0, 1⟩, ⟨0, 3, 1⟩, ⟨3, 0, 1⟩, ⟨2, 3, 1⟩, ⟨3, 2, 1⟩, ⟨3, 4, 1⟩, ⟨4, 3, 1⟩, ⟨4, 1, 1⟩, ⟨1, 4, 1⟩, ⟨4, 1, 1⟩, ⟨1, 4, 1⟩]
theorem w8E : cutE (prs 6 wg8) (nodeL 6 wg8 0 4) = we8 := by rw [w8Node]; decide +kernel
theorem w8Flow : Flow 5 we8 0 1 [0, 0, 1, 0, 0, 0, 1, 0, 1, 0, 0, 0] 1 := ⟨⟨rfl, by decide⟩, by decide⟩
theorem w8Side : Side 5 we8 0 1 [0, 0, 1, 0, 0, 0, 1, 0, 1, 0, 0, 0] (fun v => [true, false, true, true, false].getD v false) where
  src := rfl
  dst := rfl
  shut := by unfold Shut; decide
  reach := fun v hv h => by
    have : v = 0 ∨ v = 2 ∨ v = 3 := by
      have h5 : v = 0 ∨ v = 1 ∨ v = 2 ∨ v = 3 ∨ v = 4 := by omega
      rcases h5 with rfl | rfl | rfl | rfl | rfl
      · exact .inl rfl
      · cases h
      · exact .inr (.inl rfl)
      · exact .inr (.inr rfl)
      · cases h
    have h2 : Reach we8 [0, 0, 1, 0, 0, 0, 1, 0, 1, 0, 0, 0] 0 2 := Reach.step (e := we8) (k := 0) .refl (by decide) (by decide)
    rcases this with rfl | rfl | rfl
    · exact .refl
    · exact h2
    · exact Reach.step (e := we8) (k := 8) h2 (by decide) (by decide)
theorem w8Cut {C : List Pr} (h : NcΦ 6 wg8 0 4 C) : C = [(2, 3)] := by
  refine nc_unique (n := 6) (nc_zero (n := 6) (by rw [show regR ((6 : Nat) : Int) wg8 0 4 = ([0, 1, 2, 3], 0) from w8Reg])) h ⟨fun e => ?_, fun _ => ?_⟩
  · rw [show regR ((6 : Nat) : Int) wg8 0 4 = ([0, 1, 2, 3], 0) from w8Reg] at e; cases e
  · refine ⟨[0, 0, 1, 0, 0, 0, 1, 0, 1, 0, 0, 0], 1, [true, false, true, true, false], by rw [w8N]; rfl, ?_, ?_, ?_⟩
    · rw [w8E, w8N]; exact w8Flow
    · rw [w8E, w8N]; exact w8Side
    · rw [w8Node]; decide +kernel
theorem w8Nc : ncE 6 wg8 0 4 = 0 := nc_zero (n := 6) (by rw [show regR ((6 : Nat) : Int) wg8 0 4 = ([0, 1, 2, 3], 0) from w8Reg])
theorem w8Es : ends2 (keepA [(2, 3)] wg8) = [(0, 1), (1, 2), (2, 0), (3, 4), (4, 5), (5, 3)] := by decide +kernel
theorem w8Root : ∀ u : Nat, u < 6 → Conn [(0, 1), (1, 2), (2, 0), (3, 4), (4, 5), (5, 3)] u (if u < 3 then 0 else 3) := fun u hu => by
  have h5 : u = 0 ∨ u = 1 ∨ u = 2 ∨ u = 3 ∨ u = 4 ∨ u = 5 := by omega
  rcases h5 with rfl | rfl | rfl | rfl | rfl | rfl
  · exact .refl _
  · exact Conn.edge (.inr (by decide))
  · exact Conn.edge (.inl (by decide))
  · exact .refl _
  · exact Conn.edge (.inr (by decide))
  · exact Conn.edge (.inl (by decide))
theorem w8At : ∀ u : Nat, ∀ h : u < 6, ([0, 0, 0, 1, 1, 1] : List Nat)[u] = if u < 3 then 0 else 1 := by decide
theorem w8Parts : IsParts 6 (ends2 (keepA [(2, 3)] wg8)) [0, 0, 0, 1, 1, 1] where
  len := rfl
  tidy := by unfold Tidy; decide
  conn := fun u v hu hv => by
    have hu' : u < 6 := hu
    have hv' : v < 6 := hv
    rw [w8Es, w8At u hu', w8At v hv']
    constructor
    · intro e
      have h1 := w8Root u hu'
      have h2 := w8Root v hv'
      have e2 : (if u < 3 then 0 else 3) = (if v < 3 then 0 else 3) := by
        by_cases a : u < 3 <;> by_cases b : v < 3 <;> simp [a, b] at e ⊢
      rw [e2] at h1
      exact h1.trans h2.symm
    · intro h
      exact conn_eq_of_up (f := fun x => if x < 3 then 0 else 1) (by decide) h
theorem w8Frag {p : List Nat} (h : IsParts 6 (ends2 (keepA [(2, 3)] wg8)) p) : natN p = [0, 0, 0, 1, 1, 1] := by
  rw [h.unique w8Parts fun _ _ _ _ => Iff.rfl]; rfl
theorem w8FE : fragE 6 wg8 [(2, 3)] = 0 := by decide +kernel
theorem w8Count : lcount 6 wg8 [0, 0, 0, 1, 1, 1] = (1, 0) := by decide +kernel
end Go.Proofs.Ytbjiejhdgkpjcaa

/- flyoverlaw08: large, works. -/
namespace Go.Proofs.Ytbjiejhdgkpjcaa
open Go Go.RowKit Fly
set_option linter.unusedVariables false
set_option linter.unusedSimpArgs false

set_option maxRecDepth 100000 in
set_option maxHeartbeats 4000000 in
theorem RCheck_spec (N : Int) (A : Option Addr) (l : List Arc) (cap : Nat) (w : World) (hr : Ro (Fr w []) w A (l.flatMap arcCs)) (hl : l.length ≤ 9223372036854775807) (hN : I64 N) (hok : ∀ x ∈ l, ArcOk x) :
    Meets Try.prog 38 [.agg #[.int .i64 N, .slice A l.length cap]] w [] (fun v m => v = .tuple #[.int .i64 (gcheck N l).1, .int .i64 (gcheck N l).2] ∧ m = []) := by
 refine f_enter Try.func38 rfl Try.ntmps38 rfl Owns.nil ?_
 refine f_seq fun K1 kh1 => ?_
 refine f_region ?_
 refine f_step rfl rfl rfl (o_box rfl rfl fun b1 => ?_)
 refine f_stepP rfl rfl rfl (o_assign rfl) ?_
 refine f_stepP rfl rfl rfl (o_assign rfl) ?_
 refine f_done ?_
 refine f_tn (kh1 _ _ ?_)
 clear kh1
 refine f_seq fun K2 kh2 => ?_
 refine f_seq fun K3 kh3 => ?_
 refine f_region ?_
 refine f_stepP rfl rfl rfl (o_field fa24_0 rfl) ?_
 refine f_stepP rfl rfl rfl (o_load Try.isAgg3 rfl (rdA rfl)) ?_
 refine f_stepP rfl rfl rfl (o_lss rfl rfl) ?_
 refine f_stepP rfl rfl rfl (o_move rfl) ?_
 refine f_splitL 9 rfl (fun g9 => ?_) (fun g9 => ?_)
 ·
  refine f_stepN rfl rfl rfl rfl rfl rfl ?_
  refine f_stepN rfl rfl rfl rfl rfl rfl ?_
  refine f_stepN rfl rfl rfl rfl rfl rfl ?_
  refine f_stepP rfl rfl rfl (o_pickT rfl rfl) ?_
  refine f_done ?_
  refine f_tn (kh3 _ _ ?_)
  clear kh3
  refine f_condT rfl ?_
  refine f_seq fun K4 kh4 => ?_
  refine f_region ?_
  refine f_stepP rfl rfl rfl (o_assign rfl) ?_
  refine f_stepP rfl rfl rfl (o_assign rfl) ?_
  refine f_done ?_
  refine f_tn (kh4 _ _ ?_)
  clear kh4
  refine f_ret ?_
  refine f_tr ?_
  exact f_fin2 [] Try.results38 rfl rfl Sub.nil ⟨by rw [gcheck_range (by omega)], rfl⟩
 ·
  refine f_stepPY rfl rfl rfl rfl rfl (o_field fa24_0 rfl) ?_
  refine f_stepPY rfl rfl rfl rfl rfl (o_load Try.isAgg3 rfl (rdA rfl)) ?_
  refine f_stepPY rfl rfl rfl rfl rfl (o_gtr rfl rfl) ?_
  refine f_stepP rfl rfl rfl (o_pickF rfl rfl) ?_
  refine f_done ?_
  refine f_tn (kh3 _ _ ?_)
  clear kh3
  refine f_cond rfl (fun c13 => ?_) (fun c13 => ?_)
  ·
   refine f_seq fun K5 kh5 => ?_
   refine f_region ?_
   refine f_stepP rfl rfl rfl (o_assign rfl) ?_
   refine f_stepP rfl rfl rfl (o_assign rfl) ?_
   refine f_done ?_
   refine f_tn (kh5 _ _ ?_)
   clear kh5
   refine f_ret ?_
   refine f_tr ?_
   exact f_fin2 [] Try.results38 rfl rfl Sub.nil ⟨by rw [gcheck_range (by omega)], rfl⟩
  ·
   have hN1 : 1 ≤ N ∧ N ≤ 1024 := by omega
   refine f_skip ?_
   refine f_tn (kh2 _ _ ?_)
   clear kh2
   refine f_seq fun K6 kh6 => ?_
   refine f_seq fun K7 kh7 => ?_
   refine f_region ?_
   refine f_stepP rfl rfl rfl (o_field fa24_1 rfl) ?_
   refine f_stepP rfl rfl rfl (o_load Try.isAgg22 rfl (rdA rfl)) ?_
   refine f_stepP rfl rfl rfl (o_len sl22 rfl) ?_
   refine f_stepP rfl rfl rfl (o_gtr rfl rfl) ?_
   refine f_done ?_
   refine f_tn (kh7 _ _ ?_)
   clear kh7
   refine f_cond rfl (fun c17 => ?_) (fun c17 => ?_)
   ·
    refine f_seq fun K8 kh8 => ?_
    refine f_region ?_
    refine f_stepP rfl rfl rfl (o_assign rfl) ?_
    refine f_stepP rfl rfl rfl (o_assign rfl) ?_
    refine f_done ?_
    refine f_tn (kh8 _ _ ?_)
    clear kh8
    refine f_ret ?_
    refine f_tr ?_
    exact f_fin2 [] Try.results38 rfl rfl Sub.nil ⟨by rw [gcheck_long hN1 (by omega)], rfl⟩
   ·
    refine f_skip ?_
    refine f_tn (kh6 _ _ ?_)
    clear kh6
    refine f_seq fun K9 kh9 => ?_
    refine f_seq fun K10 kh10 => ?_
    refine f_region ?_
    refine f_stepP rfl rfl rfl (o_assign rfl) ?_
    refine f_done ?_
    refine f_tn (kh10 _ _ ?_)
    clear kh10
    refine f_block ?_
    refine f_loop (α := Nat) [1] (fun k => [(4, .int .i64 (k : Int))]) (fun k => [[(b1, blk [.int .i64 N, .slice A l.length cap] 24)]]) (fun k => k ≤ l.length ∧ ∀ j (h : j < l.length), j < k → arcBad N l[j] = false) (fun k => l.length - k) (0) ?_ ?_ ?_ ?_
    · exact (by repeat (first | exact trivial | refine ⟨rfl, ?_⟩))
    · repeat (first | exact Sub.nil | refine Sub.pick ?_ | refine Sub.castO rfl ?_ | refine Sub.skip ?_)
    · exact ⟨by omega, fun j h hj => by omega⟩
    ·
     rintro k ⟨hkl, hall⟩
     refine f_seq fun K11 kh11 => ?_
     refine f_seq fun K12 kh12 => ?_
     refine f_region ?_
     refine f_stepP rfl rfl rfl (o_move rfl) ?_
     refine f_stepP rfl rfl rfl (o_field fa24_1 rfl) ?_
     refine f_stepP rfl rfl rfl (o_load Try.isAgg22 rfl (rdA rfl)) ?_
     refine f_stepP rfl rfl rfl (o_len sl22 rfl) ?_
     refine f_stepP rfl rfl rfl (o_lss rfl rfl) ?_
     refine f_done ?_
     refine f_tn (kh12 _ _ ?_)
     clear kh12
     refine f_cond rfl (fun c22 => ?_) (fun c22 => ?_)
     ·
      refine f_skip ?_
      refine f_tn (kh11 _ _ ?_)
      clear kh11
      refine f_seq fun K13 kh13 => ?_
      refine f_block ?_
      refine f_seq fun K14 kh14 => ?_
      refine f_region ?_
      refine f_stepP rfl rfl rfl (o_field fa24_1 rfl) ?_
      refine f_stepP rfl rfl rfl (o_load Try.isAgg22 rfl (rdA rfl)) ?_
      refine f_stepP rfl rfl rfl (o_move rfl) ?_
      have hk : k < l.length := by omega
      obtain ⟨b, off, rfl, hS, hc⟩ := hr (flat_ne arcCs arcCs_len (by omega) hk)
      refine f_stepP rfl rfl rfl (o_idx sl22 rfl rfl (off + k * 3) ⟨by omega, by omega, by first | omega | (simp; done) | (simp; omega)⟩) ?_
      refine f_stepP rfl rfl rfl (o_loadA (vs := arcCs l[k]) Try.isAgg55 Try.sizeOf55 rfl rfl (roElem arcCs_len hS hc hk)) ?_
      refine f_step rfl rfl rfl (o_alloc Try.zeroValue55 rfl fun b5 => ?_)
      refine f_step0 rfl rfl (o_storeA Try.sizeOf55 rfl rfl rfl rfl (by first | exact Nat.le_of_ble_eq_true rfl | (simp; done) | (simp; omega)) (arcCs l[k]) rfl ?_)
      refine f_done ?_
      refine f_tn (kh14 _ _ ?_)
      clear kh14
      refine f_seq fun K15 kh15 => ?_
      refine f_region ?_
      refine f_stepP rfl rfl rfl (o_field fa55_0 rfl) ?_
      refine f_stepP rfl rfl rfl (o_load Try.isAgg3 rfl (rdA rfl)) ?_
      refine f_stepP rfl rfl rfl (o_lss rfl rfl) ?_
      refine f_stepP rfl rfl rfl (o_move rfl) ?_
      refine f_splitL 33 rfl (fun g33 => ?_) (fun g33 => ?_)
      ·
       refine f_stepN rfl rfl rfl rfl rfl rfl ?_
       refine f_stepN rfl rfl rfl rfl rfl rfl ?_
       refine f_stepN rfl rfl rfl rfl rfl rfl ?_
       refine f_stepN rfl rfl rfl rfl rfl rfl ?_
       refine f_stepN rfl rfl rfl rfl rfl rfl ?_
       refine f_stepP rfl rfl rfl (o_pickT rfl rfl) ?_
       refine f_stepP rfl rfl rfl (o_move rfl) ?_
       refine f_stepN rfl rfl rfl rfl rfl rfl ?_
       refine f_stepN rfl rfl rfl rfl rfl rfl ?_
       refine f_stepN rfl rfl rfl rfl rfl rfl ?_
       refine f_stepP rfl rfl rfl (o_pickT rfl rfl) ?_
       refine f_stepP rfl rfl rfl (o_move rfl) ?_
       refine f_stepN rfl rfl rfl rfl rfl rfl ?_
       refine f_stepN rfl rfl rfl rfl rfl rfl ?_
       refine f_stepN rfl rfl rfl rfl rfl rfl ?_
       refine f_stepN rfl rfl rfl rfl rfl rfl ?_
       refine f_stepN rfl rfl rfl rfl rfl rfl ?_
       refine f_stepP rfl rfl rfl (o_pickT rfl rfl) ?_
       refine f_done ?_
       refine f_tn (kh15 _ _ ?_)
       clear kh15
       refine f_condT rfl ?_
       refine f_seq fun K16 kh16 => ?_
       refine f_region ?_
       refine f_stepP rfl rfl rfl (o_move rfl) ?_
       refine f_stepP rfl rfl rfl (o_assign rfl) ?_
       refine f_stepP rfl rfl rfl (o_assign rfl) ?_
       refine f_done ?_
       refine f_tn (kh16 _ _ ?_)
       clear kh16
       refine f_ret ?_
       refine f_br ?_
       refine f_tr ?_
       refine f_tr ?_
       refine f_br ?_
       refine f_tr ?_
       exact f_fin2 [] Try.results38 rfl rfl Sub.nil ⟨by rw [gcheck_bad hN1 (by omega) hk hall (by unfold arcBad; simp; omega)], rfl⟩
      ·
       refine f_stepPY rfl rfl rfl rfl rfl (o_field fa55_0 rfl) ?_
       refine f_stepPY rfl rfl rfl rfl rfl (o_load Try.isAgg3 rfl (rdA rfl)) ?_
       refine f_stepPY rfl rfl rfl rfl rfl (o_field fa24_0 rfl) ?_
       refine f_stepPY rfl rfl rfl rfl rfl (o_load Try.isAgg3 rfl (rdA rfl)) ?_
       refine f_stepPY rfl rfl rfl rfl rfl (o_geq rfl rfl) ?_
       refine f_stepP rfl rfl rfl (o_pickF rfl rfl) ?_
       refine f_stepP rfl rfl rfl (o_move rfl) ?_
       refine f_splitL 40 rfl (fun g40 => ?_) (fun g40 => ?_)
       ·
        refine f_stepN rfl rfl rfl rfl rfl rfl ?_
        refine f_stepN rfl rfl rfl rfl rfl rfl ?_
        refine f_stepN rfl rfl rfl rfl rfl rfl ?_
        refine f_stepP rfl rfl rfl (o_pickT rfl rfl) ?_
        refine f_stepP rfl rfl rfl (o_move rfl) ?_
        refine f_stepN rfl rfl rfl rfl rfl rfl ?_
        refine f_stepN rfl rfl rfl rfl rfl rfl ?_
        refine f_stepN rfl rfl rfl rfl rfl rfl ?_
        refine f_stepN rfl rfl rfl rfl rfl rfl ?_
        refine f_stepN rfl rfl rfl rfl rfl rfl ?_
        refine f_stepP rfl rfl rfl (o_pickT rfl rfl) ?_
        refine f_done ?_
        refine f_tn (kh15 _ _ ?_)
        clear kh15
        refine f_condT rfl ?_
        refine f_seq fun K17 kh17 => ?_
        refine f_region ?_
        refine f_stepP rfl rfl rfl (o_move rfl) ?_
        refine f_stepP rfl rfl rfl (o_assign rfl) ?_
        refine f_stepP rfl rfl rfl (o_assign rfl) ?_
        refine f_done ?_
        refine f_tn (kh17 _ _ ?_)
        clear kh17
        refine f_ret ?_
        refine f_br ?_
        refine f_tr ?_
        refine f_tr ?_
        refine f_br ?_
        refine f_tr ?_
        exact f_fin2 [] Try.results38 rfl rfl Sub.nil ⟨by rw [gcheck_bad hN1 (by omega) hk hall (by unfold arcBad; simp; omega)], rfl⟩
       ·
        refine f_stepPY rfl rfl rfl rfl rfl (o_field fa55_1 rfl) ?_
        refine f_stepPY rfl rfl rfl rfl rfl (o_load Try.isAgg3 rfl (rdA rfl)) ?_
        refine f_stepPY rfl rfl rfl rfl rfl (o_lss rfl rfl) ?_
        refine f_stepP rfl rfl rfl (o_pickF rfl rfl) ?_
        refine f_stepP rfl rfl rfl (o_move rfl) ?_
        refine f_splitL 45 rfl (fun g45 => ?_) (fun g45 => ?_)
        ·
         refine f_stepN rfl rfl rfl rfl rfl rfl ?_
         refine f_stepN rfl rfl rfl rfl rfl rfl ?_
         refine f_stepN rfl rfl rfl rfl rfl rfl ?_
         refine f_stepN rfl rfl rfl rfl rfl rfl ?_
         refine f_stepN rfl rfl rfl rfl rfl rfl ?_
         refine f_stepP rfl rfl rfl (o_pickT rfl rfl) ?_
         refine f_done ?_
         refine f_tn (kh15 _ _ ?_)
         clear kh15
         refine f_condT rfl ?_
         refine f_seq fun K18 kh18 => ?_
         refine f_region ?_
         refine f_stepP rfl rfl rfl (o_move rfl) ?_
         refine f_stepP rfl rfl rfl (o_assign rfl) ?_
         refine f_stepP rfl rfl rfl (o_assign rfl) ?_
         refine f_done ?_
         refine f_tn (kh18 _ _ ?_)
         clear kh18
         refine f_ret ?_
         refine f_br ?_
         refine f_tr ?_
         refine f_tr ?_
         refine f_br ?_
         refine f_tr ?_
         exact f_fin2 [] Try.results38 rfl rfl Sub.nil ⟨by rw [gcheck_bad hN1 (by omega) hk hall (by unfold arcBad; simp; omega)], rfl⟩
        ·
         refine f_stepPY rfl rfl rfl rfl rfl (o_field fa55_1 rfl) ?_
         refine f_stepPY rfl rfl rfl rfl rfl (o_load Try.isAgg3 rfl (rdA rfl)) ?_
         refine f_stepPY rfl rfl rfl rfl rfl (o_field fa24_0 rfl) ?_
         refine f_stepPY rfl rfl rfl rfl rfl (o_load Try.isAgg3 rfl (rdA rfl)) ?_
         refine f_stepPY rfl rfl rfl rfl rfl (o_geq rfl rfl) ?_
         refine f_stepP rfl rfl rfl (o_pickF rfl rfl) ?_
         refine f_done ?_
         refine f_tn (kh15 _ _ ?_)
         clear kh15
         refine f_cond rfl (fun c51 => ?_) (fun c51 => ?_)
         ·
          refine f_seq fun K19 kh19 => ?_
          refine f_region ?_
          refine f_stepP rfl rfl rfl (o_move rfl) ?_
          refine f_stepP rfl rfl rfl (o_assign rfl) ?_
          refine f_stepP rfl rfl rfl (o_assign rfl) ?_
          refine f_done ?_
          refine f_tn (kh19 _ _ ?_)
          clear kh19
          refine f_ret ?_
          refine f_br ?_
          refine f_tr ?_
          refine f_tr ?_
          refine f_br ?_
          refine f_tr ?_
          exact f_fin2 [] Try.results38 rfl rfl Sub.nil ⟨by rw [gcheck_bad hN1 (by omega) hk hall (by unfold arcBad; simp; omega)], rfl⟩
         ·
          refine f_skip ?_
          refine f_bn ?_
          refine f_tn (kh13 _ _ ?_)
          clear kh13
          refine f_region ?_
          refine f_stepP rfl rfl rfl (o_move rfl) ?_
          refine f_stepP rfl rfl rfl (o_add rfl rfl _ (wrap_i64 (by omega))) ?_
          refine f_stepP rfl rfl rfl (o_assign rfl) ?_
          refine f_done ?_
          refine f_tn (f_again (k + 1) (by first | omega | (dsimp only; omega) | (simp; omega)) ⟨by omega, good_next hall (by unfold arcBad; simp; omega)⟩ ?_ ?_ ?_)
          · exact (by repeat (first | exact trivial | refine ⟨rfl, ?_⟩))
          · exact (by repeat (first | exact trivial | refine ⟨rfl, ?_⟩))
          · repeat (first | exact Sub.nil | refine Sub.pick ?_ | refine Sub.castO rfl ?_ | refine Sub.skip ?_)
     ·
      refine f_exit ?_
      refine f_te ?_
      clear kh11
      refine f_te ?_
      refine f_be ?_
      refine f_tn (kh9 _ _ ?_)
      clear kh9
      refine f_seq fun K20 kh20 => ?_
      refine f_region ?_
      refine f_stepP rfl rfl rfl (o_assign rfl) ?_
      refine f_stepP rfl rfl rfl (o_assign rfl) ?_
      refine f_done ?_
      refine f_tn (kh20 _ _ ?_)
      clear kh20
      refine f_ret ?_
      exact f_fin2 [] Try.results38 rfl rfl Sub.nil ⟨by rw [gcheck_ok hN1 (by omega) (fun j h => hall j h (by omega))], rfl⟩

set_option maxRecDepth 100000 in
set_option maxHeartbeats 4000000 in
theorem large_spec (N : Int) (A : Option Addr) (l : List Arc) (cap : Nat) (w : World) (hr : Ro (Fr w []) w A (l.flatMap arcCs)) (hl : l.length ≤ 9223372036854775807) (hN : I64 N) (hok : ∀ x ∈ l, ArcOk x) :
    Meets Try.prog 19 [.agg #[.int .i64 N, .slice A l.length cap]] w [] (fun u m => ∃ b, u = .bool b ∧ m = []) := by
 refine f_enter Try.func19 rfl Try.ntmps19 rfl Owns.nil ?_
 refine f_seq fun K1 kh1 => ?_
 refine f_region ?_
 refine f_step rfl rfl rfl (o_box rfl rfl fun b1 => ?_)
 refine f_stepP rfl rfl rfl (o_assign rfl) ?_
 refine f_done ?_
 refine f_tn (kh1 _ _ ?_)
 clear kh1
 refine f_seq fun K2 kh2 => ?_
 refine f_region ?_
 refine f_stepP rfl rfl rfl (o_field fa24_0 rfl) ?_
 refine f_stepP rfl rfl rfl (o_load Try.isAgg3 rfl (rdA rfl)) ?_
 refine f_stepP rfl rfl rfl (o_gtr rfl rfl) ?_
 refine f_stepP rfl rfl rfl (o_move rfl) ?_
 refine f_splitL 6 rfl (fun g6 => ?_) (fun g6 => ?_)
 ·
  refine f_stepN rfl rfl rfl rfl rfl rfl ?_
  refine f_stepN rfl rfl rfl rfl rfl rfl ?_
  refine f_stepN rfl rfl rfl rfl rfl rfl ?_
  refine f_stepN rfl rfl rfl rfl rfl rfl ?_
  refine f_stepP rfl rfl rfl (o_pickT rfl rfl) ?_
  refine f_stepP rfl rfl rfl (o_assign rfl) ?_
  refine f_done ?_
  refine f_tn (kh2 _ _ ?_)
  clear kh2
  refine f_ret ?_
  exact f_fin1 [] Try.results19 rfl Sub.nil ⟨_, rfl, rfl⟩
 ·
  refine f_stepPY rfl rfl rfl rfl rfl (o_field fa24_1 rfl) ?_
  refine f_stepPY rfl rfl rfl rfl rfl (o_load Try.isAgg22 rfl (rdA rfl)) ?_
  refine f_stepPY rfl rfl rfl rfl rfl (o_len sl22 rfl) ?_
  refine f_stepPY rfl rfl rfl rfl rfl (o_gtr rfl rfl) ?_
  refine f_stepP rfl rfl rfl (o_pickF rfl rfl) ?_
  refine f_stepP rfl rfl rfl (o_assign rfl) ?_
  refine f_done ?_
  refine f_tn (kh2 _ _ ?_)
  clear kh2
  refine f_ret ?_
  exact f_fin1 [] Try.results19 rfl Sub.nil ⟨_, rfl, rfl⟩

set_option maxRecDepth 100000 in
set_option maxHeartbeats 4000000 in
theorem works_spec (w : World) : Meets Try.prog 9 [] w [] (fun u m => u = .bool true ∧ m = []) := by
 refine f_enter Try.func9 rfl Try.ntmps9 rfl Owns.nil ?_
 refine f_seq fun K1 kh1 => ?_
 refine f_region ?_
 refine f_stepP rfl rfl rfl (o_assign rfl) ?_
 refine f_done ?_
 refine f_tn (kh1 _ _ ?_)
 clear kh1
 refine f_seq fun K2 kh2 => ?_
 refine f_region ?_
 refine f_stepP rfl rfl rfl (o_build st55 rfl rfl) ?_
 refine f_stepP rfl rfl rfl (o_build st55 rfl rfl) ?_
 refine f_stepP rfl rfl rfl (o_build st55 rfl rfl) ?_
 refine f_stepP rfl rfl rfl (o_build st55 rfl rfl) ?_
 refine f_stepP rfl rfl rfl (o_build st55 rfl rfl) ?_
 refine f_stepP rfl rfl rfl (o_build st55 rfl rfl) ?_
 refine f_stepP rfl rfl rfl (o_build st55 rfl rfl) ?_
 refine f_step rfl rfl rfl (o_sliceN (len := 7) el22 (by omega) rfl rfl fun b15 => ?_)
 refine f_stepP rfl rfl rfl (o_build st24 rfl rfl) ?_
 refine f_step rfl rfl rfl (o_alloc Try.zeroValue24 rfl fun b1 => ?_)
 refine f_step0 rfl rfl (o_storeA Try.sizeOf24 rfl rfl rfl rfl (by first | exact Nat.le_of_ble_eq_true rfl | (simp; done) | (simp; omega)) _ rfl ?_)
 refine f_done ?_
 refine f_tn (kh2 _ _ ?_)
 clear kh2
 refine f_seq fun K3 kh3 => ?_
 refine f_region ?_
 refine f_stepP rfl rfl rfl (o_loadA (vs := [_, _]) Try.isAgg24 Try.sizeOf24 rfl rfl ⟨(rdA rfl), (rdA rfl), trivial⟩) ?_
 refine f_step rfl rfl rfl (o_call Try.call11 rfl (fun w_ hp_ => CutN_spec 6 (some ⟨b15, 0, none⟩) wg8 7 0 4 w_ (roOwn (b := b15) hp_ (cs := wg8.flatMap arcCs) (fun j v hj => hj)) (by decide) (by decide) wg8Ok) ?_)
 rintro _ _ ⟨C, A1, c1, m1, rfl, rfl, ho1, _, h1⟩
 obtain rfl : C = [(2, 3)] := w8Cut (h1 w8Nc)
 rw [w8Nc]
 obtain ⟨bC, spC, rfl, rfl⟩ := ho1.at_ (by decide)
 dsimp only [List.cons_append, List.nil_append]
 refine f_stepP rfl rfl rfl (o_move rfl) ?_
 refine f_stepP rfl rfl rfl (o_extract rfl rfl) ?_
 refine f_stepP rfl rfl rfl (o_extract rfl rfl) ?_
 refine f_stepP rfl rfl rfl (o_assign rfl) ?_
 refine f_stepP rfl rfl rfl (o_assign rfl) ?_
 refine f_done ?_
 refine f_tn (kh3 _ _ ?_)
 clear kh3
 refine f_seq fun K4 kh4 => ?_
 refine f_region ?_
 refine f_stepP rfl rfl rfl (o_loadA (vs := [_, _]) Try.isAgg24 Try.sizeOf24 rfl rfl ⟨(rdA rfl), (rdA rfl), trivial⟩) ?_
 refine f_stepP rfl rfl rfl (o_move rfl) ?_
 refine f_step rfl rfl rfl (o_call Try.call15 rfl (fun w_ hp_ => Fragments_spec 6 (some ⟨b15, 0, none⟩) (some ⟨bC, 0, none⟩) wg8 7 [(2, 3)] 1 w_ (roOwn (b := b15) hp_ (cs := wg8.flatMap arcCs) (fun j v hj => hj)) (by decide) (by decide) wg8Ok (roOwn (b := bC) hp_ (cs := [((2 : Int), (3 : Int))].flatMap prCs) (fun j v hj => app_get hj)) (by decide) (fun p hp => by simp only [List.mem_cons, List.not_mem_nil, or_false] at hp; subst hp; exact ⟨⟨by decide, by decide⟩, by decide, by decide⟩)) ?_)
 rintro _ _ ⟨P, A2, c2, m2, rfl, rfl, ho2, h2, _⟩
 obtain ⟨p, hPp, hp8⟩ := h2 w8FE
 obtain rfl : P = [0, 0, 0, 1, 1, 1] := hPp.trans (w8Frag hp8)
 rw [w8FE]
 dsimp only [List.cons_append, List.nil_append]
 refine f_stepP rfl rfl rfl (o_move rfl) ?_
 refine f_stepP rfl rfl rfl (o_extract rfl rfl) ?_
 refine f_stepP rfl rfl rfl (o_extract rfl rfl) ?_
 refine f_stepP rfl rfl rfl (o_assign rfl) ?_
 refine f_stepP rfl rfl rfl (o_assign rfl) ?_
 refine f_done ?_
 refine f_tn (kh4 _ _ ?_)
 clear kh4
 refine f_seq fun K5 kh5 => ?_
 refine f_region ?_
 refine f_stepP rfl rfl rfl (o_loadA (vs := [_, _]) Try.isAgg24 Try.sizeOf24 rfl rfl ⟨(rdA rfl), (rdA rfl), trivial⟩) ?_
 refine f_stepP rfl rfl rfl (o_move rfl) ?_
 refine f_step rfl rfl rfl (o_call Try.call25 rfl (fun w_ hp_ => Count_spec 6 (some ⟨b15, 0, none⟩) A2 wg8 7 [0, 0, 0, 1, 1, 1] c2 w_ (roOwn (b := b15) hp_ (cs := wg8.flatMap arcCs) (fun j v hj => hj)) (by decide) (by decide) wg8Ok (seen_ro (ho2.seen hp_)) (by decide)) ?_)
 rintro _ _ ⟨rfl, rfl⟩
 rw [w8Count]
 dsimp only [List.cons_append, List.nil_append]
 refine f_stepP rfl rfl rfl (o_move rfl) ?_
 refine f_stepP rfl rfl rfl (o_extract rfl rfl) ?_
 refine f_stepP rfl rfl rfl (o_extract rfl rfl) ?_
 refine f_stepP rfl rfl rfl (o_assign rfl) ?_
 refine f_stepP rfl rfl rfl (o_assign rfl) ?_
 refine f_done ?_
 refine f_tn (kh5 _ _ ?_)
 clear kh5
 refine f_seq fun K6 kh6 => ?_
 have hlen8 : ([(2, 3)] : List Pr).length = 1 := rfl
 refine f_region ?_
 refine f_stepP rfl rfl rfl (o_move rfl) ?_
 refine f_stepP rfl rfl rfl (o_eql rfl rfl) ?_
 refine f_stepP rfl rfl rfl (o_move rfl) ?_
 refine f_trueL 36 rfl (rfl) ?_
 refine f_stepPY rfl rfl rfl rfl rfl (o_move rfl) ?_
 refine f_stepPY rfl rfl rfl rfl rfl (o_len sl28 rfl) ?_
 refine f_stepPY rfl rfl rfl rfl rfl (o_eql rfl rfl) ?_
 refine f_stepP rfl rfl rfl (o_pickT rfl rfl) ?_
 refine f_stepP rfl rfl rfl (o_move rfl) ?_
 refine f_trueL 41 rfl (rfl) ?_
 refine f_stepPY rfl rfl rfl rfl rfl (o_move rfl) ?_
 refine f_stepPY rfl rfl rfl rfl rfl (o_idx sl28 rfl rfl (0) ⟨by omega, by omega, by first | omega | (simp; done) | (simp; omega)⟩) ?_
 refine f_stepPY rfl rfl rfl rfl rfl (o_loadA (vs := prCs ((2 : Int), (3 : Int))) Try.isAgg47 Try.sizeOf47 rfl rfl ⟨(rdA rfl), (rdA rfl), trivial⟩) ?_
 refine f_stepPY rfl rfl rfl rfl rfl (o_build (cs := prCs ((2 : Int), (3 : Int))) st47 rfl rfl) ?_
 refine f_stepPY rfl rfl rfl rfl rfl (o_eqlA Try.eqGuardType47 (eqPr (2, 3) (2, 3)) rfl rfl) ?_
 refine f_stepP rfl rfl rfl (o_pickT rfl rfl) ?_
 refine f_stepP rfl rfl rfl (o_move rfl) ?_
 refine f_trueL 48 rfl (rfl) ?_
 refine f_stepPY rfl rfl rfl rfl rfl (o_move rfl) ?_
 refine f_stepPY rfl rfl rfl rfl rfl (o_eql rfl rfl) ?_
 refine f_stepP rfl rfl rfl (o_pickT rfl rfl) ?_
 refine f_stepP rfl rfl rfl (o_move rfl) ?_
 refine f_trueL 52 rfl (rfl) ?_
 refine f_stepPY rfl rfl rfl rfl rfl (o_move rfl) ?_
 refine f_stepY rfl rfl rfl rfl rfl (o_sliceN (len := 6) el35 (by omega) rfl rfl fun b54 => ?_)
 refine f_stepY rfl rfl rfl rfl rfl (o_call Try.call17 rfl (fun w_ hp_ => SameInts_spec A2 (some ⟨b54, 0, none⟩) [0, 0, 0, 1, 1, 1] [0, 0, 0, 1, 1, 1] c2 6 w_ (seen_ro (ho2.seen hp_)) (roOwn (b := b54) hp_ (cs := ints [0, 0, 0, 1, 1, 1]) (fun j v hj => hj)) (by decide)) ?_)
 rintro _ _ ⟨rfl, rfl⟩
 rw [decide_eq_true rfl]
 dsimp only [List.cons_append, List.nil_append]
 refine f_stepP rfl rfl rfl (o_pickT rfl rfl) ?_
 refine f_stepP rfl rfl rfl (o_move rfl) ?_
 refine f_stepPY rfl rfl rfl rfl rfl (o_move rfl) ?_
 refine f_stepPY rfl rfl rfl rfl rfl (o_eql rfl rfl) ?_
 refine f_stepP rfl rfl rfl (o_pickT rfl rfl) ?_
 refine f_stepP rfl rfl rfl (o_move rfl) ?_
 refine f_trueL 61 rfl (rfl) ?_
 refine f_stepPY rfl rfl rfl rfl rfl (o_move rfl) ?_
 refine f_stepPY rfl rfl rfl rfl rfl (o_eql rfl rfl) ?_
 refine f_stepP rfl rfl rfl (o_pickT rfl rfl) ?_
 refine f_stepP rfl rfl rfl (o_assign rfl) ?_
 refine f_done ?_
 refine f_tn (kh6 _ _ ?_)
 clear kh6
 refine f_ret ?_
 exact f_fin1 [] Try.results9 rfl Sub.nil ⟨by simp, rfl⟩

end Go.Proofs.Ytbjiejhdgkpjcaa

/- flyoverbook.SamePairs, natcut.Pairs; flyoverlaw08: NatcutBetween. -/
namespace Go.Proofs.Ytbjiejhdgkpjcaa
open Go Go.RowKit Fly
set_option linter.unusedVariables false
set_option linter.unusedSimpArgs false

theorem tidy_rgoN : ∀ (Q P : List Nat), (∀ k (h : k < Q.length), Q[k] ≤ nxt (P ++ Q) (P.length + k)) → rgo ((nxt P P.length : Nat) : Int) (natN Q) = true
  | [], _, _ => rfl
  | y :: Q, P, h => by
    have e0 : nxt (P ++ y :: Q) P.length = nxt P P.length := nxt_take _ _ _ fun j hj => List.getElem?_append_left hj
    have h0 := h 0 (by simp)
    simp only [List.getElem_cons_zero, Nat.add_zero] at h0
    rw [e0] at h0
    have hn : nxt (P ++ [y]) (P ++ [y]).length = if y = nxt P P.length then nxt P P.length + 1 else nxt P P.length := by
      rw [List.length_append, List.length_singleton]
      have e1 : nxt (P ++ [y]) P.length = nxt P P.length := nxt_take _ _ _ fun j hj => List.getElem?_append_left hj
      show (if (P ++ [y])[P.length]? = some (nxt (P ++ [y]) P.length) then nxt (P ++ [y]) P.length + 1 else nxt (P ++ [y]) P.length) = _
      rw [e1, List.getElem?_append_right (Nat.le_refl _), Nat.sub_self]
      by_cases hy : y = nxt P P.length
      · rw [if_pos hy]; rw [if_pos (by simp [← hy])]
      · rw [if_neg hy, if_neg (by simpa using hy)]
    have ih := tidy_rgoN Q (P ++ [y]) fun k hk => by
      have := h (k + 1) (by simpa using hk)
      simp only [List.getElem_cons_succ] at this
      rw [List.length_append, List.length_singleton, List.append_assoc]
      rw [show P.length + (k + 1) = P.length + 1 + k by omega] at this
      exact this
    rw [hn] at ih
    show rgo _ ((y : Int) :: natN Q) = true
    unfold rgo
    rw [if_neg (by omega)]
    by_cases hy : y = nxt P P.length
    · rw [if_pos hy] at ih; rw [if_pos (by omega)]; exact ih
    · rw [if_neg hy] at ih; rw [if_neg (by omega)]; exact ih
theorem tidy_rightN {n : Nat} {p : List Nat} (h : Tidy p) (hl : p.length = n) : rightB (n : Int) (natN p) = true := by
  have := tidy_rgoN p [] (fun k hk => by have := h k hk; simpa using this)
  unfold rightB
  rw [show rgo 0 (natN p) = true from this, natN_len, hl]; simp

theorem lcnt_rightN {n : Nat} {l : List Arc} {L : List Int} (hg : (gcheck (n : Int) l).2 = 0) (hR : rightB (n : Int) L = true) : lcount (n : Int) l L = ((cutN n l L : Int), 0) := by
  unfold lcount
  rw [if_neg (by rw [hg]; simp), if_neg (by rw [hR]; simp)]
  rfl
theorem keepA_nil (l : List Arc) : keepA [] l = l := by
  unfold keepA; rw [List.filter_eq_self]; intro a _; simp
theorem frag_nil {n : Nat} {l : List Arc} (hg : (gcheck (n : Int) l).2 = 0) : fragE (n : Int) l [] = 0 := by
  unfold fragE; rw [if_neg (by rw [hg]; simp), if_neg (by simp)]; rfl
theorem natN_at {p : List Nat} {u : Int} (h : u.toNat < p.length) : (ints (natN p))[u.toNat]? = some (.int .i64 (p[u.toNat] : Int)) := by
  simp [ints, natN, h]
/-- Pairs between fragments are marked. -/
theorem between_marked {n : Nat} {l : List Arc} {M : List Pr} {p : List Nat} (hg : (gcheck (n : Int) l).2 = 0) (hp : IsParts n (ends2 (keepA M l)) p) {q : Pr} (hq : q ∈ prs n l) (h1 : q.1.toNat < p.length) (h2 : q.2.toNat < p.length) (hne : p[q.1.toNat] ≠ p[q.2.toNat]) : q ∈ M :=
  Classical.byContradiction fun hm => hne ((hp.conn _ _ h1 h2).2 (keepA_edge hg hq hm))

set_option maxRecDepth 100000 in
set_option maxHeartbeats 4000000 in
theorem Pairs_spec (N : Int) (A : Option Addr) (l : List Arc) (cap : Nat) (w : World) (hr : Ro (Fr w []) w A (l.flatMap arcCs)) (hl : l.length ≤ 9223372036854775807) (hN : I64 N) (hok : ∀ x ∈ l, ArcOk x) :
    Meets Try.prog 24 [.agg #[.int .i64 N, .slice A l.length cap]] w [] (fun u own' => if (gcheck N l).2 = 0 then ∃ A' m' c, u = .tuple #[.slice A' (prs N.toNat l).length (prs N.toNat l).length, .int .i64 0] ∧ own' = [m'] ∧ Own 47 2 (.slice A' (prs N.toNat l).length c) (prs N.toNat l).length ((prs N.toNat l).flatMap prCs) m' else u = .tuple #[.slice none 0 0, .int .i64 (gcheck N l).2] ∧ own' = []) := by
 refine f_enter Try.func24 rfl Try.ntmps24 rfl Owns.nil ?_
 refine f_seq fun K1 kh1 => ?_
 refine f_region ?_
 refine f_step rfl rfl rfl (o_box rfl rfl fun b1 => ?_)
 refine f_stepP rfl rfl rfl (o_assign rfl) ?_
 refine f_stepP rfl rfl rfl (o_assign rfl) ?_
 refine f_done ?_
 refine f_tn (kh1 _ _ ?_)
 clear kh1
 refine f_seq fun K2 kh2 => ?_
 refine f_seq fun K3 kh3 => ?_
 refine f_region ?_
 refine f_stepP rfl rfl rfl (o_loadA (vs := [_, _]) Try.isAgg24 Try.sizeOf24 rfl rfl ⟨(rdA rfl), (rdA rfl), trivial⟩) ?_
 refine f_step rfl rfl rfl (o_call Try.call37 rfl (fun w_ hp_ => Check_spec N A l cap w_ (hr.up0 hp_) hl hN hok) ?_)
 rintro _ _ ⟨rfl, rfl⟩
 dsimp only [List.cons_append, List.nil_append]
 refine f_stepP rfl rfl rfl (o_move rfl) ?_
 refine f_stepP rfl rfl rfl (o_extract rfl rfl) ?_
 refine f_stepP rfl rfl rfl (o_extract rfl rfl) ?_
 refine f_stepP rfl rfl rfl (o_assign rfl) ?_
 refine f_stepP rfl rfl rfl (o_assign rfl) ?_
 refine f_done ?_
 refine f_tn (kh3 _ _ ?_)
 clear kh3
 refine f_seq fun K4 kh4 => ?_
 refine f_region ?_
 refine f_stepP rfl rfl rfl (o_move rfl) ?_
 refine f_stepP rfl rfl rfl (o_neq rfl rfl) ?_
 refine f_done ?_
 refine f_tn (kh4 _ _ ?_)
 clear kh4
 refine f_cond rfl (fun c12 => ?_) (fun c12 => ?_)
 ·
  refine f_seq fun K5 kh5 => ?_
  refine f_region ?_
  refine f_stepP rfl rfl rfl (o_move rfl) ?_
  refine f_stepP rfl rfl rfl (o_assign rfl) ?_
  refine f_stepP rfl rfl rfl (o_assign rfl) ?_
  refine f_done ?_
  refine f_tn (kh5 _ _ ?_)
  clear kh5
  refine f_ret ?_
  refine f_tr ?_
  exact f_fin2 [] Try.results24 rfl rfl Sub.nil (by rw [if_neg c12]; exact ⟨rfl, rfl⟩)
 ·
  have hg : (gcheck N l).2 = 0 := by simpa using c12
  obtain ⟨n, rfl⟩ : ∃ n : Nat, N = (n : Int) := ⟨N.toNat, by have := gcheck_zero hg; omega⟩
  refine f_skip ?_
  refine f_tn (kh2 _ _ ?_)
  clear kh2
  refine f_seq fun K6 kh6 => ?_
  refine f_region ?_
  refine f_stepP rfl rfl rfl (o_loadA (vs := [_, _]) Try.isAgg24 Try.sizeOf24 rfl rfl ⟨(rdA rfl), (rdA rfl), trivial⟩) ?_
  refine f_step rfl rfl rfl (o_call Try.call29 rfl (fun w_ hp_ => pairs_spec n A l cap w_ (hr.up0 hp_) hg) ?_)
  rintro _ _ ⟨A', m', rfl, rfl, c', hO⟩
  dsimp only [List.cons_append, List.nil_append]
  refine f_stepP rfl rfl rfl (o_assign rfl) ?_
  refine f_stepP rfl rfl rfl (o_assign rfl) ?_
  refine f_done ?_
  refine f_tn (kh6 _ _ ?_)
  clear kh6
  refine f_ret ?_
  exact f_fin2 [m'] Try.results24 rfl rfl (by repeat (first | exact Sub.nil | refine Sub.pick ?_ | refine Sub.castO rfl ?_)) (by rw [if_pos hg, Int.toNat_natCast]; exact ⟨A', m', c', rfl, rfl, hO⟩)

set_option maxRecDepth 100000 in
set_option maxHeartbeats 4000000 in
theorem SamePairs_spec (A B : Option Addr) (l r : List Pr) (ca cb : Nat) (w : World) (hl : Ro (Fr w []) w A (l.flatMap prCs)) (hr : Ro (Fr w []) w B (r.flatMap prCs)) (hm : l.length ≤ 9223372036854775807) :
    Meets Try.prog 13 [.slice A l.length ca, .slice B r.length cb] w [] (fun u m => u = .bool (decide (l = r)) ∧ m = []) := by
 refine f_enter Try.func13 rfl Try.ntmps13 rfl Owns.nil ?_
 refine f_seq fun K1 kh1 => ?_
 refine f_region ?_
 refine f_stepP rfl rfl rfl (o_assign rfl) ?_
 refine f_done ?_
 refine f_tn (kh1 _ _ ?_)
 clear kh1
 refine f_seq fun K2 kh2 => ?_
 refine f_seq fun K3 kh3 => ?_
 refine f_region ?_
 refine f_stepP rfl rfl rfl (o_move rfl) ?_
 refine f_stepP rfl rfl rfl (o_len sl28 rfl) ?_
 refine f_stepP rfl rfl rfl (o_move rfl) ?_
 refine f_stepP rfl rfl rfl (o_len sl28 rfl) ?_
 refine f_stepP rfl rfl rfl (o_neq rfl rfl) ?_
 refine f_done ?_
 refine f_tn (kh3 _ _ ?_)
 clear kh3
 refine f_cond rfl (fun c10 => ?_) (fun c10 => ?_)
 ·
  refine f_seq fun K4 kh4 => ?_
  refine f_region ?_
  refine f_stepP rfl rfl rfl (o_assign rfl) ?_
  refine f_done ?_
  refine f_tn (kh4 _ _ ?_)
  clear kh4
  refine f_ret ?_
  refine f_tr ?_
  exact f_fin1 [] Try.results13 rfl Sub.nil ⟨by rw [decide_eq_false]; intro e; subst e; omega, rfl⟩
 ·
  have hlr : l.length = r.length := by omega
  refine f_skip ?_
  refine f_tn (kh2 _ _ ?_)
  clear kh2
  refine f_seq fun K5 kh5 => ?_
  refine f_seq fun K6 kh6 => ?_
  refine f_region ?_
  refine f_stepP rfl rfl rfl (o_assign rfl) ?_
  refine f_done ?_
  refine f_tn (kh6 _ _ ?_)
  clear kh6
  refine f_block ?_
  refine f_loopK (α := Nat) [0, 1] (fun k => [(5, .int .i64 (k : Int))]) (fun k => k ≤ l.length ∧ ∀ j (a : j < l.length) (b : j < r.length), j < k → l[j] = r[j]) (fun k => l.length - k) (0) ?_ ?_ ?_
  · exact (by repeat (first | exact trivial | refine ⟨rfl, ?_⟩))
  · exact ⟨by omega, fun j _ _ hj => by omega⟩
  ·
   rintro k ⟨hkl, hpre⟩
   refine f_seq fun K7 kh7 => ?_
   refine f_seq fun K8 kh8 => ?_
   refine f_region ?_
   refine f_stepP rfl rfl rfl (o_move rfl) ?_
   refine f_stepP rfl rfl rfl (o_move rfl) ?_
   refine f_stepP rfl rfl rfl (o_len sl28 rfl) ?_
   refine f_stepP rfl rfl rfl (o_lss rfl rfl) ?_
   refine f_done ?_
   refine f_tn (kh8 _ _ ?_)
   clear kh8
   refine f_cond rfl (fun c14 => ?_) (fun c14 => ?_)
   ·
    refine f_skip ?_
    refine f_tn (kh7 _ _ ?_)
    clear kh7
    refine f_seq fun K9 kh9 => ?_
    refine f_block ?_
    refine f_seq fun K10 kh10 => ?_
    refine f_regionS rfl (by decide +kernel) ?_
    have hk : k < l.length := by omega
    have hk' : k < r.length := by omega
    obtain ⟨b1, o1, rfl, hS1, hc1⟩ := hl (flat_ne prCs prCs_len (by omega) hk)
    obtain ⟨b2, o2, rfl, hS2, hc2⟩ := hr (flat_ne prCs prCs_len (by omega) hk')
    refine f_stillP rfl rfl rfl (o_move rfl) ?_
    refine f_stillP rfl rfl rfl (o_move rfl) ?_
    refine f_stillP rfl rfl rfl (o_idx sl28 rfl rfl (o1 + k * 2) ⟨by omega, by omega, by first | omega | (simp; done) | (simp; omega)⟩) ?_
    refine f_stillP rfl rfl rfl (o_loadA (vs := prCs l[k]) Try.isAgg47 Try.sizeOf47 rfl rfl (roElem prCs_len hS1 hc1 hk)) ?_
    refine f_stillP rfl rfl rfl (o_move rfl) ?_
    refine f_stillP rfl rfl rfl (o_move rfl) ?_
    refine f_stillP rfl rfl rfl (o_idx sl28 rfl rfl (o2 + k * 2) ⟨by omega, by omega, by first | omega | (simp; done) | (simp; omega)⟩) ?_
    refine f_stillP rfl rfl rfl (o_loadA (vs := prCs r[k]) Try.isAgg47 Try.sizeOf47 rfl rfl (roElem prCs_len hS2 hc2 hk')) ?_
    refine f_stillP rfl rfl rfl (o_neqA Try.eqGuardType47 (eqPr l[k] r[k]) rfl rfl) ?_
    refine f_stillD ?_
    refine f_tn (kh10 _ _ ?_)
    clear kh10
    refine f_cond rfl (fun c25 => ?_) (fun c25 => ?_)
    ·
     refine f_seq fun K11 kh11 => ?_
     refine f_region ?_
     refine f_stepP rfl rfl rfl (o_assign rfl) ?_
     refine f_done ?_
     refine f_tn (kh11 _ _ ?_)
     clear kh11
     refine f_ret ?_
     refine f_br ?_
     refine f_tr ?_
     refine f_tr ?_
     refine f_br ?_
     refine f_tr ?_
     exact f_fin1 [] Try.results13 rfl Sub.nil ⟨by rw [decide_eq_false]; exact ne_at hk hk' c25, rfl⟩
    ·
     refine f_skip ?_
     refine f_bn ?_
     refine f_tn (kh9 _ _ ?_)
     clear kh9
     refine f_region ?_
     refine f_stepP rfl rfl rfl (o_move rfl) ?_
     refine f_stepP rfl rfl rfl (o_add rfl rfl _ (wrap_i64 (by omega))) ?_
     refine f_stepP rfl rfl rfl (o_assign rfl) ?_
     refine f_done ?_
     refine f_tn (f_again (k + 1) (by first | omega | (dsimp only; omega) | (simp; omega)) ⟨by omega, prefix_next hlr hk hpre (by simpa using c25)⟩ ?_ ?_ ?_)
     · exact (by repeat (first | exact trivial | refine ⟨rfl, ?_⟩))
     · exact (by repeat (first | exact trivial | refine ⟨rfl, ?_⟩))
     · repeat (first | exact Sub.nil | refine Sub.pick ?_ | refine Sub.castO rfl ?_ | refine Sub.skip ?_)
   ·
    refine f_exit ?_
    refine f_te ?_
    clear kh7
    refine f_te ?_
    refine f_be ?_
    refine f_tn (kh5 _ _ ?_)
    clear kh5
    refine f_seq fun K12 kh12 => ?_
    refine f_region ?_
    refine f_stepP rfl rfl rfl (o_assign rfl) ?_
    refine f_done ?_
    refine f_tn (kh12 _ _ ?_)
    clear kh12
    refine f_ret ?_
    exact f_fin1 [] Try.results13 rfl Sub.nil ⟨by rw [decide_eq_true]; exact prefix_all hlr (by omega) hpre, rfl⟩

set_option maxRecDepth 100000 in
set_option maxHeartbeats 4000000 in
theorem NatcutBetween_spec (N : Int) (A : Option Addr) (l : List Arc) (cap : Nat) (B : Option Addr) (cs : List Int) (cb : Nat) (most : Int) (w : World) (hr : Ro (Fr w []) w A (l.flatMap arcCs)) (hl : l.length ≤ 9223372036854775807) (hN : I64 N) (hok : ∀ x ∈ l, ArcOk x) (hC : Ro (Fr w []) w B (ints cs)) (hcm : cs.length ≤ 9223372036854775807) :
    Meets Try.prog 7 [.agg #[.int .i64 N, .slice A l.length cap], .slice B cs.length cb, .int .i64 most] w [] (fun u m => u = .bool true ∧ m = []) := by
 refine f_enter Try.func7 rfl Try.ntmps7 rfl Owns.nil ?_
 refine f_seq fun K1 kh1 => ?_
 refine f_region ?_
 refine f_step rfl rfl rfl (o_box rfl rfl fun b3 => ?_)
 refine f_stepP rfl rfl rfl (o_assign rfl) ?_
 refine f_done ?_
 refine f_tn (kh1 _ _ ?_)
 clear kh1
 refine f_seq fun K2 kh2 => ?_
 refine f_seq fun K3 kh3 => ?_
 refine f_region ?_
 refine f_step rfl rfl rfl (o_call Try.call9 rfl (fun w_ hp_ => works_spec w_) ?_)
 rintro _ _ ⟨rfl, rfl⟩
 dsimp only [List.cons_append, List.nil_append]
 refine f_stepP rfl rfl rfl (o_not rfl) ?_
 refine f_done ?_
 refine f_tn (kh3 _ _ ?_)
 clear kh3
 refine f_condF rfl ?_
 refine f_skip ?_
 refine f_tn (kh2 _ _ ?_)
 clear kh2
 refine f_seq fun K4 kh4 => ?_
 refine f_seq fun K5 kh5 => ?_
 refine f_region ?_
 refine f_stepP rfl rfl rfl (o_loadA (vs := [_, _]) Try.isAgg24 Try.sizeOf24 rfl rfl ⟨(rdA rfl), (rdA rfl), trivial⟩) ?_
 refine f_step rfl rfl rfl (o_call Try.call19 rfl (fun w_ hp_ => large_spec N A l cap w_ (hr.up0 hp_) hl hN hok) ?_)
 rintro _ _ ⟨bL, rfl, rfl⟩
 dsimp only [List.cons_append, List.nil_append]
 refine f_stepP rfl rfl rfl (o_move rfl) ?_
 refine f_splitLB 28 rfl (fun g28 => ?_) (fun g28 => ?_)
 ·
  refine f_stepN rfl rfl rfl rfl rfl rfl ?_
  refine f_stepN rfl rfl rfl rfl rfl rfl ?_
  refine f_stepN rfl rfl rfl rfl rfl rfl ?_
  refine f_stepP rfl rfl rfl (o_pickT rfl rfl) ?_
  refine f_done ?_
  refine f_tn (kh5 _ _ ?_)
  clear kh5
  refine f_condT rfl ?_
  refine f_seq fun K6 kh6 => ?_
  refine f_region ?_
  refine f_stepP rfl rfl rfl (o_assign rfl) ?_
  refine f_done ?_
  refine f_tn (kh6 _ _ ?_)
  clear kh6
  refine f_ret ?_
  refine f_tr ?_
  exact f_fin1 [] Try.results7 rfl Sub.nil ⟨rfl, rfl⟩
 ·
  refine f_stepPY rfl rfl rfl rfl rfl (o_move rfl) ?_
  refine f_stepPY rfl rfl rfl rfl rfl (o_len sl35 rfl) ?_
  refine f_stepPY rfl rfl rfl rfl rfl (o_gtr rfl rfl) ?_
  refine f_stepP rfl rfl rfl (o_pickF rfl rfl) ?_
  refine f_done ?_
  refine f_tn (kh5 _ _ ?_)
  clear kh5
  refine f_cond rfl (fun c32 => ?_) (fun c32 => ?_)
  ·
   refine f_seq fun K7 kh7 => ?_
   refine f_region ?_
   refine f_stepP rfl rfl rfl (o_assign rfl) ?_
   refine f_done ?_
   refine f_tn (kh7 _ _ ?_)
   clear kh7
   refine f_ret ?_
   refine f_tr ?_
   exact f_fin1 [] Try.results7 rfl Sub.nil ⟨rfl, rfl⟩
  ·
   refine f_skip ?_
   refine f_tn (kh4 _ _ ?_)
   clear kh4
   refine f_seq fun K8 kh8 => ?_
   refine f_region ?_
   refine f_stepP rfl rfl rfl (o_loadA (vs := [_, _]) Try.isAgg24 Try.sizeOf24 rfl rfl ⟨(rdA rfl), (rdA rfl), trivial⟩) ?_
   refine f_stepP rfl rfl rfl (o_move rfl) ?_
   refine f_stepP rfl rfl rfl (o_move rfl) ?_
   refine f_step rfl rfl rfl (o_call Try.call23 rfl (fun w_ hp_ => Marks_spec N A B l cap cs cb most w_ (hr.up0 hp_) hl hN hok (hC.up0 hp_) hcm) ?_)
   rintro _ _ ⟨M, AM, cM, mM, rfl, rfl, hoM, hMe, hM0⟩
   dsimp only [List.cons_append, List.nil_append]
   refine f_stepP rfl rfl rfl (o_move rfl) ?_
   refine f_stepP rfl rfl rfl (o_extract rfl rfl) ?_
   refine f_stepP rfl rfl rfl (o_extract rfl rfl) ?_
   refine f_stepP rfl rfl rfl (o_assign rfl) ?_
   refine f_stepP rfl rfl rfl (o_assign rfl) ?_
   refine f_done ?_
   refine f_tn (kh8 _ _ ?_)
   clear kh8
   refine f_seq fun K9 kh9 => ?_
   refine f_seq fun K10 kh10 => ?_
   refine f_region ?_
   refine f_stepP rfl rfl rfl (o_move rfl) ?_
   refine f_stepP rfl rfl rfl (o_neq rfl rfl) ?_
   refine f_done ?_
   refine f_tn (kh10 _ _ ?_)
   clear kh10
   refine f_cond rfl (fun c41 => ?_) (fun c41 => ?_)
   ·
    have hMe' : mkE N l cs most ≠ 0 := by simpa using c41
    obtain rfl := hMe hMe'
    refine f_seq fun K11 kh11 => ?_
    refine f_region ?_
    refine f_stepP rfl rfl rfl (o_move rfl) ?_
    refine f_stepP rfl rfl rfl (o_len sl28 rfl) ?_
    refine f_stepP rfl rfl rfl (o_eql rfl rfl) ?_
    refine f_stepP rfl rfl rfl (o_assign rfl) ?_
    refine f_done ?_
    refine f_tn (kh11 _ _ ?_)
    clear kh11
    refine f_ret ?_
    refine f_tr ?_
    exact f_fin1 [] Try.results7 rfl Sub.nil ⟨by simp, rfl⟩
   ·
    have hz : mkE N l cs most = 0 := by simpa using c41
    obtain ⟨hMs, hMO⟩ := hM0 hz
    have hg' := mk_good hz
    obtain ⟨hg1, hg2, hl8, hgd⟩ := gcheck_zero hg'
    obtain ⟨n, rfl⟩ : ∃ n : Nat, N = (n : Int) := ⟨N.toNat, by omega⟩
    have hg : (gcheck (n : Int) l).2 = 0 := hg'
    rw [Int.toNat_natCast] at hMO
    have hMp := out_sub hMO
    have hM8 := Nat.le_trans (List.Nodup.length_le_of_subset (nodup_X hMs) hMp) (prs_len8 hg)
    have hfr := frag_zero hg hMp (by omega)
    have hMf := marks_filter hMs hMp
    have hM64 : ∀ p ∈ M, I64 p.1 ∧ I64 p.2 := fun p hp => by
      have := prs_rng (hMp p hp)
      unfold I64; omega
    refine f_skip ?_
    refine f_tn (kh9 _ _ ?_)
    clear kh9
    refine f_seq fun K12 kh12 => ?_
    refine f_region ?_
    refine f_stepP rfl rfl rfl (o_loadA (vs := [_, _]) Try.isAgg24 Try.sizeOf24 rfl rfl ⟨(rdA rfl), (rdA rfl), trivial⟩) ?_
    refine f_stepP rfl rfl rfl (o_move rfl) ?_
    refine f_step rfl rfl rfl (o_call Try.call15 rfl (fun w_ hp_ => Fragments_spec (n : Int) A AM l cap M M.length w_ (hr.up0 hp_) hl hN hok (seen_ro (hoM.seen hp_)) (by omega) hM64) ?_)
    rintro _ _ ⟨P, AP, cP, mP, rfl, rfl, hoP, hP0, _⟩
    obtain ⟨p, rfl, hp⟩ := hP0 hfr
    rw [Int.toNat_natCast] at hp
    have hpl := hp.len
    rw [hfr]
    dsimp only [List.cons_append, List.nil_append]
    refine f_stepP rfl rfl rfl (o_move rfl) ?_
    refine f_stepP rfl rfl rfl (o_extract rfl rfl) ?_
    refine f_stepP rfl rfl rfl (o_extract rfl rfl) ?_
    refine f_stepP rfl rfl rfl (o_assign rfl) ?_
    refine f_stepP rfl rfl rfl (o_assign rfl) ?_
    refine f_done ?_
    refine f_tn (kh12 _ _ ?_)
    clear kh12
    refine f_seq fun K13 kh13 => ?_
    refine f_region ?_
    refine f_stepP rfl rfl rfl (o_loadA (vs := [_, _]) Try.isAgg24 Try.sizeOf24 rfl rfl ⟨(rdA rfl), (rdA rfl), trivial⟩) ?_
    refine f_step rfl rfl rfl (o_call Try.call24 rfl (fun w_ hp_ => Pairs_spec (n : Int) A l cap w_ (hr.up0 hp_) hl hN hok) ?_)
    rintro _ own47 hq47
    rw [if_pos hg, Int.toNat_natCast] at hq47
    obtain ⟨Ap, mp, cp, rfl, rfl, hop⟩ := hq47
    have hpl8 := prs_len8 hg
    dsimp only [List.cons_append, List.nil_append]
    refine f_stepP rfl rfl rfl (o_move rfl) ?_
    refine f_stepP rfl rfl rfl (o_extract rfl rfl) ?_
    refine f_stepP rfl rfl rfl (o_extract rfl rfl) ?_
    refine f_stepP rfl rfl rfl (o_assign rfl) ?_
    refine f_stepP rfl rfl rfl (o_assign rfl) ?_
    refine f_done ?_
    refine f_tn (kh13 _ _ ?_)
    clear kh13
    refine f_seq fun K14 kh14 => ?_
    refine f_seq fun K15 kh15 => ?_
    refine f_region ?_
    refine f_stepP rfl rfl rfl (o_move rfl) ?_
    refine f_stepP rfl rfl rfl (o_neq rfl rfl) ?_
    refine f_stepP rfl rfl rfl (o_move rfl) ?_
    refine f_falseL 58 rfl (by simp) ?_
    refine f_stepPY rfl rfl rfl rfl rfl (o_move rfl) ?_
    refine f_stepPY rfl rfl rfl rfl rfl (o_neq rfl rfl) ?_
    refine f_stepP rfl rfl rfl (o_pickF rfl rfl) ?_
    refine f_done ?_
    refine f_tn (kh15 _ _ ?_)
    clear kh15
    refine f_condN rfl (by simp) ?_
    refine f_skip ?_
    refine f_tn (kh14 _ _ ?_)
    clear kh14
    refine f_seq fun K16 kh16 => ?_
    refine f_region ?_
    refine f_stepP rfl rfl rfl (o_assign rfl) ?_
    refine f_stepP rfl rfl rfl (o_assign rfl) ?_
    refine f_done ?_
    refine f_tn (kh16 _ _ ?_)
    clear kh16
    refine f_seq fun K17 kh17 => ?_
    refine f_seq fun K18 kh18 => ?_
    refine f_reC 13 rfl (v := .int .i64 ((((prs n l).take 0).filter fun p => decide (p ∈ M)).length : Int)) rfl ?_
    refine f_reC 14 rfl (v := .int .i64 ((((prs n l).take 0).filter (apart (natN p))).length : Int)) rfl ?_
    refine f_region ?_
    refine f_stepP rfl rfl rfl (o_move rfl) ?_
    refine f_stepP rfl rfl rfl (o_len sl28 rfl) ?_
    refine f_stepP rfl rfl rfl (o_move rfl) ?_
    refine f_done ?_
    refine f_tn (kh18 _ _ ?_)
    clear kh18
    refine f_block ?_
    refine f_loop (α := Nat) [3, 7, 9, 62, 63] (fun k => [(64, .int .i64 (k : Int)), (13, .int .i64 ((((prs n l).take k).filter fun p => decide (p ∈ M)).length : Int)), (14, .int .i64 ((((prs n l).take k).filter (apart (natN p))).length : Int))]) (fun k => [mP, mM, mp, [(b3, blk [.int .i64 (n : Int), .slice A l.length cap] 24)]]) (fun k => k ≤ (prs n l).length) (fun k => (prs n l).length - k) (0) ?_ ?_ ?_ ?_
    · exact (by repeat (first | exact trivial | refine ⟨rfl, ?_⟩))
    · repeat (first | exact Sub.nil | refine Sub.pick ?_ | refine Sub.castO rfl ?_ | refine Sub.skip ?_)
    · exact Nat.zero_le _
    ·
     rintro k hkl
     have hf1 : (((prs n l).take k).filter fun p => decide (p ∈ M)).length ≤ k := Nat.le_trans (List.length_filter_le _ _) (by rw [List.length_take]; omega)
     have hf2 : (((prs n l).take k).filter (apart (natN p))).length ≤ k := Nat.le_trans (List.length_filter_le _ _) (by rw [List.length_take]; omega)
     refine f_seq fun K19 kh19 => ?_
     refine f_region ?_
     refine f_stepP rfl rfl rfl (o_lss rfl rfl) ?_
     refine f_done ?_
     refine f_tn (kh19 _ _ ?_)
     clear kh19
     refine f_seq fun K20 kh20 => ?_
     refine f_cond rfl (fun c65 => ?_) (fun c65 => ?_)
     ·
      have hk : k < (prs n l).length := by omega
      obtain ⟨bp, spp, rfl, rfl⟩ := hop.at_ (by omega)
      have hqm := List.getElem_mem hk
      have hpr := prs_rng hqm
      obtain ⟨hat1, hat2⟩ := mark_at hMf hk
      have hu1 : (prs n l)[k].1.toNat < p.length := by omega
      have hu2 : (prs n l)[k].2.toNat < p.length := by omega
      obtain ⟨bP, sP, rfl, rfl⟩ := hoP.at_ (by rw [natN_len]; omega)
      have hap : apart (natN p) (prs n l)[k] = decide (p[(prs n l)[k].1.toNat] ≠ p[(prs n l)[k].2.toNat]) := by unfold apart natN; simp [List.getD_eq_getElem?_getD, hu1, hu2]; omega
      have hnlen := natN_len p
      refine f_skip ?_
      refine f_tn (kh20 _ _ ?_)
      clear kh20
      refine f_seq fun K21 kh21 => ?_
      refine f_block ?_
      refine f_seq fun K22 kh22 => ?_
      refine f_region ?_
      refine f_stepP rfl rfl rfl (o_idx sl28 rfl rfl (k * 2) ⟨by omega, by omega, by first | omega | (simp; done) | (simp; omega)⟩) ?_
      refine f_stepP rfl rfl rfl (o_loadA (vs := prCs (prs n l)[k]) Try.isAgg47 Try.sizeOf47 rfl rfl (rdsOwn prCs_len hk)) ?_
      refine f_step rfl rfl rfl (o_alloc Try.zeroValue47 rfl fun b16 => ?_)
      refine f_step0 rfl rfl (o_storeA Try.sizeOf47 rfl rfl rfl rfl (by first | exact Nat.le_of_ble_eq_true rfl | (simp; done) | (simp; omega)) (prCs (prs n l)[k]) rfl ?_)
      refine f_done ?_
      refine f_tn (kh22 _ _ ?_)
      clear kh22
      refine f_meet (α := Unit) [3, 7, 9, 13, 14, 16, 62, 63, 64] (fun _ => [(17, .bool (decide ((prs n l)[k] ∈ M)))]) (fun _ => [[(b16, blk (prCs (prs n l)[k]) 47)], [(bP, blk (ints (natN p) ++ sP) 3)], mM, [(bp, blk ((prs n l).flatMap prCs ++ spp) 47)], [(b3, blk [.int .i64 (n : Int), .slice A l.length cap] 24)]]) (fun _ => True) ?_ ?_
      ·
       intro K23 kh23
       refine f_regionT 12 rfl (by decide +kernel) ?_
       refine f_stillP rfl rfl rfl (o_move rfl) ?_
       refine f_stillP rfl rfl rfl (o_move rfl) ?_
       refine f_stillP rfl rfl rfl (o_len sl28 rfl) ?_
       refine f_stillP rfl rfl rfl (o_lss rfl rfl) ?_
       refine f_stillP rfl rfl rfl (o_move rfl) ?_
       refine f_splitS 72 rfl (fun g72 => ?_) (fun g72 => ?_)
       ·
        have hA : (((prs n l).take k).filter fun p => decide (p ∈ M)).length < M.length := by omega
        obtain ⟨bM, spM, rfl, rfl⟩ := hoM.at_ (by omega)
        refine f_stillPY rfl rfl rfl rfl rfl (o_move rfl) ?_
        refine f_stillPY rfl rfl rfl rfl rfl (o_move rfl) ?_
        refine f_stillPY rfl rfl rfl rfl rfl (o_idx sl28 rfl rfl ((((prs n l).take k).filter fun p => decide (p ∈ M)).length * 2) ⟨by omega, by omega, by first | omega | (simp; done) | (simp; omega)⟩) ?_
        refine f_stillPY rfl rfl rfl rfl rfl (o_loadA (vs := prCs (M[(((prs n l).take k).filter fun p => decide (p ∈ M)).length]'hA)) Try.isAgg47 Try.sizeOf47 rfl rfl (rdsOwn prCs_len hA)) ?_
        refine f_stillPY rfl rfl rfl rfl rfl (o_loadA (vs := prCs (prs n l)[k]) Try.isAgg47 Try.sizeOf47 rfl rfl ⟨(rdA rfl), (rdA rfl), trivial⟩) ?_
        refine f_stillPY rfl rfl rfl rfl rfl (o_eqlA Try.eqGuardType47 (eqPr (M[(((prs n l).take k).filter fun p => decide (p ∈ M)).length]'hA) (prs n l)[k]) rfl rfl) ?_
        refine f_stillP rfl rfl rfl (o_pickT rfl rfl) ?_
        refine f_stillD (f_tail ?_)
        refine f_stepP rfl rfl rfl (o_assign rfl) ?_
        refine f_reL 17 rfl (v := .bool (decide ((prs n l)[k] ∈ M))) (by rw [List.getElem?_eq_getElem hA] at hat2; congr 1; rw [decide_eq_decide]; exact ⟨fun h => by simpa using hat2.2 (by rw [h]), fun h => Option.some.inj (hat2.1 (by simpa using h))⟩) ?_
        refine f_done ?_
        refine f_tn (kh23 _ _ (()) trivial ?_ ?_ ?_)
        · exact (by repeat (first | exact trivial | refine ⟨rfl, ?_⟩))
        · exact (by repeat (first | exact trivial | refine ⟨rfl, ?_⟩))
        · repeat (first | exact Sub.nil | refine Sub.pick ?_ | refine Sub.castO rfl ?_ | refine Sub.skip ?_)
       ·
        refine f_stillN rfl rfl rfl rfl rfl rfl ?_
        refine f_stillN rfl rfl rfl rfl rfl rfl ?_
        refine f_stillN rfl rfl rfl rfl rfl rfl ?_
        refine f_stillN rfl rfl rfl rfl rfl rfl ?_
        refine f_stillN rfl rfl rfl rfl rfl rfl ?_
        refine f_stillN rfl rfl rfl rfl rfl rfl ?_
        refine f_stillP rfl rfl rfl (o_pickF rfl rfl) ?_
        refine f_stillD (f_tail ?_)
        refine f_stepP rfl rfl rfl (o_assign rfl) ?_
        refine f_reL 17 rfl (v := .bool (decide ((prs n l)[k] ∈ M))) (by congr 1; symm; rw [decide_eq_false_iff_not]; intro h; have h2 := hat2.1 (by simpa using h); have h3 := (List.getElem?_eq_some_iff.1 h2).1; omega) ?_
        refine f_done ?_
        refine f_tn (kh23 _ _ (()) trivial ?_ ?_ ?_)
        · exact (by repeat (first | exact trivial | refine ⟨rfl, ?_⟩))
        · exact (by repeat (first | exact trivial | refine ⟨rfl, ?_⟩))
        · repeat (first | exact Sub.nil | refine Sub.pick ?_ | refine Sub.castO rfl ?_ | refine Sub.skip ?_)
      ·
       rintro ⟨⟩ _
       refine f_seq fun K24 kh24 => ?_
       refine f_seq fun K25 kh25 => ?_
       refine f_region ?_
       refine f_stepP rfl rfl rfl (o_move rfl) ?_
       refine f_done ?_
       refine f_tn (kh25 _ _ ?_)
       clear kh25
       refine f_condB rfl (fun c80 => ?_) (fun c80 => ?_)
       ·
        have hin : (prs n l)[k] ∈ M := by simpa using c80
        have hnx1 := filt_len_yes (q := fun p => decide (p ∈ M)) hk (by simpa using hin)
        refine f_reC 17 rfl (v := .bool true) (by rw [decide_eq_true hin]) ?_
        refine f_region ?_
        refine f_stepP rfl rfl rfl (o_move rfl) ?_
        refine f_stepP rfl rfl rfl (o_add rfl rfl _ (Eq.trans (wrap_i64 (by omega)) (show _ = ((((prs n l).take (k + 1)).filter fun p => decide (p ∈ M)).length : Int) by omega))) ?_
        refine f_stepP rfl rfl rfl (o_assign rfl) ?_
        refine f_done ?_
        refine f_tn (kh24 _ _ ?_)
        clear kh24
        refine f_seq fun K26 kh26 => ?_
        refine f_regionS rfl (by decide +kernel) ?_
        refine f_stillP rfl rfl rfl (o_move rfl) ?_
        refine f_stillP rfl rfl rfl (o_field fa47_0 rfl) ?_
        refine f_stillP rfl rfl rfl (o_load Try.isAgg3 rfl (rdA rfl)) ?_
        refine f_stillP rfl rfl rfl (o_idx sl35 rfl rfl ((prs n l)[k].1.toNat) ⟨by omega, by omega, by first | omega | (simp; done) | (simp; omega)⟩) ?_
        refine f_stillP rfl rfl rfl (o_load Try.isAgg3 rfl (rdA (v := .int .i64 (p[(prs n l)[k].1.toNat] : Int)) (app_get (natN_at hu1)))) ?_
        refine f_stillP rfl rfl rfl (o_move rfl) ?_
        refine f_stillP rfl rfl rfl (o_field fa47_1 rfl) ?_
        refine f_stillP rfl rfl rfl (o_load Try.isAgg3 rfl (rdA rfl)) ?_
        refine f_stillP rfl rfl rfl (o_idx sl35 rfl rfl ((prs n l)[k].2.toNat) ⟨by omega, by omega, by first | omega | (simp; done) | (simp; omega)⟩) ?_
        refine f_stillP rfl rfl rfl (o_load Try.isAgg3 rfl (rdA (v := .int .i64 (p[(prs n l)[k].2.toNat] : Int)) (app_get (natN_at hu2)))) ?_
        refine f_stillP rfl rfl rfl (o_neq rfl rfl) ?_
        refine f_stillD ?_
        refine f_tn (kh26 _ _ ?_)
        clear kh26
        refine f_cond rfl (fun c93 => ?_) (fun c93 => ?_)
        ·
         have hne : p[(prs n l)[k].1.toNat] ≠ p[(prs n l)[k].2.toNat] := by omega
         have hmk := between_marked hg hp hqm hu1 hu2 hne
         have hnx2 := filt_len_yes (q := apart (natN p)) hk (by rw [hap]; simpa using hne)
         refine f_seq fun K27 kh27 => ?_
         refine f_region ?_
         refine f_stepP rfl rfl rfl (o_move rfl) ?_
         refine f_stepP rfl rfl rfl (o_add rfl rfl _ (Eq.trans (wrap_i64 (by omega)) (show _ = ((((prs n l).take (k + 1)).filter (apart (natN p))).length : Int) by omega))) ?_
         refine f_stepP rfl rfl rfl (o_assign rfl) ?_
         refine f_done ?_
         refine f_tn (kh27 _ _ ?_)
         clear kh27
         refine f_seq fun K28 kh28 => ?_
         refine f_region ?_
         refine f_stepP rfl rfl rfl (o_move rfl) ?_
         refine f_stepP rfl rfl rfl (o_not rfl) ?_
         refine f_done ?_
         refine f_tn (kh28 _ _ ?_)
         clear kh28
         refine f_condF rfl ?_
         refine f_skip ?_
         refine f_bn ?_
         refine f_tn (kh21 _ _ ?_)
         clear kh21
         refine f_region ?_
         refine f_stepP rfl rfl rfl (o_add rfl rfl _ (wrap_i64 (by omega))) ?_
         refine f_stepP rfl rfl rfl (o_move rfl) ?_
         refine f_done ?_
         refine f_tn (f_again (k + 1) (by first | omega | (dsimp only; omega) | (simp; omega)) (by omega) ?_ ?_ ?_)
         · exact (by repeat (first | exact trivial | refine ⟨rfl, ?_⟩))
         · exact (by repeat (first | exact trivial | refine ⟨rfl, ?_⟩))
         · repeat (first | exact Sub.nil | refine Sub.pick ?_ | refine Sub.castO rfl ?_ | refine Sub.skip ?_)
        ·
         have hne : p[(prs n l)[k].1.toNat] = p[(prs n l)[k].2.toNat] := by omega
         have hnx2 := filt_len_no (q := apart (natN p)) hk (by rw [hap]; simpa using hne)
         refine f_reC 14 rfl (v := .int .i64 ((((prs n l).take (k + 1)).filter (apart (natN p))).length : Int)) (by rw [hnx2]) ?_
         refine f_skip ?_
         refine f_bn ?_
         refine f_tn (kh21 _ _ ?_)
         clear kh21
         refine f_region ?_
         refine f_stepP rfl rfl rfl (o_add rfl rfl _ (wrap_i64 (by omega))) ?_
         refine f_stepP rfl rfl rfl (o_move rfl) ?_
         refine f_done ?_
         refine f_tn (f_again (k + 1) (by first | omega | (dsimp only; omega) | (simp; omega)) (by omega) ?_ ?_ ?_)
         · exact (by repeat (first | exact trivial | refine ⟨rfl, ?_⟩))
         · exact (by repeat (first | exact trivial | refine ⟨rfl, ?_⟩))
         · repeat (first | exact Sub.nil | refine Sub.pick ?_ | refine Sub.castO rfl ?_ | refine Sub.skip ?_)
       ·
        have hin : (prs n l)[k] ∉ M := by simpa using c80
        have hnx1 := filt_len_no (q := fun p => decide (p ∈ M)) hk (by simpa using hin)
        refine f_reC 17 rfl (v := .bool false) (by rw [decide_eq_false hin]) ?_
        refine f_reC 13 rfl (v := .int .i64 ((((prs n l).take (k + 1)).filter fun p => decide (p ∈ M)).length : Int)) (by rw [hnx1]) ?_
        refine f_skip ?_
        refine f_tn (kh24 _ _ ?_)
        clear kh24
        refine f_seq fun K29 kh29 => ?_
        refine f_regionS rfl (by decide +kernel) ?_
        refine f_stillP rfl rfl rfl (o_move rfl) ?_
        refine f_stillP rfl rfl rfl (o_field fa47_0 rfl) ?_
        refine f_stillP rfl rfl rfl (o_load Try.isAgg3 rfl (rdA rfl)) ?_
        refine f_stillP rfl rfl rfl (o_idx sl35 rfl rfl ((prs n l)[k].1.toNat) ⟨by omega, by omega, by first | omega | (simp; done) | (simp; omega)⟩) ?_
        refine f_stillP rfl rfl rfl (o_load Try.isAgg3 rfl (rdA (v := .int .i64 (p[(prs n l)[k].1.toNat] : Int)) (app_get (natN_at hu1)))) ?_
        refine f_stillP rfl rfl rfl (o_move rfl) ?_
        refine f_stillP rfl rfl rfl (o_field fa47_1 rfl) ?_
        refine f_stillP rfl rfl rfl (o_load Try.isAgg3 rfl (rdA rfl)) ?_
        refine f_stillP rfl rfl rfl (o_idx sl35 rfl rfl ((prs n l)[k].2.toNat) ⟨by omega, by omega, by first | omega | (simp; done) | (simp; omega)⟩) ?_
        refine f_stillP rfl rfl rfl (o_load Try.isAgg3 rfl (rdA (v := .int .i64 (p[(prs n l)[k].2.toNat] : Int)) (app_get (natN_at hu2)))) ?_
        refine f_stillP rfl rfl rfl (o_neq rfl rfl) ?_
        refine f_stillD ?_
        refine f_tn (kh29 _ _ ?_)
        clear kh29
        refine f_cond rfl (fun c93 => ?_) (fun c93 => ?_)
        ·
         exact absurd (between_marked hg hp hqm hu1 hu2 (show p[(prs n l)[k].1.toNat] ≠ p[(prs n l)[k].2.toNat] by omega)) hin -- closed
        ·
         have hne : p[(prs n l)[k].1.toNat] = p[(prs n l)[k].2.toNat] := by omega
         have hnx2 := filt_len_no (q := apart (natN p)) hk (by rw [hap]; simpa using hne)
         refine f_reC 14 rfl (v := .int .i64 ((((prs n l).take (k + 1)).filter (apart (natN p))).length : Int)) (by rw [hnx2]) ?_
         refine f_skip ?_
         refine f_bn ?_
         refine f_tn (kh21 _ _ ?_)
         clear kh21
         refine f_region ?_
         refine f_stepP rfl rfl rfl (o_add rfl rfl _ (wrap_i64 (by omega))) ?_
         refine f_stepP rfl rfl rfl (o_move rfl) ?_
         refine f_done ?_
         refine f_tn (f_again (k + 1) (by first | omega | (dsimp only; omega) | (simp; omega)) (by omega) ?_ ?_ ?_)
         · exact (by repeat (first | exact trivial | refine ⟨rfl, ?_⟩))
         · exact (by repeat (first | exact trivial | refine ⟨rfl, ?_⟩))
         · repeat (first | exact Sub.nil | refine Sub.pick ?_ | refine Sub.castO rfl ?_ | refine Sub.skip ?_)
     ·
      refine f_exit ?_
      refine f_te ?_
      clear kh20
      refine f_te ?_
      refine f_be ?_
      refine f_tn (kh17 _ _ ?_)
      clear kh17
      refine f_seq fun K30 kh30 => ?_
      obtain rfl : k = (prs n l).length := by omega
      rw [List.take_length]
      rw [← hMf]
      refine f_region ?_
      refine f_stepP rfl rfl rfl (o_loadA (vs := [_, _]) Try.isAgg24 Try.sizeOf24 rfl rfl ⟨(rdA rfl), (rdA rfl), trivial⟩) ?_
      refine f_stepP rfl rfl rfl (o_move rfl) ?_
      refine f_step rfl rfl rfl (o_call Try.call25 rfl (fun w_ hp_ => Count_spec (n : Int) A AP l cap (natN p) cP w_ (hr.up0 hp_) hl hN hok (seen_ro (hoP.seen hp_)) (by rw [natN_len]; omega)) ?_)
      rintro _ _ ⟨rfl, rfl⟩
      rw [lcnt_rightN hg (tidy_rightN hp.tidy hp.len)]
      dsimp only [List.cons_append, List.nil_append]
      refine f_stepP rfl rfl rfl (o_move rfl) ?_
      refine f_stepP rfl rfl rfl (o_extract rfl rfl) ?_
      refine f_stepP rfl rfl rfl (o_extract rfl rfl) ?_
      refine f_stepP rfl rfl rfl (o_assign rfl) ?_
      refine f_stepP rfl rfl rfl (o_assign rfl) ?_
      refine f_done ?_
      refine f_tn (kh30 _ _ ?_)
      clear kh30
      refine f_seq fun K31 kh31 => ?_
      refine f_region ?_
      refine f_stepP rfl rfl rfl (o_loadA (vs := [_, _]) Try.isAgg24 Try.sizeOf24 rfl rfl ⟨(rdA rfl), (rdA rfl), trivial⟩) ?_
      refine f_step rfl rfl rfl (o_call Try.call26 rfl (fun w_ hp_ => PartsN_spec (n : Int) A l cap w_ (hr.up0 hp_) hl hN hok) ?_)
      rintro _ _ ⟨P2, AP2, cP2, mP2, rfl, rfl, hoP2, hP02, _⟩
      obtain ⟨p2, rfl, hp2⟩ := hP02 hg
      rw [hg]
      rw [Int.toNat_natCast] at hp2
      have hp2l := hp2.len
      dsimp only [List.cons_append, List.nil_append]
      refine f_stepP rfl rfl rfl (o_move rfl) ?_
      refine f_stepP rfl rfl rfl (o_extract rfl rfl) ?_
      refine f_stepP rfl rfl rfl (o_extract rfl rfl) ?_
      refine f_stepP rfl rfl rfl (o_assign rfl) ?_
      refine f_stepP rfl rfl rfl (o_assign rfl) ?_
      refine f_done ?_
      refine f_tn (kh31 _ _ ?_)
      clear kh31
      refine f_seq fun K32 kh32 => ?_
      refine f_region ?_
      refine f_stepP rfl rfl rfl (o_loadA (vs := [_, _]) Try.isAgg24 Try.sizeOf24 rfl rfl ⟨(rdA rfl), (rdA rfl), trivial⟩) ?_
      refine f_step rfl rfl rfl (o_call Try.call15 rfl (fun w_ hp_ => Fragments_spec (n : Int) A none l cap [] 0 w_ (hr.up0 hp_) hl hN hok Ro.nil (by simp) (fun p hp => by cases hp)) ?_)
      rintro _ _ ⟨P3, AP3, cP3, mP3, rfl, rfl, hoP3, hP03, _⟩
      obtain ⟨p3, rfl, hp3⟩ := hP03 (frag_nil hg)
      rw [Int.toNat_natCast, keepA_nil] at hp3
      obtain rfl : p3 = p2 := hp3.unique hp2 fun _ _ _ _ => Iff.rfl
      rw [frag_nil hg]
      dsimp only [List.cons_append, List.nil_append]
      refine f_stepP rfl rfl rfl (o_move rfl) ?_
      refine f_stepP rfl rfl rfl (o_extract rfl rfl) ?_
      refine f_stepP rfl rfl rfl (o_extract rfl rfl) ?_
      refine f_stepP rfl rfl rfl (o_assign rfl) ?_
      refine f_stepP rfl rfl rfl (o_assign rfl) ?_
      refine f_done ?_
      refine f_tn (kh32 _ _ ?_)
      clear kh32
      refine f_seq fun K33 kh33 => ?_
      refine f_region ?_
      refine f_stepP rfl rfl rfl (o_move rfl) ?_
      refine f_stepP rfl rfl rfl (o_move rfl) ?_
      refine f_stepP rfl rfl rfl (o_len sl28 rfl) ?_
      refine f_stepP rfl rfl rfl (o_eql rfl rfl) ?_
      refine f_stepP rfl rfl rfl (o_move rfl) ?_
      refine f_trueL 119 rfl (rfl) ?_
      refine f_stepPY rfl rfl rfl rfl rfl (o_move rfl) ?_
      refine f_stepPY rfl rfl rfl rfl rfl (o_eql rfl rfl) ?_
      refine f_stepP rfl rfl rfl (o_pickT rfl rfl) ?_
      refine f_stepP rfl rfl rfl (o_move rfl) ?_
      refine f_trueL 123 rfl (rfl) ?_
      refine f_stepPY rfl rfl rfl rfl rfl (o_move rfl) ?_
      refine f_stepPY rfl rfl rfl rfl rfl (o_move rfl) ?_
      refine f_stepPY rfl rfl rfl rfl rfl (o_eql rfl rfl) ?_
      refine f_stepP rfl rfl rfl (o_pickT rfl rfl) ?_
      refine f_stepP rfl rfl rfl (o_move rfl) ?_
      refine f_trueL 128 rfl (rfl) ?_
      refine f_stepPY rfl rfl rfl rfl rfl (o_move rfl) ?_
      refine f_stepPY rfl rfl rfl rfl rfl (o_eql rfl rfl) ?_
      refine f_stepP rfl rfl rfl (o_pickT rfl rfl) ?_
      refine f_stepP rfl rfl rfl (o_move rfl) ?_
      refine f_trueL 132 rfl (rfl) ?_
      refine f_stepPY rfl rfl rfl rfl rfl (o_move rfl) ?_
      refine f_stepPY rfl rfl rfl rfl rfl (o_eql rfl rfl) ?_
      refine f_stepP rfl rfl rfl (o_pickT rfl rfl) ?_
      refine f_stepP rfl rfl rfl (o_move rfl) ?_
      refine f_trueL 136 rfl (rfl) ?_
      refine f_stepPY rfl rfl rfl rfl rfl (o_move rfl) ?_
      refine f_stepPY rfl rfl rfl rfl rfl (o_move rfl) ?_
      refine f_stepY rfl rfl rfl rfl rfl (o_call Try.call17 rfl (fun w_ hp_ => SameInts_spec AP2 AP3 (natN p3) (natN p3) cP2 cP3 w_ (seen_ro (hoP2.seen hp_)) (seen_ro (hoP3.seen hp_)) (by rw [natN_len]; omega)) ?_)
      rintro _ _ ⟨rfl, rfl⟩
      rw [decide_eq_true rfl]
      dsimp only [List.cons_append, List.nil_append]
      refine f_stepP rfl rfl rfl (o_pickT rfl rfl) ?_
      refine f_stepP rfl rfl rfl (o_assign rfl) ?_
      refine f_done ?_
      refine f_tn (kh33 _ _ ?_)
      clear kh33
      refine f_ret ?_
      exact f_fin1 [] Try.results7 rfl Sub.nil ⟨rfl, rfl⟩

end Go.Proofs.Ytbjiejhdgkpjcaa
