import Derived.Test.YtbjiejhdgkpjcaaAll11
import Derived.Test.YtbjiejhdgkpjcaaAll10
import Derived.Test.YtbjiejhdgkpjcaaFlyT
import Derived.Test.YtbjiejhdgkpjcaaFlyR

/- flyoverbook.SamePairs, natcut.Pairs; flyoverlaw08: NatcutBetween. -/
namespace Go.Proofs.Ytbjiejhdgkpjcaa
open Go Go.RowKit Fly
set_option linter.unusedVariables false
set_option linter.unusedSimpArgs false

theorem tidy_rgoN : ∀ (Q P : List Nat), (∀ k (h : k < Q.length), Q[k] ≤ nxt (P ++ Q) (P.length + k)) → rgo ((nxt P P.length : Nat) : Int) (natN Q) = true
  | [], _, _ => rfl
  | y :: Q, P, h => by
    have e0 : nxt (P ++ y :: Q) P.length = nxt P P.length := nxt_take _ _ _ fun j hj => List.getElem?_append_left hj
    have h0 := h 0 (by simp)
    simp only [List.getElem_cons_zero, Nat.add_zero] at h0
    rw [e0] at h0
    have hn : nxt (P ++ [y]) (P ++ [y]).length = if y = nxt P P.length then nxt P P.length + 1 else nxt P P.length := by
      rw [List.length_append, List.length_singleton]
      have e1 : nxt (P ++ [y]) P.length = nxt P P.length := nxt_take _ _ _ fun j hj => List.getElem?_append_left hj
      show (if (P ++ [y])[P.length]? = some (nxt (P ++ [y]) P.length) then nxt (P ++ [y]) P.length + 1 else nxt (P ++ [y]) P.length) = _
      rw [e1, List.getElem?_append_right (Nat.le_refl _), Nat.sub_self]
      by_cases hy : y = nxt P P.length
      · rw [if_pos hy]; rw [if_pos (by simp [← hy])]
      · rw [if_neg hy, if_neg (by simpa using hy)]
    have ih := tidy_rgoN Q (P ++ [y]) fun k hk => by
      have := h (k + 1) (by simpa using hk)
      simp only [List.getElem_cons_succ] at this
      rw [List.length_append, List.length_singleton, List.append_assoc]
      rw [show P.length + (k + 1) = P.length + 1 + k by omega] at this
      exact this
    rw [hn] at ih
    show rgo _ ((y : Int) :: natN Q) = true
    unfold rgo
    rw [if_neg (by omega)]
    by_cases hy : y = nxt P P.length
    · rw [if_pos hy] at ih; rw [if_pos (by omega)]; exact ih
    · rw [if_neg hy] at ih; rw [if_neg (by omega)]; exact ih
theorem tidy_rightN {n : Nat} {p : List Nat} (h : Tidy p) (hl : p.length = n) : rightB (n : Int) (natN p) = true := by
  have := tidy_rgoN p [] (fun k hk => by have := h k hk; simpa using this)
  unfold rightB
  rw [show rgo 0 (natN p) = true from this, natN_len, hl]; simp

theorem lcnt_rightN {n : Nat} {l : List Arc} {L : List Int} (hg : (gcheck (n : Int) l).2 = 0) (hR : rightB (n : Int) L = true) : lcount (n : Int) l L = ((cutN n l L : Int), 0) := by
  unfold lcount
  rw [if_neg (by rw [hg]; simp), if_neg (by rw [hR]; simp)]
  rfl
theorem keepA_nil (l : List Arc) : keepA [] l = l := by
  unfold keepA; rw [List.filter_eq_self]; intro a _; simp
theorem frag_nil {n : Nat} {l : List Arc} (hg : (gcheck (n : Int) l).2 = 0) : fragE (n : Int) l [] = 0 := by
  unfold fragE; rw [if_neg (by rw [hg]; simp), if_neg (by simp)]; rfl
theorem natN_at {p : List Nat} {u : Int} (h : u.toNat < p.length) : (ints (natN p))[u.toNat]? = some (.int .i64 (p[u.toNat] : Int)) := by
  simp [ints, natN, h]
/-- Pairs between fragments are marked. -/
theorem between_marked {n : Nat} {l : List Arc} {M : List Pr} {p : List Nat} (hg : (gcheck (n : Int) l).2 = 0) (hp : IsParts n (ends2 (keepA M l)) p) {q : Pr} (hq : q ∈ prs n l) (h1 : q.1.toNat < p.length) (h2 : q.2.toNat < p.length) (hne : p[q.1.toNat] ≠ p[q.2.toNat]) : q ∈ M :=
  Classical.byContradiction fun hm => hne ((hp.conn _ _ h1 h2).2 (keepA_edge hg hq hm))

set_option maxRecDepth 100000 in
set_option maxHeartbeats 4000000 in
theorem Pairs_spec (N : Int) (A : Option Addr) (l : List Arc) (cap : Nat) (w : World) (hr : Ro (Fr w []) w A (l.flatMap arcCs)) (hl : l.length ≤ 9223372036854775807) (hN : I64 N) (hok : ∀ x ∈ l, ArcOk x) :
    Meets Try.prog 24 [.agg #[.int .i64 N, .slice A l.length cap]] w [] (fun u own' => if (gcheck N l).2 = 0 then ∃ A' m' c, u = .tuple #[.slice A' (prs N.toNat l).length (prs N.toNat l).length, .int .i64 0] ∧ own' = [m'] ∧ Own 47 2 (.slice A' (prs N.toNat l).length c) (prs N.toNat l).length ((prs N.toNat l).flatMap prCs) m' else u = .tuple #[.slice none 0 0, .int .i64 (gcheck N l).2] ∧ own' = []) := by
 refine f_enter Try.func24 rfl Try.ntmps24 rfl Owns.nil ?_
 refine f_seq fun K1 kh1 => ?_
 refine f_region ?_
 refine f_step rfl rfl rfl (o_box rfl rfl fun b1 => ?_)
 refine f_stepP rfl rfl rfl (o_assign rfl) ?_
 refine f_stepP rfl rfl rfl (o_assign rfl) ?_
 refine f_done ?_
 refine f_tn (kh1 _ _ ?_)
 clear kh1
 refine f_seq fun K2 kh2 => ?_
 refine f_seq fun K3 kh3 => ?_
 refine f_region ?_
 refine f_stepP rfl rfl rfl (o_loadA (vs := [_, _]) Try.isAgg24 Try.sizeOf24 rfl rfl ⟨(rdA rfl), (rdA rfl), trivial⟩) ?_
 refine f_step rfl rfl rfl (o_call Try.call37 rfl (fun w_ hp_ => Check_spec N A l cap w_ (hr.up0 hp_) hl hN hok) ?_)
 rintro _ _ ⟨rfl, rfl⟩
 dsimp only [List.cons_append, List.nil_append]
 refine f_stepP rfl rfl rfl (o_move rfl) ?_
 refine f_stepP rfl rfl rfl (o_extract rfl rfl) ?_
 refine f_stepP rfl rfl rfl (o_extract rfl rfl) ?_
 refine f_stepP rfl rfl rfl (o_assign rfl) ?_
 refine f_stepP rfl rfl rfl (o_assign rfl) ?_
 refine f_done ?_
 refine f_tn (kh3 _ _ ?_)
 clear kh3
 refine f_seq fun K4 kh4 => ?_
 refine f_region ?_
 refine f_stepP rfl rfl rfl (o_move rfl) ?_
 refine f_stepP rfl rfl rfl (o_neq rfl rfl) ?_
 refine f_done ?_
 refine f_tn (kh4 _ _ ?_)
 clear kh4
 refine f_cond rfl (fun c12 => ?_) (fun c12 => ?_)
 ·
  refine f_seq fun K5 kh5 => ?_
  refine f_region ?_
  refine f_stepP rfl rfl rfl (o_move rfl) ?_
  refine f_stepP rfl rfl rfl (o_assign rfl) ?_
  refine f_stepP rfl rfl rfl (o_assign rfl) ?_
  refine f_done ?_
  refine f_tn (kh5 _ _ ?_)
  clear kh5
  refine f_ret ?_
  refine f_tr ?_
  exact f_fin2 [] Try.results24 rfl rfl Sub.nil (by rw [if_neg c12]; exact ⟨rfl, rfl⟩)
 ·
  have hg : (gcheck N l).2 = 0 := by simpa using c12
  obtain ⟨n, rfl⟩ : ∃ n : Nat, N = (n : Int) := ⟨N.toNat, by have := gcheck_zero hg; omega⟩
  refine f_skip ?_
  refine f_tn (kh2 _ _ ?_)
  clear kh2
  refine f_seq fun K6 kh6 => ?_
  refine f_region ?_
  refine f_stepP rfl rfl rfl (o_loadA (vs := [_, _]) Try.isAgg24 Try.sizeOf24 rfl rfl ⟨(rdA rfl), (rdA rfl), trivial⟩) ?_
  refine f_step rfl rfl rfl (o_call Try.call29 rfl (fun w_ hp_ => pairs_spec n A l cap w_ (hr.up0 hp_) hg) ?_)
  rintro _ _ ⟨A', m', rfl, rfl, c', hO⟩
  dsimp only [List.cons_append, List.nil_append]
  refine f_stepP rfl rfl rfl (o_assign rfl) ?_
  refine f_stepP rfl rfl rfl (o_assign rfl) ?_
  refine f_done ?_
  refine f_tn (kh6 _ _ ?_)
  clear kh6
  refine f_ret ?_
  exact f_fin2 [m'] Try.results24 rfl rfl (by repeat (first | exact Sub.nil | refine Sub.pick ?_ | refine Sub.castO rfl ?_)) (by rw [if_pos hg, Int.toNat_natCast]; exact ⟨A', m', c', rfl, rfl, hO⟩)

set_option maxRecDepth 100000 in
set_option maxHeartbeats 4000000 in
theorem SamePairs_spec (A B : Option Addr) (l r : List Pr) (ca cb : Nat) (w : World) (hl : Ro (Fr w []) w A (l.flatMap prCs)) (hr : Ro (Fr w []) w B (r.flatMap prCs)) (hm : l.length ≤ 9223372036854775807) :
    Meets Try.prog 13 [.slice A l.length ca, .slice B r.length cb] w [] (fun u m => u = .bool (decide (l = r)) ∧ m = []) := by
 refine f_enter Try.func13 rfl Try.ntmps13 rfl Owns.nil ?_
 refine f_seq fun K1 kh1 => ?_
 refine f_region ?_
 refine f_stepP rfl rfl rfl (o_assign rfl) ?_
 refine f_done ?_
 refine f_tn (kh1 _ _ ?_)
 clear kh1
 refine f_seq fun K2 kh2 => ?_
 refine f_seq fun K3 kh3 => ?_
 refine f_region ?_
 refine f_stepP rfl rfl rfl (o_move rfl) ?_
 refine f_stepP rfl rfl rfl (o_len sl28 rfl) ?_
 refine f_stepP rfl rfl rfl (o_move rfl) ?_
 refine f_stepP rfl rfl rfl (o_len sl28 rfl) ?_
 refine f_stepP rfl rfl rfl (o_neq rfl rfl) ?_
 refine f_done ?_
 refine f_tn (kh3 _ _ ?_)
 clear kh3
 refine f_cond rfl (fun c10 => ?_) (fun c10 => ?_)
 ·
  refine f_seq fun K4 kh4 => ?_
  refine f_region ?_
  refine f_stepP rfl rfl rfl (o_assign rfl) ?_
  refine f_done ?_
  refine f_tn (kh4 _ _ ?_)
  clear kh4
  refine f_ret ?_
  refine f_tr ?_
  exact f_fin1 [] Try.results13 rfl Sub.nil ⟨by rw [decide_eq_false]; intro e; subst e; omega, rfl⟩
 ·
  have hlr : l.length = r.length := by omega
  refine f_skip ?_
  refine f_tn (kh2 _ _ ?_)
  clear kh2
  refine f_seq fun K5 kh5 => ?_
  refine f_seq fun K6 kh6 => ?_
  refine f_region ?_
  refine f_stepP rfl rfl rfl (o_assign rfl) ?_
  refine f_done ?_
  refine f_tn (kh6 _ _ ?_)
  clear kh6
  refine f_block ?_
  refine f_loopK (α := Nat) [0, 1] (fun k => [(5, .int .i64 (k : Int))]) (fun k => k ≤ l.length ∧ ∀ j (a : j < l.length) (b : j < r.length), j < k → l[j] = r[j]) (fun k => l.length - k) (0) ?_ ?_ ?_
  · exact (by repeat (first | exact trivial | refine ⟨rfl, ?_⟩))
  · exact ⟨by omega, fun j _ _ hj => by omega⟩
  ·
   rintro k ⟨hkl, hpre⟩
   refine f_seq fun K7 kh7 => ?_
   refine f_seq fun K8 kh8 => ?_
   refine f_region ?_
   refine f_stepP rfl rfl rfl (o_move rfl) ?_
   refine f_stepP rfl rfl rfl (o_move rfl) ?_
   refine f_stepP rfl rfl rfl (o_len sl28 rfl) ?_
   refine f_stepP rfl rfl rfl (o_lss rfl rfl) ?_
   refine f_done ?_
   refine f_tn (kh8 _ _ ?_)
   clear kh8
   refine f_cond rfl (fun c14 => ?_) (fun c14 => ?_)
   ·
    refine f_skip ?_
    refine f_tn (kh7 _ _ ?_)
    clear kh7
    refine f_seq fun K9 kh9 => ?_
    refine f_block ?_
    refine f_seq fun K10 kh10 => ?_
    refine f_regionS rfl (by decide +kernel) ?_
    have hk : k < l.length := by omega
    have hk' : k < r.length := by omega
    obtain ⟨b1, o1, rfl, hS1, hc1⟩ := hl (flat_ne prCs prCs_len (by omega) hk)
    obtain ⟨b2, o2, rfl, hS2, hc2⟩ := hr (flat_ne prCs prCs_len (by omega) hk')
    refine f_stillP rfl rfl rfl (o_move rfl) ?_
    refine f_stillP rfl rfl rfl (o_move rfl) ?_
    refine f_stillP rfl rfl rfl (o_idx sl28 rfl rfl (o1 + k * 2) ⟨by omega, by omega, by first | omega | (simp; done) | (simp; omega)⟩) ?_
    refine f_stillP rfl rfl rfl (o_loadA (vs := prCs l[k]) Try.isAgg47 Try.sizeOf47 rfl rfl (roElem prCs_len hS1 hc1 hk)) ?_
    refine f_stillP rfl rfl rfl (o_move rfl) ?_
    refine f_stillP rfl rfl rfl (o_move rfl) ?_
    refine f_stillP rfl rfl rfl (o_idx sl28 rfl rfl (o2 + k * 2) ⟨by omega, by omega, by first | omega | (simp; done) | (simp; omega)⟩) ?_
    refine f_stillP rfl rfl rfl (o_loadA (vs := prCs r[k]) Try.isAgg47 Try.sizeOf47 rfl rfl (roElem prCs_len hS2 hc2 hk')) ?_
    refine f_stillP rfl rfl rfl (o_neqA Try.eqGuardType47 (eqPr l[k] r[k]) rfl rfl) ?_
    refine f_stillD ?_
    refine f_tn (kh10 _ _ ?_)
    clear kh10
    refine f_cond rfl (fun c25 => ?_) (fun c25 => ?_)
    ·
     refine f_seq fun K11 kh11 => ?_
     refine f_region ?_
     refine f_stepP rfl rfl rfl (o_assign rfl) ?_
     refine f_done ?_
     refine f_tn (kh11 _ _ ?_)
     clear kh11
     refine f_ret ?_
     refine f_br ?_
     refine f_tr ?_
     refine f_tr ?_
     refine f_br ?_
     refine f_tr ?_
     exact f_fin1 [] Try.results13 rfl Sub.nil ⟨by rw [decide_eq_false]; exact ne_at hk hk' c25, rfl⟩
    ·
     refine f_skip ?_
     refine f_bn ?_
     refine f_tn (kh9 _ _ ?_)
     clear kh9
     refine f_region ?_
     refine f_stepP rfl rfl rfl (o_move rfl) ?_
     refine f_stepP rfl rfl rfl (o_add rfl rfl _ (wrap_i64 (by omega))) ?_
     refine f_stepP rfl rfl rfl (o_assign rfl) ?_
     refine f_done ?_
     refine f_tn (f_again (k + 1) (by first | omega | (dsimp only; omega) | (simp; omega)) ⟨by omega, prefix_next hlr hk hpre (by simpa using c25)⟩ ?_ ?_ ?_)
     · exact (by repeat (first | exact trivial | refine ⟨rfl, ?_⟩))
     · exact (by repeat (first | exact trivial | refine ⟨rfl, ?_⟩))
     · repeat (first | exact Sub.nil | refine Sub.pick ?_ | refine Sub.castO rfl ?_ | refine Sub.skip ?_)
   ·
    refine f_exit ?_
    refine f_te ?_
    clear kh7
    refine f_te ?_
    refine f_be ?_
    refine f_tn (kh5 _ _ ?_)
    clear kh5
    refine f_seq fun K12 kh12 => ?_
    refine f_region ?_
    refine f_stepP rfl rfl rfl (o_assign rfl) ?_
    refine f_done ?_
    refine f_tn (kh12 _ _ ?_)
    clear kh12
    refine f_ret ?_
    exact f_fin1 [] Try.results13 rfl Sub.nil ⟨by rw [decide_eq_true]; exact prefix_all hlr (by omega) hpre, rfl⟩

set_option maxRecDepth 100000 in
set_option maxHeartbeats 4000000 in
theorem NatcutBetween_spec (N : Int) (A : Option Addr) (l : List Arc) (cap : Nat) (B : Option Addr) (cs : List Int) (cb : Nat) (most : Int) (w : World) (hr : Ro (Fr w []) w A (l.flatMap arcCs)) (hl : l.length ≤ 9223372036854775807) (hN : I64 N) (hok : ∀ x ∈ l, ArcOk x) (hC : Ro (Fr w []) w B (ints cs)) (hcm : cs.length ≤ 9223372036854775807) :
    Meets Try.prog 7 [.agg #[.int .i64 N, .slice A l.length cap], .slice B cs.length cb, .int .i64 most] w [] (fun u m => u = .bool true ∧ m = []) := by
 refine f_enter Try.func7 rfl Try.ntmps7 rfl Owns.nil ?_
 refine f_seq fun K1 kh1 => ?_
 refine f_region ?_
 refine f_step rfl rfl rfl (o_box rfl rfl fun b3 => ?_)
 refine f_stepP rfl rfl rfl (o_assign rfl) ?_
 refine f_done ?_
 refine f_tn (kh1 _ _ ?_)
 clear kh1
 refine f_seq fun K2 kh2 => ?_
 refine f_seq fun K3 kh3 => ?_
 refine f_region ?_
 refine f_step rfl rfl rfl (o_call Try.call9 rfl (fun w_ hp_ => works_spec w_) ?_)
 rintro _ _ ⟨rfl, rfl⟩
 dsimp only [List.cons_append, List.nil_append]
 refine f_stepP rfl rfl rfl (o_not rfl) ?_
 refine f_done ?_
 refine f_tn (kh3 _ _ ?_)
 clear kh3
 refine f_condF rfl ?_
 refine f_skip ?_
 refine f_tn (kh2 _ _ ?_)
 clear kh2
 refine f_seq fun K4 kh4 => ?_
 refine f_seq fun K5 kh5 => ?_
 refine f_region ?_
 refine f_stepP rfl rfl rfl (o_loadA (vs := [_, _]) Try.isAgg24 Try.sizeOf24 rfl rfl ⟨(rdA rfl), (rdA rfl), trivial⟩) ?_
 refine f_step rfl rfl rfl (o_call Try.call19 rfl (fun w_ hp_ => large_spec N A l cap w_ (hr.up0 hp_) hl hN hok) ?_)
 rintro _ _ ⟨bL, rfl, rfl⟩
 dsimp only [List.cons_append, List.nil_append]
 refine f_stepP rfl rfl rfl (o_move rfl) ?_
 refine f_splitLB 28 rfl (fun g28 => ?_) (fun g28 => ?_)
 ·
  refine f_stepN rfl rfl rfl rfl rfl rfl ?_
  refine f_stepN rfl rfl rfl rfl rfl rfl ?_
  refine f_stepN rfl rfl rfl rfl rfl rfl ?_
  refine f_stepP rfl rfl rfl (o_pickT rfl rfl) ?_
  refine f_done ?_
  refine f_tn (kh5 _ _ ?_)
  clear kh5
  refine f_condT rfl ?_
  refine f_seq fun K6 kh6 => ?_
  refine f_region ?_
  refine f_stepP rfl rfl rfl (o_assign rfl) ?_
  refine f_done ?_
  refine f_tn (kh6 _ _ ?_)
  clear kh6
  refine f_ret ?_
  refine f_tr ?_
  exact f_fin1 [] Try.results7 rfl Sub.nil ⟨rfl, rfl⟩
 ·
  refine f_stepPY rfl rfl rfl rfl rfl (o_move rfl) ?_
  refine f_stepPY rfl rfl rfl rfl rfl (o_len sl35 rfl) ?_
  refine f_stepPY rfl rfl rfl rfl rfl (o_gtr rfl rfl) ?_
  refine f_stepP rfl rfl rfl (o_pickF rfl rfl) ?_
  refine f_done ?_
  refine f_tn (kh5 _ _ ?_)
  clear kh5
  refine f_cond rfl (fun c32 => ?_) (fun c32 => ?_)
  ·
   refine f_seq fun K7 kh7 => ?_
   refine f_region ?_
   refine f_stepP rfl rfl rfl (o_assign rfl) ?_
   refine f_done ?_
   refine f_tn (kh7 _ _ ?_)
   clear kh7
   refine f_ret ?_
   refine f_tr ?_
   exact f_fin1 [] Try.results7 rfl Sub.nil ⟨rfl, rfl⟩
  ·
   refine f_skip ?_
   refine f_tn (kh4 _ _ ?_)
   clear kh4
   refine f_seq fun K8 kh8 => ?_
   refine f_region ?_
   refine f_stepP rfl rfl rfl (o_loadA (vs := [_, _]) Try.isAgg24 Try.sizeOf24 rfl rfl ⟨(rdA rfl), (rdA rfl), trivial⟩) ?_
   refine f_stepP rfl rfl rfl (o_move rfl) ?_
   refine f_stepP rfl rfl rfl (o_move rfl) ?_
   refine f_step rfl rfl rfl (o_call Try.call23 rfl (fun w_ hp_ => Marks_spec N A B l cap cs cb most w_ (hr.up0 hp_) hl hN hok (hC.up0 hp_) hcm) ?_)
   rintro _ _ ⟨M, AM, cM, mM, rfl, rfl, hoM, hMe, hM0⟩
   dsimp only [List.cons_append, List.nil_append]
   refine f_stepP rfl rfl rfl (o_move rfl) ?_
   refine f_stepP rfl rfl rfl (o_extract rfl rfl) ?_
   refine f_stepP rfl rfl rfl (o_extract rfl rfl) ?_
   refine f_stepP rfl rfl rfl (o_assign rfl) ?_
   refine f_stepP rfl rfl rfl (o_assign rfl) ?_
   refine f_done ?_
   refine f_tn (kh8 _ _ ?_)
   clear kh8
   refine f_seq fun K9 kh9 => ?_
   refine f_seq fun K10 kh10 => ?_
   refine f_region ?_
   refine f_stepP rfl rfl rfl (o_move rfl) ?_
   refine f_stepP rfl rfl rfl (o_neq rfl rfl) ?_
   refine f_done ?_
   refine f_tn (kh10 _ _ ?_)
   clear kh10
   refine f_cond rfl (fun c41 => ?_) (fun c41 => ?_)
   ·
    have hMe' : mkE N l cs most ≠ 0 := by simpa using c41
    obtain rfl := hMe hMe'
    refine f_seq fun K11 kh11 => ?_
    refine f_region ?_
    refine f_stepP rfl rfl rfl (o_move rfl) ?_
    refine f_stepP rfl rfl rfl (o_len sl28 rfl) ?_
    refine f_stepP rfl rfl rfl (o_eql rfl rfl) ?_
    refine f_stepP rfl rfl rfl (o_assign rfl) ?_
    refine f_done ?_
    refine f_tn (kh11 _ _ ?_)
    clear kh11
    refine f_ret ?_
    refine f_tr ?_
    exact f_fin1 [] Try.results7 rfl Sub.nil ⟨by simp, rfl⟩
   ·
    have hz : mkE N l cs most = 0 := by simpa using c41
    obtain ⟨hMs, hMO⟩ := hM0 hz
    have hg' := mk_good hz
    obtain ⟨hg1, hg2, hl8, hgd⟩ := gcheck_zero hg'
    obtain ⟨n, rfl⟩ : ∃ n : Nat, N = (n : Int) := ⟨N.toNat, by omega⟩
    have hg : (gcheck (n : Int) l).2 = 0 := hg'
    rw [Int.toNat_natCast] at hMO
    have hMp := out_sub hMO
    have hM8 := Nat.le_trans (List.Nodup.length_le_of_subset (nodup_X hMs) hMp) (prs_len8 hg)
    have hfr := frag_zero hg hMp (by omega)
    have hMf := marks_filter hMs hMp
    have hM64 : ∀ p ∈ M, I64 p.1 ∧ I64 p.2 := fun p hp => by
      have := prs_rng (hMp p hp)
      unfold I64; omega
    refine f_skip ?_
    refine f_tn (kh9 _ _ ?_)
    clear kh9
    refine f_seq fun K12 kh12 => ?_
    refine f_region ?_
    refine f_stepP rfl rfl rfl (o_loadA (vs := [_, _]) Try.isAgg24 Try.sizeOf24 rfl rfl ⟨(rdA rfl), (rdA rfl), trivial⟩) ?_
    refine f_stepP rfl rfl rfl (o_move rfl) ?_
    refine f_step rfl rfl rfl (o_call Try.call15 rfl (fun w_ hp_ => Fragments_spec (n : Int) A AM l cap M M.length w_ (hr.up0 hp_) hl hN hok (seen_ro (hoM.seen hp_)) (by omega) hM64) ?_)
    rintro _ _ ⟨P, AP, cP, mP, rfl, rfl, hoP, hP0, _⟩
    obtain ⟨p, rfl, hp⟩ := hP0 hfr
    rw [Int.toNat_natCast] at hp
    have hpl := hp.len
    rw [hfr]
    dsimp only [List.cons_append, List.nil_append]
    refine f_stepP rfl rfl rfl (o_move rfl) ?_
    refine f_stepP rfl rfl rfl (o_extract rfl rfl) ?_
    refine f_stepP rfl rfl rfl (o_extract rfl rfl) ?_
    refine f_stepP rfl rfl rfl (o_assign rfl) ?_
    refine f_stepP rfl rfl rfl (o_assign rfl) ?_
    refine f_done ?_
    refine f_tn (kh12 _ _ ?_)
    clear kh12
    refine f_seq fun K13 kh13 => ?_
    refine f_region ?_
    refine f_stepP rfl rfl rfl (o_loadA (vs := [_, _]) Try.isAgg24 Try.sizeOf24 rfl rfl ⟨(rdA rfl), (rdA rfl), trivial⟩) ?_
    refine f_step rfl rfl rfl (o_call Try.call24 rfl (fun w_ hp_ => Pairs_spec (n : Int) A l cap w_ (hr.up0 hp_) hl hN hok) ?_)
    rintro _ own47 hq47
    rw [if_pos hg, Int.toNat_natCast] at hq47
    obtain ⟨Ap, mp, cp, rfl, rfl, hop⟩ := hq47
    have hpl8 := prs_len8 hg
    dsimp only [List.cons_append, List.nil_append]
    refine f_stepP rfl rfl rfl (o_move rfl) ?_
    refine f_stepP rfl rfl rfl (o_extract rfl rfl) ?_
    refine f_stepP rfl rfl rfl (o_extract rfl rfl) ?_
    refine f_stepP rfl rfl rfl (o_assign rfl) ?_
    refine f_stepP rfl rfl rfl (o_assign rfl) ?_
    refine f_done ?_
    refine f_tn (kh13 _ _ ?_)
    clear kh13
    refine f_seq fun K14 kh14 => ?_
    refine f_seq fun K15 kh15 => ?_
    refine f_region ?_
    refine f_stepP rfl rfl rfl (o_move rfl) ?_
    refine f_stepP rfl rfl rfl (o_neq rfl rfl) ?_
    refine f_stepP rfl rfl rfl (o_move rfl) ?_
    refine f_falseL 58 rfl (by simp) ?_
    refine f_stepPY rfl rfl rfl rfl rfl (o_move rfl) ?_
    refine f_stepPY rfl rfl rfl rfl rfl (o_neq rfl rfl) ?_
    refine f_stepP rfl rfl rfl (o_pickF rfl rfl) ?_
    refine f_done ?_
    refine f_tn (kh15 _ _ ?_)
    clear kh15
    refine f_condN rfl (by simp) ?_
    refine f_skip ?_
    refine f_tn (kh14 _ _ ?_)
    clear kh14
    refine f_seq fun K16 kh16 => ?_
    refine f_region ?_
    refine f_stepP rfl rfl rfl (o_assign rfl) ?_
    refine f_stepP rfl rfl rfl (o_assign rfl) ?_
    refine f_done ?_
    refine f_tn (kh16 _ _ ?_)
    clear kh16
    refine f_seq fun K17 kh17 => ?_
    refine f_seq fun K18 kh18 => ?_
    refine f_reC 13 rfl (v := .int .i64 ((((prs n l).take 0).filter fun p => decide (p ∈ M)).length : Int)) rfl ?_
    refine f_reC 14 rfl (v := .int .i64 ((((prs n l).take 0).filter (apart (natN p))).length : Int)) rfl ?_
    refine f_region ?_
    refine f_stepP rfl rfl rfl (o_move rfl) ?_
    refine f_stepP rfl rfl rfl (o_len sl28 rfl) ?_
    refine f_stepP rfl rfl rfl (o_move rfl) ?_
    refine f_done ?_
    refine f_tn (kh18 _ _ ?_)
    clear kh18
    refine f_block ?_
    refine f_loop (α := Nat) [3, 7, 9, 62, 63] (fun k => [(64, .int .i64 (k : Int)), (13, .int .i64 ((((prs n l).take k).filter fun p => decide (p ∈ M)).length : Int)), (14, .int .i64 ((((prs n l).take k).filter (apart (natN p))).length : Int))]) (fun k => [mP, mM, mp, [(b3, blk [.int .i64 (n : Int), .slice A l.length cap] 24)]]) (fun k => k ≤ (prs n l).length) (fun k => (prs n l).length - k) (0) ?_ ?_ ?_ ?_
    · exact (by repeat (first | exact trivial | refine ⟨rfl, ?_⟩))
    · repeat (first | exact Sub.nil | refine Sub.pick ?_ | refine Sub.castO rfl ?_ | refine Sub.skip ?_)
    · exact Nat.zero_le _
    ·
     rintro k hkl
     have hf1 : (((prs n l).take k).filter fun p => decide (p ∈ M)).length ≤ k := Nat.le_trans (List.length_filter_le _ _) (by rw [List.length_take]; omega)
     have hf2 : (((prs n l).take k).filter (apart (natN p))).length ≤ k := Nat.le_trans (List.length_filter_le _ _) (by rw [List.length_take]; omega)
     refine f_seq fun K19 kh19 => ?_
     refine f_region ?_
     refine f_stepP rfl rfl rfl (o_lss rfl rfl) ?_
     refine f_done ?_
     refine f_tn (kh19 _ _ ?_)
     clear kh19
     refine f_seq fun K20 kh20 => ?_
     refine f_cond rfl (fun c65 => ?_) (fun c65 => ?_)
     ·
      have hk : k < (prs n l).length := by omega
      obtain ⟨bp, spp, rfl, rfl⟩ := hop.at_ (by omega)
      have hqm := List.getElem_mem hk
      have hpr := prs_rng hqm
      obtain ⟨hat1, hat2⟩ := mark_at hMf hk
      have hu1 : (prs n l)[k].1.toNat < p.length := by omega
      have hu2 : (prs n l)[k].2.toNat < p.length := by omega
      obtain ⟨bP, sP, rfl, rfl⟩ := hoP.at_ (by rw [natN_len]; omega)
      have hap : apart (natN p) (prs n l)[k] = decide (p[(prs n l)[k].1.toNat] ≠ p[(prs n l)[k].2.toNat]) := by unfold apart natN; simp [List.getD_eq_getElem?_getD, hu1, hu2]; omega
      have hnlen := natN_len p
      refine f_skip ?_
      refine f_tn (kh20 _ _ ?_)
      clear kh20
      refine f_seq fun K21 kh21 => ?_
      refine f_block ?_
      refine f_seq fun K22 kh22 => ?_
      refine f_region ?_
      refine f_stepP rfl rfl rfl (o_idx sl28 rfl rfl (k * 2) ⟨by omega, by omega, by first | omega | (simp; done) | (simp; omega)⟩) ?_
      refine f_stepP rfl rfl rfl (o_loadA (vs := prCs (prs n l)[k]) Try.isAgg47 Try.sizeOf47 rfl rfl (rdsOwn prCs_len hk)) ?_
      refine f_step rfl rfl rfl (o_alloc Try.zeroValue47 rfl fun b16 => ?_)
      refine f_step0 rfl rfl (o_storeA Try.sizeOf47 rfl rfl rfl rfl (by first | exact Nat.le_of_ble_eq_true rfl | (simp; done) | (simp; omega)) (prCs (prs n l)[k]) rfl ?_)
      refine f_done ?_
      refine f_tn (kh22 _ _ ?_)
      clear kh22
      refine f_meet (α := Unit) [3, 7, 9, 13, 14, 16, 62, 63, 64] (fun _ => [(17, .bool (decide ((prs n l)[k] ∈ M)))]) (fun _ => [[(b16, blk (prCs (prs n l)[k]) 47)], [(bP, blk (ints (natN p) ++ sP) 3)], mM, [(bp, blk ((prs n l).flatMap prCs ++ spp) 47)], [(b3, blk [.int .i64 (n : Int), .slice A l.length cap] 24)]]) (fun _ => True) ?_ ?_
      ·
       intro K23 kh23
       refine f_regionT 12 rfl (by decide +kernel) ?_
       refine f_stillP rfl rfl rfl (o_move rfl) ?_
       refine f_stillP rfl rfl rfl (o_move rfl) ?_
       refine f_stillP rfl rfl rfl (o_len sl28 rfl) ?_
       refine f_stillP rfl rfl rfl (o_lss rfl rfl) ?_
       refine f_stillP rfl rfl rfl (o_move rfl) ?_
       refine f_splitS 72 rfl (fun g72 => ?_) (fun g72 => ?_)
       ·
        have hA : (((prs n l).take k).filter fun p => decide (p ∈ M)).length < M.length := by omega
        obtain ⟨bM, spM, rfl, rfl⟩ := hoM.at_ (by omega)
        refine f_stillPY rfl rfl rfl rfl rfl (o_move rfl) ?_
        refine f_stillPY rfl rfl rfl rfl rfl (o_move rfl) ?_
        refine f_stillPY rfl rfl rfl rfl rfl (o_idx sl28 rfl rfl ((((prs n l).take k).filter fun p => decide (p ∈ M)).length * 2) ⟨by omega, by omega, by first | omega | (simp; done) | (simp; omega)⟩) ?_
        refine f_stillPY rfl rfl rfl rfl rfl (o_loadA (vs := prCs (M[(((prs n l).take k).filter fun p => decide (p ∈ M)).length]'hA)) Try.isAgg47 Try.sizeOf47 rfl rfl (rdsOwn prCs_len hA)) ?_
        refine f_stillPY rfl rfl rfl rfl rfl (o_loadA (vs := prCs (prs n l)[k]) Try.isAgg47 Try.sizeOf47 rfl rfl ⟨(rdA rfl), (rdA rfl), trivial⟩) ?_
        refine f_stillPY rfl rfl rfl rfl rfl (o_eqlA Try.eqGuardType47 (eqPr (M[(((prs n l).take k).filter fun p => decide (p ∈ M)).length]'hA) (prs n l)[k]) rfl rfl) ?_
        refine f_stillP rfl rfl rfl (o_pickT rfl rfl) ?_
        refine f_stillD (f_tail ?_)
        refine f_stepP rfl rfl rfl (o_assign rfl) ?_
        refine f_reL 17 rfl (v := .bool (decide ((prs n l)[k] ∈ M))) (by rw [List.getElem?_eq_getElem hA] at hat2; congr 1; rw [decide_eq_decide]; exact ⟨fun h => by simpa using hat2.2 (by rw [h]), fun h => Option.some.inj (hat2.1 (by simpa using h))⟩) ?_
        refine f_done ?_
        refine f_tn (kh23 _ _ (()) trivial ?_ ?_ ?_)
        · exact (by repeat (first | exact trivial | refine ⟨rfl, ?_⟩))
        · exact (by repeat (first | exact trivial | refine ⟨rfl, ?_⟩))
        · repeat (first | exact Sub.nil | refine Sub.pick ?_ | refine Sub.castO rfl ?_ | refine Sub.skip ?_)
       ·
        refine f_stillN rfl rfl rfl rfl rfl rfl ?_
        refine f_stillN rfl rfl rfl rfl rfl rfl ?_
        refine f_stillN rfl rfl rfl rfl rfl rfl ?_
        refine f_stillN rfl rfl rfl rfl rfl rfl ?_
        refine f_stillN rfl rfl rfl rfl rfl rfl ?_
        refine f_stillN rfl rfl rfl rfl rfl rfl ?_
        refine f_stillP rfl rfl rfl (o_pickF rfl rfl) ?_
        refine f_stillD (f_tail ?_)
        refine f_stepP rfl rfl rfl (o_assign rfl) ?_
        refine f_reL 17 rfl (v := .bool (decide ((prs n l)[k] ∈ M))) (by congr 1; symm; rw [decide_eq_false_iff_not]; intro h; have h2 := hat2.1 (by simpa using h); have h3 := (List.getElem?_eq_some_iff.1 h2).1; omega) ?_
        refine f_done ?_
        refine f_tn (kh23 _ _ (()) trivial ?_ ?_ ?_)
        · exact (by repeat (first | exact trivial | refine ⟨rfl, ?_⟩))
        · exact (by repeat (first | exact trivial | refine ⟨rfl, ?_⟩))
        · repeat (first | exact Sub.nil | refine Sub.pick ?_ | refine Sub.castO rfl ?_ | refine Sub.skip ?_)
      ·
       rintro ⟨⟩ _
       refine f_seq fun K24 kh24 => ?_
       refine f_seq fun K25 kh25 => ?_
       refine f_region ?_
       refine f_stepP rfl rfl rfl (o_move rfl) ?_
       refine f_done ?_
       refine f_tn (kh25 _ _ ?_)
       clear kh25
       refine f_condB rfl (fun c80 => ?_) (fun c80 => ?_)
       ·
        have hin : (prs n l)[k] ∈ M := by simpa using c80
        have hnx1 := filt_len_yes (q := fun p => decide (p ∈ M)) hk (by simpa using hin)
        refine f_reC 17 rfl (v := .bool true) (by rw [decide_eq_true hin]) ?_
        refine f_region ?_
        refine f_stepP rfl rfl rfl (o_move rfl) ?_
        refine f_stepP rfl rfl rfl (o_add rfl rfl _ (Eq.trans (wrap_i64 (by omega)) (show _ = ((((prs n l).take (k + 1)).filter fun p => decide (p ∈ M)).length : Int) by omega))) ?_
        refine f_stepP rfl rfl rfl (o_assign rfl) ?_
        refine f_done ?_
        refine f_tn (kh24 _ _ ?_)
        clear kh24
        refine f_seq fun K26 kh26 => ?_
        refine f_regionS rfl (by decide +kernel) ?_
        refine f_stillP rfl rfl rfl (o_move rfl) ?_
        refine f_stillP rfl rfl rfl (o_field fa47_0 rfl) ?_
        refine f_stillP rfl rfl rfl (o_load Try.isAgg3 rfl (rdA rfl)) ?_
        refine f_stillP rfl rfl rfl (o_idx sl35 rfl rfl ((prs n l)[k].1.toNat) ⟨by omega, by omega, by first | omega | (simp; done) | (simp; omega)⟩) ?_
        refine f_stillP rfl rfl rfl (o_load Try.isAgg3 rfl (rdA (v := .int .i64 (p[(prs n l)[k].1.toNat] : Int)) (app_get (natN_at hu1)))) ?_
        refine f_stillP rfl rfl rfl (o_move rfl) ?_
        refine f_stillP rfl rfl rfl (o_field fa47_1 rfl) ?_
        refine f_stillP rfl rfl rfl (o_load Try.isAgg3 rfl (rdA rfl)) ?_
        refine f_stillP rfl rfl rfl (o_idx sl35 rfl rfl ((prs n l)[k].2.toNat) ⟨by omega, by omega, by first | omega | (simp; done) | (simp; omega)⟩) ?_
        refine f_stillP rfl rfl rfl (o_load Try.isAgg3 rfl (rdA (v := .int .i64 (p[(prs n l)[k].2.toNat] : Int)) (app_get (natN_at hu2)))) ?_
        refine f_stillP rfl rfl rfl (o_neq rfl rfl) ?_
        refine f_stillD ?_
        refine f_tn (kh26 _ _ ?_)
        clear kh26
        refine f_cond rfl (fun c93 => ?_) (fun c93 => ?_)
        ·
         have hne : p[(prs n l)[k].1.toNat] ≠ p[(prs n l)[k].2.toNat] := by omega
         have hmk := between_marked hg hp hqm hu1 hu2 hne
         have hnx2 := filt_len_yes (q := apart (natN p)) hk (by rw [hap]; simpa using hne)
         refine f_seq fun K27 kh27 => ?_
         refine f_region ?_
         refine f_stepP rfl rfl rfl (o_move rfl) ?_
         refine f_stepP rfl rfl rfl (o_add rfl rfl _ (Eq.trans (wrap_i64 (by omega)) (show _ = ((((prs n l).take (k + 1)).filter (apart (natN p))).length : Int) by omega))) ?_
         refine f_stepP rfl rfl rfl (o_assign rfl) ?_
         refine f_done ?_
         refine f_tn (kh27 _ _ ?_)
         clear kh27
         refine f_seq fun K28 kh28 => ?_
         refine f_region ?_
         refine f_stepP rfl rfl rfl (o_move rfl) ?_
         refine f_stepP rfl rfl rfl (o_not rfl) ?_
         refine f_done ?_
         refine f_tn (kh28 _ _ ?_)
         clear kh28
         refine f_condF rfl ?_
         refine f_skip ?_
         refine f_bn ?_
         refine f_tn (kh21 _ _ ?_)
         clear kh21
         refine f_region ?_
         refine f_stepP rfl rfl rfl (o_add rfl rfl _ (wrap_i64 (by omega))) ?_
         refine f_stepP rfl rfl rfl (o_move rfl) ?_
         refine f_done ?_
         refine f_tn (f_again (k + 1) (by first | omega | (dsimp only; omega) | (simp; omega)) (by omega) ?_ ?_ ?_)
         · exact (by repeat (first | exact trivial | refine ⟨rfl, ?_⟩))
         · exact (by repeat (first | exact trivial | refine ⟨rfl, ?_⟩))
         · repeat (first | exact Sub.nil | refine Sub.pick ?_ | refine Sub.castO rfl ?_ | refine Sub.skip ?_)
        ·
         have hne : p[(prs n l)[k].1.toNat] = p[(prs n l)[k].2.toNat] := by omega
         have hnx2 := filt_len_no (q := apart (natN p)) hk (by rw [hap]; simpa using hne)
         refine f_reC 14 rfl (v := .int .i64 ((((prs n l).take (k + 1)).filter (apart (natN p))).length : Int)) (by rw [hnx2]) ?_
         refine f_skip ?_
         refine f_bn ?_
         refine f_tn (kh21 _ _ ?_)
         clear kh21
         refine f_region ?_
         refine f_stepP rfl rfl rfl (o_add rfl rfl _ (wrap_i64 (by omega))) ?_
         refine f_stepP rfl rfl rfl (o_move rfl) ?_
         refine f_done ?_
         refine f_tn (f_again (k + 1) (by first | omega | (dsimp only; omega) | (simp; omega)) (by omega) ?_ ?_ ?_)
         · exact (by repeat (first | exact trivial | refine ⟨rfl, ?_⟩))
         · exact (by repeat (first | exact trivial | refine ⟨rfl, ?_⟩))
         · repeat (first | exact Sub.nil | refine Sub.pick ?_ | refine Sub.castO rfl ?_ | refine Sub.skip ?_)
       ·
        have hin : (prs n l)[k] ∉ M := by simpa using c80
        have hnx1 := filt_len_no (q := fun p => decide (p ∈ M)) hk (by simpa using hin)
        refine f_reC 17 rfl (v := .bool false) (by rw [decide_eq_false hin]) ?_
        refine f_reC 13 rfl (v := .int .i64 ((((prs n l).take (k + 1)).filter fun p => decide (p ∈ M)).length : Int)) (by rw [hnx1]) ?_
        refine f_skip ?_
        refine f_tn (kh24 _ _ ?_)
        clear kh24
        refine f_seq fun K29 kh29 => ?_
        refine f_regionS rfl (by decide +kernel) ?_
        refine f_stillP rfl rfl rfl (o_move rfl) ?_
        refine f_stillP rfl rfl rfl (o_field fa47_0 rfl) ?_
        refine f_stillP rfl rfl rfl (o_load Try.isAgg3 rfl (rdA rfl)) ?_
        refine f_stillP rfl rfl rfl (o_idx sl35 rfl rfl ((prs n l)[k].1.toNat) ⟨by omega, by omega, by first | omega | (simp; done) | (simp; omega)⟩) ?_
        refine f_stillP rfl rfl rfl (o_load Try.isAgg3 rfl (rdA (v := .int .i64 (p[(prs n l)[k].1.toNat] : Int)) (app_get (natN_at hu1)))) ?_
        refine f_stillP rfl rfl rfl (o_move rfl) ?_
        refine f_stillP rfl rfl rfl (o_field fa47_1 rfl) ?_
        refine f_stillP rfl rfl rfl (o_load Try.isAgg3 rfl (rdA rfl)) ?_
        refine f_stillP rfl rfl rfl (o_idx sl35 rfl rfl ((prs n l)[k].2.toNat) ⟨by omega, by omega, by first | omega | (simp; done) | (simp; omega)⟩) ?_
        refine f_stillP rfl rfl rfl (o_load Try.isAgg3 rfl (rdA (v := .int .i64 (p[(prs n l)[k].2.toNat] : Int)) (app_get (natN_at hu2)))) ?_
        refine f_stillP rfl rfl rfl (o_neq rfl rfl) ?_
        refine f_stillD ?_
        refine f_tn (kh29 _ _ ?_)
        clear kh29
        refine f_cond rfl (fun c93 => ?_) (fun c93 => ?_)
        ·
         exact absurd (between_marked hg hp hqm hu1 hu2 (show p[(prs n l)[k].1.toNat] ≠ p[(prs n l)[k].2.toNat] by omega)) hin -- closed
        ·
         have hne : p[(prs n l)[k].1.toNat] = p[(prs n l)[k].2.toNat] := by omega
         have hnx2 := filt_len_no (q := apart (natN p)) hk (by rw [hap]; simpa using hne)
         refine f_reC 14 rfl (v := .int .i64 ((((prs n l).take (k + 1)).filter (apart (natN p))).length : Int)) (by rw [hnx2]) ?_
         refine f_skip ?_
         refine f_bn ?_
         refine f_tn (kh21 _ _ ?_)
         clear kh21
         refine f_region ?_
         refine f_stepP rfl rfl rfl (o_add rfl rfl _ (wrap_i64 (by omega))) ?_
         refine f_stepP rfl rfl rfl (o_move rfl) ?_
         refine f_done ?_
         refine f_tn (f_again (k + 1) (by first | omega | (dsimp only; omega) | (simp; omega)) (by omega) ?_ ?_ ?_)
         · exact (by repeat (first | exact trivial | refine ⟨rfl, ?_⟩))
         · exact (by repeat (first | exact trivial | refine ⟨rfl, ?_⟩))
         · repeat (first | exact Sub.nil | refine Sub.pick ?_ | refine Sub.castO rfl ?_ | refine Sub.skip ?_)
     ·
      refine f_exit ?_
      refine f_te ?_
      clear kh20
      refine f_te ?_
      refine f_be ?_
      refine f_tn (kh17 _ _ ?_)
      clear kh17
      refine f_seq fun K30 kh30 => ?_
      obtain rfl : k = (prs n l).length := by omega
      rw [List.take_length]
      rw [← hMf]
      refine f_region ?_
      refine f_stepP rfl rfl rfl (o_loadA (vs := [_, _]) Try.isAgg24 Try.sizeOf24 rfl rfl ⟨(rdA rfl), (rdA rfl), trivial⟩) ?_
      refine f_stepP rfl rfl rfl (o_move rfl) ?_
      refine f_step rfl rfl rfl (o_call Try.call25 rfl (fun w_ hp_ => Count_spec (n : Int) A AP l cap (natN p) cP w_ (hr.up0 hp_) hl hN hok (seen_ro (hoP.seen hp_)) (by rw [natN_len]; omega)) ?_)
      rintro _ _ ⟨rfl, rfl⟩
      rw [lcnt_rightN hg (tidy_rightN hp.tidy hp.len)]
      dsimp only [List.cons_append, List.nil_append]
      refine f_stepP rfl rfl rfl (o_move rfl) ?_
      refine f_stepP rfl rfl rfl (o_extract rfl rfl) ?_
      refine f_stepP rfl rfl rfl (o_extract rfl rfl) ?_
      refine f_stepP rfl rfl rfl (o_assign rfl) ?_
      refine f_stepP rfl rfl rfl (o_assign rfl) ?_
      refine f_done ?_
      refine f_tn (kh30 _ _ ?_)
      clear kh30
      refine f_seq fun K31 kh31 => ?_
      refine f_region ?_
      refine f_stepP rfl rfl rfl (o_loadA (vs := [_, _]) Try.isAgg24 Try.sizeOf24 rfl rfl ⟨(rdA rfl), (rdA rfl), trivial⟩) ?_
      refine f_step rfl rfl rfl (o_call Try.call26 rfl (fun w_ hp_ => PartsN_spec (n : Int) A l cap w_ (hr.up0 hp_) hl hN hok) ?_)
      rintro _ _ ⟨P2, AP2, cP2, mP2, rfl, rfl, hoP2, hP02, _⟩
      obtain ⟨p2, rfl, hp2⟩ := hP02 hg
      rw [hg]
      rw [Int.toNat_natCast] at hp2
      have hp2l := hp2.len
      dsimp only [List.cons_append, List.nil_append]
      refine f_stepP rfl rfl rfl (o_move rfl) ?_
      refine f_stepP rfl rfl rfl (o_extract rfl rfl) ?_
      refine f_stepP rfl rfl rfl (o_extract rfl rfl) ?_
      refine f_stepP rfl rfl rfl (o_assign rfl) ?_
      refine f_stepP rfl rfl rfl (o_assign rfl) ?_
      refine f_done ?_
      refine f_tn (kh31 _ _ ?_)
      clear kh31
      refine f_seq fun K32 kh32 => ?_
      refine f_region ?_
      refine f_stepP rfl rfl rfl (o_loadA (vs := [_, _]) Try.isAgg24 Try.sizeOf24 rfl rfl ⟨(rdA rfl), (rdA rfl), trivial⟩) ?_
      refine f_step rfl rfl rfl (o_call Try.call15 rfl (fun w_ hp_ => Fragments_spec (n : Int) A none l cap [] 0 w_ (hr.up0 hp_) hl hN hok Ro.nil (by simp) (fun p hp => by cases hp)) ?_)
      rintro _ _ ⟨P3, AP3, cP3, mP3, rfl, rfl, hoP3, hP03, _⟩
      obtain ⟨p3, rfl, hp3⟩ := hP03 (frag_nil hg)
      rw [Int.toNat_natCast, keepA_nil] at hp3
      obtain rfl : p3 = p2 := hp3.unique hp2 fun _ _ _ _ => Iff.rfl
      rw [frag_nil hg]
      dsimp only [List.cons_append, List.nil_append]
      refine f_stepP rfl rfl rfl (o_move rfl) ?_
      refine f_stepP rfl rfl rfl (o_extract rfl rfl) ?_
      refine f_stepP rfl rfl rfl (o_extract rfl rfl) ?_
      refine f_stepP rfl rfl rfl (o_assign rfl) ?_
      refine f_stepP rfl rfl rfl (o_assign rfl) ?_
      refine f_done ?_
      refine f_tn (kh32 _ _ ?_)
      clear kh32
      refine f_seq fun K33 kh33 => ?_
      refine f_region ?_
      refine f_stepP rfl rfl rfl (o_move rfl) ?_
      refine f_stepP rfl rfl rfl (o_move rfl) ?_
      refine f_stepP rfl rfl rfl (o_len sl28 rfl) ?_
      refine f_stepP rfl rfl rfl (o_eql rfl rfl) ?_
      refine f_stepP rfl rfl rfl (o_move rfl) ?_
      refine f_trueL 119 rfl (rfl) ?_
      refine f_stepPY rfl rfl rfl rfl rfl (o_move rfl) ?_
      refine f_stepPY rfl rfl rfl rfl rfl (o_eql rfl rfl) ?_
      refine f_stepP rfl rfl rfl (o_pickT rfl rfl) ?_
      refine f_stepP rfl rfl rfl (o_move rfl) ?_
      refine f_trueL 123 rfl (rfl) ?_
      refine f_stepPY rfl rfl rfl rfl rfl (o_move rfl) ?_
      refine f_stepPY rfl rfl rfl rfl rfl (o_move rfl) ?_
      refine f_stepPY rfl rfl rfl rfl rfl (o_eql rfl rfl) ?_
      refine f_stepP rfl rfl rfl (o_pickT rfl rfl) ?_
      refine f_stepP rfl rfl rfl (o_move rfl) ?_
      refine f_trueL 128 rfl (rfl) ?_
      refine f_stepPY rfl rfl rfl rfl rfl (o_move rfl) ?_
      refine f_stepPY rfl rfl rfl rfl rfl (o_eql rfl rfl) ?_
      refine f_stepP rfl rfl rfl (o_pickT rfl rfl) ?_
      refine f_stepP rfl rfl rfl (o_move rfl) ?_
      refine f_trueL 132 rfl (rfl) ?_
      refine f_stepPY rfl rfl rfl rfl rfl (o_move rfl) ?_
      refine f_stepPY rfl rfl rfl rfl rfl (o_eql rfl rfl) ?_
      refine f_stepP rfl rfl rfl (o_pickT rfl rfl) ?_
      refine f_stepP rfl rfl rfl (o_move rfl) ?_
      refine f_trueL 136 rfl (rfl) ?_
      refine f_stepPY rfl rfl rfl rfl rfl (o_move rfl) ?_
      refine f_stepPY rfl rfl rfl rfl rfl (o_move rfl) ?_
      refine f_stepY rfl rfl rfl rfl rfl (o_call Try.call17 rfl (fun w_ hp_ => SameInts_spec AP2 AP3 (natN p3) (natN p3) cP2 cP3 w_ (seen_ro (hoP2.seen hp_)) (seen_ro (hoP3.seen hp_)) (by rw [natN_len]; omega)) ?_)
      rintro _ _ ⟨rfl, rfl⟩
      rw [decide_eq_true rfl]
      dsimp only [List.cons_append, List.nil_append]
      refine f_stepP rfl rfl rfl (o_pickT rfl rfl) ?_
      refine f_stepP rfl rfl rfl (o_assign rfl) ?_
      refine f_done ?_
      refine f_tn (kh33 _ _ ?_)
      clear kh33
      refine f_ret ?_
      exact f_fin1 [] Try.results7 rfl Sub.nil ⟨rfl, rfl⟩

end Go.Proofs.Ytbjiejhdgkpjcaa

/- flyoverlaw08: NatcutOrder. -/
namespace Go.Proofs.Ytbjiejhdgkpjcaa
open Go Go.RowKit Fly
set_option linter.unusedVariables false
set_option linter.unusedSimpArgs false


/-- The centres turned about, each twice. -/
def bkC (cs : List Int) (j : Nat) : List Int := (cs.drop j).reverse.flatMap fun v => [v, v]
theorem bkC_all (cs : List Int) : bkC cs cs.length = [] := by simp [bkC]
theorem bkC_next {cs : List Int} {k : Nat} (h : k < cs.length) : bkC cs k = bkC cs (k + 1) ++ [cs[k], cs[k]] := by
  unfold bkC; rw [List.drop_eq_getElem_cons h, List.reverse_cons, List.flatMap_append]; simp
theorem bkC_len (cs : List Int) (j : Nat) : (bkC cs j).length = 2 * (cs.length - j) := by
  unfold bkC
  rw [List.length_flatMap]
  simp only [List.length_cons, List.length_nil, List.map_const', List.sum_replicate_nat, List.length_reverse, List.length_drop]
  omega
theorem bkC_mem {cs : List Int} {v : Int} : v ∈ bkC cs 0 ↔ v ∈ cs := by
  unfold bkC
  simp only [List.drop_zero, List.mem_flatMap, List.mem_reverse, List.mem_cons, List.not_mem_nil, or_false, or_self]
  exact ⟨fun ⟨a, h, e⟩ => e ▸ h, fun h => ⟨v, h, rfl⟩⟩
theorem mk_back {N : Int} {l : List Arc} {cs : List Int} {most : Int} (h : cs.length ≤ 8) : mkE N l (bkC cs 0) most = mkE N l cs most := by
  have h1 := bkC_len cs 0
  have h2 : (bkC cs 0).any (offV N) = cs.any (offV N) := by
    rw [Bool.eq_iff_iff]
    simp only [List.any_eq_true]
    exact ⟨fun ⟨v, a, b⟩ => ⟨v, bkC_mem.1 a, b⟩, fun ⟨v, a, b⟩ => ⟨v, bkC_mem.2 a, b⟩⟩
  unfold mkE
  rw [h2]
  by_cases h3 : (gcheck N l).2 ≠ 0
  · rw [if_pos h3, if_pos h3]
  · rw [if_neg h3, if_neg h3, if_neg (show ¬ 16384 < (bkC cs 0).length by omega), if_neg (show ¬ 16384 < cs.length by omega)]
/-- Which pairs have been seen. -/
structure SnP (D : List Pr) (ents : List ((Int × Int) × Value × Nat)) : Prop where
  nd : D.Nodup
  get : ∀ p, (mget ents p).getD (.bool false) = .bool (decide (p ∈ D))
theorem SnP.nil : SnP [] [] := ⟨List.nodup_nil, fun p => by simp [mget]⟩
theorem SnP.add {D : List Pr} {ents : List ((Int × Int) × Value × Nat)} (h : SnP D ents) {q : Pr} (hq : q ∉ D) (k : Nat) : SnP (D ++ [q]) (mput ents q (.bool true) k) where
  nd := List.nodup_append.2 ⟨h.nd, by simp, fun a ha b hb e => by simp at hb; subst hb; exact hq (e ▸ ha)⟩
  get := fun p => by
    rw [mget_put]
    by_cases e : p = q
    · rw [if_pos e, decide_eq_true (by simp [e])]; rfl
    · rw [if_neg e, h.get p]
      have : (p ∈ D ++ [q]) ↔ p ∈ D := by simp [e]
      rw [decide_eq_decide.2 this]
theorem SnP.again {D : List Pr} {ents : List ((Int × Int) × Value × Nat)} (h : SnP D ents) {q : Pr} (hq : q ∈ D) (k : Nat) : SnP D (mput ents q (.bool true) k) where
  nd := h.nd
  get := fun p => by
    rw [mget_put]
    by_cases e : p = q
    · rw [if_pos e, decide_eq_true (by rw [e]; exact hq)]; rfl
    · rw [if_neg e, h.get p]
theorem sn_take {C D D' : List Pr} {j : Nat} (hj : j < C.length) (h : ∀ p, p ∈ D' ↔ p ∈ D ∨ p ∈ C.take j) : (C[j] ∈ D' → ∀ p, p ∈ D' ↔ p ∈ D ∨ p ∈ C.take (j + 1)) ∧ ∀ p, p ∈ D' ++ [C[j]] ↔ p ∈ D ∨ p ∈ C.take (j + 1) := by
  rw [List.take_succ_eq_append_getElem hj]
  simp only [List.mem_append, List.mem_singleton]
  refine ⟨fun hm p => ?_, fun p => ?_⟩
  · constructor
    · intro h1; rcases (h p).1 h1 with h2 | h2
      · exact .inl h2
      · exact .inr (.inl h2)
    · rintro (h1 | h1 | h1)
      · exact (h p).2 (.inl h1)
      · exact (h p).2 (.inr h1)
      · rw [h1]; exact hm
  · rw [h p]; exact or_assoc

set_option maxRecDepth 100000 in
set_option maxHeartbeats 4000000 in
theorem NatcutOrder_spec (N : Int) (A : Option Addr) (l : List Arc) (cap : Nat) (B : Option Addr) (cs : List Int) (cb : Nat) (most : Int) (w : World) (hr : Ro (Fr w []) w A (l.flatMap arcCs)) (hl : l.length ≤ 9223372036854775807) (hN : I64 N) (hok : ∀ x ∈ l, ArcOk x) (hC : Ro (Fr w []) w B (ints cs)) (hcm : cs.length ≤ 9223372036854775807) :
    Meets Try.prog 6 [.agg #[.int .i64 N, .slice A l.length cap], .slice B cs.length cb, .int .i64 most] w [] (fun u m => u = .bool true ∧ m = []) := by
 refine f_enter Try.func6 rfl Try.ntmps6 rfl Owns.nil ?_
 refine f_seq fun K1 kh1 => ?_
 refine f_region ?_
 refine f_step rfl rfl rfl (o_box rfl rfl fun b3 => ?_)
 refine f_stepP rfl rfl rfl (o_assign rfl) ?_
 refine f_done ?_
 refine f_tn (kh1 _ _ ?_)
 clear kh1
 refine f_seq fun K2 kh2 => ?_
 refine f_seq fun K3 kh3 => ?_
 refine f_region ?_
 refine f_step rfl rfl rfl (o_call Try.call9 rfl (fun w_ hp_ => works_spec w_) ?_)
 rintro _ _ ⟨rfl, rfl⟩
 dsimp only [List.cons_append, List.nil_append]
 refine f_stepP rfl rfl rfl (o_not rfl) ?_
 refine f_done ?_
 refine f_tn (kh3 _ _ ?_)
 clear kh3
 refine f_condF rfl ?_
 refine f_skip ?_
 refine f_tn (kh2 _ _ ?_)
 clear kh2
 refine f_seq fun K4 kh4 => ?_
 refine f_seq fun K5 kh5 => ?_
 refine f_region ?_
 refine f_stepP rfl rfl rfl (o_loadA (vs := [_, _]) Try.isAgg24 Try.sizeOf24 rfl rfl ⟨(rdA rfl), (rdA rfl), trivial⟩) ?_
 refine f_step rfl rfl rfl (o_call Try.call19 rfl (fun w_ hp_ => large_spec N A l cap w_ (hr.up0 hp_) hl hN hok) ?_)
 rintro _ _ ⟨bL, rfl, rfl⟩
 dsimp only [List.cons_append, List.nil_append]
 refine f_stepP rfl rfl rfl (o_move rfl) ?_
 refine f_splitLB 27 rfl (fun g27 => ?_) (fun g27 => ?_)
 ·
  refine f_stepN rfl rfl rfl rfl rfl rfl ?_
  refine f_stepN rfl rfl rfl rfl rfl rfl ?_
  refine f_stepN rfl rfl rfl rfl rfl rfl ?_
  refine f_stepP rfl rfl rfl (o_pickT rfl rfl) ?_
  refine f_done ?_
  refine f_tn (kh5 _ _ ?_)
  clear kh5
  refine f_condT rfl ?_
  refine f_seq fun K6 kh6 => ?_
  refine f_region ?_
  refine f_stepP rfl rfl rfl (o_assign rfl) ?_
  refine f_done ?_
  refine f_tn (kh6 _ _ ?_)
  clear kh6
  refine f_ret ?_
  refine f_tr ?_
  exact f_fin1 [] Try.results6 rfl Sub.nil ⟨rfl, rfl⟩
 ·
  refine f_stepPY rfl rfl rfl rfl rfl (o_move rfl) ?_
  refine f_stepPY rfl rfl rfl rfl rfl (o_len sl35 rfl) ?_
  refine f_stepPY rfl rfl rfl rfl rfl (o_gtr rfl rfl) ?_
  refine f_stepP rfl rfl rfl (o_pickF rfl rfl) ?_
  refine f_done ?_
  refine f_tn (kh5 _ _ ?_)
  clear kh5
  refine f_cond rfl (fun c31 => ?_) (fun c31 => ?_)
  ·
   refine f_seq fun K7 kh7 => ?_
   refine f_region ?_
   refine f_stepP rfl rfl rfl (o_assign rfl) ?_
   refine f_done ?_
   refine f_tn (kh7 _ _ ?_)
   clear kh7
   refine f_ret ?_
   refine f_tr ?_
   exact f_fin1 [] Try.results6 rfl Sub.nil ⟨rfl, rfl⟩
  ·
   refine f_skip ?_
   refine f_tn (kh4 _ _ ?_)
   clear kh4
   refine f_seq fun K8 kh8 => ?_
   refine f_region ?_
   refine f_stepP rfl rfl rfl (o_loadA (vs := [_, _]) Try.isAgg24 Try.sizeOf24 rfl rfl ⟨(rdA rfl), (rdA rfl), trivial⟩) ?_
   refine f_stepP rfl rfl rfl (o_move rfl) ?_
   refine f_stepP rfl rfl rfl (o_move rfl) ?_
   refine f_step rfl rfl rfl (o_call Try.call23 rfl (fun w_ hp_ => Marks_spec N A B l cap cs cb most w_ (hr.up0 hp_) hl hN hok (hC.up0 hp_) hcm) ?_)
   rintro _ _ ⟨M, AM, cM, mM, rfl, rfl, hoM, hMe, hM0⟩
   dsimp only [List.cons_append, List.nil_append]
   refine f_stepP rfl rfl rfl (o_move rfl) ?_
   refine f_stepP rfl rfl rfl (o_extract rfl rfl) ?_
   refine f_stepP rfl rfl rfl (o_extract rfl rfl) ?_
   refine f_stepP rfl rfl rfl (o_assign rfl) ?_
   refine f_stepP rfl rfl rfl (o_assign rfl) ?_
   refine f_done ?_
   refine f_tn (kh8 _ _ ?_)
   clear kh8
   refine f_seq fun K9 kh9 => ?_
   have hc8 : cs.length ≤ 8 := by omega
   refine f_region ?_
   refine f_stepP rfl rfl rfl (o_assign rfl) ?_
   refine f_done ?_
   refine f_tn (kh9 _ _ ?_)
   clear kh9
   refine f_seq fun K10 kh10 => ?_
   refine f_seq fun K11 kh11 => ?_
   skip
   refine f_region ?_
   refine f_stepP rfl rfl rfl (o_move rfl) ?_
   refine f_stepP rfl rfl rfl (o_len sl35 rfl) ?_
   refine f_stepP rfl rfl rfl (o_sub rfl rfl _ (wrap_i64 (by omega))) ?_
   refine f_stepP rfl rfl rfl (o_assign rfl) ?_
   refine f_done ?_
   refine f_tn (kh11 _ _ ?_)
   clear kh11
   refine f_block ?_
   refine f_loop (α := Nat × Value × Seg) [1, 2, 3, 7, 8] (fun ⟨j, vo, mo⟩ => [(10, .int .i64 ((j : Int) - 1)), (9, vo)]) (fun ⟨j, vo, mo⟩ => [mo, mM, [(b3, blk [.int .i64 N, .slice A l.length cap] 24)]]) (fun ⟨j, vo, mo⟩ => j ≤ cs.length ∧ Own 3 1 vo (bkC cs j).length (ints (bkC cs j)) mo) (fun ⟨j, vo, mo⟩ => j) (cs.length, .slice none 0 0, []) ?_ ?_ ?_ ?_
   · exact (by repeat (first | exact trivial | refine ⟨rfl, ?_⟩))
   · repeat (first | exact Sub.nil | refine Sub.pick ?_ | refine Sub.castO rfl ?_ | refine Sub.skip ?_)
   · exact ⟨Nat.le_refl _, by rw [bkC_all]; exact Own.nil _ _⟩
   ·
    rintro ⟨j, vo, mo⟩ ⟨hjl, hO⟩
    refine f_seq fun K12 kh12 => ?_
    refine f_seq fun K13 kh13 => ?_
    refine f_region ?_
    refine f_stepP rfl rfl rfl (o_move rfl) ?_
    refine f_stepP rfl rfl rfl (o_geq rfl rfl) ?_
    refine f_done ?_
    refine f_tn (kh13 _ _ ?_)
    clear kh13
    refine f_cond rfl (fun c43 => ?_) (fun c43 => ?_)
    ·
     obtain ⟨k, rfl⟩ : ∃ k, j = k + 1 := ⟨j - 1, by omega⟩
     have hk : k < cs.length := by omega
     obtain ⟨bb, ob, rfl, hSb, hcb⟩ := hC (fun e => by have := ints_length cs; rw [e] at this; simp at this; omega)
     have hbl := bkC_len cs (k + 1)
     have hbn := bkC_next hk
     refine f_skip ?_
     refine f_tn (kh12 _ _ ?_)
     clear kh12
     refine f_seq fun K14 kh14 => ?_
     refine f_block ?_
     refine f_regionH [] rfl ?_
     refine f_take 0 rfl (by decide +kernel) rfl rfl rfl (by repeat (first | exact Sub.nil | refine Sub.pick ?_ | refine Sub.castO rfl ?_ | refine Sub.skip ?_)) (o_move rfl) ?_
     refine f_take 1 rfl (by decide +kernel) rfl rfl rfl (by repeat (first | exact Sub.nil | refine Sub.pick ?_ | refine Sub.castO rfl ?_ | refine Sub.skip ?_)) (o_move rfl) ?_
     refine f_take 2 rfl (by decide +kernel) rfl rfl rfl (by repeat (first | exact Sub.nil | refine Sub.pick ?_ | refine Sub.castO rfl ?_ | refine Sub.skip ?_)) (o_move rfl) ?_
     refine f_take 3 rfl (by decide +kernel) rfl rfl rfl (by repeat (first | exact Sub.nil | refine Sub.pick ?_ | refine Sub.castO rfl ?_ | refine Sub.skip ?_)) (o_idx sl35 rfl rfl (ob + k) ⟨by omega, by omega, by first | omega | (simp; done) | (simp; omega)⟩) ?_
     refine f_take 4 rfl (by decide +kernel) rfl rfl rfl (by repeat (first | exact Sub.nil | refine Sub.pick ?_ | refine Sub.castO rfl ?_ | refine Sub.skip ?_)) (o_load Try.isAgg3 rfl (roOne (enc := (.int .i64 ·)) hSb hcb hk)) ?_
     refine f_take 5 rfl (by decide +kernel) rfl rfl rfl (by repeat (first | exact Sub.nil | refine Sub.pick ?_ | refine Sub.castO rfl ?_ | refine Sub.skip ?_)) (o_move rfl) ?_
     refine f_take 6 rfl (by decide +kernel) rfl rfl rfl (by repeat (first | exact Sub.nil | refine Sub.pick ?_ | refine Sub.castO rfl ?_ | refine Sub.skip ?_)) (o_move rfl) ?_
     refine f_take 7 rfl (by decide +kernel) rfl rfl rfl (by repeat (first | exact Sub.nil | refine Sub.pick ?_ | refine Sub.castO rfl ?_ | refine Sub.skip ?_)) (o_idx sl35 rfl rfl (ob + k) ⟨by omega, by omega, by first | omega | (simp; done) | (simp; omega)⟩) ?_
     refine f_take 8 rfl (by decide +kernel) rfl rfl rfl (by repeat (first | exact Sub.nil | refine Sub.pick ?_ | refine Sub.castO rfl ?_ | refine Sub.skip ?_)) (o_load Try.isAgg3 rfl (roOne (enc := (.int .i64 ·)) hSb hcb hk)) ?_
     refine f_only 9 rfl (by decide +kernel) rfl rfl rfl (o_sliceN (len := 2) el35 (by omega) rfl (show _ = some [.int .i64 cs[k], .int .i64 cs[k]].toArray from rfl) fun b55 => ⟨(by repeat (first | exact Sub.nil | refine Sub.pick ?_ | refine Sub.castO rfl ?_ | refine Sub.skip ?_)), ?_⟩)
     refine f_only 10 rfl (by decide +kernel) rfl rfl rfl (o_append el35 rfl rfl hO (ys := [.int .i64 cs[k], .int .i64 cs[k]]) ⟨(rdA rfl), (rdA rfl), trivial⟩ rfl rfl (by omega) (by omega) fun v56 m56 o56 => ⟨(by repeat (first | exact Sub.nil | refine Sub.pick ?_ | refine Sub.castO rfl ?_ | refine Sub.skip ?_)), ?_⟩)
     refine f_only 11 rfl (by decide +kernel) rfl rfl rfl ((o_assign rfl).does ⟨(by repeat (first | exact Sub.nil | refine Sub.pick ?_ | refine Sub.castO rfl ?_ | refine Sub.skip ?_)), ?_⟩)
     refine f_over (by decide +kernel) ?_
     refine f_bn ?_
     refine f_tn (kh14 _ _ ?_)
     clear kh14
     refine f_region ?_
     refine f_stepP rfl rfl rfl (o_move rfl) ?_
     refine f_stepP rfl rfl rfl (o_sub rfl rfl _ (Eq.trans (wrap_i64 (by omega)) (show _ = (k : Int) - 1 by omega))) ?_
     refine f_stepP rfl rfl rfl (o_assign rfl) ?_
     refine f_done ?_
     refine f_tn (f_again (k, v56, m56) (by first | omega | (dsimp only; omega) | (simp; omega)) ⟨by omega, by rw [hbn, List.length_append, ints_append]; exact o56⟩ ?_ ?_ ?_)
     · exact (by repeat (first | exact trivial | refine ⟨rfl, ?_⟩))
     · exact (by repeat (first | exact trivial | refine ⟨rfl, ?_⟩))
     · repeat (first | exact Sub.nil | refine Sub.pick ?_ | refine Sub.castO rfl ?_ | refine Sub.skip ?_)
    ·
     obtain rfl : j = 0 := by omega
     obtain ⟨Ao, co, rfl, hco⟩ := hO.val
     refine f_exit ?_
     refine f_te ?_
     clear kh12
     refine f_te ?_
     refine f_be ?_
     refine f_tn (kh10 _ _ ?_)
     clear kh10
     refine f_seq fun K15 kh15 => ?_
     refine f_region ?_
     refine f_stepP rfl rfl rfl (o_loadA (vs := [_, _]) Try.isAgg24 Try.sizeOf24 rfl rfl ⟨(rdA rfl), (rdA rfl), trivial⟩) ?_
     refine f_stepP rfl rfl rfl (o_move rfl) ?_
     refine f_stepP rfl rfl rfl (o_move rfl) ?_
     refine f_step rfl rfl rfl (o_call Try.call23 rfl (fun w_ hp_ => Marks_spec N A Ao l cap (bkC cs 0) co most w_ (hr.up0 hp_) hl hN hok (seen_ro (hO.seen hp_)) (by have := bkC_len cs 0; omega)) ?_)
     rintro _ _ ⟨M2, A2, c2, m2, rfl, rfl, hoM2, hM2e, hM20⟩
     rw [mk_back hc8] at hM2e hM20 ⊢
     obtain rfl : M2 = M := by
       by_cases hz : mkE N l cs most = 0
       · exact out_same (hM20 hz).1 (hM0 hz).1 (hM20 hz).2 (hM0 hz).2 fun v => bkC_mem
       · rw [hM2e hz, hMe hz]
     have hM8 : M2.length ≤ 8192 := by
       by_cases hz : mkE N l cs most = 0
       · have hgz := mk_good hz
         obtain ⟨n0, hn0⟩ : ∃ n : Nat, N = (n : Int) := ⟨N.toNat, by have := gcheck_zero hgz; omega⟩
         have h2 := hM0 hz
         rw [hn0, Int.toNat_natCast] at h2
         rw [hn0] at hgz
         exact Nat.le_trans (List.Nodup.length_le_of_subset (nodup_X h2.1) (out_sub h2.2)) (prs_len8 hgz)
       · rw [hMe hz]; simp
     dsimp only [List.cons_append, List.nil_append]
     refine f_stepP rfl rfl rfl (o_move rfl) ?_
     refine f_stepP rfl rfl rfl (o_extract rfl rfl) ?_
     refine f_stepP rfl rfl rfl (o_extract rfl rfl) ?_
     refine f_stepP rfl rfl rfl (o_assign rfl) ?_
     refine f_stepP rfl rfl rfl (o_assign rfl) ?_
     refine f_done ?_
     refine f_tn (kh15 _ _ ?_)
     clear kh15
     refine f_seq fun K16 kh16 => ?_
     refine f_seq fun K17 kh17 => ?_
     refine f_region ?_
     refine f_stepP rfl rfl rfl (o_move rfl) ?_
     refine f_stepP rfl rfl rfl (o_move rfl) ?_
     refine f_stepP rfl rfl rfl (o_neq rfl rfl) ?_
     refine f_stepP rfl rfl rfl (o_move rfl) ?_
     refine f_falseL 67 rfl (by simp) ?_
     refine f_stepPY rfl rfl rfl rfl rfl (o_move rfl) ?_
     refine f_stepPY rfl rfl rfl rfl rfl (o_move rfl) ?_
     refine f_stepY rfl rfl rfl rfl rfl (o_call Try.call13 rfl (fun w_ hp_ => SamePairs_spec AM A2 M2 M2 M2.length M2.length w_ (seen_ro (hoM.seen hp_)) (seen_ro (hoM2.seen hp_)) (by omega)) ?_)
     rintro _ _ ⟨rfl, rfl⟩
     rw [decide_eq_true rfl]
     dsimp only [List.cons_append, List.nil_append]
     refine f_stepPY rfl rfl rfl rfl rfl (o_not rfl) ?_
     refine f_stepP rfl rfl rfl (o_pickF rfl rfl) ?_
     refine f_done ?_
     refine f_tn (kh17 _ _ ?_)
     clear kh17
     refine f_condF rfl ?_
     refine f_skip ?_
     refine f_tn (kh16 _ _ ?_)
     clear kh16
     refine f_seq fun K18 kh18 => ?_
     refine f_seq fun K19 kh19 => ?_
     refine f_region ?_
     refine f_stepP rfl rfl rfl (o_move rfl) ?_
     refine f_stepP rfl rfl rfl (o_neq rfl rfl) ?_
     refine f_done ?_
     refine f_tn (kh19 _ _ ?_)
     clear kh19
     refine f_cond rfl (fun c74 => ?_) (fun c74 => ?_)
     ·
      have hz : mkE N l cs most ≠ 0 := by simpa using c74
      obtain rfl := hMe hz
      refine f_seq fun K20 kh20 => ?_
      refine f_region ?_
      refine f_stepP rfl rfl rfl (o_move rfl) ?_
      refine f_stepP rfl rfl rfl (o_len sl28 rfl) ?_
      refine f_stepP rfl rfl rfl (o_eql rfl rfl) ?_
      refine f_stepP rfl rfl rfl (o_assign rfl) ?_
      refine f_done ?_
      refine f_tn (kh20 _ _ ?_)
      clear kh20
      refine f_ret ?_
      refine f_tr ?_
      exact f_fin1 [] Try.results6 rfl Sub.nil ⟨by simp, rfl⟩
     ·
      have hz : mkE N l cs most = 0 := by simpa using c74
      obtain ⟨hMs, hMO⟩ := hM0 hz
      have hg' := mk_good hz
      obtain ⟨hmk1, hmk2⟩ := mk_parts hz
      obtain ⟨hg1, hg2, hl8, hgd⟩ := gcheck_zero hg'
      obtain ⟨n, rfl⟩ : ∃ n : Nat, N = (n : Int) := ⟨N.toNat, by omega⟩
      have hg : (gcheck (n : Int) l).2 = 0 := hg'
      rw [Int.toNat_natCast] at hMO
      refine f_skip ?_
      refine f_tn (kh18 _ _ ?_)
      clear kh18
      refine f_seq fun K21 kh21 => ?_
      refine f_region ?_
      refine f_stepP rfl rfl rfl (o_assign rfl) ?_
      refine f_done ?_
      refine f_tn (kh21 _ _ ?_)
      clear kh21
      refine f_seq fun K22 kh22 => ?_
      refine f_region ?_
      refine f_step rfl rfl rfl (o_makeMap fun b78 => ?_)
      refine f_stepP rfl rfl rfl (o_assign rfl) ?_
      refine f_done ?_
      refine f_tn (kh22 _ _ ?_)
      clear kh22
      refine f_seq fun K23 kh23 => ?_
      refine f_seq fun K24 kh24 => ?_
      refine f_region ?_
      refine f_stepP rfl rfl rfl (o_move rfl) ?_
      refine f_stepP rfl rfl rfl (o_len sl35 rfl) ?_
      refine f_stepP rfl rfl rfl (o_move rfl) ?_
      refine f_done ?_
      refine f_tn (kh24 _ _ ?_)
      clear kh24
      refine f_block ?_
      refine f_loop (α := Nat × List ((Int × Int) × Value × Nat) × Nat × List Pr) [2, 3, 7, 14, 79, 80] (fun ⟨k, ents, c1, D⟩ => [(81, .int .i64 (k : Int)), (13, .int .i64 (D.length : Int))]) (fun ⟨k, ents, c1, D⟩ => [[(b78, mobj enc2 ents c1)], mM, [(b3, blk [.int .i64 (n : Int), .slice A l.length cap] 24)]]) (fun ⟨k, ents, c1, D⟩ => k ≤ cs.length ∧ MOk ents c1 ∧ SnP D ents ∧ OutI n l most (cs.take k) D ∧ D.length ≤ k * 1048576) (fun ⟨k, ents, c1, D⟩ => cs.length - k) (0, [], 0, []) ?_ ?_ ?_ ?_
      · exact (by repeat (first | exact trivial | refine ⟨rfl, ?_⟩))
      · repeat (first | exact Sub.nil | refine Sub.pick ?_ | refine Sub.castO rfl ?_ | refine Sub.skip ?_)
      · exact ⟨Nat.zero_le _, MOk.nil, SnP.nil, fun p => by simp, by simp⟩
      ·
       rintro ⟨k, ents, c1, D⟩ ⟨hkl, hmap, hSn, hOI, hDl⟩
       refine f_envC (e := [(81, _), (13, _), (2, _), (3, _), (7, _), (14, _), (79, _), (80, _)]) (by repeat (first | exact trivial | refine ⟨rfl, ?_⟩)) ?_
       refine f_seq fun K25 kh25 => ?_
       refine f_region ?_
       refine f_stepP rfl rfl rfl (o_lss rfl rfl) ?_
       refine f_done ?_
       refine f_tn (kh25 _ _ ?_)
       clear kh25
       refine f_seq fun K26 kh26 => ?_
       refine f_cond rfl (fun c82 => ?_) (fun c82 => ?_)
       ·
        have hk : k < cs.length := by omega
        have hplen := prs_len8 hg
        obtain ⟨bb, ob, rfl, hSb, hcb⟩ := hC (fun e => by have := ints_length cs; rw [e] at this; simp at this; omega)
        have hnz := nc_zero (reg_zeroN (most := most) hg (hmk2 _ (List.getElem_mem hk)) hmk1)
        refine f_skip ?_
        refine f_tn (kh26 _ _ ?_)
        clear kh26
        refine f_seq fun K27 kh27 => ?_
        refine f_block ?_
        refine f_seq fun K28 kh28 => ?_
        refine f_region ?_
        refine f_stepP rfl rfl rfl (o_idx sl35 rfl rfl (ob + k) ⟨by omega, by omega, by first | omega | (simp; done) | (simp; omega)⟩) ?_
        refine f_stepP rfl rfl rfl (o_load Try.isAgg3 rfl (roOne (enc := (.int .i64 ·)) hSb hcb hk)) ?_
        refine f_stepP rfl rfl rfl (o_assign rfl) ?_
        refine f_done ?_
        refine f_tn (kh28 _ _ ?_)
        clear kh28
        refine f_seq fun K29 kh29 => ?_
        refine f_region ?_
        refine f_stepP rfl rfl rfl (o_loadA (vs := [_, _]) Try.isAgg24 Try.sizeOf24 rfl rfl ⟨(rdA rfl), (rdA rfl), trivial⟩) ?_
        refine f_stepP rfl rfl rfl (o_move rfl) ?_
        refine f_stepP rfl rfl rfl (o_move rfl) ?_
        refine f_step rfl rfl rfl (o_call Try.call11 rfl (fun w_ hp_ => CutN_spec (n : Int) A l cap cs[k] most w_ (hr.up0 hp_) hl hN hok) ?_)
        rintro _ _ ⟨C, AC, cC, mC, rfl, rfl, hoC, _, hC0⟩
        rw [hnz]
        have hCc := hC0 hnz
        rw [Int.toNat_natCast] at hCc
        obtain ⟨hCs, hCl⟩ := nc_sub hCc
        dsimp only [List.cons_append, List.nil_append]
        refine f_stepP rfl rfl rfl (o_move rfl) ?_
        refine f_stepP rfl rfl rfl (o_extract rfl rfl) ?_
        refine f_stepP rfl rfl rfl (o_extract rfl rfl) ?_
        refine f_stepP rfl rfl rfl (o_assign rfl) ?_
        refine f_stepP rfl rfl rfl (o_assign rfl) ?_
        refine f_done ?_
        refine f_tn (kh29 _ _ ?_)
        clear kh29
        refine f_seq fun K30 kh30 => ?_
        refine f_seq fun K31 kh31 => ?_
        refine f_region ?_
        refine f_stepP rfl rfl rfl (o_move rfl) ?_
        refine f_stepP rfl rfl rfl (o_neq rfl rfl) ?_
        refine f_done ?_
        refine f_tn (kh31 _ _ ?_)
        clear kh31
        refine f_condN rfl (by simp) ?_
        refine f_skip ?_
        refine f_tn (kh30 _ _ ?_)
        clear kh30
        refine f_seq fun K32 kh32 => ?_
        refine f_region ?_
        refine f_stepP rfl rfl rfl (o_move rfl) ?_
        refine f_stepP rfl rfl rfl (o_len sl28 rfl) ?_
        refine f_stepP rfl rfl rfl (o_move rfl) ?_
        refine f_done ?_
        refine f_tn (kh32 _ _ ?_)
        clear kh32
        refine f_block ?_
        refine f_loop (α := Nat × List ((Int × Int) × Value × Nat) × Nat × List Pr) [2, 3, 7, 14, 79, 80, 81, 94, 95] (fun ⟨j, ents, c1, D2⟩ => [(96, .int .i64 (j : Int)), (13, .int .i64 (D2.length : Int))]) (fun ⟨j, ents, c1, D2⟩ => [[(b78, mobj enc2 ents c1)], mC, mM, [(b3, blk [.int .i64 (n : Int), .slice A l.length cap] 24)]]) (fun ⟨j, ents, c1, D2⟩ => j ≤ C.length ∧ MOk ents c1 ∧ SnP D2 ents ∧ (∀ p, p ∈ D2 ↔ p ∈ D ∨ p ∈ C.take j) ∧ D2.length ≤ D.length + j) (fun ⟨j, ents, c1, D2⟩ => C.length - j) (0, ents, c1, D) ?_ ?_ ?_ ?_
        · exact (by repeat (first | exact trivial | refine ⟨rfl, ?_⟩))
        · repeat (first | exact Sub.nil | refine Sub.pick ?_ | refine Sub.castO rfl ?_ | refine Sub.skip ?_)
        · exact ⟨Nat.zero_le _, hmap, hSn, fun p => by simp, Nat.le_refl _⟩
        ·
         rintro ⟨j, ents2, c2_, D2⟩ ⟨hjl, hmap2, hSn2, hD2, hDl2⟩
         refine f_envC (e := [(96, _), (13, _), (2, _), (3, _), (7, _), (14, _), (79, _), (80, _), (81, _), (94, _), (95, _)]) (by repeat (first | exact trivial | refine ⟨rfl, ?_⟩)) ?_
         refine f_seq fun K33 kh33 => ?_
         refine f_region ?_
         refine f_stepP rfl rfl rfl (o_lss rfl rfl) ?_
         refine f_done ?_
         refine f_tn (kh33 _ _ ?_)
         clear kh33
         refine f_seq fun K34 kh34 => ?_
         refine f_cond rfl (fun c97 => ?_) (fun c97 => ?_)
         ·
          have hj : j < C.length := by omega
          obtain ⟨bC, spC, rfl, rfl⟩ := hoC.at_ (by omega)
          have hlk := hSn2.get C[j]
          obtain ⟨hst1, hst2⟩ := sn_take hj hD2
          refine f_skip ?_
          refine f_tn (kh34 _ _ ?_)
          clear kh34
          refine f_seq fun K35 kh35 => ?_
          refine f_block ?_
          refine f_seq fun K36 kh36 => ?_
          refine f_region ?_
          refine f_stepP rfl rfl rfl (o_idx sl28 rfl rfl (j * 2) ⟨by omega, by omega, by first | omega | (simp; done) | (simp; omega)⟩) ?_
          refine f_stepP rfl rfl rfl (o_loadA (vs := prCs C[j]) Try.isAgg47 Try.sizeOf47 rfl rfl (rdsOwn prCs_len hj)) ?_
          refine f_step rfl rfl rfl (o_alloc Try.zeroValue47 rfl fun b20 => ?_)
          refine f_step0 rfl rfl (o_storeA Try.sizeOf47 rfl rfl rfl rfl (by first | exact Nat.le_of_ble_eq_true rfl | (simp; done) | (simp; omega)) (prCs C[j]) rfl ?_)
          refine f_done ?_
          refine f_tn (kh36 _ _ ?_)
          clear kh36
          refine f_seq fun K37 kh37 => ?_
          refine f_seq fun K38 kh38 => ?_
          refine f_region ?_
          refine f_stepP rfl rfl rfl (o_move rfl) ?_
          refine f_stepP rfl rfl rfl (o_loadA (vs := prCs C[j]) Try.isAgg47 Try.sizeOf47 rfl rfl ⟨(rdA rfl), (rdA rfl), trivial⟩) ?_
          refine f_stepP rfl rfl rfl (o_lookup kt45 Try.zeroValue4 rfl rfl rfl (key := C[j]) (.bool (decide (C[j] ∈ D2))) hlk) ?_
          refine f_stepP rfl rfl rfl (o_not rfl) ?_
          refine f_done ?_
          refine f_tn (kh38 _ _ ?_)
          clear kh38
          refine f_condB rfl (fun c103 => ?_) (fun c103 => ?_)
          ·
           have hnin : C[j] ∉ D2 := by simpa using c103
           refine f_region ?_
           refine f_stepP rfl rfl rfl (o_move rfl) ?_
           refine f_stepP rfl rfl rfl (o_add rfl rfl _ (wrap_i64 (by omega))) ?_
           refine f_stepP rfl rfl rfl (o_assign rfl) ?_
           refine f_done ?_
           refine f_tn (kh37 _ _ ?_)
           clear kh37
           refine f_region ?_
           refine f_stepP rfl rfl rfl (o_move rfl) ?_
           refine f_stepP rfl rfl rfl (o_loadA (vs := prCs C[j]) Try.isAgg47 Try.sizeOf47 rfl rfl ⟨(rdA rfl), (rdA rfl), trivial⟩) ?_
           refine f_step0 rfl rfl (o_mapUpdate (key := C[j]) kt45 rfl rfl rfl rfl ?_)
           refine f_done ?_
           refine f_bn ?_
           refine f_tn (kh35 _ _ ?_)
           clear kh35
           refine f_region ?_
           refine f_stepP rfl rfl rfl (o_add rfl rfl _ (wrap_i64 (by omega))) ?_
           refine f_stepP rfl rfl rfl (o_move rfl) ?_
           refine f_done ?_
           refine f_reQ 13 rfl (v := .int .i64 ((D2 ++ [C[j]]).length : Int)) (by simp) ?_
           refine f_tn (f_again (j + 1, mput ents2 C[j] (.bool true) c2_, mclock ents2 C[j] c2_, D2 ++ [C[j]]) (by first | omega | (dsimp only; omega) | (simp; omega)) ⟨by omega, hmap2.put _ _, hSn2.add hnin _, hst2, by simp; omega⟩ ?_ ?_ ?_)
           · exact (by repeat (first | exact trivial | refine ⟨rfl, ?_⟩))
           · exact (by repeat (first | exact trivial | refine ⟨rfl, ?_⟩))
           · repeat (first | exact Sub.nil | refine Sub.pick ?_ | refine Sub.castO rfl ?_ | refine Sub.skip ?_)
          ·
           have hin : C[j] ∈ D2 := by simpa using c103
           refine f_skip ?_
           refine f_tn (kh37 _ _ ?_)
           clear kh37
           refine f_region ?_
           refine f_stepP rfl rfl rfl (o_move rfl) ?_
           refine f_stepP rfl rfl rfl (o_loadA (vs := prCs C[j]) Try.isAgg47 Try.sizeOf47 rfl rfl ⟨(rdA rfl), (rdA rfl), trivial⟩) ?_
           refine f_step0 rfl rfl (o_mapUpdate (key := C[j]) kt45 rfl rfl rfl rfl ?_)
           refine f_done ?_
           refine f_bn ?_
           refine f_tn (kh35 _ _ ?_)
           clear kh35
           refine f_region ?_
           refine f_stepP rfl rfl rfl (o_add rfl rfl _ (wrap_i64 (by omega))) ?_
           refine f_stepP rfl rfl rfl (o_move rfl) ?_
           refine f_done ?_
           refine f_tn (f_again (j + 1, mput ents2 C[j] (.bool true) c2_, mclock ents2 C[j] c2_, D2) (by first | omega | (dsimp only; omega) | (simp; omega)) ⟨by omega, hmap2.put _ _, hSn2.again hin _, hst1 hin, by omega⟩ ?_ ?_ ?_)
           · exact (by repeat (first | exact trivial | refine ⟨rfl, ?_⟩))
           · exact (by repeat (first | exact trivial | refine ⟨rfl, ?_⟩))
           · repeat (first | exact Sub.nil | refine Sub.pick ?_ | refine Sub.castO rfl ?_ | refine Sub.skip ?_)
         ·
          obtain rfl : j = C.length := by omega
          rw [List.take_length] at hD2
          refine f_exit ?_
          refine f_te ?_
          clear kh34
          refine f_te ?_
          refine f_be ?_
          refine f_bn ?_
          refine f_tn (kh27 _ _ ?_)
          clear kh27
          refine f_region ?_
          refine f_stepP rfl rfl rfl (o_add rfl rfl _ (wrap_i64 (by omega))) ?_
          refine f_stepP rfl rfl rfl (o_move rfl) ?_
          refine f_done ?_
          refine f_tn (f_again (k + 1, ents2, c2_, D2) (by first | omega | (dsimp only; omega) | (simp; omega)) ⟨by omega, hmap2, hSn2, fun p => (hD2 p).trans (List.mem_append.symm.trans (hOI.add hk hnz hCc p)), by have := prs_len (n := n) (by omega) l; omega⟩ ?_ ?_ ?_)
          · exact (by repeat (first | exact trivial | refine ⟨rfl, ?_⟩))
          · exact (by repeat (first | exact trivial | refine ⟨rfl, ?_⟩))
          · repeat (first | exact Sub.nil | refine Sub.pick ?_ | refine Sub.castO rfl ?_ | refine Sub.skip ?_)
       ·
        obtain rfl : k = cs.length := by omega
        rw [List.take_length] at hOI
        refine f_exit ?_
        refine f_te ?_
        clear kh26
        refine f_te ?_
        refine f_be ?_
        refine f_tn (kh23 _ _ ?_)
        clear kh23
        refine f_seq fun K39 kh39 => ?_
        refine f_seq fun K40 kh40 => ?_
        refine f_region ?_
        refine f_stepP rfl rfl rfl (o_move rfl) ?_
        refine f_stepP rfl rfl rfl (o_len sl28 rfl) ?_
        refine f_stepP rfl rfl rfl (o_move rfl) ?_
        refine f_done ?_
        refine f_tn (kh40 _ _ ?_)
        clear kh40
        refine f_block ?_
        refine f_loop (α := Nat) [7, 13, 14, 110, 111] (fun j => [(112, .int .i64 (j : Int))]) (fun j => [[(b78, mobj enc2 ents c1)], mM]) (fun j => j ≤ M2.length) (fun j => M2.length - j) (0) ?_ ?_ ?_ ?_
        · exact (by repeat (first | exact trivial | refine ⟨rfl, ?_⟩))
        · repeat (first | exact Sub.nil | refine Sub.pick ?_ | refine Sub.castO rfl ?_ | refine Sub.skip ?_)
        · exact Nat.zero_le _
        ·
         rintro j hjl
         refine f_envC (e := [(112, _), (7, _), (13, _), (14, _), (110, _), (111, _)]) (by repeat (first | exact trivial | refine ⟨rfl, ?_⟩)) ?_
         refine f_seq fun K41 kh41 => ?_
         refine f_region ?_
         refine f_stepP rfl rfl rfl (o_lss rfl rfl) ?_
         refine f_done ?_
         refine f_tn (kh41 _ _ ?_)
         clear kh41
         refine f_seq fun K42 kh42 => ?_
         refine f_cond rfl (fun c113 => ?_) (fun c113 => ?_)
         ·
          have hj : j < M2.length := by omega
          obtain ⟨bM, spM, rfl, rfl⟩ := hoM.at_ (by omega)
          have hlk : (mget ents M2[j]).getD (.bool false) = .bool true := by rw [hSn.get, decide_eq_true ((hOI _).2 ((hMO _).1 (List.getElem_mem hj)))]
          refine f_skip ?_
          refine f_tn (kh42 _ _ ?_)
          clear kh42
          refine f_seq fun K43 kh43 => ?_
          refine f_block ?_
          refine f_seq fun K44 kh44 => ?_
          refine f_region ?_
          refine f_stepP rfl rfl rfl (o_idx sl28 rfl rfl (j * 2) ⟨by omega, by omega, by first | omega | (simp; done) | (simp; omega)⟩) ?_
          refine f_stepP rfl rfl rfl (o_loadA (vs := prCs M2[j]) Try.isAgg47 Try.sizeOf47 rfl rfl (rdsOwn prCs_len hj)) ?_
          refine f_step rfl rfl rfl (o_alloc Try.zeroValue47 rfl fun b22 => ?_)
          refine f_step0 rfl rfl (o_storeA Try.sizeOf47 rfl rfl rfl rfl (by first | exact Nat.le_of_ble_eq_true rfl | (simp; done) | (simp; omega)) (prCs M2[j]) rfl ?_)
          refine f_done ?_
          refine f_tn (kh44 _ _ ?_)
          clear kh44
          refine f_seq fun K45 kh45 => ?_
          refine f_region ?_
          refine f_stepP rfl rfl rfl (o_move rfl) ?_
          refine f_stepP rfl rfl rfl (o_loadA (vs := prCs M2[j]) Try.isAgg47 Try.sizeOf47 rfl rfl ⟨(rdA rfl), (rdA rfl), trivial⟩) ?_
          refine f_stepP rfl rfl rfl (o_lookup kt45 Try.zeroValue4 rfl rfl rfl (key := M2[j]) (.bool true) hlk) ?_
          refine f_stepP rfl rfl rfl (o_not rfl) ?_
          refine f_done ?_
          refine f_tn (kh45 _ _ ?_)
          clear kh45
          refine f_condF rfl ?_
          refine f_skip ?_
          refine f_bn ?_
          refine f_tn (kh43 _ _ ?_)
          clear kh43
          refine f_region ?_
          refine f_stepP rfl rfl rfl (o_add rfl rfl _ (wrap_i64 (by omega))) ?_
          refine f_stepP rfl rfl rfl (o_move rfl) ?_
          refine f_done ?_
          refine f_tn (f_again (j + 1) (by first | omega | (dsimp only; omega) | (simp; omega)) (by omega) ?_ ?_ ?_)
          · exact (by repeat (first | exact trivial | refine ⟨rfl, ?_⟩))
          · exact (by repeat (first | exact trivial | refine ⟨rfl, ?_⟩))
          · repeat (first | exact Sub.nil | refine Sub.pick ?_ | refine Sub.castO rfl ?_ | refine Sub.skip ?_)
         ·
          have hDM : D.length = M2.length := by
            have h1 : ∀ p, p ∈ D ↔ p ∈ M2 := fun p => (hOI p).trans (hMO p).symm
            exact ((List.perm_ext_iff_of_nodup hSn.nd (nodup_X hMs)).2 h1).length_eq
          refine f_exit ?_
          refine f_te ?_
          clear kh42
          refine f_te ?_
          refine f_be ?_
          refine f_tn (kh39 _ _ ?_)
          clear kh39
          refine f_seq fun K46 kh46 => ?_
          refine f_region ?_
          refine f_stepP rfl rfl rfl (o_move rfl) ?_
          refine f_stepP rfl rfl rfl (o_move rfl) ?_
          refine f_stepP rfl rfl rfl (o_len sl28 rfl) ?_
          refine f_stepP rfl rfl rfl (o_eql rfl rfl) ?_
          refine f_stepP rfl rfl rfl (o_assign rfl) ?_
          refine f_done ?_
          refine f_tn (kh46 _ _ ?_)
          clear kh46
          refine f_ret ?_
          exact f_fin1 [] Try.results6 rfl Sub.nil ⟨by rw [hDM]; simp, rfl⟩

end Go.Proofs.Ytbjiejhdgkpjcaa

/- How graphs of this program read. -/
namespace Go.Proofs.Ytbjiejhdgkpjcaa
open Go Go.RowKit Fly
set_option linter.unusedVariables false
set_option linter.unusedSimpArgs false


theorem rdArc {H : Type} {enc : TypeId × Value → H} (W : World) : Reads enc Try.prog W 55 arcCs ArcOk :=
  reads_arc Try.underlying55 (by kernel_rfl) ⟨rfl, by kernel_rfl⟩ ⟨rfl, by kernel_rfl⟩ ⟨rfl, by kernel_rfl⟩ Try.underlying3 Try.underlying3 Try.underlying53
theorem rdGraph {H : Type} {enc : TypeId × Value → H} (W : World) : Reads enc Try.prog W 24 (fun x : Int × Option Addr × List Arc × Nat => [.int .i64 x.1, .slice x.2.1 x.2.2.1.length x.2.2.2]) (fun x => GrIn W x.1 x.2.1 x.2.2.1 x.2.2.2) :=
  reads_graph Try.underlying24 (by kernel_rfl) ⟨rfl, by kernel_rfl⟩ ⟨rfl, by kernel_rfl⟩ Try.underlying3 Try.underlying22 (by kernel_rfl) (rdArc W)

end Go.Proofs.Ytbjiejhdgkpjcaa
