import Derived.Test.YtbjiejhdgkpjcaaAll11
import Derived.Test.YtbjiejhdgkpjcaaAll10
import Derived.Test.YtbjiejhdgkpjcaaFlyT
import Derived.Test.YtbjiejhdgkpjcaaFlyR

/- flyoverbook.SamePairs, natcut.Pairs; flyoverlaw08: NatcutBetween. -/
namespace Go.Proofs.Ytbjiejhdgkpjcaa
open Go Go.RowKit Fly
set_option linter.unusedVariables false
set_option linter.unusedSimpArgs false

theorem tidy_rgoN : ∀ (Q P : List Nat), (∀ k (h : k < Q.length), Q[k] ≤ nxt (P ++ Q) (P.length + k)) → rgo ((nxt P P.length : Nat) : Int) (natN Q) = true
  | [], _, _ => rfl
  | y :: Q, P, h => by
    have e0 : nxt (P ++ y :: Q) P.length = nxt P P.length := nxt_take _ _ _ fun j hj => List.getElem?_append_left hj
    have h0 := h 0 (by simp)
    simp only [List.getElem_cons_zero, Nat.add_zero] at h0
    rw [e0] at h0
    have hn : nxt (P ++ [y]) (P ++ [y]).length = if y = nxt P P.length then nxt P P.length + 1 else nxt P P.length := by
      rw [List.length_append, List.length_singleton]
      have e1 : nxt (P ++ [y]) P.length = nxt P P.length := nxt_take _ _ _ fun j hj => List.getElem?_append_left hj
      show (if (P ++ [y])[P.length]? = some (nxt (P ++ [y]) P.length) then nxt (P ++ [y]) P.length + 1 else nxt (P ++ [y]) P.length) = _
      rw [e1, List.getElem?_append_right (Nat.le_refl _), Nat.sub_self]
      by_cases hy : y = nxt P P.length
      · rw [if_pos hy]; rw [if_pos (by simp [← hy])]
      · rw [if_neg hy, if_neg (by simpa using hy)]
    have ih := tidy_rgoN Q (P ++ [y]) fun k hk => by
      have := h (k + 1) (by simpa using hk)
      simp only [List.getElem_cons_succ] at this
      rw [List.length_append, List.length_singleton, List.append_assoc]
      rw [show P.length + (k + 1) = P.length + 1 + k by omega] at this
      exact this
    rw [hn] at ih
    show rgo _ ((y : Int) :: natN Q) = true
    unfold rgo
    rw [if_neg (by omega)]
    by_cases hy : y = nxt P P.length
    · rw [if_pos hy] at ih; rw [if_pos (by omega)]; exact ih
    · rw [if_neg hy] at ih; rw [if_neg (by omega)]; exact ih
theorem tidy_rightN {n : Nat} {p : List Nat} (h : Tidy p) (hl : p.length = n) : rightB (n : Int) (natN p) = true := by
  have := tidy_rgoN p [] (fun k hk => by have := h k hk; simpa using this)
  unfold rightB
  rw [show rgo 0 (natN p) = true from this, natN_len, hl]; simp

theorem lcnt_rightN {n : Nat} {l : List Arc} {L : List Int} (hg : (gcheck (n : Int) l).2 = 0) (hR : rightB (n : Int) L = true) : lcount (n : Int) l L = ((cutN n l L : Int), 0) := by
  unfold lcount
  rw [if_neg (by rw [hg]; simp), if_neg (by rw [hR]; simp)]
  rfl
theorem keepA_nil (l : List Arc) : keepA [] l = l := by
  unfold keepA; rw [List.filter_eq_self]; intro a _; simp
theorem frag_nil {n : Nat} {l : List Arc} (hg : (gcheck (n : Int) l).2 = 0) : fragE (n : Int) l [] = 0 := by
  unfold fragE; rw [if_neg (by rw [hg]; simp), if_neg (by simp)]; rfl
theorem natN_at {p : List Nat} {u : Int} (h : u.toNat < p.length) : (ints (natN p))[u.toNat]? = some (.int .i64 (p[u.toNat] : Int)) := by
  simp [ints, natN, h]
/-- Pairs between fragments are marked. -/
theorem between_marked {n : Nat} {l : List Arc} {M : List Pr} {p : List Nat} (hg : (gcheck (n : Int) l).2 = 0) (hp : IsParts n (ends2 (keepA M l)) p) {q : Pr} (hq : q ∈ prs n l) (h1 : q.1.toNat < p.length) (h2 : q.2.toNat < p.length) (hne : p[q.1.toNat] ≠ p[q.2.toNat]) : q ∈ M :=
  Classical.byContradiction fun hm => hne ((hp.conn _ _ h1 h2).2 (keepA_edge hg hq hm))

set_option maxRecDepth 100000 in
set_option maxHeartbeats 4000000 in
theorem Pairs_spec (N : Int) (A : Option Addr) (l : List Arc) (cap : Nat) (w : World) (hr : Ro (Fr w []) w A (l.flatMap arcCs)) (hl : l.length ≤ 9223372036854775807) (hN : I64 N) (hok : ∀ x ∈ l, ArcOk x) :
    Meets Try.prog 24 [.agg #[.int .i64 N, .slice A l.length cap]] w [] (fun u own' => if (gcheck N l).2 = 0 then ∃ A' m' c, u = .tuple #[.slice A' (prs N.toNat l).length (prs N.toNat l).length, .int .i64 0] ∧ own' = [m'] ∧ Own 47 2 (.slice A' (prs N.toNat l).length c) (prs N.toNat l).length ((prs N.toNat l).flatMap prCs) m' else u = .tuple #[.slice none 0 0, .int .i64 (gcheck N l).2] ∧ own' = []) := by
 refine f_enter Try.func24 rfl Try.ntmps24 rfl Owns.nil ?_
 refine f_seq fun K1 kh1 => ?_
 refine f_region ?_
 refine f_step rfl rfl rfl (o_box rfl rfl fun b1 => ?_)
 refine f_stepP rfl rfl rfl (o_assign rfl) ?_
 refine f_stepP rfl rfl rfl (o_assign rfl) ?_
 refine f_done ?_
 refine f_tn (kh1 _ _ ?_)
 clear kh1
 refine f_seq fun K2 kh2 => ?_
 refine f_seq fun K3 kh3 => ?_
 refine f_region ?_
 refine f_stepP rfl rfl rfl (o_loadA (vs := [_, _]) Try.isAgg24 Try.sizeOf24 rfl rfl ⟨(rdA rfl), (rdA rfl), trivial⟩) ?_
 refine f_step rfl rfl rfl (o_call Try.call37 rfl (fun w_ hp_ => Check_spec N A l cap w_ (hr.up0 hp_) hl hN hok) ?_)
 rintro _ _ ⟨rfl, rfl⟩
 dsimp only [List.cons_append, List.nil_append]
 refine f_stepP rfl rfl rfl (o_move rfl) ?_
 refine f_stepP rfl rfl rfl (o_extract rfl rfl) ?_
 refine f_stepP rfl rfl rfl (o_extract rfl rfl) ?_
 refine f_stepP rfl rfl rfl (o_assign rfl) ?_
 refine f_stepP rfl rfl rfl (o_assign rfl) ?_
 refine f_done ?_
 refine f_tn (kh3 _ _ ?_)
 clear kh3
 refine f_seq fun K4 kh4 => ?_
 refine f_region ?_
 refine f_stepP rfl rfl rfl (o_move rfl) ?_
 refine f_stepP rfl rfl rfl (o_neq rfl rfl) ?_
 refine f_done ?_
 refine f_tn (kh4 _ _ ?_)
 clear kh4
 refine f_cond rfl (fun c12 => ?_) (fun c12 => ?_)
 ·
  refine f_seq fun K5 kh5 => ?_
  refine f_region ?_
  refine f_stepP rfl rfl rfl (o_move rfl) ?_
  refine f_stepP rfl rfl rfl (o_assign rfl) ?_
  refine f_stepP rfl rfl rfl (o_assign rfl) ?_
  refine f_done ?_
  refine f_tn (kh5 _ _ ?_)
  clear kh5
  refine f_ret ?_
  refine f_tr ?_
  exact f_fin2 [] Try.results24 rfl rfl Sub.nil (by rw [if_neg c12]; exact ⟨rfl, rfl⟩)
 ·
  have hg : (gcheck N l).2 = 0 := by simpa using c12
  obtain ⟨n, rfl⟩ : ∃ n : Nat, N = (n : Int) := ⟨N.toNat, by have := gcheck_zero hg; omega⟩
  refine f_skip ?_
  refine f_tn (kh2 _ _ ?_)
  clear kh2
  refine f_seq fun K6 kh6 => ?_
  refine f_region ?_
  refine f_stepP rfl rfl rfl (o_loadA (vs := [_, _]) Try.isAgg24 Try.sizeOf24 rfl rfl ⟨(rdA rfl), (rdA rfl), trivial⟩) ?_
  refine f_step rfl rfl rfl (o_call Try.call29 rfl (fun w_ hp_ => pairs_spec n A l cap w_ (hr.up0 hp_) hg) ?_)
  rintro _ _ ⟨A', m', rfl, rfl, c', hO⟩
  dsimp only [List.cons_append, List.nil_append]
  refine f_stepP rfl rfl rfl (o_assign rfl) ?_
  refine f_stepP rfl rfl rfl (o_assign rfl) ?_
  refine f_done ?_
  refine f_tn (kh6 _ _ ?_)
  clear kh6
  refine f_ret ?_
  exact f_fin2 [m'] Try.results24 rfl rfl (by repeat (first | exact Sub.nil | refine Sub.pick ?_ | refine Sub.castO rfl ?_)) (by rw [if_pos hg, Int.toNat_natCast]; exact ⟨A', m', c', rfl, rfl, hO⟩)

set_option maxRecDepth 100000 in
set_option maxHeartbeats 4000000 in
theorem SamePairs_spec (A B : Option Addr) (l r : List Pr) (ca cb : Nat) (w : World) (hl : Ro (Fr w []) w A (l.flatMap prCs)) (hr : Ro (Fr w []) w B (r.flatMap prCs)) (hm : l.length ≤ 9223372036854775807) :
    Meets Try.prog 13 [.slice A l.length ca, .slice B r.length cb] w [] (fun u m => u = .bool (decide (l = r)) ∧ m = []) := by
 refine f_enter Try.func13 rfl Try.ntmps13 rfl Owns.nil ?_
 refine f_seq fun K1 kh1 => ?_
 refine f_region ?_
 refine f_stepP rfl rfl rfl (o_assign rfl) ?_
 refine f_done ?_
 refine f_tn (kh1 _ _ ?_)
 clear kh1
 refine f_seq fun K2 kh2 => ?_
 refine f_seq fun K3 kh3 => ?_
 refine f_region ?_
 refine f_stepP rfl rfl rfl (o_move rfl) ?_
 refine f_stepP rfl rfl rfl (o_len sl28 rfl) ?_
 refine f_stepP rfl rfl rfl (o_move rfl) ?_
 refine f_stepP rfl rfl rfl (o_len sl28 rfl) ?_
 refine f_stepP rfl rfl rfl (o_neq rfl rfl) ?_
 refine f_done ?_
 refine f_tn (kh3 _ _ ?_)
 clear kh3
 refine f_cond rfl (fun c10 => ?_) (fun c10 => ?_)
 ·
  refine f_seq fun K4 kh4 => ?_
  refine f_region ?_
  refine f_stepP rfl rfl rfl (o_assign rfl) ?_
  refine f_done ?_
  refine f_tn (kh4 _ _ ?_)
  clear kh4
  refine f_ret ?_
  refine f_tr ?_
  exact f_fin1 [] Try.results13 rfl Sub.nil ⟨by rw [decide_eq_false]; intro e; subst e; omega, rfl⟩
 ·
  have hlr : l.length = r.length := by omega
  refine f_skip ?_
  refine f_tn (kh2 _ _ ?_)
  clear kh2
  refine f_seq fun K5 kh5 => ?_
  refine f_seq fun K6 kh6 => ?_
  refine f_region ?_
  refine f_stepP rfl rfl rfl (o_assign rfl) ?_
  refine f_done ?_
  refine f_tn (kh6 _ _ ?_)
  clear kh6
  refine f_block ?_
  refine f_loopK (α := Nat) [0, 1] (fun k => [(5, .int .i64 (k : Int))]) (fun k => k ≤ l.length ∧ ∀ j (a : j < l.length) (b : j < r.length), j < k → l[j] = r[j]) (fun k => l.length - k) (0) ?_ ?_ ?_
  · exact (by repeat (first | exact trivial | refine ⟨rfl, ?_⟩))
  · exact ⟨by omega, fun j _ _ hj => by omega⟩
  ·
   rintro k ⟨hkl, hpre⟩
   refine f_seq fun K7 kh7 => ?_
   refine f_seq fun K8 kh8 => ?_
   refine f_region ?_
   refine f_stepP rfl rfl rfl (o_move rfl) ?_
   refine f_stepP rfl rfl rfl (o_move rfl) ?_
   refine f_stepP rfl rfl rfl (o_len sl28 rfl) ?_
   refine f_stepP rfl rfl rfl (o_lss rfl rfl) ?_
   refine f_done ?_
   refine f_tn (kh8 _ _ ?_)
   clear kh8
   refine f_cond rfl (fun c14 => ?_) (fun c14 => ?_)
   ·
    refine f_skip ?_
    refine f_tn (kh7 _ _ ?_)
    clear kh7
    refine f_seq fun K9 kh9 => ?_
    refine f_block ?_
    refine f_seq fun K10 kh10 => ?_
    refine f_regionS rfl (by decide +kernel) ?_
    have hk : k < l.length := by omega
    have hk' : k < r.length := by omega
    obtain ⟨b1, o1, rfl, hS1, hc1⟩ := hl (flat_ne prCs prCs_len (by omega) hk)
    obtain ⟨b2, o2, rfl, hS2, hc2⟩ := hr (flat_ne prCs prCs_len (by omega) hk')
    refine f_stillP rfl rfl rfl (o_move rfl) ?_
    refine f_stillP rfl rfl rfl (o_move rfl) ?_
    refine f_stillP rfl rfl rfl (o_idx sl28 rfl rfl (o1 + k * 2) ⟨by omega, by omega, by first | omega | (simp; done) | (simp; omega)⟩) ?_
    refine f_stillP rfl rfl rfl (o_loadA (vs := prCs l[k]) Try.isAgg47 Try.sizeOf47 rfl rfl (roElem prCs_len hS1 hc1 hk)) ?_
    refine f_stillP rfl rfl rfl (o_move rfl) ?_
    refine f_stillP rfl rfl rfl (o_move rfl) ?_
    refine f_stillP rfl rfl rfl (o_idx sl28 rfl rfl (o2 + k * 2) ⟨by omega, by omega, by first | omega | (simp; done) | (simp; omega)⟩) ?_
    refine f_stillP rfl rfl rfl (o_loadA (vs := prCs r[k]) Try.isAgg47 Try.sizeOf47 rfl rfl (roElem prCs_len hS2 hc2 hk')) ?_
    refine f_stillP rfl rfl rfl (o_neqA Try.eqGuardType47 (eqPr l[k] r[k]) rfl rfl) ?_
    refine f_stillD ?_
    refine f_tn (kh10 _ _ ?_)
    clear kh10
    refine f_cond rfl (fun c25 => ?_) (fun c25 => ?_)
    ·
     refine f_seq fun K11 kh11 => ?_
     refine f_region ?_
     refine f_stepP rfl rfl rfl (o_assign rfl) ?_
     refine f_done ?_
     refine f_tn (kh11 _ _ ?_)
     clear kh11
     refine f_ret ?_
     refine f_br ?_
     refine f_tr ?_
     refine f_tr ?_
     refine f_br ?_
     refine f_tr ?_
     exact f_fin1 [] Try.results13 rfl Sub.nil ⟨by rw [decide_eq_false]; exact ne_at hk hk' c25, rfl⟩
    ·
     refine f_skip ?_
     refine f_bn ?_
     refine f_tn (kh9 _ _ ?_)
     clear kh9
     refine f_region ?_
     refine f_stepP rfl rfl rfl (o_move rfl) ?_
     refine f_stepP rfl rfl rfl (o_add rfl rfl _ (wrap_i64 (by omega))) ?_
     refine f_stepP rfl rfl rfl (o_assign rfl) ?_
     refine f_done ?_
     refine f_tn (f_again (k + 1) (by first | omega | (dsimp only; omega) | (simp; omega)) ⟨by omega, prefix_next hlr hk hpre (by simpa using c25)⟩ ?_ ?_ ?_)
     · exact (by repeat (first | exact trivial | refine ⟨rfl, ?_⟩))
     · exact (by repeat (first | exact trivial | refine ⟨rfl, ?_⟩))
     · repeat (first | exact Sub.nil | refine Sub.pick ?_ | refine Sub.castO rfl ?_ | refine Sub.skip ?_)
   ·
    refine f_exit ?_
    refine f_te ?_
    clear kh7
    refine f_te ?_
    refine f_be ?_
    refine f_tn (kh5 _ _ ?_)
    clear kh5
    refine f_seq fun K12 kh12 => ?_
    refine f_region ?_
    refine f_stepP rfl rfl rfl (o_assign rfl) ?_
    refine f_done ?_
    refine f_tn (kh12 _ _ ?_)
    clear kh12
    refine f_ret ?_
    exact f_fin1 [] Try.results13 rfl Sub.nil ⟨by rw [decide_eq_true]; exact prefix_all hlr (by omega) hpre, rfl⟩

set_option maxRecDepth 100000 in
set_option maxHeartbeats 4000000 in
theorem NatcutBetween_spec (N : Int) (A : Option Addr) (l : List Arc) (cap : Nat) (B : Option Addr) (cs : List Int) (cb : Nat) (most : Int) (w : World) (hr : Ro (Fr w []) w A (l.flatMap arcCs)) (hl : l.length ≤ 9223372036854775807) (hN : I64 N) (hok : ∀ x ∈ l, ArcOk x) (hC : Ro (Fr w []) w B (ints cs)) (hcm : cs.length ≤ 9223372036854775807) :
    Meets Try.prog 7 [.agg #[.int .i64 N, .slice A l.length cap], .slice B cs.length cb, .int .i64 most] w [] (fun u m => u = .bool true ∧ m = []) := by
 refine f_enter Try.func7 rfl Try.ntmps7 rfl Owns.nil ?_
 refine f_seq fun K1 kh1 => ?_
 refine f_region ?_
 refine f_step rfl rfl rfl (o_box rfl rfl fun b3 => ?_)
 refine f_stepP rfl rfl rfl (o_assign rfl) ?_
 refine f_done ?_
 refine f_tn (kh1 _ _ ?_)
 clear kh1
 refine f_seq fun K2 kh2 => ?_
 refine f_seq fun K3 kh3 => ?_
 refine f_region ?_
 refine f_step rfl rfl rfl (o_call Try.call9 rfl (fun w_ hp_ => works_spec w_) ?_)
 rintro _ _ ⟨rfl, rfl⟩
 dsimp only [List.cons_append, List.nil_append]
 refine f_stepP rfl rfl rfl (o_not rfl) ?_
 refine f_done ?_
 refine f_tn (kh3 _ _ ?_)
 clear kh3
 refine f_condF rfl ?_
 refine f_skip ?_
 refine f_tn (kh2 _ _ ?_)
 clear kh2
 refine f_seq fun K4 kh4 => ?_
 refine f_seq fun K5 kh5 => ?_
 refine f_region ?_
 refine f_stepP rfl rfl rfl (o_loadA (vs := [_, _]) Try.isAgg24 Try.sizeOf24 rfl rfl ⟨(rdA rfl), (rdA rfl), trivial⟩) ?_
 refine f_step rfl rfl rfl (o_call Try.call19 rfl (fun w_ hp_ => large_spec N A l cap w_ (hr.up0 hp_) hl hN hok) ?_)
 rintro _ _ ⟨bL, rfl, rfl⟩
 dsimp only [List.cons_append, List.nil_append]
 refine f_stepP rfl rfl rfl (o_move rfl) ?_
 refine f_splitLB 28 rfl (fun g28 => ?_) (fun g28 => ?_)
 ·
  refine f_stepN rfl rfl rfl rfl rfl rfl ?_
  refine f_stepN rfl rfl rfl rfl rfl rfl ?_
  refine f_stepN rfl rfl rfl rfl rfl rfl ?_
  refine f_stepP rfl rfl rfl (o_pickT rfl rfl) ?_
  refine f_done ?_
  refine f_tn (kh5 _ _ ?_)
  clear kh5
  refine f_condT rfl ?_
  refine f_seq fun K6 kh6 => ?_
  refine f_region ?_
  refine f_stepP rfl rfl rfl (o_assign rfl) ?_
  refine f_done ?_
  refine f_tn (kh6 _ _ ?_)
  clear kh6
  refine f_ret ?_
  refine f_tr ?_
  exact f_fin1 [] Try.results7 rfl Sub.nil ⟨rfl, rfl⟩
 ·
  refine f_stepPY rfl rfl rfl rfl rfl (o_move rfl) ?_
  refine f_stepPY rfl rfl rfl rfl rfl (o_len sl35 rfl) ?_
  refine f_stepPY rfl rfl rfl rfl rfl (o_gtr rfl rfl) ?_
  refine f_stepP rfl rfl rfl (o_pickF rfl rfl) ?_
  refine f_done ?_
  refine f_tn (kh5 _ _ ?_)
  clear kh5
  refine f_cond rfl (fun c32 => ?_) (fun c32 => ?_)
  ·
   refine f_seq fun K7 kh7 => ?_
   refine f_region ?_
   refine f_stepP rfl rfl rfl (o_assign rfl) ?_
   refine f_done ?_
   refine f_tn (kh7 _ _ ?_)
   clear kh7
   refine f_ret ?_
   refine f_tr ?_
   exact f_fin1 [] Try.results7 rfl Sub.nil ⟨rfl, rfl⟩
  ·
   refine f_skip ?_
   refine f_tn (kh4 _ _ ?_)
   clear kh4
   refine f_seq fun K8 kh8 => ?_
   refine f_region ?_
   refine f_stepP rfl rfl rfl (o_loadA (vs := [_, _]) Try.isAgg24 Try.sizeOf24 rfl rfl ⟨(rdA rfl), (rdA rfl), trivial⟩) ?_
   refine f_stepP rfl rfl rfl (o_move rfl) ?_
   refine f_stepP rfl rfl rfl (o_move rfl) ?_
   refine f_step rfl rfl rfl (o_call Try.call23 rfl (fun w_ hp_ => Marks_spec N A B l cap cs cb most w_ (hr.up0 hp_) hl hN hok (hC.up0 hp_) hcm) ?_)
   rintro _ _ ⟨M, AM, cM, mM, rfl, rfl, hoM, hMe, hM0⟩
   dsimp only [List.cons_append, List.nil_append]
   refine f_stepP rfl rfl rfl (o_move rfl) ?_
   refine f_stepP rfl rfl rfl (o_extract rfl rfl) ?_
   refine f_stepP rfl rfl rfl (o_extract rfl rfl) ?_
   refine f_stepP rfl rfl rfl (o_assign rfl) ?_
   refine f_stepP rfl rfl rfl (o_assign rfl) ?_
   refine f_done ?_
   refine f_tn (kh8 _ _ ?_)
   clear kh8
   refine f_seq fun K9 kh9 => ?_
   refine f_seq fun K10 kh10 => ?_
   refine f_region ?_
   refine f_stepP rfl rfl rfl (o_move rfl) ?_
   refine f_stepP rfl rfl rfl (o_neq rfl rfl) ?_
   refine f_done ?_
   refine f_tn (kh10 _ _ ?_)
   clear kh10
   refine f_cond rfl (fun c41 => ?_) (fun c41 => ?_)
   ·
    have hMe' : mkE N l cs most ≠ 0 := by simpa using c41
    obtain rfl := hMe hMe'
    refine f_seq fun K11 kh11 => ?_
    refine f_region ?_
    refine f_stepP rfl rfl rfl (o_move rfl) ?_
    refine f_stepP rfl rfl rfl (o_len sl28 rfl) ?_
    refine f_stepP rfl rfl rfl (o_eql rfl rfl) ?_
    refine f_stepP rfl rfl rfl (o_assign rfl) ?_
    refine f_done ?_
    refine f_tn (kh11 _ _ ?_)
    clear kh11
    refine f_ret ?_
    refine f_tr ?_
    exact f_fin1 [] Try.results7 rfl Sub.nil ⟨by simp, rfl⟩
   ·
    have hz : mkE N l cs most = 0 := by simpa using c41
    obtain ⟨hMs, hMO⟩ := hM0 hz
    have hg' := mk_good hz
    obtain ⟨hg1, hg2, hl8, hgd⟩ := gcheck_zero hg'
    obtain ⟨n, rfl⟩ : ∃ n : Nat, N = (n : Int) := ⟨N.toNat, by omega⟩
    have hg : (gcheck (n : Int) l).2 = 0 := hg'
    rw [Int.toNat_natCast] at hMO
    have hMp := out_sub hMO
    have hM8 := Nat.le_trans (List.Nodup.length_le_of_subset (nodup_X hMs) hMp) (prs_len8 hg)
    have hfr := frag_zero hg hMp (by omega)
    have hMf := marks_filter hMs hMp
    have hM64 : ∀ p ∈ M, I64 p.1 ∧ I64 p.2 := fun p hp => by
      have := prs_rng (hMp p hp)
      unfold I64; omega
    refine f_skip ?_
    refine f_tn (kh9 _ _ ?_)
    clear kh9
    refine f_seq fun K12 kh12 => ?_
    refine f_region ?_
    refine f_stepP rfl rfl rfl (o_loadA (vs := [_, _]) Try.isAgg24 Try.sizeOf24 rfl rfl ⟨(rdA rfl), (rdA rfl), trivial⟩) ?_
    refine f_stepP rfl rfl rfl (o_move rfl) ?_
    refine f_step rfl rfl rfl (o_call Try.call15 rfl (fun w_ hp_ => Fragments_spec (n : Int) A AM l cap M M.length w_ (hr.up0 hp_) hl hN hok (seen_ro (hoM.seen hp_)) (by omega) hM64) ?_)
    rintro _ _ ⟨P, AP, cP, mP, rfl, rfl, hoP, hP0, _⟩
    obtain ⟨p, rfl, hp⟩ := hP0 hfr
    rw [Int.toNat_natCast] at hp
    have hpl := hp.len
    rw [hfr]
    dsimp only [List.cons_append, List.nil_append]
    refine f_stepP rfl rfl rfl (o_move rfl) ?_
    refine f_stepP rfl rfl rfl (o_extract rfl rfl) ?_
    refine f_stepP rfl rfl rfl (o_extract rfl rfl) ?_
    refine f_stepP rfl rfl rfl (o_assign rfl) ?_
    refine f_stepP rfl rfl rfl (o_assign rfl) ?_
    refine f_done ?_
    refine f_tn (kh12 _ _ ?_)
    clear kh12
    refine f_seq fun K13 kh13 => ?_
    refine f_region ?_
    refine f_stepP rfl rfl rfl (o_loadA (vs := [_, _]) Try.isAgg24 Try.sizeOf24 rfl rfl ⟨(rdA rfl), (rdA rfl), trivial⟩) ?_
    refine f_step rfl rfl rfl (o_call Try.call24 rfl (fun w_ hp_ => Pairs_spec (n : Int) A l cap w_ (hr.up0 hp_) hl hN hok) ?_)
    rintro _ own47 hq47
    rw [if_pos hg, Int.toNat_natCast] at hq47
    obtain ⟨Ap, mp, cp, rfl, rfl, hop⟩ := hq47
    have hpl8 := prs_len8 hg
    dsimp only [List.cons_append, List.nil_append]
    refine f_stepP rfl rfl rfl (o_move rfl) ?_
    refine f_stepP rfl rfl rfl (o_extract rfl rfl) ?_
    refine f_stepP rfl rfl rfl (o_extract rfl rfl) ?_
    refine f_stepP rfl rfl rfl (o_assign rfl) ?_
    refine f_stepP rfl rfl rfl (o_assign rfl) ?_
    refine f_done ?_
    refine f_tn (kh13 _ _ ?_)
    clear kh13
    refine f_seq fun K14 kh14 => ?_
    refine f_seq fun K15 kh15 => ?_
    refine f_region ?_
    refine f_stepP rfl rfl rfl (o_move rfl) ?_
    refine f_stepP rfl rfl rfl (o_neq rfl rfl) ?_
    refine f_stepP rfl rfl rfl (o_move rfl) ?_
    refine f_falseL 58 rfl (by simp) ?_
    refine f_stepPY rfl rfl rfl rfl rfl (o_move rfl) ?_
    refine f_stepPY rfl rfl rfl rfl rfl (o_neq rfl rfl) ?_
    refine f_stepP rfl rfl rfl (o_pickF rfl rfl) ?_
    refine f_done ?_
    refine f_tn (kh15 _ _ ?_)
    clear kh15
    refine f_condN rfl (by simp) ?_
    refine f_skip ?_
    refine f_tn (kh14 _ _ ?_)
    clear kh14
    refine f_seq fun K16 kh16 => ?_
    refine f_region ?_
    refine f_stepP rfl rfl rfl (o_assign rfl) ?_
    refine f_stepP rfl rfl rfl (o_assign rfl) ?_
    refine f_done ?_
    refine f_tn (kh16 _ _ ?_)
    clear kh16
    refine f_seq fun K17 kh17 => ?_
    refine f_seq fun K18 kh18 => ?_
    refine f_reC 13 rfl (v := .int .i64 ((((prs n l).take 0).filter fun p => decide (p ∈ M)).length : Int)) rfl ?_
    refine f_reC 14 rfl (v := .int .i64 ((((prs n l).take 0).filter (apart (natN p))).length : Int)) rfl ?_
    refine f_region ?_
    refine f_stepP rfl rfl rfl (o_move rfl) ?_
    refine f_stepP rfl rfl rfl (o_len sl28 rfl) ?_
    refine f_stepP rfl rfl rfl (o_move rfl) ?_
    refine f_done ?_
    refine f_tn (kh18 _ _ ?_)
    clear kh18
    refine f_block ?_
    refine f_loop (α := Nat) [3, 7, 9, 62, 63] (fun k => [(64, .int .i64 (k : Int)), (13, .int .i64 ((((prs n l).take k).filter fun p => decide (p ∈ M)).length : Int)), (14, .int .i64 ((((prs n l).take k).filter (apart (natN p))).length : Int))]) (fun k => [mP, mM, mp, [(b3, blk [.int .i64 (n : Int), .slice A l.length cap] 24)]]) (fun k => k ≤ (prs n l).length) (fun k => (prs n l).length - k) (0) ?_ ?_ ?_ ?_
    · exact (by repeat (first | exact trivial | refine ⟨rfl, ?_⟩))
    · repeat (first | exact Sub.nil | refine Sub.pick ?_ | refine Sub.castO rfl ?_ | refine Sub.skip ?_)
    · exact Nat.zero_le _
    ·
     rintro k hkl
     have hf1 : (((prs n l).take k).filter fun p => decide (p ∈ M)).length ≤ k := Nat.le_trans (List.length_filter_le _ _) (by rw [List.length_take]; omega)
     have hf2 : (((prs n l).take k).filter (apart (natN p))).length ≤ k := Nat.le_trans (List.length_filter_le _ _) (by rw [List.length_take]; omega)
     refine f_seq fun K19 kh19 => ?_
     refine f_region ?_
     refine f_stepP rfl rfl rfl (o_lss rfl rfl) ?_
     refine f_done ?_
     refine f_tn (kh19 _ _ ?_)
     clear kh19
     refine f_seq fun K20 kh20 => ?_
     refine f_cond rfl (fun c65 => ?_) (fun c65 => ?_)
     ·
      have hk : k < (prs n l).length := by omega
      obtain ⟨bp, spp, rfl, rfl⟩ := hop.at_ (by omega)
      have hqm := List.getElem_mem hk
      have hpr := prs_rng hqm
      obtain ⟨hat1, hat2⟩ := mark_at hMf hk
      have hu1 : (prs n l)[k].1.toNat < p.length := by omega
      have hu2 : (prs n l)[k].2.toNat < p.length := by omega
      obtain ⟨bP, sP, rfl, rfl⟩ := hoP.at_ (by rw [natN_len]; omega)
      have hap : apart (natN p) (prs n l)[k] = decide (p[(prs n l)[k].1.toNat] ≠ p[(prs n l)[k].2.toNat]) := by unfold apart natN; simp [List.getD_eq_getElem?_getD, hu1, hu2]; omega
      have hnlen := natN_len p
      refine f_skip ?_
      refine f_tn (kh20 _ _ ?_)
      clear kh20
      refine f_seq fun K21 kh21 => ?_
      refine f_block ?_
      refine f_seq fun K22 kh22 => ?_
      refine f_region ?_
      refine f_stepP rfl rfl rfl (o_idx sl28 rfl rfl (k * 2) ⟨by omega, by omega, by first | omega | (simp; done) | (simp; omega)⟩) ?_
      refine f_stepP rfl rfl rfl (o_loadA (vs := prCs (prs n l)[k]) Try.isAgg47 Try.sizeOf47 rfl rfl (rdsOwn prCs_len hk)) ?_
      refine f_step rfl rfl rfl (o_alloc Try.zeroValue47 rfl fun b16 => ?_)
      refine f_step0 rfl rfl (o_storeA Try.sizeOf47 rfl rfl rfl rfl (by first | exact Nat.le_of_ble_eq_true rfl | (simp; done) | (simp; omega)) (prCs (prs n l)[k]) rfl ?_)
      refine f_done ?_
      refine f_tn (kh22 _ _ ?_)
      clear kh22
      refine f_meet (α := Unit) [3, 7, 9, 13, 14, 16, 62, 63, 64] (fun _ => [(17, .bool (decide ((prs n l)[k] ∈ M)))]) (fun _ => [[(b16, blk (prCs (prs n l)[k]) 47)], [(bP, blk (ints (natN p) ++ sP) 3)], mM, [(bp, blk ((prs n l).flatMap prCs ++ spp) 47)], [(b3, blk [.int .i64 (n : Int), .slice A l.length cap] 24)]]) (fun _ => True) ?_ ?_
      ·
       intro K23 kh23
       refine f_regionT 12 rfl (by decide +kernel) ?_
       refine f_stillP rfl rfl rfl (o_move rfl) ?_
       refine f_stillP rfl rfl rfl (o_move rfl) ?_
       refine f_stillP rfl rfl rfl (o_len sl28 rfl) ?_
       refine f_stillP rfl rfl rfl (o_lss rfl rfl) ?_
       refine f_stillP rfl rfl rfl (o_move rfl) ?_
       refine f_splitS 72 rfl (fun g72 => ?_) (fun g72 => ?_)
       ·
        have hA : (((prs n l).take k).filter fun p => decide (p ∈ M)).length < M.length := by omega
        obtain ⟨bM, spM, rfl, rfl⟩ := hoM.at_ (by omega)
        refine f_stillPY rfl rfl rfl rfl rfl (o_move rfl) ?_
        refine f_stillPY rfl rfl rfl rfl rfl (o_move rfl) ?_
        refine f_stillPY rfl rfl rfl rfl rfl (o_idx sl28 rfl rfl ((((prs n l).take k).filter fun p => decide (p ∈ M)).length * 2) ⟨by omega, by omega, by first | omega | (simp; done) | (simp; omega)⟩) ?_
        refine f_stillPY rfl rfl rfl rfl rfl (o_loadA (vs := prCs (M[(((prs n l).take k).filter fun p => decide (p ∈ M)).length]'hA)) Try.isAgg47 Try.sizeOf47 rfl rfl (rdsOwn prCs_len hA)) ?_
        refine f_stillPY rfl rfl rfl rfl rfl (o_loadA (vs := prCs (prs n l)[k]) Try.isAgg47 Try.sizeOf47 rfl rfl ⟨(rdA rfl), (rdA rfl), trivial⟩) ?_
        refine f_stillPY rfl rfl rfl rfl rfl (o_eqlA Try.eqGuardType47 (eqPr (M[(((prs n l).take k).filter fun p => decide (p ∈ M)).length]'hA) (prs n l)[k]) rfl rfl) ?_
        refine f_stillP rfl rfl rfl (o_pickT rfl rfl) ?_
        refine f_stillD (f_tail ?_)
        refine f_stepP rfl rfl rfl (o_assign rfl) ?_
        refine f_reL 17 rfl (v := .bool (decide ((prs n l)[k] ∈ M))) (by rw [List.getElem?_eq_getElem hA] at hat2; congr 1; rw [decide_eq_decide]; exact ⟨fun h => by simpa using hat2.2 (by rw [h]), fun h => Option.some.inj (hat2.1 (by simpa using h))⟩) ?_
        refine f_done ?_
        refine f_tn (kh23 _ _ (()) trivial ?_ ?_ ?_)
        · exact (by repeat (first | exact trivial | refine ⟨rfl, ?_⟩))
        · exact (by repeat (first | exact trivial | refine ⟨rfl, ?_⟩))
        · repeat (first | exact Sub.nil | refine Sub.pick ?_ | refine Sub.castO rfl ?_ | refine Sub.skip ?_)
       ·
        refine f_stillN rfl rfl rfl rfl rfl rfl ?_
        refine f_stillN rfl rfl rfl rfl rfl rfl ?_
        refine f_stillN rfl rfl rfl rfl rfl rfl ?_
        refine f_stillN rfl rfl rfl rfl rfl rfl ?_
        refine f_stillN rfl rfl rfl rfl rfl rfl ?_
        refine f_stillN rfl rfl rfl rfl rfl rfl ?_
        refine f_stillP rfl rfl rfl (o_pickF rfl rfl) ?_
        refine f_stillD (f_tail ?_)
        refine f_stepP rfl rfl rfl (o_assign rfl) ?_
        refine f_reL 17 rfl (v := .bool (decide ((prs n l)[k] ∈ M))) (by congr 1; symm; rw [decide_eq_false_iff_not]; intro h; have h2 := hat2.1 (by simpa using h); have h3 := (List.getElem?_eq_some_iff.1 h2).1; omega) ?_
        refine f_done ?_
        refine f_tn (kh23 _ _ (()) trivial ?_ ?_ ?_)
        · exact (by repeat (first | exact trivial | refine ⟨rfl, ?_⟩))
        · exact (by repeat (first | exact trivial | refine ⟨rfl, ?_⟩))
        · repeat (first | exact Sub.nil | refine Sub.pick ?_ | refine Sub.castO rfl ?_ | refine Sub.skip ?_)
      ·
       rintro ⟨⟩ _
       refine f_seq fun K24 kh24 => ?_
       refine f_seq fun K25 kh25 => ?_
       refine f_region ?_
       refine f_stepP rfl rfl rfl (o_move rfl) ?_
       refine f_done ?_
       refine f_tn (kh25 _ _ ?_)
       clear kh25
       refine f_condB rfl (fun c80 => ?_) (fun c80 => ?_)
       ·
        have hin : (prs n l)[k] ∈ M := by simpa using c80
        have hnx1 := filt_len_yes (q := fun p => decide (p ∈ M)) hk (by simpa using hin)
        refine f_reC 17 rfl (v := .bool true) (by rw [decide_eq_true hin]) ?_
        refine f_region ?_
        refine f_stepP rfl rfl rfl (o_move rfl) ?_
        refine f_stepP rfl rfl rfl (o_add rfl rfl _ (Eq.trans (wrap_i64 (by omega)) (show _ = ((((prs n l).take (k + 1)).filter fun p => decide (p ∈ M)).length : Int) by omega))) ?_
        refine f_stepP rfl rfl rfl (o_assign rfl) ?_
        refine f_done ?_
        refine f_tn (kh24 _ _ ?_)
        clear kh24
        refine f_seq fun K26 kh26 => ?_
        refine f_regionS rfl (by decide +kernel) ?_
        refine f_stillP rfl rfl rfl (o_move rfl) ?_
        refine f_stillP rfl rfl rfl (o_field fa47_0 rfl) ?_
        refine f_stillP rfl rfl rfl (o_load Try.isAgg3 rfl (rdA rfl)) ?_
        refine f_stillP rfl rfl rfl (o_idx sl35 rfl rfl ((prs n l)[k].1.toNat) ⟨by omega, by omega, by first | omega | (simp; done) | (simp; omega)⟩) ?_
        refine f_stillP rfl rfl rfl (o_load Try.isAgg3 rfl (rdA (v := .int .i64 (p[(prs n l)[k].1.toNat] : Int)) (app_get (natN_at hu1)))) ?_
        refine f_stillP rfl rfl rfl (o_move rfl) ?_
        refine f_stillP rfl rfl rfl (o_field fa47_1 rfl) ?_
        refine f_stillP rfl rfl rfl (o_load Try.isAgg3 rfl (rdA rfl)) ?_
        refine f_stillP rfl rfl rfl (o_idx sl35 rfl rfl ((prs n l)[k].2.toNat) ⟨by omega, by omega, by first | omega | (simp; done) | (simp; omega)⟩) ?_
        refine f_stillP rfl rfl rfl (o_load Try.isAgg3 rfl (rdA (v := .int .i64 (p[(prs n l)[k].2.toNat] : Int)) (app_get (natN_at hu2)))) ?_
        refine f_stillP rfl rfl rfl (o_neq rfl rfl) ?_
        refine f_stillD ?_
        refine f_tn (kh26 _ _ ?_)
        clear kh26
        refine f_cond rfl (fun c93 => ?_) (fun c93 => ?_)
        ·
         have hne : p[(prs n l)[k].1.toNat] ≠ p[(prs n l)[k].2.toNat] := by omega
         have hmk := between_marked hg hp hqm hu1 hu2 hne
         have hnx2 := filt_len_yes (q := apart (natN p)) hk (by rw [hap]; simpa using hne)
         refine f_seq fun K27 kh27 => ?_
         refine f_region ?_
         refine f_stepP rfl rfl rfl (o_move rfl) ?_
         refine f_stepP rfl rfl rfl (o_add rfl rfl _ (Eq.trans (wrap_i64 (by omega)) (show _ = ((((prs n l).take (k + 1)).filter (apart (natN p))).length : Int) by omega))) ?_
         refine f_stepP rfl rfl rfl (o_assign rfl) ?_
         refine f_done ?_
         refine f_tn (kh27 _ _ ?_)
         clear kh27
         refine f_seq fun K28 kh28 => ?_
         refine f_region ?_
         refine f_stepP rfl rfl rfl (o_move rfl) ?_
         refine f_stepP rfl rfl rfl (o_not rfl) ?_
         refine f_done ?_
         refine f_tn (kh28 _ _ ?_)
         clear kh28
         refine f_condF rfl ?_
         refine f_skip ?_
         refine f_bn ?_
         refine f_tn (kh21 _ _ ?_)
         clear kh21
         refine f_region ?_
         refine f_stepP rfl rfl rfl (o_add rfl rfl _ (wrap_i64 (by omega))) ?_
         refine f_stepP rfl rfl rfl (o_move rfl) ?_
         refine f_done ?_
         refine f_tn (f_again (k + 1) (by first | omega | (dsimp only; omega) | (simp; omega)) (by omega) ?_ ?_ ?_)
         · exact (by repeat (first | exact trivial | refine ⟨rfl, ?_⟩))
         · exact (by repeat (first | exact trivial | refine ⟨rfl, ?_⟩))
         · repeat (first | exact Sub.nil | refine Sub.pick ?_ | refine Sub.castO rfl ?_ | refine Sub.skip ?_)
        ·
         have hne : p[(prs n l)[k].1.toNat] = p[(prs n l)[k].2.toNat] := by omega
         have hnx2 := filt_len_no (q := apart (natN p)) hk (by rw [hap]; simpa using hne)
         refine f_reC 14 rfl (v := .int .i64 ((((prs n l).take (k + 1)).filter (apart (natN p))).length : Int)) (by rw [hnx2]) ?_
         refine f_skip ?_
         refine f_bn ?_
         refine f_tn (kh21 _ _ ?_)
         clear kh21
         refine f_region ?_
         refine f_stepP rfl rfl rfl (o_add rfl rfl _ (wrap_i64 (by omega))) ?_
         refine f_stepP rfl rfl rfl (o_move rfl) ?_
         refine f_done ?_
         refine f_tn (f_again (k + 1) (by first | omega | (dsimp only; omega) | (simp; omega)) (by omega) ?_ ?_ ?_)
         · exact (by repeat (first | exact trivial | refine ⟨rfl, ?_⟩))
         · exact (by repeat (first | exact trivial | refine ⟨rfl, ?_⟩))
         · repeat (first | exact Sub.nil | refine Sub.pick ?_ | refine Sub.castO rfl ?_ | refine Sub.skip ?_)
       ·
        have hin : (prs n l)[k] ∉ M := by simpa using c80
        have hnx1 := filt_len_no (q := fun p => decide (p ∈ M)) hk (by simpa using hin)
        refine f_reC 17 rfl (v := .bool false) (by rw [decide_eq_false hin]) ?_
        refine f_reC 13 rfl (v := .int .i64 ((((prs n l).take (k + 1)).filter fun p => decide (p ∈ M)).length : Int)) (by rw [hnx1]) ?_
        refine f_skip ?_
        refine f_tn (kh24 _ _ ?_)
        clear kh24
        refine f_seq fun K29 kh29 => ?_
        refine f_regionS rfl (by decide +kernel) ?_
        refine f_stillP rfl rfl rfl (o_move rfl) ?_
        refine f_stillP rfl rfl rfl (o_field fa47_0 rfl) ?_
        refine f_stillP rfl rfl rfl (o_load Try.isAgg3 rfl (rdA rfl)) ?_
        refine f_stillP rfl rfl rfl (o_idx sl35 rfl rfl ((prs n l)[k].1.toNat) ⟨by omega, by omega, by first | omega | (simp; done) | (simp; omega)⟩) ?_
        refine f_stillP rfl rfl rfl (o_load Try.isAgg3 rfl (rdA (v := .int .i64 (p[(prs n l)[k].1.toNat] : Int)) (app_get (natN_at hu1)))) ?_
        refine f_stillP rfl rfl rfl (o_move rfl) ?_
        refine f_stillP rfl rfl rfl (o_field fa47_1 rfl) ?_
        refine f_stillP rfl rfl rfl (o_load Try.isAgg3 rfl (rdA rfl)) ?_
        refine f_stillP rfl rfl rfl (o_idx sl35 rfl rfl ((prs n l)[k].2.toNat) ⟨by omega, by omega, by first | omega | (simp; done) | (simp; omega)⟩) ?_
        refine f_stillP rfl rfl rfl (o_load Try.isAgg3 rfl (rdA (v := .int .i64 (p[(prs n l)[k].2.toNat] : Int)) (app_get (natN_at hu2)))) ?_
        refine f_stillP rfl rfl rfl (o_neq rfl rfl) ?_
        refine f_stillD ?_
        refine f_tn (kh29 _ _ ?_)
        clear kh29
        refine f_cond rfl (fun c93 => ?_) (fun c93 => ?_)
        ·
         exact absurd (between_marked hg hp hqm hu1 hu2 (show p[(prs n l)[k].1.toNat] ≠ p[(prs n l)[k].2.toNat] by omega)) hin -- closed
        ·
         have hne : p[(prs n l)[k].1.toNat] = p[(prs n l)[k].2.toNat] := by omega
         have hnx2 := filt_len_no (q := apart (natN p)) hk (by rw [hap]; simpa using hne)
         refine f_reC 14 rfl (v := .int .i64 ((((prs n l).take (k + 1)).filter (apart (natN p))).length : Int)) (by rw [hnx2]) ?_
         refine f_skip ?_
         refine f_bn ?_
         refine f_tn (kh21 _ _ ?_)
         clear kh21
         refine f_region ?_
         refine f_stepP rfl rfl rfl (o_add rfl rfl _ (wrap_i64 (by omega))) ?_
         refine f_stepP rfl rfl rfl (o_move rfl) ?_
         refine f_done ?_
         refine f_tn (f_again (k + 1) (by first | omega | (dsimp only; omega) | (simp; omega)) (by omega) ?_ ?_ ?_)
         · exact (by repeat (first | exact trivial | refine ⟨rfl, ?_⟩))
         · exact (by repeat (first | exact trivial | refine ⟨rfl, ?_⟩))
         · repeat (first | exact Sub.nil | refine Sub.pick ?_ | refine Sub.castO rfl ?_ | refine Sub.skip ?_)
     ·
      refine f_exit ?_
      refine f_te ?_
      clear kh20
      refine f_te ?_
      refine f_be ?_
      refine f_tn (kh17 _ _ ?_)
      clear kh17
      refine f_seq fun K30 kh30 => ?_
      obtain rfl : k = (prs n l).length := by omega
      rw [List.take_length]
      rw [← hMf]
      refine f_region ?_
      refine f_stepP rfl rfl rfl (o_loadA (vs := [_, _]) Try.isAgg24 Try.sizeOf24 rfl rfl ⟨(rdA rfl), (rdA rfl), trivial⟩) ?_
      refine f_stepP rfl rfl rfl (o_move rfl) ?_
      refine f_step rfl rfl rfl (o_call Try.call25 rfl (fun w_ hp_ => Count_spec (n : Int) A AP l cap (natN p) cP w_ (hr.up0 hp_) hl hN hok (seen_ro (hoP.seen hp_)) (by rw [natN_len]; omega)) ?_)
      rintro _ _ ⟨rfl, rfl⟩
      rw [lcnt_rightN hg (tidy_rightN hp.tidy hp.len)]
      dsimp only [List.cons_append, List.nil_append]
      refine f_stepP rfl rfl rfl (o_move rfl) ?_
      refine f_stepP rfl rfl rfl (o_extract rfl rfl) ?_
      refine f_stepP rfl rfl rfl (o_extract rfl rfl) ?_
      refine f_stepP rfl rfl rfl (o_assign rfl) ?_
      refine f_stepP rfl rfl rfl (o_assign rfl) ?_
      refine f_done ?_
      refine f_tn (kh30 _ _ ?_)
      clear kh30
      refine f_seq fun K31 kh31 => ?_
      refine f_region ?_
      refine f_stepP rfl rfl rfl (o_loadA (vs := [_, _]) Try.isAgg24 Try.sizeOf24 rfl rfl ⟨(rdA rfl), (rdA rfl), trivial⟩) ?_
      refine f_step rfl rfl rfl (o_call Try.call26 rfl (fun w_ hp_ => PartsN_spec (n : Int) A l cap w_ (hr.up0 hp_) hl hN hok) ?_)
      rintro _ _ ⟨P2, AP2, cP2, mP2, rfl, rfl, hoP2, hP02, _⟩
      obtain ⟨p2, rfl, hp2⟩ := hP02 hg
      rw [hg]
      rw [Int.toNat_natCast] at hp2
      have hp2l := hp2.len
      dsimp only [List.cons_append, List.nil_append]
      refine f_stepP rfl rfl rfl (o_move rfl) ?_
      refine f_stepP rfl rfl rfl (o_extract rfl rfl) ?_
      refine f_stepP rfl rfl rfl (o_extract rfl rfl) ?_
      refine f_stepP rfl rfl rfl (o_assign rfl) ?_
      refine f_stepP rfl rfl rfl (o_assign rfl) ?_
      refine f_done ?_
      refine f_tn (kh31 _ _ ?_)
      clear kh31
      refine f_seq fun K32 kh32 => ?_
      refine f_region ?_
      refine f_stepP rfl rfl rfl (o_loadA (vs := [_, _]) Try.isAgg24 Try.sizeOf24 rfl rfl ⟨(rdA rfl), (rdA rfl), trivial⟩) ?_
      refine f_step rfl rfl rfl (o_call Try.call15 rfl (fun w_ hp_ => Fragments_spec (n : Int) A none l cap [] 0 w_ (hr.up0 hp_) hl hN hok Ro.nil (by simp) (fun p hp => by cases hp)) ?_)
      rintro _ _ ⟨P3, AP3, cP3, mP3, rfl, rfl, hoP3, hP03, _⟩
      obtain ⟨p3, rfl, hp3⟩ := hP03 (frag_nil hg)
      rw [Int.toNat_natCast, keepA_nil] at hp3
      obtain rfl : p3 = p2 := hp3.unique hp2 fun _ _ _ _ => Iff.rfl
      rw [frag_nil hg]
      dsimp only [List.cons_append, List.nil_append]
      refine f_stepP rfl rfl rfl (o_move rfl) ?_
      refine f_stepP rfl rfl rfl (o_extract rfl rfl) ?_
      refine f_stepP rfl rfl rfl (o_extract rfl rfl) ?_
      refine f_stepP rfl rfl rfl (o_assign rfl) ?_
      refine f_stepP rfl rfl rfl (o_assign rfl) ?_
      refine f_done ?_
      refine f_tn (kh32 _ _ ?_)
      clear kh32
      refine f_seq fun K33 kh33 => ?_
      refine f_region ?_
      refine f_stepP rfl rfl rfl (o_move rfl) ?_
      refine f_stepP rfl rfl rfl (o_move rfl) ?_
      refine f_stepP rfl rfl rfl (o_len sl28 rfl) ?_
      refine f_stepP rfl rfl rfl (o_eql rfl rfl) ?_
      refine f_stepP rfl rfl rfl (o_move rfl) ?_
      refine f_trueL 119 rfl (rfl) ?_
      refine f_stepPY rfl rfl rfl rfl rfl (o_move rfl) ?_
      refine f_stepPY rfl rfl rfl rfl rfl (o_eql rfl rfl) ?_
      refine f_stepP rfl rfl rfl (o_pickT rfl rfl) ?_
      refine f_stepP rfl rfl rfl (o_move rfl) ?_
      refine f_trueL 123 rfl (rfl) ?_
      refine f_stepPY rfl rfl rfl rfl rfl (o_move rfl) ?_
      refine f_stepPY rfl rfl rfl rfl rfl (o_move rfl) ?_
      refine f_stepPY rfl rfl rfl rfl rfl (o_eql rfl rfl) ?_
      refine f_stepP rfl rfl rfl (o_pickT rfl rfl) ?_
      refine f_stepP rfl rfl rfl (o_move rfl) ?_
      refine f_trueL 128 rfl (rfl) ?_
      refine f_stepPY rfl rfl rfl rfl rfl (o_move rfl) ?_
      refine f_stepPY rfl rfl rfl rfl rfl (o_eql rfl rfl) ?_
      refine f_stepP rfl rfl rfl (o_pickT rfl rfl) ?_
      refine f_stepP rfl rfl rfl (o_move rfl) ?_
      refine f_trueL 132 rfl (rfl) ?_
      refine f_stepPY rfl rfl rfl rfl rfl (o_move rfl) ?_
      refine f_stepPY rfl rfl rfl rfl rfl (o_eql rfl rfl) ?_
      refine f_stepP rfl rfl rfl (o_pickT rfl rfl) ?_
      refine f_stepP rfl rfl rfl (o_move rfl) ?_
      refine f_trueL 136 rfl (rfl) ?_
      refine f_stepPY rfl rfl rfl rfl rfl (o_move rfl) ?_
      refine f_stepPY rfl rfl rfl rfl rfl (o_move rfl) ?_
      refine f_stepY rfl rfl rfl rfl rfl (o_call Try.call17 rfl (fun w_ hp_ => SameInts_spec AP2 AP3 (natN p3) (natN p3) cP2 cP3 w_ (seen_ro (hoP2.seen hp_)) (seen_ro (hoP3.seen hp_)) (by rw [natN_len]; omega)) ?_)
      rintro _ _ ⟨rfl, rfl⟩
      rw [decide_eq_true rfl]
      dsimp only [List.cons_append, List.nil_append]
      refine f_stepP rfl rfl rfl (o_pickT rfl rfl) ?_
      refine f_stepP rfl rfl rfl (o_assign rfl) ?_
      refine f_done ?_
      refine f_tn (kh33 _ _ ?_)
      clear kh33
      refine f_ret ?_
      exact f_fin1 [] Try.results7 rfl Sub.nil ⟨rfl, rfl⟩

end Go.Proofs.Ytbjiejhdgkpjcaa

/- flyoverlaw08: parted, NatcutParts. -/
namespace Go.Proofs.Ytbjiejhdgkpjcaa
open Go Go.RowKit Fly
set_option linter.unusedVariables false
set_option linter.unusedSimpArgs false


theorem bools_neN {I : List Bool} (h : 0 < I.length) : boolsG I ≠ [] := fun e => by
  have h1 : (boolsG I).length = I.length := by simp [boolsG]
  rw [e, List.length_nil] at h1; omega
theorem p_at {p : List Nat} {u : Nat} (h : u < p.length) : (ints (natN p))[u]? = some (.int .i64 (p[u] : Int)) := by
  simp [ints, natN, h]
/-- Some of a cut, of which one is left out. -/
theorem less_len {C : List Pr} {i : Nat} (h : i < C.length) : (C.take i ++ C.drop (i + 1)).length = C.length - 1 := by
  rw [List.length_append, List.length_take, List.length_drop]; omega
theorem less_sub {C : List Pr} {i : Nat} {p : Pr} (h : p ∈ C.take i ++ C.drop (i + 1)) : p ∈ C := by
  rcases List.mem_append.1 h with h | h
  · exact List.mem_of_mem_take h
  · exact List.mem_of_mem_drop h
theorem take_cells {C : List Pr} {sp : List Value} {i : Nat} (hi : i ≤ C.length) {j : Nat} {v : Value} (h : ((C.take i).flatMap prCs)[j]? = some v) : (C.flatMap prCs ++ sp)[j]? = some v := by
  have e : C.flatMap prCs = (C.take i).flatMap prCs ++ (C.drop i).flatMap prCs := by rw [← List.flatMap_append, List.take_append_drop]
  rw [e, List.append_assoc]; exact app_get h
theorem drop_cells {C : List Pr} {sp : List Value} {i : Nat} (hi : i ≤ C.length) {j : Nat} {v : Value} (h : ((C.drop i).flatMap prCs)[j]? = some v) : (C.flatMap prCs ++ sp)[i * 2 + j]? = some v := by
  have e : C.flatMap prCs = (C.take i).flatMap prCs ++ (C.drop i).flatMap prCs := by rw [← List.flatMap_append, List.take_append_drop]
  have hl : ((C.take i).flatMap prCs).length = i * 2 := by rw [flat_length prCs prCs_len, List.length_take]; omega
  rw [e, List.append_assoc, List.getElem?_append_right (by omega), hl, Nat.add_sub_cancel_left]
  exact app_get h

set_option maxRecDepth 100000 in
set_option maxHeartbeats 4000000 in
theorem parted_spec (n : Nat) (A : Option Addr) (l : List Arc) (cap : Nat) (B : Option Addr) (M : List Pr) (cb mb : Nat) (Ac : Option Addr) (K : List Int) (ck : Nat) (Ai : Option Addr) (I : List Bool) (ci : Nat) (w : World) (hr : Ro (Fr w []) w A (l.flatMap arcCs)) (hg : (gcheck (n : Int) l).2 = 0) (hok : ∀ x ∈ l, ArcOk x)
      (hM : Ro (Fr w []) w B (M.flatMap prCs)) (hmb : M.length = mb) (hMp : (∀ p ∈ M, p ∈ prs n l) ∧ M.length ≤ 16384) (hK : Ro (Fr w []) w Ac (ints K)) (hKr : ∀ v ∈ K, 0 ≤ v ∧ v < (n : Int)) (hKm : K.length ≤ 1024) (hI : Ro (Fr w []) w Ai (boolsG I)) (hIl : I.length = n) :
    Meets Try.prog 22 [.agg #[.int .i64 (n : Int), .slice A l.length cap], .slice B mb cb, .slice Ac K.length ck, .slice Ai n ci] w [] (fun u m => ∃ r : Int, u = .int .i64 r ∧ m = [] ∧ ((r = 1 ∧ ∃ u v : Nat, u < n ∧ v < n ∧ (v : Int) ∈ K ∧ I.getD u false = false ∧ Conn (ends2 (keepA M l)) u v) ∨ (r = 0 ∧ ∀ u v : Nat, u < n → (v : Int) ∈ K → I.getD u false = false → ¬ Conn (ends2 (keepA M l)) u v))) := by
 subst hmb
 obtain ⟨hg1, hg2, hl8, hgd⟩ := gcheck_zero hg
 have hfr := frag_zero hg hMp.1 hMp.2
 have hM64 : ∀ p ∈ M, I64 p.1 ∧ I64 p.2 := fun p hp => by
   have := prs_rng (hMp.1 p hp)
   unfold I64; omega
 refine f_enter Try.func22 rfl Try.ntmps22 rfl Owns.nil ?_
 refine f_seq fun K1 kh1 => ?_
 refine f_region ?_
 refine f_step rfl rfl rfl (o_box rfl rfl fun b4 => ?_)
 refine f_stepP rfl rfl rfl (o_assign rfl) ?_
 refine f_done ?_
 refine f_tn (kh1 _ _ ?_)
 clear kh1
 refine f_seq fun K2 kh2 => ?_
 refine f_region ?_
 refine f_stepP rfl rfl rfl (o_loadA (vs := [_, _]) Try.isAgg24 Try.sizeOf24 rfl rfl ⟨(rdA rfl), (rdA rfl), trivial⟩) ?_
 refine f_stepP rfl rfl rfl (o_move rfl) ?_
 refine f_step rfl rfl rfl (o_call Try.call15 rfl (fun w_ hp_ => Fragments_spec (n : Int) A B l cap M cb w_ (hr.up0 hp_) (by omega) ⟨by omega, by omega⟩ hok (hM.up0 hp_) (by have := hMp.2; omega) hM64) ?_)
 rintro _ _ ⟨P, AP, cP, mP, rfl, rfl, hoP, hP0, _⟩
 obtain ⟨p, rfl, hp⟩ := hP0 hfr
 rw [Int.toNat_natCast] at hp
 have hpl := hp.len
 rw [hfr]
 dsimp only [List.cons_append, List.nil_append]
 refine f_stepP rfl rfl rfl (o_move rfl) ?_
 refine f_stepP rfl rfl rfl (o_extract rfl rfl) ?_
 refine f_stepP rfl rfl rfl (o_extract rfl rfl) ?_
 refine f_stepP rfl rfl rfl (o_assign rfl) ?_
 refine f_stepP rfl rfl rfl (o_assign rfl) ?_
 refine f_done ?_
 refine f_tn (kh2 _ _ ?_)
 clear kh2
 refine f_seq fun K3 kh3 => ?_
 refine f_seq fun K4 kh4 => ?_
 refine f_region ?_
 refine f_stepP rfl rfl rfl (o_move rfl) ?_
 refine f_stepP rfl rfl rfl (o_neq rfl rfl) ?_
 refine f_done ?_
 refine f_tn (kh4 _ _ ?_)
 clear kh4
 refine f_condN rfl (by simp) ?_
 refine f_skip ?_
 refine f_tn (kh3 _ _ ?_)
 clear kh3
 refine f_seq fun K5 kh5 => ?_
 refine f_seq fun K6 kh6 => ?_
 refine f_region ?_
 refine f_stepP rfl rfl rfl (o_move rfl) ?_
 refine f_stepP rfl rfl rfl (o_len sl35 rfl) ?_
 refine f_stepP rfl rfl rfl (o_move rfl) ?_
 refine f_done ?_
 refine f_tn (kh6 _ _ ?_)
 clear kh6
 refine f_block ?_
 refine f_loop (α := Nat) [3, 9, 22, 23] (fun k => [(24, .int .i64 (k : Int))]) (fun k => [mP, [(b4, blk [.int .i64 (n : Int), .slice A l.length cap] 24)]]) (fun k => k ≤ K.length ∧ ∀ u v : Nat, u < n → (v : Int) ∈ K.take k → I.getD u false = false → ¬ Conn (ends2 (keepA M l)) u v) (fun k => K.length - k) (0) ?_ ?_ ?_ ?_
 · exact (by repeat (first | exact trivial | refine ⟨rfl, ?_⟩))
 · repeat (first | exact Sub.nil | refine Sub.pick ?_ | refine Sub.castO rfl ?_ | refine Sub.skip ?_)
 · exact ⟨Nat.zero_le _, fun u v _ h => by simp at h⟩
 ·
  rintro k ⟨hkl, hno⟩
  refine f_seq fun K7 kh7 => ?_
  refine f_region ?_
  refine f_stepP rfl rfl rfl (o_lss rfl rfl) ?_
  refine f_done ?_
  refine f_tn (kh7 _ _ ?_)
  clear kh7
  refine f_seq fun K8 kh8 => ?_
  refine f_cond rfl (fun c25 => ?_) (fun c25 => ?_)
  ·
   have hk : k < K.length := by omega
   obtain ⟨bb, ob, rfl, hSb, hcb⟩ := hK (fun e => by have := ints_length K; rw [e] at this; simp at this; omega)
   have hkr := hKr _ (List.getElem_mem hk)
   obtain ⟨v, hv⟩ : ∃ v : Nat, K[k] = (v : Int) := ⟨_, (Int.toNat_of_nonneg hkr.1).symm⟩
   have hvn : v < n := by omega
   refine f_skip ?_
   refine f_tn (kh8 _ _ ?_)
   clear kh8
   refine f_seq fun K9 kh9 => ?_
   refine f_block ?_
   refine f_seq fun K10 kh10 => ?_
   refine f_region ?_
   refine f_stepP rfl rfl rfl (o_idx sl35 rfl rfl (ob + k) ⟨by omega, by omega, by first | omega | (simp; done) | (simp; omega)⟩) ?_
   refine f_stepP rfl rfl rfl (o_load Try.isAgg3 rfl (show Rd _ _ _ _ _ (.int .i64 (v : Int)) by rw [← hv]; exact roOne (enc := (.int .i64 ·)) hSb hcb hk)) ?_
   refine f_stepP rfl rfl rfl (o_assign rfl) ?_
   refine f_done ?_
   refine f_tn (kh10 _ _ ?_)
   clear kh10
   refine f_seq fun K11 kh11 => ?_
   refine f_region ?_
   refine f_stepP rfl rfl rfl (o_move rfl) ?_
   refine f_stepP rfl rfl rfl (o_len sl35 rfl) ?_
   refine f_stepP rfl rfl rfl (o_move rfl) ?_
   refine f_done ?_
   refine f_tn (kh11 _ _ ?_)
   clear kh11
   refine f_block ?_
   refine f_loop (α := Nat) [3, 9, 12, 22, 23, 24, 29] (fun j => [(30, .int .i64 (j : Int))]) (fun j => [mP, [(b4, blk [.int .i64 (n : Int), .slice A l.length cap] 24)]]) (fun j => j ≤ n ∧ ∀ u (h : u < p.length), u < j → I.getD u false = false → p[u] ≠ p[v]'(by omega)) (fun j => n - j) (0) ?_ ?_ ?_ ?_
   · exact (by repeat (first | exact trivial | refine ⟨rfl, ?_⟩))
   · repeat (first | exact Sub.nil | refine Sub.pick ?_ | refine Sub.castO rfl ?_ | refine Sub.skip ?_)
   · exact ⟨Nat.zero_le _, fun u _ h => by omega⟩
   ·
    rintro j ⟨hjn, hno2⟩
    refine f_envC (e := [(30, _), (3, _), (9, _), (12, _), (22, _), (23, _), (24, _), (29, _)]) (by repeat (first | exact trivial | refine ⟨rfl, ?_⟩)) ?_
    refine f_seq fun K12 kh12 => ?_
    refine f_region ?_
    refine f_stepP rfl rfl rfl (o_lss rfl rfl) ?_
    refine f_done ?_
    refine f_tn (kh12 _ _ ?_)
    clear kh12
    refine f_seq fun K13 kh13 => ?_
    refine f_cond rfl (fun c31 => ?_) (fun c31 => ?_)
    ·
     rw [natN_len] at c31
     have hj : j < n := by omega
     obtain ⟨bP, sP, rfl, rfl⟩ := hoP.at_ (by rw [natN_len]; omega)
     obtain ⟨bi, oi, rfl, hSi, hci⟩ := hI (bools_neN (by omega))
     have hpj : j < p.length := by omega
     have hpv : v < p.length := by omega
     have hnlen := natN_len p
     refine f_skip ?_
     refine f_tn (kh13 _ _ ?_)
     clear kh13
     refine f_seq fun K14 kh14 => ?_
     refine f_block ?_
     refine f_seq fun K15 kh15 => ?_
     refine f_region ?_
     refine f_stepP rfl rfl rfl (o_move rfl) ?_
     refine f_stepP rfl rfl rfl (o_assign rfl) ?_
     refine f_done ?_
     refine f_tn (kh15 _ _ ?_)
     clear kh15
     refine f_seq fun K16 kh16 => ?_
     refine f_regionS rfl (by decide +kernel) ?_
     refine f_stillP rfl rfl rfl (o_move rfl) ?_
     refine f_stillP rfl rfl rfl (o_move rfl) ?_
     refine f_stillP rfl rfl rfl (o_idx sl42 rfl rfl (oi + j) ⟨by omega, by omega, by first | omega | (simp; done) | (simp; omega)⟩) ?_
     refine f_stillP rfl rfl rfl (o_load Try.isAgg4 rfl (show Rd _ _ _ _ _ (.bool (I.getD j false)) by rw [show I.getD j false = I[j]'(by omega) from by simp [List.getD_eq_getElem?_getD, hIl, hj]]; exact roOne (enc := Value.bool) hSi hci (by omega))) ?_
     refine f_stillP rfl rfl rfl (o_not rfl) ?_
     refine f_stillP rfl rfl rfl (o_move rfl) ?_
     refine f_splitSB 38 rfl (fun g38 => ?_) (fun g38 => ?_)
     ·
      refine f_stillPY rfl rfl rfl rfl rfl (o_move rfl) ?_
      refine f_stillPY rfl rfl rfl rfl rfl (o_move rfl) ?_
      refine f_stillPY rfl rfl rfl rfl rfl (o_idx sl35 rfl rfl (j) ⟨by omega, by omega, by first | omega | (simp; done) | (simp; omega)⟩) ?_
      refine f_stillPY rfl rfl rfl rfl rfl (o_load Try.isAgg3 rfl (rdA (v := .int .i64 (p[j] : Int)) (app_get (p_at hpj)))) ?_
      refine f_stillPY rfl rfl rfl rfl rfl (o_move rfl) ?_
      refine f_stillPY rfl rfl rfl rfl rfl (o_move rfl) ?_
      refine f_stillPY rfl rfl rfl rfl rfl (o_idx sl35 rfl rfl (v) ⟨by omega, by omega, by first | omega | (simp; done) | (simp; omega)⟩) ?_
      refine f_stillPY rfl rfl rfl rfl rfl (o_load Try.isAgg3 rfl (rdA (v := .int .i64 (p[v] : Int)) (app_get (p_at hpv)))) ?_
      refine f_stillPY rfl rfl rfl rfl rfl (o_eql rfl rfl) ?_
      refine f_stillP rfl rfl rfl (o_pickT rfl rfl) ?_
      refine f_stillD ?_
      refine f_tn (kh16 _ _ ?_)
      clear kh16
      refine f_cond rfl (fun c48 => ?_) (fun c48 => ?_)
      ·
       refine f_seq fun K17 kh17 => ?_
       refine f_region ?_
       refine f_stepP rfl rfl rfl (o_assign rfl) ?_
       refine f_done ?_
       refine f_tn (kh17 _ _ ?_)
       clear kh17
       refine f_ret ?_
       refine f_br ?_
       refine f_tr ?_
       refine f_tr ?_
       refine f_br ?_
       refine f_br ?_
       refine f_tr ?_
       refine f_tr ?_
       refine f_br ?_
       refine f_tr ?_
       exact f_fin1 [] Try.results22 rfl (by repeat (first | exact Sub.nil | refine Sub.pick ?_ | refine Sub.castO rfl ?_ | refine Sub.skip ?_)) ⟨1, rfl, rfl, .inl ⟨rfl, j, v, hj, hvn, hv ▸ List.getElem_mem hk, by simpa using g38, (hp.conn j v hpj hpv).1 (by omega)⟩⟩
      ·
       refine f_skip ?_
       refine f_bn ?_
       refine f_tn (kh14 _ _ ?_)
       clear kh14
       refine f_region ?_
       refine f_stepP rfl rfl rfl (o_add rfl rfl _ (wrap_i64 (by omega))) ?_
       refine f_stepP rfl rfl rfl (o_move rfl) ?_
       refine f_done ?_
       refine f_tn (f_again (j + 1) (by first | omega | (dsimp only; omega) | (simp; omega)) ⟨by omega, fun u hu huj hi => by
         by_cases e : u = j
         · subst e; intro e2; exact c48 (by rw [e2])
         · exact hno2 u hu (by omega) hi⟩ ?_ ?_ ?_)
       · exact (by repeat (first | exact trivial | refine ⟨rfl, ?_⟩))
       · exact (by repeat (first | exact trivial | refine ⟨rfl, ?_⟩))
       · repeat (first | exact Sub.nil | refine Sub.pick ?_ | refine Sub.castO rfl ?_ | refine Sub.skip ?_)
     ·
      refine f_stillN rfl rfl rfl rfl rfl rfl ?_
      refine f_stillN rfl rfl rfl rfl rfl rfl ?_
      refine f_stillN rfl rfl rfl rfl rfl rfl ?_
      refine f_stillN rfl rfl rfl rfl rfl rfl ?_
      refine f_stillN rfl rfl rfl rfl rfl rfl ?_
      refine f_stillN rfl rfl rfl rfl rfl rfl ?_
      refine f_stillN rfl rfl rfl rfl rfl rfl ?_
      refine f_stillN rfl rfl rfl rfl rfl rfl ?_
      refine f_stillN rfl rfl rfl rfl rfl rfl ?_
      refine f_stillP rfl rfl rfl (o_pickF rfl rfl) ?_
      refine f_stillD ?_
      refine f_tn (kh16 _ _ ?_)
      clear kh16
      refine f_condF rfl ?_
      refine f_skip ?_
      refine f_bn ?_
      refine f_tn (kh14 _ _ ?_)
      clear kh14
      refine f_region ?_
      refine f_stepP rfl rfl rfl (o_add rfl rfl _ (wrap_i64 (by omega))) ?_
      refine f_stepP rfl rfl rfl (o_move rfl) ?_
      refine f_done ?_
      refine f_tn (f_again (j + 1) (by first | omega | (dsimp only; omega) | (simp; omega)) ⟨by omega, fun u hu huj hi => by
        by_cases e : u = j
        · subst e; rw [hi] at g38; cases g38
        · exact hno2 u hu (by omega) hi⟩ ?_ ?_ ?_)
      · exact (by repeat (first | exact trivial | refine ⟨rfl, ?_⟩))
      · exact (by repeat (first | exact trivial | refine ⟨rfl, ?_⟩))
      · repeat (first | exact Sub.nil | refine Sub.pick ?_ | refine Sub.castO rfl ?_ | refine Sub.skip ?_)
    ·
     rw [natN_len] at c31
     refine f_exit ?_
     refine f_te ?_
     clear kh13
     refine f_te ?_
     refine f_be ?_
     refine f_bn ?_
     refine f_tn (kh9 _ _ ?_)
     clear kh9
     refine f_region ?_
     refine f_stepP rfl rfl rfl (o_add rfl rfl _ (wrap_i64 (by omega))) ?_
     refine f_stepP rfl rfl rfl (o_move rfl) ?_
     refine f_done ?_
     refine f_tn (f_again (k + 1) (by first | omega | (dsimp only; omega) | (simp; omega)) ⟨by omega, fun u v' hu hm hi => by
       rw [List.take_succ_eq_append_getElem hk, List.mem_append, List.mem_singleton] at hm
       rcases hm with hm | hm
       · exact hno u v' hu hm hi
       · obtain rfl : v' = v := by omega
         intro hc
         exact hno2 u (by omega) (by omega) hi ((hp.conn u v' (by omega) (by omega)).2 hc)⟩ ?_ ?_ ?_)
     · exact (by repeat (first | exact trivial | refine ⟨rfl, ?_⟩))
     · exact (by repeat (first | exact trivial | refine ⟨rfl, ?_⟩))
     · repeat (first | exact Sub.nil | refine Sub.pick ?_ | refine Sub.castO rfl ?_ | refine Sub.skip ?_)
  ·
   refine f_exit ?_
   refine f_te ?_
   clear kh8
   refine f_te ?_
   refine f_be ?_
   refine f_tn (kh5 _ _ ?_)
   clear kh5
   refine f_seq fun K18 kh18 => ?_
   refine f_region ?_
   refine f_stepP rfl rfl rfl (o_assign rfl) ?_
   refine f_done ?_
   refine f_tn (kh18 _ _ ?_)
   clear kh18
   refine f_ret ?_
   obtain rfl : k = K.length := by omega
   rw [List.take_length] at hno
   exact f_fin1 [] Try.results22 rfl (by repeat (first | exact Sub.nil | refine Sub.pick ?_ | refine Sub.castO rfl ?_ | refine Sub.skip ?_)) ⟨0, rfl, rfl, .inr ⟨rfl, hno⟩⟩

set_option maxRecDepth 100000 in
set_option maxHeartbeats 4000000 in
theorem NatcutParts_spec (N : Int) (A : Option Addr) (l : List Arc) (cap : Nat) (c most : Int) (w : World) (hr : Ro (Fr w []) w A (l.flatMap arcCs)) (hl : l.length ≤ 9223372036854775807) (hN : I64 N) (hok : ∀ x ∈ l, ArcOk x) :
    Meets Try.prog 5 [.agg #[.int .i64 N, .slice A l.length cap], .int .i64 c, .int .i64 most] w [] (fun u m => u = .bool true ∧ m = []) := by
 have hrl := regR_len (N := N) (l := l) (c := c) (most := most)
 refine f_enter Try.func5 rfl Try.ntmps5 rfl Owns.nil ?_
 refine f_seq fun K1 kh1 => ?_
 refine f_region ?_
 refine f_step rfl rfl rfl (o_box rfl rfl fun b3 => ?_)
 refine f_stepP rfl rfl rfl (o_assign rfl) ?_
 refine f_done ?_
 refine f_tn (kh1 _ _ ?_)
 clear kh1
 refine f_seq fun K2 kh2 => ?_
 refine f_seq fun K3 kh3 => ?_
 refine f_region ?_
 refine f_step rfl rfl rfl (o_call Try.call9 rfl (fun w_ hp_ => works_spec w_) ?_)
 rintro _ _ ⟨rfl, rfl⟩
 dsimp only [List.cons_append, List.nil_append]
 refine f_stepP rfl rfl rfl (o_not rfl) ?_
 refine f_done ?_
 refine f_tn (kh3 _ _ ?_)
 clear kh3
 refine f_condF rfl ?_
 refine f_skip ?_
 refine f_tn (kh2 _ _ ?_)
 clear kh2
 refine f_seq fun K4 kh4 => ?_
 refine f_seq fun K5 kh5 => ?_
 refine f_region ?_
 refine f_stepP rfl rfl rfl (o_loadA (vs := [_, _]) Try.isAgg24 Try.sizeOf24 rfl rfl ⟨(rdA rfl), (rdA rfl), trivial⟩) ?_
 refine f_step rfl rfl rfl (o_call Try.call19 rfl (fun w_ hp_ => large_spec N A l cap w_ (hr.up0 hp_) hl hN hok) ?_)
 rintro _ _ ⟨bL, rfl, rfl⟩
 dsimp only [List.cons_append, List.nil_append]
 refine f_done ?_
 refine f_tn (kh5 _ _ ?_)
 clear kh5
 refine f_condB rfl (fun c21 => ?_) (fun c21 => ?_)
 ·
  refine f_seq fun K6 kh6 => ?_
  refine f_region ?_
  refine f_stepP rfl rfl rfl (o_assign rfl) ?_
  refine f_done ?_
  refine f_tn (kh6 _ _ ?_)
  clear kh6
  refine f_ret ?_
  refine f_tr ?_
  exact f_fin1 [] Try.results5 rfl Sub.nil ⟨rfl, rfl⟩
 ·
  refine f_skip ?_
  refine f_tn (kh4 _ _ ?_)
  clear kh4
  refine f_seq fun K7 kh7 => ?_
  refine f_region ?_
  refine f_stepP rfl rfl rfl (o_loadA (vs := [_, _]) Try.isAgg24 Try.sizeOf24 rfl rfl ⟨(rdA rfl), (rdA rfl), trivial⟩) ?_
  refine f_stepP rfl rfl rfl (o_move rfl) ?_
  refine f_stepP rfl rfl rfl (o_move rfl) ?_
  refine f_step rfl rfl rfl (o_call Try.call11 rfl (fun w_ hp_ => CutN_spec N A l cap c most w_ (hr.up0 hp_) hl hN hok) ?_)
  rintro _ _ ⟨C, AC0, cC0, mC, rfl, rfl, hoC, hCe, hC0⟩
  dsimp only [List.cons_append, List.nil_append]
  refine f_stepP rfl rfl rfl (o_move rfl) ?_
  refine f_stepP rfl rfl rfl (o_extract rfl rfl) ?_
  refine f_stepP rfl rfl rfl (o_extract rfl rfl) ?_
  refine f_stepP rfl rfl rfl (o_assign rfl) ?_
  refine f_stepP rfl rfl rfl (o_assign rfl) ?_
  refine f_done ?_
  refine f_tn (kh7 _ _ ?_)
  clear kh7
  refine f_seq fun K8 kh8 => ?_
  refine f_seq fun K9 kh9 => ?_
  refine f_region ?_
  refine f_stepP rfl rfl rfl (o_move rfl) ?_
  refine f_stepP rfl rfl rfl (o_neq rfl rfl) ?_
  refine f_done ?_
  refine f_tn (kh9 _ _ ?_)
  clear kh9
  refine f_cond rfl (fun c30 => ?_) (fun c30 => ?_)
  ·
   have hz : ncE N l c most ≠ 0 := by simpa using c30
   obtain rfl := hCe hz
   refine f_seq fun K10 kh10 => ?_
   refine f_region ?_
   refine f_stepP rfl rfl rfl (o_move rfl) ?_
   refine f_stepP rfl rfl rfl (o_len sl28 rfl) ?_
   refine f_stepP rfl rfl rfl (o_eql rfl rfl) ?_
   refine f_stepP rfl rfl rfl (o_assign rfl) ?_
   refine f_done ?_
   refine f_tn (kh10 _ _ ?_)
   clear kh10
   refine f_ret ?_
   refine f_tr ?_
   exact f_fin1 [] Try.results5 rfl Sub.nil ⟨by simp, rfl⟩
  ·
   have hz' : ncE N l c most = 0 := by simpa using c30
   have hgN := regR_rng (show (regR N l c most).2 = 0 from by
     unfold ncE at hz'
     by_cases h1 : (regR N l c most).2 = 0
     · exact h1
     · rw [if_pos h1] at hz'; exact hz')
   obtain ⟨hg1, hg2, hl8, hgd⟩ := gcheck_zero hgN
   obtain ⟨n, rfl⟩ : ∃ n : Nat, N = (n : Int) := ⟨N.toNat, by omega⟩
   have hz : ncE (n : Int) l c most = 0 := hz'
   have hg : (gcheck (n : Int) l).2 = 0 := hgN
   have hr0 := nc_reg hz
   obtain ⟨_, hrr, hrnd, hrp⟩ := reg_facts hr0
   have hcle := core_le (n := n) (l := l) (c := c) (most := most)
   have hCc := hC0 hz
   rw [Int.toNat_natCast] at hCc
   obtain ⟨hCs, hCl⟩ := nc_sub hCc
   have hp8 := prs_len8 hg
   refine f_skip ?_
   refine f_tn (kh8 _ _ ?_)
   clear kh8
   refine f_seq fun K11 kh11 => ?_
   refine f_region ?_
   refine f_stepP rfl rfl rfl (o_loadA (vs := [_, _]) Try.isAgg24 Try.sizeOf24 rfl rfl ⟨(rdA rfl), (rdA rfl), trivial⟩) ?_
   refine f_stepP rfl rfl rfl (o_move rfl) ?_
   refine f_stepP rfl rfl rfl (o_move rfl) ?_
   refine f_step rfl rfl rfl (o_call Try.call20 rfl (fun w_ hp_ => Region_spec (n : Int) A l cap c most w_ (hr.up0 hp_) hl hN hok) ?_)
   rintro _ _ ⟨sR, mR, rfl, rfl, hoR⟩
   obtain ⟨AR, cR, rfl, hcR⟩ := hoR.val
   rw [hr0]
   dsimp only [List.cons_append, List.nil_append]
   refine f_stepP rfl rfl rfl (o_move rfl) ?_
   refine f_stepP rfl rfl rfl (o_extract rfl rfl) ?_
   refine f_stepP rfl rfl rfl (o_extract rfl rfl) ?_
   refine f_stepP rfl rfl rfl (o_assign rfl) ?_
   refine f_stepP rfl rfl rfl (o_assign rfl) ?_
   refine f_done ?_
   refine f_tn (kh11 _ _ ?_)
   clear kh11
   refine f_seq fun K12 kh12 => ?_
   refine f_region ?_
   refine f_stepP rfl rfl rfl (o_loadA (vs := [_, _]) Try.isAgg24 Try.sizeOf24 rfl rfl ⟨(rdA rfl), (rdA rfl), trivial⟩) ?_
   refine f_stepP rfl rfl rfl (o_move rfl) ?_
   refine f_stepP rfl rfl rfl (o_move rfl) ?_
   refine f_step rfl rfl rfl (o_call Try.call21 rfl (fun w_ hp_ => Core_spec (n : Int) A l cap c most w_ (hr.up0 hp_) hl hN hok) ?_)
   rintro _ _ ⟨sC, mK, rfl, rfl, hoK⟩
   obtain ⟨AC, cC, rfl, hcC⟩ := hoK.val
   have hc2 : (coreR (n : Int) l c most).2 = 0 := hr0
   rw [hc2]
   dsimp only [List.cons_append, List.nil_append]
   refine f_stepP rfl rfl rfl (o_move rfl) ?_
   refine f_stepP rfl rfl rfl (o_extract rfl rfl) ?_
   refine f_stepP rfl rfl rfl (o_extract rfl rfl) ?_
   refine f_stepP rfl rfl rfl (o_assign rfl) ?_
   refine f_stepP rfl rfl rfl (o_assign rfl) ?_
   refine f_done ?_
   refine f_tn (kh12 _ _ ?_)
   clear kh12
   refine f_seq fun K13 kh13 => ?_
   refine f_seq fun K14 kh14 => ?_
   refine f_region ?_
   refine f_stepP rfl rfl rfl (o_move rfl) ?_
   refine f_stepP rfl rfl rfl (o_neq rfl rfl) ?_
   refine f_stepP rfl rfl rfl (o_move rfl) ?_
   refine f_falseL 50 rfl (by simp) ?_
   refine f_stepPY rfl rfl rfl rfl rfl (o_move rfl) ?_
   refine f_stepPY rfl rfl rfl rfl rfl (o_neq rfl rfl) ?_
   refine f_stepP rfl rfl rfl (o_pickF rfl rfl) ?_
   refine f_done ?_
   refine f_tn (kh14 _ _ ?_)
   clear kh14
   refine f_condN rfl (by simp) ?_
   refine f_skip ?_
   refine f_tn (kh13 _ _ ?_)
   clear kh13
   refine f_seq fun K15 kh15 => ?_
   refine f_region ?_
   refine f_stepP rfl rfl rfl (o_field fa24_0 rfl) ?_
   refine f_stepP rfl rfl rfl (o_load Try.isAgg3 rfl (rdA rfl)) ?_
   refine f_step rfl rfl rfl (o_make el42 rfl rfl n rfl (by omega) (by omega) (boolsG (marksL n [])) (by rw [marksL_nil]; exact reps_bool n false) fun b56 => ?_)
   refine f_stepP rfl rfl rfl (o_assign rfl) ?_
   refine f_done ?_
   refine f_tn (kh15 _ _ ?_)
   clear kh15
   refine f_seq fun K16 kh16 => ?_
   refine f_seq fun K17 kh17 => ?_
   refine f_region ?_
   refine f_stepP rfl rfl rfl (o_move rfl) ?_
   refine f_stepP rfl rfl rfl (o_len sl35 rfl) ?_
   refine f_stepP rfl rfl rfl (o_move rfl) ?_
   refine f_done ?_
   refine f_tn (kh17 _ _ ?_)
   clear kh17
   refine f_block ?_
   refine f_loop (α := Nat) [3, 7, 11, 13, 57, 58] (fun k => [(59, .int .i64 (k : Int))]) (fun k => [[(b56, blk (boolsG (marksL n ((regR (n : Int) l c most).1.take k))) 4)], mR, mC, mK, [(b3, blk [.int .i64 (n : Int), .slice A l.length cap] 24)]]) (fun k => k ≤ (regR (n : Int) l c most).1.length) (fun k => (regR (n : Int) l c most).1.length - k) (0) ?_ ?_ ?_ ?_
   · exact (by repeat (first | exact trivial | refine ⟨rfl, ?_⟩))
   · repeat (first | exact Sub.nil | refine Sub.pick ?_ | refine Sub.castO rfl ?_ | refine Sub.skip ?_)
   · exact Nat.zero_le _
   ·
    rintro k hkl
    refine f_seq fun K18 kh18 => ?_
    refine f_region ?_
    refine f_stepP rfl rfl rfl (o_lss rfl rfl) ?_
    refine f_done ?_
    refine f_tn (kh18 _ _ ?_)
    clear kh18
    refine f_seq fun K19 kh19 => ?_
    refine f_cond rfl (fun c60 => ?_) (fun c60 => ?_)
    ·
     have hk : k < (regR (n : Int) l c most).1.length := by omega
     obtain ⟨bR, spR, rfl, rfl⟩ := hoR.at_ (by omega)
     have hrk := hrr _ (List.getElem_mem hk)
     obtain ⟨v, hv⟩ : ∃ v : Nat, (regR (n : Int) l c most).1[k] = (v : Int) := ⟨_, (Int.toNat_of_nonneg hrk.1).symm⟩
     have hvn : v < n := by omega
     refine f_skip ?_
     refine f_tn (kh19 _ _ ?_)
     clear kh19
     refine f_seq fun K20 kh20 => ?_
     refine f_block ?_
     refine f_seq fun K21 kh21 => ?_
     refine f_region ?_
     refine f_stepP rfl rfl rfl (o_idx sl35 rfl rfl (k) ⟨by omega, by omega, by first | omega | (simp; done) | (simp; omega)⟩) ?_
     refine f_stepP rfl rfl rfl (o_load Try.isAgg3 rfl (rdA (v := .int .i64 (v : Int)) (app_get (by rw [ints_get hk, hv])))) ?_
     refine f_stepP rfl rfl rfl (o_assign rfl) ?_
     refine f_done ?_
     refine f_tn (kh21 _ _ ?_)
     clear kh21
     refine f_region ?_
     refine f_stepP rfl rfl rfl (o_move rfl) ?_
     refine f_stepP rfl rfl rfl (o_move rfl) ?_
     refine f_stepP rfl rfl rfl (o_idx sl42 rfl rfl (v) ⟨by omega, by omega, by first | omega | (simp; done) | (simp; omega)⟩) ?_
     refine f_step0 rfl rfl (o_store Try.sizeOf4 rfl rfl rfl rfl (by simp [boolsG, marksL_len]; omega) (boolsG (marksL n ((regR (n : Int) l c most).1.take (k + 1)))) (by rw [boolsG_set, marksL_next hk hv]) ?_)
     refine f_done ?_
     refine f_bn ?_
     refine f_tn (kh20 _ _ ?_)
     clear kh20
     refine f_region ?_
     refine f_stepP rfl rfl rfl (o_add rfl rfl _ (wrap_i64 (by omega))) ?_
     refine f_stepP rfl rfl rfl (o_move rfl) ?_
     refine f_done ?_
     refine f_tn (f_again (k + 1) (by first | omega | (dsimp only; omega) | (simp; omega)) (by omega) ?_ ?_ ?_)
     · exact (by repeat (first | exact trivial | refine ⟨rfl, ?_⟩))
     · exact (by repeat (first | exact trivial | refine ⟨rfl, ?_⟩))
     · repeat (first | exact Sub.nil | refine Sub.pick ?_ | refine Sub.castO rfl ?_ | refine Sub.skip ?_)
    ·
     refine f_exit ?_
     refine f_te ?_
     clear kh19
     refine f_te ?_
     refine f_be ?_
     refine f_tn (kh16 _ _ ?_)
     clear kh16
     refine f_seq fun K22 kh22 => ?_
     refine f_seq fun K23 kh23 => ?_
     obtain rfl : k = (regR (n : Int) l c most).1.length := by omega
     rw [List.take_length]
     refine f_region ?_
     refine f_stepP rfl rfl rfl (o_loadA (vs := [_, _]) Try.isAgg24 Try.sizeOf24 rfl rfl ⟨(rdA rfl), (rdA rfl), trivial⟩) ?_
     refine f_stepP rfl rfl rfl (o_move rfl) ?_
     refine f_stepP rfl rfl rfl (o_move rfl) ?_
     refine f_stepP rfl rfl rfl (o_move rfl) ?_
     refine f_step rfl rfl rfl (o_call Try.call22 rfl (fun w_ hp_ => parted_spec n A l cap AC0 C C.length C.length AC (coreR (n : Int) l c most).1 cC (some ⟨b56, 0, none⟩) (marksL n (regR (n : Int) l c most).1) n w_ (hr.up0 hp_) hg hok (seen_ro (hoC.seen hp_)) rfl ⟨hCs, by omega⟩  (seen_ro (hoK.seen hp_)) (fun v hv => hrr v (core_reg hv)) (by omega) (roOwn (b := b56) hp_ (fun j v hj => hj)) (by rw [marksL_len])) ?_)
     rintro _ _ ⟨r, rfl, rfl, hrr1⟩
     obtain ⟨rfl, _⟩ := hrr1.resolve_left (fun ⟨_, u, v, hu, hv, hvK, hui, hcn⟩ => cut_parts hz hCc hu hv hvK (by rw [marksL_at hu] at hui; simpa using hui) hcn)
     dsimp only [List.cons_append, List.nil_append]
     refine f_stepP rfl rfl rfl (o_eql rfl rfl) ?_
     refine f_done ?_
     refine f_tn (kh23 _ _ ?_)
     clear kh23
     refine f_condN rfl (by omega) ?_
     refine f_skip ?_
     refine f_tn (kh22 _ _ ?_)
     clear kh22
     refine f_seq fun K24 kh24 => ?_
     refine f_seq fun K25 kh25 => ?_
     refine f_region ?_
     refine f_stepP rfl rfl rfl (o_move rfl) ?_
     refine f_stepP rfl rfl rfl (o_len sl28 rfl) ?_
     refine f_stepP rfl rfl rfl (o_move rfl) ?_
     refine f_done ?_
     refine f_tn (kh25 _ _ ?_)
     clear kh25
     refine f_block ?_
     refine f_loop (α := Nat) [3, 7, 11, 13, 74] (fun i => [(75, .int .i64 (i : Int))]) (fun i => [[(b56, blk (boolsG (marksL n (regR (n : Int) l c most).1)) 4)], mC, mK, [(b3, blk [.int .i64 (n : Int), .slice A l.length cap] 24)]]) (fun i => i ≤ C.length) (fun i => C.length - i) (0) ?_ ?_ ?_ ?_
     · exact (by repeat (first | exact trivial | refine ⟨rfl, ?_⟩))
     · repeat (first | exact Sub.nil | refine Sub.pick ?_ | refine Sub.castO rfl ?_ | refine Sub.skip ?_)
     · exact Nat.zero_le _
     ·
      rintro i hil
      refine f_envC (e := [(75, _), (3, _), (7, _), (11, _), (13, _), (74, _)]) (by repeat (first | exact trivial | refine ⟨rfl, ?_⟩)) ?_
      refine f_seq fun K26 kh26 => ?_
      refine f_region ?_
      refine f_stepP rfl rfl rfl (o_lss rfl rfl) ?_
      refine f_done ?_
      refine f_tn (kh26 _ _ ?_)
      clear kh26
      refine f_seq fun K27 kh27 => ?_
      refine f_cond rfl (fun c76 => ?_) (fun c76 => ?_)
      ·
       have hi : i < C.length := by omega
       obtain ⟨bC, spC, rfl, rfl⟩ := hoC.at_ (by omega)
       refine f_skip ?_
       refine f_tn (kh27 _ _ ?_)
       clear kh27
       refine f_seq fun K28 kh28 => ?_
       refine f_block ?_
       refine f_seq fun K29 kh29 => ?_
       refine f_region ?_
       refine f_stepP rfl rfl rfl (o_move rfl) ?_
       refine f_stepP rfl rfl rfl (o_assign rfl) ?_
       refine f_done ?_
       refine f_tn (kh29 _ _ ?_)
       clear kh29
       refine f_seq fun K30 kh30 => ?_
       refine f_regionH [[(bC, blk (C.flatMap prCs ++ spC) 47)]] rfl ?_
       refine f_take 1 rfl (by decide +kernel) rfl rfl rfl (by repeat (first | exact Sub.nil | refine Sub.pick ?_ | refine Sub.castO rfl ?_ | refine Sub.skip ?_)) (o_move rfl) ?_
       refine f_take 2 rfl (by decide +kernel) rfl rfl rfl (by repeat (first | exact Sub.nil | refine Sub.pick ?_ | refine Sub.castO rfl ?_ | refine Sub.skip ?_)) (o_move rfl) ?_
       refine f_take 3 rfl (by decide +kernel) rfl rfl rfl (by repeat (first | exact Sub.nil | refine Sub.pick ?_ | refine Sub.castO rfl ?_ | refine Sub.skip ?_)) (o_slice sl28 rfl rfl rfl rfl (fun h => by cases h) 0 i C.length (.inl ⟨rfl, rfl⟩) (.inr ⟨_, _, rfl, by omega⟩) (.inl ⟨rfl, rfl⟩) ⟨by omega, by omega, by omega⟩ (.slice (some ⟨bC, 0, none⟩) i C.length) (by rw [if_neg (by omega)]; simp [add_at])) ?_
       refine f_take 5 rfl (by decide +kernel) rfl rfl rfl (by repeat (first | exact Sub.nil | refine Sub.pick ?_ | refine Sub.castO rfl ?_ | refine Sub.skip ?_)) (o_move rfl) ?_
       refine f_take 6 rfl (by decide +kernel) rfl rfl rfl (by repeat (first | exact Sub.nil | refine Sub.pick ?_ | refine Sub.castO rfl ?_ | refine Sub.skip ?_)) (o_move rfl) ?_
       refine f_take 7 rfl (by decide +kernel) rfl rfl rfl (by repeat (first | exact Sub.nil | refine Sub.pick ?_ | refine Sub.castO rfl ?_ | refine Sub.skip ?_)) (o_add rfl rfl _ (wrap_i64 (by omega))) ?_
       refine f_take 8 rfl (by decide +kernel) rfl rfl rfl (by repeat (first | exact Sub.nil | refine Sub.pick ?_ | refine Sub.castO rfl ?_ | refine Sub.skip ?_)) (o_slice sl28 rfl rfl rfl rfl (fun h => by cases h) (i + 1) _ _ (.inr ⟨_, _, rfl, by omega⟩) (.inl ⟨rfl, rfl⟩) (.inl ⟨rfl, rfl⟩) ⟨by omega, by omega, by omega⟩ (.slice (if C.length = i + 1 then some ⟨bC, 0, none⟩ else some ⟨bC, (i + 1) * 2, none⟩) (C.length - (i + 1)) (C.length - (i + 1))) (by congr 1; split <;> simp [add_at])) ?_
       refine f_only 0 rfl (by decide +kernel) rfl rfl rfl (o_slice0 el28 fun b78 => ⟨(by repeat (first | exact Sub.nil | refine Sub.pick ?_ | refine Sub.castO rfl ?_ | refine Sub.skip ?_)), ?_⟩)
       refine f_only 4 rfl (by decide +kernel) rfl rfl rfl (o_appendQ el28 rfl rfl (Own.mk (b := b78) (cs := []) (len := 0) rfl (by omega)) (ys := (C.take i).flatMap prCs) (fun hne => ⟨bC, 0, rfl, rds_of _ _ fun j v hj => rdA (by rw [Nat.zero_add]; exact take_cells (by omega) hj)⟩) (by rw [flat_length prCs prCs_len, List.length_take]; omega) (prs_one _) (by omega) (by omega) ?_)
       rintro v82 m82 o82
       rw [Nat.zero_add, List.nil_append] at o82
       refine ⟨(by repeat (first | exact Sub.nil | refine Sub.pick ?_ | refine Sub.castO rfl ?_ | refine Sub.skip ?_)), ?_⟩
       refine f_only 9 rfl (by decide +kernel) rfl rfl rfl (o_appendQ el28 rfl rfl o82 (ys := (C.drop (i + 1)).flatMap prCs) (fun hne => ⟨bC, (i + 1) * 2, by rw [if_neg (by intro h; apply hne; rw [List.drop_eq_nil_of_le (by omega)]; rfl)], rds_of _ _ fun j v hj => rdA (drop_cells (by omega) hj)⟩) (by rw [flat_length prCs prCs_len, List.length_drop]) (prs_one _) (by omega) (by omega) ?_)
       rintro v87 m87 o87
       rw [← List.flatMap_append] at o87
       obtain ⟨A87, c87, rfl, _⟩ := o87.val
       refine ⟨(by repeat (first | exact Sub.nil | refine Sub.pick ?_ | refine Sub.castO rfl ?_ | refine Sub.skip ?_)), ?_⟩
       refine f_only 10 rfl (by decide +kernel) rfl rfl rfl ((o_assign rfl).does ⟨(by repeat (first | exact Sub.nil | refine Sub.pick ?_ | refine Sub.castO rfl ?_ | refine Sub.skip ?_)), ?_⟩)
       refine f_over (by decide +kernel) ?_
       refine f_tn (kh30 _ _ ?_)
       clear kh30
       refine f_seq fun K31 kh31 => ?_
       refine f_region ?_
       refine f_stepP rfl rfl rfl (o_loadA (vs := [_, _]) Try.isAgg24 Try.sizeOf24 rfl rfl ⟨(rdA rfl), (rdA rfl), trivial⟩) ?_
       refine f_stepP rfl rfl rfl (o_move rfl) ?_
       refine f_stepP rfl rfl rfl (o_move rfl) ?_
       refine f_stepP rfl rfl rfl (o_move rfl) ?_
       refine f_step rfl rfl rfl (o_call Try.call22 rfl (fun w_ hp_ => parted_spec n A l cap A87 (C.take i ++ C.drop (i + 1)) c87 (i + (C.length - (i + 1))) AC (coreR (n : Int) l c most).1 cC (some ⟨b56, 0, none⟩) (marksL n (regR (n : Int) l c most).1) n w_ (hr.up0 hp_) hg hok (seen_ro (o87.seen hp_)) (by rw [less_len hi]; omega) ⟨fun p hp => hCs p (less_sub hp), by rw [less_len hi]; omega⟩  (seen_ro (hoK.seen hp_)) (fun v hv => hrr v (core_reg hv)) (by omega) (roOwn (b := b56) hp_ (fun j v hj => hj)) (by rw [marksL_len])) ?_)
       rintro _ _ ⟨r, rfl, rfl, hrr1⟩
       obtain ⟨u, v, hu, hv, hvK, huR, hcn⟩ := cut_needs hz hCc hi
       obtain ⟨rfl, _⟩ := hrr1.resolve_right (fun ⟨_, h⟩ => h u v hu hvK (by rw [marksL_at hu]; simpa using huR) hcn)
       dsimp only [List.cons_append, List.nil_append]
       refine f_stepP rfl rfl rfl (o_neq rfl rfl) ?_
       refine f_done ?_
       refine f_tn (kh31 _ _ ?_)
       clear kh31
       refine f_condN rfl (by simp) ?_
       refine f_skip ?_
       refine f_bn ?_
       refine f_tn (kh28 _ _ ?_)
       clear kh28
       refine f_region ?_
       refine f_stepP rfl rfl rfl (o_add rfl rfl _ (wrap_i64 (by omega))) ?_
       refine f_stepP rfl rfl rfl (o_move rfl) ?_
       refine f_done ?_
       refine f_tn (f_again (i + 1) (by first | omega | (dsimp only; omega) | (simp; omega)) (by omega) ?_ ?_ ?_)
       · exact (by repeat (first | exact trivial | refine ⟨rfl, ?_⟩))
       · exact (by repeat (first | exact trivial | refine ⟨rfl, ?_⟩))
       · repeat (first | exact Sub.nil | refine Sub.pick ?_ | refine Sub.castO rfl ?_ | refine Sub.skip ?_)
      ·
       refine f_exit ?_
       refine f_te ?_
       clear kh27
       refine f_te ?_
       refine f_be ?_
       refine f_tn (kh24 _ _ ?_)
       clear kh24
       refine f_seq fun K32 kh32 => ?_
       refine f_region ?_
       refine f_stepP rfl rfl rfl (o_assign rfl) ?_
       refine f_done ?_
       refine f_tn (kh32 _ _ ?_)
       clear kh32
       refine f_ret ?_
       exact f_fin1 [] Try.results5 rfl Sub.nil ⟨rfl, rfl⟩

end Go.Proofs.Ytbjiejhdgkpjcaa

/- How graphs of this program read. -/
namespace Go.Proofs.Ytbjiejhdgkpjcaa
open Go Go.RowKit Fly
set_option linter.unusedVariables false
set_option linter.unusedSimpArgs false


theorem rdArc {H : Type} {enc : TypeId × Value → H} (W : World) : Reads enc Try.prog W 55 arcCs ArcOk :=
  reads_arc Try.underlying55 (by kernel_rfl) ⟨rfl, by kernel_rfl⟩ ⟨rfl, by kernel_rfl⟩ ⟨rfl, by kernel_rfl⟩ Try.underlying3 Try.underlying3 Try.underlying53
theorem rdGraph {H : Type} {enc : TypeId × Value → H} (W : World) : Reads enc Try.prog W 24 (fun x : Int × Option Addr × List Arc × Nat => [.int .i64 x.1, .slice x.2.1 x.2.2.1.length x.2.2.2]) (fun x => GrIn W x.1 x.2.1 x.2.2.1 x.2.2.2) :=
  reads_graph Try.underlying24 (by kernel_rfl) ⟨rfl, by kernel_rfl⟩ ⟨rfl, by kernel_rfl⟩ Try.underlying3 Try.underlying22 (by kernel_rfl) (rdArc W)

end Go.Proofs.Ytbjiejhdgkpjcaa
