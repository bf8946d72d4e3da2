/- split.tidy, split.looked, natcut.Pairs, the order of seams, the least of them. -/
import Derived.Test.YtkmkakpadgljeaaFLab
import Derived.Test.YtkmkakpadgljeaaPSplit
import Derived.Test.YtkmkakpadgljeaaFCont
import Derived.Test.YtkmkakpadgljeaaFlyRange
namespace Go.Proofs.Ytkmkakpadgljeaa
open Go Go.RowKit Fly
set_option linter.unusedVariables false
set_option linter.unusedSimpArgs false


theorem own_intsG {E b c : Nat} {L L2 : List Int} {sp : List Value} (h : Own E 1 (.slice (some ⟨b, 0, none⟩) L.length c) L.length (ints L) [(b, blk (ints L ++ sp) E)]) (hl : L2.length = L.length) : Own E 1 (.slice (some ⟨b, 0, none⟩) L2.length c) L2.length (ints L2) [(b, blk (ints L2 ++ sp) E)] := by
  obtain ⟨_, h | ⟨b', c', sp', e, hm, h1, h2, h3⟩⟩ := h
  · obtain ⟨e, _⟩ := h; cases e
  · cases e
    have hsp : ints L ++ sp = ints L ++ sp' := by simpa using hm
    have hsp := List.append_cancel_left hsp
    subst hsp
    exact ⟨by simp [ints], .inr ⟨b, c, sp, rfl, rfl, by omega, h2, by rw [hl]; exact h3⟩⟩
def spE (N : Int) (l : List Arc) (L : List Int) (bd : Int) : Int := if (lcount N l L).2 ≠ 0 then (lcount N l L).2 else if bd < 1 ∨ 1024 < bd then 1 else 0
/-- A seam: two labels, how many pairs. -/
abbrev Sm := Int × Int × Int
def smCs (s : Sm) : List Value := [.int .i64 s.1, .int .i64 s.2.1, .int .i64 s.2.2]
theorem smCs_len (s : Sm) : (smCs s).length = 3 := rfl
def befI (s t : Sm) : Int := if s.2.2 ≠ t.2.2 then t.2.2 - s.2.2 else if s.1 ≠ t.1 then s.1 - t.1 else s.2.1 - t.2.1
theorem befI_flip {s t : Sm} (h : ¬ befI s t < 0) : befI t s ≤ 0 := by
  unfold befI at h ⊢
  by_cases h1 : s.2.2 = t.2.2
  · rw [if_neg (by omega)] at h; rw [if_neg (by omega)]
    by_cases h2 : s.1 = t.1
    · rw [if_neg (by omega)] at h; rw [if_neg (by omega)]; omega
    · rw [if_pos (by omega)] at h; rw [if_pos (by omega)]; omega
  · rw [if_pos (by omega)] at h; rw [if_pos (by omega)]; omega
theorem befI_refl (s : Sm) : befI s s ≤ 0 := by unfold befI; simp
theorem befI_trans {s t u : Sm} (h : befI s t < 0) (h' : befI t u ≤ 0) : befI s u ≤ 0 := by
  unfold befI at h h' ⊢
  by_cases h1 : s.2.2 = t.2.2
  · rw [if_neg (by omega)] at h
    by_cases h2 : t.2.2 = u.2.2
    · rw [if_neg (by omega)] at h' ⊢
      by_cases h3 : s.1 = t.1
      · rw [if_neg (by omega)] at h
        by_cases h4 : t.1 = u.1
        · rw [if_neg (by omega)] at h'; rw [if_neg (by omega)]; omega
        · rw [if_pos (by omega)] at h'; rw [if_pos (by omega)]; omega
      · rw [if_pos (by omega)] at h
        by_cases h4 : t.1 = u.1
        · rw [if_pos (by omega)]; omega
        · rw [if_pos (by omega)] at h'; rw [if_pos (by omega)]; omega
    · rw [if_pos (by omega)] at h' ⊢; omega
  · rw [if_pos (by omega)] at h
    by_cases h2 : t.2.2 = u.2.2
    · rw [if_pos (by omega)]; omega
    · rw [if_pos (by omega)] at h'; rw [if_pos (by omega)]; omega
theorem take_all {l : List Sm} {s : Sm} {i : Nat} (hi : i < l.length) (h : ∀ t ∈ l.take i, befI s t ≤ 0) : (befI l[i] s < 0 → ∀ t ∈ l.take (i + 1), befI l[i] t ≤ 0) ∧ (¬ befI l[i] s < 0 → ∀ t ∈ l.take (i + 1), befI s t ≤ 0) := by
  rw [List.take_succ_eq_append_getElem hi]
  constructor
  · intro h1 t ht
    rcases List.mem_append.1 ht with ht | ht
    · exact befI_trans h1 (h t ht)
    · obtain rfl := List.mem_singleton.1 ht; exact befI_refl _
  · intro h1 t ht
    rcases List.mem_append.1 ht with ht | ht
    · exact h t ht
    · obtain rfl := List.mem_singleton.1 ht; exact befI_flip h1
def SmOk (s : Sm) : Prop := (0 ≤ s.1 ∧ s.1 ≤ 1048576) ∧ (0 ≤ s.2.1 ∧ s.2.1 ≤ 1048576) ∧ 0 ≤ s.2.2 ∧ s.2.2 ≤ 1048576

set_option maxRecDepth 100000 in
set_option maxHeartbeats 4000000 in
theorem splook_spec (N : Int) (A B : Option Addr) (l : List Arc) (cap : Nat) (L : List Int) (cb : Nat) (bd : Int) (w : World) (hr : Ro (Fr w []) w A (l.flatMap arcCs)) (hl : l.length ≤ 9223372036854775807) (hN : I64 N) (hok : ∀ x ∈ l, ArcOk x) (hL : Ro (Fr w []) w B (ints L)) (hm : L.length ≤ 9223372036854775807) :
    Meets Try.prog 90 [.agg #[.int .i64 N, .slice A l.length cap], .slice B L.length cb, .int .i64 bd] w [] (fun u own' => u = .int .i64 (spE N l L bd) ∧ own' = []) := by
 refine f_enter Try.func90 rfl Try.ntmps90 rfl Owns.nil ?_
 refine f_seq fun K1 kh1 => ?_
 refine f_region ?_
 refine f_step rfl rfl rfl (o_box rfl rfl fun b3 => ?_)
 refine f_stepP rfl rfl rfl (o_assign rfl) ?_
 refine f_done ?_
 refine f_tn (kh1 _ _ ?_)
 clear kh1
 refine f_seq fun K2 kh2 => ?_
 refine f_seq fun K3 kh3 => ?_
 refine f_region ?_
 refine f_stepP rfl rfl rfl (o_loadA (vs := [_, _]) Try.isAgg24 Try.sizeOf24 rfl rfl ⟨(rdA rfl), (rdA rfl), trivial⟩) ?_
 refine f_stepP rfl rfl rfl (o_move rfl) ?_
 refine f_step rfl rfl rfl (o_call Try.call79 rfl (fun w_ hp_ => Count_spec N A B l cap L cb w_ (hr.up0 hp_) hl hN hok (hL.up0 hp_) hm) ?_)
 rintro _ _ ⟨rfl, rfl⟩
 dsimp only [List.cons_append, List.nil_append]
 refine f_stepP rfl rfl rfl (o_move rfl) ?_
 refine f_stepP rfl rfl rfl (o_extract rfl rfl) ?_
 refine f_stepP rfl rfl rfl (o_extract rfl rfl) ?_
 refine f_stepP rfl rfl rfl (o_assign rfl) ?_
 refine f_stepP rfl rfl rfl (o_assign rfl) ?_
 refine f_done ?_
 refine f_tn (kh3 _ _ ?_)
 clear kh3
 refine f_seq fun K4 kh4 => ?_
 refine f_region ?_
 refine f_stepP rfl rfl rfl (o_move rfl) ?_
 refine f_stepP rfl rfl rfl (o_neq rfl rfl) ?_
 refine f_done ?_
 refine f_tn (kh4 _ _ ?_)
 clear kh4
 refine f_cond rfl (fun c16 => ?_) (fun c16 => ?_)
 ·
  refine f_seq fun K5 kh5 => ?_
  refine f_region ?_
  refine f_stepP rfl rfl rfl (o_move rfl) ?_
  refine f_stepP rfl rfl rfl (o_assign rfl) ?_
  refine f_done ?_
  refine f_tn (kh5 _ _ ?_)
  clear kh5
  refine f_ret ?_
  refine f_tr ?_
  exact f_fin1 [] Try.results90 rfl Sub.nil ⟨by unfold spE; rw [if_pos c16], rfl⟩
 ·
  refine f_skip ?_
  refine f_tn (kh2 _ _ ?_)
  clear kh2
  refine f_seq fun K6 kh6 => ?_
  refine f_seq fun K7 kh7 => ?_
  refine f_region ?_
  refine f_stepP rfl rfl rfl (o_move rfl) ?_
  refine f_stepP rfl rfl rfl (o_lss rfl rfl) ?_
  refine f_stepP rfl rfl rfl (o_move rfl) ?_
  refine f_splitL 20 rfl (fun g20 => ?_) (fun g20 => ?_)
  ·
   refine f_stepN rfl rfl rfl rfl rfl rfl ?_
   refine f_stepN rfl rfl rfl rfl rfl rfl ?_
   refine f_stepP rfl rfl rfl (o_pickT rfl rfl) ?_
   refine f_done ?_
   refine f_tn (kh7 _ _ ?_)
   clear kh7
   refine f_condT rfl ?_
   refine f_seq fun K8 kh8 => ?_
   refine f_region ?_
   refine f_stepP rfl rfl rfl (o_assign rfl) ?_
   refine f_done ?_
   refine f_tn (kh8 _ _ ?_)
   clear kh8
   refine f_ret ?_
   refine f_tr ?_
   exact f_fin1 [] Try.results90 rfl Sub.nil ⟨by unfold spE; rw [if_neg c16, if_pos (by omega)], rfl⟩
  ·
   refine f_stepPY rfl rfl rfl rfl rfl (o_move rfl) ?_
   refine f_stepPY rfl rfl rfl rfl rfl (o_gtr rfl rfl) ?_
   refine f_stepP rfl rfl rfl (o_pickF rfl rfl) ?_
   refine f_done ?_
   refine f_tn (kh7 _ _ ?_)
   clear kh7
   refine f_cond rfl (fun c23 => ?_) (fun c23 => ?_)
   ·
    refine f_seq fun K9 kh9 => ?_
    refine f_region ?_
    refine f_stepP rfl rfl rfl (o_assign rfl) ?_
    refine f_done ?_
    refine f_tn (kh9 _ _ ?_)
    clear kh9
    refine f_ret ?_
    refine f_tr ?_
    exact f_fin1 [] Try.results90 rfl Sub.nil ⟨by unfold spE; rw [if_neg c16, if_pos (by omega)], rfl⟩
   ·
    refine f_skip ?_
    refine f_tn (kh6 _ _ ?_)
    clear kh6
    refine f_seq fun K10 kh10 => ?_
    refine f_region ?_
    refine f_stepP rfl rfl rfl (o_assign rfl) ?_
    refine f_done ?_
    refine f_tn (kh10 _ _ ?_)
    clear kh10
    refine f_ret ?_
    exact f_fin1 [] Try.results90 rfl Sub.nil ⟨by unfold spE; rw [if_neg c16, if_neg (by omega)], rfl⟩

end Go.Proofs.Ytkmkakpadgljeaa
