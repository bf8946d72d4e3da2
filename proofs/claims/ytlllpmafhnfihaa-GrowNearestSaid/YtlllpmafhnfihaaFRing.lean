/- grow.Core, grow.Ring. -/
import Derived.Test.YtlllpmafhnfihaaFRegion
import Derived.Test.YtlllpmafhnfihaaFCont
namespace Go.Proofs.Ytlllpmafhnfihaa
open Go Go.RowKit Fly
set_option linter.unusedVariables false
set_option linter.unusedSimpArgs false


def coreR (N : Int) (l : List Arc) (c most : Int) : List Int × Int := ((regR N l c most).1.take (((regR N l c most).1.length + 3) / 4), (regR N l c most).2)
theorem regR_len {N : Int} {l : List Arc} {c most : Int} : (regR N l c most).1.length ≤ 1024 := by
  unfold regR
  split
  · simp
  · split
    · simp
    · split
      · simp
      · simp only [List.length_take]; omega
theorem regR_err {N : Int} {l : List Arc} {c most : Int} (h : (regR N l c most).2 ≠ 0) : (regR N l c most).1 = [] := by
  unfold regR at h ⊢
  split
  · rfl
  · split
    · rfl
    · split
      · rfl
      · rename_i h1 h2 h3; rw [if_neg h1, if_neg h2, if_neg h3] at h; exact absurd rfl h
/-- Marks of some vertices. -/
def marksL (n : Nat) (M : List Int) : List Bool := (List.range n).map fun v => decide (Int.ofNat v ∈ M)
theorem marksL_len (n : Nat) (M : List Int) : (marksL n M).length = n := by simp [marksL]
theorem marksL_at {n v : Nat} {M : List Int} (h : v < n) : (marksL n M).getD v false = decide ((v : Int) ∈ M) := by simp [marksL, List.getD_eq_getElem?_getD, h]
theorem marksL_nil (n : Nat) : marksL n [] = List.replicate n false := List.ext_getElem (by simp [marksL]) fun i h1 h2 => by simp [marksL]
theorem marksL_next {n : Nat} {M : List Int} {k v : Nat} (hk : k < M.length) (hv : M[k] = (v : Int)) : (marksL n (M.take k)).set v true = marksL n (M.take (k + 1)) := by
  have e0 : marksL n (M.take (k + 1)) = marksL n (M.take k ++ [(v : Int)]) := by rw [List.take_succ_eq_append_getElem hk, hv]
  rw [e0]
  refine List.ext_getElem (by simp [marksL]) fun i h1 h2 => ?_
  by_cases e : v = i
  · subst e
    rw [List.getElem_set_self]
    simp [marksL]
  · rw [List.getElem_set_ne e]
    simp only [marksL, List.getElem_map, List.getElem_range]
    apply decide_eq_decide.2
    rw [List.mem_append, List.mem_singleton]
    constructor
    · exact .inl
    · rintro (h | h)
      · exact h
      · exact absurd (show v = i by have : (i : Int) = (v : Int) := h; omega) e
def offV (N : Int) (v : Int) : Bool := decide (v < 0 ∨ N ≤ v)
def rgB (l : List Arc) (M : List Int) (v : Nat) : Bool := !decide ((v : Int) ∈ M) && (nbrs (v : Int) l).any fun u => decide (u ∈ M)
def ringL (l : List Arc) (M : List Int) : Nat → List Int
  | 0 => []
  | v + 1 => if rgB l M v then ringL l M v ++ [(v : Int)] else ringL l M v
theorem ringL_len (l : List Arc) (M : List Int) : ∀ v, (ringL l M v).length ≤ v
  | 0 => Nat.le_refl _
  | v + 1 => by
    have := ringL_len l M v
    unfold ringL
    split
    · simp; omega
    · omega
def ringR (N : Int) (l : List Arc) (M : List Int) : List Int × Int :=
  if (gcheck N l).2 ≠ 0 then ([], (gcheck N l).2) else if 16384 < M.length then ([], 2) else if M.any (offV N) then ([], 5) else if ¬ M.Nodup then ([], 4) else (ringL l M N.toNat, 0)
theorem nodup_not {M : List Int} {k : Nat} (hk : k < M.length) (h : M[k] ∈ M.take k) : ¬ M.Nodup := fun hn => by
  obtain ⟨i, hi, e⟩ := List.mem_iff_getElem.1 h
  rw [List.getElem_take] at e
  have hik : i < k := by simp at hi; omega
  exact List.pairwise_iff_getElem.1 hn i k (by omega) hk hik e
theorem nodup_next {M : List Int} {k : Nat} (hk : k < M.length) (h : (M.take k).Nodup) (hn : M[k] ∉ M.take k) : (M.take (k + 1)).Nodup := by
  rw [List.take_succ_eq_append_getElem hk, List.nodup_append]
  exact ⟨h, by simp, fun a ha b hb e => by simp only [List.mem_singleton] at hb; subst hb; subst e; exact hn ha⟩

set_option maxRecDepth 100000 in
set_option maxHeartbeats 4000000 in
theorem Core_spec (N : Int) (A : Option Addr) (l : List Arc) (cap : Nat) (c most : Int) (w : World) (hr : Ro (Fr w []) w A (l.flatMap arcCs)) (hl : l.length ≤ 9223372036854775807) (hN : I64 N) (hok : ∀ x ∈ l, ArcOk x) :
    Meets Try.prog 12 [.agg #[.int .i64 N, .slice A l.length cap], .int .i64 c, .int .i64 most] w [] (fun u own' => ∃ s ms, u = .tuple #[s, .int .i64 (coreR N l c most).2] ∧ own' = [ms] ∧ Own 3 1 s (coreR N l c most).1.length (ints (coreR N l c most).1) ms) := by
  have hrl := regR_len (N := N) (l := l) (c := c) (most := most)
  refine f_enter Try.func12 rfl Try.ntmps12 rfl Owns.nil ?_
  refine f_seq fun K1 kh1 => ?_
  refine f_region ?_
  refine f_step rfl rfl rfl (o_box rfl rfl fun b3 => ?_)
  refine f_stepP rfl rfl rfl (o_assign rfl) ?_
  refine f_stepP rfl rfl rfl (o_assign rfl) ?_
  refine f_done ?_
  refine f_tn (kh1 _ _ ?_)
  clear kh1
  refine f_seq fun K2 kh2 => ?_
  refine f_region ?_
  refine f_stepP rfl rfl rfl (o_loadA (vs := [_, _]) Try.isAgg24 Try.sizeOf24 rfl rfl ⟨(rdA rfl), (rdA rfl), trivial⟩) ?_
  refine f_stepP rfl rfl rfl (o_move rfl) ?_
  refine f_stepP rfl rfl rfl (o_move rfl) ?_
  refine f_step rfl rfl rfl (o_call Try.call10 rfl (fun w_ hp_ => Region_spec N A l cap c most w_ (hr.up0 hp_) hl hN hok) ?_)
  rintro _ _ ⟨s, ms, rfl, rfl, ho⟩
  obtain ⟨Ao, co, rfl, hco⟩ := ho.val
  dsimp only [List.cons_append, List.nil_append]
  refine f_stepP rfl rfl rfl (o_move rfl) ?_
  refine f_stepP rfl rfl rfl (o_extract rfl rfl) ?_
  refine f_stepP rfl rfl rfl (o_extract rfl rfl) ?_
  refine f_stepP rfl rfl rfl (o_assign rfl) ?_
  refine f_stepP rfl rfl rfl (o_assign rfl) ?_
  refine f_done ?_
  refine f_tn (kh2 _ _ ?_)
  clear kh2
  refine f_seq fun K3 kh3 => ?_
  refine f_seq fun K4 kh4 => ?_
  refine f_region ?_
  refine f_stepP rfl rfl rfl (o_move rfl) ?_
  refine f_stepP rfl rfl rfl (o_neq rfl rfl) ?_
  refine f_done ?_
  refine f_tn (kh4 _ _ ?_)
  clear kh4
  refine f_cond rfl (fun c18 => ?_) (fun c18 => ?_)
  · skip
    refine f_seq fun K5 kh5 => ?_
    refine f_region ?_
    refine f_stepP rfl rfl rfl (o_move rfl) ?_
    refine f_stepP rfl rfl rfl (o_assign rfl) ?_
    refine f_stepP rfl rfl rfl (o_assign rfl) ?_
    refine f_done ?_
    refine f_tn (kh5 _ _ ?_)
    clear kh5
    refine f_ret ?_
    refine f_tr ?_
    have e1 := regR_err c18
    exact f_fin2 [[]] Try.results12 rfl rfl (show Fly.Sub _ [[]] from (by repeat (first | exact Sub.nil | refine Sub.pick ?_ | refine Sub.castO rfl ?_ | refine Sub.skip ?_))) ⟨_, _, rfl, rfl, by unfold coreR; rw [e1]; exact Own.nil _ _⟩
  · skip
    refine f_skip ?_
    refine f_tn (kh3 _ _ ?_)
    clear kh3
    refine f_seq fun K6 kh6 => ?_
    refine f_region ?_
    refine f_stepP rfl rfl rfl (o_move rfl) ?_
    refine f_stepP rfl rfl rfl (o_move rfl) ?_
    refine f_stepP rfl rfl rfl (o_len sl28 rfl) ?_
    refine f_stepP rfl rfl rfl (o_add rfl rfl _ (wrap_i64 (by omega))) ?_
    refine f_stepP rfl rfl rfl (o_quo rfl rfl (by decide) (((((regR N l c most).1.length + 3) / 4 : Nat)) : Int) (by rw [show ((((regR N l c most).1.length : Nat) : Int) + 3) = (((regR N l c most).1.length + 3 : Nat) : Int) by omega, show (4 : Int) = ((4 : Nat) : Int) from rfl, tdiv_nat]; exact wrap_i64 (by omega))) ?_
    refine f_stepP rfl rfl rfl (o_slice sl28 rfl rfl rfl rfl (fun h => by cases h) 0 (((regR N l c most).1.length + 3) / 4) co (.inl ⟨rfl, rfl⟩) (.inr ⟨_, _, rfl, by omega⟩) (.inl ⟨rfl, rfl⟩) ⟨by omega, by omega, by omega⟩ (.slice Ao (((regR N l c most).1.length + 3) / 4) co) (by rw [Nat.sub_zero]; congr 1; split; rfl; cases Ao with | none => rfl | some x => obtain ⟨p, q, r⟩ := x; cases r <;> simp [Addr.add])) ?_
    refine f_step rfl rfl rfl (o_call Try.call28 rfl (fun w_ hp_ => CloneG_spec Ao (((regR N l c most).1.length + 3) / 4) (ints ((regR N l c most).1.take (((regR N l c most).1.length + 3) / 4))) co w_ (by have h := seen_ro (ho.seen hp_); rw [← List.take_append_drop (((regR N l c most).1.length + 3) / 4) (regR N l c most).1, ints_append] at h; exact fun hne => by obtain ⟨b, off, e, hS, hc⟩ := h (by simp [hne]); exact ⟨b, off, e, hS, fun j v hj => hc j v (app_get hj)⟩) (fun e => by have := own_none ho e; omega) (by rw [ints_length, List.length_take]; omega) (ints_oneG _) (by omega)) ?_)
    rintro v26 _ ⟨m26, rfl, o26⟩
    dsimp only [List.cons_append, List.nil_append]
    refine f_stepP rfl rfl rfl (o_assign rfl) ?_
    refine f_stepP rfl rfl rfl (o_assign rfl) ?_
    refine f_done ?_
    refine f_tn (kh6 _ _ ?_)
    clear kh6
    refine f_ret ?_
    have e0 : (regR N l c most).2 = 0 := by simpa using c18
    exact f_fin2 [m26] Try.results12 rfl rfl (by repeat (first | exact Sub.nil | refine Sub.pick ?_ | refine Sub.castO rfl ?_ | refine Sub.skip ?_)) ⟨v26, m26, by unfold coreR; rw [e0], rfl, by unfold coreR; simp only; rw [List.length_take, Nat.min_eq_left (by omega)]; exact o26⟩

set_option maxRecDepth 100000 in
set_option maxHeartbeats 4000000 in
theorem Ring1_spec (N : Int) (A : Option Addr) (len cap b : Nat) (i : Int) (w : World) (h2 : Ro (Fr w []) w (some ⟨b, 0, none⟩) [.int .i64 N, .slice A len cap]) :
    Meets Try.prog 31 ([.int .i64 i] ++ [.pointer (some ⟨b, 0, none⟩)]) w [] (fun u m => u = .bool (offV N i) ∧ m = []) := by
  obtain ⟨b', o', e', hS2, hc2⟩ := h2 (by simp)
  obtain ⟨rfl, rfl⟩ : b = b' ∧ 0 = o' := by cases e'; exact ⟨rfl, rfl⟩
  refine f_enter Try.func31 rfl Try.ntmps31 rfl Owns.nil ?_
  refine f_seq fun K1 kh1 => ?_
  refine f_region ?_
  refine f_stepP rfl rfl rfl (o_assign rfl) ?_
  refine f_done ?_
  refine f_tn (kh1 _ _ ?_)
  clear kh1
  refine f_seq fun K2 kh2 => ?_
  refine f_region ?_
  refine f_stepP rfl rfl rfl (o_move rfl) ?_
  refine f_stepP rfl rfl rfl (o_lss rfl rfl) ?_
  refine f_stepP rfl rfl rfl (o_move rfl) ?_
  refine f_splitL 6 rfl (fun g6 => ?_) (fun g6 => ?_)
  · skip
    refine f_stepN rfl rfl rfl rfl rfl rfl ?_
    refine f_stepN rfl rfl rfl rfl rfl rfl ?_
    refine f_stepN rfl rfl rfl rfl rfl rfl ?_
    refine f_stepN rfl rfl rfl rfl rfl rfl ?_
    refine f_stepP rfl rfl rfl (o_pickT rfl rfl) ?_
    refine f_stepP rfl rfl rfl (o_assign rfl) ?_
    refine f_done ?_
    refine f_tn (kh2 _ _ ?_)
    clear kh2
    refine f_ret ?_
    exact f_fin1 [] Try.results31 rfl Sub.nil ⟨by unfold offV; rw [decide_eq_true (.inl g6)], rfl⟩
  · skip
    refine f_stepPY rfl rfl rfl rfl rfl (o_move rfl) ?_
    refine f_stepPY rfl rfl rfl rfl rfl (o_field fa24_0 rfl) ?_
    refine f_stepPY rfl rfl rfl rfl rfl (o_load Try.isAgg3 rfl (rdS hS2 (hc2 0 _ rfl))) ?_
    refine f_stepPY rfl rfl rfl rfl rfl (o_geq rfl rfl) ?_
    refine f_stepP rfl rfl rfl (o_pickF rfl rfl) ?_
    refine f_stepP rfl rfl rfl (o_assign rfl) ?_
    refine f_done ?_
    refine f_tn (kh2 _ _ ?_)
    clear kh2
    refine f_ret ?_
    exact f_fin1 [] Try.results31 rfl Sub.nil ⟨by unfold offV; congr 1; apply decide_eq_decide.2; omega, rfl⟩

set_option maxRecDepth 100000 in
set_option maxHeartbeats 4000000 in
theorem Ring2_spec (n b bb : Nat) (L : List Bool) (i : Int) (w : World) (hL : L.length = n) (hi : 0 ≤ i ∧ i < (n : Int)) (h2 : Ro (Fr w []) w (some ⟨b, 0, none⟩) [.slice (some ⟨bb, 0, none⟩) n n]) (h3 : Ro (Fr w []) w (some ⟨bb, 0, none⟩) (boolsG L)) :
    Meets Try.prog 32 ([.int .i64 i] ++ [.pointer (some ⟨b, 0, none⟩)]) w [] (fun u m => u = .bool (L.getD i.toNat false) ∧ m = []) := by
  obtain ⟨b', o', e', hS2, hc2⟩ := h2 (by simp)
  obtain ⟨rfl, rfl⟩ : b = b' ∧ 0 = o' := by cases e'; exact ⟨rfl, rfl⟩
  obtain ⟨b3, o3, e3, hS3, hc3⟩ := h3 (fun e => by have h := congrArg List.length e; simp only [boolsG, List.length_map, List.length_nil] at h; omega)
  obtain ⟨rfl, rfl⟩ : bb = b3 ∧ 0 = o3 := by cases e3; exact ⟨rfl, rfl⟩
  obtain ⟨v, rfl⟩ : ∃ v : Nat, i = (v : Int) := ⟨i.toNat, by omega⟩
  refine f_enter Try.func32 rfl Try.ntmps32 rfl Owns.nil ?_
  refine f_seq fun K1 kh1 => ?_
  refine f_region ?_
  refine f_stepP rfl rfl rfl (o_assign rfl) ?_
  refine f_done ?_
  refine f_tn (kh1 _ _ ?_)
  clear kh1
  refine f_seq fun K2 kh2 => ?_
  refine f_region ?_
  refine f_stepP rfl rfl rfl (o_load Try.isAgg37 rfl (rdS hS2 (hc2 0 _ rfl))) ?_
  refine f_stepP rfl rfl rfl (o_move rfl) ?_
  refine f_stepP rfl rfl rfl (o_idx sl37 rfl rfl (0 + v) ⟨by omega, by omega, by first | omega | (simp; done) | (simp; omega)⟩) ?_
  refine f_stepP rfl rfl rfl (o_load Try.isAgg4 rfl (rdS hS3 (by have := hc3 v _ (boolsG_at (by omega)); exact this))) ?_
  refine f_stepP rfl rfl rfl (o_assign rfl) ?_
  refine f_done ?_
  refine f_tn (kh2 _ _ ?_)
  clear kh2
  refine f_ret ?_
  exact f_fin1 [] Try.results32 rfl Sub.nil ⟨by rw [Int.toNat_natCast], rfl⟩

set_option maxRecDepth 100000 in
set_option maxHeartbeats 4000000 in
theorem Ring_spec (N : Int) (A : Option Addr) (l : List Arc) (cap : Nat) (B : Option Addr) (M : List Int) (cb : Nat) (w : World) (hr : Ro (Fr w []) w A (l.flatMap arcCs)) (hl : l.length ≤ 9223372036854775807) (hN : I64 N) (hok : ∀ x ∈ l, ArcOk x) (hM : Ro (Fr w []) w B (ints M)) (hm : M.length ≤ 9223372036854775807) :
    Meets Try.prog 17 [.agg #[.int .i64 N, .slice A l.length cap], .slice B M.length cb] w [] (fun u own' => ∃ s ms, u = .tuple #[s, .int .i64 (ringR N l M).2] ∧ own' = [ms] ∧ Own 3 1 s (ringR N l M).1.length (ints (ringR N l M).1) ms) := by
  refine f_enter Try.func17 rfl Try.ntmps17 rfl Owns.nil ?_
  refine f_seq fun K1 kh1 => ?_
  refine f_region ?_
  refine f_step rfl rfl rfl (o_box rfl rfl fun b2 => ?_)
  refine f_stepP rfl rfl rfl (o_assign rfl) ?_
  refine f_stepP rfl rfl rfl (o_assign rfl) ?_
  refine f_done ?_
  refine f_tn (kh1 _ _ ?_)
  clear kh1
  refine f_seq fun K2 kh2 => ?_
  refine f_seq fun K3 kh3 => ?_
  refine f_region ?_
  refine f_stepP rfl rfl rfl (o_loadA (vs := [_, _]) Try.isAgg24 Try.sizeOf24 rfl rfl ⟨(rdA rfl), (rdA rfl), trivial⟩) ?_
  refine f_step rfl rfl rfl (o_call Try.call23 rfl (fun w_ hp_ => Check_spec N A l cap w_ (hr.up0 hp_) hl hN hok) ?_)
  rintro _ _ ⟨rfl, rfl⟩
  dsimp only [List.cons_append, List.nil_append]
  refine f_stepP rfl rfl rfl (o_move rfl) ?_
  refine f_stepP rfl rfl rfl (o_extract rfl rfl) ?_
  refine f_stepP rfl rfl rfl (o_extract rfl rfl) ?_
  refine f_stepP rfl rfl rfl (o_assign rfl) ?_
  refine f_stepP rfl rfl rfl (o_assign rfl) ?_
  refine f_done ?_
  refine f_tn (kh3 _ _ ?_)
  clear kh3
  refine f_seq fun K4 kh4 => ?_
  refine f_region ?_
  refine f_stepP rfl rfl rfl (o_move rfl) ?_
  refine f_stepP rfl rfl rfl (o_neq rfl rfl) ?_
  refine f_done ?_
  refine f_tn (kh4 _ _ ?_)
  clear kh4
  refine f_cond rfl (fun c20 => ?_) (fun c20 => ?_)
  · skip
    refine f_seq fun K5 kh5 => ?_
    refine f_region ?_
    refine f_stepP rfl rfl rfl (o_move rfl) ?_
    refine f_stepP rfl rfl rfl (o_assign rfl) ?_
    refine f_stepP rfl rfl rfl (o_assign rfl) ?_
    refine f_done ?_
    refine f_tn (kh5 _ _ ?_)
    clear kh5
    refine f_ret ?_
    refine f_tr ?_
    have e : ringR N l M = ([], (gcheck N l).2) := if_pos c20
    exact f_fin2 [[]] Try.results17 rfl rfl Sub.empty ⟨_, _, by rw [e], rfl, by rw [e]; exact Own.nil _ _⟩
  · skip
    refine f_skip ?_
    refine f_tn (kh2 _ _ ?_)
    clear kh2
    refine f_seq fun K6 kh6 => ?_
    refine f_seq fun K7 kh7 => ?_
    refine f_region ?_
    refine f_stepP rfl rfl rfl (o_move rfl) ?_
    refine f_stepP rfl rfl rfl (o_len sl28 rfl) ?_
    refine f_stepP rfl rfl rfl (o_gtr rfl rfl) ?_
    refine f_done ?_
    refine f_tn (kh7 _ _ ?_)
    clear kh7
    refine f_cond rfl (fun c24 => ?_) (fun c24 => ?_)
    · skip
      refine f_seq fun K8 kh8 => ?_
      refine f_region ?_
      refine f_stepP rfl rfl rfl (o_assign rfl) ?_
      refine f_stepP rfl rfl rfl (o_assign rfl) ?_
      refine f_done ?_
      refine f_tn (kh8 _ _ ?_)
      clear kh8
      refine f_ret ?_
      refine f_tr ?_
      have e : ringR N l M = ([], 2) := by unfold ringR; rw [if_neg c20, if_pos (by omega)]
      exact f_fin2 [[]] Try.results17 rfl rfl Sub.empty ⟨_, _, by rw [e], rfl, by rw [e]; exact Own.nil _ _⟩
    · skip
      refine f_skip ?_
      refine f_tn (kh6 _ _ ?_)
      clear kh6
      refine f_seq fun K9 kh9 => ?_
      refine f_seq fun K10 kh10 => ?_
      refine f_region ?_
      refine f_stepP rfl rfl rfl (o_move rfl) ?_
      refine f_stepP rfl rfl rfl (o_func rfl rfl) ?_
      refine f_step rfl rfl rfl (o_call Try.call30 rfl (fun w_ hp_ => ContG_spec B M cb (offV N) 31 [.pointer (some ⟨b2, 0, none⟩)] w_ (hM.up0 hp_) hm Try.call31 (fun w' hs i hi => Ring1_spec N A l.length cap b2 i w' (heldRo hp_ hs))) ?_)
      rintro _ _ ⟨rfl, rfl⟩
      dsimp only [List.cons_append, List.nil_append]
      refine f_done ?_
      refine f_tn (kh10 _ _ ?_)
      clear kh10
      refine f_condB rfl (fun c27 => ?_) (fun c27 => ?_)
      · skip
        refine f_seq fun K11 kh11 => ?_
        refine f_region ?_
        refine f_stepP rfl rfl rfl (o_assign rfl) ?_
        refine f_stepP rfl rfl rfl (o_assign rfl) ?_
        refine f_done ?_
        refine f_tn (kh11 _ _ ?_)
        clear kh11
        refine f_ret ?_
        refine f_tr ?_
        have e : ringR N l M = ([], 5) := by unfold ringR; rw [if_neg c20, if_neg (by omega), if_pos c27]
        exact f_fin2 [[]] Try.results17 rfl rfl Sub.empty ⟨_, _, by rw [e], rfl, by rw [e]; exact Own.nil _ _⟩
      · skip
        refine f_skip ?_
        refine f_tn (kh9 _ _ ?_)
        clear kh9
        refine f_seq fun K12 kh12 => ?_
        have hg : (gcheck N l).2 = 0 := by simpa using c20
        obtain ⟨hg1, hg2, hgl, hgd⟩ := gcheck_zero hg
        obtain ⟨n, rfl⟩ : ∃ n : Nat, N = (n : Int) := ⟨N.toNat, by omega⟩
        have hn1 : n ≤ 1024 := by omega
        obtain ⟨hrl, hrng⟩ := nbrs_rngG hg
        have hmr : ∀ i (h : i < M.length), 0 ≤ M[i] ∧ M[i] < (n : Int) := fun i h => by
          have h0 : M.any (offV (n : Int)) = false := by simpa using c27
          have h1 := List.any_eq_false.1 h0 _ (List.getElem_mem h)
          unfold offV at h1
          simp at h1; omega
        refine f_region ?_
        refine f_stepP rfl rfl rfl (o_field fa24_0 rfl) ?_
        refine f_stepP rfl rfl rfl (o_load Try.isAgg3 rfl (rdA rfl)) ?_
        refine f_step rfl rfl rfl (o_make el37 rfl rfl n rfl (by omega) (by omega) (boolsG (marksL n [])) (by rw [marksL_nil]; exact reps_bool n false) fun b30 => ?_)
        refine f_step rfl rfl rfl (o_alloc Try.zeroValue37 rfl fun b8 => ?_)
        refine f_step0 rfl rfl (o_store Try.sizeOf37 rfl rfl rfl rfl (by first | exact Nat.le_of_ble_eq_true rfl | (simp; done) | (simp; omega)) [.slice (some ⟨b30, 0, none⟩) n n] rfl ?_)
        refine f_done ?_
        refine f_tn (kh12 _ _ ?_)
        clear kh12
        refine f_seq fun K13 kh13 => ?_
        refine f_seq fun K14 kh14 => ?_
        refine f_region ?_
        refine f_stepP rfl rfl rfl (o_move rfl) ?_
        refine f_stepP rfl rfl rfl (o_len sl28 rfl) ?_
        refine f_stepP rfl rfl rfl (o_move rfl) ?_
        refine f_done ?_
        refine f_tn (kh14 _ _ ?_)
        clear kh14
        refine f_block ?_
        refine f_loop (α := Nat) [2, 8, 31, 32] (fun k => [(33, .int .i64 (k : Int))]) (fun k => [[(b8, blk [.slice (some ⟨b30, 0, none⟩) n n] 37)], [(b30, blk (boolsG (marksL n (M.take k))) 4)], [(b2, blk [.int .i64 (n : Int), .slice A l.length cap] 24)]]) (fun k => k ≤ M.length ∧ (M.take k).Nodup) (fun k => M.length - k) (0) ?_ ?_ ?_ ?_
        · exact (by repeat (first | exact trivial | refine ⟨rfl, ?_⟩))
        · repeat (first | exact Sub.nil | refine Sub.pick ?_ | refine Sub.castO rfl ?_ | refine Sub.skip ?_)
        · exact ⟨Nat.zero_le _, by simp⟩
        · rintro k ⟨hkl, hnd⟩
          refine f_seq fun K15 kh15 => ?_
          refine f_region ?_
          refine f_stepP rfl rfl rfl (o_lss rfl rfl) ?_
          refine f_done ?_
          refine f_tn (kh15 _ _ ?_)
          clear kh15
          refine f_seq fun K16 kh16 => ?_
          refine f_cond rfl (fun c34 => ?_) (fun c34 => ?_)
          · skip
            refine f_skip ?_
            refine f_tn (kh16 _ _ ?_)
            clear kh16
            refine f_seq fun K17 kh17 => ?_
            refine f_block ?_
            refine f_seq fun K18 kh18 => ?_
            refine f_region ?_
            have hk : k < M.length := by omega
            obtain ⟨bl, off, rfl, hS, hc⟩ := hM (map_ne hk)
            obtain ⟨v, hv, hvn⟩ : ∃ v : Nat, M[k] = (v : Int) ∧ v < n := ⟨M[k].toNat, by have := hmr k hk; omega, by have := hmr k hk; omega⟩
            refine f_stepP rfl rfl rfl (o_idx sl28 rfl rfl (off + k) ⟨by omega, by omega, by first | omega | (simp; done) | (simp; omega)⟩) ?_
            refine f_stepP rfl rfl rfl (o_load Try.isAgg3 rfl (roOne (enc := (.int .i64 ·)) hS hc hk)) ?_
            refine f_stepP rfl rfl rfl (o_assign rfl) ?_
            refine f_done ?_
            refine f_tn (kh18 _ _ ?_)
            clear kh18
            refine f_seq fun K19 kh19 => ?_
            refine f_seq fun K20 kh20 => ?_
            refine f_region ?_
            refine f_stepP rfl rfl rfl (o_load Try.isAgg37 rfl (rdA rfl)) ?_
            refine f_stepP rfl rfl rfl (o_move rfl) ?_
            refine f_stepP rfl rfl rfl (o_idx sl37 rfl rfl (v) ⟨by omega, by omega, by first | omega | (simp; done) | (simp; omega)⟩) ?_
            refine f_stepP rfl rfl rfl (o_load Try.isAgg4 rfl (rdA (boolsG_at (by rw [marksL_len]; omega)))) ?_
            refine f_done ?_
            refine f_tn (kh20 _ _ ?_)
            clear kh20
            refine f_condB rfl (fun c40 => ?_) (fun c40 => ?_)
            · skip
              refine f_seq fun K21 kh21 => ?_
              refine f_region ?_
              refine f_stepP rfl rfl rfl (o_assign rfl) ?_
              refine f_stepP rfl rfl rfl (o_assign rfl) ?_
              refine f_done ?_
              refine f_tn (kh21 _ _ ?_)
              clear kh21
              refine f_ret ?_
              refine f_tr ?_
              refine f_br ?_
              refine f_tr ?_
              refine f_tr ?_
              refine f_br ?_
              refine f_tr ?_
              have e : ringR (n : Int) l M = ([], 4) := by unfold ringR; rw [if_neg c20, if_neg (by omega), if_neg (by simpa using c27), if_pos (nodup_not hk (by rw [marksL_at hvn] at c40; rw [hv]; simpa using c40))]
              exact f_fin2 [[]] Try.results17 rfl rfl Sub.empty ⟨_, _, by rw [e], rfl, by rw [e]; exact Own.nil _ _⟩
            · skip
              have hin : M[k] ∉ M.take k := by rw [marksL_at hvn] at c40; rw [hv]; simpa using c40
              refine f_skip ?_
              refine f_tn (kh19 _ _ ?_)
              clear kh19
              refine f_region ?_
              refine f_stepP rfl rfl rfl (o_load Try.isAgg37 rfl (rdA rfl)) ?_
              refine f_stepP rfl rfl rfl (o_move rfl) ?_
              refine f_stepP rfl rfl rfl (o_idx sl37 rfl rfl (v) ⟨by omega, by omega, by first | omega | (simp; done) | (simp; omega)⟩) ?_
              refine f_step0 rfl rfl (o_store Try.sizeOf4 rfl rfl rfl rfl (by simp [boolsG, marksL_len]; omega) (boolsG (marksL n (M.take (k + 1)))) (by rw [boolsG_set, marksL_next hk hv]) ?_)
              refine f_done ?_
              refine f_bn ?_
              refine f_tn (kh17 _ _ ?_)
              clear kh17
              refine f_region ?_
              refine f_stepP rfl rfl rfl (o_add rfl rfl _ (wrap_i64 (by omega))) ?_
              refine f_stepP rfl rfl rfl (o_move rfl) ?_
              refine f_done ?_
              refine f_tn (f_again (k + 1) (by first | omega | (dsimp only; omega) | (simp; omega)) ⟨by omega, nodup_next hk hnd hin⟩ ?_ ?_ ?_)
              · exact (by repeat (first | exact trivial | refine ⟨rfl, ?_⟩))
              · exact (by repeat (first | exact trivial | refine ⟨rfl, ?_⟩))
              · repeat (first | exact Sub.nil | refine Sub.pick ?_ | refine Sub.castO rfl ?_ | refine Sub.skip ?_)
          · skip
            refine f_exit ?_
            refine f_te ?_
            clear kh16
            refine f_te ?_
            refine f_be ?_
            refine f_tn (kh13 _ _ ?_)
            clear kh13
            refine f_seq fun K22 kh22 => ?_
            obtain rfl : k = M.length := by omega
            rw [List.take_length] at hnd ⊢
            refine f_region ?_
            refine f_stepP rfl rfl rfl (o_loadA (vs := [_, _]) Try.isAgg24 Try.sizeOf24 rfl rfl ⟨(rdA rfl), (rdA rfl), trivial⟩) ?_
            refine f_step rfl rfl rfl (o_call Try.call25 rfl (fun w_ hp_ => sides_spec n A l cap w_ (hr.up0 hp_) hn1 hgl hgd) ?_)
            rintro _ _ ⟨bo, vs, ms, rfl, rfl, hR⟩
            dsimp only [List.cons_append, List.nil_append]
            refine f_stepP rfl rfl rfl (o_assign rfl) ?_
            refine f_done ?_
            refine f_tn (kh22 _ _ ?_)
            clear kh22
            refine f_seq fun K23 kh23 => ?_
            refine f_region ?_
            refine f_stepP rfl rfl rfl (o_assign rfl) ?_
            refine f_done ?_
            refine f_tn (kh23 _ _ ?_)
            clear kh23
            refine f_seq fun K24 kh24 => ?_
            refine f_seq fun K25 kh25 => ?_
            refine f_region ?_
            refine f_stepP rfl rfl rfl (o_field fa24_0 rfl) ?_
            refine f_stepP rfl rfl rfl (o_load Try.isAgg3 rfl (rdA rfl)) ?_
            refine f_stepP rfl rfl rfl (o_move rfl) ?_
            refine f_done ?_
            refine f_tn (kh25 _ _ ?_)
            clear kh25
            refine f_block ?_
            refine f_loop (α := Nat × Value × Seg) [8, 11, 48] (fun ⟨v, ov, om⟩ => [(49, .int .i64 (v : Int)), (12, ov)]) (fun ⟨v, ov, om⟩ => [om, [(bo, blk vs 28)], ms.flatten, [(b8, blk [.slice (some ⟨b30, 0, none⟩) n n] 37)], [(b30, blk (boolsG (marksL n M)) 4)], [(b2, blk [.int .i64 (n : Int), .slice A l.length cap] 24)]]) (fun ⟨v, ov, om⟩ => v ≤ n ∧ Own 3 1 ov (ringL l M v).length (ints (ringL l M v)) om) (fun ⟨v, ov, om⟩ => n - v) (0, .slice none 0 0, []) ?_ ?_ ?_ ?_
            · exact (by repeat (first | exact trivial | refine ⟨rfl, ?_⟩))
            · repeat (first | exact Sub.nil | refine Sub.pick ?_ | refine Sub.castO rfl ?_ | refine Sub.skip ?_)
            · exact ⟨Nat.zero_le _, Own.nil _ _⟩
            · rintro ⟨v, ov, om⟩ ⟨hvn, hO⟩
              obtain ⟨Ao, co, rfl, hco⟩ := hO.val
              have hrgl := ringL_len l M v
              refine f_envC (e := [(49, _), (12, _), (8, _), (11, _), (48, _)]) (by repeat (first | exact trivial | refine ⟨rfl, ?_⟩)) ?_
              refine f_seq fun K26 kh26 => ?_
              refine f_region ?_
              refine f_stepP rfl rfl rfl (o_lss rfl rfl) ?_
              refine f_done ?_
              refine f_tn (kh26 _ _ ?_)
              clear kh26
              refine f_seq fun K27 kh27 => ?_
              refine f_cond rfl (fun c50 => ?_) (fun c50 => ?_)
              · skip
                have hv : v < n := by omega
                obtain ⟨Ar, cr, hrv, hrow⟩ := row_blk hR (i := v) (by rw [nrows_len]; exact hv)
                rw [nrows_get] at hrv hrow
                have hany : ((nbrs (v : Int) l).any fun u => decide (u ∈ M)) = (nbrs (v : Int) l).any fun u => (marksL n M).getD u.toNat false := by
                  rw [Bool.eq_iff_iff, List.any_eq_true, List.any_eq_true]
                  constructor
                  · rintro ⟨u, hu, h⟩
                    have := hrng v hv u hu
                    exact ⟨u, hu, by rw [marksL_at (by omega), Int.toNat_of_nonneg this.1]; exact h⟩
                  · rintro ⟨u, hu, h⟩
                    have := hrng v hv u hu
                    exact ⟨u, hu, by rw [marksL_at (by omega), Int.toNat_of_nonneg this.1] at h; exact h⟩
                refine f_skip ?_
                refine f_tn (kh27 _ _ ?_)
                clear kh27
                refine f_seq fun K28 kh28 => ?_
                refine f_block ?_
                refine f_seq fun K29 kh29 => ?_
                refine f_region ?_
                refine f_stepP rfl rfl rfl (o_move rfl) ?_
                refine f_stepP rfl rfl rfl (o_assign rfl) ?_
                refine f_done ?_
                refine f_tn (kh29 _ _ ?_)
                clear kh29
                refine f_seq fun K30 kh30 => ?_
                refine f_region ?_
                refine f_stepP rfl rfl rfl (o_load Try.isAgg37 rfl (rdA rfl)) ?_
                refine f_stepP rfl rfl rfl (o_move rfl) ?_
                refine f_stepP rfl rfl rfl (o_idx sl37 rfl rfl (v) ⟨by omega, by omega, by first | omega | (simp; done) | (simp; omega)⟩) ?_
                refine f_stepP rfl rfl rfl (o_load Try.isAgg4 rfl (rdA (boolsG_at (by rw [marksL_len]; omega)))) ?_
                refine f_stepP rfl rfl rfl (o_not rfl) ?_
                refine f_stepP rfl rfl rfl (o_move rfl) ?_
                refine f_splitLB 57 rfl (fun g57 => ?_) (fun g57 => ?_)
                · skip
                  have hnv : decide ((v : Int) ∈ M) = false := by rw [marksL_at hv] at g57; simpa using g57
                  refine f_stepPY rfl rfl rfl rfl rfl (o_move rfl) ?_
                  refine f_stepPY rfl rfl rfl rfl rfl (o_move rfl) ?_
                  refine f_stepPY rfl rfl rfl rfl rfl (o_idx sl55 rfl rfl (v) ⟨by omega, by omega, by first | omega | (simp; done) | (simp; omega)⟩) ?_
                  refine f_stepPY rfl rfl rfl rfl rfl (o_load Try.isAgg28 rfl (rdA hrv)) ?_
                  refine f_stepPY rfl rfl rfl rfl rfl (o_func rfl rfl) ?_
                  refine f_stepY rfl rfl rfl rfl rfl (o_call Try.call30 rfl (fun w_ hp_ => (by have h := ContG_spec Ar (nbrs (v : Int) l) cr (fun u => (marksL n M).getD u.toNat false) 32 [.pointer (some ⟨b8, 0, none⟩)] w_ (fun hne => by obtain ⟨br, sp, rfl, hm⟩ := hrow (by rw [ne_eq, ← List.length_eq_zero_iff, ints_length] at hne; omega); exact roMemG (b := br) (cs := ints (nbrs (v : Int) l)) (sp := sp) (List.mem_flatten.2 ⟨ms.flatten, by simp, hm⟩) hp_ hne) (by have := hrl v; omega) Try.call32 (fun w' hs i hi => Ring2_spec n b8 b30 (marksL n M) i w' (marksL_len n M) (hrng v hv i hi) (heldRo hp_ hs) (heldRo hp_ hs)); exact h)) ?_)
                  rintro _ _ ⟨rfl, rfl⟩
                  dsimp only [List.cons_append, List.nil_append]
                  refine f_stepP rfl rfl rfl (o_pickT rfl rfl) ?_
                  refine f_done ?_
                  refine f_tn (kh30 _ _ ?_)
                  clear kh30
                  refine f_condB rfl (fun c64 => ?_) (fun c64 => ?_)
                  · skip
                    refine f_region ?_
                    refine f_stepP rfl rfl rfl (o_move rfl) ?_
                    refine f_stepP rfl rfl rfl (o_move rfl) ?_
                    refine f_step rfl rfl rfl (o_slice1 el28 (by omega) rfl rfl rfl fun b67 => ?_)
                    refine f_step rfl rfl rfl (o_append el28 rfl rfl hO (ys := [.int .i64 (v : Int)]) ⟨(rdA rfl), trivial⟩ rfl rfl (by omega) (by omega) fun v68 m68 o68 => ?_)
                    refine f_stepP rfl rfl rfl (o_assign rfl) ?_
                    refine f_done ?_
                    refine f_bn ?_
                    refine f_tn (kh28 _ _ ?_)
                    clear kh28
                    refine f_region ?_
                    refine f_stepP rfl rfl rfl (o_add rfl rfl _ (wrap_i64 (by omega))) ?_
                    refine f_stepP rfl rfl rfl (o_move rfl) ?_
                    refine f_done ?_
                    refine f_tn (f_again (v + 1, v68, m68) (by first | omega | (dsimp only; omega) | (simp; omega)) ⟨by omega, by rw [show ringL l M (v + 1) = ringL l M v ++ [(v : Int)] from if_pos (by unfold rgB; rw [hnv, hany, c64]; rfl), List.length_append, ints_append]; exact o68⟩ ?_ ?_ ?_)
                    · exact (by repeat (first | exact trivial | refine ⟨rfl, ?_⟩))
                    · exact (by repeat (first | exact trivial | refine ⟨rfl, ?_⟩))
                    · repeat (first | exact Sub.nil | refine Sub.pick ?_ | refine Sub.castO rfl ?_ | refine Sub.skip ?_)
                  · skip
                    refine f_skip ?_
                    refine f_bn ?_
                    refine f_tn (kh28 _ _ ?_)
                    clear kh28
                    refine f_region ?_
                    refine f_stepP rfl rfl rfl (o_add rfl rfl _ (wrap_i64 (by omega))) ?_
                    refine f_stepP rfl rfl rfl (o_move rfl) ?_
                    refine f_done ?_
                    refine f_tn (f_again (v + 1, .slice Ao (ringL l M v).length co, om) (by first | omega | (dsimp only; omega) | (simp; omega)) ⟨by omega, by rw [show ringL l M (v + 1) = ringL l M v from if_neg (by unfold rgB; rw [hany, c64]; simp)]; exact hO⟩ ?_ ?_ ?_)
                    · exact (by repeat (first | exact trivial | refine ⟨rfl, ?_⟩))
                    · exact (by repeat (first | exact trivial | refine ⟨rfl, ?_⟩))
                    · repeat (first | exact Sub.nil | refine Sub.pick ?_ | refine Sub.castO rfl ?_ | refine Sub.skip ?_)
                · skip
                  have hnv : decide ((v : Int) ∈ M) = true := by rw [marksL_at hv] at g57; simpa using g57
                  refine f_stepN rfl rfl rfl rfl rfl rfl ?_
                  refine f_stepN rfl rfl rfl rfl rfl rfl ?_
                  refine f_stepN rfl rfl rfl rfl rfl rfl ?_
                  refine f_stepN rfl rfl rfl rfl rfl rfl ?_
                  refine f_stepN rfl rfl rfl rfl rfl rfl ?_
                  refine f_stepN rfl rfl rfl rfl rfl rfl ?_
                  refine f_stepP rfl rfl rfl (o_pickF rfl rfl) ?_
                  refine f_done ?_
                  refine f_tn (kh30 _ _ ?_)
                  clear kh30
                  refine f_condF rfl ?_
                  refine f_skip ?_
                  refine f_bn ?_
                  refine f_tn (kh28 _ _ ?_)
                  clear kh28
                  refine f_region ?_
                  refine f_stepP rfl rfl rfl (o_add rfl rfl _ (wrap_i64 (by omega))) ?_
                  refine f_stepP rfl rfl rfl (o_move rfl) ?_
                  refine f_done ?_
                  refine f_tn (f_again (v + 1, .slice Ao (ringL l M v).length co, om) (by first | omega | (dsimp only; omega) | (simp; omega)) ⟨by omega, by rw [show ringL l M (v + 1) = ringL l M v from if_neg (by unfold rgB; rw [hnv]; simp)]; exact hO⟩ ?_ ?_ ?_)
                  · exact (by repeat (first | exact trivial | refine ⟨rfl, ?_⟩))
                  · exact (by repeat (first | exact trivial | refine ⟨rfl, ?_⟩))
                  · repeat (first | exact Sub.nil | refine Sub.pick ?_ | refine Sub.castO rfl ?_ | refine Sub.skip ?_)
              · skip
                refine f_exit ?_
                refine f_te ?_
                clear kh27
                refine f_te ?_
                refine f_be ?_
                refine f_tn (kh24 _ _ ?_)
                clear kh24
                refine f_seq fun K31 kh31 => ?_
                refine f_region ?_
                refine f_stepP rfl rfl rfl (o_move rfl) ?_
                refine f_stepP rfl rfl rfl (o_assign rfl) ?_
                refine f_stepP rfl rfl rfl (o_assign rfl) ?_
                refine f_done ?_
                refine f_tn (kh31 _ _ ?_)
                clear kh31
                refine f_ret ?_
                obtain rfl : v = n := by omega
                have e : ringR (v : Int) l M = (ringL l M v, 0) := by unfold ringR; rw [if_neg c20, if_neg (by omega), if_neg (by simpa using c27), if_neg (by simpa using hnd), Int.toNat_natCast]
                exact f_fin2 [om] Try.results17 rfl rfl (by repeat (first | exact Sub.nil | refine Sub.pick ?_ | refine Sub.castO rfl ?_ | refine Sub.skip ?_)) ⟨.slice Ao (ringL l M v).length co, om, by rw [e], rfl, by rw [e]; exact hO⟩

end Go.Proofs.Ytlllpmafhnfihaa
