/- local.ready, Gain, Next. -/
import Derived.Test.YtagidegklmgilaaFLoc2
namespace Go.Proofs.Ytagidegklmgilaa
open Go Go.RowKit Fly
set_option linter.unusedVariables false
set_option linter.unusedSimpArgs false


theorem roMem {S : Nat → Prop} {w0 w : World} {segs : List Seg} {b : Nat} {cs sp : List Value} {T : TypeId} (hm : (b, blk (cs ++ sp) T) ∈ segs.flatten) (hp : Hp S w0 segs.flatten w) : Ro (Fr w []) w (some ⟨b, 0, none⟩) cs := fun _ => by
  have hb := hp.own b _ hm
  refine ⟨b, 0, rfl, ⟨hp.key_lt hm, by simp⟩, fun j v hj => ?_⟩
  have : (cs ++ sp)[j]? = some v := app_get hj
  simp [World.cell?, hb, this]
theorem roOwnM {S : Nat → Prop} {w0 w : World} {segs : List Seg} {E len len' c : Nat} {A : Option Addr} {cs : List Value} {m : Seg} (ho : Own E 1 (.slice A len' c) len cs m) (hm : ∀ x ∈ m, x ∈ segs.flatten) (hp : Hp S w0 segs.flatten w) : Ro (Fr w []) w A cs := by
  intro hne
  have hl : 0 < len := by
    rcases Nat.eq_zero_or_pos len with h | h
    · subst h; have := ho.1; simp at this; exact absurd this hne
    · exact h
  obtain ⟨b, sp, rfl, rfl⟩ := ho.at_ hl
  exact roMem (sp := sp) (T := E) (hm _ (by simp)) hp hne
theorem LRep.sees {S0 : Nat → Prop} {w0 w : World} {segs out : List Seg} {n : Nat} {rows : Nat → List Int} {L S : List Int} {bs : Nat} {m : Seg} (h : LRep n rows L S bs m) (hp : Hp S0 w0 segs.flatten w) [pk : Pick segs m out] : ∃ Al cl bo bz vs, LSee n rows L S bs w Al cl bo bz vs := by
  obtain ⟨Al, cl, ml, bo, vs, ms, bz, hm, hlo, hrw⟩ := h
  have hin : ∀ x ∈ (lsegs bs Al cl L ml bo n vs ms.flatten bz S).flatten, x ∈ segs.flatten := fun x hx => pk.perm.symm.subset (List.mem_append_left _ (hm.symm.subset hx))
  refine ⟨Al, cl, bo, bz, vs, ?_, ?_, ?_, hrw.lv, fun v hv => ?_, ?_⟩
  · exact roMem (sp := []) (T := 63) (hin _ (by simp)) hp
  · exact roOwnM hlo (fun x hx => hin x (by simp [hx])) hp
  · exact roMem (sp := []) (T := 25) (hin _ (by simp)) hp
  · obtain ⟨A, c, h1, h2⟩ := hrw.own v hv
    refine ⟨A, _, h1, roOwnM h2 (fun x hx => hin x ?_) hp⟩
    have : x ∈ ms.flatten := List.mem_flatten.2 ⟨_, List.getElem_mem _, hx⟩
    simp [this]
  · exact roMem (sp := []) (T := 3) (hin _ (by simp)) hp
theorem sizesL_len {n : Nat} {L : List Int} (hrt : rightB (n : Int) L = true) (hn : 1 ≤ n) : L.length = n ∧ (∀ x ∈ L, 0 ≤ x ∧ x < ((sizesL L).length : Int) ∧ x < (n : Int)) ∧ (sizesL L).length ≤ n ∧ 1 ≤ (sizesL L).length := by
  unfold rightB at hrt
  simp only [Bool.and_eq_true, decide_eq_true_eq] at hrt
  have hLn : L.length = n := by omega
  have h0 : 0 < L.length := by omega
  have hp0 := rgo_pos hrt.1
  have hp1 := rgo_lt hrt.1
  have hx1 : maxL L ≤ (n : Int) - 1 := maxL_le h0 fun x hx => by have := hp1 x hx; omega
  have hx0 : 0 ≤ maxL L := Int.le_trans (hp0 L[0] (List.getElem_mem h0)) (le_maxL (List.getElem_mem h0))
  have e : (sizesL L).length = (maxL L + 1).toNat := szs_len _ _
  refine ⟨hLn, fun x hx => ?_, by omega, by omega⟩
  have := hp0 x hx
  have := le_maxL hx
  omega
theorem nbrs_rng {n : Nat} {l : List Arc} (hg : (gcheck (n : Int) l).2 = 0) (v : Int) : (nbrs v l).length ≤ 8192 ∧ ∀ u ∈ nbrs v l, 0 ≤ u ∧ u < (n : Int) := by
  obtain ⟨_, _, hlen, hgd⟩ := gcheck_zero hg
  refine ⟨?_, fun u hu => ?_⟩
  · unfold nbrs
    refine Nat.le_trans (cpt_len_le _) ?_
    rw [sortI_len]
    exact Nat.le_trans (nbr_len v l) hlen
  · obtain ⟨x, hx, hux⟩ := nbrs_mem.1 hu
    have := raw_good hgd x hx
    unfold nbr at hux
    split at hux
    · simp at hux
    · split at hux
      · simp at hux; omega
      · split at hux
        · simp at hux; omega
        · simp at hux
theorem szs_rng {M : Nat} {L : List Int} (h : L.length ≤ 1024) : ∀ x ∈ szs M L, 0 ≤ x ∧ x ≤ 1024 := fun x hx => by
  obtain ⟨j, _, rfl⟩ := List.mem_map.1 hx
  have := cnt_le L j
  omega
theorem lok_begin {n : Nat} {l : List Arc} {L : List Int} (hg : (gcheck (n : Int) l).2 = 0) (hrt : rightB (n : Int) L = true) : LOk n (fun v => nbrs (v : Int) l) L (sizesL L) := by
  obtain ⟨hn1, hn2, hlen, hgd⟩ := gcheck_zero hg
  obtain ⟨h1, h2, h3, _⟩ := sizesL_len hrt (by omega)
  exact ⟨by omega, h1, fun x hx => ⟨(h2 x hx).1, (h2 x hx).2.1⟩, by omega, fun v _ => Nat.le_trans (nbrs_rng hg v).1 (by decide), fun v _ => (nbrs_rng hg v).2, szs_rng (by omega)⟩
theorem lok_do {n : Nat} {rows : Nat → List Int} {L S : List Int} (h : LOk n rows L S) (v : Nat) (j : Int) : LOk n rows (tdy (L.set v j)) (szs (sns (L.set v j)).length (tdy (L.set v j))) := by
  have hl : (L.set v j).length = n := by rw [List.length_set]; exact h.len
  have hs := sns_len (L := L.set v j) (k := (L.set v j).length) (Nat.le_refl _)
  rw [List.take_length] at hs
  have := h.n1
  exact ⟨h.n1, by rw [tdy_len]; exact hl, fun x hx => by rw [szs_len]; exact tdy_rng x hx, by rw [szs_len]; omega, h.rlen, h.rok, szs_rng (by rw [tdy_len]; omega)⟩
theorem lcount_ok {N : Int} {l : List Arc} {L : List Int} (h : (lcount N l L).2 = 0) : (gcheck N l).2 = 0 ∧ rightB N L = true := by
  unfold lcount at h
  by_cases h1 : (gcheck N l).2 ≠ 0
  · rw [if_pos h1] at h; exact absurd h h1
  · by_cases h2 : rightB N L = false
    · rw [if_neg h1, if_pos h2] at h; simp at h
    · exact ⟨by omega, by simpa using h2⟩
/-- What is wrong with a question about moves. -/
def readyE (N : Int) (l : List Arc) (L : List Int) (bd : Int) : Int :=
  if (lcount N l L).2 ≠ 0 then (lcount N l L).2 else if bd < 1 ∨ 1024 < bd then 1 else if bd < maxL (sizesL L) then 90 else 0
def gainR (N : Int) (l : List Arc) (L : List Int) (v j : Int) : Int × Int :=
  if (lcount N l L).2 ≠ 0 then (0, (lcount N l L).2) else if v < 0 ∨ N ≤ v ∨ j < 0 ∨ ((sizesL L).length : Int) ≤ j then (0, 5) else (gn L (nbrs v l) (lab L v) j, 0)
/-- The next move of right labels. -/
def mvR (n : Nat) (l : List Arc) (L : List Int) (bd : Int) : Mv := mvTo L (sizesL L) (fun v => nbrs (v : Int) l) bd n

set_option maxRecDepth 100000 in
set_option maxHeartbeats 4000000 in
theorem ready_spec (N : Int) (A B : Option Addr) (l : List Arc) (cap : Nat) (L : List Int) (cb : Nat) (bd : Int) (w : World) (hr : Ro (Fr w []) w A (l.flatMap arcCs)) (hl : l.length ≤ 9223372036854775807) (hN : I64 N) (hok : ∀ x ∈ l, ArcOk x) (hL : Ro (Fr w []) w B (ints L)) (hm : L.length ≤ 9223372036854775807) :
    Meets Try.prog 18 [.agg #[.int .i64 N, .slice A l.length cap], .slice B L.length cb, .int .i64 bd] w []
      (fun u own' => if readyE N l L bd = 0 then ∃ bs m, u = .tuple #[.pointer (some ⟨bs, 0, none⟩), .int .i64 0] ∧ own' = [m] ∧ LRep N.toNat (fun v => nbrs (v : Int) l) L (sizesL L) bs m else u = .tuple #[.pointer none, .int .i64 (readyE N l L bd)] ∧ own' = []) := by
  refine f_enter Try.func18 rfl Try.ntmps18 rfl Owns.nil ?_
  refine f_seq fun K1 kh1 => ?_
  refine f_region ?_
  refine f_step rfl rfl rfl (o_box rfl rfl fun b3 => ?_)
  refine f_stepP rfl rfl rfl (o_assign rfl) ?_
  refine f_stepP rfl rfl rfl (o_assign rfl) ?_
  refine f_done ?_
  refine f_tn (kh1 _ _ ?_)
  clear kh1
  refine f_seq fun K2 kh2 => ?_
  refine f_seq fun K3 kh3 => ?_
  refine f_region ?_
  refine f_stepP rfl rfl rfl (o_loadA (vs := [_, _]) Try.isAgg24 Try.sizeOf24 rfl rfl ⟨(rdA rfl), (rdA rfl), trivial⟩) ?_
  refine f_stepP rfl rfl rfl (o_move rfl) ?_
  refine f_step rfl rfl rfl (o_call Try.call8 rfl (fun w_ hp_ => Count_spec N A B l cap L cb w_ (hr.up0 hp_) hl hN hok (hL.up0 hp_) hm) ?_)
  rintro _ _ ⟨rfl, rfl⟩
  dsimp only [List.cons_append, List.nil_append]
  refine f_stepP rfl rfl rfl (o_move rfl) ?_
  refine f_stepP rfl rfl rfl (o_extract rfl rfl) ?_
  refine f_stepP rfl rfl rfl (o_extract rfl rfl) ?_
  refine f_stepP rfl rfl rfl (o_assign rfl) ?_
  refine f_stepP rfl rfl rfl (o_assign rfl) ?_
  refine f_done ?_
  refine f_tn (kh3 _ _ ?_)
  clear kh3
  refine f_seq fun K4 kh4 => ?_
  refine f_region ?_
  refine f_stepP rfl rfl rfl (o_move rfl) ?_
  refine f_stepP rfl rfl rfl (o_neq rfl rfl) ?_
  refine f_done ?_
  refine f_tn (kh4 _ _ ?_)
  clear kh4
  refine f_cond rfl (fun c18 => ?_) (fun c18 => ?_)
  · skip
    refine f_seq fun K5 kh5 => ?_
    refine f_region ?_
    refine f_stepP rfl rfl rfl (o_move rfl) ?_
    refine f_stepP rfl rfl rfl (o_assign rfl) ?_
    refine f_stepP rfl rfl rfl (o_assign rfl) ?_
    refine f_done ?_
    refine f_tn (kh5 _ _ ?_)
    clear kh5
    refine f_ret ?_
    refine f_tr ?_
    have e : readyE N l L bd = (lcount N l L).2 := if_pos c18
    exact f_fin2 [] Try.results18 rfl rfl Sub.nil (by rw [if_neg (by rw [e]; exact c18), e]; exact ⟨rfl, rfl⟩)
  · skip
    have hlc : (lcount N l L).2 = 0 := by simpa using c18
    obtain ⟨hg, hrt⟩ := lcount_ok hlc
    obtain ⟨n, rfl⟩ : ∃ n : Nat, N = (n : Int) := ⟨N.toNat, by have := gcheck_zero hg; omega⟩
    have hO := lok_begin hg hrt
    have hn1 := hO.n1
    obtain ⟨hLn, _, hsz, hsz1⟩ := sizesL_len hrt hn1.1
    refine f_skip ?_
    refine f_tn (kh2 _ _ ?_)
    clear kh2
    refine f_seq fun K6 kh6 => ?_
    refine f_seq fun K7 kh7 => ?_
    refine f_region ?_
    refine f_stepP rfl rfl rfl (o_move rfl) ?_
    refine f_stepP rfl rfl rfl (o_lss rfl rfl) ?_
    refine f_stepP rfl rfl rfl (o_move rfl) ?_
    refine f_splitL 22 rfl (fun g22 => ?_) (fun g22 => ?_)
    · skip
      refine f_stepN rfl rfl rfl rfl rfl rfl ?_
      refine f_stepN rfl rfl rfl rfl rfl rfl ?_
      refine f_stepP rfl rfl rfl (o_pickT rfl rfl) ?_
      refine f_done ?_
      refine f_tn (kh7 _ _ ?_)
      clear kh7
      refine f_condT rfl ?_
      refine f_seq fun K8 kh8 => ?_
      refine f_region ?_
      refine f_stepP rfl rfl rfl (o_assign rfl) ?_
      refine f_stepP rfl rfl rfl (o_assign rfl) ?_
      refine f_done ?_
      refine f_tn (kh8 _ _ ?_)
      clear kh8
      refine f_ret ?_
      refine f_tr ?_
      have e : readyE (n : Int) l L bd = 1 := by rw [readyE, if_neg c18, if_pos (.inl g22)]
      exact f_fin2 [] Try.results18 rfl rfl Sub.nil (by rw [if_neg (by rw [e]; decide), e]; exact ⟨rfl, rfl⟩)
    · skip
      refine f_stepPY rfl rfl rfl rfl rfl (o_move rfl) ?_
      refine f_stepPY rfl rfl rfl rfl rfl (o_gtr rfl rfl) ?_
      refine f_stepP rfl rfl rfl (o_pickF rfl rfl) ?_
      refine f_done ?_
      refine f_tn (kh7 _ _ ?_)
      clear kh7
      refine f_cond rfl (fun c25 => ?_) (fun c25 => ?_)
      · skip
        refine f_seq fun K9 kh9 => ?_
        refine f_region ?_
        refine f_stepP rfl rfl rfl (o_assign rfl) ?_
        refine f_stepP rfl rfl rfl (o_assign rfl) ?_
        refine f_done ?_
        refine f_tn (kh9 _ _ ?_)
        clear kh9
        refine f_ret ?_
        refine f_tr ?_
        have e : readyE (n : Int) l L bd = 1 := by rw [readyE, if_neg c18, if_pos (.inr (by omega))]
        exact f_fin2 [] Try.results18 rfl rfl Sub.nil (by rw [if_neg (by rw [e]; decide), e]; exact ⟨rfl, rfl⟩)
      · skip
        refine f_skip ?_
        refine f_tn (kh6 _ _ ?_)
        clear kh6
        refine f_seq fun K10 kh10 => ?_
        refine f_region ?_
        refine f_stepP rfl rfl rfl (o_loadA (vs := [_, _]) Try.isAgg24 Try.sizeOf24 rfl rfl ⟨(rdA rfl), (rdA rfl), trivial⟩) ?_
        refine f_stepP rfl rfl rfl (o_move rfl) ?_
        refine f_step rfl rfl rfl (o_call Try.call21 rfl (fun w_ hp_ => begin_spec n A B l cap L cb w_ (hr.up0 hp_) hok hg (hL.up0 hp_) hrt) ?_)
        rintro _ _ ⟨bs, sm, rfl, rfl, hS⟩
        dsimp only [List.cons_append, List.nil_append]
        refine f_stepP rfl rfl rfl (o_assign rfl) ?_
        refine f_done ?_
        refine f_tn (kh10 _ _ ?_)
        clear kh10
        refine f_seq fun K11 kh11 => ?_
        refine f_seq fun K12 kh12 => ?_
        have hS0 := hS
        obtain ⟨Al, cl, ml, bo, vs, ms, bz, hsm, hlo, hrw⟩ := hS
        refine f_subC (Sub.opened hsm) ?_
        try dsimp only [lsegs, List.cons_append, List.nil_append]
        refine f_region ?_
        refine f_stepP rfl rfl rfl (o_move rfl) ?_
        refine f_stepP rfl rfl rfl (o_nil rfl) ?_
        refine f_stepP rfl rfl rfl (o_field fa63_2 rfl) ?_
        refine f_stepP rfl rfl rfl (o_load Try.isAgg25 rfl (rdA rfl)) ?_
        refine f_step rfl rfl rfl (o_call Try.call29 rfl (fun w_ hp_ => Max_spec _ (sizesL L) _ w_ (roMem (sp := []) (T := 3) (b := bz) (by simp) hp_) (by omega) (by omega)) ?_)
        rintro _ _ ⟨rfl, rfl⟩
        dsimp only [List.cons_append, List.nil_append]
        refine f_stepP rfl rfl rfl (o_move rfl) ?_
        refine f_stepP rfl rfl rfl (o_gtr rfl rfl) ?_
        refine f_done ?_
        refine f_tn (kh12 _ _ ?_)
        clear kh12
        refine f_cond rfl (fun c35 => ?_) (fun c35 => ?_)
        · skip
          refine f_seq fun K13 kh13 => ?_
          refine f_region ?_
          refine f_stepP rfl rfl rfl (o_assign rfl) ?_
          refine f_stepP rfl rfl rfl (o_assign rfl) ?_
          refine f_done ?_
          refine f_tn (kh13 _ _ ?_)
          clear kh13
          refine f_ret ?_
          refine f_tr ?_
          have e : readyE (n : Int) l L bd = 90 := by rw [readyE, if_neg c18, if_neg (by omega), if_pos (by omega)]
          exact f_fin2 [] Try.results18 rfl rfl Sub.nil (by rw [if_neg (by rw [e]; decide), e]; exact ⟨rfl, rfl⟩)
        · skip
          refine f_skip ?_
          refine f_tn (kh11 _ _ ?_)
          clear kh11
          refine f_seq fun K14 kh14 => ?_
          refine f_region ?_
          refine f_stepP rfl rfl rfl (o_move rfl) ?_
          refine f_stepP rfl rfl rfl (o_assign rfl) ?_
          refine f_stepP rfl rfl rfl (o_assign rfl) ?_
          refine f_done ?_
          refine f_tn (kh14 _ _ ?_)
          clear kh14
          refine f_ret ?_
          have e : readyE (n : Int) l L bd = 0 := by rw [readyE, if_neg c18, if_neg (by omega), if_neg (by omega)]
          exact f_fin2 [(lsegs bs Al cl L ml bo n vs ms.flatten bz (sizesL L)).flatten] Try.results18 rfl rfl (Sub.flat (by repeat (first | exact Sub.nil | refine Sub.pick ?_ | refine Sub.castO rfl ?_))) (by rw [if_pos e]; exact ⟨bs, _, rfl, rfl, by rw [Int.toNat_natCast]; exact ⟨Al, cl, ml, bo, vs, ms, bz, List.Perm.refl _, hlo, hrw⟩⟩)

set_option maxRecDepth 100000 in
set_option maxHeartbeats 4000000 in
theorem Next_spec (N : Int) (A B : Option Addr) (l : List Arc) (cap : Nat) (L : List Int) (cb : Nat) (bd : Int) (w : World) (hr : Ro (Fr w []) w A (l.flatMap arcCs)) (hl : l.length ≤ 9223372036854775807) (hN : I64 N) (hok : ∀ x ∈ l, ArcOk x) (hL : Ro (Fr w []) w B (ints L)) (hm : L.length ≤ 9223372036854775807) :
    Meets Try.prog 10 [.agg #[.int .i64 N, .slice A l.length cap], .slice B L.length cb, .int .i64 bd] w []
      (fun u own' => own' = [] ∧ if readyE N l L bd = 0 then u = .tuple #[.int .i64 (mvR N.toNat l L bd).1, .int .i64 (mvR N.toNat l L bd).2.1, .bool (decide (0 < (mvR N.toNat l L bd).2.2)), .int .i64 0] else u = .tuple #[.int .i64 0, .int .i64 0, .bool false, .int .i64 (readyE N l L bd)]) := by
  have hrE0 : readyE N l L bd = 0 → (lcount N l L).2 = 0 := fun h => by
    unfold readyE at h
    by_cases h1 : (lcount N l L).2 ≠ 0
    · rw [if_pos h1] at h; exact absurd h h1
    · omega
  refine f_enter Try.func10 rfl Try.ntmps10 rfl Owns.nil ?_
  refine f_seq fun K1 kh1 => ?_
  refine f_region ?_
  refine f_step rfl rfl rfl (o_box rfl rfl fun b3 => ?_)
  refine f_stepP rfl rfl rfl (o_assign rfl) ?_
  refine f_stepP rfl rfl rfl (o_assign rfl) ?_
  refine f_stepP rfl rfl rfl (o_assign rfl) ?_
  refine f_stepP rfl rfl rfl (o_assign rfl) ?_
  refine f_done ?_
  refine f_tn (kh1 _ _ ?_)
  clear kh1
  refine f_seq fun K2 kh2 => ?_
  refine f_region ?_
  refine f_stepP rfl rfl rfl (o_loadA (vs := [_, _]) Try.isAgg24 Try.sizeOf24 rfl rfl ⟨(rdA rfl), (rdA rfl), trivial⟩) ?_
  refine f_stepP rfl rfl rfl (o_move rfl) ?_
  refine f_stepP rfl rfl rfl (o_move rfl) ?_
  refine f_step rfl rfl rfl (o_call Try.call18 rfl (fun w_ hp_ => ready_spec N A B l cap L cb bd w_ (hr.up0 hp_) hl hN hok (hL.up0 hp_) hm) ?_)
  intro v16 own16 hv
  obtain ⟨p16, e16, rfl, hq⟩ : ∃ p16 e16, v16 = .tuple #[p16, .int .i64 e16] ∧ ((e16 = 0 ∧ readyE N l L bd = 0 ∧ ∃ bs m, p16 = .pointer (some ⟨bs, 0, none⟩) ∧ own16 = [m] ∧ LRep N.toNat (fun v => nbrs (v : Int) l) L (sizesL L) bs m) ∨ (e16 ≠ 0 ∧ e16 = readyE N l L bd ∧ own16 = [])) := by
    by_cases h0 : readyE N l L bd = 0
    · rw [if_pos h0] at hv; obtain ⟨bs, m, rfl, h1, h2⟩ := hv; exact ⟨_, _, rfl, .inl ⟨rfl, h0, bs, m, rfl, h1, h2⟩⟩
    · rw [if_neg h0] at hv; obtain ⟨rfl, h1⟩ := hv; exact ⟨_, _, rfl, .inr ⟨h0, rfl, h1⟩⟩
  rw [show own16 = [] ++ own16 from rfl]
  dsimp only [List.cons_append, List.nil_append]
  refine f_stepP rfl rfl rfl (o_move rfl) ?_
  refine f_stepP rfl rfl rfl (o_extract rfl rfl) ?_
  refine f_stepP rfl rfl rfl (o_extract rfl rfl) ?_
  refine f_stepP rfl rfl rfl (o_assign rfl) ?_
  refine f_stepP rfl rfl rfl (o_assign rfl) ?_
  refine f_done ?_
  refine f_tn (kh2 _ _ ?_)
  clear kh2
  refine f_seq fun K3 kh3 => ?_
  refine f_seq fun K4 kh4 => ?_
  refine f_region ?_
  refine f_stepP rfl rfl rfl (o_move rfl) ?_
  refine f_stepP rfl rfl rfl (o_neq rfl rfl) ?_
  refine f_done ?_
  refine f_tn (kh4 _ _ ?_)
  clear kh4
  refine f_cond rfl (fun c20 => ?_) (fun c20 => ?_)
  · skip
    obtain ⟨h0, he, rfl⟩ := hq.resolve_left (fun h => c20 h.1)
    dsimp only [List.nil_append]
    refine f_seq fun K5 kh5 => ?_
    refine f_region ?_
    refine f_stepP rfl rfl rfl (o_move rfl) ?_
    refine f_stepP rfl rfl rfl (o_assign rfl) ?_
    refine f_stepP rfl rfl rfl (o_assign rfl) ?_
    refine f_stepP rfl rfl rfl (o_assign rfl) ?_
    refine f_stepP rfl rfl rfl (o_assign rfl) ?_
    refine f_done ?_
    refine f_tn (kh5 _ _ ?_)
    clear kh5
    refine f_ret ?_
    refine f_tr ?_
    exact f_fin4 [] Try.results10 rfl rfl rfl rfl Sub.nil ⟨rfl, by rw [if_neg (by rw [← he]; exact h0), ← he]⟩
  · skip
    obtain ⟨rfl, h0, bs, m, rfl, rfl, hS⟩ := hq.resolve_right (fun h => c20 h.1)
    dsimp only [List.cons_append, List.nil_append]
    obtain ⟨hg, hrt⟩ := lcount_ok (hrE0 h0)
    obtain ⟨n, rfl⟩ : ∃ n : Nat, N = (n : Int) := ⟨N.toNat, by have := gcheck_zero hg; omega⟩
    rw [Int.toNat_natCast] at hS
    have hO := lok_begin hg hrt
    refine f_skip ?_
    refine f_tn (kh3 _ _ ?_)
    clear kh3
    refine f_seq fun K6 kh6 => ?_
    refine f_region ?_
    refine f_stepP rfl rfl rfl (o_move rfl) ?_
    refine f_stepP rfl rfl rfl (o_move rfl) ?_
    refine f_step rfl rfl rfl (o_call Try.call19 rfl (fun w_ hp_ => (by obtain ⟨Al, cl, bo, bz, vs, hs⟩ := hS.sees hp_; exact next_spec n _ L (sizesL L) bs Al cl bo bz vs bd w_ hs hO)) ?_)
    rintro _ _ ⟨rfl, rfl⟩
    dsimp only [List.cons_append, List.nil_append]
    refine f_stepP rfl rfl rfl (o_move rfl) ?_
    refine f_stepP rfl rfl rfl (o_extract rfl rfl) ?_
    refine f_stepP rfl rfl rfl (o_extract rfl rfl) ?_
    refine f_step rfl rfl rfl (o_alloc Try.zeroValue57 rfl fun b11 => ?_)
    refine f_step0 rfl rfl (o_storeA Try.sizeOf57 rfl rfl rfl rfl (by first | exact Nat.le_of_ble_eq_true rfl | (simp; done) | (simp; omega)) (mvCs (mvR n l L bd)) rfl ?_)
    refine f_stepP rfl rfl rfl (o_assign rfl) ?_
    refine f_done ?_
    refine f_tn (kh6 _ _ ?_)
    clear kh6
    refine f_seq fun K7 kh7 => ?_
    refine f_regionH [[(b11, blk (mvCs (mvR n l L bd)) 57)]] rfl ?_
    refine f_take 0 rfl (by decide +kernel) rfl rfl rfl (by repeat (first | exact Sub.nil | refine Sub.pick ?_ | refine Sub.castO rfl ?_ | refine Sub.skip ?_)) (o_field fa57_0 rfl) ?_
    refine f_take 1 rfl (by decide +kernel) rfl rfl rfl (by repeat (first | exact Sub.nil | refine Sub.pick ?_ | refine Sub.castO rfl ?_ | refine Sub.skip ?_)) (o_load Try.isAgg3 rfl (rdA rfl)) ?_
    refine f_take 2 rfl (by decide +kernel) rfl rfl rfl (by repeat (first | exact Sub.nil | refine Sub.pick ?_ | refine Sub.castO rfl ?_ | refine Sub.skip ?_)) (o_field fa57_1 rfl) ?_
    refine f_take 3 rfl (by decide +kernel) rfl rfl rfl (by repeat (first | exact Sub.nil | refine Sub.pick ?_ | refine Sub.castO rfl ?_ | refine Sub.skip ?_)) (o_load Try.isAgg3 rfl (rdA rfl)) ?_
    refine f_take 4 rfl (by decide +kernel) rfl rfl rfl (by repeat (first | exact Sub.nil | refine Sub.pick ?_ | refine Sub.castO rfl ?_ | refine Sub.skip ?_)) (o_move rfl) ?_
    refine f_only 5 rfl (by decide +kernel) rfl rfl rfl ((o_assign rfl).does ⟨(by repeat (first | exact Sub.nil | refine Sub.pick ?_ | refine Sub.castO rfl ?_ | refine Sub.skip ?_)), ?_⟩)
    refine f_only 6 rfl (by decide +kernel) rfl rfl rfl ((o_assign rfl).does ⟨(by repeat (first | exact Sub.nil | refine Sub.pick ?_ | refine Sub.castO rfl ?_ | refine Sub.skip ?_)), ?_⟩)
    refine f_only 7 rfl (by decide +kernel) rfl rfl rfl ((o_assign rfl).does ⟨(by repeat (first | exact Sub.nil | refine Sub.pick ?_ | refine Sub.castO rfl ?_ | refine Sub.skip ?_)), ?_⟩)
    refine f_only 8 rfl (by decide +kernel) rfl rfl rfl ((o_assign rfl).does ⟨(by repeat (first | exact Sub.nil | refine Sub.pick ?_ | refine Sub.castO rfl ?_ | refine Sub.skip ?_)), ?_⟩)
    refine f_over (by decide +kernel) ?_
    refine f_tn (kh7 _ _ ?_)
    clear kh7
    refine f_ret ?_
    exact f_fin4 [] Try.results10 rfl rfl rfl rfl Sub.nil ⟨rfl, by rw [if_pos h0, Int.toNat_natCast]; rfl⟩

end Go.Proofs.Ytagidegklmgilaa
