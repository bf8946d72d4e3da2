/- local.Gain, local.Improve. -/
import Derived.Test.YtagidegklmgilaaFLoc3
namespace Go.Proofs.Ytagidegklmgilaa
open Go Go.RowKit Fly
set_option linter.unusedVariables false
set_option linter.unusedSimpArgs false


theorem Sub.opn {m : Seg} {segs s1 out : List Seg} [p : Pick segs m s1] (h : m.Perm out.flatten) : Fly.Sub segs out := by
  refine ⟨s1.flatten, p.perm.trans (h.append_right _)⟩
theorem rdM {S0 : Nat → Prop} {w0 : World} {segs out ls : List Seg} {m : Seg} {b i : Nat} {cs : List Value} {T : TypeId} {v : Value} (hsm : m.Perm ls.flatten) [pk : Pick segs m out] (hin : (b, blk cs T) ∈ ls.flatten) (hi : cs[i]? = some v) : Rd S0 w0 segs b i v := fun w hp => by
  have hb := hp.own b _ (pk.perm.symm.subset (List.mem_append_left _ (hsm.symm.subset hin)))
  simp [World.cell?, hb, hi]
theorem mvRow_rng {n : Nat} {L S R : List Int} {bd : Int} {v : Nat} {b : Mv} (hv : v < n) (hb : b = (0, 0, 0) ∨ ∃ (y j : Nat) (g : Int), b = ((y : Int), (j : Int), g) ∧ y < n ∧ j < S.length) : ∀ j, j ≤ S.length → mvRow L S R bd v j b = (0, 0, 0) ∨ ∃ (y k : Nat) (g : Int), mvRow L S R bd v j b = ((y : Int), (k : Int), g) ∧ y < n ∧ k < S.length
  | 0, _ => hb
  | j + 1, h => by
    rw [mvRow_next]
    unfold mvUp
    split
    · exact .inr ⟨v, j, _, rfl, hv, by omega⟩
    · exact mvRow_rng hv hb j (by omega)
theorem mvTo_rng {n : Nat} {L S : List Int} {rows : Nat → List Int} {bd : Int} : ∀ k, k ≤ n → mvTo L S rows bd k = (0, 0, 0) ∨ ∃ (y j : Nat) (g : Int), mvTo L S rows bd k = ((y : Int), (j : Int), g) ∧ y < n ∧ j < S.length
  | 0, _ => .inl rfl
  | k + 1, h => by
    rw [mvTo_next]
    exact mvRow_rng (by omega) (mvTo_rng k (by omega)) _ (Nat.le_refl _)
abbrev LSt := List Int × List Int
def mvOf (n : Nat) (rows : Nat → List Int) (bd : Int) (s : LSt) : Mv := mvTo s.1 s.2 rows bd n
def mvDo (L : List Int) (v : Nat) (j : Int) : LSt := (tdy (L.set v j), szs (sns (L.set v j)).length (tdy (L.set v j)))
/-- So many moves, as long as one is open; and how many were made. -/
def impGo (n : Nat) (rows : Nat → List Int) (bd : Int) : Nat → LSt → LSt × Nat
  | 0, s => (s, 0)
  | k + 1, s => if 0 < (mvOf n rows bd s).2.2 then ((impGo n rows bd k (mvDo s.1 (mvOf n rows bd s).1.toNat (mvOf n rows bd s).2.1)).1, (impGo n rows bd k (mvDo s.1 (mvOf n rows bd s).1.toNat (mvOf n rows bd s).2.1)).2 + 1) else (s, 0)
def impR (N : Int) (l : List Arc) (L : List Int) (bd most : Int) : List Int × Int × Int :=
  if readyE N l L bd ≠ 0 then ([], 0, readyE N l L bd) else if most < 0 ∨ 16384 < most then ([], 0, 1) else
    ((impGo N.toNat (fun v => nbrs (v : Int) l) bd most.toNat (L, sizesL L)).1.1, ((impGo N.toNat (fun v => nbrs (v : Int) l) bd most.toNat (L, sizesL L)).2 : Int), 0)

set_option maxRecDepth 100000 in
set_option maxHeartbeats 4000000 in
theorem Gain_spec (N : Int) (A B : Option Addr) (l : List Arc) (cap : Nat) (L : List Int) (cb : Nat) (v j : Int) (w : World) (hr : Ro (Fr w []) w A (l.flatMap arcCs)) (hl : l.length ≤ 9223372036854775807) (hN : I64 N) (hok : ∀ x ∈ l, ArcOk x) (hL : Ro (Fr w []) w B (ints L)) (hm : L.length ≤ 9223372036854775807) :
    Meets Try.prog 12 [.agg #[.int .i64 N, .slice A l.length cap], .slice B L.length cb, .int .i64 v, .int .i64 j] w [] (fun u own' => u = .tuple #[.int .i64 (gainR N l L v j).1, .int .i64 (gainR N l L v j).2] ∧ own' = []) := by
  refine f_enter Try.func12 rfl Try.ntmps12 rfl Owns.nil ?_
  refine f_seq fun K1 kh1 => ?_
  refine f_region ?_
  refine f_step rfl rfl rfl (o_box rfl rfl fun b4 => ?_)
  refine f_stepP rfl rfl rfl (o_assign rfl) ?_
  refine f_stepP rfl rfl rfl (o_assign rfl) ?_
  refine f_done ?_
  refine f_tn (kh1 _ _ ?_)
  clear kh1
  refine f_seq fun K2 kh2 => ?_
  refine f_seq fun K3 kh3 => ?_
  refine f_region ?_
  refine f_stepP rfl rfl rfl (o_loadA (vs := [_, _]) Try.isAgg24 Try.sizeOf24 rfl rfl ⟨(rdA rfl), (rdA rfl), trivial⟩) ?_
  refine f_stepP rfl rfl rfl (o_move rfl) ?_
  refine f_step rfl rfl rfl (o_call Try.call8 rfl (fun w_ hp_ => Count_spec N A B l cap L cb w_ (hr.up0 hp_) hl hN hok (hL.up0 hp_) hm) ?_)
  rintro _ _ ⟨rfl, rfl⟩
  dsimp only [List.cons_append, List.nil_append]
  refine f_stepP rfl rfl rfl (o_move rfl) ?_
  refine f_stepP rfl rfl rfl (o_extract rfl rfl) ?_
  refine f_stepP rfl rfl rfl (o_extract rfl rfl) ?_
  refine f_stepP rfl rfl rfl (o_assign rfl) ?_
  refine f_stepP rfl rfl rfl (o_assign rfl) ?_
  refine f_done ?_
  refine f_tn (kh3 _ _ ?_)
  clear kh3
  refine f_seq fun K4 kh4 => ?_
  refine f_region ?_
  refine f_stepP rfl rfl rfl (o_move rfl) ?_
  refine f_stepP rfl rfl rfl (o_neq rfl rfl) ?_
  refine f_done ?_
  refine f_tn (kh4 _ _ ?_)
  clear kh4
  refine f_cond rfl (fun c21 => ?_) (fun c21 => ?_)
  · skip
    refine f_seq fun K5 kh5 => ?_
    refine f_region ?_
    refine f_stepP rfl rfl rfl (o_move rfl) ?_
    refine f_stepP rfl rfl rfl (o_assign rfl) ?_
    refine f_stepP rfl rfl rfl (o_assign rfl) ?_
    refine f_done ?_
    refine f_tn (kh5 _ _ ?_)
    clear kh5
    refine f_ret ?_
    refine f_tr ?_
    have e : gainR N l L v j = (0, (lcount N l L).2) := if_pos c21
    exact f_fin2 [] Try.results12 rfl rfl Sub.nil ⟨by rw [e], rfl⟩
  · skip
    have hlc : (lcount N l L).2 = 0 := by simpa using c21
    obtain ⟨hg, hrt⟩ := lcount_ok hlc
    obtain ⟨n, rfl⟩ : ∃ n : Nat, N = (n : Int) := ⟨N.toNat, by have := gcheck_zero hg; omega⟩
    have hO := lok_begin hg hrt
    have hn1 := hO.n1
    obtain ⟨hLn, _, hsz, hsz1⟩ := sizesL_len hrt hn1.1
    refine f_skip ?_
    refine f_tn (kh2 _ _ ?_)
    clear kh2
    refine f_seq fun K6 kh6 => ?_
    refine f_region ?_
    refine f_stepP rfl rfl rfl (o_loadA (vs := [_, _]) Try.isAgg24 Try.sizeOf24 rfl rfl ⟨(rdA rfl), (rdA rfl), trivial⟩) ?_
    refine f_stepP rfl rfl rfl (o_move rfl) ?_
    refine f_step rfl rfl rfl (o_call Try.call21 rfl (fun w_ hp_ => begin_spec n A B l cap L cb w_ (hr.up0 hp_) hok hg (hL.up0 hp_) hrt) ?_)
    rintro _ _ ⟨bs, sm, rfl, rfl, hS⟩
    have hS0 := hS
    obtain ⟨Al, cl, ml, bo, vs, ms, bz, hsm, hlo, hrw⟩ := hS0
    dsimp only [List.cons_append, List.nil_append]
    refine f_stepP rfl rfl rfl (o_assign rfl) ?_
    refine f_done ?_
    refine f_tn (kh6 _ _ ?_)
    clear kh6
    refine f_seq fun K7 kh7 => ?_
    refine f_seq fun K8 kh8 => ?_
    refine f_region ?_
    refine f_stepP rfl rfl rfl (o_move rfl) ?_
    refine f_stepP rfl rfl rfl (o_lss rfl rfl) ?_
    refine f_stepP rfl rfl rfl (o_move rfl) ?_
    refine f_splitL 28 rfl (fun g28 => ?_) (fun g28 => ?_)
    · skip
      refine f_stepN rfl rfl rfl rfl rfl rfl ?_
      refine f_stepN rfl rfl rfl rfl rfl rfl ?_
      refine f_stepN rfl rfl rfl rfl rfl rfl ?_
      refine f_stepN rfl rfl rfl rfl rfl rfl ?_
      refine f_stepP rfl rfl rfl (o_pickT rfl rfl) ?_
      refine f_stepP rfl rfl rfl (o_move rfl) ?_
      refine f_stepN rfl rfl rfl rfl rfl rfl ?_
      refine f_stepN rfl rfl rfl rfl rfl rfl ?_
      refine f_stepP rfl rfl rfl (o_pickT rfl rfl) ?_
      refine f_stepP rfl rfl rfl (o_move rfl) ?_
      refine f_stepN rfl rfl rfl rfl rfl rfl ?_
      refine f_stepN rfl rfl rfl rfl rfl rfl ?_
      refine f_stepN rfl rfl rfl rfl rfl rfl ?_
      refine f_stepN rfl rfl rfl rfl rfl rfl ?_
      refine f_stepN rfl rfl rfl rfl rfl rfl ?_
      refine f_stepN rfl rfl rfl rfl rfl rfl ?_
      refine f_stepN rfl rfl rfl rfl rfl rfl ?_
      refine f_stepP rfl rfl rfl (o_pickT rfl rfl) ?_
      refine f_done ?_
      refine f_tn (kh8 _ _ ?_)
      clear kh8
      refine f_condT rfl ?_
      refine f_seq fun K9 kh9 => ?_
      refine f_region ?_
      refine f_stepP rfl rfl rfl (o_assign rfl) ?_
      refine f_stepP rfl rfl rfl (o_assign rfl) ?_
      refine f_done ?_
      refine f_tn (kh9 _ _ ?_)
      clear kh9
      refine f_ret ?_
      refine f_tr ?_
      have e : gainR (n : Int) l L v j = (0, 5) := by rw [gainR, if_neg c21, if_pos (by omega)]
      exact f_fin2 [] Try.results12 rfl rfl Sub.nil ⟨by rw [e], rfl⟩
    · skip
      refine f_stepPY rfl rfl rfl rfl rfl (o_move rfl) ?_
      refine f_stepPY rfl rfl rfl rfl rfl (o_field fa24_0 rfl) ?_
      refine f_stepPY rfl rfl rfl rfl rfl (o_load Try.isAgg3 rfl (rdA rfl)) ?_
      refine f_stepPY rfl rfl rfl rfl rfl (o_geq rfl rfl) ?_
      refine f_stepP rfl rfl rfl (o_pickF rfl rfl) ?_
      refine f_stepP rfl rfl rfl (o_move rfl) ?_
      refine f_splitL 34 rfl (fun g34 => ?_) (fun g34 => ?_)
      · skip
        refine f_stepN rfl rfl rfl rfl rfl rfl ?_
        refine f_stepN rfl rfl rfl rfl rfl rfl ?_
        refine f_stepP rfl rfl rfl (o_pickT rfl rfl) ?_
        refine f_stepP rfl rfl rfl (o_move rfl) ?_
        refine f_stepN rfl rfl rfl rfl rfl rfl ?_
        refine f_stepN rfl rfl rfl rfl rfl rfl ?_
        refine f_stepN rfl rfl rfl rfl rfl rfl ?_
        refine f_stepN rfl rfl rfl rfl rfl rfl ?_
        refine f_stepN rfl rfl rfl rfl rfl rfl ?_
        refine f_stepN rfl rfl rfl rfl rfl rfl ?_
        refine f_stepN rfl rfl rfl rfl rfl rfl ?_
        refine f_stepP rfl rfl rfl (o_pickT rfl rfl) ?_
        refine f_done ?_
        refine f_tn (kh8 _ _ ?_)
        clear kh8
        refine f_condT rfl ?_
        refine f_seq fun K10 kh10 => ?_
        refine f_region ?_
        refine f_stepP rfl rfl rfl (o_assign rfl) ?_
        refine f_stepP rfl rfl rfl (o_assign rfl) ?_
        refine f_done ?_
        refine f_tn (kh10 _ _ ?_)
        clear kh10
        refine f_ret ?_
        refine f_tr ?_
        have e : gainR (n : Int) l L v j = (0, 5) := by rw [gainR, if_neg c21, if_pos (by omega)]
        exact f_fin2 [] Try.results12 rfl rfl Sub.nil ⟨by rw [e], rfl⟩
      · skip
        refine f_stepPY rfl rfl rfl rfl rfl (o_move rfl) ?_
        refine f_stepPY rfl rfl rfl rfl rfl (o_lss rfl rfl) ?_
        refine f_stepP rfl rfl rfl (o_pickF rfl rfl) ?_
        refine f_stepP rfl rfl rfl (o_move rfl) ?_
        refine f_splitL 38 rfl (fun g38 => ?_) (fun g38 => ?_)
        · skip
          refine f_stepN rfl rfl rfl rfl rfl rfl ?_
          refine f_stepN rfl rfl rfl rfl rfl rfl ?_
          refine f_stepN rfl rfl rfl rfl rfl rfl ?_
          refine f_stepN rfl rfl rfl rfl rfl rfl ?_
          refine f_stepN rfl rfl rfl rfl rfl rfl ?_
          refine f_stepN rfl rfl rfl rfl rfl rfl ?_
          refine f_stepN rfl rfl rfl rfl rfl rfl ?_
          refine f_stepP rfl rfl rfl (o_pickT rfl rfl) ?_
          refine f_done ?_
          refine f_tn (kh8 _ _ ?_)
          clear kh8
          refine f_condT rfl ?_
          refine f_seq fun K11 kh11 => ?_
          refine f_region ?_
          refine f_stepP rfl rfl rfl (o_assign rfl) ?_
          refine f_stepP rfl rfl rfl (o_assign rfl) ?_
          refine f_done ?_
          refine f_tn (kh11 _ _ ?_)
          clear kh11
          refine f_ret ?_
          refine f_tr ?_
          have e : gainR (n : Int) l L v j = (0, 5) := by rw [gainR, if_neg c21, if_pos (by omega)]
          exact f_fin2 [] Try.results12 rfl rfl Sub.nil ⟨by rw [e], rfl⟩
        · skip
          refine f_stepPY rfl rfl rfl rfl rfl (o_move rfl) ?_
          refine f_stepPY rfl rfl rfl rfl rfl (o_move rfl) ?_
          refine f_stepPY rfl rfl rfl rfl rfl (o_nil rfl) ?_
          refine f_stepPY rfl rfl rfl rfl rfl (o_field fa63_2 rfl) ?_
          refine f_stepPY rfl rfl rfl rfl rfl (o_load Try.isAgg25 rfl (rdM hsm (cs := [.slice Al L.length cl, .slice (some ⟨bo, 0, none⟩) n n, .slice (some ⟨bz, 0, none⟩) (sizesL L).length (sizesL L).length]) (T := 63) (by simp) rfl)) ?_
          refine f_stepPY rfl rfl rfl rfl rfl (o_len sl25 rfl) ?_
          refine f_stepPY rfl rfl rfl rfl rfl (o_geq rfl rfl) ?_
          refine f_stepP rfl rfl rfl (o_pickF rfl rfl) ?_
          refine f_done ?_
          refine f_tn (kh8 _ _ ?_)
          clear kh8
          refine f_cond rfl (fun c46 => ?_) (fun c46 => ?_)
          · skip
            refine f_seq fun K12 kh12 => ?_
            refine f_region ?_
            refine f_stepP rfl rfl rfl (o_assign rfl) ?_
            refine f_stepP rfl rfl rfl (o_assign rfl) ?_
            refine f_done ?_
            refine f_tn (kh12 _ _ ?_)
            clear kh12
            refine f_ret ?_
            refine f_tr ?_
            have e : gainR (n : Int) l L v j = (0, 5) := by rw [gainR, if_neg c21, if_pos (by omega)]
            exact f_fin2 [] Try.results12 rfl rfl Sub.nil ⟨by rw [e], rfl⟩
          · skip
            obtain ⟨y, rfl⟩ : ∃ y : Nat, v = (y : Int) := ⟨v.toNat, by omega⟩
            have hyn : y < n := by omega
            obtain ⟨bb, ob, rfl, hSb, hcb⟩ := hL (fun e => by have := ints_length L; rw [e] at this; simp at this; omega)
            have hn1' := ncnt_le L (nbrs (y : Int) l) j
            have hn2' := ncnt_le L (nbrs (y : Int) l) (lab L (y : Int))
            have hrl := hO.rlen y hyn
            refine f_skip ?_
            refine f_tn (kh7 _ _ ?_)
            clear kh7
            refine f_seq fun K13 kh13 => ?_
            refine f_region ?_
            refine f_stepP rfl rfl rfl (o_move rfl) ?_
            refine f_stepP rfl rfl rfl (o_move rfl) ?_
            refine f_step rfl rfl rfl (o_call Try.call22 rfl (fun w_ hp_ => (by obtain ⟨Al, cl, bo, bz, vs, hs⟩ := hS.sees hp_; exact around_spec n _ L (sizesL L) bs Al cl bo bz vs y w_ hs hO (by omega))) ?_)
            rintro _ _ ⟨bm, ents, c, rfl, rfl, hmap, hC⟩
            dsimp only [List.cons_append, List.nil_append]
            refine f_stepP rfl rfl rfl (o_assign rfl) ?_
            refine f_done ?_
            refine f_tn (kh13 _ _ ?_)
            clear kh13
            refine f_seq fun K14 kh14 => ?_
            refine f_regionT 10 rfl (by decide +kernel) ?_
            refine f_stillP rfl rfl rfl (o_move rfl) ?_
            refine f_stillP rfl rfl rfl (o_move rfl) ?_
            refine f_stillP rfl rfl rfl (o_lookup kt65 Try.zeroValue3 rfl rfl rfl (.int .i64 (ncnt L (nbrs (y : Int) l) j : Int)) (hC j)) ?_
            refine f_stillP rfl rfl rfl (o_move rfl) ?_
            refine f_stillP rfl rfl rfl (o_move rfl) ?_
            refine f_stillP rfl rfl rfl (o_move rfl) ?_
            refine f_stillP rfl rfl rfl (o_idx sl25 rfl rfl (ob + y) ⟨by omega, by omega, by first | omega | (simp; done) | (simp; omega)⟩) ?_
            refine f_stillP rfl rfl rfl (o_load Try.isAgg3 rfl (show Rd _ _ _ _ _ (.int .i64 (lab L (y : Int))) by rw [lab_at (by simp; omega)]; exact roOne (enc := (.int .i64 ·)) hSb hcb (by omega))) ?_
            refine f_stillP rfl rfl rfl (o_lookup kt65 Try.zeroValue3 rfl rfl rfl (.int .i64 (ncnt L (nbrs (y : Int) l) (lab L (y : Int)) : Int)) (hC _)) ?_
            refine f_stillP rfl rfl rfl (o_sub rfl rfl _ (Eq.trans (wrap_i64 (by omega)) (show _ = gn L (nbrs (y : Int) l) (lab L (y : Int)) j from rfl))) ?_
            refine f_stillD (f_tail ?_)
            refine f_stepP rfl rfl rfl (o_assign rfl) ?_
            refine f_stepP rfl rfl rfl (o_assign rfl) ?_
            refine f_done ?_
            refine f_tn (kh14 _ _ ?_)
            clear kh14
            refine f_ret ?_
            have e : gainR (n : Int) l L (y : Int) j = (gn L (nbrs (y : Int) l) (lab L (y : Int)) j, 0) := by rw [gainR, if_neg c21, if_neg (by omega)]
            exact f_fin2 [] Try.results12 rfl rfl Sub.nil ⟨by rw [e], rfl⟩

set_option maxRecDepth 100000 in
set_option maxHeartbeats 4000000 in
theorem Improve_spec (N : Int) (A B : Option Addr) (l : List Arc) (cap : Nat) (L : List Int) (cb : Nat) (bd most : Int) (w : World) (hr : Ro (Fr w []) w A (l.flatMap arcCs)) (hl : l.length ≤ 9223372036854775807) (hN : I64 N) (hok : ∀ x ∈ l, ArcOk x) (hL : Ro (Fr w []) w B (ints L)) (hm : L.length ≤ 9223372036854775807) :
    Meets Try.prog 9 [.agg #[.int .i64 N, .slice A l.length cap], .slice B L.length cb, .int .i64 bd, .int .i64 most] w []
      (fun u own' => ∃ s ms, u = .tuple #[s, .int .i64 (impR N l L bd most).2.1, .int .i64 (impR N l L bd most).2.2] ∧ own' = [ms] ∧ Own 3 1 s (impR N l L bd most).1.length (ints (impR N l L bd most).1) ms) := by
  have hrE0 : readyE N l L bd = 0 → (lcount N l L).2 = 0 := fun h => by
    unfold readyE at h
    by_cases h1 : (lcount N l L).2 ≠ 0
    · rw [if_pos h1] at h; exact absurd h h1
    · omega
  refine f_enter Try.func9 rfl Try.ntmps9 rfl Owns.nil ?_
  refine f_seq fun K1 kh1 => ?_
  refine f_region ?_
  refine f_step rfl rfl rfl (o_box rfl rfl fun b4 => ?_)
  refine f_stepP rfl rfl rfl (o_assign rfl) ?_
  refine f_stepP rfl rfl rfl (o_assign rfl) ?_
  refine f_stepP rfl rfl rfl (o_assign rfl) ?_
  refine f_done ?_
  refine f_tn (kh1 _ _ ?_)
  clear kh1
  refine f_seq fun K2 kh2 => ?_
  refine f_region ?_
  refine f_stepP rfl rfl rfl (o_loadA (vs := [_, _]) Try.isAgg24 Try.sizeOf24 rfl rfl ⟨(rdA rfl), (rdA rfl), trivial⟩) ?_
  refine f_stepP rfl rfl rfl (o_move rfl) ?_
  refine f_stepP rfl rfl rfl (o_move rfl) ?_
  refine f_step rfl rfl rfl (o_call Try.call18 rfl (fun w_ hp_ => ready_spec N A B l cap L cb bd w_ (hr.up0 hp_) hl hN hok (hL.up0 hp_) hm) ?_)
  intro v18 own18 hv
  obtain ⟨p18, e18, rfl, hq⟩ : ∃ p18 e18, v18 = .tuple #[p18, .int .i64 e18] ∧ ((e18 = 0 ∧ readyE N l L bd = 0 ∧ ∃ bs m, p18 = .pointer (some ⟨bs, 0, none⟩) ∧ own18 = [m] ∧ LRep N.toNat (fun v => nbrs (v : Int) l) L (sizesL L) bs m) ∨ (e18 ≠ 0 ∧ e18 = readyE N l L bd ∧ own18 = [])) := by
    by_cases h0 : readyE N l L bd = 0
    · rw [if_pos h0] at hv; obtain ⟨bs, m, rfl, h1, h2⟩ := hv; exact ⟨_, _, rfl, .inl ⟨rfl, h0, bs, m, rfl, h1, h2⟩⟩
    · rw [if_neg h0] at hv; obtain ⟨rfl, h1⟩ := hv; exact ⟨_, _, rfl, .inr ⟨h0, rfl, h1⟩⟩
  rw [show own18 = [] ++ own18 from rfl]
  dsimp only [List.cons_append, List.nil_append]
  refine f_stepP rfl rfl rfl (o_move rfl) ?_
  refine f_stepP rfl rfl rfl (o_extract rfl rfl) ?_
  refine f_stepP rfl rfl rfl (o_extract rfl rfl) ?_
  refine f_stepP rfl rfl rfl (o_assign rfl) ?_
  refine f_stepP rfl rfl rfl (o_assign rfl) ?_
  refine f_done ?_
  refine f_tn (kh2 _ _ ?_)
  clear kh2
  refine f_seq fun K3 kh3 => ?_
  refine f_seq fun K4 kh4 => ?_
  refine f_region ?_
  refine f_stepP rfl rfl rfl (o_move rfl) ?_
  refine f_stepP rfl rfl rfl (o_neq rfl rfl) ?_
  refine f_done ?_
  refine f_tn (kh4 _ _ ?_)
  clear kh4
  refine f_cond rfl (fun c22 => ?_) (fun c22 => ?_)
  · skip
    obtain ⟨h0, he, rfl⟩ := hq.resolve_left (fun h => c22 h.1)
    dsimp only [List.nil_append]
    refine f_seq fun K5 kh5 => ?_
    refine f_region ?_
    refine f_stepP rfl rfl rfl (o_move rfl) ?_
    refine f_stepP rfl rfl rfl (o_assign rfl) ?_
    refine f_stepP rfl rfl rfl (o_assign rfl) ?_
    refine f_stepP rfl rfl rfl (o_assign rfl) ?_
    refine f_done ?_
    refine f_tn (kh5 _ _ ?_)
    clear kh5
    refine f_ret ?_
    refine f_tr ?_
    have e : impR N l L bd most = ([], 0, readyE N l L bd) := if_pos (by rw [← he]; exact h0)
    exact f_fin3 [[]] Try.results9 rfl rfl rfl Sub.empty ⟨_, _, by rw [e, ← he], rfl, by rw [e]; exact Own.nil _ _⟩
  · skip
    obtain ⟨rfl, h0, bs, m, rfl, rfl, hS⟩ := hq.resolve_right (fun h => c22 h.1)
    dsimp only [List.cons_append, List.nil_append]
    obtain ⟨hg, hrt⟩ := lcount_ok (hrE0 h0)
    obtain ⟨n, rfl⟩ : ∃ n : Nat, N = (n : Int) := ⟨N.toNat, by have := gcheck_zero hg; omega⟩
    rw [Int.toNat_natCast] at hS
    have hO := lok_begin hg hrt
    have hR : ∀ q, impR (n : Int) l L bd q = if q < 0 ∨ 16384 < q then ([], 0, 1) else ((impGo n (fun v => nbrs (v : Int) l) bd q.toNat (L, sizesL L)).1.1, ((impGo n (fun v => nbrs (v : Int) l) bd q.toNat (L, sizesL L)).2 : Int), 0) := fun q => by rw [impR, if_neg (by rw [h0]; simp), Int.toNat_natCast]
    refine f_skip ?_
    refine f_tn (kh3 _ _ ?_)
    clear kh3
    refine f_seq fun K6 kh6 => ?_
    refine f_seq fun K7 kh7 => ?_
    refine f_region ?_
    refine f_stepP rfl rfl rfl (o_move rfl) ?_
    refine f_stepP rfl rfl rfl (o_lss rfl rfl) ?_
    refine f_stepP rfl rfl rfl (o_move rfl) ?_
    refine f_splitL 26 rfl (fun g26 => ?_) (fun g26 => ?_)
    · skip
      refine f_stepN rfl rfl rfl rfl rfl rfl ?_
      refine f_stepN rfl rfl rfl rfl rfl rfl ?_
      refine f_stepP rfl rfl rfl (o_pickT rfl rfl) ?_
      refine f_done ?_
      refine f_tn (kh7 _ _ ?_)
      clear kh7
      refine f_condT rfl ?_
      refine f_seq fun K8 kh8 => ?_
      refine f_region ?_
      refine f_stepP rfl rfl rfl (o_assign rfl) ?_
      refine f_stepP rfl rfl rfl (o_assign rfl) ?_
      refine f_stepP rfl rfl rfl (o_assign rfl) ?_
      refine f_done ?_
      refine f_tn (kh8 _ _ ?_)
      clear kh8
      refine f_ret ?_
      refine f_tr ?_
      have e := hR most
      rw [if_pos (.inl g26)] at e
      exact f_fin3 [[]] Try.results9 rfl rfl rfl Sub.empty ⟨_, _, by rw [e], rfl, by rw [e]; exact Own.nil _ _⟩
    · skip
      refine f_stepPY rfl rfl rfl rfl rfl (o_move rfl) ?_
      refine f_stepPY rfl rfl rfl rfl rfl (o_gtr rfl rfl) ?_
      refine f_stepP rfl rfl rfl (o_pickF rfl rfl) ?_
      refine f_done ?_
      refine f_tn (kh7 _ _ ?_)
      clear kh7
      refine f_cond rfl (fun c29 => ?_) (fun c29 => ?_)
      · skip
        refine f_seq fun K9 kh9 => ?_
        refine f_region ?_
        refine f_stepP rfl rfl rfl (o_assign rfl) ?_
        refine f_stepP rfl rfl rfl (o_assign rfl) ?_
        refine f_stepP rfl rfl rfl (o_assign rfl) ?_
        refine f_done ?_
        refine f_tn (kh9 _ _ ?_)
        clear kh9
        refine f_ret ?_
        refine f_tr ?_
        have e := hR most
        rw [if_pos (.inr (by omega))] at e
        exact f_fin3 [[]] Try.results9 rfl rfl rfl Sub.empty ⟨_, _, by rw [e], rfl, by rw [e]; exact Own.nil _ _⟩
      · skip
        refine f_skip ?_
        refine f_tn (kh6 _ _ ?_)
        clear kh6
        refine f_seq fun K10 kh10 => ?_
        refine f_block ?_
        refine f_loop (α := List Int × List Int × Nat × Seg) [2, 3, 11] (fun ⟨L1, S1, mv, m1⟩ => [(9, .int .i64 (mv : Int))]) (fun ⟨L1, S1, mv, m1⟩ => [m1]) (fun ⟨L1, S1, mv, m1⟩ => (mv : Int) ≤ most ∧ LRep n (fun v => nbrs (v : Int) l) L1 S1 bs m1 ∧ LOk n (fun v => nbrs (v : Int) l) L1 S1 ∧ impGo n (fun v => nbrs (v : Int) l) bd most.toNat (L, sizesL L) = ((impGo n (fun v => nbrs (v : Int) l) bd (most.toNat - mv) (L1, S1)).1, mv + (impGo n (fun v => nbrs (v : Int) l) bd (most.toNat - mv) (L1, S1)).2)) (fun ⟨L1, S1, mv, m1⟩ => most.toNat - mv) (L, sizesL L, 0, m) ?_ ?_ ?_ ?_
        · exact (by repeat (first | exact trivial | refine ⟨rfl, ?_⟩))
        · repeat (first | exact Sub.nil | refine Sub.pick ?_ | refine Sub.castO rfl ?_ | refine Sub.skip ?_)
        · exact ⟨by omega, hS, hO, by rw [Nat.sub_zero, Nat.zero_add]⟩
        · rintro ⟨L1, S1, mv, m1⟩ ⟨hmm, hS1, hO1, hgo⟩
          refine f_seq fun K11 kh11 => ?_
          refine f_seq fun K12 kh12 => ?_
          refine f_region ?_
          refine f_stepP rfl rfl rfl (o_move rfl) ?_
          refine f_stepP rfl rfl rfl (o_move rfl) ?_
          refine f_stepP rfl rfl rfl (o_lss rfl rfl) ?_
          refine f_done ?_
          refine f_tn (kh12 _ _ ?_)
          clear kh12
          refine f_cond rfl (fun c32 => ?_) (fun c32 => ?_)
          · skip
            refine f_skip ?_
            refine f_tn (kh11 _ _ ?_)
            clear kh11
            refine f_block ?_
            refine f_seq fun K13 kh13 => ?_
            refine f_region ?_
            refine f_stepP rfl rfl rfl (o_move rfl) ?_
            refine f_stepP rfl rfl rfl (o_move rfl) ?_
            refine f_step rfl rfl rfl (o_call Try.call19 rfl (fun w_ hp_ => (by obtain ⟨Al, cl, bo, bz, vs, hs⟩ := hS1.sees hp_; exact next_spec n _ L1 S1 bs Al cl bo bz vs bd w_ hs hO1)) ?_)
            rintro _ _ ⟨rfl, rfl⟩
            dsimp only [List.cons_append, List.nil_append]
            refine f_stepP rfl rfl rfl (o_move rfl) ?_
            refine f_stepP rfl rfl rfl (o_extract rfl rfl) ?_
            refine f_stepP rfl rfl rfl (o_extract rfl rfl) ?_
            refine f_step rfl rfl rfl (o_alloc Try.zeroValue57 rfl fun b12 => ?_)
            refine f_step0 rfl rfl (o_storeA Try.sizeOf57 rfl rfl rfl rfl (by first | exact Nat.le_of_ble_eq_true rfl | (simp; done) | (simp; omega)) (mvCs (mvTo L1 S1 (fun v => nbrs (v : Int) l) bd n)) rfl ?_)
            refine f_stepP rfl rfl rfl (o_assign rfl) ?_
            refine f_done ?_
            refine f_tn (kh13 _ _ ?_)
            clear kh13
            refine f_seq fun K14 kh14 => ?_
            refine f_seq fun K15 kh15 => ?_
            refine f_region ?_
            refine f_stepP rfl rfl rfl (o_move rfl) ?_
            refine f_stepP rfl rfl rfl (o_not rfl) ?_
            refine f_done ?_
            refine f_tn (kh15 _ _ ?_)
            clear kh15
            refine f_condB rfl (fun c40 => ?_) (fun c40 => ?_)
            · skip
              have hnone : ¬ 0 < (mvTo L1 S1 (fun v => nbrs (v : Int) l) bd n).2.2 := by simpa using c40
              have hfin : impGo n (fun v => nbrs (v : Int) l) bd (most.toNat - mv) (L1, S1) = ((L1, S1), 0) := by
                obtain ⟨k, hk⟩ : ∃ k, most.toNat - mv = k + 1 := ⟨most.toNat - mv - 1, by omega⟩
                have e : mvOf n (fun v => nbrs (v : Int) l) bd (L1, S1) = mvTo L1 S1 (fun v => nbrs (v : Int) l) bd n := rfl
                rw [hk, impGo, e, if_neg hnone]
              rw [hfin] at hgo
              obtain ⟨Al, cl, ml, bo, vs, ms, bz, hsm, hlo, hrw⟩ := hS1
              refine f_exit ?_
              refine f_te ?_
              clear kh14
              refine f_bo rfl ?_
              refine f_te ?_
              refine f_be ?_
              refine f_tn (kh10 _ _ ?_)
              clear kh10
              refine f_seq fun K16 kh16 => ?_
              refine f_subC (Sub.opn (out := lsegs bs Al cl L1 ml bo n vs ms.flatten bz S1) hsm) ?_
              unfold lsegs
              refine f_region ?_
              refine f_stepP rfl rfl rfl (o_move rfl) ?_
              refine f_stepP rfl rfl rfl (o_nil rfl) ?_
              refine f_stepP rfl rfl rfl (o_field fa63_0 rfl) ?_
              refine f_stepP rfl rfl rfl (o_load Try.isAgg25 rfl (rdA rfl)) ?_
              refine f_stepP rfl rfl rfl (o_move rfl) ?_
              refine f_stepP rfl rfl rfl (o_assign rfl) ?_
              refine f_stepP rfl rfl rfl (o_assign rfl) ?_
              refine f_stepP rfl rfl rfl (o_assign rfl) ?_
              refine f_done ?_
              refine f_tn (kh16 _ _ ?_)
              clear kh16
              refine f_ret ?_
              have e := hR most
              rw [if_neg (by omega), hgo] at e
              exact f_fin3 [ml] Try.results9 rfl rfl rfl (by repeat (first | exact Sub.nil | refine Sub.pick ?_ | refine Sub.castO rfl ?_)) ⟨.slice Al L1.length cl, ml, by rw [e]; simp, rfl, by rw [e]; exact hlo⟩
            · skip
              have hsome : 0 < (mvTo L1 S1 (fun v => nbrs (v : Int) l) bd n).2.2 := by simpa using c40
              obtain ⟨y, j, g, hmv, hyn, hjn⟩ := (mvTo_rng (n := n) (L := L1) (S := S1) (rows := fun v => nbrs (v : Int) l) (bd := bd) n (Nat.le_refl _)).resolve_left (fun h => by rw [h] at hsome; simp at hsome)
              have hstep : impGo n (fun v => nbrs (v : Int) l) bd (most.toNat - mv) (L1, S1) = ((impGo n (fun v => nbrs (v : Int) l) bd (most.toNat - (mv + 1)) ((mvDo L1 y (j : Int)).1, (mvDo L1 y (j : Int)).2)).1, (impGo n (fun v => nbrs (v : Int) l) bd (most.toNat - (mv + 1)) ((mvDo L1 y (j : Int)).1, (mvDo L1 y (j : Int)).2)).2 + 1) := by
                obtain ⟨k, hk⟩ : ∃ k, most.toNat - mv = k + 1 := ⟨most.toNat - mv - 1, by omega⟩
                have e : mvOf n (fun v => nbrs (v : Int) l) bd (L1, S1) = ((y : Int), (j : Int), g) := hmv
                rw [hmv] at hsome
                rw [hk, impGo, e, if_pos hsome, show most.toNat - (mv + 1) = k by omega]; rfl
              rw [hstep] at hgo
              rw [hmv]
              refine f_skip ?_
              refine f_tn (kh14 _ _ ?_)
              clear kh14
              refine f_seq fun K17 kh17 => ?_
              refine f_region ?_
              refine f_stepP rfl rfl rfl (o_move rfl) ?_
              refine f_stepP rfl rfl rfl (o_loadA (vs := [_, _, _]) Try.isAgg57 Try.sizeOf57 rfl rfl ⟨(rdA rfl), (rdA rfl), (rdA rfl), trivial⟩) ?_
              refine f_step rfl rfl rfl (o_callM [m1] _ Try.call20 rfl (by repeat (first | exact Sub.refl | refine Sub.pick ?_)) (fun w_ hp_ => do_spec n _ L1 S1 bs m1 y j g w_ hS1 hO1 hyn hjn hp_.owns) ?_)
              rintro _ _ ⟨m2, rfl, hS2⟩
              dsimp only [List.cons_append, List.nil_append]
              refine f_done ?_
              refine f_tn (kh17 _ _ ?_)
              clear kh17
              refine f_region ?_
              refine f_stepP rfl rfl rfl (o_move rfl) ?_
              refine f_stepP rfl rfl rfl (o_add rfl rfl _ (wrap_i64 (by omega))) ?_
              refine f_stepP rfl rfl rfl (o_assign rfl) ?_
              refine f_done ?_
              refine f_bn ?_
              refine f_tn (f_again ((mvDo L1 y (j : Int)).1, (mvDo L1 y (j : Int)).2, mv + 1, m2) (by first | omega | (dsimp only; omega) | (simp; omega)) ⟨by omega, hS2, lok_do hO1 y (j : Int), by rw [hgo]; congr 1; omega⟩ ?_ ?_ ?_)
              · exact (by repeat (first | exact trivial | refine ⟨rfl, ?_⟩))
              · exact (by repeat (first | exact trivial | refine ⟨rfl, ?_⟩))
              · repeat (first | exact Sub.nil | refine Sub.pick ?_ | refine Sub.castO rfl ?_ | refine Sub.skip ?_)
          · skip
            have hfin : impGo n (fun v => nbrs (v : Int) l) bd (most.toNat - mv) (L1, S1) = ((L1, S1), 0) := by rw [show most.toNat - mv = 0 by omega]; rfl
            rw [hfin] at hgo
            obtain ⟨Al, cl, ml, bo, vs, ms, bz, hsm, hlo, hrw⟩ := hS1
            refine f_exit ?_
            refine f_te ?_
            clear kh11
            refine f_te ?_
            refine f_be ?_
            refine f_tn (kh10 _ _ ?_)
            clear kh10
            refine f_seq fun K18 kh18 => ?_
            refine f_subC (Sub.opn (out := lsegs bs Al cl L1 ml bo n vs ms.flatten bz S1) hsm) ?_
            unfold lsegs
            refine f_region ?_
            refine f_stepP rfl rfl rfl (o_move rfl) ?_
            refine f_stepP rfl rfl rfl (o_nil rfl) ?_
            refine f_stepP rfl rfl rfl (o_field fa63_0 rfl) ?_
            refine f_stepP rfl rfl rfl (o_load Try.isAgg25 rfl (rdA rfl)) ?_
            refine f_stepP rfl rfl rfl (o_move rfl) ?_
            refine f_stepP rfl rfl rfl (o_assign rfl) ?_
            refine f_stepP rfl rfl rfl (o_assign rfl) ?_
            refine f_stepP rfl rfl rfl (o_assign rfl) ?_
            refine f_done ?_
            refine f_tn (kh18 _ _ ?_)
            clear kh18
            refine f_ret ?_
            have e := hR most
            rw [if_neg (by omega), hgo] at e
            exact f_fin3 [ml] Try.results9 rfl rfl rfl (by repeat (first | exact Sub.nil | refine Sub.pick ?_ | refine Sub.castO rfl ?_)) ⟨.slice Al L1.length cl, ml, by rw [e]; simp, rfl, by rw [e]; exact hlo⟩

end Go.Proofs.Ytagidegklmgilaa
