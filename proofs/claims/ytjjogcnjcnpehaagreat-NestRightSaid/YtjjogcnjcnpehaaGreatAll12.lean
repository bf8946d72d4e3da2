import Derived.Test.YtjjogcnjcnpehaaGreatAll11
import Derived.Test.YtjjogcnjcnpehaaGreatAll6
import Derived.Test.YtjjogcnjcnpehaaGreatAll9
import Derived.Test.YtjjogcnjcnpehaaGreatAll10
import Derived.Test.YtjjogcnjcnpehaaGreatAll8
import Derived.Test.YtjjogcnjcnpehaaGreatFlyT
import Derived.Test.YtjjogcnjcnpehaaGreatAll4
import Derived.OrdersIn

/- local.ready, Gain, Next. -/
namespace Go.Proofs.YtjjogcnjcnpehaaGreat
open Go Go.RowKit Fly
set_option linter.unusedVariables false
set_option linter.unusedSimpArgs false
theorem roMem {S : Nat → Prop} {w0 w : World} {segs : List Seg} {b : Nat} {cs sp : List Value} {T : TypeId} (hm : (b, blk (cs ++ sp) T) ∈ segs.flatten) (hp : Hp S w0 segs.flatten w) : Ro (Fr w []) w (some ⟨b, 0, none⟩) cs := fun _ => by
  have hb := hp.own b _ hm
  refine ⟨b, 0, rfl, ⟨hp.key_lt hm, by simp⟩, fun j v hj => ?_⟩;have : (cs ++ sp)[j]? = some v := dP hj
  simp [World.cell?, hb, this]
theorem roOwnM {S : Nat → Prop} {w0 w : World} {segs : List Seg} {E len len' c : Nat} {A : Option Addr} {cs : List Value} {m : Seg} (ho : Own E 1 (.slice A len' c) len cs m) (hm : ∀ x ∈ m, x ∈ segs.flatten) (hp : Hp S w0 segs.flatten w) : Ro (Fr w []) w A cs := by
  intro hne
  have hl : 0 < len := by
    rcases Nat.eq_zero_or_pos len with h | h
    · subst h; have := ho.1; simp at this; exact absurd this hne
    · exact h
  obtain ⟨b, sp, rfl, rfl⟩ := ho.at_ hl
  exact roMem (sp := sp) (T := E) (hm _ (by simp)) hp hne
theorem LRep.sees {S0 : Nat → Prop} {w0 w : World} {segs out : List Seg} {n : Nat} {rows : Nat → List Int} {L S : List Int} {bs : Nat} {m : Seg} (h : LRep n rows L S bs m) (hp : Hp S0 w0 segs.flatten w) [pk : Pick segs m out] : ∃ Al cl bo bz vs, LSee n rows L S bs w Al cl bo bz vs := by
  obtain ⟨Al, cl, ml, bo, vs, ms, bz, hm, hlo, hrw⟩ := h
  have hin : ∀ x ∈ (kX bs Al cl L ml bo n vs ms.flatten bz S).flatten, x ∈ segs.flatten := fun x hx => pk.perm.symm.subset (List.mem_append_left _ (hm.symm.subset hx))
  refine ⟨Al, cl, bo, bz, vs, ?_, ?_, ?_, hrw.lv, fun v hv => ?_, ?_⟩
  · exact roMem (sp := []) (T := 114) (hin _ (by simp)) hp
  · exact roOwnM hlo (fun x hx => hin x (by simp [hx])) hp
  · exact roMem (sp := []) (T := 25) (hin _ (by simp)) hp
  · obtain ⟨A, c, h1, h2⟩ := hrw.own v hv
    refine ⟨A, _, h1, roOwnM h2 (fun x hx => hin x ?_) hp⟩;have : x ∈ ms.flatten := List.mem_flatten.2 ⟨_, List.getElem_mem _, hx⟩
    simp [this]
  · exact roMem (sp := []) (T := 3) (hin _ (by simp)) hp
theorem lB {n : Nat} {L : List Int} (hrt : cZ (n : Int) L = true) (hn : 1 ≤ n) : L.length = n ∧ (∀ x ∈ L, 0 ≤ x ∧ x < ((cF L).length : Int) ∧ x < (n : Int)) ∧ (cF L).length ≤ n ∧ 1 ≤ (cF L).length := by
  unfold cZ at hrt
  simp only [Bool.and_eq_true, decide_eq_true_eq] at hrt;have hLn : L.length = n := by omega
  have h0 : 0 < L.length := by omega
  have hp0 := rgo_pos hrt.1
  have hp1 := rgo_lt hrt.1
  have hx1 : eO L ≤ (n : Int) - 1 := lJ h0 fun x hx => by have := hp1 x hx; omega
  have hx0 : 0 ≤ eO L := Int.le_trans (hp0 L[0] (List.getElem_mem h0)) (gO (List.getElem_mem h0))
  have e : (cF L).length = (eO L + 1).toNat := eQ _ _
  refine ⟨hLn, fun x hx => ?_, by omega, by omega⟩;have := hp0 x hx
  have := gO hx
  omega
theorem nbrs_rng {n : Nat} {l : List Arc} (hg : (bG (n : Int) l).2 = 0) (v : Int) : (bV v l).length ≤ 8192 ∧ ∀ u ∈ bV v l, 0 ≤ u ∧ u < (n : Int) := by
  obtain ⟨_, _, hlen, hgd⟩ := bT hg
  refine ⟨?_, fun u hu => ?_⟩
  · unfold bV
    refine Nat.le_trans (cpt_len_le _) ?_;rw [f7];exact Nat.le_trans (lI v l) hlen
  · obtain ⟨x, hx, hux⟩ := kT.1 hu
    have := raw_good hgd x hx
    unfold nbr at hux
    split at hux
    · simp at hux
    · split at hux
      · simp at hux; omega
      · split at hux
        · simp at hux; omega
        · simp at hux
theorem szs_rng {M : Nat} {L : List Int} (h : L.length ≤ 1024) : ∀ x ∈ szs M L, 0 ≤ x ∧ x ≤ 1024 := fun x hx => by
  obtain ⟨j, _, rfl⟩ := List.mem_map.1 hx
  have := cnt_le L j
  omega
theorem lok_begin {n : Nat} {l : List Arc} {L : List Int} (hg : (bG (n : Int) l).2 = 0) (hrt : cZ (n : Int) L = true) : LOk n (fun v => bV (v : Int) l) L (cF L) := by
  obtain ⟨hn1, hn2, hlen, hgd⟩ := bT hg
  obtain ⟨h1, h2, h3, _⟩ := lB hrt (by omega)
  exact ⟨by omega, h1, fun x hx => ⟨(h2 x hx).1, (h2 x hx).2.1⟩, by omega, fun v _ => Nat.le_trans (nbrs_rng hg v).1 (by decide), fun v _ => (nbrs_rng hg v).2, szs_rng (by omega)⟩
theorem lok_do {n : Nat} {rows : Nat → List Int} {L S : List Int} (h : LOk n rows L S) (v : Nat) (j : Int) : LOk n rows (tdy (L.set v j)) (szs (sns (L.set v j)).length (tdy (L.set v j))) := by
  have hl : (L.set v j).length = n := by rw [List.length_set]; exact h.len
  have hs := sns_len (L := L.set v j) (k := (L.set v j).length) (Nat.le_refl _)
  rw [List.take_length] at hs;have := h.n1
  exact ⟨h.n1, by rw [eM]; exact hl, fun x hx => by rw [eQ]; exact tdy_rng x hx, by rw [eQ]; omega, h.rlen, h.rok, szs_rng (by rw [eM]; omega)⟩
theorem lcount_ok {N : Int} {l : List Arc} {L : List Int} (h : (d4 N l L).2 = 0) : (bG N l).2 = 0 ∧ cZ N L = true := by
  unfold d4 at h
  by_cases h1 : (bG N l).2 ≠ 0
  · rw [if_pos h1] at h; exact absurd h h1
  · by_cases h2 : cZ N L = false
    · rw [if_neg h1, if_pos h2] at h; simp at h
    · exact ⟨by omega, by simpa using h2⟩
/-- What is wrong with a question about moves. -/
def e6 (N : Int) (l : List Arc) (L : List Int) (bd : Int) : Int :=
  if (d4 N l L).2 ≠ 0 then (d4 N l L).2 else if bd < 1 ∨ 1024 < bd then 1 else if bd < eO (cF L) then 90 else 0
set_option maxRecDepth 100000 in
set_option maxHeartbeats 4000000 in
theorem ready_spec (N : Int) (A B : Option Addr) (l : List Arc) (cap : Nat) (L : List Int) (cb : Nat) (bd : Int) (w : World) (hr : Ro (Fr w []) w A (l.flatMap cD)) (hl : l.length ≤ 9223372036854775807) (hN : I64 N) (hok : ∀ x ∈ l, dV x) (hL : Ro (Fr w []) w B (aY L)) (hm : L.length ≤ 9223372036854775807) :
    Meets Tryz.prog 63 [.agg #[.int .i64 N, .slice A l.length cap], .slice B L.length cb, .int .i64 bd] w []
      (fun u own' => if e6 N l L bd = 0 then ∃ bs m, u = .tuple #[.pointer (some ⟨bs, 0, none⟩), .int .i64 0] ∧ own' = [m] ∧ LRep N.toNat (fun v => bV (v : Int) l) L (cF L) bs m else u = .tuple #[.pointer none, .int .i64 (e6 N l L bd)] ∧ own' = []) := by
 refine bM Tryz.func63 rfl Tryz.ntmps63 rfl Owns.nil ?_;refine aK fun K1 kh1 => ?_;refine aC ?_;refine aU rfl rfl rfl (dA rfl rfl fun b3 => ?_);refine aA rfl rfl rfl (aF rfl) ?_;refine aA rfl rfl rfl (aF rfl) ?_;refine aJ ?_;refine aL (kh1 _ _ ?_);clear kh1;refine aK fun K2 kh2 => ?_;refine aK fun K3 kh3 => ?_;refine aC ?_;refine aA rfl rfl rfl (bD (vs := [_, _]) Tryz.isAgg24 Tryz.sizeOf24 rfl rfl ⟨(rdA rfl), (rdA rfl), trivial⟩) ?_;refine aA rfl rfl rfl (aG rfl) ?_;refine aU rfl rfl rfl (bE Tryz.call47 rfl (fun w_ hp_ => Count_spec N A B l cap L cb w_ (hr.up0 hp_) hl hN hok (hL.up0 hp_) hm) ?_);rintro _ _ ⟨rfl, rfl⟩;dsimp only [List.cons_append, List.nil_append];refine aA rfl rfl rfl (aG rfl) ?_;refine aA rfl rfl rfl (aW rfl rfl) ?_;refine aA rfl rfl rfl (aW rfl rfl) ?_;refine aA rfl rfl rfl (aF rfl) ?_;refine aA rfl rfl rfl (aF rfl) ?_;refine aJ ?_;refine aL (kh3 _ _ ?_);clear kh3;refine aK fun K4 kh4 => ?_;refine aC ?_;refine aA rfl rfl rfl (aG rfl) ?_;refine aA rfl rfl rfl (dC rfl rfl) ?_;refine aJ ?_;refine aL (kh4 _ _ ?_);clear kh4;refine a6 rfl (fun c18 => ?_) (fun c18 => ?_)
 ·
  refine aK fun K5 kh5 => ?_;refine aC ?_;refine aA rfl rfl rfl (aG rfl) ?_;refine aA rfl rfl rfl (aF rfl) ?_;refine aA rfl rfl rfl (aF rfl) ?_;refine aJ ?_;refine aL (kh5 _ _ ?_);clear kh5;refine a7 ?_;refine bS ?_;have e : e6 N l L bd = (d4 N l L).2 := if_pos c18
  exact bZ [] Tryz.results63 rfl rfl aH (by rw [if_neg (by rw [e]; exact c18), e]; exact ⟨rfl, rfl⟩)
 ·
  have hlc : (d4 N l L).2 = 0 := by simpa using c18
  obtain ⟨hg, hrt⟩ := lcount_ok hlc
  obtain ⟨n, rfl⟩ : ∃ n : Nat, N = (n : Int) := ⟨N.toNat, by have := bT hg; omega⟩
  have hO := lok_begin hg hrt
  have hn1 := hO.n1
  obtain ⟨hLn, _, hsz, hsz1⟩ := lB hrt hn1.1
  refine aV ?_;refine aL (kh2 _ _ ?_);clear kh2;refine aK fun K6 kh6 => ?_;refine aK fun K7 kh7 => ?_;refine aC ?_;refine aA rfl rfl rfl (aG rfl) ?_;refine aA rfl rfl rfl (cE rfl rfl) ?_;refine aA rfl rfl rfl (aG rfl) ?_;refine cT 22 rfl (fun g22 => ?_) (fun g22 => ?_)
  ·
   refine aR rfl rfl rfl rfl rfl rfl ?_;refine aR rfl rfl rfl rfl rfl rfl ?_;refine aA rfl rfl rfl (bX rfl rfl) ?_;refine aJ ?_;refine aL (kh7 _ _ ?_);clear kh7;refine d5 rfl ?_;refine aK fun K8 kh8 => ?_;refine aC ?_;refine aA rfl rfl rfl (aF rfl) ?_;refine aA rfl rfl rfl (aF rfl) ?_;refine aJ ?_;refine aL (kh8 _ _ ?_);clear kh8;refine a7 ?_;refine bS ?_;have e : e6 (n : Int) l L bd = 1 := by rw [e6, if_neg c18, if_pos (.inl g22)]
   exact bZ [] Tryz.results63 rfl rfl aH (by rw [if_neg (by rw [e]; decide), e]; exact ⟨rfl, rfl⟩)
  ·
   refine aQ rfl rfl rfl rfl rfl (aG rfl) ?_;refine aQ rfl rfl rfl rfl rfl (eL rfl rfl) ?_;refine aA rfl rfl rfl (cL rfl rfl) ?_;refine aJ ?_;refine aL (kh7 _ _ ?_);clear kh7;refine a6 rfl (fun c25 => ?_) (fun c25 => ?_)
   ·
    refine aK fun K9 kh9 => ?_;refine aC ?_;refine aA rfl rfl rfl (aF rfl) ?_;refine aA rfl rfl rfl (aF rfl) ?_;refine aJ ?_;refine aL (kh9 _ _ ?_);clear kh9;refine a7 ?_;refine bS ?_;have e : e6 (n : Int) l L bd = 1 := by rw [e6, if_neg c18, if_pos (.inr (by omega))]
    exact bZ [] Tryz.results63 rfl rfl aH (by rw [if_neg (by rw [e]; decide), e]; exact ⟨rfl, rfl⟩)
   ·
    refine aV ?_;refine aL (kh6 _ _ ?_);clear kh6;refine aK fun K10 kh10 => ?_;refine aC ?_;refine aA rfl rfl rfl (bD (vs := [_, _]) Tryz.isAgg24 Tryz.sizeOf24 rfl rfl ⟨(rdA rfl), (rdA rfl), trivial⟩) ?_;refine aA rfl rfl rfl (aG rfl) ?_;refine aU rfl rfl rfl (bE Tryz.call90 rfl (fun w_ hp_ => begin_spec n A B l cap L cb w_ (hr.up0 hp_) hok hg (hL.up0 hp_) hrt) ?_);rintro _ _ ⟨bs, sm, rfl, rfl, hS⟩;dsimp only [List.cons_append, List.nil_append];refine aA rfl rfl rfl (aF rfl) ?_;refine aJ ?_;refine aL (kh10 _ _ ?_);clear kh10;refine aK fun K11 kh11 => ?_;refine aK fun K12 kh12 => ?_;have hS0 := hS
    obtain ⟨Al, cl, ml, bo, vs, ms, bz, hsm, hlo, hrw⟩ := hS
    refine fZ (Sub.opened hsm) ?_
    try dsimp only [kX, List.cons_append, List.nil_append]
    refine aC ?_;refine aA rfl rfl rfl (aG rfl) ?_;refine aA rfl rfl rfl (dS rfl) ?_;refine aA rfl rfl rfl (aP fa114_2 rfl) ?_;refine aA rfl rfl rfl (aM Tryz.isAgg25 rfl (rdA rfl)) ?_;refine aU rfl rfl rfl (bE Tryz.call40 rfl (fun w_ hp_ => jY _ (cF L) _ w_ (roMem (sp := []) (T := 3) (b := bz) (by simp) hp_) (by omega) (by omega)) ?_);rintro _ _ ⟨rfl, rfl⟩;dsimp only [List.cons_append, List.nil_append];refine aA rfl rfl rfl (aG rfl) ?_;refine aA rfl rfl rfl (eL rfl rfl) ?_;refine aJ ?_;refine aL (kh12 _ _ ?_);clear kh12;refine a6 rfl (fun c35 => ?_) (fun c35 => ?_)
    ·
     refine aK fun K13 kh13 => ?_;refine aC ?_;refine aA rfl rfl rfl (aF rfl) ?_;refine aA rfl rfl rfl (aF rfl) ?_;refine aJ ?_;refine aL (kh13 _ _ ?_);clear kh13;refine a7 ?_;refine bS ?_;have e : e6 (n : Int) l L bd = 90 := by rw [e6, if_neg c18, if_neg (by omega), if_pos (by omega)]
     exact bZ [] Tryz.results63 rfl rfl aH (by rw [if_neg (by rw [e]; decide), e]; exact ⟨rfl, rfl⟩)
    ·
     refine aV ?_;refine aL (kh11 _ _ ?_);clear kh11;refine aK fun K14 kh14 => ?_;refine aC ?_;refine aA rfl rfl rfl (aG rfl) ?_;refine aA rfl rfl rfl (aF rfl) ?_;refine aA rfl rfl rfl (aF rfl) ?_;refine aJ ?_;refine aL (kh14 _ _ ?_);clear kh14;refine a7 ?_;have e : e6 (n : Int) l L bd = 0 := by rw [e6, if_neg c18, if_neg (by omega), if_neg (by omega)]
     exact bZ [(kX bs Al cl L ml bo n vs ms.flatten bz (cF L)).flatten] Tryz.results63 rfl rfl (Sub.flat (by repeat (first | exact aH | refine aD ?_ | refine aB rfl ?_))) (by rw [if_pos e]; exact ⟨bs, _, rfl, rfl, by rw [Int.toNat_natCast]; exact ⟨Al, cl, ml, bo, vs, ms, bz, List.Perm.refl _, hlo, hrw⟩⟩)
end Go.Proofs.YtjjogcnjcnpehaaGreat

/- local.Gain, local.Improve. -/
namespace Go.Proofs.YtjjogcnjcnpehaaGreat
open Go Go.RowKit Fly
set_option linter.unusedVariables false
set_option linter.unusedSimpArgs false
theorem Sub.opn {m : Seg} {segs s1 out : List Seg} [p : Pick segs m s1] (h : m.Perm out.flatten) : Fly.Sub segs out := by
  refine ⟨s1.flatten, p.perm.trans (h.append_right _)⟩
theorem mvRow_rng {n : Nat} {L S R : List Int} {bd : Int} {v : Nat} {b : Mv} (hv : v < n) (hb : b = (0, 0, 0) ∨ ∃ (y j : Nat) (g : Int), b = ((y : Int), (j : Int), g) ∧ y < n ∧ j < S.length) : ∀ j, j ≤ S.length → gJ L S R bd v j b = (0, 0, 0) ∨ ∃ (y k : Nat) (g : Int), gJ L S R bd v j b = ((y : Int), (k : Int), g) ∧ y < n ∧ k < S.length
  | 0, _ => hb
  | j + 1, h => by
    rw [hG]
    unfold mvUp
    split
    · exact .inr ⟨v, j, _, rfl, hv, by omega⟩
    · exact mvRow_rng hv hb j (by omega)
theorem mvTo_rng {n : Nat} {L S : List Int} {rows : Nat → List Int} {bd : Int} : ∀ k, k ≤ n → gT L S rows bd k = (0, 0, 0) ∨ ∃ (y j : Nat) (g : Int), gT L S rows bd k = ((y : Int), (j : Int), g) ∧ y < n ∧ j < S.length
  | 0, _ => .inl rfl
  | k + 1, h => by
    rw [mvTo_next];exact mvRow_rng (by omega) (mvTo_rng k (by omega)) _ (Nat.le_refl _)
abbrev LSt := List Int × List Int
def mvOf (n : Nat) (rows : Nat → List Int) (bd : Int) (s : LSt) : Mv := gT s.1 s.2 rows bd n
def mvDo (L : List Int) (v : Nat) (j : Int) : LSt := (tdy (L.set v j), szs (sns (L.set v j)).length (tdy (L.set v j)))
/-- So many moves, as long as one is open; and how many were made. -/
def gC (n : Nat) (rows : Nat → List Int) (bd : Int) : Nat → LSt → LSt × Nat
  | 0, s => (s, 0)
  | k + 1, s => if 0 < (mvOf n rows bd s).2.2 then ((gC n rows bd k (mvDo s.1 (mvOf n rows bd s).1.toNat (mvOf n rows bd s).2.1)).1, (gC n rows bd k (mvDo s.1 (mvOf n rows bd s).1.toNat (mvOf n rows bd s).2.1)).2 + 1) else (s, 0)
def impR (N : Int) (l : List Arc) (L : List Int) (bd most : Int) : List Int × Int × Int :=
  if e6 N l L bd ≠ 0 then ([], 0, e6 N l L bd) else if most < 0 ∨ 16384 < most then ([], 0, 1) else
    ((gC N.toNat (fun v => bV (v : Int) l) bd most.toNat (L, cF L)).1.1, ((gC N.toNat (fun v => bV (v : Int) l) bd most.toNat (L, cF L)).2 : Int), 0)
set_option maxRecDepth 100000 in
set_option maxHeartbeats 4000000 in
theorem Improve_spec (N : Int) (A B : Option Addr) (l : List Arc) (cap : Nat) (L : List Int) (cb : Nat) (bd most : Int) (w : World) (hr : Ro (Fr w []) w A (l.flatMap cD)) (hl : l.length ≤ 9223372036854775807) (hN : I64 N) (hok : ∀ x ∈ l, dV x) (hL : Ro (Fr w []) w B (aY L)) (hm : L.length ≤ 9223372036854775807) :
    Meets Tryz.prog 38 [.agg #[.int .i64 N, .slice A l.length cap], .slice B L.length cb, .int .i64 bd, .int .i64 most] w []
      (fun u own' => ∃ s ms, u = .tuple #[s, .int .i64 (impR N l L bd most).2.1, .int .i64 (impR N l L bd most).2.2] ∧ own' = [ms] ∧ Own 3 1 s (impR N l L bd most).1.length (aY (impR N l L bd most).1) ms) := by
 have hrE0 : e6 N l L bd = 0 → (d4 N l L).2 = 0 := fun h => by
   unfold e6 at h
   by_cases h1 : (d4 N l L).2 ≠ 0
   · rw [if_pos h1] at h; exact absurd h h1
   · omega
 refine bM Tryz.func38 rfl Tryz.ntmps38 rfl Owns.nil ?_;refine aK fun K1 kh1 => ?_;refine aC ?_;refine aU rfl rfl rfl (dA rfl rfl fun b4 => ?_);refine aA rfl rfl rfl (aF rfl) ?_;refine aA rfl rfl rfl (aF rfl) ?_;refine aA rfl rfl rfl (aF rfl) ?_;refine aJ ?_;refine aL (kh1 _ _ ?_);clear kh1;refine aK fun K2 kh2 => ?_;refine aC ?_;refine aA rfl rfl rfl (bD (vs := [_, _]) Tryz.isAgg24 Tryz.sizeOf24 rfl rfl ⟨(rdA rfl), (rdA rfl), trivial⟩) ?_;refine aA rfl rfl rfl (aG rfl) ?_;refine aA rfl rfl rfl (aG rfl) ?_;refine aU rfl rfl rfl (bE Tryz.call63 rfl (fun w_ hp_ => ready_spec N A B l cap L cb bd w_ (hr.up0 hp_) hl hN hok (hL.up0 hp_) hm) ?_);intro v18 own18 hv
 obtain ⟨p18, e18, rfl, hq⟩ : ∃ p18 e18, v18 = .tuple #[p18, .int .i64 e18] ∧ ((e18 = 0 ∧ e6 N l L bd = 0 ∧ ∃ bs m, p18 = .pointer (some ⟨bs, 0, none⟩) ∧ own18 = [m] ∧ LRep N.toNat (fun v => bV (v : Int) l) L (cF L) bs m) ∨ (e18 ≠ 0 ∧ e18 = e6 N l L bd ∧ own18 = [])) := by
   by_cases h0 : e6 N l L bd = 0
   · rw [if_pos h0] at hv; obtain ⟨bs, m, rfl, h1, h2⟩ := hv; exact ⟨_, _, rfl, .inl ⟨rfl, h0, bs, m, rfl, h1, h2⟩⟩
   · rw [if_neg h0] at hv; obtain ⟨rfl, h1⟩ := hv; exact ⟨_, _, rfl, .inr ⟨h0, rfl, h1⟩⟩
 rw [show own18 = [] ++ own18 from rfl];dsimp only [List.cons_append, List.nil_append];refine aA rfl rfl rfl (aG rfl) ?_;refine aA rfl rfl rfl (aW rfl rfl) ?_;refine aA rfl rfl rfl (aW rfl rfl) ?_;refine aA rfl rfl rfl (aF rfl) ?_;refine aA rfl rfl rfl (aF rfl) ?_;refine aJ ?_;refine aL (kh2 _ _ ?_);clear kh2;refine aK fun K3 kh3 => ?_;refine aK fun K4 kh4 => ?_;refine aC ?_;refine aA rfl rfl rfl (aG rfl) ?_;refine aA rfl rfl rfl (dC rfl rfl) ?_;refine aJ ?_;refine aL (kh4 _ _ ?_);clear kh4;refine a6 rfl (fun c22 => ?_) (fun c22 => ?_)
 ·
  obtain ⟨h0, he, rfl⟩ := hq.resolve_left (fun h => c22 h.1)
  dsimp only [List.nil_append];refine aK fun K5 kh5 => ?_;refine aC ?_;refine aA rfl rfl rfl (aG rfl) ?_;refine aA rfl rfl rfl (aF rfl) ?_;refine aA rfl rfl rfl (aF rfl) ?_;refine aA rfl rfl rfl (aF rfl) ?_;refine aJ ?_;refine aL (kh5 _ _ ?_);clear kh5;refine a7 ?_;refine bS ?_;have e : impR N l L bd most = ([], 0, e6 N l L bd) := if_pos (by rw [← he]; exact h0)
  exact f_fin3 [[]] Tryz.results38 rfl rfl rfl Sub.empty ⟨_, _, by rw [e, ← he], rfl, by rw [e]; exact Own.nil _ _⟩
 ·
  obtain ⟨rfl, h0, bs, m, rfl, rfl, hS⟩ := hq.resolve_right (fun h => c22 h.1)
  dsimp only [List.cons_append, List.nil_append];obtain ⟨hg, hrt⟩ := lcount_ok (hrE0 h0)
  obtain ⟨n, rfl⟩ : ∃ n : Nat, N = (n : Int) := ⟨N.toNat, by have := bT hg; omega⟩
  rw [Int.toNat_natCast] at hS;have hO := lok_begin hg hrt
  have hR : ∀ q, impR (n : Int) l L bd q = if q < 0 ∨ 16384 < q then ([], 0, 1) else ((gC n (fun v => bV (v : Int) l) bd q.toNat (L, cF L)).1.1, ((gC n (fun v => bV (v : Int) l) bd q.toNat (L, cF L)).2 : Int), 0) := fun q => by rw [impR, if_neg (by rw [h0]; simp), Int.toNat_natCast]
  refine aV ?_;refine aL (kh3 _ _ ?_);clear kh3;refine aK fun K6 kh6 => ?_;refine aK fun K7 kh7 => ?_;refine aC ?_;refine aA rfl rfl rfl (aG rfl) ?_;refine aA rfl rfl rfl (cE rfl rfl) ?_;refine aA rfl rfl rfl (aG rfl) ?_;refine cT 26 rfl (fun g26 => ?_) (fun g26 => ?_)
  ·
   refine aR rfl rfl rfl rfl rfl rfl ?_;refine aR rfl rfl rfl rfl rfl rfl ?_;refine aA rfl rfl rfl (bX rfl rfl) ?_;refine aJ ?_;refine aL (kh7 _ _ ?_);clear kh7;refine d5 rfl ?_;refine aK fun K8 kh8 => ?_;refine aC ?_;refine aA rfl rfl rfl (aF rfl) ?_;refine aA rfl rfl rfl (aF rfl) ?_;refine aA rfl rfl rfl (aF rfl) ?_;refine aJ ?_;refine aL (kh8 _ _ ?_);clear kh8;refine a7 ?_;refine bS ?_;have e := hR most
   rw [if_pos (.inl g26)] at e;exact f_fin3 [[]] Tryz.results38 rfl rfl rfl Sub.empty ⟨_, _, by rw [e], rfl, by rw [e]; exact Own.nil _ _⟩
  ·
   refine aQ rfl rfl rfl rfl rfl (aG rfl) ?_;refine aQ rfl rfl rfl rfl rfl (eL rfl rfl) ?_;refine aA rfl rfl rfl (cL rfl rfl) ?_;refine aJ ?_;refine aL (kh7 _ _ ?_);clear kh7;refine a6 rfl (fun c29 => ?_) (fun c29 => ?_)
   ·
    refine aK fun K9 kh9 => ?_;refine aC ?_;refine aA rfl rfl rfl (aF rfl) ?_;refine aA rfl rfl rfl (aF rfl) ?_;refine aA rfl rfl rfl (aF rfl) ?_;refine aJ ?_;refine aL (kh9 _ _ ?_);clear kh9;refine a7 ?_;refine bS ?_;have e := hR most
    rw [if_pos (.inr (by omega))] at e;exact f_fin3 [[]] Tryz.results38 rfl rfl rfl Sub.empty ⟨_, _, by rw [e], rfl, by rw [e]; exact Own.nil _ _⟩
   ·
    refine aV ?_;refine aL (kh6 _ _ ?_);clear kh6;refine aK fun K10 kh10 => ?_;refine aZ ?_;refine cS (α := List Int × List Int × Nat × Seg) [2, 3, 11] (fun ⟨L1, S1, mv, m1⟩ => [(9, .int .i64 (mv : Int))]) (fun ⟨L1, S1, mv, m1⟩ => [m1]) (fun ⟨L1, S1, mv, m1⟩ => (mv : Int) ≤ most ∧ LRep n (fun v => bV (v : Int) l) L1 S1 bs m1 ∧ LOk n (fun v => bV (v : Int) l) L1 S1 ∧ gC n (fun v => bV (v : Int) l) bd most.toNat (L, cF L) = ((gC n (fun v => bV (v : Int) l) bd (most.toNat - mv) (L1, S1)).1, mv + (gC n (fun v => bV (v : Int) l) bd (most.toNat - mv) (L1, S1)).2)) (fun ⟨L1, S1, mv, m1⟩ => most.toNat - mv) (L, cF L, 0, m) ?_ ?_ ?_ ?_
    · exact (by repeat constructor)
    · repeat first|exact aH|refine aD ?_|refine aB rfl ?_|refine aI ?_
    · exact ⟨by omega, hS, hO, by rw [Nat.sub_zero, Nat.zero_add]⟩
    ·
     rintro ⟨L1, S1, mv, m1⟩ ⟨hmm, hS1, hO1, hgo⟩;refine aK fun K11 kh11 => ?_;refine aK fun K12 kh12 => ?_;refine aC ?_;refine aA rfl rfl rfl (aG rfl) ?_;refine aA rfl rfl rfl (aG rfl) ?_;refine aA rfl rfl rfl (cE rfl rfl) ?_;refine aJ ?_;refine aL (kh12 _ _ ?_);clear kh12;refine a6 rfl (fun c32 => ?_) (fun c32 => ?_)
     ·
      refine aV ?_;refine aL (kh11 _ _ ?_);clear kh11;refine aZ ?_;refine aK fun K13 kh13 => ?_;refine aC ?_;refine aA rfl rfl rfl (aG rfl) ?_;refine aA rfl rfl rfl (aG rfl) ?_;refine aU rfl rfl rfl (bE Tryz.call64 rfl (fun w_ hp_ => (by obtain ⟨Al, cl, bo, bz, vs, hs⟩ := hS1.sees hp_; exact next_spec n _ L1 S1 bs Al cl bo bz vs bd w_ hs hO1)) ?_);rintro _ _ ⟨rfl, rfl⟩;dsimp only [List.cons_append, List.nil_append];refine aA rfl rfl rfl (aG rfl) ?_;refine aA rfl rfl rfl (aW rfl rfl) ?_;refine aA rfl rfl rfl (aW rfl rfl) ?_;refine aU rfl rfl rfl (cV Tryz.zeroValue109 rfl fun b12 => ?_);refine bH rfl rfl (cN Tryz.sizeOf109 rfl rfl rfl rfl (by first | exact Nat.le_of_ble_eq_true rfl | (simp; done) | (simp; omega)) (mvCs (gT L1 S1 (fun v => bV (v : Int) l) bd n)) rfl ?_);refine aA rfl rfl rfl (aF rfl) ?_;refine aJ ?_;refine aL (kh13 _ _ ?_);clear kh13;refine aK fun K14 kh14 => ?_;refine aK fun K15 kh15 => ?_;refine aC ?_;refine aA rfl rfl rfl (aG rfl) ?_;refine aA rfl rfl rfl (kR rfl) ?_;refine aJ ?_;refine aL (kh15 _ _ ?_);clear kh15;refine e9 rfl (fun c40 => ?_) (fun c40 => ?_)
      ·
       have hnone : ¬ 0 < (gT L1 S1 (fun v => bV (v : Int) l) bd n).2.2 := by simpa using c40
       have hfin : gC n (fun v => bV (v : Int) l) bd (most.toNat - mv) (L1, S1) = ((L1, S1), 0) := by
         obtain ⟨k, hk⟩ : ∃ k, most.toNat - mv = k + 1 := ⟨most.toNat - mv - 1, by omega⟩
         have e : mvOf n (fun v => bV (v : Int) l) bd (L1, S1) = gT L1 S1 (fun v => bV (v : Int) l) bd n := rfl
         rw [hk, gC, e, if_neg hnone]
       rw [hfin] at hgo;obtain ⟨Al, cl, ml, bo, vs, ms, bz, hsm, hlo, hrw⟩ := hS1
       refine cG ?_;refine cH ?_;clear kh14;refine f_bo rfl ?_;refine cH ?_;refine eB ?_;refine aL (kh10 _ _ ?_);clear kh10;refine aK fun K16 kh16 => ?_;refine fZ (Sub.opn (out := kX bs Al cl L1 ml bo n vs ms.flatten bz S1) hsm) ?_
       unfold kX
       refine aC ?_;refine aA rfl rfl rfl (aG rfl) ?_;refine aA rfl rfl rfl (dS rfl) ?_;refine aA rfl rfl rfl (aP jE rfl) ?_;refine aA rfl rfl rfl (aM Tryz.isAgg25 rfl (rdA rfl)) ?_;refine aA rfl rfl rfl (aG rfl) ?_;refine aA rfl rfl rfl (aF rfl) ?_;refine aA rfl rfl rfl (aF rfl) ?_;refine aA rfl rfl rfl (aF rfl) ?_;refine aJ ?_;refine aL (kh16 _ _ ?_);clear kh16;refine a7 ?_;have e := hR most
       rw [if_neg (by omega), hgo] at e;exact f_fin3 [ml] Tryz.results38 rfl rfl rfl (by repeat (first | exact aH | refine aD ?_ | refine aB rfl ?_)) ⟨.slice Al L1.length cl, ml, by rw [e]; simp, rfl, by rw [e]; exact hlo⟩
      ·
       have hsome : 0 < (gT L1 S1 (fun v => bV (v : Int) l) bd n).2.2 := by simpa using c40
       obtain ⟨y, j, g, hmv, hyn, hjn⟩ := (mvTo_rng (n := n) (L := L1) (S := S1) (rows := fun v => bV (v : Int) l) (bd := bd) n (Nat.le_refl _)).resolve_left (fun h => by rw [h] at hsome; simp at hsome)
       have hstep : gC n (fun v => bV (v : Int) l) bd (most.toNat - mv) (L1, S1) = ((gC n (fun v => bV (v : Int) l) bd (most.toNat - (mv + 1)) ((mvDo L1 y (j : Int)).1, (mvDo L1 y (j : Int)).2)).1, (gC n (fun v => bV (v : Int) l) bd (most.toNat - (mv + 1)) ((mvDo L1 y (j : Int)).1, (mvDo L1 y (j : Int)).2)).2 + 1) := by
         obtain ⟨k, hk⟩ : ∃ k, most.toNat - mv = k + 1 := ⟨most.toNat - mv - 1, by omega⟩
         have e : mvOf n (fun v => bV (v : Int) l) bd (L1, S1) = ((y : Int), (j : Int), g) := hmv
         rw [hmv] at hsome;rw [hk, gC, e, if_pos hsome, show most.toNat - (mv + 1) = k by omega]; rfl
       rw [hstep] at hgo;rw [hmv];refine aV ?_;refine aL (kh14 _ _ ?_);clear kh14;refine aK fun K17 kh17 => ?_;refine aC ?_;refine aA rfl rfl rfl (aG rfl) ?_;refine aA rfl rfl rfl (bD (vs := [_, _, _]) Tryz.isAgg109 Tryz.sizeOf109 rfl rfl ⟨(rdA rfl), (rdA rfl), (rdA rfl), trivial⟩) ?_;refine aU rfl rfl rfl (fK [m1] _ Tryz.call65 rfl (by repeat (first | exact Sub.refl | refine aD ?_)) (fun w_ hp_ => do_spec n _ L1 S1 bs m1 y j g w_ hS1 hO1 hyn hjn hp_.owns) ?_);rintro _ _ ⟨m2, rfl, hS2⟩;dsimp only [List.cons_append, List.nil_append];refine aJ ?_;refine aL (kh17 _ _ ?_);clear kh17;refine aC ?_;refine aA rfl rfl rfl (aG rfl) ?_;refine aA rfl rfl rfl (bF rfl rfl _ (aT (by omega))) ?_;refine aA rfl rfl rfl (aF rfl) ?_;refine aJ ?_;refine cU ?_;refine aL (bA ((mvDo L1 y (j : Int)).1, (mvDo L1 y (j : Int)).2, mv + 1, m2) (by first | omega | (dsimp only; omega) | (simp; omega)) ⟨by omega, hS2, lok_do hO1 y (j : Int), by rw [hgo]; congr 1; omega⟩ ?_ ?_ ?_)
       · exact (by repeat constructor)
       · exact (by repeat constructor)
       · repeat first|exact aH|refine aD ?_|refine aB rfl ?_|refine aI ?_
     ·
      have hfin : gC n (fun v => bV (v : Int) l) bd (most.toNat - mv) (L1, S1) = ((L1, S1), 0) := by rw [show most.toNat - mv = 0 by omega]; rfl
      rw [hfin] at hgo;obtain ⟨Al, cl, ml, bo, vs, ms, bz, hsm, hlo, hrw⟩ := hS1
      refine cG ?_;refine cH ?_;clear kh11;refine cH ?_;refine eB ?_;refine aL (kh10 _ _ ?_);clear kh10;refine aK fun K18 kh18 => ?_;refine fZ (Sub.opn (out := kX bs Al cl L1 ml bo n vs ms.flatten bz S1) hsm) ?_
      unfold kX
      refine aC ?_;refine aA rfl rfl rfl (aG rfl) ?_;refine aA rfl rfl rfl (dS rfl) ?_;refine aA rfl rfl rfl (aP jE rfl) ?_;refine aA rfl rfl rfl (aM Tryz.isAgg25 rfl (rdA rfl)) ?_;refine aA rfl rfl rfl (aG rfl) ?_;refine aA rfl rfl rfl (aF rfl) ?_;refine aA rfl rfl rfl (aF rfl) ?_;refine aA rfl rfl rfl (aF rfl) ?_;refine aJ ?_;refine aL (kh18 _ _ ?_);clear kh18;refine a7 ?_;have e := hR most
      rw [if_neg (by omega), hgo] at e;exact f_fin3 [ml] Tryz.results38 rfl rfl rfl (by repeat (first | exact aH | refine aD ?_ | refine aB rfl ?_)) ⟨.slice Al L1.length cl, ml, by rw [e]; simp, rfl, by rw [e]; exact hlo⟩
end Go.Proofs.YtjjogcnjcnpehaaGreat

/- flyoverlaw10: large, works, LocalStays. -/
namespace Go.Proofs.YtjjogcnjcnpehaaGreat
open Go Go.RowKit Fly
set_option linter.unusedVariables false
set_option linter.unusedSimpArgs false
end Go.Proofs.YtjjogcnjcnpehaaGreat

/- split.looked, split.Sizes, flyoverlaw10.LocalGains. -/
namespace Go.Proofs.YtjjogcnjcnpehaaGreat
open Go Go.RowKit Fly
set_option linter.unusedVariables false
set_option linter.unusedSimpArgs false
theorem ready_ok {N : Int} {l : List Arc} {L : List Int} {bd : Int} (h : e6 N l L bd = 0) : (d4 N l L).2 = 0 ∧ eO (cF L) ≤ bd := by
  unfold e6 at h
  by_cases h1 : (d4 N l L).2 ≠ 0
  · rw [if_pos h1] at h; exact absurd h h1
  · rw [if_neg h1] at h
    by_cases h2 : bd < 1 ∨ 1024 < bd
    · rw [if_pos h2] at h; simp at h
    · rw [if_neg h2] at h
      by_cases h3 : bd < eO (cF L)
      · rw [if_pos h3] at h; simp at h
      · exact ⟨by omega, by omega⟩
theorem sizes_cnt {L : List Int} {i : Nat} (h : i < (cF L).length) : (cF L)[i] = (cnt L i : Int) := by
  have h' : i < (eO L + 1).toNat := by unfold cF at h; rwa [eQ] at h
  exact iE h'
end Go.Proofs.YtjjogcnjcnpehaaGreat

/- Moves come to an end (plain laws for LocalEnds). -/
namespace Go.Proofs.YtjjogcnjcnpehaaGreat
open Go Go.RowKit Fly
set_option linter.unusedVariables false
set_option linter.unusedSimpArgs false
structure LInv (n : Nat) (l : List Arc) (bd : Int) (s : LSt) : Prop where
  len : s.1.length = n
  right : cZ (n : Int) s.1 = true
  size : s.2 = cF s.1
  bound : ∀ x ∈ s.2, x ≤ bd
theorem LInv.step {n : Nat} {l : List Arc} {bd : Int} {s : LSt} (hg : (bG (n : Int) l).2 = 0) (h : LInv n l bd s) (ho : 0 < (mvOf n (fun v => bV (v : Int) l) bd s).2.2) :
    LInv n l bd (mvDo s.1 (mvOf n (fun v => bV (v : Int) l) bd s).1.toNat (mvOf n (fun v => bV (v : Int) l) bd s).2.1) ∧ (lR n l (mvDo s.1 (mvOf n (fun v => bV (v : Int) l) bd s).1.toNat (mvOf n (fun v => bV (v : Int) l) bd s).2.1).1 : Int) = lR n l s.1 - (mvOf n (fun v => bV (v : Int) l) bd s).2.2 := by
  obtain ⟨L, S⟩ := s
  obtain ⟨hL, hrt, hS, hB⟩ := h
  simp only at hL hrt hS hB;subst hS;have hn1 := (lok_begin hg hrt).n1
  obtain ⟨_, hin, hsz, hsz1⟩ := lB hrt hn1.1
  obtain ⟨y, j, hbe, hyn, hjS, hmay⟩ := (to_is (n := n) (L := L) (S := cF L) (rows := fun v => bV (v : Int) l) (bd := bd) n (Nat.le_refl _)).resolve_left (fun h => by unfold mvOf at ho; rw [h] at ho; simp at ho)
  have e : mvOf n (fun v => bV (v : Int) l) bd (L, cF L) = ((y : Int), (j : Int), gn L (bV (y : Int) l) (lab L (y : Int)) (j : Int)) := hbe
  rw [e] at ho ⊢;simp only [Int.toNat_natCast];have hL2 : (L.set y (j : Int)).length = n := by rw [List.length_set]; exact hL
  have hgood : GoodC n l := raw_good (bT hg).2.2.2
  have hcut := cut_set hgood (L := L) (v := y) (by omega) (j : Int)
  have hct : lR n l (tdy (L.set y (j : Int))) = lR n l (L.set y (j : Int)) := cut_tdy hL2
  refine ⟨⟨by unfold mvDo; rw [eM]; exact hL2, right_tdy hL2, sizes_tdy (by omega), ?_⟩, ?_⟩
  · refine size_move (M := (cF L).length) (by omega) hjS (fun x hx => ⟨(hin x hx).1, (hin x hx).2.1⟩) (fun i hi => ?_) ?_
    · rw [← sizes_cnt hi]; exact hB _ (List.getElem_mem hi)
    · rw [← sizes_cnt hjS]; have := hmay.2; rw [List.getD_eq_getElem?_getD, List.getElem?_eq_getElem hjS] at this; exact this
  · show (lR n l (tdy (L.set y (j : Int))) : Int) = _
    rw [hct]; exact hcut
theorem LInv.go {n : Nat} {l : List Arc} {bd : Int} (hg : (bG (n : Int) l).2 = 0) : ∀ (k : Nat) (s : LSt), LInv n l bd s → LInv n l bd (gC n (fun v => bV (v : Int) l) bd k s).1 ∧ lR n l (gC n (fun v => bV (v : Int) l) bd k s).1.1 + (gC n (fun v => bV (v : Int) l) bd k s).2 ≤ lR n l s.1
  | 0, s, h => ⟨h, by simp [gC]⟩
  | k + 1, s, h => by
    rw [gC]
    by_cases hc : 0 < (mvOf n (fun v => bV (v : Int) l) bd s).2.2
    · rw [if_pos hc]
      obtain ⟨h1, h2⟩ := h.step hg hc
      obtain ⟨h3, h4⟩ := LInv.go hg k _ h1
      refine ⟨h3, ?_⟩;simp only;omega
    · rw [if_neg hc]; exact ⟨h, by simp⟩
end Go.Proofs.YtjjogcnjcnpehaaGreat

/- Nests: which are right. Plain laws. -/
namespace Go.Proofs.YtjjogcnjcnpehaaGreat
open Go Fly
set_option linter.unusedVariables false
set_option linter.unusedSimpArgs false
set_option linter.unusedSectionVars false
theorem lc_zeroN {N : Int} {l : List Arc} {L : List Int} (hg : (bG N l).2 = 0) (hR : cZ N L = true) : (d4 N l L).2 = 0 := by
  unfold d4
  rw [if_neg (by rw [hg]; simp), if_neg (by rw [hR]; simp)]
theorem spE_oneN {N : Int} {l : List Arc} {L : List Int} {bd : Int} (hg : (bG N l).2 = 0) (hR : cZ N L = true) (hb : 1 ≤ bd ∧ bd ≤ 1024) : spE N l L bd = 0 := by
  unfold spE
  rw [if_neg (by rw [lc_zeroN hg hR]; simp), if_neg (by omega)]
theorem max_cntN {L : List Int} (h0 : 0 < (cF L).length) {bd : Int} (h : ∀ y, (eU L y : Int) ≤ bd) : eO (cF L) ≤ bd := lJ h0 fun x hx => by
  unfold cF szs at hx
  obtain ⟨j, _, rfl⟩ := List.mem_map.1 hx
  exact h j
theorem lc_right {N : Int} {l : List Arc} {L : List Int} (hg : (bG N l).2 = 0) (h : (d4 N l L).2 = 0) : cZ N L = true := by
  unfold d4 at h
  rw [if_neg (by rw [hg]; simp)] at h
  by_cases hR : cZ N L = false
  · rw [if_pos hR] at h; cases h
  · simpa using hR
/-- What is wrong with a level of cells, by itself. -/
def iJ (N : Int) (l : List Arc) (c : List Int) (b : Int) : Int := if (d4 N l c).2 ≠ 0 then (d4 N l c).2 else if b < eO (cF c) then 90 else 0
/-- Who is together below is together above. -/
def gY (b a : List Int) : Prop := ∀ u, u < b.length → ∀ v, v < b.length → b.getD u 0 = b.getD v 0 → a.getD u 0 = a.getD v 0
instance (b a : List Int) : Decidable (gY b a) := by unfold gY; infer_instance
def jF (bs : List Int) : Nat → Int
  | 0 => 0
  | k + 1 => bs.getD k 0
/-- What is wrong with a level. -/
def lvE (N : Int) (l : List Arc) (bs : List Int) (L : List (List Int)) (k : Nat) : Int :=
  if bs.getD k 0 ≤ jF bs k ∨ 1024 < bs.getD k 0 then 1 else if iJ N l (L.getD k []) (bs.getD k 0) ≠ 0 then iJ N l (L.getD k []) (bs.getD k 0) else if 0 < k ∧ ¬ gY (L.getD (k - 1) []) (L.getD k []) then 110 else 0
def nsE (N : Int) (l : List Arc) (bs : List Int) (L : List (List Int)) : Int × Int :=
  if (bG N l).2 ≠ 0 then (0, (bG N l).2) else if bs.length < 1 ∨ 5 < bs.length ∨ L.length ≠ bs.length then (0, 111) else
  match (List.range bs.length).find? (fun k => decide (lvE N l bs L k ≠ 0)) with
  | some k => ((k : Int) + 1, lvE N l bs L k)
  | none => (0, 0)
theorem find_first {m k : Nat} {p : Nat → Bool} (hk : k < m) (h : ∀ j, j < k → p j = false) (hp : p k = true) : (List.range m).find? p = some k := by
  rw [List.find?_eq_some_iff_getElem];exact ⟨hp, k, by simpa using hk, by simp, fun j hj => by simp [h j hj]⟩
theorem find_none {m : Nat} {p : Nat → Bool} (h : ∀ j, j < m → p j = false) : (List.range m).find? p = none := by
  rw [List.find?_eq_none];intro x hx;simp [h x (by simpa using hx)]
theorem nsE_at {N : Int} {l : List Arc} {bs : List Int} {L : List (List Int)} (hg : (bG N l).2 = 0) (hm : ¬ (bs.length < 1 ∨ 5 < bs.length ∨ L.length ≠ bs.length)) {k : Nat} (hk : k < bs.length) (h : ∀ j, j < k → lvE N l bs L j = 0) (hp : lvE N l bs L k ≠ 0) :
    nsE N l bs L = ((k : Int) + 1, lvE N l bs L k) := by
  unfold nsE
  rw [if_neg (by rw [hg]; simp), if_neg hm, find_first hk (fun j hj => by simp [h j hj]) (by simpa using hp)]
theorem nsE_none {N : Int} {l : List Arc} {bs : List Int} {L : List (List Int)} (hg : (bG N l).2 = 0) (hm : ¬ (bs.length < 1 ∨ 5 < bs.length ∨ L.length ≠ bs.length)) (h : ∀ j, j < bs.length → lvE N l bs L j = 0) : nsE N l bs L = (0, 0) := by
  unfold nsE
  rw [if_neg (by rw [hg]; simp), if_neg hm, find_none fun j hj => by simp [h j hj]]
/-- A right nest. -/
structure NestOk (n : Nat) (l : List Arc) (bs : List Int) (L : List (List Int)) : Prop where
  g : (bG (n : Int) l).2 = 0
  many : 1 ≤ bs.length ∧ bs.length ≤ 5
  len : L.length = bs.length
  lv : ∀ k, k < bs.length → lvE (n : Int) l bs L k = 0
theorem nsE_zero {N : Int} {l : List Arc} {bs : List Int} {L : List (List Int)} (h : (nsE N l bs L).2 = 0) : ∃ n : Nat, N = (n : Int) ∧ NestOk n l bs L := by
  unfold nsE at h
  by_cases hg : (bG N l).2 = 0
  · rw [if_neg (by rw [hg]; simp)] at h
    by_cases hm : bs.length < 1 ∨ 5 < bs.length ∨ L.length ≠ bs.length
    · rw [if_pos hm] at h; cases h
    · rw [if_neg hm] at h
      have hz := bT hg
      obtain ⟨n, rfl⟩ : ∃ n : Nat, N = (n : Int) := ⟨N.toNat, by omega⟩
      refine ⟨n, rfl, hg, by omega, by omega, fun k hk => ?_⟩
      split at h
      · rename_i j hj
        have := List.find?_some hj
        simp only [decide_eq_true_eq] at this;exact absurd h this
      · rename_i hn
        rw [List.find?_eq_none] at hn;have := hn k (by simpa using hk)
        simpa using this
  · rw [if_pos hg] at h; exact absurd h hg
theorem NestOk.zero {n : Nat} {l : List Arc} {bs : List Int} {L : List (List Int)} (h : NestOk n l bs L) : nsE (n : Int) l bs L = (0, 0) := nsE_none h.g (by have := h.many; have := h.len; omega) h.lv
/-- A right level. -/
theorem kW {n : Nat} {l : List Arc} {bs : List Int} {L : List (List Int)} (hg : (bG (n : Int) l).2 = 0) {k : Nat} : lvE (n : Int) l bs L k = 0 ↔
    (jF bs k < bs.getD k 0 ∧ bs.getD k 0 ≤ 1024) ∧ cZ (n : Int) (L.getD k []) = true ∧ (∀ y, (eU (L.getD k []) y : Int) ≤ bs.getD k 0) ∧ (0 < k → gY (L.getD (k - 1) []) (L.getD k [])) := by
  have hn := bT hg
  have hF : iJ (n : Int) l (L.getD k []) (bs.getD k 0) = 0 ↔ cZ (n : Int) (L.getD k []) = true ∧ ∀ y, (eU (L.getD k []) y : Int) ≤ bs.getD k 0 := by
    unfold iJ
    constructor
    · intro h
      by_cases h1 : (d4 (n : Int) l (L.getD k [])).2 = 0
      · have hR := lc_right hg h1
        rw [if_neg (by rw [h1]; simp)] at h;refine ⟨hR, fun y => ?_⟩
        have hmx : eO (cF (L.getD k [])) ≤ bs.getD k 0 := by
          by_cases h2 : bs.getD k 0 < eO (cF (L.getD k []))
          · rw [if_pos h2] at h; cases h
          · omega
        have hrg := eK hR (by omega)
        by_cases hy : y ∈ L.getD k []
        · have h3 := hrg y hy
          obtain ⟨j, rfl⟩ : ∃ j : Nat, y = (j : Int) := ⟨y.toNat, by omega⟩
          have h4 : (cnt (L.getD k []) j : Int) ∈ cF (L.getD k []) := by
            unfold cF szs
            exact List.mem_map.2 ⟨j, by rw [List.mem_range]; omega, rfl⟩
          have := gO h4
          rw [cnt_is] at this; omega
        · rw [iD hy]
          have h0 : 0 < (L.getD k []).length := by have := (cX hR).2; omega
          have h5 := hrg _ (List.getElem_mem h0)
          have h6 : (cnt (L.getD k []) 0 : Int) ∈ cF (L.getD k []) := by
            unfold cF szs
            exact List.mem_map.2 ⟨0, by rw [List.mem_range]; omega, rfl⟩
          have := gO h6
          omega
      · rw [if_pos h1] at h; exact absurd h h1
    · rintro ⟨hR, hs⟩
      have h1 := lc_zeroN hg hR
      have hrg := eK hR (by omega)
      have h0 : 0 < (L.getD k []).length := by have := (cX hR).2; omega
      have h5 := hrg _ (List.getElem_mem h0)
      rw [if_neg (by rw [h1]; simp), if_neg];have := max_cntN (L := L.getD k []) (by unfold cF; rw [eQ]; omega) hs
      omega
  unfold lvE
  by_cases h1 : bs.getD k 0 ≤ jF bs k ∨ 1024 < bs.getD k 0
  · rw [if_pos h1]
    constructor
    · intro h; cases h
    · rintro ⟨h2, _⟩; omega
  · rw [if_neg h1]
    by_cases h2 : iJ (n : Int) l (L.getD k []) (bs.getD k 0) = 0
    · rw [if_neg (by rw [h2]; simp)]
      obtain ⟨h3, h4⟩ := hF.1 h2
      by_cases h5 : 0 < k ∧ ¬ gY (L.getD (k - 1) []) (L.getD k [])
      · rw [if_pos h5]
        constructor
        · intro h; cases h
        · rintro ⟨_, _, _, h6⟩; exact absurd (h6 h5.1) h5.2
      · rw [if_neg h5]
        exact ⟨fun _ => ⟨by omega, h3, h4, fun h => Classical.byContradiction fun h6 => h5 ⟨h, h6⟩⟩, fun _ => rfl⟩
    · rw [if_pos h2]
      constructor
      · intro h; exact absurd h h2
      · rintro ⟨_, h3, h4, _⟩; exact hF.2 ⟨h3, h4⟩
section
variable {n : Nat} {l : List Arc} {bs : List Int} {L : List (List Int)}
theorem NestOk.bnd (h : NestOk n l bs L) {k : Nat} (hk : k < bs.length) : jF bs k < bs.getD k 0 ∧ bs.getD k 0 ≤ 1024 := ((kW h.g).1 (h.lv k hk)).1
theorem NestOk.right (h : NestOk n l bs L) {k : Nat} (hk : k < bs.length) : cZ (n : Int) (L.getD k []) = true := ((kW h.g).1 (h.lv k hk)).2.1
theorem NestOk.size (h : NestOk n l bs L) {k : Nat} (hk : k < bs.length) : ∀ y, (eU (L.getD k []) y : Int) ≤ bs.getD k 0 := ((kW h.g).1 (h.lv k hk)).2.2.1
theorem NestOk.within (h : NestOk n l bs L) {k : Nat} (hk : k < bs.length) (h0 : 0 < k) : gY (L.getD (k - 1) []) (L.getD k []) := ((kW h.g).1 (h.lv k hk)).2.2.2 h0
theorem NestOk.n1 (h : NestOk n l bs L) : 1 ≤ n ∧ n ≤ 1024 := by have := bT h.g; omega
end
/-- A cell's vertices. -/
def mem (n : Nat) (L : List Int) (c : Int) : List Int := ((List.range n).filter fun v => decide (L.getD v 0 = c)).map fun v : Nat => (v : Int)
end Go.Proofs.YtjjogcnjcnpehaaGreat

/- How a nest is made, and that it is right. Plain laws. -/
namespace Go.Proofs.YtjjogcnjcnpehaaGreat
open Go Fly
set_option linter.unusedVariables false
set_option linter.unusedSimpArgs false
set_option linter.unusedSectionVars false
/-- What is wrong with a plan. -/
def badB (bs : List Int) : Bool := (List.range bs.length).any fun k => decide (bs.getD k 0 ≤ jF bs k ∨ 1024 < bs.getD k 0)
def plE (N : Int) (l : List Arc) (bs cs : List Int) (mv : Int) : Int :=
  if (bG N l).2 ≠ 0 then (bG N l).2 else if bs.length < 1 ∨ 5 < bs.length then 111 else if badB bs = true then 1 else if 16384 < cs.length then 2 else if cs.any (offV N) = true then 5 else if mv < 0 ∨ 16384 < mv then 1 else 0
/-- A right plan. -/
structure PlOk (n : Nat) (l : List Arc) (bs cs : List Int) (mv : Int) : Prop where
  g : (bG (n : Int) l).2 = 0
  many : 1 ≤ bs.length ∧ bs.length ≤ 5
  bnd : ∀ k, k < bs.length → jF bs k < bs.getD k 0 ∧ bs.getD k 0 ≤ 1024
  few : cs.length ≤ 16384
  rng : ∀ v ∈ cs, 0 ≤ v ∧ v < (n : Int)
  moves : 0 ≤ mv ∧ mv ≤ 16384
theorem badB_no {bs : List Int} : badB bs = false ↔ ∀ k, k < bs.length → jF bs k < bs.getD k 0 ∧ bs.getD k 0 ≤ 1024 := by
  unfold badB
  rw [List.any_eq_false];constructor
  · intro h k hk
    have := h k (by simpa using hk)
    simp only [decide_eq_true_eq] at this; omega
  · intro h k hk
    have := h k (by simpa using hk)
    simp only [decide_eq_true_eq]; omega
theorem plE_zero {N : Int} {l : List Arc} {bs cs : List Int} {mv : Int} (h : plE N l bs cs mv = 0) : ∃ n : Nat, N = (n : Int) ∧ PlOk n l bs cs mv := by
  unfold plE at h
  by_cases hg : (bG N l).2 = 0
  · rw [if_neg (by rw [hg]; simp)] at h
    by_cases h1 : bs.length < 1 ∨ 5 < bs.length
    · rw [if_pos h1] at h; cases h
    · rw [if_neg h1] at h
      by_cases h2 : badB bs = true
      · rw [if_pos h2] at h; cases h
      · rw [if_neg h2] at h
        by_cases h3 : 16384 < cs.length
        · rw [if_pos h3] at h; cases h
        · rw [if_neg h3] at h
          by_cases h4 : cs.any (offV N) = true
          · rw [if_pos h4] at h; cases h
          · rw [if_neg h4] at h
            by_cases h5 : mv < 0 ∨ 16384 < mv
            · rw [if_pos h5] at h; cases h
            · have hz := bT hg
              obtain ⟨n, rfl⟩ : ∃ n : Nat, N = (n : Int) := ⟨N.toNat, by omega⟩
              refine ⟨n, rfl, hg, by omega, badB_no.1 (by simpa using h2), by omega, fun v hv => ?_, by omega⟩;have := List.any_eq_false.1 (by simpa using h4) v hv
              unfold offV at this
              simp at this; omega
  · rw [if_pos hg] at h; exact absurd h hg
theorem PlOk.first {n : Nat} {l : List Arc} {bs cs : List Int} {mv : Int} (h : PlOk n l bs cs mv) : 1 ≤ bs.getD 0 0 ∧ bs.getD 0 0 ≤ 1024 := by
  have := h.bnd 0 (by have := h.many; omega)
  have e : jF bs 0 = 0 := rfl
  omega
/-- The cells of the level 1. -/
def LowN (n : Nat) (l : List Arc) (b : Int) (cs : List Int) (mv : Int) (L : List Int) : Prop :=
  ∃ (M : List Pr) (p : List Nat) (J : List Int), M.Pairwise ltX ∧ OutI n l b cs M ∧ IsParts n (k4 (iO M l)) p ∧ JInv n l b (lS l (natN p) b.toNat) J ∧ smL (prs n l) J b = [] ∧ JTo n l b (lS l (natN p) b.toNat) J ∧ L = (impR (n : Int) l J b mv).1
theorem ready_size {n : Nat} {l : List Arc} {L : List Int} {b : Int} (hg : (bG (n : Int) l).2 = 0) (hR : cZ (n : Int) L = true) (hb : 1 ≤ b ∧ b ≤ 1024) (hs : ∀ y, (eU L y : Int) ≤ b) : e6 (n : Int) l L b = 0 := by
  have hn := bT hg
  have hrg := eK hR (by omega)
  have hl := (cX hR).2
  have h0 := hrg _ (List.getElem_mem (show 0 < L.length by omega))
  unfold e6
  rw [if_neg (by rw [lc_zeroN hg hR]; simp), if_neg (by omega), if_neg];have := max_cntN (L := L) (by unfold cF; rw [eQ]; omega) hs
  omega
theorem imp_right {n : Nat} {l : List Arc} {L : List Int} {b mv : Int} (hg : (bG (n : Int) l).2 = 0) (hR : cZ (n : Int) L = true) (hb : 1 ≤ b ∧ b ≤ 1024) (hs : ∀ y, (eU L y : Int) ≤ b) (hm : 0 ≤ mv ∧ mv ≤ 16384) :
    (impR (n : Int) l L b mv).2.2 = 0 ∧ cZ (n : Int) (impR (n : Int) l L b mv).1 = true ∧ ∀ y, (eU (impR (n : Int) l L b mv).1 y : Int) ≤ b := by
  have h0 := ready_size hg hR hb hs
  have hn := bT hg
  have hI : LInv n l b (L, cF L) := by
    obtain ⟨hm1, hm2⟩ := ready_ok h0
    exact ⟨(lB hR (by omega)).1, hR, rfl, fun x hx => Int.le_trans (gO hx) hm2⟩
  obtain ⟨hA, _⟩ := LInv.go hg mv.toNat _ hI
  have e : impR (n : Int) l L b mv = ((gC n (fun v => bV (v : Int) l) b mv.toNat (L, cF L)).1.1, ((gC n (fun v => bV (v : Int) l) b mv.toNat (L, cF L)).2 : Int), 0) := by
    unfold impR; rw [if_neg (by rw [h0]; simp), if_neg (by omega), Int.toNat_natCast]
  rw [e];refine ⟨rfl, hA.right, fun y => ?_⟩;simp only
  generalize (gC n (fun v => bV (v : Int) l) b mv.toNat (L, cF L)).1 = s at hA
  by_cases hy : y ∈ s.1
  · have hrg := eK hA.right (by omega) y hy
    obtain ⟨j, rfl⟩ : ∃ j : Nat, y = (j : Int) := ⟨y.toNat, by omega⟩
    have hsz : (cnt s.1 j : Int) ∈ s.2 := by
      rw [hA.size]; unfold cF szs
      exact List.mem_map.2 ⟨j, by rw [List.mem_range]; omega, rfl⟩
    have := hA.bound _ hsz
    rw [cnt_is] at this; exact this
  · rw [iD hy]; omega
theorem natN_right {n : Nat} {p : List Nat} (h : Tidy p) (hl : p.length = n) : cZ (n : Int) (natN p) = true := by
  have key : ∀ (Q P : List Nat), (∀ k (h : k < Q.length), Q[k] ≤ nxt (P ++ Q) (P.length + k)) → rgo ((nxt P P.length : Nat) : Int) (natN Q) = true := by
    intro Q
    induction Q with
    | nil => intro P _; rfl
    | cons y Q ih =>
      intro P h;have e0 : nxt (P ++ y :: Q) P.length = nxt P P.length := nxt_take _ _ _ fun j hj => List.getElem?_append_left hj
      have h0 := h 0 (by simp)
      simp only [List.getElem_cons_zero, Nat.add_zero] at h0;rw [e0] at h0
      have hn : nxt (P ++ [y]) (P ++ [y]).length = if y = nxt P P.length then nxt P P.length + 1 else nxt P P.length := by
        rw [List.length_append, List.length_singleton];have e1 : nxt (P ++ [y]) P.length = nxt P P.length := nxt_take _ _ _ fun j hj => List.getElem?_append_left hj
        show (if (P ++ [y])[P.length]? = some (nxt (P ++ [y]) P.length) then nxt (P ++ [y]) P.length + 1 else nxt (P ++ [y]) P.length) = _
        rw [e1, List.getElem?_append_right (Nat.le_refl _), Nat.sub_self]
        by_cases hy : y = nxt P P.length
        · rw [if_pos hy]; rw [if_pos (by simp [← hy])]
        · rw [if_neg hy, if_neg (by simpa using hy)]
      have ih' := ih (P ++ [y]) fun k hk => by
        have := h (k + 1) (by simpa using hk)
        simp only [List.getElem_cons_succ] at this;rw [List.length_append, List.length_singleton, List.append_assoc];rw [show P.length + (k + 1) = P.length + 1 + k by omega] at this;exact this
      rw [hn] at ih'
      show rgo _ ((y : Int) :: natN Q) = true
      unfold rgo
      rw [if_neg (by omega)]
      by_cases hy : y = nxt P P.length
      · rw [if_pos hy] at ih'; rw [if_pos (by omega)]; exact ih'
      · rw [if_neg hy] at ih'; rw [if_neg (by omega)]; exact ih'
  have := key p [] (fun k hk => by have := h k hk; simpa using this)
  unfold cZ
  rw [show rgo 0 (natN p) = true from this, natN_len, hl]; simp
theorem LowN.right {n : Nat} {l : List Arc} {b : Int} {cs : List Int} {mv : Int} {L : List Int} (hg : (bG (n : Int) l).2 = 0) (hb : 1 ≤ b ∧ b ≤ 1024) (hm : 0 ≤ mv ∧ mv ≤ 16384) (h : LowN n l b cs mv L) : cZ (n : Int) L = true ∧ ∀ y, (eU L y : Int) ≤ b := by
  obtain ⟨M, p, J, _, _, hp, hJ, _, _, rfl⟩ := h
  exact (imp_right hg hJ.right hb hJ.size hm).2
theorem joinE_zeroM {n : Nat} {l : List Arc} {L : List Int} {bd : Int} (hg : (bG (n : Int) l).2 = 0) (hR : cZ (n : Int) L = true) (hb : 1 ≤ bd ∧ bd ≤ 1024) (hs : ∀ y, (eU L y : Int) ≤ bd) : joinE (n : Int) l L bd = 0 := by
  have hn := bT hg
  have hrg := eK hR (by omega)
  have hl := (cX hR).2
  have h0 : 0 < L.length := by omega
  have hx := hrg L[0] (List.getElem_mem h0)
  unfold joinE
  rw [if_neg (by rw [spE_oneN hg hR hb]; simp), if_neg (by have := max_cnt (L := L) (by unfold cF; rw [eQ]; omega) hs; omega)]
/-- The levels that are made: so many. -/
structure MkTo (n : Nat) (l : List Arc) (bs cs : List Int) (mv : Int) (L : List (List Int)) : Prop where
  low : LowN n l (bs.getD 0 0) cs mv (L.getD 0 [])
  up : ∀ k, k + 1 < L.length → JInv n l (bs.getD (k + 1) 0) (L.getD k []) (L.getD (k + 1) []) ∧ smL (prs n l) (L.getD (k + 1) []) (bs.getD (k + 1) 0) = [] ∧ JTo n l (bs.getD (k + 1) 0) (L.getD k []) (L.getD (k + 1) [])
theorem MkTo.right {n : Nat} {l : List Arc} {bs cs : List Int} {mv : Int} {L : List (List Int)} (hP : PlOk n l bs cs mv) (h : MkTo n l bs cs mv L) {k : Nat} (hk : k < L.length) : cZ (n : Int) (L.getD k []) = true ∧ ∀ y, (eU (L.getD k []) y : Int) ≤ bs.getD k 0 := by
  cases k with
  | zero => exact h.low.right hP.g hP.first hP.moves
  | succ k => have := (h.up k hk).1; exact ⟨this.right, this.size⟩
theorem lN {L : List (List Int)} {x : List Int} {k : Nat} (h : k < L.length) : (L ++ [x]).getD k [] = L.getD k [] := by
  simp [List.getD_eq_getElem?_getD, List.getElem?_append_left h]
theorem getD_lastL {L : List (List Int)} {x : List Int} : (L ++ [x]).getD L.length [] = x := by simp [List.getD_eq_getElem?_getD]
theorem MkTo.snoc {n : Nat} {l : List Arc} {bs cs : List Int} {mv : Int} {L : List (List Int)} {x : List Int} (h : MkTo n l bs cs mv L) (h0 : 0 < L.length)
    (hx : JInv n l (bs.getD L.length 0) (L.getD (L.length - 1) []) x ∧ smL (prs n l) x (bs.getD L.length 0) = [] ∧ JTo n l (bs.getD L.length 0) (L.getD (L.length - 1) []) x) : MkTo n l bs cs mv (L ++ [x]) where
  low := by rw [lN h0]; exact h.low
  up := fun k hk => by
    rw [List.length_append, List.length_singleton] at hk
    by_cases e : k + 1 = L.length
    · rw [lN (show k < L.length by omega), e, getD_lastL, show k = L.length - 1 by omega]; exact hx
    · rw [lN (show k < L.length by omega), lN (show k + 1 < L.length by omega)]; exact h.up k (by omega)
theorem lab_getD {L : List Int} {u : Nat} : lab L (u : Int) = L.getD u 0 := by unfold lab; rw [Int.toNat_natCast]
/-- A NEST THAT IS MADE IS RIGHT. -/
theorem made_ok {n : Nat} {l : List Arc} {bs cs : List Int} {mv : Int} {L : List (List Int)} (hP : PlOk n l bs cs mv) (h : MkTo n l bs cs mv L) (hl : L.length = bs.length) : NestOk n l bs L where
  g := hP.g
  many := hP.many
  len := hl
  lv := fun k hk => by
    rw [kW hP.g];have hr := h.right hP (k := k) (by omega)
    refine ⟨hP.bnd k hk, hr.1, hr.2, fun h0 => ?_⟩;obtain ⟨j, rfl⟩ : ∃ j, k = j + 1 := ⟨k - 1, by omega⟩
    have hj := (h.up j (by omega)).1
    have hr0 := h.right hP (k := j) (by omega)
    have hlen := (cX hr0.1).2
    rw [Nat.add_sub_cancel];intro u hu v hv e;have := hj.coarse u v (by omega) (by omega) (by rw [lab_getD, lab_getD]; exact e)
    rwa [lab_getD, lab_getD] at this
end Go.Proofs.YtjjogcnjcnpehaaGreat

/- The first example of chapter 11, told. -/
namespace Go.Proofs.YtjjogcnjcnpehaaGreat
open Go Fly
set_option linter.unusedVariables false
set_option linter.unusedSimpArgs false
set_option linter.unusedSectionVars false
theorem w11Reg : c7 6 wg8 0 3 = ([0, 1, 2], 0) := by
  unfold c7
  rw [if_neg (by decide), if_neg (by decide), if_neg (by decide)]
  have h : bfs 6 (fun v : Nat => bV (v : Int) wg8) 0 (List.replicate 6 false) = bfs 6 (fun v : Nat => nbC 6 wg8 (v : Int)) 0 (List.replicate 6 false) :=
    bgo_sameC (n := 6) (fun v hv => nbrs_canonC (n := 6) (l := wg8) (by decide) v hv) (iR (n := 6) (l := wg8) (by decide)).2 (BInv.start (by simp) (by decide)) 6
  show ((bfs 6 (fun v : Nat => bV (v : Int) wg8) 0 (List.replicate 6 false)).1.take 3, (0 : Int)) = _
  rw [h]; decide +kernel
theorem w11Node : dU 6 wg8 0 3 = [0, 2, 3, 1, 1, 1] := by
  unfold dU fG
  rw [show c7 ((6 : Nat) : Int) wg8 0 3 = ([0, 1, 2], 0) from w11Reg]
  decide +kernel
theorem w11N : gH 6 wg8 0 3 = 4 := by
  unfold gH fG
  rw [show c7 ((6 : Nat) : Int) wg8 0 3 = ([0, 1, 2], 0) from w11Reg]
  decide +kernel
def we11 : List Arc := [⟨0, 2, 1⟩, ⟨2, 0, 1⟩, ⟨0, 3, 1⟩, ⟨3, 0, 1⟩, ⟨2, 3, 1⟩, ⟨3, 2, 1⟩, ⟨3, 1, 1⟩, ⟨1, 3, 1⟩]
theorem w11E : j0 (prs 6 wg8) (dU 6 wg8 0 3) = we11 := by rw [w11Node]; decide +kernel
theorem w11Flow : Flow 4 we11 0 1 [0, 0, 1, 0, 0, 0, 1, 0] 1 := ⟨⟨rfl, by decide⟩, by decide⟩
theorem w11Side : Side 4 we11 0 1 [0, 0, 1, 0, 0, 0, 1, 0] (fun v => [true, false, true, true].getD v false) where
  src := rfl
  dst := rfl
  shut := by unfold Shut; decide
  reach := fun v hv h => by
    have : v = 0 ∨ v = 2 ∨ v = 3 := by
      have h5 : v = 0 ∨ v = 1 ∨ v = 2 ∨ v = 3 := by omega
      rcases h5 with rfl | rfl | rfl | rfl
      · exact .inl rfl
      · cases h
      · exact .inr (.inl rfl)
      · exact .inr (.inr rfl)
    have h2 : Reach we11 [0, 0, 1, 0, 0, 0, 1, 0] 0 2 := Reach.step (e := we11) (k := 0) .refl (by decide) (by decide)
    rcases this with rfl | rfl | rfl
    · exact .refl
    · exact h2
    · exact Reach.step (e := we11) (k := 8) h2 (by decide) (by decide)
theorem w11Nc : NcΦ 6 wg8 0 3 [(2, 3)] := by
  refine ⟨fun e => ?_, fun _ => ?_⟩
  · rw [show c7 ((6 : Nat) : Int) wg8 0 3 = ([0, 1, 2], 0) from w11Reg] at e; cases e
  · refine ⟨[0, 0, 1, 0, 0, 0, 1, 0], 1, [true, false, true, true], by rw [w11N]; rfl, ?_, ?_, ?_⟩
    · rw [w11E, w11N]; exact w11Flow
    · rw [w11E, w11N]; exact w11Side
    · rw [w11Node]; decide +kernel
theorem w11Cut {C : List Pr} (h : NcΦ 6 wg8 0 3 C) : C = [(2, 3)] :=
  nc_unique (n := 6) (nc_zero (n := 6) (by rw [show c7 ((6 : Nat) : Int) wg8 0 3 = ([0, 1, 2], 0) from w11Reg])) h w11Nc
theorem w11Marks {M : List Pr} (hs : M.Pairwise ltX) (h : OutI 6 wg8 3 [0] M) : M = [(2, 3)] := by
  refine rising_eq (R := ltX) (fun a b c h1 h2 => by unfold ltX at *; omega) (fun a b h e => by subst e; unfold ltX at h; omega) hs (by simp) fun p => ?_;rw [h p];constructor
  · rintro ⟨v, hv, C, hC, hp⟩
    obtain rfl : v = 0 := by simpa using hv
    rw [w11Cut hC] at hp; exact hp
  · intro hp
    exact ⟨0, by simp, [(2, 3)], w11Nc, hp⟩
theorem w11One {L : List Int} {bd : Int} {t s : Sm} (hm : s ∈ smL (prs 6 wg8) L bd) (hd : smL (prs 6 wg8) L bd = [t]) : s = t := by
  rw [hd] at hm; simpa using hm
theorem w11Low {L : List Int} (h : LowN 6 wg8 3 [0] 0 L) : L = [0, 0, 0, 1, 1, 1] := by
  obtain ⟨M, p, J, hs, hO, hp, hJ, hn, hT, rfl⟩ := h
  obtain rfl := w11Marks hs hO
  have hp8 := w8Frag hp
  rw [hp8] at hJ hT
  have hc : lS wg8 [0, 0, 0, 1, 1, 1] (3 : Int).toNat = [0, 0, 0, 1, 1, 1] := by
    unfold lS
    rw [show (eO [0, 0, 0, 1, 1, 1] + 1).toNat = 2 by decide];rw [show cO wg8 [0, 0, 0, 1, 1, 1] (3 : Int).toNat 2 = cO wg8 [0, 0, 0, 1, 1, 1] (3 : Int).toNat 1 from if_pos (by decide)];rw [show cO wg8 [0, 0, 0, 1, 1, 1] (3 : Int).toNat 1 = cO wg8 [0, 0, 0, 1, 1, 1] (3 : Int).toNat 0 from if_pos (by decide)]
    decide +kernel
  rw [hc] at hT
  have hJe : J = [0, 0, 0, 1, 1, 1] := by
    rcases hT.head with rfl | ⟨s, hs, _, _⟩
    · rfl
    · rw [show smL (prs 6 wg8) [0, 0, 0, 1, 1, 1] 3 = [] by decide +kernel] at hs; cases hs
  subst hJe
  unfold impR
  rw [if_neg (by decide +kernel), if_neg (by decide)]
  rfl
theorem w11Up {R : List Int} (h : JTo 6 wg8 6 [0, 0, 0, 1, 1, 1] R) (hn : smL (prs 6 wg8) R 6 = []) : R = [0, 0, 0, 0, 0, 0] := by
  rcases h.head with rfl | ⟨s, hs, hb, h⟩
  · exact absurd hn (by decide +kernel)
  · obtain rfl := w11One (t := (0, 1, 1)) hs (by decide +kernel)
    rw [show tdy (mrg ((0, 1, 1) : Sm).1 ((0, 1, 1) : Sm).2.1 [0, 0, 0, 1, 1, 1]) = [0, 0, 0, 0, 0, 0] by decide +kernel] at h
    rcases h.head with rfl | ⟨s, hs, hb, h⟩
    · rfl
    · rw [show smL (prs 6 wg8) [0, 0, 0, 0, 0, 0] 6 = [] by decide +kernel] at hs; cases hs
theorem w11Pl : plE 6 wg8 [3, 6] [0] 0 = 0 := by decide +kernel
theorem w11Made {L : List (List Int)} (hl : L.length = 2) (h : MkTo 6 wg8 [3, 6] [0] 0 L) : L = [[0, 0, 0, 1, 1, 1], [0, 0, 0, 0, 0, 0]] := by
  obtain ⟨x, y, rfl⟩ : ∃ x y, L = [x, y] := by
    match L, hl with
    | [x, y], _ => exact ⟨x, y, rfl⟩
  have hx := w11Low h.low
  simp only [List.getD_cons_zero] at hx;subst hx;obtain ⟨_, h2, h3⟩ := h.up 0 (by simp)
  have hy : y = [0, 0, 0, 0, 0, 0] := w11Up (R := y) h3 h2
  rw [hy]
theorem w11Ok : NestOk 6 wg8 [3, 6] [[0, 0, 0, 1, 1, 1], [0, 0, 0, 0, 0, 0]] := by
  refine ⟨by decide, by decide, rfl, fun k hk => ?_⟩;have : k = 0 ∨ k = 1 := by simp at hk; omega
  rcases this with rfl | rfl <;> decide +kernel
end Go.Proofs.YtjjogcnjcnpehaaGreat

/- slices.Chunk over numbers, and the function that it hands back. -/
namespace Go.Proofs.YtjjogcnjcnpehaaGreat
open Go Go.RowKit Fly
set_option linter.unusedVariables false
set_option linter.unusedSimpArgs false
abbrev ckSegs (bs bn bo len cap bd : Nat) : List Seg := [[(bs, blk [.slice (some ⟨bo, 0, none⟩) len cap] 25)], [(bn, blk [.int .i64 (bd : Int)] 3)]]
abbrev ckEnc (bo len bd : Nat) (y : Nat) : Value := .slice (some ⟨bo, y, none⟩) (min bd (len - y)) (min bd (len - y))
def ckMay (len bd : Nat) (ys : List Nat) (y : Nat) : Prop := y = ys.length * bd ∧ ys.length * bd < len
def ckFin (bs bn bo len cap bd : Nat) (ys : List Nat) (o : List Seg) : Prop := len ≤ ys.length * bd ∧ o = ckSegs bs bn bo len cap bd
def ckStp (bs bn bo len cap bd : Nat) (ys : List Nat) (o : List Seg) : Prop := o = ckSegs bs bn bo len cap bd
set_option maxRecDepth 100000 in
set_option maxHeartbeats 4000000 in
theorem Chunk_spec (bo len cap bd : Nat) (w : World) (h : 0 < bd) :
    Meets Tryz.prog 62 [.slice (some ⟨bo, 0, none⟩) len cap, .int .i64 (bd : Int)] w [] (fun u own' => ∃ bs bn, u = .func (.func 89) #[] #[.pointer (some ⟨bs, 0, none⟩), .pointer (some ⟨bn, 0, none⟩)] ∧ own' = ckSegs bs bn bo len cap bd) := by
 refine bM Tryz.func62 rfl Tryz.ntmps62 rfl Owns.nil ?_;refine aK fun K1 kh1 => ?_;refine aC ?_;refine aU rfl rfl rfl (dA rfl rfl fun b2 => ?_);refine aU rfl rfl rfl (dA rfl rfl fun b3 => ?_);refine aA rfl rfl rfl (aF rfl) ?_;refine aJ ?_;refine aL (kh1 _ _ ?_);clear kh1;refine aK fun K2 kh2 => ?_;refine aK fun K3 kh3 => ?_;refine aC ?_;refine aA rfl rfl rfl (aM Tryz.isAgg3 rfl (rdA rfl)) ?_;refine aA rfl rfl rfl (cE rfl rfl) ?_;refine aJ ?_;refine aL (kh3 _ _ ?_);clear kh3;refine gD rfl (by omega) ?_;refine aV ?_;refine aL (kh2 _ _ ?_);clear kh2;refine aK fun K4 kh4 => ?_;refine aC ?_;refine aA rfl rfl rfl (o_func rfl rfl) ?_;refine aA rfl rfl rfl (aF rfl) ?_;refine aJ ?_;refine aL (kh4 _ _ ?_);clear kh4;refine a7 ?_;exact bJ (ckSegs b2 b3 bo len cap bd) Tryz.results62 rfl (by repeat first|exact aH|refine aD ?_|refine aB rfl ?_|refine aI ?_) ⟨b2, b3, rfl, rfl⟩
set_option maxRecDepth 100000 in
set_option maxHeartbeats 4000000 in
theorem Chunk1_iter (bs bn bo len cap bd : Nat) (m0 : Seg) (w : World) (h : 0 < bd ∧ bd ≤ 1000000) (hl : len ≤ 1000000) (hc : len ≤ cap ∧ cap ≤ 9223372036854775807) :
    IterAt Tryz.prog 89 [.pointer (some ⟨bs, 0, none⟩), .pointer (some ⟨bn, 0, none⟩)] (ckSegs bs bn bo len cap bd) (ckEnc bo len bd) (ckMay len bd) (ckFin bs bn bo len cap bd) (ckStp bs bn bo len cap bd) m0 w := by
 intro l_ J Jx hJ0 hown hY;refine r_enter Tryz.func89 rfl Tryz.ntmps89 rfl hown ?_;refine cB fun K1 kh1 => ?_;refine bB ?_;refine aO rfl rfl rfl rfl (aF rfl) ?_;refine bQ ?_;refine cK (kh1 _ _ _ ?_);clear kh1;refine eG ?_;refine r_loop (α := Nat × List Nat × Seg) (fun ⟨p, ys, mJ⟩ => []) [0, 1, 2] (fun ⟨p, ys, mJ⟩ => [(4, .int .i64 (p : Int))]) (fun ⟨p, ys, mJ⟩ => [mJ, [(bs, blk [.slice (some ⟨bo, 0, none⟩) len cap] 25)], [(bn, blk [.int .i64 (bd : Int)] 3)]]) (fun ⟨p, ys, mJ⟩ => p = ys.length * bd ∧ p < len + bd ∧ J ys mJ) (fun ⟨p, ys, mJ⟩ => len + bd - p) (0, [], m0) rfl ?_ ?_ ?_ ?_
 · exact (by repeat constructor)
 · repeat first|exact aH|refine aD ?_|refine aB rfl ?_|refine aI ?_
 · exact ⟨by simp, by omega, hJ0⟩
 ·
  rintro ⟨p, ys, mJ⟩ ⟨hp, hpl, hJ⟩;dsimp only;refine cB fun K2 kh2 => ?_;refine cB fun K3 kh3 => ?_;refine bB ?_;refine aO rfl rfl rfl rfl (aG rfl) ?_;refine aO rfl rfl rfl rfl (aM Tryz.isAgg25 rfl (rdA rfl)) ?_;refine aO rfl rfl rfl rfl (bU bK rfl) ?_;refine aO rfl rfl rfl rfl (cE rfl rfl) ?_;refine bQ ?_;refine cK (kh3 _ _ _ ?_);clear kh3;refine g7 rfl (fun c9 => ?_) (fun c9 => ?_)
  ·
   have hpn : p < len := by omega
   refine fP ?_;refine cK (kh2 _ _ _ ?_);clear kh2;refine cB fun K4 kh4 => ?_;refine eG ?_;refine cB fun K5 kh5 => ?_;refine r_old ?_;refine gQ 6 rfl (by decide +kernel) ?_;refine aN rfl rfl rfl (aM Tryz.isAgg3 rfl (rdA rfl)) ?_;refine aN rfl rfl rfl (aM Tryz.isAgg25 rfl (rdA rfl)) ?_;refine aN rfl rfl rfl (aG rfl) ?_;refine aN rfl rfl rfl (eV bK rfl rfl rfl rfl (fun h => by cases h) p _ _ (.inr ⟨_, _, rfl, by omega⟩) (.inl ⟨rfl, rfl⟩) (.inl ⟨rfl, rfl⟩) ⟨by omega, by omega, by omega⟩ (.slice (some ⟨bo, p, none⟩) (len - p) (cap - p)) (by rw [if_neg (by omega)]; simp [cQ])) ?_;refine aN rfl rfl rfl (bU bK rfl) ?_;refine aN rfl rfl rfl (o_min rfl rfl) ?_;refine d7 (kB ?_);refine aA rfl rfl rfl (aF rfl) ?_;refine aJ ?_;refine r_new ?_;refine cK (kh5 _ _ _ ?_);clear kh5;refine cB fun K6 kh6 => ?_;refine bB ?_;refine aO rfl rfl rfl rfl (aG rfl) ?_;refine aO rfl rfl rfl rfl (aM Tryz.isAgg25 rfl (rdA rfl)) ?_;refine aO rfl rfl rfl rfl (aG rfl) ?_;refine aO rfl rfl rfl rfl (aG rfl) ?_;refine aO rfl rfl rfl rfl (aG rfl) ?_;refine aO rfl rfl rfl rfl (bF rfl rfl _ (aT (by omega))) ?_;refine aO rfl rfl rfl rfl (aG rfl) ?_;refine aO rfl rfl rfl rfl (aG rfl) ?_;refine aO rfl rfl rfl rfl (bF rfl rfl _ (aT (by omega))) ?_;refine aO rfl rfl rfl rfl (eV bK rfl rfl rfl rfl (fun _ => rfl) p (p + min bd (len - p)) (p + min bd (len - p)) (.inr ⟨_, _, rfl, by omega⟩) (.inr ⟨_, _, rfl, by omega⟩) (.inr ⟨_, _, rfl, by omega⟩) ⟨by omega, by omega, by omega⟩ (ckEnc bo len bd p) (by rw [if_neg (by omega)]; simp [cQ, ckEnc])) ?_;refine d8 rfl rfl rfl (o_yield [mJ] _ rfl rfl (by repeat (first | exact Sub.refl | refine aD ?_)) (fun w_ hp_ => hY ys p w_ mJ hJ ⟨hp, by omega⟩ hp_.owns (fun k hk => hp_.fz k hk)) ?_);rintro v22 _ ⟨m2, rfl, hy2⟩
   obtain ⟨bb, rfl, hy3⟩ : ∃ bb, v22 = .bool bb ∧ ((bb = true ∧ J (ys ++ [p]) m2) ∨ (bb = false ∧ Jx (ys ++ [p]) m2)) := by
     rcases hy2 with ⟨rfl, h⟩ | ⟨rfl, h⟩
     · exact ⟨_, rfl, .inl ⟨rfl, h⟩⟩
     · exact ⟨_, rfl, .inr ⟨rfl, h⟩⟩
   dsimp only [List.cons_append, List.nil_append];refine aO rfl rfl rfl rfl (kR rfl) ?_;refine bQ ?_;refine cK (kh6 _ _ _ ?_);clear kh6;refine r_condB rfl (fun c30 => ?_) (fun c30 => ?_)
   ·
    refine jN ?_;refine r_br ?_;refine r_tr ?_;refine r_tr ?_;refine r_br ?_;have hJx2 : Jx (ys ++ [p]) m2 := (hy3.resolve_left (fun h => by rw [h.1] at c30; cases c30)).2
    exact r_fin0 [m2, [(bs, blk [.slice (some ⟨bo, 0, none⟩) len cap] 25)], [(bn, blk [.int .i64 (bd : Int)] 3)]] Tryz.results89 (by repeat first|exact aH|refine aD ?_|refine aB rfl ?_|refine aI ?_) ⟨rfl, m2, _, rfl, .inr ⟨_, rfl, hJx2⟩⟩
   ·
    have hJ2 : J (ys ++ [p]) m2 := (hy3.resolve_right (fun h => by rw [h.1] at c30; cases c30)).2
    refine fP ?_;refine r_bn ?_;refine cK (kh4 _ _ _ ?_);clear kh4;refine bB ?_;refine aO rfl rfl rfl rfl (aG rfl) ?_;refine aO rfl rfl rfl rfl (aM Tryz.isAgg3 rfl (rdA rfl)) ?_;refine aO rfl rfl rfl rfl (bF rfl rfl _ (aT (by omega))) ?_;refine aO rfl rfl rfl rfl (aF rfl) ?_;refine bQ ?_;refine cK (iX (p + bd, ys ++ [p], m2) (by first | omega | (dsimp only; omega) | (simp; omega)) rfl ⟨by rw [List.length_append, List.length_singleton, Nat.succ_mul]; omega, by omega, hJ2⟩ ?_ ?_ ?_)
    · exact (by repeat constructor)
    · exact (by repeat constructor)
    · repeat first|exact aH|refine aD ?_|refine aB rfl ?_|refine aI ?_
  · refine iQ ?_;refine r_te ?_;clear kh2;refine r_te ?_;refine r_be ?_;exact r_fin0n [mJ, [(bs, blk [.slice (some ⟨bo, 0, none⟩) len cap] 25)], [(bn, blk [.int .i64 (bd : Int)] 3)]] Tryz.results89 (by repeat first|exact aH|refine aD ?_|refine aB rfl ?_|refine aI ?_) ⟨rfl, mJ, _, rfl, .inl ⟨_, ⟨by omega, rfl⟩, hJ⟩⟩
end Go.Proofs.YtjjogcnjcnpehaaGreat

/- A region that draws its order, within a round or behind marks. -/
namespace Go.Proofs.YtjjogcnjcnpehaaGreat.Fly
open Go Go.RowKit
set_option linter.unusedVariables false
set_option linter.unusedSimpArgs false
set_option linter.unusedSectionVars false
def LQ (ds : List Deferred) (Q : Exit → Act → World → Prop) : Exit → Act → World → Prop
  | .normal, a, w => Q .normal { a with defers := a.defers ++ ds } w
  | _, _, _ => False
theorem lq_out {ds : List Deferred} {Q : Exit → Act → World → Prop} : ¬ LetsOut (jX (LQ ds Q)) := by
  rintro ⟨a, w, h⟩; exact h.elim
theorem put_app (a : Act) (ds : List Deferred) (d : Option Tmp) (v : Value) : ({ a with defers := a.defers ++ ds } : Act).put d v = { a.put d v with defers := (a.put d v).defers ++ ds } := by cases d <;> rfl
section
variable {P : Program} {rd : Option Nat} {ds : List Deferred} {Q : Exit → Act → World → Prop}
theorem op_lift {o : Oper} (hn : jQ o.op = true) {a : Act} {w : World} {K0 K : Act → World → Prop} (hK : ∀ a' w', K0 a' w' → K { a' with defers := a'.defers ++ ds } w')
    (h : o.wp P a w K0 (jX (LQ ds Q))) : o.wpIn (FW rd) 0 P { a with defers := a.defers ++ ds } w K Q := by
  unfold Oper.wp at h
  unfold Oper.wpIn
  refine ⟨fun _ _ => trivial, ?_⟩;rw [Oper.semAt_eq _ _ _ (fun c hc => by rw [hc] at hn; cases hn), j6]
  generalize (execOp a.eval o).run P w = r at h ⊢
  cases r with
  | halt hh w' => cases hh <;> simp only [Oper.upon] at h <;> exact h.elim
  | ok x w' =>
    cases x with
    | value v => show K _ w'; rw [put_app]; exact hK _ _ h
    | skip => show K _ w'; rw [put_app]; exact hK _ _ h
    | defer d =>
      have h1 : K0 (({ a with defers := d :: a.defers } : Act).put o.dst undef) w' := h
      have h2 := hK _ _ h1
      show K (({ a with defers := d :: (a.defers ++ ds) } : Act).put o.dst undef) w'
      have e : (({ a with defers := d :: (a.defers ++ ds) } : Act).put o.dst undef) = { ({ a with defers := d :: a.defers } : Act).put o.dst undef with defers := (({ a with defers := d :: a.defers } : Act).put o.dst undef).defers ++ ds } := by
        cases o.dst <;> rfl
      rw [e]; exact h2
    | enter f args =>
      have h1 : Calls P f args w' _ := h
      refine ⟨(fun h => by cases h), ?_⟩
      show CallsIn Fence.wide 0 P f args w' _
      refine callsIn_wide.2 (Calls.mono h1 ?_);intro e w'' he
      cases e with
      | returned v => show K _ w''; rw [put_app]; exact hK _ _ he
      | panicked ch => exact he.elim
      | outgrown => exact (lq_out he).elim
    | row r args =>
      have h1 : Rows P r args w' _ := h
      refine ⟨(fun h => by cases h), fun c cs _ => ?_⟩;obtain ⟨v, w'', hv, hst⟩ := h1 c cs
      refine ⟨v, w'', ?_, (stepsIn_wide (P := P)).2 hst⟩
      show K _ w''; rw [put_app]; exact hK _ _ hv
    | round l f tmps assign body => exact h.elim
    | _ => exact h.elim
theorem any_lift {ops : Array Oper} {S : World → Prop} (hn : ops.toList.all (fun o => jQ o.op) = true) : ∀ (fuel : Nat) (listed : Array Bool) (a : Act) (w : World),
    wpAnyH P .any ops (jX (LQ ds Q)) S fuel listed a w → wpAnyIn (FW rd) 0 P .any ops Q fuel listed { a with defers := a.defers ++ ds } w
  | 0, listed, a, w, h => h
  | fuel + 1, listed, a, w, h => by
    refine ⟨fun e => h.1 e, fun i hi => ?_⟩;have h2 := h.2 i hi
    unfold wpOp at h2
    unfold wpOpIn
    cases ho : ops[i]? with
    | none => rw [ho] at h2; exact any_lift hn fuel _ _ _ h2.2
    | some o =>
      rw [ho] at h2
      have hno : jQ o.op = true := by
        have := List.all_eq_true.1 hn o (by rw [← Array.mem_def]; exact Array.mem_of_getElem? ho)
        exact this
      dsimp only at h2 ⊢
      split
      · rename_i hw
        rw [if_pos hw] at h2
        rcases h2 with h2 | h2
        · exact op_lift hno (fun a' w' h' => any_lift hn fuel _ _ _ h'.2) h2
        · exact (lq_out h2.2).elim
      · rename_i hw
        rw [if_neg hw] at h2;refine ⟨fun _ _ => trivial, ?_⟩;rw [put_app]; exact any_lift hn fuel _ _ _ h2.2
end
section
variable {P : Program} {n : Nat} {S : Nat → Prop} {w0 : World} {rd : Option Nat} {mk : List Nat} {env : Env} {segs : List Seg} {Q : Exit → Act → World → Prop} {ops : Array Oper} {rest : List Oper} {o : Oper}
theorem r_regionH {id : Nat} {l : List Oper} (base : List Seg) (hm : P.follows .mixedOrders = true) (hn : l.all (fun o => jQ o.op) = true)
    (h : Wh P n S w0 l.toArray (LQ (coll mk) Q) base l.length (Array.replicate l.length false) env segs) : WcR P n S w0 rd mk Q env segs (.region id l.toArray true) := fun a w ha hp => by
  refine wpIn_region_any hm ?_;have h1 := h { a with defers := [] } { w with drawn := w.drawn + 1 } ha.base (hp.drew (w.drawn + 1) (Nat.le_succ _))
  have h2 := any_lift (rd := rd) (by simpa using hn) _ _ _ _ h1
  have e : ({ ({ a with defers := [] } : Act) with defers := ({ a with defers := [] } : Act).defers ++ coll mk } : Act) = a := by
    show ({ a with defers := [] ++ coll mk } : Act) = a
    rw [List.nil_append, ← ha.defers]
  rw [e] at h2
  simpa using h2
theorem r_back (h : WqR n S w0 mk (Q .normal) env segs) : Wq n S w0 (LQ (coll mk) Q .normal) env segs := fun a w ha hp => by
  refine h { a with defers := a.defers ++ coll mk } w ⟨ha.size, ?_, ha.get⟩ hp
  show a.defers ++ coll mk = coll mk
  rw [ha.defers, List.nil_append]
end
end Go.Proofs.YtjjogcnjcnpehaaGreat.Fly
