import Derived.Test.YtjjogcnjcnpehaaGreatAll9
import Derived.Test.YtjjogcnjcnpehaaGreatAll5
import Derived.Test.YtjjogcnjcnpehaaGreatAll8
import Derived.Test.YtjjogcnjcnpehaaGreatAll7

/- split.tidy, split.looked, natcut.Pairs, the order of seams, the least of them. -/
namespace Go.Proofs.YtjjogcnjcnpehaaGreat
open Go Go.RowKit Fly
set_option linter.unusedVariables false
set_option linter.unusedSimpArgs false
theorem kQ {E b c : Nat} {L L2 : List Int} {sp : List Value} (h : Own E 1 (.slice (some ⟨b, 0, none⟩) L.length c) L.length (aY L) [(b, blk (aY L ++ sp) E)]) (hl : L2.length = L.length) : Own E 1 (.slice (some ⟨b, 0, none⟩) L2.length c) L2.length (aY L2) [(b, blk (aY L2 ++ sp) E)] := by
  obtain ⟨_, h | ⟨b', c', sp', e, hm, h1, h2, h3⟩⟩ := h
  · obtain ⟨e, _⟩ := h; cases e
  · cases e
    have hsp : aY L ++ sp = aY L ++ sp' := by simpa using hm
    have hsp := List.append_cancel_left hsp
    subst hsp;exact ⟨by simp [aY], .inr ⟨b, c, sp, rfl, rfl, by omega, h2, by rw [hl]; exact h3⟩⟩
def spE (N : Int) (l : List Arc) (L : List Int) (bd : Int) : Int := if (d4 N l L).2 ≠ 0 then (d4 N l L).2 else if bd < 1 ∨ 1024 < bd then 1 else 0
/-- A seam: two labels, how many pairs. -/
abbrev Sm := Int × Int × Int
def kI (s : Sm) : List Value := [.int .i64 s.1, .int .i64 s.2.1, .int .i64 s.2.2]
theorem smCs_len (s : Sm) : (kI s).length = 3 := rfl
def jW (s t : Sm) : Int := if s.2.2 ≠ t.2.2 then t.2.2 - s.2.2 else if s.1 ≠ t.1 then s.1 - t.1 else s.2.1 - t.2.1
theorem befI_flip {s t : Sm} (h : ¬ jW s t < 0) : jW t s ≤ 0 := by
  unfold jW at h ⊢
  by_cases h1 : s.2.2 = t.2.2
  · rw [if_neg (by omega)] at h; rw [if_neg (by omega)]
    by_cases h2 : s.1 = t.1
    · rw [if_neg (by omega)] at h; rw [if_neg (by omega)]; omega
    · rw [if_pos (by omega)] at h; rw [if_pos (by omega)]; omega
  · rw [if_pos (by omega)] at h; rw [if_pos (by omega)]; omega
theorem befI_refl (s : Sm) : jW s s ≤ 0 := by unfold jW; simp
theorem befI_trans {s t u : Sm} (h : jW s t < 0) (h' : jW t u ≤ 0) : jW s u ≤ 0 := by
  unfold jW at h h' ⊢
  by_cases h1 : s.2.2 = t.2.2
  · rw [if_neg (by omega)] at h
    by_cases h2 : t.2.2 = u.2.2
    · rw [if_neg (by omega)] at h' ⊢
      by_cases h3 : s.1 = t.1
      · rw [if_neg (by omega)] at h
        by_cases h4 : t.1 = u.1
        · rw [if_neg (by omega)] at h'; rw [if_neg (by omega)]; omega
        · rw [if_pos (by omega)] at h'; rw [if_pos (by omega)]; omega
      · rw [if_pos (by omega)] at h
        by_cases h4 : t.1 = u.1
        · rw [if_pos (by omega)]; omega
        · rw [if_pos (by omega)] at h'; rw [if_pos (by omega)]; omega
    · rw [if_pos (by omega)] at h' ⊢; omega
  · rw [if_pos (by omega)] at h
    by_cases h2 : t.2.2 = u.2.2
    · rw [if_pos (by omega)]; omega
    · rw [if_pos (by omega)] at h'; rw [if_pos (by omega)]; omega
theorem take_all {l : List Sm} {s : Sm} {i : Nat} (hi : i < l.length) (h : ∀ t ∈ l.take i, jW s t ≤ 0) : (jW l[i] s < 0 → ∀ t ∈ l.take (i + 1), jW l[i] t ≤ 0) ∧ (¬ jW l[i] s < 0 → ∀ t ∈ l.take (i + 1), jW s t ≤ 0) := by
  rw [List.take_succ_eq_append_getElem hi];constructor
  · intro h1 t ht
    rcases List.mem_append.1 ht with ht | ht
    · exact befI_trans h1 (h t ht)
    · obtain rfl := List.mem_singleton.1 ht; exact befI_refl _
  · intro h1 t ht
    rcases List.mem_append.1 ht with ht | ht
    · exact h t ht
    · obtain rfl := List.mem_singleton.1 ht; exact befI_flip h1
def SmOk (s : Sm) : Prop := (0 ≤ s.1 ∧ s.1 ≤ 1048576) ∧ (0 ≤ s.2.1 ∧ s.2.1 ≤ 1048576) ∧ 0 ≤ s.2.2 ∧ s.2.2 ≤ 1048576
set_option maxRecDepth 100000 in
set_option maxHeartbeats 4000000 in
theorem tidy_spec (bl c : Nat) (L : List Int) (spl : List Value) (w : World) (hn : L.length ≤ 1024) (h0 : 0 < L.length) (hlo : Own 3 1 (.slice (some ⟨bl, 0, none⟩) L.length c) L.length (aY L) [(bl, blk (aY L ++ spl) 3)]) (ho : Owns w [[(bl, blk (aY L ++ spl) 3)]]) :
    Meets Tryz.prog 46 [.slice (some ⟨bl, 0, none⟩) L.length c] w [[(bl, blk (aY L ++ spl) 3)]] (fun u own' => u = .tuple #[] ∧ own' = [[(bl, blk (aY (tdy L) ++ spl) 3)]] ∧ Own 3 1 (.slice (some ⟨bl, 0, none⟩) (tdy L).length c) (tdy L).length (aY (tdy L)) [(bl, blk (aY (tdy L) ++ spl) 3)]) := by
 refine bM Tryz.func46 rfl Tryz.ntmps46 rfl ho ?_;refine aK fun K1 kh1 => ?_;refine aC ?_;refine aU rfl rfl rfl (iA fun b7 => ?_);refine aA rfl rfl rfl (aF rfl) ?_;refine aJ ?_;refine aL (kh1 _ _ ?_);clear kh1;refine aK fun K2 kh2 => ?_;refine aC ?_;refine aA rfl rfl rfl (aG rfl) ?_;refine aA rfl rfl rfl (bU bK rfl) ?_;refine aA rfl rfl rfl (aG rfl) ?_;refine aJ ?_;refine aL (kh2 _ _ ?_);clear kh2;refine aZ ?_;refine cS (α := Nat × List (Int × Value × Nat) × Nat) [0, 2, 8, 9] (fun ⟨k, ents, c1⟩ => [(10, .int .i64 (k : Int))]) (fun ⟨k, ents, c1⟩ => [[(bl, blk (aY (i1 L k) ++ spl) 3)], [(b7, fU (fun x : Int => .int .i64 x) ents c1)]]) (fun ⟨k, ents, c1⟩ => k ≤ L.length ∧ MOk ents c1 ∧ Nums (sns (L.take k)) ents) (fun ⟨k, ents, c1⟩ => L.length - k) (0, [], 0) ?_ ?_ ?_ ?_
 · exact (by repeat constructor)
 · dsimp only
   rw [tdyTo_zero]
   repeat first|exact aH|refine aD ?_|refine aB rfl ?_|refine aI ?_
 · exact ⟨by omega, MOk.nil, Nums.nil⟩
 ·
  rintro ⟨k, ents, c1⟩ ⟨hkn, hmap, hNm⟩;refine aK fun K3 kh3 => ?_;refine aC ?_;refine aA rfl rfl rfl (cE rfl rfl) ?_;refine aJ ?_;refine aL (kh3 _ _ ?_);clear kh3;refine aK fun K4 kh4 => ?_;refine a6 rfl (fun c11 => ?_) (fun c11 => ?_)
  ·
   have hk : k < L.length := by omega
   have hsn := jL hk
   have hsl := sns_len (L := L) (k := k) (by omega)
   refine aV ?_;refine aL (kh4 _ _ ?_);clear kh4;refine aK fun K5 kh5 => ?_;refine aZ ?_;refine aK fun K6 kh6 => ?_;refine aC ?_;refine aA rfl rfl rfl (aG rfl) ?_;refine aA rfl rfl rfl (a8 bK rfl rfl (k) ⟨by omega, by omega, by first | omega | (simp; done) | (simp; omega)⟩) ?_;refine aA rfl rfl rfl (aM Tryz.isAgg3 rfl (rdA (v := .int .i64 L[k]) (dP (by rw [dO (by rw [fN]; exact hk), tdyTo_get hk])))) ?_;refine aA rfl rfl rfl (aF rfl) ?_;refine aA rfl rfl rfl (aF rfl) ?_;refine aJ ?_;refine aL (kh6 _ _ ?_);clear kh6;refine aK fun K7 kh7 => ?_;refine aC ?_;refine aA rfl rfl rfl (aG rfl) ?_;refine aA rfl rfl rfl (aG rfl) ?_;refine aA rfl rfl rfl (o_lookup2 kt86 Tryz.zeroValue3 rfl rfl rfl (.int .i64 (if L[k] ∈ sns (L.take k) then (((sns (L.take k)).idxOf L[k] : Nat) : Int) else 0)) (by rw [hNm.2]; split <;> rfl) (decide (L[k] ∈ sns (L.take k))) (by rw [hNm.2]; split <;> simp_all)) ?_;refine aA rfl rfl rfl (aG rfl) ?_;refine aA rfl rfl rfl (aW rfl rfl) ?_;refine aA rfl rfl rfl (aW rfl rfl) ?_;refine aA rfl rfl rfl (aF rfl) ?_;refine aA rfl rfl rfl (aF rfl) ?_;refine aJ ?_;refine aL (kh7 _ _ ?_);clear kh7;refine aK fun K8 kh8 => ?_;refine aK fun K9 kh9 => ?_;refine aC ?_;refine aA rfl rfl rfl (aG rfl) ?_;refine aA rfl rfl rfl (kR rfl) ?_;refine aJ ?_;refine aL (kh9 _ _ ?_);clear kh9;refine e9 rfl (fun c22 => ?_) (fun c22 => ?_)
   ·
    have hx : L[k] ∉ sns (L.take k) := by simpa using c22
    rw [if_neg hx] at hsn;have hjt : ents.length = (sns (L.take (k + 1))).idxOf L[k] := by rw [hsn, List.idxOf_append, if_neg hx, hNm.1]; simp
    refine aK fun K10 kh10 => ?_;refine aC ?_;refine aA rfl rfl rfl (aG rfl) ?_;refine aA rfl rfl rfl (o_lenM kt86.und rfl) ?_;refine aA rfl rfl rfl (aF rfl) ?_;refine aJ ?_;refine aL (kh10 _ _ ?_);clear kh10;refine aC ?_;refine aA rfl rfl rfl (aG rfl) ?_;refine aA rfl rfl rfl (aG rfl) ?_;refine aA rfl rfl rfl (aG rfl) ?_;refine bH rfl rfl (gG kt86 rfl rfl rfl rfl ?_);refine aJ ?_;refine aL (kh8 _ _ ?_);clear kh8;refine aC ?_;refine aA rfl rfl rfl (aG rfl) ?_;refine aA rfl rfl rfl (aG rfl) ?_;refine aA rfl rfl rfl (aG rfl) ?_;refine aA rfl rfl rfl (a8 bK rfl rfl (k) ⟨by omega, by omega, by first | omega | (simp; done) | (simp; omega)⟩) ?_;refine bH rfl rfl (bY Tryz.sizeOf3 rfl rfl rfl rfl (by rw [List.length_append, aX, fN]; omega) (aY (i1 L (k + 1)) ++ spl) (by rw [k8 hk hjt, List.set_append_left _ _ (by rw [aX, fN]; omega)]; simp [aY, List.map_set]) ?_);refine aJ ?_;refine cU ?_;refine aL (kh5 _ _ ?_);clear kh5;refine aC ?_;refine aA rfl rfl rfl (bF rfl rfl _ (aT (by omega))) ?_;refine aA rfl rfl rfl (aG rfl) ?_;refine aJ ?_;refine aL (bA (k + 1, eS ents L[k] (.int .i64 (ents.length : Int)) c1, e7 ents L[k] c1) (by first | omega | (dsimp only; omega) | (simp; omega)) ⟨by omega, hmap.put _ _, by rw [hsn]; have := hNm.add hx c1; rw [← hNm.1] at this; exact this⟩ ?_ ?_ ?_)
    · exact (by repeat constructor)
    · exact (by repeat constructor)
    · repeat first|exact aH|refine aD ?_|refine aB rfl ?_|refine aI ?_
   ·
    have hx : L[k] ∈ sns (L.take k) := by simpa using c22
    rw [if_pos hx] at hsn;have hjf : (sns (L.take k)).idxOf L[k] = (sns (L.take (k + 1))).idxOf L[k] := by rw [hsn]
    refine f_reC 5 rfl (v := .int .i64 (((sns (L.take k)).idxOf L[k] : Nat) : Int)) (by rw [if_pos hx]) ?_;refine aV ?_;refine aL (kh8 _ _ ?_);clear kh8;refine aC ?_;refine aA rfl rfl rfl (aG rfl) ?_;refine aA rfl rfl rfl (aG rfl) ?_;refine aA rfl rfl rfl (aG rfl) ?_;refine aA rfl rfl rfl (a8 bK rfl rfl (k) ⟨by omega, by omega, by first | omega | (simp; done) | (simp; omega)⟩) ?_;refine bH rfl rfl (bY Tryz.sizeOf3 rfl rfl rfl rfl (by rw [List.length_append, aX, fN]; omega) (aY (i1 L (k + 1)) ++ spl) (by rw [k8 hk hjf, List.set_append_left _ _ (by rw [aX, fN]; omega)]; simp [aY, List.map_set]) ?_);refine aJ ?_;refine cU ?_;refine aL (kh5 _ _ ?_);clear kh5;refine aC ?_;refine aA rfl rfl rfl (bF rfl rfl _ (aT (by omega))) ?_;refine aA rfl rfl rfl (aG rfl) ?_;refine aJ ?_;refine aL (bA (k + 1, ents, c1) (by first | omega | (dsimp only; omega) | (simp; omega)) ⟨by omega, hmap, by rw [hsn]; exact hNm⟩ ?_ ?_ ?_)
    · exact (by repeat constructor)
    · exact (by repeat constructor)
    · repeat first|exact aH|refine aD ?_|refine aB rfl ?_|refine aI ?_
  ·
   refine cG ?_;refine cH ?_;clear kh4;refine cH ?_;refine eB ?_;obtain rfl : k = L.length := by omega
   exact f_fin0n [[(bl, blk (aY (tdy L) ++ spl) 3)]] Tryz.results46 (by dsimp only; rw [tdyTo_all]; exact (by repeat (first | exact aH | refine aD ?_ | refine aB rfl ?_))) ⟨rfl, rfl, kQ hlo (eM L)⟩
set_option maxRecDepth 100000 in
set_option maxHeartbeats 4000000 in
theorem splook_spec (N : Int) (A B : Option Addr) (l : List Arc) (cap : Nat) (L : List Int) (cb : Nat) (bd : Int) (w : World) (hr : Ro (Fr w []) w A (l.flatMap cD)) (hl : l.length ≤ 9223372036854775807) (hN : I64 N) (hok : ∀ x ∈ l, dV x) (hL : Ro (Fr w []) w B (aY L)) (hm : L.length ≤ 9223372036854775807) :
    Meets Tryz.prog 39 [.agg #[.int .i64 N, .slice A l.length cap], .slice B L.length cb, .int .i64 bd] w [] (fun u own' => u = .int .i64 (spE N l L bd) ∧ own' = []) := by
 refine bM Tryz.func39 rfl Tryz.ntmps39 rfl Owns.nil ?_;refine aK fun K1 kh1 => ?_;refine aC ?_;refine aU rfl rfl rfl (dA rfl rfl fun b3 => ?_);refine aA rfl rfl rfl (aF rfl) ?_;refine aJ ?_;refine aL (kh1 _ _ ?_);clear kh1;refine aK fun K2 kh2 => ?_;refine aK fun K3 kh3 => ?_;refine aC ?_;refine aA rfl rfl rfl (bD (vs := [_, _]) Tryz.isAgg24 Tryz.sizeOf24 rfl rfl ⟨(rdA rfl), (rdA rfl), trivial⟩) ?_;refine aA rfl rfl rfl (aG rfl) ?_;refine aU rfl rfl rfl (bE Tryz.call47 rfl (fun w_ hp_ => Count_spec N A B l cap L cb w_ (hr.up0 hp_) hl hN hok (hL.up0 hp_) hm) ?_);rintro _ _ ⟨rfl, rfl⟩;dsimp only [List.cons_append, List.nil_append];refine aA rfl rfl rfl (aG rfl) ?_;refine aA rfl rfl rfl (aW rfl rfl) ?_;refine aA rfl rfl rfl (aW rfl rfl) ?_;refine aA rfl rfl rfl (aF rfl) ?_;refine aA rfl rfl rfl (aF rfl) ?_;refine aJ ?_;refine aL (kh3 _ _ ?_);clear kh3;refine aK fun K4 kh4 => ?_;refine aC ?_;refine aA rfl rfl rfl (aG rfl) ?_;refine aA rfl rfl rfl (dC rfl rfl) ?_;refine aJ ?_;refine aL (kh4 _ _ ?_);clear kh4;refine a6 rfl (fun c16 => ?_) (fun c16 => ?_)
 ·
  refine aK fun K5 kh5 => ?_;refine aC ?_;refine aA rfl rfl rfl (aG rfl) ?_;refine aA rfl rfl rfl (aF rfl) ?_;refine aJ ?_;refine aL (kh5 _ _ ?_);clear kh5;refine a7 ?_;refine bS ?_;exact bJ [] Tryz.results39 rfl aH ⟨by unfold spE; rw [if_pos c16], rfl⟩
 ·
  refine aV ?_;refine aL (kh2 _ _ ?_);clear kh2;refine aK fun K6 kh6 => ?_;refine aK fun K7 kh7 => ?_;refine aC ?_;refine aA rfl rfl rfl (aG rfl) ?_;refine aA rfl rfl rfl (cE rfl rfl) ?_;refine aA rfl rfl rfl (aG rfl) ?_;refine cT 20 rfl (fun g20 => ?_) (fun g20 => ?_)
  ·
   refine aR rfl rfl rfl rfl rfl rfl ?_;refine aR rfl rfl rfl rfl rfl rfl ?_;refine aA rfl rfl rfl (bX rfl rfl) ?_;refine aJ ?_;refine aL (kh7 _ _ ?_);clear kh7;refine d5 rfl ?_;refine aK fun K8 kh8 => ?_;refine aC ?_;refine aA rfl rfl rfl (aF rfl) ?_;refine aJ ?_;refine aL (kh8 _ _ ?_);clear kh8;refine a7 ?_;refine bS ?_;exact bJ [] Tryz.results39 rfl aH ⟨by unfold spE; rw [if_neg c16, if_pos (by omega)], rfl⟩
  ·
   refine aQ rfl rfl rfl rfl rfl (aG rfl) ?_;refine aQ rfl rfl rfl rfl rfl (eL rfl rfl) ?_;refine aA rfl rfl rfl (cL rfl rfl) ?_;refine aJ ?_;refine aL (kh7 _ _ ?_);clear kh7;refine a6 rfl (fun c23 => ?_) (fun c23 => ?_)
   ·
    refine aK fun K9 kh9 => ?_;refine aC ?_;refine aA rfl rfl rfl (aF rfl) ?_;refine aJ ?_;refine aL (kh9 _ _ ?_);clear kh9;refine a7 ?_;refine bS ?_;exact bJ [] Tryz.results39 rfl aH ⟨by unfold spE; rw [if_neg c16, if_pos (by omega)], rfl⟩
   ·
    refine aV ?_;refine aL (kh6 _ _ ?_);clear kh6;refine aK fun K10 kh10 => ?_;refine aC ?_;refine aA rfl rfl rfl (aF rfl) ?_;refine aJ ?_;refine aL (kh10 _ _ ?_);clear kh10;refine a7 ?_;exact bJ [] Tryz.results39 rfl aH ⟨by unfold spE; rw [if_neg c16, if_neg (by omega)], rfl⟩
set_option maxRecDepth 100000 in
set_option maxHeartbeats 4000000 in
theorem Pairs_spec (N : Int) (A : Option Addr) (l : List Arc) (cap : Nat) (w : World) (hr : Ro (Fr w []) w A (l.flatMap cD)) (hl : l.length ≤ 9223372036854775807) (hN : I64 N) (hok : ∀ x ∈ l, dV x) :
    Meets Tryz.prog 42 [.agg #[.int .i64 N, .slice A l.length cap]] w [] (fun u own' => if (bG N l).2 = 0 then ∃ A' m' c, u = .tuple #[.slice A' (prs N.toNat l).length (prs N.toNat l).length, .int .i64 0] ∧ own' = [m'] ∧ Own 95 2 (.slice A' (prs N.toNat l).length c) (prs N.toNat l).length ((prs N.toNat l).flatMap dN) m' else u = .tuple #[.slice none 0 0, .int .i64 (bG N l).2] ∧ own' = []) := by
 refine bM Tryz.func42 rfl Tryz.ntmps42 rfl Owns.nil ?_;refine aK fun K1 kh1 => ?_;refine aC ?_;refine aU rfl rfl rfl (dA rfl rfl fun b1 => ?_);refine aA rfl rfl rfl (aF rfl) ?_;refine aA rfl rfl rfl (aF rfl) ?_;refine aJ ?_;refine aL (kh1 _ _ ?_);clear kh1;refine aK fun K2 kh2 => ?_;refine aK fun K3 kh3 => ?_;refine aC ?_;refine aA rfl rfl rfl (bD (vs := [_, _]) Tryz.isAgg24 Tryz.sizeOf24 rfl rfl ⟨(rdA rfl), (rdA rfl), trivial⟩) ?_;refine aU rfl rfl rfl (bE Tryz.call21 rfl (fun w_ hp_ => e8 N A l cap w_ (hr.up0 hp_) hl hN hok) ?_);rintro _ _ ⟨rfl, rfl⟩;dsimp only [List.cons_append, List.nil_append];refine aA rfl rfl rfl (aG rfl) ?_;refine aA rfl rfl rfl (aW rfl rfl) ?_;refine aA rfl rfl rfl (aW rfl rfl) ?_;refine aA rfl rfl rfl (aF rfl) ?_;refine aA rfl rfl rfl (aF rfl) ?_;refine aJ ?_;refine aL (kh3 _ _ ?_);clear kh3;refine aK fun K4 kh4 => ?_;refine aC ?_;refine aA rfl rfl rfl (aG rfl) ?_;refine aA rfl rfl rfl (dC rfl rfl) ?_;refine aJ ?_;refine aL (kh4 _ _ ?_);clear kh4;refine a6 rfl (fun c12 => ?_) (fun c12 => ?_)
 ·
  refine aK fun K5 kh5 => ?_;refine aC ?_;refine aA rfl rfl rfl (aG rfl) ?_;refine aA rfl rfl rfl (aF rfl) ?_;refine aA rfl rfl rfl (aF rfl) ?_;refine aJ ?_;refine aL (kh5 _ _ ?_);clear kh5;refine a7 ?_;refine bS ?_;exact bZ [] Tryz.results42 rfl rfl aH (by rw [if_neg c12]; exact ⟨rfl, rfl⟩)
 ·
  have hg : (bG N l).2 = 0 := by simpa using c12
  obtain ⟨n, rfl⟩ : ∃ n : Nat, N = (n : Int) := ⟨N.toNat, by have := bT hg; omega⟩
  refine aV ?_;refine aL (kh2 _ _ ?_);clear kh2;refine aK fun K6 kh6 => ?_;refine aC ?_;refine aA rfl rfl rfl (bD (vs := [_, _]) Tryz.isAgg24 Tryz.sizeOf24 rfl rfl ⟨(rdA rfl), (rdA rfl), trivial⟩) ?_;refine aU rfl rfl rfl (bE Tryz.call66 rfl (fun w_ hp_ => pairs_spec n A l cap w_ (hr.up0 hp_) hg) ?_);rintro _ _ ⟨A', m', rfl, rfl, c', hO⟩;dsimp only [List.cons_append, List.nil_append];refine aA rfl rfl rfl (aF rfl) ?_;refine aA rfl rfl rfl (aF rfl) ?_;refine aJ ?_;refine aL (kh6 _ _ ?_);clear kh6;refine a7 ?_;exact bZ [m'] Tryz.results42 rfl rfl (by repeat (first | exact aH | refine aD ?_ | refine aB rfl ?_)) (by rw [if_pos hg, Int.toNat_natCast]; exact ⟨A', m', c', rfl, rfl, hO⟩)
set_option maxRecDepth 100000 in
set_option maxHeartbeats 4000000 in
theorem before_spec (s t : Sm) (w : World) (hs : SmOk s) (ht : SmOk t) :
    Meets Tryz.prog 45 [.agg (kI s).toArray, .agg (kI t).toArray] w [] (fun u own' => u = .int .i64 (jW s t) ∧ own' = []) := by
 unfold SmOk at hs ht
 refine bM Tryz.func45 rfl Tryz.ntmps45 rfl Owns.nil ?_;refine aK fun K1 kh1 => ?_;refine aC ?_;refine aU rfl rfl rfl (dA rfl rfl fun b2 => ?_);refine aU rfl rfl rfl (dA rfl rfl fun b3 => ?_);refine aA rfl rfl rfl (aF rfl) ?_;refine aJ ?_;refine aL (kh1 _ _ ?_);clear kh1;refine aK fun K2 kh2 => ?_;refine aZ ?_;refine aK fun K3 kh3 => ?_;refine aC ?_;refine aA rfl rfl rfl (aP fa79_2 rfl) ?_;refine aA rfl rfl rfl (aM Tryz.isAgg3 rfl (rdA rfl)) ?_;refine aA rfl rfl rfl (aP fa79_2 rfl) ?_;refine aA rfl rfl rfl (aM Tryz.isAgg3 rfl (rdA rfl)) ?_;refine aA rfl rfl rfl (dC rfl rfl) ?_;refine aA rfl rfl rfl (aF rfl) ?_;refine aJ ?_;refine aL (kh3 _ _ ?_);clear kh3;refine a6 rfl (fun c5 => ?_) (fun c5 => ?_)
 ·
  refine aK fun K4 kh4 => ?_;refine aC ?_;refine aA rfl rfl rfl (aP fa79_2 rfl) ?_;refine aA rfl rfl rfl (aM Tryz.isAgg3 rfl (rdA rfl)) ?_;refine aA rfl rfl rfl (aP fa79_2 rfl) ?_;refine aA rfl rfl rfl (aM Tryz.isAgg3 rfl (rdA rfl)) ?_;refine aA rfl rfl rfl (gW rfl rfl _ (aT (by omega))) ?_;refine aA rfl rfl rfl (aF rfl) ?_;refine aJ ?_;refine aL (kh4 _ _ ?_);clear kh4;refine a7 ?_;refine d3 ?_;refine bS ?_;exact bJ [] Tryz.results45 rfl aH ⟨by unfold jW; rw [if_pos (by omega)], rfl⟩
 ·
  refine aK fun K5 kh5 => ?_;refine aC ?_;refine aA rfl rfl rfl (aP fa79_0 rfl) ?_;refine aA rfl rfl rfl (aM Tryz.isAgg3 rfl (rdA rfl)) ?_;refine aA rfl rfl rfl (aP fa79_0 rfl) ?_;refine aA rfl rfl rfl (aM Tryz.isAgg3 rfl (rdA rfl)) ?_;refine aA rfl rfl rfl (dC rfl rfl) ?_;refine aA rfl rfl rfl (aF rfl) ?_;refine aJ ?_;refine aL (kh5 _ _ ?_);clear kh5;refine a6 rfl (fun c16 => ?_) (fun c16 => ?_)
  ·
   refine aK fun K6 kh6 => ?_;refine aC ?_;refine aA rfl rfl rfl (aP fa79_0 rfl) ?_;refine aA rfl rfl rfl (aM Tryz.isAgg3 rfl (rdA rfl)) ?_;refine aA rfl rfl rfl (aP fa79_0 rfl) ?_;refine aA rfl rfl rfl (aM Tryz.isAgg3 rfl (rdA rfl)) ?_;refine aA rfl rfl rfl (gW rfl rfl _ (aT (by omega))) ?_;refine aA rfl rfl rfl (aF rfl) ?_;refine aJ ?_;refine aL (kh6 _ _ ?_);clear kh6;refine a7 ?_;refine d3 ?_;refine bS ?_;exact bJ [] Tryz.results45 rfl aH ⟨by unfold jW; rw [if_neg (by omega), if_pos (by omega)], rfl⟩
  ·
   refine aV ?_;refine cU ?_;refine aL (kh2 _ _ ?_);clear kh2;refine aK fun K7 kh7 => ?_;refine aC ?_;refine aA rfl rfl rfl (aP fa79_1 rfl) ?_;refine aA rfl rfl rfl (aM Tryz.isAgg3 rfl (rdA rfl)) ?_;refine aA rfl rfl rfl (aP fa79_1 rfl) ?_;refine aA rfl rfl rfl (aM Tryz.isAgg3 rfl (rdA rfl)) ?_;refine aA rfl rfl rfl (gW rfl rfl _ (aT (by omega))) ?_;refine aA rfl rfl rfl (aF rfl) ?_;refine aJ ?_;refine aL (kh7 _ _ ?_);clear kh7;refine a7 ?_;exact bJ [] Tryz.results45 rfl aH ⟨by unfold jW; rw [if_neg (by omega), if_neg (by omega)], rfl⟩
set_option maxRecDepth 100000 in
set_option maxHeartbeats 4000000 in
theorem MinF_spec (A : Option Addr) (cap : Nat) (l : List Sm) (w : World) (hr : Ro (Fr w []) w A (l.flatMap kI)) (h0 : 0 < l.length) (hl : l.length ≤ 9223372036854775807) (hok : ∀ s ∈ l, SmOk s) :
    Meets Tryz.prog 44 [.slice A l.length cap, .func (.func 45) #[] #[]] w [] (fun u own' => ∃ s, u = .agg (kI s).toArray ∧ s ∈ l ∧ (∀ t ∈ l, jW s t ≤ 0) ∧ own' = []) := by
 obtain ⟨bq, off, rfl, hS, hc⟩ := hr (fX kI smCs_len (by omega) h0)
 refine bM Tryz.func44 rfl Tryz.ntmps44 rfl Owns.nil ?_;refine aK fun K1 kh1 => ?_;refine aC ?_;refine aU rfl rfl rfl (cV Tryz.zeroValue79 rfl fun b4 => ?_);refine aJ ?_;refine aL (kh1 _ _ ?_);clear kh1;refine aK fun K2 kh2 => ?_;refine aK fun K3 kh3 => ?_;refine aC ?_;refine aA rfl rfl rfl (aG rfl) ?_;refine aA rfl rfl rfl (bU sl76 rfl) ?_;refine aA rfl rfl rfl (cE rfl rfl) ?_;refine aJ ?_;refine aL (kh3 _ _ ?_);clear kh3;refine gD rfl (by omega) ?_;refine aV ?_;refine aL (kh2 _ _ ?_);clear kh2;refine aK fun K4 kh4 => ?_;refine aC ?_;refine aA rfl rfl rfl (aG rfl) ?_;refine aA rfl rfl rfl (a8 sl76 rfl rfl (off + 0 * 3) ⟨by omega, by omega, by first | omega | (simp; done) | (simp; omega)⟩) ?_;refine aA rfl rfl rfl (bD (vs := kI l[0]) Tryz.isAgg79 Tryz.sizeOf79 rfl rfl (gF smCs_len hS hc h0)) ?_;refine aU rfl rfl rfl (cV Tryz.zeroValue79 rfl fun b5 => ?_);refine bH rfl rfl (cN Tryz.sizeOf79 rfl rfl rfl rfl (by first | exact Nat.le_of_ble_eq_true rfl | (simp; done) | (simp; omega)) (kI l[0]) rfl ?_);refine aJ ?_;refine aL (kh4 _ _ ?_);clear kh4;refine aK fun K5 kh5 => ?_;refine aK fun K6 kh6 => ?_;refine aC ?_;refine aA rfl rfl rfl (aF rfl) ?_;refine aJ ?_;refine aL (kh6 _ _ ?_);clear kh6;refine aZ ?_;refine cS (α := Nat × Sm) [0, 1, 4, 5] (fun ⟨i, s⟩ => [(6, .int .i64 (i : Int))]) (fun ⟨i, s⟩ => [[(b5, blk (kI s) 79)], [(b4, blk [.int .i64 0, .int .i64 0, .int .i64 0] 79)]]) (fun ⟨i, s⟩ => i ≤ l.length ∧ s ∈ l ∧ ∀ t ∈ l.take i, jW s t ≤ 0) (fun ⟨i, s⟩ => l.length - i) (1, l[0]) ?_ ?_ ?_ ?_
 · exact (by repeat constructor)
 · repeat first|exact aH|refine aD ?_|refine aB rfl ?_|refine aI ?_
 · exact ⟨by omega, List.getElem_mem h0, fun t ht => by rw [List.take_succ_eq_append_getElem h0] at ht; simp at ht; subst ht; exact befI_refl _⟩
 ·
  rintro ⟨i, s⟩ ⟨hil, hs, hbs⟩;refine aK fun K7 kh7 => ?_;refine aK fun K8 kh8 => ?_;refine aC ?_;refine aA rfl rfl rfl (aG rfl) ?_;refine aA rfl rfl rfl (aG rfl) ?_;refine aA rfl rfl rfl (bU sl76 rfl) ?_;refine aA rfl rfl rfl (cE rfl rfl) ?_;refine aJ ?_;refine aL (kh8 _ _ ?_);clear kh8;refine a6 rfl (fun c17 => ?_) (fun c17 => ?_)
  ·
   have hi : i < l.length := by omega
   have htk := take_all hi hbs
   refine aV ?_;refine aL (kh7 _ _ ?_);clear kh7;refine aK fun K9 kh9 => ?_;refine aZ ?_;refine aK fun K10 kh10 => ?_;refine dF [[(b5, blk (kI s) 79)]] rfl ?_;refine aS 0 rfl (by decide +kernel) rfl rfl rfl (by repeat first|exact aH|refine aD ?_|refine aB rfl ?_|refine aI ?_) (aG rfl) ?_;refine aS 1 rfl (by decide +kernel) rfl rfl rfl (by repeat first|exact aH|refine aD ?_|refine aB rfl ?_|refine aI ?_) (aG rfl) ?_;refine aS 2 rfl (by decide +kernel) rfl rfl rfl (by repeat first|exact aH|refine aD ?_|refine aB rfl ?_|refine aI ?_) (aG rfl) ?_;refine aS 3 rfl (by decide +kernel) rfl rfl rfl (by repeat first|exact aH|refine aD ?_|refine aB rfl ?_|refine aI ?_) (a8 sl76 rfl rfl (off + i * 3) ⟨by omega, by omega, by first | omega | (simp; done) | (simp; omega)⟩) ?_;refine aS 4 rfl (by decide +kernel) rfl rfl rfl (by repeat first|exact aH|refine aD ?_|refine aB rfl ?_|refine aI ?_) (bD (vs := kI l[i]) Tryz.isAgg79 Tryz.sizeOf79 rfl rfl (gF smCs_len hS hc hi)) ?_;refine aS 5 rfl (by decide +kernel) rfl rfl rfl (by repeat first|exact aH|refine aD ?_|refine aB rfl ?_|refine aI ?_) (bD (vs := [_, _, _]) Tryz.isAgg79 Tryz.sizeOf79 rfl rfl ⟨(rdA rfl), (rdA rfl), (rdA rfl), trivial⟩) ?_;refine bP 6 rfl (by decide +kernel) rfl rfl rfl (lG [] _ Tryz.call45 rfl rfl Sub.refl (fun w_ hp_ => (by have h := before_spec l[i] s w_ (hok _ (List.getElem_mem hi)) (hok _ hs); exact h)) ?_);rintro _ _ ⟨rfl, rfl⟩;dsimp only [List.cons_append, List.nil_append];refine ⟨(by repeat first|exact aH|refine aD ?_|refine aB rfl ?_|refine aI ?_), ?_⟩;refine aS 7 rfl (by decide +kernel) rfl rfl rfl (by repeat first|exact aH|refine aD ?_|refine aB rfl ?_|refine aI ?_) (cE rfl rfl) ?_;refine dB (by decide +kernel) ?_;refine aL (kh10 _ _ ?_);clear kh10;refine a6 rfl (fun c27 => ?_) (fun c27 => ?_)
   ·
    refine aC ?_;refine aA rfl rfl rfl (aG rfl) ?_;refine aA rfl rfl rfl (aG rfl) ?_;refine aA rfl rfl rfl (a8 sl76 rfl rfl (off + i * 3) ⟨by omega, by omega, by first | omega | (simp; done) | (simp; omega)⟩) ?_;refine aA rfl rfl rfl (bD (vs := kI l[i]) Tryz.isAgg79 Tryz.sizeOf79 rfl rfl (gF smCs_len hS hc hi)) ?_;refine bH rfl rfl (cN Tryz.sizeOf79 rfl rfl rfl rfl (by first | exact Nat.le_of_ble_eq_true rfl | (simp; done) | (simp; omega)) (kI l[i]) rfl ?_);refine aJ ?_;refine cU ?_;refine aL (kh9 _ _ ?_);clear kh9;refine aC ?_;refine aA rfl rfl rfl (aG rfl) ?_;refine aA rfl rfl rfl (bF rfl rfl _ (aT (by omega))) ?_;refine aA rfl rfl rfl (aF rfl) ?_;refine aJ ?_;refine aL (bA (i + 1, l[i]) (by first | omega | (dsimp only; omega) | (simp; omega)) ⟨by omega, List.getElem_mem hi, htk.1 (by omega)⟩ ?_ ?_ ?_)
    · exact (by repeat constructor)
    · exact (by repeat constructor)
    · repeat first|exact aH|refine aD ?_|refine aB rfl ?_|refine aI ?_
   ·
    refine aV ?_;refine cU ?_;refine aL (kh9 _ _ ?_);clear kh9;refine aC ?_;refine aA rfl rfl rfl (aG rfl) ?_;refine aA rfl rfl rfl (bF rfl rfl _ (aT (by omega))) ?_;refine aA rfl rfl rfl (aF rfl) ?_;refine aJ ?_;refine aL (bA (i + 1, s) (by first | omega | (dsimp only; omega) | (simp; omega)) ⟨by omega, hs, htk.2 (by omega)⟩ ?_ ?_ ?_)
    · exact (by repeat constructor)
    · exact (by repeat constructor)
    · repeat first|exact aH|refine aD ?_|refine aB rfl ?_|refine aI ?_
  ·
   refine cG ?_;refine cH ?_;clear kh7;refine cH ?_;refine eB ?_;refine aL (kh5 _ _ ?_);clear kh5;refine aK fun K11 kh11 => ?_;refine aC ?_;refine aA rfl rfl rfl (bD (vs := [_, _, _]) Tryz.isAgg79 Tryz.sizeOf79 rfl rfl ⟨(rdA rfl), (rdA rfl), (rdA rfl), trivial⟩) ?_;refine bH rfl rfl (cN Tryz.sizeOf79 rfl rfl rfl rfl (by first | exact Nat.le_of_ble_eq_true rfl | (simp; done) | (simp; omega)) (kI s) rfl ?_);refine aJ ?_;refine aL (kh11 _ _ ?_);clear kh11;refine a7 ?_;exact f_finR1 [] Tryz.results44 (rvA (vs := kI s) Tryz.isAgg79 Tryz.sizeOf79 rfl rfl ⟨(rdA rfl), (rdA rfl), (rdA rfl), trivial⟩) aH ⟨s, rfl, hs, (by rw [List.take_of_length_le (by omega)] at hbs; exact hbs), rfl⟩
end Go.Proofs.YtjjogcnjcnpehaaGreat

/- split.seams: labels that can be joined. -/
namespace Go.Proofs.YtjjogcnjcnpehaaGreat
open Go Go.RowKit Fly
set_option linter.unusedVariables false
set_option linter.unusedSimpArgs false
theorem mput_len {α : Type} [DecidableEq α] (x : α) (v : Value) (c : Nat) : ∀ l : List (α × Value × Nat), (eS l x v c).length ≤ l.length + 1
  | [] => by simp [eS]
  | e :: r => by
    have := mput_len x v c r
    unfold eS; split
    · simp
    · simp; omega
theorem mget_mem {α : Type} [DecidableEq α] {e : α × Value × Nat} : ∀ {l : List (α × Value × Nat)}, (l.map (·.1)).Nodup → e ∈ l → dD l e.1 = some e.2.1
  | f :: l, hn, h => by
    rw [List.map_cons, List.nodup_cons] at hn
    rcases List.mem_cons.1 h with rfl | h
    · simp [dD]
    · unfold dD
      rw [if_neg (fun e' => hn.1 (by rw [← e']; exact List.mem_map.2 ⟨e, h, rfl⟩))];exact mget_mem hn.2 h
theorem mget_app {α : Type} [DecidableEq α] (x : α) (z : Value) (c : Nat) : ∀ l : List (α × Value × Nat), dD l x = none → dD (l ++ [(x, z, c)]) x = some z
  | [], _ => by simp [dD]
  | e :: r, h => by
    unfold dD at h
    split at h
    · cases h
    · rename_i hne
      rw [List.cons_append]; unfold dD; rw [if_neg hne]; exact mget_app x z c r h
theorem ment_val {α : Type} [DecidableEq α] (l : List (α × Value × Nat)) (x : α) (z : Value) (c : Nat) : (dD (jZ l x z c) x).getD z = (dD l x).getD z := by
  unfold jZ
  split
  · rfl
  · rename_i h
    have h' : dD l x = none := by cases hg : dD l x with
      | none => rfl
      | some v => rw [hg] at h; simp at h
    rw [mget_app x z c l h', h']; rfl
def i9 (L : List Int) (p : Pr) : Int × Int := (min (lab L p.1) (lab L p.2), max (lab L p.1) (lab L p.2))
def okP (L : List Int) (bd : Int) (p : Pr) : Bool := decide (lab L p.1 ≠ lab L p.2 ∧ (eU L (lab L p.1) : Int) + eU L (lab L p.2) ≤ bd)
def cntK (ps : List Pr) (L : List Int) (k : Int × Int) : Nat := (ps.filter fun p => decide (i9 L p = k)).length
/-- All seams, with their pairs. -/
def smL (ps : List Pr) (L : List Int) (bd : Int) : List Sm := (ps.filter (okP L bd)).map fun p => ((i9 L p).1, (i9 L p).2, (cntK ps L (i9 L p) : Int))
theorem okP_same {L : List Int} {bd : Int} {p q : Pr} (h : okP L bd p = true) (e : i9 L p = i9 L q) : okP L bd q = true := by
  unfold okP at h ⊢
  unfold i9 at e
  simp only [decide_eq_true_eq, Prod.mk.injEq] at h e ⊢;have : (lab L q.1 = lab L p.1 ∧ lab L q.2 = lab L p.2) ∨ (lab L q.1 = lab L p.2 ∧ lab L q.2 = lab L p.1) := by omega
  rcases this with ⟨e1, e2⟩ | ⟨e1, e2⟩
  · rw [e1, e2]; exact h
  · rw [e1, e2]; exact ⟨fun e => h.1 e.symm, by omega⟩
theorem cntK_le (ps : List Pr) (L : List Int) (k : Int × Int) : cntK ps L k ≤ ps.length := List.length_filter_le _ _
theorem cntK_add (ps : List Pr) (L : List Int) (p : Pr) (k : Int × Int) : cntK (ps ++ [p]) L k = cntK ps L k + if i9 L p = k then 1 else 0 := by
  unfold cntK; rw [List.filter_append, List.length_append]
  congr 1
  by_cases h : i9 L p = k
  · simp [h]
  · simp [h]
structure SM (ps : List Pr) (L : List Int) (bd : Int) (ents : List ((Int × Int) × Value × Nat)) : Prop where
  one : ∀ k v, dD ents k = some v → v = .int .i64 (cntK ps L k : Int) ∧ ∃ p ∈ ps, okP L bd p = true ∧ i9 L p = k
  all : ∀ p ∈ ps, okP L bd p = true → dD ents (i9 L p) ≠ none
  few : ents.length ≤ ps.length
theorem SM.nil (L : List Int) (bd : Int) : SM [] L bd [] where
  one := fun k v h => by simp [dD] at h
  all := fun p hp => by cases hp
  few := Nat.le_refl _
theorem SM.val {ps : List Pr} {L : List Int} {bd : Int} {ents : List ((Int × Int) × Value × Nat)} (h : SM ps L bd ents) {p : Pr} (hp : okP L bd p = true) : (dD ents (i9 L p)).getD (.int .i64 0) = .int .i64 (cntK ps L (i9 L p) : Int) := by
  cases hg : dD ents (i9 L p) with
  | some v => exact (h.one _ _ hg).1
  | none =>
    have : cntK ps L (i9 L p) = 0 := by
      unfold cntK
      rw [List.length_eq_zero_iff, List.filter_eq_nil_iff];intro q hq e;simp only [decide_eq_true_eq] at e;exact h.all q hq (okP_same hp e.symm) (by rw [e]; exact hg)
    rw [this]; rfl
theorem SM.add {ps : List Pr} {L : List Int} {bd : Int} {ents : List ((Int × Int) × Value × Nat)} (h : SM ps L bd ents) {p : Pr} (hp : okP L bd p = true) (k : Nat) :
    SM (ps ++ [p]) L bd (eS ents (i9 L p) (.int .i64 ((cntK ps L (i9 L p) : Int) + 1)) k) where
  one := fun q v hg => by
    rw [gK] at hg;rw [cntK_add]
    by_cases e : q = i9 L p
    · subst e
      rw [if_pos rfl] at hg;cases hg
      exact ⟨by rw [if_pos rfl]; rfl, p, by simp, hp, rfl⟩
    · rw [if_neg e] at hg
      obtain ⟨h1, r, hr, h2⟩ := h.one q v hg
      exact ⟨by rw [if_neg (fun e' => e e'.symm), Nat.add_zero]; exact h1, r, by simp [hr], h2⟩
  all := fun q hq ho => by
    rw [gK]
    split
    · simp
    · rename_i hne
      rcases List.mem_append.1 hq with hq | hq
      · exact h.all q hq ho
      · obtain rfl := List.mem_singleton.1 hq; exact absurd rfl hne
  few := by have := mput_len (i9 L p) (.int .i64 ((cntK ps L (i9 L p) : Int) + 1)) k ents; have := h.few; simp; omega
theorem SM.skip {ps : List Pr} {L : List Int} {bd : Int} {ents : List ((Int × Int) × Value × Nat)} (h : SM ps L bd ents) {p : Pr} (hp : ¬ okP L bd p = true) : SM (ps ++ [p]) L bd ents where
  one := fun q v hg => by
    obtain ⟨h1, r, hr, h2, h3⟩ := h.one q v hg
    rw [cntK_add, if_neg (fun e => hp (okP_same h2 (h3.trans e.symm))), Nat.add_zero];exact ⟨h1, r, by simp [hr], h2, h3⟩
  all := fun q hq ho => by
    rcases List.mem_append.1 hq with hq | hq
    · exact h.all q hq ho
    · obtain rfl := List.mem_singleton.1 hq; exact absurd ho hp
  few := by have := h.few; simp; omega
theorem mem_smL {ps : List Pr} {L : List Int} {bd : Int} {s : Sm} : s ∈ smL ps L bd ↔ ∃ p ∈ ps, okP L bd p = true ∧ i9 L p = (s.1, s.2.1) ∧ s.2.2 = (cntK ps L (s.1, s.2.1) : Int) := by
  unfold smL
  rw [List.mem_map];constructor
  · rintro ⟨p, hp, rfl⟩
    obtain ⟨h1, h2⟩ := List.mem_filter.1 hp
    exact ⟨p, h1, h2, rfl, rfl⟩
  · rintro ⟨p, hp, ho, e, e2⟩
    refine ⟨p, List.mem_filter.2 ⟨hp, ho⟩, ?_⟩;rw [e, ← e2]
theorem SM.ent {ps : List Pr} {L : List Int} {bd : Int} {ents : List ((Int × Int) × Value × Nat)} {ck : Nat} (h : SM ps L bd ents) (hm : MOk ents ck) {e : (Int × Int) × Value × Nat} (he : e ∈ ents) : ∃ a b c s, e = ((a, b), .int .i64 c, s) ∧ (a, b, c) ∈ smL ps L bd := by
  obtain ⟨⟨a, b⟩, v, s⟩ := e
  obtain ⟨e, p, hp, h1, h2⟩ := h.one (a, b) v (mget_mem hm.keys he)
  subst e;exact ⟨a, b, _, s, rfl, mem_smL.2 ⟨p, hp, h1, h2, rfl⟩⟩
theorem SM.end_ {ps : List Pr} {L : List Int} {bd : Int} {ents : List ((Int × Int) × Value × Nat)} {sl : List Sm} (h : SM ps L bd ents) (hs : ∀ s ∈ sl, s ∈ smL ps L bd) (hk : ∀ k, k ∈ (sl.map fun s => (s.1, s.2.1)) ↔ k ∈ ents.map (·.1)) (s : Sm) : s ∈ sl ↔ s ∈ smL ps L bd := by
  refine ⟨hs s, fun hm => ?_⟩;obtain ⟨p, hp, ho, e, e2⟩ := mem_smL.1 hm
  have h1 : i9 L p ∈ ents.map (·.1) := by
    refine Classical.byContradiction fun hn => h.all p hp ho (mget_none.2 hn)
  obtain ⟨t, ht, et⟩ := List.mem_map.1 ((hk _).2 h1)
  obtain ⟨_, _, _, _, e3⟩ := mem_smL.1 (hs t ht)
  rw [e] at et
  have h2 : t = s := by
    obtain ⟨t1, t2, t3⟩ := t
    obtain ⟨s1, s2, s3⟩ := s
    simp only [Prod.mk.injEq] at et;obtain ⟨rfl, rfl⟩ := et
    simp only at e2 e3;rw [e2, e3]
  rw [← h2]; exact ht
theorem smL_seam {n : Nat} {l : List Arc} {L : List Int} {bd : Int} {s : Sm} (h : s ∈ smL (prs n l) L bd) : Seam n l bd L s.1 s.2.1 := by
  obtain ⟨p, hp, ho, e, _⟩ := mem_smL.1 h
  unfold okP at ho; unfold i9 at e
  simp only [decide_eq_true_eq, Prod.mk.injEq] at ho e;have : (lab L p.1 = s.1 ∧ lab L p.2 = s.2.1) ∨ (lab L p.1 = s.2.1 ∧ lab L p.2 = s.1) := by omega
  refine ⟨p, hp, by omega, this, ?_⟩
  rcases this with ⟨e1, e2⟩ | ⟨e1, e2⟩
  · rw [e1, e2] at ho; exact ho.2
  · rw [e1, e2] at ho; have := ho.2; omega
theorem lab_nat {L : List Int} {u : Int} {a : Nat} (h : u.toNat < L.length) (e : L[u.toNat] = (a : Int)) : lab L u = (a : Int) := by rw [j8 h, e]
set_option maxRecDepth 100000 in
set_option maxHeartbeats 4000000 in
theorem seams_spec {n : Nat} (A B : Option Addr) (l : List Arc) (cap : Nat) (L : List Int) (cb : Nat) (bd : Int) (w : World) (hr : Ro (Fr w []) w A ((prs n l).flatMap dN)) (hL : Ro (Fr w []) w B (aY L)) (hR : cZ (n : Int) L = true) (hn1 : 1 ≤ n) (hn2 : n ≤ 1024) (hb : 1 ≤ bd ∧ bd ≤ 1024) :
    Meets Tryz.prog 43 [.slice A (prs n l).length cap, .slice B L.length cb, .int .i64 bd] w [] (fun u own' => ∃ (sl : List Sm) (c' : Nat) (A' : Option Addr) (m' : Seg), u = .slice A' sl.length c' ∧ own' = [m'] ∧ Own 79 3 (.slice A' sl.length c') sl.length (sl.flatMap kI) m' ∧ (∀ s, s ∈ sl ↔ s ∈ smL (prs n l) L bd) ∧ (∀ s ∈ sl, SmOk s) ∧ sl.length ≤ 1048576) := by
 have hpl := prs_len (n := n) hn2 l
 have hLn : L.length = n := (cX hR).2
 have hrg := eK hR hn1
 refine bM Tryz.func43 rfl Tryz.ntmps43 rfl Owns.nil ?_;refine aK fun K1 kh1 => ?_;refine aC ?_;refine aA rfl rfl rfl (aF rfl) ?_;refine aJ ?_;refine aL (kh1 _ _ ?_);clear kh1;refine aK fun K2 kh2 => ?_;refine aC ?_;refine aA rfl rfl rfl (aG rfl) ?_;refine aU rfl rfl rfl (bE Tryz.call41 rfl (fun w_ hp_ => lA B L cb w_ (hL.up0 hp_) (by omega) (by omega) (fun x hx => by have := hrg x hx; omega)) ?_);rintro _ _ ⟨bs, rfl, rfl⟩;obtain ⟨M, hM⟩ : ∃ M : Nat, (eO L + 1).toNat = M := ⟨_, rfl⟩
 rw [cF, hM];rw [hM] at hrg;have hMn : M ≤ n := (hrg L[0] (List.getElem_mem (by omega))).2.2
 dsimp only [List.cons_append, List.nil_append];refine aA rfl rfl rfl (aF rfl) ?_;refine aJ ?_;refine aL (kh2 _ _ ?_);clear kh2;refine aK fun K3 kh3 => ?_;refine aC ?_;refine aU rfl rfl rfl (iA fun b18 => ?_);refine aA rfl rfl rfl (aF rfl) ?_;refine aJ ?_;refine aL (kh3 _ _ ?_);clear kh3;refine aK fun K4 kh4 => ?_;refine aK fun K5 kh5 => ?_;refine aC ?_;refine aA rfl rfl rfl (aG rfl) ?_;refine aA rfl rfl rfl (bU g5 rfl) ?_;refine aA rfl rfl rfl (aG rfl) ?_;refine aJ ?_;refine aL (kh5 _ _ ?_);clear kh5;refine aZ ?_;refine cS (α := Nat × List ((Int × Int) × Value × Nat) × Nat) [1, 2, 7, 8, 19, 20] (fun ⟨i, ents, c1⟩ => [(21, .int .i64 (i : Int))]) (fun ⟨i, ents, c1⟩ => [[(b18, fU kC ents c1)], [(bs, blk (aY (szs M L)) 3)]]) (fun ⟨i, ents, c1⟩ => i ≤ (prs n l).length ∧ MOk ents c1 ∧ SM ((prs n l).take i) L bd ents) (fun ⟨i, ents, c1⟩ => (prs n l).length - i) (0, [], 0) ?_ ?_ ?_ ?_
 · exact (by repeat constructor)
 · repeat first|exact aH|refine aD ?_|refine aB rfl ?_|refine aI ?_
 · exact ⟨by omega, MOk.nil, SM.nil L bd⟩
 ·
  rintro ⟨i, ents, c1⟩ ⟨hil, hmap, hsm⟩;refine aK fun K6 kh6 => ?_;refine aC ?_;refine aA rfl rfl rfl (cE rfl rfl) ?_;refine aJ ?_;refine aL (kh6 _ _ ?_);clear kh6;refine aK fun K7 kh7 => ?_;refine a6 rfl (fun c22 => ?_) (fun c22 => ?_)
  ·
   have hi : i < (prs n l).length := by omega
   obtain ⟨bp, op, rfl, hSp, hcp⟩ := hr (fX dN dG (by omega) hi)
   obtain ⟨bb, ob, rfl, hSb, hcb⟩ := hL (fun e => by have := aX L; rw [e] at this; simp at this; omega)
   have hpr := fW (List.getElem_mem hi)
   have hx1 : (prs n l)[i].1.toNat < L.length := by omega
   have hx2 : (prs n l)[i].2.toNat < L.length := by omega
   have hr1 := hrg _ (List.getElem_mem hx1)
   have hr2 := hrg _ (List.getElem_mem hx2)
   obtain ⟨a, ha⟩ : ∃ a : Nat, L[(prs n l)[i].1.toNat] = (a : Int) := ⟨_, (Int.toNat_of_nonneg hr1.1).symm⟩
   obtain ⟨b, hb'⟩ : ∃ b : Nat, L[(prs n l)[i].2.toNat] = (b : Int) := ⟨_, (Int.toNat_of_nonneg hr2.1).symm⟩
   rw [ha] at hr1;rw [hb'] at hr2;have la := lab_nat hx1 ha
   have lb := lab_nat hx2 hb'
   have haM : a < M := by omega
   have hbM : b < M := by omega
   have hca := cnt_le L a
   have hcb' := cnt_le L b
   have ca : eU L (a : Int) = cnt L a := rfl
   have cb' : eU L (b : Int) = cnt L b := rfl
   have htk : (prs n l).take (i + 1) = (prs n l).take i ++ [(prs n l)[i]] := List.take_succ_eq_append_getElem hi
   have hti : ((prs n l).take i).length = i := by rw [List.length_take]; omega
   have hkey : i9 L (prs n l)[i] = (min (a : Int) b, max (a : Int) b) := by unfold i9; rw [la, lb]
   refine aV ?_;refine aL (kh7 _ _ ?_);clear kh7;refine aK fun K8 kh8 => ?_;refine aZ ?_;refine aK fun K9 kh9 => ?_;refine aC ?_;refine aA rfl rfl rfl (a8 g5 rfl rfl (op + i * 2) ⟨by omega, by omega, by first | omega | (simp; done) | (simp; omega)⟩) ?_;refine aA rfl rfl rfl (bD (vs := dN (prs n l)[i]) Tryz.isAgg95 Tryz.sizeOf95 rfl rfl (gF dG hSp hcp hi)) ?_;refine aU rfl rfl rfl (cV Tryz.zeroValue95 rfl fun b10 => ?_);refine bH rfl rfl (cN Tryz.sizeOf95 rfl rfl rfl rfl (by first | exact Nat.le_of_ble_eq_true rfl | (simp; done) | (simp; omega)) (dN (prs n l)[i]) rfl ?_);refine aJ ?_;refine aL (kh9 _ _ ?_);clear kh9;refine aK fun K10 kh10 => ?_;refine dF [[(b10, blk [.int .i64 (prs n l)[i].1, .int .i64 (prs n l)[i].2] 95)]] rfl ?_;refine aS 0 rfl (by decide +kernel) rfl rfl rfl (by repeat first|exact aH|refine aD ?_|refine aB rfl ?_|refine aI ?_) (aG rfl) ?_;refine aS 1 rfl (by decide +kernel) rfl rfl rfl (by repeat first|exact aH|refine aD ?_|refine aB rfl ?_|refine aI ?_) (aP kA rfl) ?_;refine aS 2 rfl (by decide +kernel) rfl rfl rfl (by repeat first|exact aH|refine aD ?_|refine aB rfl ?_|refine aI ?_) (aM Tryz.isAgg3 rfl (rdA rfl)) ?_;refine aS 3 rfl (by decide +kernel) rfl rfl rfl (by repeat first|exact aH|refine aD ?_|refine aB rfl ?_|refine aI ?_) (a8 bK rfl rfl (ob + (prs n l)[i].1.toNat) ⟨by omega, by omega, by first | omega | (simp; done) | (simp; omega)⟩) ?_;refine aS 4 rfl (by decide +kernel) rfl rfl rfl (by repeat first|exact aH|refine aD ?_|refine aB rfl ?_|refine aI ?_) (aM Tryz.isAgg3 rfl (show Rd _ _ _ _ _ (.int .i64 (a : Int)) by rw [← ha]; exact eD (enc := (.int .i64 ·)) hSb hcb hx1)) ?_;refine aS 5 rfl (by decide +kernel) rfl rfl rfl (by repeat first|exact aH|refine aD ?_|refine aB rfl ?_|refine aI ?_) (aG rfl) ?_;refine aS 6 rfl (by decide +kernel) rfl rfl rfl (by repeat first|exact aH|refine aD ?_|refine aB rfl ?_|refine aI ?_) (aP fa95_1 rfl) ?_;refine aS 7 rfl (by decide +kernel) rfl rfl rfl (by repeat first|exact aH|refine aD ?_|refine aB rfl ?_|refine aI ?_) (aM Tryz.isAgg3 rfl (rdA rfl)) ?_;refine aS 8 rfl (by decide +kernel) rfl rfl rfl (by repeat first|exact aH|refine aD ?_|refine aB rfl ?_|refine aI ?_) (a8 bK rfl rfl (ob + (prs n l)[i].2.toNat) ⟨by omega, by omega, by first | omega | (simp; done) | (simp; omega)⟩) ?_;refine aS 9 rfl (by decide +kernel) rfl rfl rfl (by repeat first|exact aH|refine aD ?_|refine aB rfl ?_|refine aI ?_) (aM Tryz.isAgg3 rfl (show Rd _ _ _ _ _ (.int .i64 (b : Int)) by rw [← hb']; exact eD (enc := (.int .i64 ·)) hSb hcb hx2)) ?_
   refine aS 10 rfl (by decide +kernel) rfl rfl rfl (by repeat first|exact aH|refine aD ?_|refine aB rfl ?_|refine aI ?_) (aF rfl) ?_;refine aS 11 rfl (by decide +kernel) rfl rfl rfl (by repeat first|exact aH|refine aD ?_|refine aB rfl ?_|refine aI ?_) (aF rfl) ?_;refine dB (by decide +kernel) ?_;refine aL (kh10 _ _ ?_);clear kh10;refine aK fun K11 kh11 => ?_;refine fS rfl (by decide +kernel) ?_;refine aN rfl rfl rfl (aG rfl) ?_;refine aN rfl rfl rfl (aG rfl) ?_;refine aN rfl rfl rfl (dC rfl rfl) ?_;refine aN rfl rfl rfl (aG rfl) ?_;refine f_splitS 38 rfl (fun g38 => ?_) (fun g38 => ?_)
   ·
    refine dM rfl rfl rfl rfl rfl (aG rfl) ?_;refine dM rfl rfl rfl rfl rfl (aG rfl) ?_;refine dM rfl rfl rfl rfl rfl (a8 bK rfl rfl (a) ⟨by omega, by omega, by first | omega | (simp; done) | (simp; omega)⟩) ?_;refine dM rfl rfl rfl rfl rfl (aM Tryz.isAgg3 rfl (rdA (v := .int .i64 (cnt L a : Int)) (by rw [dO (by rw [eQ]; exact haM), iE haM]))) ?_;refine dM rfl rfl rfl rfl rfl (aG rfl) ?_;refine dM rfl rfl rfl rfl rfl (aG rfl) ?_;refine dM rfl rfl rfl rfl rfl (a8 bK rfl rfl (b) ⟨by omega, by omega, by first | omega | (simp; done) | (simp; omega)⟩) ?_;refine dM rfl rfl rfl rfl rfl (aM Tryz.isAgg3 rfl (rdA (v := .int .i64 (cnt L b : Int)) (by rw [dO (by rw [eQ]; exact hbM), iE hbM]))) ?_;refine dM rfl rfl rfl rfl rfl (bF rfl rfl _ (aT (by omega))) ?_;refine dM rfl rfl rfl rfl rfl (aG rfl) ?_;refine dM rfl rfl rfl rfl rfl (o_leq rfl rfl) ?_;refine aN rfl rfl rfl (bX rfl rfl) ?_;refine d7 ?_;refine aL (kh11 _ _ ?_);clear kh11;refine a6 rfl (fun c50 => ?_) (fun c50 => ?_)
    ·
     have hop : okP L bd (prs n l)[i] = true := by unfold okP; rw [la, lb, ca, cb']; simp only [decide_eq_true_eq]; omega
     have hc := hsm.val hop
     have hsm2 := hsm.add hop c1
     have hcl := cntK_le ((prs n l).take i) L (min (a : Int) b, max (a : Int) b)
     rw [hti] at hcl;rw [← htk, hkey] at hsm2;rw [hkey] at hc;refine dF [] rfl ?_;refine aS 0 rfl (by decide +kernel) rfl rfl rfl (by repeat first|exact aH|refine aD ?_|refine aB rfl ?_|refine aI ?_) (aG rfl) ?_;refine aS 1 rfl (by decide +kernel) rfl rfl rfl (by repeat first|exact aH|refine aD ?_|refine aB rfl ?_|refine aI ?_) (aG rfl) ?_;refine aS 2 rfl (by decide +kernel) rfl rfl rfl (by repeat first|exact aH|refine aD ?_|refine aB rfl ?_|refine aI ?_) (aG rfl) ?_;refine aS 3 rfl (by decide +kernel) rfl rfl rfl (by repeat first|exact aH|refine aD ?_|refine aB rfl ?_|refine aI ?_) (o_min rfl rfl) ?_;refine aS 4 rfl (by decide +kernel) rfl rfl rfl (by repeat first|exact aH|refine aD ?_|refine aB rfl ?_|refine aI ?_) (aG rfl) ?_;refine aS 5 rfl (by decide +kernel) rfl rfl rfl (by repeat first|exact aH|refine aD ?_|refine aB rfl ?_|refine aI ?_) (aG rfl) ?_;refine aS 6 rfl (by decide +kernel) rfl rfl rfl (by repeat first|exact aH|refine aD ?_|refine aB rfl ?_|refine aI ?_) (o_max rfl rfl) ?_;refine aS 7 rfl (by decide +kernel) rfl rfl rfl (by repeat first|exact aH|refine aD ?_|refine aB rfl ?_|refine aI ?_) (o_buildA (cs := [.int .i64 (min (a : Int) b), .int .i64 (max (a : Int) b)]) ar117 rfl rfl) ?_;refine i6 8 10 rfl rfl (by decide +kernel) rfl rfl rfl rfl rfl rfl ?_ ?_
     ·
      refine (fQ kt116 Tryz.zeroValue3 rfl rfl rfl (key := (min (a : Int) b, max (a : Int) b)) (.int .i64 (cntK ((prs n l).take i) L (min (a : Int) b, max (a : Int) b) : Int)) (by first | exact hc | exact (ment_val _ _ _ _).trans hc)).does ⟨(by repeat first|exact aH|refine aD ?_|refine aB rfl ?_|refine aI ?_), ?_⟩;refine aS 9 rfl (by decide +kernel) rfl rfl rfl (by repeat first|exact aH|refine aD ?_|refine aB rfl ?_|refine aI ?_) (bF rfl rfl _ (aT (by omega))) ?_;refine bP 10 rfl (by decide +kernel) rfl rfl rfl (lF kt116 Tryz.zeroValue3 rfl rfl rfl (key := (min (a : Int) b, max (a : Int) b)) _ rfl ⟨(by repeat first|exact aH|refine aD ?_|refine aB rfl ?_|refine aI ?_), ?_⟩);refine aS 11 rfl (by decide +kernel) rfl rfl rfl (by repeat first|exact aH|refine aD ?_|refine aB rfl ?_|refine aI ?_) (aW rfl rfl) ?_;refine eI 12 rfl (by decide +kernel) rfl rfl (jC (key := (min (a : Int) b, max (a : Int) b)) hmap rfl rfl rfl ⟨(by repeat first|exact aH|refine aD ?_|refine aB rfl ?_|refine aI ?_), ?_⟩);refine dB (by decide +kernel) ?_;refine cU ?_;refine aL (kh8 _ _ ?_);clear kh8;refine aC ?_;refine aA rfl rfl rfl (bF rfl rfl _ (aT (by omega))) ?_;refine aA rfl rfl rfl (aG rfl) ?_;refine aJ ?_;refine aL (bA (i + 1, eS ents (min (a : Int) b, max (a : Int) b) (.int .i64 ((cntK ((prs n l).take i) L (min (a : Int) b, max (a : Int) b) : Int) + 1)) c1, e7 ents (min (a : Int) b, max (a : Int) b) c1) (by first | omega | (dsimp only; omega) | (simp; omega)) ⟨by omega, hmap.put _ _, hsm2⟩ ?_ ?_ ?_)
      · exact (by repeat constructor)
      · exact (by repeat constructor)
      · repeat first|exact aH|refine aD ?_|refine aB rfl ?_|refine aI ?_
     ·
      refine (lF kt116 Tryz.zeroValue3 rfl rfl rfl (key := (min (a : Int) b, max (a : Int) b)) _ rfl ⟨(by repeat first|exact aH|refine aD ?_|refine aB rfl ?_|refine aI ?_), ?_⟩);refine aS 11 rfl (by decide +kernel) rfl rfl rfl (by repeat first|exact aH|refine aD ?_|refine aB rfl ?_|refine aI ?_) (aW rfl rfl) ?_;refine bP 8 rfl (by decide +kernel) rfl rfl rfl ((fQ kt116 Tryz.zeroValue3 rfl rfl rfl (key := (min (a : Int) b, max (a : Int) b)) (.int .i64 (cntK ((prs n l).take i) L (min (a : Int) b, max (a : Int) b) : Int)) (by first | exact hc | exact (ment_val _ _ _ _).trans hc)).does ⟨(by repeat first|exact aH|refine aD ?_|refine aB rfl ?_|refine aI ?_), ?_⟩);refine aS 9 rfl (by decide +kernel) rfl rfl rfl (by repeat first|exact aH|refine aD ?_|refine aB rfl ?_|refine aI ?_) (bF rfl rfl _ (aT (by omega))) ?_;refine eI 12 rfl (by decide +kernel) rfl rfl (jC (key := (min (a : Int) b, max (a : Int) b)) hmap rfl rfl rfl ⟨(by repeat first|exact aH|refine aD ?_|refine aB rfl ?_|refine aI ?_), ?_⟩);refine dB (by decide +kernel) ?_;refine cU ?_;refine aL (kh8 _ _ ?_);clear kh8;refine aC ?_;refine aA rfl rfl rfl (bF rfl rfl _ (aT (by omega))) ?_;refine aA rfl rfl rfl (aG rfl) ?_;refine aJ ?_;refine aL (bA (i + 1, eS ents (min (a : Int) b, max (a : Int) b) (.int .i64 ((cntK ((prs n l).take i) L (min (a : Int) b, max (a : Int) b) : Int) + 1)) c1, e7 ents (min (a : Int) b, max (a : Int) b) c1) (by first | omega | (dsimp only; omega) | (simp; omega)) ⟨by omega, hmap.put _ _, hsm2⟩ ?_ ?_ ?_)
      · exact (by repeat constructor)
      · exact (by repeat constructor)
      · repeat first|exact aH|refine aD ?_|refine aB rfl ?_|refine aI ?_
    ·
     have hsm2 := hsm.skip (p := (prs n l)[i]) (fun ho => by unfold okP at ho; rw [la, lb, ca, cb'] at ho; simp only [decide_eq_true_eq] at ho; omega)
     rw [← htk] at hsm2;refine aV ?_;refine cU ?_;refine aL (kh8 _ _ ?_);clear kh8;refine aC ?_;refine aA rfl rfl rfl (bF rfl rfl _ (aT (by omega))) ?_;refine aA rfl rfl rfl (aG rfl) ?_;refine aJ ?_;refine aL (bA (i + 1, ents, c1) (by first | omega | (dsimp only; omega) | (simp; omega)) ⟨by omega, hmap, hsm2⟩ ?_ ?_ ?_)
     · exact (by repeat constructor)
     · exact (by repeat constructor)
     · repeat first|exact aH|refine aD ?_|refine aB rfl ?_|refine aI ?_
   ·
    have hsm2 := hsm.skip (p := (prs n l)[i]) (fun ho => by unfold okP at ho; rw [la, lb] at ho; simp only [decide_eq_true_eq] at ho; omega)
    rw [← htk] at hsm2;refine d6 rfl rfl rfl rfl rfl rfl ?_;refine d6 rfl rfl rfl rfl rfl rfl ?_;refine d6 rfl rfl rfl rfl rfl rfl ?_;refine d6 rfl rfl rfl rfl rfl rfl ?_;refine d6 rfl rfl rfl rfl rfl rfl ?_;refine d6 rfl rfl rfl rfl rfl rfl ?_;refine d6 rfl rfl rfl rfl rfl rfl ?_;refine d6 rfl rfl rfl rfl rfl rfl ?_;refine d6 rfl rfl rfl rfl rfl rfl ?_;refine d6 rfl rfl rfl rfl rfl rfl ?_;refine d6 rfl rfl rfl rfl rfl rfl ?_;refine aN rfl rfl rfl (cL rfl rfl) ?_;refine d7 ?_;refine aL (kh11 _ _ ?_);clear kh11;refine gZ rfl ?_;refine aV ?_;refine cU ?_;refine aL (kh8 _ _ ?_);clear kh8;refine aC ?_;refine aA rfl rfl rfl (bF rfl rfl _ (aT (by omega))) ?_;refine aA rfl rfl rfl (aG rfl) ?_;refine aJ ?_;refine aL (bA (i + 1, ents, c1) (by first | omega | (dsimp only; omega) | (simp; omega)) ⟨by omega, hmap, hsm2⟩ ?_ ?_ ?_)
    · exact (by repeat constructor)
    · exact (by repeat constructor)
    · repeat first|exact aH|refine aD ?_|refine aB rfl ?_|refine aI ?_
  ·
   refine cG ?_;refine cH ?_;clear kh7;refine cH ?_;refine eB ?_;refine aL (kh4 _ _ ?_);clear kh4;refine aK fun K12 kh12 => ?_;obtain rfl : i = (prs n l).length := by omega
   rw [List.take_length] at hsm;have hel := hsm.few
   refine aC ?_;refine aA rfl rfl rfl (aF rfl) ?_;refine aJ ?_;refine aL (kh12 _ _ ?_);clear kh12;refine aK fun K13 kh13 => ?_;refine aK fun K14 kh14 => ?_;refine aC ?_;refine aA rfl rfl rfl (aG rfl) ?_;refine aU rfl rfl rfl (o_range kt116 rfl fun b65 => ?_);refine aJ ?_;refine aL (kh14 _ _ ?_);clear kh14;refine aZ ?_;refine cS (α := List Nat × List Sm × Value × Seg) [65] (fun ⟨seen, sl, v13, m13⟩ => [(13, v13)]) (fun ⟨seen, sl, v13, m13⟩ => [[(b65, jT b18 c1 seen)], m13, [(b18, fU kC ents c1)], [(bs, blk (aY (szs M L)) 3)]]) (fun ⟨seen, sl, v13, m13⟩ => Came ents seen (sl.map fun s => (s.1, s.2.1)) ∧ Own 79 3 v13 sl.length (sl.flatMap kI) m13 ∧ ∀ s ∈ sl, s ∈ smL (prs n l) L bd) (fun ⟨seen, sl, v13, m13⟩ => ents.length - sl.length) ([], [], .slice none 0 0, []) ?_ ?_ ?_ ?_
   · exact (by repeat constructor)
   · repeat first|exact aH|refine aD ?_|refine aB rfl ?_|refine aI ?_
   · exact ⟨Came.start, Own.nil _ _, fun s hs => by cases hs⟩
   ·
    rintro ⟨seen, sl, v13, m13⟩ ⟨hca, ho13, hsl⟩;have hcl := hca.len
    rw [List.length_map] at hcl;obtain ⟨A13, cap13, rfl, hc13⟩ := ho13.val
    refine fC (e := [(13, _), (65, _)]) (by repeat constructor) ?_;refine aK fun K15 kh15 => ?_;refine aC ?_;refine aU rfl rfl rfl (o_next1 hmap rfl fun q66 r66 seen1 hnx => ?_);refine aA rfl rfl rfl (aW rfl rfl) ?_;refine aJ ?_;refine aL (kh15 _ _ ?_);clear kh15;refine aK fun K16 kh16 => ?_;refine e9 rfl (fun c67 => ?_) (fun c67 => ?_)
    ·
     obtain ⟨e, he, hne, rfl⟩ : ∃ e ∈ ents, e.2.2 ∉ seen ∧ seen1 = seen ++ [e.2.2] := by
       rcases hnx with ⟨_, h⟩ | ⟨h, _⟩
       · exact h
       · rw [h] at c67; cases c67
     have hca2 := hca.next hmap he hne
     obtain ⟨ea, eb, ec, es, rfl, hek⟩ := hsm.ent hmap he
     dsimp only at hca2 hne ⊢;refine aV ?_;refine aL (kh16 _ _ ?_);clear kh16;refine aZ ?_;refine aK fun K17 kh17 => ?_;refine aC ?_;refine aA rfl rfl rfl (o_entry hmap he rfl) ?_;refine aA rfl rfl rfl (aW rfl rfl) ?_;refine aA rfl rfl rfl (aW rfl rfl) ?_;refine aU rfl rfl rfl (cV Tryz.zeroValue117 rfl fun b14 => ?_);refine bH rfl rfl (cN Tryz.sizeOf117 rfl rfl rfl rfl (by first | exact Nat.le_of_ble_eq_true rfl | (simp; done) | (simp; omega)) [.int .i64 ea, .int .i64 eb] rfl ?_);refine aA rfl rfl rfl (aF rfl) ?_;refine aJ ?_;refine aL (kh17 _ _ ?_);clear kh17;refine aC ?_;refine aA rfl rfl rfl (aG rfl) ?_;refine aA rfl rfl rfl (o_idxA ar117 rfl rfl _ ⟨by omega, by omega, rfl⟩) ?_;refine aA rfl rfl rfl (aM Tryz.isAgg3 rfl (rdA rfl)) ?_;refine aA rfl rfl rfl (o_idxA ar117 rfl rfl _ ⟨by omega, by omega, rfl⟩) ?_;refine aA rfl rfl rfl (aM Tryz.isAgg3 rfl (rdA rfl)) ?_;refine aA rfl rfl rfl (aG rfl) ?_;refine aA rfl rfl rfl (dI st79 rfl rfl) ?_;refine aU rfl rfl rfl (cW el76 (by omega) rfl rfl rfl fun b78 => ?_);refine aU rfl rfl rfl (dH el76 rfl rfl ho13 (ys := kI (ea, eb, ec)) ⟨(rdA rfl), (rdA rfl), (rdA rfl), trivial⟩ rfl rfl (by omega) (by omega) fun v79 m79 o79 => ?_);refine aA rfl rfl rfl (aF rfl) ?_;refine aJ ?_;refine cU ?_
     refine aL (bA (seen ++ [es], sl ++ [(ea, eb, ec)], v79, m79) (by have := hca2.len; simp at this ⊢; omega) ⟨by rw [List.map_append]; exact hca2, by rw [List.length_append, List.flatMap_append]; simpa [kI] using o79, fun s hs => by
       rcases List.mem_append.1 hs with hs | hs
       · exact hsl s hs
       · obtain rfl := List.mem_singleton.1 hs; exact hek⟩ ?_ ?_ ?_)
     · exact (by repeat constructor)
     · exact (by repeat constructor)
     · repeat first|exact aH|refine aD ?_|refine aB rfl ?_|refine aI ?_
    ·
     obtain ⟨rfl, hall⟩ : seen1 = seen ∧ ∀ e ∈ ents, e.2.2 ∈ seen := by
       rcases hnx with ⟨h, _⟩ | ⟨_, h⟩
       · rw [h] at c67; cases c67
       · exact h
     refine cG ?_;refine cH ?_;clear kh16;refine cH ?_;refine eB ?_;refine aL (kh13 _ _ ?_);clear kh13;refine aK fun K18 kh18 => ?_;refine aC ?_;refine aA rfl rfl rfl (aG rfl) ?_;refine aA rfl rfl rfl (aF rfl) ?_;refine aJ ?_;refine aL (kh18 _ _ ?_);clear kh18;refine a7 ?_
     have hA : ∀ s ∈ sl, SmOk s := fun s hs => by
       obtain ⟨q, hq, _, _, hq2⟩ := mem_smL.1 (hsl s hs)
       have hck := cntK_le (prs n l) L (s.1, s.2.1)
       obtain ⟨p, hp, hne, hlb, hsz⟩ := smL_seam (hsl s hs)
       have hp' := fW hp
       have key : ∀ u : Int, 0 ≤ u → u < (n : Int) → 0 ≤ lab L u ∧ lab L u ≤ 1048576 := fun u h0 h1 => by
         rw [j8 (by omega)];have := hrg _ (List.getElem_mem (show u.toNat < L.length by omega))
         omega
       have k1 := key p.1 hp'.1.1 hp'.1.2
       have k2 := key p.2 hp'.2.1 hp'.2.2
       unfold SmOk
       rcases hlb with ⟨e1, e2⟩ | ⟨e1, e2⟩
       · rw [e1] at k1; rw [e2] at k2; omega
       · rw [e1] at k1; rw [e2] at k2; omega
     have hB := hsm.end_ hsl (hca.all hall)
     exact bJ [m13] Tryz.results43 rfl (by repeat (first | exact aH | refine aD ?_ | refine aB rfl ?_)) ⟨sl, cap13, A13, m13, rfl, rfl, ho13, hB, hA, by omega⟩
end Go.Proofs.YtjjogcnjcnpehaaGreat

/- split.Join: labels put together. -/
namespace Go.Proofs.YtjjogcnjcnpehaaGreat
open Go Go.RowKit Fly
set_option linter.unusedVariables false
set_option linter.unusedSimpArgs false
theorem lcount_okJ {N : Int} {l : List Arc} {L : List Int} (h : (d4 N l L).2 = 0) : (bG N l).2 = 0 ∧ cZ N L = true := by
  unfold d4 at h
  split at h
  · rename_i h1; exact absurd h h1
  · rename_i h1
    split at h
    · cases h
    · rename_i h2; exact ⟨by simpa using h1, by simpa using h2⟩
theorem spE_zero {N : Int} {l : List Arc} {L : List Int} {bd : Int} (h : spE N l L bd = 0) : ∃ n : Nat, N = (n : Int) ∧ 1 ≤ n ∧ n ≤ 1024 ∧ (bG (n : Int) l).2 = 0 ∧ cZ (n : Int) L = true ∧ 1 ≤ bd ∧ bd ≤ 1024 := by
  unfold spE at h
  by_cases h1 : (d4 N l L).2 ≠ 0
  · rw [if_pos h1] at h; exact absurd h h1
  · rw [if_neg h1] at h
    obtain ⟨hg, hr⟩ := lcount_okJ (by omega : (d4 N l L).2 = 0)
    have := bT hg
    refine ⟨N.toNat, by omega, by omega, by omega, by rw [Int.toNat_of_nonneg (by omega)]; exact hg, by rw [Int.toNat_of_nonneg (by omega)]; exact hr, ?_⟩
    split at h
    · cases h
    · omega
def joinE (N : Int) (l : List Arc) (L : List Int) (bd : Int) : Int := if spE N l L bd ≠ 0 then spE N l L bd else if bd < eO (cF L) then 90 else 0
/-- Joins, one behind the other, each the first one. -/
inductive JTo (n : Nat) (l : List Arc) (bd : Int) : List Int → List Int → Prop
  | refl (L : List Int) : JTo n l bd L L
  | step {L M : List Int} {s : Sm} (h : JTo n l bd L M) (hs : s ∈ smL (prs n l) M bd) (hb : ∀ t ∈ smL (prs n l) M bd, jW s t ≤ 0) : JTo n l bd L (tdy (mrg s.1 s.2.1 M))
theorem JTo.head {n : Nat} {l : List Arc} {bd : Int} {L R : List Int} (h : JTo n l bd L R) : R = L ∨ ∃ s, s ∈ smL (prs n l) L bd ∧ (∀ t ∈ smL (prs n l) L bd, jW s t ≤ 0) ∧ JTo n l bd (tdy (mrg s.1 s.2.1 L)) R := by
  induction h with
  | refl => exact .inl rfl
  | step h hs hb ih =>
    rcases ih with rfl | ⟨t, ht, htb, hj⟩
    · exact .inr ⟨_, hs, hb, .refl _⟩
    · exact .inr ⟨t, ht, htb, hj.step hs hb⟩
/-- Some labels, of which the first are joined. -/
def mgk (a b : Int) (L : List Int) (k : Nat) : List Int := L.mapIdx fun i x => if i < k ∧ x = b then a else x
theorem mgk_len (a b : Int) (L : List Int) (k : Nat) : (mgk a b L k).length = L.length := by simp [mgk]
theorem mgk_zero (a b : Int) (L : List Int) : mgk a b L 0 = L := by
  refine List.ext_getElem (mgk_len ..) fun i h1 h2 => ?_;simp [mgk]
theorem mgk_all (a b : Int) (L : List Int) : mgk a b L L.length = mrg a b L := by
  refine List.ext_getElem (by rw [mgk_len, iY]) fun i h1 h2 => ?_;rw [iY] at h2;simp [mgk, mrg, h2]
theorem mgk_get {a b : Int} {L : List Int} {k : Nat} (h : k < L.length) : (mgk a b L k)[k]'(by rw [mgk_len]; exact h) = L[k] := by simp [mgk]
theorem mgk_yes {a b : Int} {L : List Int} {k : Nat} (h : k < L.length) (e : L[k] = b) : (mgk a b L k).set k a = mgk a b L (k + 1) := by
  refine List.ext_getElem (by simp [mgk]) fun i h1 h2 => ?_
  by_cases hi : k = i
  · subst hi; simp [mgk, e]
  · rw [List.getElem_set_ne hi]
    simp only [mgk, List.getElem_mapIdx]
    split <;> split <;> first | rfl | omega
theorem mgk_no {a b : Int} {L : List Int} {k : Nat} (h : k < L.length) (e : L[k] ≠ b) : mgk a b L k = mgk a b L (k + 1) := by
  refine List.ext_getElem (by simp [mgk]) fun i h1 h2 => ?_;simp only [mgk, List.getElem_mapIdx]
  by_cases hi : k = i
  · subst hi; simp [e]
  · split <;> split <;> first | rfl | omega
theorem cnt_max {L : List Int} (h0 : 0 < L.length) (hp : ∀ x ∈ L, 0 ≤ x) {bd : Int} (hb : 0 ≤ bd) (h : eO (cF L) ≤ bd) (y : Int) : (eU L y : Int) ≤ bd := by
  by_cases hy : y ∈ L
  · have h1 := hp y hy
    have h2 := gO hy
    obtain ⟨v, rfl⟩ : ∃ v : Nat, y = (v : Int) := ⟨y.toNat, by omega⟩
    have hv : v < (eO L + 1).toNat := by omega
    have h3 : (cnt L v : Int) ∈ cF L := by
      unfold cF
      rw [← iE (L := L) hv]; exact List.getElem_mem _
    have := gO h3
    rw [← cnt_is]; omega
  · rw [iD hy]; exact hb
theorem max_cnt {L : List Int} (h0 : 0 < (cF L).length) {bd : Int} (h : ∀ y, (eU L y : Int) ≤ bd) : eO (cF L) ≤ bd := lJ h0 fun x hx => by
  unfold cF szs at hx
  obtain ⟨j, _, rfl⟩ := List.mem_map.1 hx
  exact h j
theorem lab_mem {n : Nat} {L : List Int} {u : Int} (hL : L.length = n) (h : 0 ≤ u ∧ u < (n : Int)) : lab L u ∈ L := by
  rw [j8 (by omega)]; exact List.getElem_mem _
theorem seam_mem {n : Nat} {l : List Arc} {bd a b : Int} {L : List Int} (hL : L.length = n) (h : Seam n l bd L a b) : a ∈ L ∧ b ∈ L ∧ a ≠ b := by
  obtain ⟨p, hp, hne, hlb, _⟩ := h
  have hr := fW hp
  have h1 := lab_mem hL hr.1
  have h2 := lab_mem hL hr.2
  rcases hlb with ⟨e1, e2⟩ | ⟨e1, e2⟩
  · exact ⟨e1 ▸ h1, e2 ▸ h2, hne⟩
  · exact ⟨e2 ▸ h2, e1 ▸ h1, hne⟩
set_option maxRecDepth 100000 in
set_option maxHeartbeats 4000000 in
theorem Join_spec (N : Int) (A B : Option Addr) (l : List Arc) (cap : Nat) (L : List Int) (cb : Nat) (bd : Int) (w : World) (hr : Ro (Fr w []) w A (l.flatMap cD)) (hl : l.length ≤ 9223372036854775807) (hN : I64 N) (hok : ∀ x ∈ l, dV x) (hL : Ro (Fr w []) w B (aY L)) (hm : L.length ≤ 9223372036854775807) :
    Meets Tryz.prog 20 [.agg #[.int .i64 N, .slice A l.length cap], .slice B L.length cb, .int .i64 bd] w [] (fun u own' => ∃ (L' : List Int) (A' : Option Addr) (c : Nat) (m' : Seg), u = .tuple #[.slice A' L'.length c, .int .i64 (joinE N l L bd)] ∧ own' = [m'] ∧ Own 3 1 (.slice A' L'.length c) L'.length (aY L') m' ∧ (joinE N l L bd ≠ 0 → L' = []) ∧ (joinE N l L bd = 0 → JInv N.toNat l bd L L' ∧ smL (prs N.toNat l) L' bd = [] ∧ JTo N.toNat l bd L L')) := by
 refine bM Tryz.func20 rfl Tryz.ntmps20 rfl Owns.nil ?_;refine aK fun K1 kh1 => ?_;refine aC ?_;refine aU rfl rfl rfl (dA rfl rfl fun b3 => ?_);refine aA rfl rfl rfl (aF rfl) ?_;refine aA rfl rfl rfl (aF rfl) ?_;refine aJ ?_;refine aL (kh1 _ _ ?_);clear kh1;refine aK fun K2 kh2 => ?_;refine aK fun K3 kh3 => ?_;refine aC ?_;refine aA rfl rfl rfl (bD (vs := [_, _]) Tryz.isAgg24 Tryz.sizeOf24 rfl rfl ⟨(rdA rfl), (rdA rfl), trivial⟩) ?_;refine aA rfl rfl rfl (aG rfl) ?_;refine aA rfl rfl rfl (aG rfl) ?_;refine aU rfl rfl rfl (bE Tryz.call39 rfl (fun w_ hp_ => splook_spec N A B l cap L cb bd w_ (hr.up0 hp_) hl hN hok (hL.up0 hp_) hm) ?_);rintro _ _ ⟨rfl, rfl⟩;dsimp only [List.cons_append, List.nil_append];refine aA rfl rfl rfl (aF rfl) ?_;refine aJ ?_;refine aL (kh3 _ _ ?_);clear kh3;refine aK fun K4 kh4 => ?_;refine aC ?_;refine aA rfl rfl rfl (aG rfl) ?_;refine aA rfl rfl rfl (dC rfl rfl) ?_;refine aJ ?_;refine aL (kh4 _ _ ?_);clear kh4;refine a6 rfl (fun c20 => ?_) (fun c20 => ?_)
 ·
  refine aK fun K5 kh5 => ?_;refine aC ?_;refine aA rfl rfl rfl (aG rfl) ?_;refine aA rfl rfl rfl (aF rfl) ?_;refine aA rfl rfl rfl (aF rfl) ?_;refine aJ ?_;refine aL (kh5 _ _ ?_);clear kh5;refine a7 ?_;refine bS ?_;have c20' : spE N l L bd ≠ 0 := by simpa using c20
  have hje : joinE N l L bd = spE N l L bd := by unfold joinE; rw [if_pos c20']
  exact bZ [[]] Tryz.results20 rfl rfl (show Fly.Sub _ [[]] from (by repeat first|exact aH|refine aD ?_|refine aB rfl ?_|refine aI ?_)) ⟨[], none, 0, [], by rw [hje]; rfl, rfl, Own.nil _ _, fun _ => rfl, fun h => absurd (hje.symm.trans h) c20'⟩
 ·
  have hz : spE N l L bd = 0 := by simpa using c20
  obtain ⟨n, rfl, hn1, hn2, hg, hR, hbd⟩ := spE_zero hz
  have hLn : L.length = n := (cX hR).2
  have hrg := eK hR hn1
  refine aV ?_;refine aL (kh2 _ _ ?_);clear kh2;refine aK fun K6 kh6 => ?_;refine aK fun K7 kh7 => ?_;refine aC ?_;refine aA rfl rfl rfl (aG rfl) ?_;refine aU rfl rfl rfl (bE Tryz.call41 rfl (fun w_ hp_ => lA B L cb w_ (hL.up0 hp_) (by omega) (by omega) (fun x hx => by have := hrg x hx; omega)) ?_);rintro _ _ ⟨bs, rfl, rfl⟩;obtain ⟨M, hM⟩ : ∃ M : Nat, (eO L + 1).toNat = M := ⟨_, rfl⟩
  have hsl : (cF L).length = M := by unfold cF; rw [eQ, hM]
  rw [hM];rw [hM] at hrg;have hMn := hrg L[0] (List.getElem_mem (by omega))
  dsimp only [List.cons_append, List.nil_append];refine aU rfl rfl rfl (bE Tryz.call40 rfl (fun w_ hp_ => (by have h := jY (some ⟨bs, 0, none⟩) (cF L) M w_ (iN (b := bs) hp_ (fun j v hj => hj)) (by omega) (by omega); rw [hsl] at h; exact h)) ?_);rintro _ _ ⟨rfl, rfl⟩;dsimp only [List.cons_append, List.nil_append];refine aA rfl rfl rfl (aG rfl) ?_;refine aA rfl rfl rfl (eL rfl rfl) ?_;refine aJ ?_;refine aL (kh7 _ _ ?_);clear kh7;refine a6 rfl (fun c26 => ?_) (fun c26 => ?_)
  ·
   refine aK fun K8 kh8 => ?_;refine aC ?_;refine aA rfl rfl rfl (aF rfl) ?_;refine aA rfl rfl rfl (aF rfl) ?_;refine aJ ?_;refine aL (kh8 _ _ ?_);clear kh8;refine a7 ?_;refine bS ?_;have hje : joinE (n : Int) l L bd = 90 := by unfold joinE; rw [if_neg (by rw [hz]; simp), if_pos (by omega)]
   exact bZ [[]] Tryz.results20 rfl rfl (show Fly.Sub _ [[]] from (by repeat first|exact aH|refine aD ?_|refine aB rfl ?_|refine aI ?_)) ⟨[], none, 0, [], by rw [hje]; rfl, rfl, Own.nil _ _, fun _ => rfl, fun h => by rw [hje] at h; cases h⟩
  ·
   have hsz := cnt_max (L := L) (by omega) (fun x hx => (hrg x hx).1) (by omega) (by omega : eO (cF L) ≤ bd)
   refine aV ?_;refine aL (kh6 _ _ ?_);clear kh6;refine aK fun K9 kh9 => ?_;refine aC ?_;refine aA rfl rfl rfl (bD (vs := [_, _]) Tryz.isAgg24 Tryz.sizeOf24 rfl rfl ⟨(rdA rfl), (rdA rfl), trivial⟩) ?_;refine aU rfl rfl rfl (bE Tryz.call42 rfl (fun w_ hp_ => Pairs_spec (n : Int) A l cap w_ (hr.up0 hp_) hl hN hok) ?_);rintro _ own29 hq29;rw [if_pos hg, Int.toNat_natCast] at hq29;obtain ⟨Ap, mp, cp, rfl, rfl, hop⟩ := hq29
   dsimp only [List.cons_append, List.nil_append];refine aA rfl rfl rfl (aG rfl) ?_;refine aA rfl rfl rfl (aW rfl rfl) ?_;refine aA rfl rfl rfl (aW rfl rfl) ?_;refine aA rfl rfl rfl (aF rfl) ?_;refine aA rfl rfl rfl (aF rfl) ?_;refine aJ ?_;refine aL (kh9 _ _ ?_);clear kh9;refine aK fun K10 kh10 => ?_;refine aK fun K11 kh11 => ?_;refine aC ?_;refine aA rfl rfl rfl (aG rfl) ?_;refine aA rfl rfl rfl (dC rfl rfl) ?_;refine aJ ?_;refine aL (kh11 _ _ ?_);clear kh11;refine gD rfl (by simp) ?_;refine aV ?_;refine aL (kh10 _ _ ?_);clear kh10;refine aK fun K12 kh12 => ?_;refine aC ?_;refine aA rfl rfl rfl (aG rfl) ?_;refine aU rfl rfl rfl (bE Tryz.call19 rfl (fun w_ hp_ => j7 B L.length (aY L) cb w_ (hL.up0 hp_) (fun e => by rw [e] at hL; obtain ⟨_, _, e', _⟩ := hL (fun e => by have := aX L; rw [e] at this; simp at this; omega); cases e') (by rw [aX]; omega) (ints_oneG _) (by omega)) ?_);rintro v36 _ ⟨m36, rfl, o36⟩;obtain ⟨bo, co, sp, rfl, rfl⟩ := o36.block (by omega)
   dsimp only [List.cons_append, List.nil_append];refine aA rfl rfl rfl (aF rfl) ?_;refine aJ ?_;refine aL (kh12 _ _ ?_);clear kh12;refine aZ ?_;refine cS (α := List Int) [2, 9, 11] (fun L' => []) (fun L' => [[(bo, blk (aY L' ++ sp) 3)], mp]) (fun L' => JInv n l bd L L' ∧ JTo n l bd L L') (fun L' => (eO L' + 1).toNat) (L) ?_ ?_ ?_ ?_
   · exact (by repeat constructor)
   · repeat first|exact aH|refine aD ?_|refine aB rfl ?_|refine aI ?_
   · exact ⟨JInv.refl hR hsz, JTo.refl L⟩
   ·
    rintro L' ⟨hJ, hT⟩;have hLn' : L'.length = n := (cX hJ.right).2
    have hLL : L'.length = L.length := by omega
    refine aZ ?_;refine aK fun K13 kh13 => ?_;refine aC ?_;refine aA rfl rfl rfl (aG rfl) ?_;refine aA rfl rfl rfl (aG rfl) ?_;refine aA rfl rfl rfl (aG rfl) ?_;refine aU rfl rfl rfl (bE Tryz.call43 rfl (fun w_ hp_ => (by have h := seams_spec Ap (some ⟨bo, 0, none⟩) l (prs n l).length L' co bd w_ (eN (hop.seen hp_)) (iN (b := bo) hp_ (fun j v hj => dP hj)) hJ.right hn1 hn2 hbd; rw [hLL] at h; exact h)) ?_);rintro _ _ ⟨sl, c12, A12, m12, rfl, rfl, o12, hsm, hsk, hsl12⟩;dsimp only [List.cons_append, List.nil_append];refine aA rfl rfl rfl (aF rfl) ?_;refine aJ ?_;refine aL (kh13 _ _ ?_);clear kh13;refine aK fun K14 kh14 => ?_;refine aK fun K15 kh15 => ?_;refine aC ?_;refine aA rfl rfl rfl (aG rfl) ?_;refine aA rfl rfl rfl (bU sl76 rfl) ?_;refine aA rfl rfl rfl (fI rfl rfl) ?_;refine aJ ?_;refine aL (kh15 _ _ ?_);clear kh15;refine a6 rfl (fun c43 => ?_) (fun c43 => ?_)
    ·
     refine aK fun K16 kh16 => ?_;refine aC ?_;refine aA rfl rfl rfl (aG rfl) ?_;refine aA rfl rfl rfl (aF rfl) ?_;refine aA rfl rfl rfl (aF rfl) ?_;refine aJ ?_;refine aL (kh16 _ _ ?_);clear kh16;refine a7 ?_;refine bS ?_;refine d3 ?_;refine bS ?_;refine d3 ?_;have hje : joinE (n : Int) l L bd = 0 := by unfold joinE; rw [if_neg (by rw [hz]; simp), if_neg (by omega)]
     have hnl : smL (prs n l) L' bd = [] := by
       rw [List.eq_nil_iff_forall_not_mem];intro s hs;have := List.length_pos_of_mem ((hsm s).2 hs)
       omega
     exact bZ [[(bo, blk (aY L' ++ sp) 3)]] Tryz.results20 rfl rfl (by repeat first|exact aH|refine aD ?_|refine aB rfl ?_|refine aI ?_) ⟨L', some ⟨bo, 0, none⟩, co, _, by rw [hLL, hje], rfl, (by have := kQ o36 hLL; exact this), fun h => absurd hje h, fun _ => ⟨by rw [Int.toNat_natCast]; exact hJ, by rw [Int.toNat_natCast]; exact hnl, by rw [Int.toNat_natCast]; exact hT⟩⟩
    ·
     have hsl0 : 0 < sl.length := by omega
     refine aV ?_;refine aL (kh14 _ _ ?_);clear kh14;refine aK fun K17 kh17 => ?_;refine aC ?_;refine aA rfl rfl rfl (aG rfl) ?_;refine aU rfl rfl rfl (bE Tryz.call44 rfl (fun w_ hp_ => MinF_spec A12 c12 sl w_ (eN (o12.seen hp_)) (by omega) (by omega) hsk) ?_);rintro _ _ ⟨s, rfl, hss, hsb, rfl⟩;have hs0 := (hsm s).1 hss
     have hsm0 := seam_mem hLn' (smL_seam hs0)
     have hsb' : ∀ t ∈ smL (prs n l) L' bd, jW s t ≤ 0 := fun t ht => hsb t ((hsm t).2 ht)
     dsimp only [List.cons_append, List.nil_append];refine aU rfl rfl rfl (cV Tryz.zeroValue79 rfl fun b13 => ?_);refine bH rfl rfl (cN Tryz.sizeOf79 rfl rfl rfl rfl (by first | exact Nat.le_of_ble_eq_true rfl | (simp; done) | (simp; omega)) (kI s) rfl ?_);refine aJ ?_;refine aL (kh17 _ _ ?_);clear kh17;refine aK fun K18 kh18 => ?_;refine aK fun K19 kh19 => ?_;refine aC ?_;refine aA rfl rfl rfl (aG rfl) ?_;refine aA rfl rfl rfl (bU bK rfl) ?_;refine aA rfl rfl rfl (aG rfl) ?_;refine aJ ?_;refine aL (kh19 _ _ ?_);clear kh19;refine aZ ?_;refine cS (α := Nat) [2, 9, 11, 13, 48] (fun k => [(49, .int .i64 (k : Int))]) (fun k => [[(bo, blk (aY (mgk s.1 s.2.1 L' k) ++ sp) 3)], [(b13, blk [.int .i64 s.1, .int .i64 s.2.1, .int .i64 s.2.2] 79)], mp]) (fun k => k ≤ L'.length) (fun k => L'.length - k) (0) ?_ ?_ ?_ ?_
     · exact (by repeat constructor)
     · rw [mgk_zero]
       repeat first|exact aH|refine aD ?_|refine aB rfl ?_|refine aI ?_
     · exact Nat.zero_le _
     ·
      rintro k hkl;refine fC (e := [(49, _), (2, _), (9, _), (11, _), (13, _), (48, _)]) (by repeat constructor) ?_;refine aK fun K20 kh20 => ?_;refine aC ?_;refine aA rfl rfl rfl (cE rfl rfl) ?_;refine aJ ?_;refine aL (kh20 _ _ ?_);clear kh20;refine aK fun K21 kh21 => ?_;refine a6 rfl (fun c50 => ?_) (fun c50 => ?_)
      ·
       have hk : k < L'.length := by omega
       refine aV ?_;refine aL (kh21 _ _ ?_);clear kh21;refine aK fun K22 kh22 => ?_;refine aZ ?_;refine aK fun K23 kh23 => ?_;refine aC ?_;refine aA rfl rfl rfl (aG rfl) ?_;refine aA rfl rfl rfl (aF rfl) ?_;refine aJ ?_;refine aL (kh23 _ _ ?_);clear kh23;refine aK fun K24 kh24 => ?_;refine fS rfl (by decide +kernel) ?_;refine aN rfl rfl rfl (aG rfl) ?_;refine aN rfl rfl rfl (aG rfl) ?_;refine aN rfl rfl rfl (a8 bK rfl rfl (k) ⟨by omega, by omega, by first | omega | (simp; done) | (simp; omega)⟩) ?_;refine aN rfl rfl rfl (aM Tryz.isAgg3 rfl (rdA (v := .int .i64 L'[k]) (dP (by rw [dO (by rw [mgk_len]; exact hk), mgk_get hk])))) ?_;refine aN rfl rfl rfl (aP fa79_1 rfl) ?_;refine aN rfl rfl rfl (aM Tryz.isAgg3 rfl (rdA rfl)) ?_;refine aN rfl rfl rfl (fI rfl rfl) ?_;refine d7 ?_;refine aL (kh24 _ _ ?_);clear kh24;refine a6 rfl (fun c58 => ?_) (fun c58 => ?_)
       ·
        have hmy := mgk_yes (a := s.1) hk c58
        refine aC ?_;refine aA rfl rfl rfl (aG rfl) ?_;refine aA rfl rfl rfl (aG rfl) ?_;refine aA rfl rfl rfl (aP fa79_0 rfl) ?_;refine aA rfl rfl rfl (aM Tryz.isAgg3 rfl (rdA rfl)) ?_;refine aA rfl rfl rfl (a8 bK rfl rfl (k) ⟨by omega, by omega, by first | omega | (simp; done) | (simp; omega)⟩) ?_;refine bH rfl rfl (bY Tryz.sizeOf3 rfl rfl rfl rfl (by rw [List.length_append, aX, mgk_len]; omega) (aY (mgk s.1 s.2.1 L' (k + 1)) ++ sp) (by rw [← hmy, List.set_append_left _ _ (by rw [aX, mgk_len]; omega)]; simp [aY, List.map_set]) ?_);refine aJ ?_;refine cU ?_;refine aL (kh22 _ _ ?_);clear kh22;refine aC ?_;refine aA rfl rfl rfl (bF rfl rfl _ (aT (by omega))) ?_;refine aA rfl rfl rfl (aG rfl) ?_;refine aJ ?_;refine aL (bA (k + 1) (by first | omega | (dsimp only; omega) | (simp; omega)) (by omega) ?_ ?_ ?_)
        · exact (by repeat constructor)
        · exact (by repeat constructor)
        · repeat first|exact aH|refine aD ?_|refine aB rfl ?_|refine aI ?_
       ·
        have hmn := mgk_no (a := s.1) hk c58
        refine iK bo (aY (mgk s.1 s.2.1 L' (k + 1)) ++ sp) (by rw [hmn]) ?_;refine aV ?_;refine cU ?_;refine aL (kh22 _ _ ?_);clear kh22;refine aC ?_;refine aA rfl rfl rfl (bF rfl rfl _ (aT (by omega))) ?_;refine aA rfl rfl rfl (aG rfl) ?_;refine aJ ?_;refine aL (bA (k + 1) (by first | omega | (dsimp only; omega) | (simp; omega)) (by omega) ?_ ?_ ?_)
        · exact (by repeat constructor)
        · exact (by repeat constructor)
        · repeat first|exact aH|refine aD ?_|refine aB rfl ?_|refine aI ?_
      ·
       refine cG ?_;refine cH ?_;clear kh21;refine cH ?_;refine eB ?_;refine aL (kh18 _ _ ?_);clear kh18;obtain rfl : k = L'.length := by omega
       rw [mgk_all];refine aC ?_;refine aA rfl rfl rfl (aG rfl) ?_;refine aU rfl rfl rfl (fK [[(bo, blk (aY (mrg s.1 s.2.1 L') ++ sp) 3)]] _ Tryz.call46 rfl (by repeat (first | exact Sub.refl | refine aD ?_)) (fun w_ hp_ => (by have h := tidy_spec bo co (mrg s.1 s.2.1 L') sp w_ (by rw [iY]; omega) (by rw [iY]; omega) (kQ o36 (by rw [iY]; omega)) hp_.owns; rw [iY, hLL] at h; exact h)) ?_);rintro _ _ ⟨rfl, rfl, o66⟩;dsimp only [List.cons_append, List.nil_append];refine aJ ?_;refine cU ?_;refine aL (bA (tdy (mrg s.1 s.2.1 L')) (join_less hJ.right hn1 hsm0.1 hsm0.2.1 hsm0.2.2) ⟨hJ.step (by omega) (smL_seam hs0), hT.step hs0 hsb'⟩ ?_ ?_ ?_)
       · exact (by repeat constructor)
       · exact (by repeat constructor)
       · repeat first|exact aH|refine aD ?_|refine aB rfl ?_|refine aI ?_
end Go.Proofs.YtjjogcnjcnpehaaGreat

/- Labels cut up under a bound: plain laws. -/
namespace Go.Proofs.YtjjogcnjcnpehaaGreat
open Go Fly
set_option linter.unusedVariables false
set_option linter.unusedSimpArgs false
set_option linter.unusedSectionVars false
/-- The vertices with a label. -/
def fB (L : List Int) (j : Nat) : List Bool := L.map fun x => decide (x = (j : Int))
theorem iS (L : List Int) (j : Nat) : (fB L j).length = L.length := by simp [fB]
def kpTo (L : List Int) (j k : Nat) : List Bool := L.mapIdx fun i x => decide (i < k ∧ x = (j : Int))
theorem kpTo_len (L : List Int) (j k : Nat) : (kpTo L j k).length = L.length := by simp [kpTo]
theorem kpTo_zero (L : List Int) (j : Nat) : kpTo L j 0 = List.replicate L.length false := by
  refine List.ext_getElem (by simp [kpTo]) fun i h1 h2 => ?_;simp [kpTo]
theorem kpTo_next {L : List Int} {j k : Nat} (h : k < L.length) : (kpTo L j k).set k (decide (L[k] = (j : Int))) = kpTo L j (k + 1) := by
  refine List.ext_getElem (by simp [kpTo]) fun i h1 h2 => ?_;have h3 : i < L.length := by simpa [kpTo] using h2
  by_cases hi : k = i
  · subst hi; simp [kpTo]
  · rw [List.getElem_set_ne hi]
    simp only [kpTo, List.getElem_mapIdx];apply decide_eq_decide.2;constructor <;> rintro ⟨h4, h5⟩ <;> exact ⟨by omega, h5⟩
theorem kpTo_all (L : List Int) (j : Nat) : kpTo L j L.length = fB L j := by
  refine List.ext_getElem (by simp [kpTo, fB]) fun i h1 h2 => ?_;have h3 : i < L.length := by simpa [fB] using h2
  simp [kpTo, fB, h3]
abbrev cY (L : List Int) (j : Nat) : List Int := e5 (fB L j)
def cA (l : List Arc) (L : List Int) (j : Nat) : List Int := (ordR ((cY L j).length : Int) (dW (fB L j) l)).1
def putAt (vs ord : List Int) (i : Nat) : Nat := (vs.getD (ord.getD i 0).toNat 0).toNat
def gV (vs ord : List Int) (b : Nat) (nx : Int) (out : List Int) : Nat → List Int
  | 0 => out
  | i + 1 => (gV vs ord b nx out i).set (putAt vs ord i) (nx + ((i / b : Nat) : Int))
theorem putTo_len (vs ord : List Int) (b : Nat) (nx : Int) (out : List Int) : ∀ i, (gV vs ord b nx out i).length = out.length
  | 0 => rfl
  | i + 1 => by unfold gV; rw [List.length_set, putTo_len vs ord b nx out i]
def cO (l : List Arc) (L : List Int) (b : Nat) : Nat → List Int × Int
  | 0 => (L, (L.length : Int))
  | j + 1 => if cnt L j ≤ b then cO l L b j else (gV (cY L j) (cA l L j) b (cO l L b j).2 (cO l L b j).1 (cA l L j).length, (cO l L b j).2 + ((((cA l L j).length + b - 1) / b : Nat) : Int))
theorem gR (l : List Arc) (L : List Int) (b : Nat) : ∀ j, (cO l L b j).1.length = L.length
  | 0 => rfl
  | j + 1 => by unfold cO; split; exact gR l L b j; rw [putTo_len, gR l L b j]
def lS (l : List Arc) (L : List Int) (b : Nat) : List Int := tdy (cO l L b (eO L + 1).toNat).1
/-- The vertices of a label that is there, in order. -/
structure CutOk (l : List Arc) (L : List Int) (j : Nat) : Prop where
  has : (cY L j).length ≠ 0
  few : (cY L j).length ≤ L.length
  good : bG ((cY L j).length : Int) (dW (fB L j) l) = (0, 0)
  ord : ordR ((cY L j).length : Int) (dW (fB L j) l) = (cA l L j, 0)
  rng : ∀ x ∈ cA l L j, 0 ≤ x ∧ x < ((cY L j).length : Int)
  nd : (cA l L j).Nodup
  all : ∀ u, u < (cY L j).length → (u : Int) ∈ cA l L j
  olen : (cA l L j).length ≤ (cY L j).length
theorem cut_ok {l : List Arc} {L : List Int} {j : Nat} (hn : L.length ≤ 1024) (hl : l.length ≤ 8192) (hj : 0 < cnt L j) : CutOk l L j := by
  have hkl := iS L j
  have hne : (cY L j).length ≠ 0 := by
    have : (j : Int) ∈ L := Classical.byContradiction fun h => by have := iD h; rw [cnt_is] at hj; omega
    obtain ⟨v, hv, e⟩ := List.mem_iff_getElem.1 this
    exact verts_ne (v := v) (by omega) (by simp [fB, e])
  have hg := sub_good (keep := fB L j) (l := l) (by omega) hl hne
  obtain ⟨hrl, hrng⟩ := iR (n := (cY L j).length) (l := dW (fB L j) l) (by rw [cY, hg])
  have ho := ord_ok hrng (cY L j).length (Nat.le_refl _)
  have e : ordR ((cY L j).length : Int) (dW (fB L j) l) = ((dE (cY L j).length (fun v : Nat => bV (v : Int) (dW (fB L j) l)) (cY L j).length).1, 0) := by
    unfold ordR
    rw [if_neg (by rw [cY, hg]; simp), Int.toNat_natCast]
  have e1 : cA l L j = (dE (cY L j).length (fun v : Nat => bV (v : Int) (dW (fB L j) l)) (cY L j).length).1 := by unfold cA; rw [e]
  refine ⟨hne, ?_, hg, by rw [e, e1], ?_, ?_, ?_, ?_⟩
  · have := verts_le (fB L j); rw [hkl] at this; exact this
  · rw [e1]; exact ho.rng
  · rw [e1]; exact ho.nd
  · rw [e1]; exact ho.all
  · rw [e1]; exact ints_card ho.rng ho.nd
/-- What a place of the order is told. -/
theorem CutOk.at {l : List Arc} {L : List Int} {j : Nat} (h : CutOk l L j) {i : Nat} (hi : i < (cA l L j).length) : ∃ q, (cA l L j)[i] = ((q : Nat) : Int) ∧ ∃ hq : q < (cY L j).length, ∃ u, (cY L j)[q] = ((u : Nat) : Int) ∧ (∃ hu : u < L.length, L[u] = (j : Int)) ∧ putAt (cY L j) (cA l L j) i = u ∧ fD (fB L j) u = q := by
  have hr := h.rng _ (List.getElem_mem hi)
  obtain ⟨q, hq⟩ : ∃ q : Nat, (cA l L j)[i] = (q : Int) := ⟨_, (Int.toNat_of_nonneg hr.1).symm⟩
  rw [hq] at hr;obtain ⟨u, hu, e1, e2, e3⟩ := verts_get (keep := fB L j) (i := q) (by show q < (cY L j).length; omega)
  have hq2 : q < (cY L j).length := by omega
  have e4 : (cY L j)[q] = (u : Int) := by have : (cY L j)[q]? = some (u : Int) := e1; rw [List.getElem?_eq_getElem hq2] at this; exact Option.some.inj this
  rw [iS] at hu;refine ⟨q, hq, hq2, u, e4, ⟨hu, by simpa [fB] using e2⟩, ?_, e3⟩
  unfold putAt
  rw [List.getD_eq_getElem?_getD, List.getD_eq_getElem?_getD, List.getElem?_eq_getElem hi, Option.getD_some, hq, Int.toNat_natCast, List.getElem?_eq_getElem hq2, Option.getD_some, e4, Int.toNat_natCast]
theorem cutTo_next {l : List Arc} {L : List Int} {b : Nat} (hn : L.length ≤ 1024) (hl : l.length ≤ 8192) (hb : 0 < b) : ∀ j, (L.length : Int) ≤ (cO l L b j).2 ∧ (cO l L b j).2 ≤ 1024 + (j : Int) * 2048
  | 0 => by unfold cO; simp; omega
  | j + 1 => by
    have ih := cutTo_next (l := l) hn hl hb j
    unfold cO
    split
    · omega
    · have hc := cut_ok (l := l) hn hl (show 0 < cnt L j by omega)
      have h1 := hc.olen
      have h2 := hc.few
      have : ((cA l L j).length + b - 1) / b ≤ 2048 := by
        refine Nat.div_le_of_le_mul ?_;have : b * 1 ≤ b * 2048 := Nat.mul_le_mul_left b (by decide)
        rcases Nat.lt_or_ge b 1025 with h | h
        · have : 1 * 2048 ≤ b * 2048 := Nat.mul_le_mul_right 2048 hb
          omega
        · omega
      generalize ((cA l L j).length + b - 1) / b = q at *
      omega
end Go.Proofs.YtjjogcnjcnpehaaGreat
