import Derived.Test.YtjjogcnjcnpehaaGreatAll1
import Derived.Test.YtjjogcnjcnpehaaGreatFlyD

/- Package flow: a way through the layers. -/
namespace Go.Proofs.YtjjogcnjcnpehaaGreat
open Go Go.RowKit Fly
set_option linter.unusedVariables false
set_option linter.unusedSimpArgs false
theorem nodup_le : ∀ (m : Nat) (l : List Nat), l.Nodup → (∀ x, x ∈ l → x < m) → l.length ≤ m
  | 0, l, _, h => by
    cases l with
    | nil => exact Nat.le_refl _
    | cons x l => exact absurd (h x (List.mem_cons_self ..)) (by omega)
  | m + 1, l, hn, h => by
    by_cases hm : m ∈ l
    · have h1 := nodup_le m (l.erase m) (hn.erase m) fun x hx => by
        have := (hn.mem_erase_iff).1 hx
        have := h x this.2
        omega
      have := List.length_erase_of_mem hm
      omega
    · have := nodup_le m l hn fun x hx => by
        have := h x hx
        have : x ≠ m := fun e => hm (e ▸ hx)
        omega
      omega
theorem Wy.len {n : Nat} {e : List Arc} {s v : Nat} {f L nx : List Int} {W : List Nat} (h : Wy n e s f L nx W v) : W.length ≤ e.length := by
  have := nodup_le e.length (W.map (· / 2)) (h.way.nodup h.up) fun x hx => by
    obtain ⟨k, hk, rfl⟩ := List.mem_map.1 hx
    have := h.way.lt k hk
    omega
  simpa using this
theorem Way.level {e : List Arc} {L : List Int} : ∀ {W : List Nat} {u v : Nat}, Way e u v W → Up e L W → bU L v = bU L u + W.length
  | [], u, v, h, _ => by have : u = v := h; subst this; simp
  | k :: r, u, v, ⟨h1, h2, h3⟩, hU => by
    have a := Way.level h3 fun i hi => hU i (List.mem_cons_of_mem _ hi)
    have b := hU k (List.mem_cons_self ..)
    rw [h2] at b;rw [a, b, List.length_cons]; omega
theorem xor1 (k : Nat) : k ^^^ 1 = if k % 2 = 0 then k + 1 else k - 1 := by
  apply Nat.eq_of_testBit_eq;intro i;rw [Nat.testBit_xor]
  cases i with
  | zero =>
    split
    · rename_i h
      have a : (k + 1) % 2 = 1 := by omega
      simp only [Nat.testBit_zero, h, a]; rfl
    · rename_i h
      have a : (k - 1) % 2 = 0 := by omega
      have b : k % 2 = 1 := by omega
      simp only [Nat.testBit_zero, b, a]; rfl
  | succ i =>
    have h1 : (1 : Nat).testBit (i + 1) = false := by simp [Nat.testBit_succ]
    rw [h1, Bool.xor_false, Nat.testBit_succ]
    split
    · rw [Nat.testBit_succ]; congr 1; omega
    · rw [Nat.testBit_succ]; congr 1; omega
theorem xor1_lt {e : List Arc} {k : Nat} (h : k < 2 * e.length) : k ^^^ 1 < 2 * e.length := by rw [xor1]; split <;> omega
theorem kto_xor (e : List Arc) (k : Nat) : kto e (k ^^^ 1) = bZ e k := by
  rw [xor1]
  unfold kto bZ
  by_cases h : k % 2 = 0
  · rw [if_pos h, if_neg (by omega), if_pos h, show (k + 1) / 2 = k / 2 by omega]
  · rw [if_neg h, if_pos (by omega), if_neg h, show (k - 1) / 2 = k / 2 by omega]
theorem nI_pop (W : List Nat) (k : Nat) : (a6 (nI (W ++ [k]))).take (W.length * 1) = a6 (nI W) := by
  rw [nI_snoc, List.take_left' (by rw [nI_len]; omega)]
theorem last_of {W : List Nat} (h : W ≠ []) : ∃ W' k, W = W' ++ [k] := ⟨W.dropLast, W.getLast h, (List.dropLast_concat_getLast h).symm⟩
/-- What way answers. -/
def WayΦ (n : Nat) (e : List Arc) (s t : Nat) (f L nx : List Int) (bx : Nat) (u : Value) (own : List Seg) : Prop :=
  ∃ W nx' m' mw, own = [m', mw] ∧ DRep n e f L nx' bx m' ∧ Nx n e nx' ∧ Own 3 1 u W.length (a6 (nI W)) mw ∧ W.length ≤ e.length ∧ (W ≠ [] → Way e s t W ∧ ∀ k, k ∈ W → Good e f L k) ∧ (W = [] → Past n e t f L nx → Dead e t nx' s ∧ Past n e t f L nx')
set_option maxRecDepth 100000 in
set_option maxHeartbeats 4000000 in
theorem way_spec (n : Nat) (e : List Arc) (f L nx : List Int) (bx : Nat) (m : Seg) (s t : Nat) (w : World) (hn : NOk n e) (hf : Fits e f) (hLl : L.length = n) (hL0 : bU L s = 0) (hLg : ∀ v, v < n → -1 ≤ bU L v) (hx : Nx n e nx) (hS : DRep n e f L nx bx m) (hs : s < n) (ht : t < n) (hst : s ≠ t) (hw : Owns w [m]) :
    Meets Tryz.prog 118 [.pointer (some ⟨bx, 0, none⟩), .int .i64 (s : Int), .int .i64 (t : Int)] w [m] (WayΦ n e s t f L nx bx) := by
 have hn1 := hn.n1
 have hel := hn.len
 refine bJ Tryz.func118 rfl Tryz.ntmps118 rfl hw ?_;obtain ⟨bat, bl, bn, ve, vs, ms, me, hmp, hR, hE⟩ := hS
 obtain ⟨A, cap, rfl, _⟩ := hE.val
 refine gB (Sub.permF hmp) ?_
 unfold jF
 refine aK fun K1 kh1 => ?_;refine aB ?_;refine aA rfl rfl rfl (aF rfl) ?_;refine aJ ?_;refine aL (kh1 _ _ ?_);clear kh1;refine f_scope ?_;refine aK fun K2 kh2 => ?_;refine aB ?_;refine aA rfl rfl rfl (aF rfl) ?_;refine aJ ?_;refine aL (kh2 _ _ ?_);clear kh2;refine aK fun K3 kh3 => ?_;refine aB ?_;refine aA rfl rfl rfl (aG rfl) ?_;refine aA rfl rfl rfl (aF rfl) ?_;refine aJ ?_;refine aL (kh3 _ _ ?_);clear kh3;refine aK fun K4 kh4 => ?_;refine f_label ?_;refine aL (kh4 _ _ ?_);clear kh4;refine aK fun K5 kh5 => ?_;refine aY ?_;refine cS (α := List Nat × Nat × List Int × Value × Seg) [0, 2] (fun ⟨W, v, nx2, wv, wm⟩ => [(7, wv), (8, .int .i64 (v : Int))]) (fun ⟨W, v, nx2, wv, wm⟩ => [[(bx, blk (eY (.slice A e.length cap) n bat bl bn) 163)], [(bat, blk vs 25)], ms.flatten, me, [(bl, blk (a6 L) 3)], [(bn, blk (a6 nx2) 3)], wm]) (fun ⟨W, v, nx2, wv, wm⟩ => Wy n e s f L nx2 W v ∧ v < n ∧ Own 3 1 wv W.length (a6 (nI W)) wm ∧ (Past n e t f L nx → Past n e t f L nx2)) (fun ⟨W, v, nx2, wv, wm⟩ => kR n e L nx2 v) ([], s, nx, .slice none 0 0, []) ?_ ?_ ?_ ?_
 · exact (by repeat constructor)
 · repeat first|exact aI|refine aD ?_|refine aC rfl ?_|refine aH ?_
 · exact ⟨⟨rfl, fun k h => by simp at h, fun k h => by simp at h, hx⟩, hs, Own.nil _ _, fun h => h⟩
 ·
  rintro ⟨W, v, nx2, wv, wm⟩ ⟨hy, hvn, hW, hP⟩;obtain ⟨Aw, cw, rfl, hcw⟩ := hW.val
  refine aK fun K6 kh6 => ?_;refine aK fun K7 kh7 => ?_;refine aB ?_;refine aA rfl rfl rfl (aG rfl) ?_;refine aA rfl rfl rfl (aG rfl) ?_;refine aA rfl rfl rfl (c6 rfl rfl) ?_;refine aJ ?_;refine aL (kh7 _ _ ?_);clear kh7;refine aZ rfl (fun c15 => ?_) (fun c15 => ?_)
  ·
   refine aW ?_;refine aL (kh6 _ _ ?_);clear kh6;refine aY ?_;refine aK fun K8 kh8 => ?_;refine aY ?_;obtain ⟨rv, rm, rG, hrv, hro, hrp, _⟩ := hR.split (i := v) (by rw [iI]; exact hvn)
   rw [i1] at hro;have hrlen := kRow_len e (2 * e.length) v
   obtain ⟨Ar, cr, rfl, hcr⟩ := hro.val
   refine gB (Sub.splitF hrp) ?_;refine cS (α := List Int) [0, 2] (fun nx3 => [(7, .slice Aw W.length cw), (8, .int .i64 (v : Int))]) (fun nx3 => [[(bx, blk (eY (.slice A e.length cap) n bat bl bn) 163)], [(bat, blk vs 25)], rm, rG, me, [(bl, blk (a6 L) 3)], [(bn, blk (a6 nx3) 3)], wm]) (fun nx3 => Wy n e s f L nx3 W v ∧ (Past n e t f L nx → Past n e t f L nx3) ∧ kR n e L nx3 v ≤ kR n e L nx2 v) (fun nx3 => ((gK e (2 * e.length) v).length - bU nx3 v).toNat) (nx2) ?_ ?_ ?_ ?_
   · exact (by repeat constructor)
   · repeat first|exact aI|refine aD ?_|refine aC rfl ?_|refine aH ?_
   · exact ⟨hy, hP, Nat.le_refl _⟩
   ·
    rintro nx3 ⟨hy3, hP3, hm3⟩;have hxl := hy3.nx.len
    have hxr : 0 ≤ bU nx3 v ∧ bU nx3 v ≤ (((gK e (2 * e.length) v).length : Nat) : Int) := hy3.nx.rng v hvn
    refine eX (e := [(7, _), (8, _), (0, _), (2, _)]) (by repeat constructor) ?_;refine aK fun K9 kh9 => ?_;refine aK fun K10 kh10 => ?_;refine fY rfl (by decide +kernel) ?_;refine aN rfl rfl rfl (aG rfl) ?_;refine aN rfl rfl rfl (d6 rfl) ?_;refine aN rfl rfl rfl (aQ fa163_3 rfl) ?_;refine aN rfl rfl rfl (aM Tryz.isAgg25 rfl (rdA rfl)) ?_;refine aN rfl rfl rfl (aG rfl) ?_;refine aN rfl rfl rfl (bA bK rfl rfl (v) ⟨by omega, by omega, by first | omega | (simp; done) | (simp; omega)⟩) ?_;refine aN rfl rfl rfl (aM Tryz.isAgg3 rfl (rdA (iN (by omega)))) ?_;refine aN rfl rfl rfl (aG rfl) ?_;refine aN rfl rfl rfl (d6 rfl) ?_;refine aN rfl rfl rfl (aQ lX rfl) ?_;refine aN rfl rfl rfl (aM Tryz.isAgg30 rfl (rdA rfl)) ?_;refine aN rfl rfl rfl (aG rfl) ?_;refine aN rfl rfl rfl (bA gD rfl rfl (v) ⟨by omega, by omega, by first | omega | (simp; done) | (simp; omega)⟩) ?_;refine aN rfl rfl rfl (aM Tryz.isAgg25 rfl (rdA hrv)) ?_;refine aN rfl rfl rfl (bS bK rfl) ?_;refine aN rfl rfl rfl (cD rfl rfl) ?_;refine eH ?_;refine aL (kh10 _ _ ?_);clear kh10;refine aZ rfl (fun c31 => ?_) (fun c31 => ?_)
    ·
     refine aW ?_;refine aL (kh9 _ _ ?_);clear kh9;refine aK fun K11 kh11 => ?_;refine aY ?_;refine aK fun K12 kh12 => ?_;refine gY 16 rfl (by decide +kernel) ?_;have hj : (bU nx3 v).toNat < (gK e (2 * e.length) v).length := by omega
     have hlt : bU nx3 v < ((row e v).length : Int) := by show bU nx3 v < ((gK e (2 * e.length) v).length : Int); omega
     obtain ⟨br, sr, rfl, rfl⟩ := hro.at_ (by omega)
     obtain ⟨k, hrk, hk2, hkf⟩ := row_at hj
     have hcur : (row e v)[(bU nx3 v).toNat]? = some (k : Int) := by rw [List.getElem?_eq_getElem hj, hrk]
     have hut := kto_lt hn.net hk2
     have hlv := hy3.way.level hy3.up
     rw [hL0] at hlv;have hwl := hy3.len
     refine aN rfl rfl rfl (aG rfl) ?_;refine aN rfl rfl rfl (d6 rfl) ?_;refine aN rfl rfl rfl (aQ lX rfl) ?_;refine aN rfl rfl rfl (aM Tryz.isAgg30 rfl (rdA rfl)) ?_;refine aN rfl rfl rfl (aG rfl) ?_;refine aN rfl rfl rfl (bA gD rfl rfl (v) ⟨by omega, by omega, by first | omega | (simp; done) | (simp; omega)⟩) ?_;refine aN rfl rfl rfl (aM Tryz.isAgg25 rfl (rdA hrv)) ?_;refine aN rfl rfl rfl (aG rfl) ?_;refine aN rfl rfl rfl (d6 rfl) ?_;refine aN rfl rfl rfl (aQ fa163_3 rfl) ?_;refine aN rfl rfl rfl (aM Tryz.isAgg25 rfl (rdA rfl)) ?_;refine aN rfl rfl rfl (aG rfl) ?_;refine aN rfl rfl rfl (bA bK rfl rfl (v) ⟨by omega, by omega, by first | omega | (simp; done) | (simp; omega)⟩) ?_;refine aN rfl rfl rfl (aM Tryz.isAgg3 rfl (rdA (iN (by omega)))) ?_;refine aN rfl rfl rfl (bA bK rfl rfl ((bU nx3 v).toNat) ⟨by omega, by omega, by first | omega | (simp; done) | (simp; omega)⟩) ?_;refine aN rfl rfl rfl (aM Tryz.isAgg3 rfl (rdA (v := .int .i64 (k : Int)) (dN (by rw [dL hj, hrk])))) ?_;refine eH (kN ?_);refine aA rfl rfl rfl (aF rfl) ?_;refine aJ ?_;refine aL (kh12 _ _ ?_);clear kh12;refine aK fun K13 kh13 => ?_;refine aB ?_;refine aA rfl rfl rfl (aG rfl) ?_;refine aA rfl rfl rfl (aG rfl) ?_;refine aR rfl rfl rfl (bD Tryz.call124 rfl (fun w_ hp_ => to_spec n e f bx bat bl bn k cap A w_ (iV (b := bx) hp_ (fun j v hj => hj)) (eU (hE.seen hp_)) hn hf.len hk2) ?_);rintro _ _ ⟨rfl, rfl⟩;dsimp only [List.cons_append, List.nil_append];refine aA rfl rfl rfl (aF rfl) ?_;refine aJ ?_;refine aL (kh13 _ _ ?_);clear kh13;refine aK fun K14 kh14 => ?_;refine dH [[(bx, blk (eY (.slice A e.length cap) n bat bl bn) 163)], [(bl, blk (a6 L) 3)]] rfl ?_;refine aU 0 rfl (by decide +kernel) rfl rfl rfl (by repeat first|exact aI|refine aD ?_|refine aC rfl ?_|refine aH ?_) (aG rfl) ?_;refine aU 1 rfl (by decide +kernel) rfl rfl rfl (by repeat first|exact aI|refine aD ?_|refine aC rfl ?_|refine aH ?_) (aG rfl) ?_;refine bQ 2 rfl (by decide +kernel) rfl rfl rfl (bD Tryz.call119 rfl (fun w_ hp_ => left_spec n e f bx bat bl bn k cap A w_ (iV (b := bx) hp_ (fun j v hj => hj)) (eU (hE.seen hp_)) hn hf.len hk2) ?_);rintro _ _ ⟨rfl, rfl⟩;dsimp only [List.cons_append, List.nil_append];refine ⟨(by repeat first|exact aI|refine aD ?_|refine aC rfl ?_|refine aH ?_), ?_⟩;refine aU 3 rfl (by decide +kernel) rfl rfl rfl (by repeat first|exact aI|refine aD ?_|refine aC rfl ?_|refine aH ?_) (eQ rfl rfl) ?_;refine aU 4 rfl (by decide +kernel) rfl rfl rfl (by repeat first|exact aI|refine aD ?_|refine aC rfl ?_|refine aH ?_) (aG rfl) ?_
     refine f_splitH 64 rfl (fun g64 => ?_) (fun g64 => ?_)
     ·
      refine fQ 5 rfl (by decide +kernel) rfl rfl rfl rfl rfl (by repeat first|exact aI|refine aD ?_|refine aC rfl ?_|refine aH ?_) (aG rfl) ?_;refine fQ 6 rfl (by decide +kernel) rfl rfl rfl rfl rfl (by repeat first|exact aI|refine aD ?_|refine aC rfl ?_|refine aH ?_) (d6 rfl) ?_;refine fQ 7 rfl (by decide +kernel) rfl rfl rfl rfl rfl (by repeat first|exact aI|refine aD ?_|refine aC rfl ?_|refine aH ?_) (aQ i7 rfl) ?_;refine fQ 8 rfl (by decide +kernel) rfl rfl rfl rfl rfl (by repeat first|exact aI|refine aD ?_|refine aC rfl ?_|refine aH ?_) (aM Tryz.isAgg25 rfl (rdA rfl)) ?_;refine fQ 9 rfl (by decide +kernel) rfl rfl rfl rfl rfl (by repeat first|exact aI|refine aD ?_|refine aC rfl ?_|refine aH ?_) (aG rfl) ?_;refine fQ 10 rfl (by decide +kernel) rfl rfl rfl rfl rfl (by repeat first|exact aI|refine aD ?_|refine aC rfl ?_|refine aH ?_) (bA bK rfl rfl (kto e k) ⟨by omega, by omega, by first | omega | (simp; done) | (simp; omega)⟩) ?_;refine fQ 11 rfl (by decide +kernel) rfl rfl rfl rfl rfl (by repeat first|exact aI|refine aD ?_|refine aC rfl ?_|refine aH ?_) (aM Tryz.isAgg3 rfl (rdA (iN (by omega)))) ?_;refine fQ 12 rfl (by decide +kernel) rfl rfl rfl rfl rfl (by repeat first|exact aI|refine aD ?_|refine aC rfl ?_|refine aH ?_) (aG rfl) ?_;refine fQ 13 rfl (by decide +kernel) rfl rfl rfl rfl rfl (by repeat first|exact aI|refine aD ?_|refine aC rfl ?_|refine aH ?_) (d6 rfl) ?_;refine fQ 14 rfl (by decide +kernel) rfl rfl rfl rfl rfl (by repeat first|exact aI|refine aD ?_|refine aC rfl ?_|refine aH ?_) (aQ i7 rfl) ?_;refine fQ 15 rfl (by decide +kernel) rfl rfl rfl rfl rfl (by repeat first|exact aI|refine aD ?_|refine aC rfl ?_|refine aH ?_) (aM Tryz.isAgg25 rfl (rdA rfl)) ?_;refine fQ 16 rfl (by decide +kernel) rfl rfl rfl rfl rfl (by repeat first|exact aI|refine aD ?_|refine aC rfl ?_|refine aH ?_) (aG rfl) ?_;refine fQ 17 rfl (by decide +kernel) rfl rfl rfl rfl rfl (by repeat first|exact aI|refine aD ?_|refine aC rfl ?_|refine aH ?_) (bA bK rfl rfl (v) ⟨by omega, by omega, by first | omega | (simp; done) | (simp; omega)⟩) ?_;refine fQ 18 rfl (by decide +kernel) rfl rfl rfl rfl rfl (by repeat first|exact aI|refine aD ?_|refine aC rfl ?_|refine aH ?_) (aM Tryz.isAgg3 rfl (rdA (iN (by omega)))) ?_;refine fQ 19 rfl (by decide +kernel) rfl rfl rfl rfl rfl (by repeat first|exact aI|refine aD ?_|refine aC rfl ?_|refine aH ?_) (bG rfl rfl _ (aT (by omega))) ?_
      refine fQ 20 rfl (by decide +kernel) rfl rfl rfl rfl rfl (by repeat first|exact aI|refine aD ?_|refine aC rfl ?_|refine aH ?_) (fM rfl rfl) ?_;refine aU 21 rfl (by decide +kernel) rfl rfl rfl (by repeat first|exact aI|refine aD ?_|refine aC rfl ?_|refine aH ?_) (cF rfl rfl) ?_;refine dF (by decide +kernel) ?_;refine aL (kh14 _ _ ?_);clear kh14;refine aZ rfl (fun c81 => ?_) (fun c81 => ?_)
      ·
       refine aK fun K15 kh15 => ?_;refine aB ?_;refine aA rfl rfl rfl (aG rfl) ?_;refine aA rfl rfl rfl (aG rfl) ?_;refine aR rfl rfl rfl (dA dV (by omega) rfl rfl rfl fun b84 => ?_);refine aR rfl rfl rfl (dG dV rfl rfl hW (ys := [.int .i64 (k : Int)]) ⟨(rdA rfl), trivial⟩ rfl rfl (by omega) (by omega) fun v85 m85 o85 => ?_);refine aA rfl rfl rfl (aF rfl) ?_;refine aJ ?_;refine aL (kh15 _ _ ?_);clear kh15;refine aK fun K16 kh16 => ?_;refine aB ?_;refine aA rfl rfl rfl (aG rfl) ?_;refine aA rfl rfl rfl (aF rfl) ?_;refine aJ ?_;refine aL (kh16 _ _ ?_);clear kh16;refine cG ?_;refine f_bo rfl ?_;refine cK ?_;clear kh11;refine cK ?_;refine f_bo rfl ?_;refine cK ?_;clear kh8;refine d5 ?_;refine jI (Sub.joinF hrp.symm) ?_;refine aL (bB (W ++ [k], kto e k, nx3, v85, m85) (by show kR n e L nx3 (kto e k) < kR n e L nx2 v; have := wayMu_on (L := L) ⟨g64, by rw [hkf]; exact c81⟩ hkf hy3.nx; omega) ⟨hy3.on hk2 hkf hcur ⟨g64, by rw [hkf]; exact c81⟩, hut, by rw [nI_snoc, List.length_append]; exact o85, hP3⟩ ?_ ?_ ?_)
       · exact (by repeat constructor)
       · exact (by repeat constructor)
       · repeat first|exact aI|refine aD ?_|refine aC rfl ?_|refine aH ?_
      ·
       refine aW ?_;refine cV ?_;refine aL (kh11 _ _ ?_);clear kh11;refine aB ?_;refine aA rfl rfl rfl (aG rfl) ?_;refine aA rfl rfl rfl (d6 rfl) ?_;refine aA rfl rfl rfl (aQ fa163_3 rfl) ?_;refine aA rfl rfl rfl (aM Tryz.isAgg25 rfl (rdA rfl)) ?_;refine aA rfl rfl rfl (aG rfl) ?_;refine aA rfl rfl rfl (bA bK rfl rfl (v) ⟨by omega, by omega, by first | omega | (simp; done) | (simp; omega)⟩) ?_;refine aA rfl rfl rfl (aM Tryz.isAgg3 rfl (rdA (iN (by omega)))) ?_;refine aA rfl rfl rfl (bG rfl rfl _ (aT (by omega))) ?_;refine aA rfl rfl rfl (bA bK rfl rfl (v) ⟨by omega, by omega, by first | omega | (simp; done) | (simp; omega)⟩) ?_;refine bF rfl rfl (cB Tryz.sizeOf3 rfl rfl rfl rfl (by rw [aX]; omega) (a6 (nx3.set v (bU nx3 v + 1))) (lB ..) ?_);refine aJ ?_
       refine aL (bB (nx3.set v (bU nx3 v + 1)) (by rw [gU (by omega), if_pos rfl]; omega) ⟨hy3.pass hvn hlt, fun h => (hP3 h).step hy3.nx hvn hlt (fun k' hk' hg' => by
         rw [hcur] at hk';obtain rfl : k = k' := by have := Option.some.inj hk'; omega
         obtain ⟨q1, q2⟩ := hg'
         rw [hkf] at q2; omega), Nat.le_trans (Nat.le_of_lt (wayMu_pass (L := L) hy3.nx hvn hlt (hLg v hvn) v)) hm3⟩ ?_ ?_ ?_)
       · exact (by repeat constructor)
       · exact (by repeat constructor)
       · repeat first|exact aI|refine aD ?_|refine aC rfl ?_|refine aH ?_
     ·
      refine fR 5 rfl (by decide +kernel) rfl rfl rfl rfl rfl rfl (by repeat first|exact aI|refine aD ?_|refine aC rfl ?_|refine aH ?_) ?_;refine fR 6 rfl (by decide +kernel) rfl rfl rfl rfl rfl rfl (by repeat first|exact aI|refine aD ?_|refine aC rfl ?_|refine aH ?_) ?_;refine fR 7 rfl (by decide +kernel) rfl rfl rfl rfl rfl rfl (by repeat first|exact aI|refine aD ?_|refine aC rfl ?_|refine aH ?_) ?_;refine fR 8 rfl (by decide +kernel) rfl rfl rfl rfl rfl rfl (by repeat first|exact aI|refine aD ?_|refine aC rfl ?_|refine aH ?_) ?_;refine fR 9 rfl (by decide +kernel) rfl rfl rfl rfl rfl rfl (by repeat first|exact aI|refine aD ?_|refine aC rfl ?_|refine aH ?_) ?_;refine fR 10 rfl (by decide +kernel) rfl rfl rfl rfl rfl rfl (by repeat first|exact aI|refine aD ?_|refine aC rfl ?_|refine aH ?_) ?_;refine fR 11 rfl (by decide +kernel) rfl rfl rfl rfl rfl rfl (by repeat first|exact aI|refine aD ?_|refine aC rfl ?_|refine aH ?_) ?_;refine fR 12 rfl (by decide +kernel) rfl rfl rfl rfl rfl rfl (by repeat first|exact aI|refine aD ?_|refine aC rfl ?_|refine aH ?_) ?_;refine fR 13 rfl (by decide +kernel) rfl rfl rfl rfl rfl rfl (by repeat first|exact aI|refine aD ?_|refine aC rfl ?_|refine aH ?_) ?_;refine fR 14 rfl (by decide +kernel) rfl rfl rfl rfl rfl rfl (by repeat first|exact aI|refine aD ?_|refine aC rfl ?_|refine aH ?_) ?_;refine fR 15 rfl (by decide +kernel) rfl rfl rfl rfl rfl rfl (by repeat first|exact aI|refine aD ?_|refine aC rfl ?_|refine aH ?_) ?_;refine fR 16 rfl (by decide +kernel) rfl rfl rfl rfl rfl rfl (by repeat first|exact aI|refine aD ?_|refine aC rfl ?_|refine aH ?_) ?_;refine fR 17 rfl (by decide +kernel) rfl rfl rfl rfl rfl rfl (by repeat first|exact aI|refine aD ?_|refine aC rfl ?_|refine aH ?_) ?_;refine fR 18 rfl (by decide +kernel) rfl rfl rfl rfl rfl rfl (by repeat first|exact aI|refine aD ?_|refine aC rfl ?_|refine aH ?_) ?_;refine fR 19 rfl (by decide +kernel) rfl rfl rfl rfl rfl rfl (by repeat first|exact aI|refine aD ?_|refine aC rfl ?_|refine aH ?_) ?_;refine fR 20 rfl (by decide +kernel) rfl rfl rfl rfl rfl rfl (by repeat first|exact aI|refine aD ?_|refine aC rfl ?_|refine aH ?_) ?_;refine aU 21 rfl (by decide +kernel) rfl rfl rfl (by repeat first|exact aI|refine aD ?_|refine aC rfl ?_|refine aH ?_) (cO rfl rfl) ?_;refine dF (by decide +kernel) ?_;refine aL (kh14 _ _ ?_)
      clear kh14;refine gZ rfl ?_;refine aW ?_;refine cV ?_;refine aL (kh11 _ _ ?_);clear kh11;refine aB ?_;refine aA rfl rfl rfl (aG rfl) ?_;refine aA rfl rfl rfl (d6 rfl) ?_;refine aA rfl rfl rfl (aQ fa163_3 rfl) ?_;refine aA rfl rfl rfl (aM Tryz.isAgg25 rfl (rdA rfl)) ?_;refine aA rfl rfl rfl (aG rfl) ?_;refine aA rfl rfl rfl (bA bK rfl rfl (v) ⟨by omega, by omega, by first | omega | (simp; done) | (simp; omega)⟩) ?_;refine aA rfl rfl rfl (aM Tryz.isAgg3 rfl (rdA (iN (by omega)))) ?_;refine aA rfl rfl rfl (bG rfl rfl _ (aT (by omega))) ?_;refine aA rfl rfl rfl (bA bK rfl rfl (v) ⟨by omega, by omega, by first | omega | (simp; done) | (simp; omega)⟩) ?_;refine bF rfl rfl (cB Tryz.sizeOf3 rfl rfl rfl rfl (by rw [aX]; omega) (a6 (nx3.set v (bU nx3 v + 1))) (lB ..) ?_);refine aJ ?_
      refine aL (bB (nx3.set v (bU nx3 v + 1)) (by rw [gU (by omega), if_pos rfl]; omega) ⟨hy3.pass hvn hlt, fun h => (hP3 h).step hy3.nx hvn hlt (fun k' hk' hg' => by
        rw [hcur] at hk';obtain rfl : k = k' := by have := Option.some.inj hk'; omega
        obtain ⟨q1, q2⟩ := hg'
        rw [hkf] at q2; omega), Nat.le_trans (Nat.le_of_lt (wayMu_pass (L := L) hy3.nx hvn hlt (hLg v hvn) v)) hm3⟩ ?_ ?_ ?_)
      · exact (by repeat constructor)
      · exact (by repeat constructor)
      · repeat first|exact aI|refine aD ?_|refine aC rfl ?_|refine aH ?_
    ·
     refine cG ?_;refine cK ?_;clear kh9;refine cK ?_;refine d5 ?_;refine aL (kh8 _ _ ?_);clear kh8;refine aK fun K17 kh17 => ?_;refine aK fun K18 kh18 => ?_;refine aB ?_;refine aA rfl rfl rfl (aG rfl) ?_;refine aA rfl rfl rfl (bS bK rfl) ?_;refine aA rfl rfl rfl (fM rfl rfl) ?_;refine aJ ?_;refine aL (kh18 _ _ ?_);clear kh18;refine aZ rfl (fun c89 => ?_) (fun c89 => ?_)
     ·
      obtain rfl : W = [] := by
        cases W with
        | nil => rfl
        | cons a b => simp at c89; omega
      have hsv : s = v := hy3.way
      subst hsv;refine aK fun K19 kh19 => ?_;refine aB ?_;refine aA rfl rfl rfl (aF rfl) ?_;refine aJ ?_;refine aL (kh19 _ _ ?_);clear kh19;refine a7 ?_;refine bT ?_;refine eC ?_;refine bT ?_;refine eC ?_;refine bT ?_;refine f_nr ?_;exact bP [(jF bx bat bl bn n (.slice A e.length cap) vs ms.flatten me L nx3).flatten, []] Tryz.results118 rfl (Sub.transF (Sub.joinF hrp.symm) (Sub.flat2 (Sub.transF (b := jF bx bat bl bn n (.slice A e.length cap) vs ms.flatten me L nx3) (by unfold jF; repeat (first | exact aI | refine aD ?_ | refine aC rfl ?_)) Sub.addNil))) ⟨[], nx3, _, [], rfl, DRep_mk hR hE, hy3.nx, Own.nil _ _, Nat.zero_le _, fun h => absurd rfl h, fun _ h => ⟨⟨by show bU nx3 s = (((gK e (2 * e.length) s).length : Nat) : Int); omega, hst⟩, hP3 h⟩⟩
     ·
      obtain ⟨W', k, rfl⟩ := last_of (W := W) (fun e' => by subst e'; simp at c89)
      have hwl := hy3.len
      have hWl : (W' ++ [k]).length = W'.length + 1 := by simp
      obtain ⟨bw, sw, rfl, rfl⟩ := hW.at_ (by omega)
      obtain ⟨hk2, hkt, hbk⟩ := hy3.back
      have hfn := j4 hn.net hk2
      have hlt' := hy3.lt
      have hlq : bU nx3 (bZ e k) < (((gK e (2 * e.length) (bZ e k)).length : Nat) : Int) := hy3.lt
      have hfr := hy3.nx.rng _ hfn
      have hrl' := kRow_len e (2 * e.length) (bZ e k)
      refine aW ?_;refine aL (kh17 _ _ ?_);clear kh17;refine aK fun K20 kh20 => ?_;refine aB ?_;refine aA rfl rfl rfl (aG rfl) ?_;refine aA rfl rfl rfl (aG rfl) ?_;refine aA rfl rfl rfl (bS bK rfl) ?_;refine aA rfl rfl rfl (fV rfl rfl _ (aT (by omega))) ?_;refine aA rfl rfl rfl (bA bK rfl rfl (W'.length) ⟨by omega, by omega, by first | omega | (simp; done) | (simp; omega)⟩) ?_;refine aA rfl rfl rfl (aM Tryz.isAgg3 rfl (rdA (v := .int .i64 (k : Int)) (dN (by rw [nI_snoc, List.getElem?_append_right (by rw [nI_len]; exact Nat.le_refl _), nI_len, Nat.sub_self]; rfl)))) ?_;refine aA rfl rfl rfl (aF rfl) ?_;refine aJ ?_;refine aL (kh20 _ _ ?_);clear kh20;refine aK fun K21 kh21 => ?_;refine aB ?_;refine aA rfl rfl rfl (aG rfl) ?_;refine aA rfl rfl rfl (aG rfl) ?_;refine aA rfl rfl rfl (bS bK rfl) ?_;refine aA rfl rfl rfl (fV rfl rfl _ (aT (by omega))) ?_;refine aA rfl rfl rfl (e5 bK rfl rfl rfl rfl (fun h => by cases h) 0 W'.length _ (.inl ⟨rfl, rfl⟩) (.inr ⟨_, _, rfl, by omega⟩) (.inl ⟨rfl, rfl⟩) ⟨by omega, by omega, by omega⟩ (.slice (some ⟨bw, 0, none⟩) W'.length cw) (by rw [if_neg (by omega)]; simp [cY])) ?_;refine aA rfl rfl rfl (aF rfl) ?_;refine aJ ?_;refine aL (kh21 _ _ ?_);clear kh21;refine aK fun K22 kh22 => ?_;refine aB ?_;refine aA rfl rfl rfl (aG rfl) ?_;refine aA rfl rfl rfl (aG rfl) ?_;refine aA rfl rfl rfl (o_xor rfl rfl ((k ^^^ 1 : Nat) : Int) (xor_one (by omega))) ?_;refine aR rfl rfl rfl (bD Tryz.call124 rfl (fun w_ hp_ => to_spec n e f bx bat bl bn (k ^^^ 1) cap A w_ (iV (b := bx) hp_ (fun j v hj => hj)) (eU (hE.seen hp_)) hn hf.len (xor1_lt hk2)) ?_);rintro _ _ ⟨rfl, rfl⟩;rw [kto_xor];dsimp only [List.cons_append, List.nil_append];refine aA rfl rfl rfl (aF rfl) ?_;refine aJ ?_;refine aL (kh22 _ _ ?_);clear kh22;refine aB ?_;refine aA rfl rfl rfl (aG rfl) ?_;refine aA rfl rfl rfl (d6 rfl) ?_;refine aA rfl rfl rfl (aQ fa163_3 rfl) ?_;refine aA rfl rfl rfl (aM Tryz.isAgg25 rfl (rdA rfl)) ?_;refine aA rfl rfl rfl (aG rfl) ?_;refine aA rfl rfl rfl (bA bK rfl rfl (bZ e k) ⟨by omega, by omega, by first | omega | (simp; done) | (simp; omega)⟩) ?_;refine aA rfl rfl rfl (aM Tryz.isAgg3 rfl (rdA (iN (by omega)))) ?_;refine aA rfl rfl rfl (bG rfl rfl _ (aT (by omega))) ?_;refine aA rfl rfl rfl (bA bK rfl rfl (bZ e k) ⟨by omega, by omega, by first | omega | (simp; done) | (simp; omega)⟩) ?_;refine bF rfl rfl (cB Tryz.sizeOf3 rfl rfl rfl rfl (by rw [aX]; omega) (a6 (nx3.set (bZ e k) (bU nx3 (bZ e k) + 1))) (lB ..) ?_);refine aJ ?_;refine cV ?_;refine jI (Sub.joinF hrp.symm) ?_
      refine aL (bB (W', bZ e k, nx3.set (bZ e k) (bU nx3 (bZ e k) + 1), .slice (some ⟨bw, 0, none⟩) W'.length cw, [(bw, blk (a6 (nI (W' ++ [k])) ++ sw) 3)]) (by show kR n e L (nx3.set (bZ e k) (bU nx3 (bZ e k) + 1)) (bZ e k) < kR n e L nx2 v; have := wayMu_pass (L := L) hy3.nx hfn hlt' (hLg _ hfn) v; omega) ⟨hbk.pass hfn hlt', hfn, by have := hW.head (n := W'.length) (by simp); rw [nI_pop] at this; exact this, fun h => (hP3 h).step hy3.nx hfn hlt' (fun k' hk' hg' => by
        have hc2 := hy3.cur k (by simp)
        rw [hk'] at hc2;obtain rfl : k' = k := by have := Option.some.inj hc2; omega
        rw [hkt]; exact ⟨by show bU nx3 v = (((gK e (2 * e.length) v).length : Nat) : Int); omega, fun e' => c15 (by rw [e'])⟩)⟩ ?_ ?_ ?_)
      · exact (by repeat constructor)
      · exact (by repeat constructor)
      · repeat first|exact aI|refine aD ?_|refine aC rfl ?_|refine aH ?_
  ·
   obtain rfl : v = t := by omega
   refine cG ?_;refine cK ?_;clear kh6;refine cK ?_;refine d5 ?_;refine aL (kh5 _ _ ?_);clear kh5;refine aK fun K23 kh23 => ?_;refine aB ?_;refine aA rfl rfl rfl (aG rfl) ?_;refine aA rfl rfl rfl (aF rfl) ?_;refine aJ ?_;refine aL (kh23 _ _ ?_);clear kh23;refine a7 ?_;refine f_nr ?_;exact bP [(jF bx bat bl bn n (.slice A e.length cap) vs ms.flatten me L nx2).flatten, wm] Tryz.results118 rfl (Sub.flat2 (by unfold jF; repeat (first | exact aI | refine aD ?_ | refine aC rfl ?_))) ⟨W, nx2, _, wm, rfl, DRep_mk hR hE, hy.nx, hW, hy.len, fun _ => ⟨hy.way, hy.good⟩, fun h => by subst h; exact absurd (show s = v from hy.way) hst⟩
end Go.Proofs.YtjjogcnjcnpehaaGreat

/- Package flow: pushing until no way is left. -/
namespace Go.Proofs.YtjjogcnjcnpehaaGreat
open Go Go.RowKit Fly
set_option linter.unusedVariables false
set_option linter.unusedSimpArgs false
theorem Sub.flatR {segs out r : List Seg} (h : Sub segs (out ++ r)) : Sub segs (out.flatten :: r) := by
  obtain ⟨q, h⟩ := h
  exact ⟨q, by simpa using h⟩
theorem Sub.openAt {segs s1 out : List Seg} {m : Seg} [p : Pick segs m s1] (hp : m.Perm out.flatten) : Sub segs (out ++ s1) := Sub.pickF hp Sub.refl
theorem nI_get {W : List Nat} {j : Nat} (h : j < W.length) : (a6 (nI W))[j]? = some (.int .i64 ((W[j] : Nat) : Int)) := by simp [nI, a6, h]
theorem kleft_xor {e : List Arc} {f : List Int} (k : Nat) : d9 e f k + d9 e f (k ^^^ 1) = (dD e (k / 2)).wt := by
  rw [xor1]
  unfold d9
  by_cases h : k % 2 = 0
  · rw [if_pos h, if_pos h, if_neg (by omega), show (k + 1) / 2 = k / 2 by omega]; omega
  · rw [if_neg h, if_neg h, if_pos (by omega), show (k - 1) / 2 = k / 2 by omega]; omega
theorem other_at (k : Nat) : (k ^^^ 1) / 2 * 4 + 2 + (k ^^^ 1) % 2 = k / 2 * 4 + 2 + (1 - k % 2) := by
  rw [xor1]; split <;> omega
theorem zip_set : ∀ {e : List Arc} {f : List Int} {i : Nat} {y : Int}, f.length = e.length → i < e.length → List.zip e (f.set i y) = (List.zip e f).set i (dD e i, y)
  | [], f, i, y, _, h => by simp at h
  | x :: e, [], i, y, h, _ => by simp at h
  | x :: e, z :: f, 0, y, _, _ => by simp [dD]
  | x :: e, z :: f, i + 1, y, h, hi => by
    have := zip_set (e := e) (f := f) (i := i) (y := y) (by simpa using h) (by simpa using hi)
    simp only [List.set_cons_succ, List.zip_cons_cons, this];simp [dD]
theorem ecells_push {e : List Arc} {f : List Int} {k : Nat} {d : Int} {sp : List Value} (h : f.length = e.length) (hk : k < 2 * e.length) :
    ((fA e f ++ sp).set (k / 2 * 4 + 2 + k % 2) (.int .u32 (d9 e f k - d))).set (k / 2 * 4 + 2 + (1 - k % 2)) (.int .u32 (d9 e f (k ^^^ 1) + d)) = fA e (iO f k d) ++ sp := by
  have hi : k / 2 < e.length := by omega
  obtain ⟨hz, hzi⟩ := zip_at h hi
  have e1 : fA e (iO f k d) = ((List.zip e f).set (k / 2) (dD e (k / 2), bU f (k / 2) + (if k % 2 = 0 then d else -d))).flatMap ecs := by
    unfold fA iO; rw [zip_set h hi]
  have hx := kleft_xor (e := e) (f := f) k
  have hl2 : ∀ y, k / 2 < ((List.zip e f).set (k / 2) y).length := fun y => by simpa using hz
  have hle : fA e f = (List.zip e f).flatMap ecs := rfl
  rw [e1, hle]
  by_cases h2 : k % 2 = 0
  · have hk1 : d9 e f k = (dD e (k / 2)).wt - bU f (k / 2) := by unfold d9; rw [if_pos h2]
    rw [h2, if_pos rfl, show k / 2 * 4 + 2 + 0 = k / 2 * 4 + 2 from rfl, show k / 2 * 4 + 2 + (1 - 0) = k / 2 * 4 + 3 from rfl];rw [set_flat ecs_len sp (q := 2) (by omega) (List.zip e f) (k / 2) (⟨(dD e (k / 2)).src, (dD e (k / 2)).dst, (dD e (k / 2)).wt - d⟩, bU f (k / 2)) hz (by rw [hzi]; simp only [ecs, List.set_cons_succ, List.set_cons_zero, hk1]; congr 3; congr 1; omega)]
    rw [set_flat ecs_len sp (q := 3) (by omega) _ (k / 2) (dD e (k / 2), bU f (k / 2) + d) (hl2 _) (by
      rw [List.getElem_set_self]; simp only [ecs, List.set_cons_succ, List.set_cons_zero]
      rw [show d9 e f (k ^^^ 1) = bU f (k / 2) by omega, show (dD e (k / 2)).wt - d - bU f (k / 2) = (dD e (k / 2)).wt - (bU f (k / 2) + d) by omega])]
    rw [List.set_set]
  · have h3 : k % 2 = 1 := by omega
    have hk1 : d9 e f k = bU f (k / 2) := by unfold d9; rw [if_neg h2]
    rw [h3, if_neg (by omega), show k / 2 * 4 + 2 + 1 = k / 2 * 4 + 3 from rfl, show k / 2 * 4 + 2 + (1 - 1) = k / 2 * 4 + 2 from rfl]
    rw [set_flat ecs_len sp (q := 3) (by omega) (List.zip e f) (k / 2) (⟨(dD e (k / 2)).src, (dD e (k / 2)).dst, (dD e (k / 2)).wt - d⟩, bU f (k / 2) + -d) hz (by
      rw [hzi]; simp only [ecs, List.set_cons_succ, List.set_cons_zero, hk1]
      rw [show (dD e (k / 2)).wt - d - (bU f (k / 2) + -d) = (dD e (k / 2)).wt - bU f (k / 2) by omega, show bU f (k / 2) + -d = bU f (k / 2) - d by omega])]
    rw [set_flat ecs_len sp (q := 2) (by omega) _ (k / 2) (dD e (k / 2), bU f (k / 2) + -d) (hl2 _) (by
      rw [List.getElem_set_self]; simp only [ecs, List.set_cons_succ, List.set_cons_zero]
      rw [show d9 e f (k ^^^ 1) + d = (dD e (k / 2)).wt - (bU f (k / 2) + -d) by omega])]
    rw [List.set_set]
theorem ecells_other {e : List Arc} {f : List Int} {k : Nat} {x : Value} {sp : List Value} (h : f.length = e.length) (hk : k < 2 * e.length) :
    ((fA e f ++ sp).set (k / 2 * 4 + 2 + k % 2) x)[k / 2 * 4 + 2 + (1 - k % 2)]? = some (.int .u32 (d9 e f (k ^^^ 1))) := by
  rw [List.getElem?_set_ne (by omega), ← other_at];exact dN (ecells_left h (xor1_lt hk))
theorem min_step {e : List Arc} {f : List Int} {W : List Nat} {j : Nat} {mm : Int} (hj : j < W.length) (h : ∀ i (h : i < W.length), i < j → mm ≤ d9 e f W[i]) : ∀ i (h : i < W.length), i < j + 1 → min mm (d9 e f W[j]) ≤ d9 e f W[i] := fun i hi hij => by
  by_cases e' : i = j
  · subst e'; exact Int.min_le_right _ _
  · exact Int.le_trans (Int.min_le_left _ _) (h i hi (by omega))
theorem push_left {e : List Arc} {f : List Int} {W : List Nat} {j : Nat} {d : Int} (hf : f.length = e.length) (hj : j < W.length) (hl : ∀ k, k ∈ W → k < 2 * e.length) (hn : (W.map (· / 2)).Nodup) : d9 e (eL f (W.take j) d) W[j] = d9 e f W[j] := by
  have : bU (eL f (W.take j) d) (W[j] / 2) = bU f (W[j] / 2) := flAt_pushAll (fun k hk => by have := hl k (List.mem_of_mem_take hk); omega) fun k hk e' => by
    obtain ⟨i, hi, rfl⟩ := List.mem_iff_getElem.1 hk
    have hij : i < j := by have := hi; simp at this; omega
    rw [List.getElem_take] at e';have h1 : i < (W.map (· / 2)).length := by simp; omega
    have h2 : j < (W.map (· / 2)).length := by simpa using hj
    exact absurd (by simpa using e') (List.pairwise_iff_getElem.1 hn i j h1 h2 hij)
  unfold d9; rw [this]
set_option maxRecDepth 100000 in
set_option maxHeartbeats 4000000 in
theorem run_spec (n : Nat) (e : List Arc) (L0 nx0 : List Int) (bx : Nat) (m : Seg) (s t : Nat) (w : World) (hn : NOk n e) (hL0 : L0.length = n) (hx0 : nx0.length = n) (hS : DRep n e (List.replicate e.length 0) L0 nx0 bx m) (hs : s < n) (ht : t < n) (hst : s ≠ t) (hw : Owns w [m]) :
    Meets Tryz.prog 101 [.pointer (some ⟨bx, 0, none⟩), .int .i64 (s : Int), .int .i64 (t : Int)] w [m] (fun u own' => ∃ V f L' nx' m', u = .int .u64 V ∧ own' = [m'] ∧ DRep n e f L' nx' bx m' ∧ Flow n e s t f V ∧ Lay n e s f L' ∧ bU L' t < 0 ∧ 0 ≤ V ∧ V ≤ 70368744161280) := by
 have hn1 := hn.n1
 have hel := hn.len
 have hwt : ∀ x ∈ e, x.wt ≤ 4294967295 := fun x hx => (hn.ok x hx).wt.2
 have hcs : iF e ≤ 70368744161280 := by have := capSum_le 4294967295 e hwt; omega
 refine bJ Tryz.func101 rfl Tryz.ntmps101 rfl hw ?_;refine aK fun K1 kh1 => ?_;refine aB ?_;refine aA rfl rfl rfl (aF rfl) ?_;refine aJ ?_;refine aL (kh1 _ _ ?_);clear kh1;refine aK fun K2 kh2 => ?_;refine aB ?_;refine aA rfl rfl rfl (aF rfl) ?_;refine aJ ?_;refine aL (kh2 _ _ ?_);clear kh2;refine aK fun K3 kh3 => ?_;refine aY ?_;refine cS (α := Int × List Int × List Int × List Int × Seg) [0, 1, 2] (fun ⟨V, f, L, nx, m1⟩ => [(7, .int .u64 V)]) (fun ⟨V, f, L, nx, m1⟩ => [m1]) (fun ⟨V, f, L, nx, m1⟩ => Flow n e s t f V ∧ 0 ≤ V ∧ DRep n e f L nx bx m1 ∧ L.length = n ∧ nx.length = n) (fun ⟨V, f, L, nx, m1⟩ => (iF e - V).toNat) (0, List.replicate e.length 0, L0, nx0, m) ?_ ?_ ?_ ?_
 · exact (by repeat constructor)
 · repeat first|exact aI|refine aD ?_|refine aC rfl ?_|refine aH ?_
 · exact ⟨Flow.zero fun x hx => (hn.ok x hx).wt.1, Int.le_refl _, hS, hL0, hx0⟩
 ·
  rintro ⟨V, f, L, nx, m1⟩ ⟨hF, hV, hD, hLl, hxl⟩;have hVb := hF.val_le hs hst
  refine aK fun K4 kh4 => ?_;refine aK fun K5 kh5 => ?_;refine aB ?_;refine aA rfl rfl rfl (aG rfl) ?_;refine aA rfl rfl rfl (aG rfl) ?_;refine aA rfl rfl rfl (aG rfl) ?_;refine aR rfl rfl rfl (fH [m1] _ Tryz.call117 rfl (aD Sub.refl) (fun w_ hp_ => layers_spec n e f L nx bx m1 s t w_ hn hF.fits hLl hxl hD hs ht hp_.owns) ?_);rintro _ _ ⟨L1, m1', rfl, hD1, hLy, rfl⟩;dsimp only [List.cons_append, List.nil_append];refine aJ ?_;refine aL (kh5 _ _ ?_);clear kh5;refine aZ rfl (fun c17 => ?_) (fun c17 => ?_)
  ·
   refine aW ?_;refine aL (kh4 _ _ ?_);clear kh4;refine aY ?_;refine aK fun K6 kh6 => ?_;refine aB ?_;refine aA rfl rfl rfl (aG rfl) ?_;refine aA rfl rfl rfl (aG rfl) ?_;refine aA rfl rfl rfl (aG rfl) ?_;refine aR rfl rfl rfl (fH [m1'] _ Tryz.call118 rfl (aD Sub.refl) (fun w_ hp_ => way_spec n e f L1 (List.replicate n 0) bx m1' s t w_ hn hF.fits hLy.len hLy.s0 hLy.ge (Nx.start n e) hD1 hs ht hst hp_.owns) ?_);rintro v21 _ ⟨W1, nx1, m2, mw1, rfl, hD1', hx1, hW1, hWl1, hWg1, hWd1⟩
   have hW1n : W1 ≠ [] := fun h => by
     obtain ⟨a, b⟩ := hWd1 h (Past.start n e t f L1)
     exact way_there hLy hn.net ht c17 hx1 b a
   dsimp only [List.cons_append, List.nil_append];refine aA rfl rfl rfl (aF rfl) ?_;refine aJ ?_;refine aL (kh6 _ _ ?_);clear kh6;refine aY ?_;refine cS (α := Int × List Int × List Int × Seg × List Nat × Value × Seg) [0, 1, 2] (fun ⟨V2, f2, nx2, m2, W, wv, wm⟩ => [(7, .int .u64 V2), (8, wv)]) (fun ⟨V2, f2, nx2, m2, W, wv, wm⟩ => [m2, wm]) (fun ⟨V2, f2, nx2, m2, W, wv, wm⟩ => Flow n e s t f2 V2 ∧ DRep n e f2 L1 nx2 bx m2 ∧ Nx n e nx2 ∧ Own 3 1 wv W.length (a6 (nI W)) wm ∧ W.length ≤ e.length ∧ (W ≠ [] → Way e s t W ∧ ∀ k, k ∈ W → Good e f2 L1 k) ∧ V ≤ V2 ∧ (W = [] → V < V2)) (fun ⟨V2, f2, nx2, m2, W, wv, wm⟩ => (iF e - V2).toNat) (V, f, nx1, m2, W1, v21, mw1) ?_ ?_ ?_ ?_
   · exact (by repeat constructor)
   · repeat first|exact aI|refine aD ?_|refine aC rfl ?_|refine aH ?_
   · exact ⟨hF, hD1', hx1, hW1, hWl1, hWg1, Int.le_refl _, fun h => absurd h hW1n⟩
   ·
    rintro ⟨V2, f2, nx2, m2, W, wv, wm⟩ ⟨hF2, hD2, hx2, hW, hWl, hWg, hV2, hne⟩;obtain ⟨Aw, cw, rfl, hcw⟩ := hW.val
    have hV2b := hF2.val_le hs hst
    refine eX (e := [(7, _), (8, _), (0, _), (1, _), (2, _)]) (by repeat constructor) ?_;refine aK fun K7 kh7 => ?_;refine aK fun K8 kh8 => ?_;refine aB ?_;refine aA rfl rfl rfl (aG rfl) ?_;refine aA rfl rfl rfl (bS bK rfl) ?_;refine aA rfl rfl rfl (eQ rfl rfl) ?_;refine aJ ?_;refine aL (kh8 _ _ ?_);clear kh8;refine aZ rfl (fun c24 => ?_) (fun c24 => ?_)
    ·
     refine aW ?_;refine aL (kh7 _ _ ?_);clear kh7;refine aK fun K9 kh9 => ?_;refine aY ?_;refine aK fun K10 kh10 => ?_;have hW0 : 0 < W.length := by omega
     have hWk := hWg (fun h => by subst h; simp at hW0)
     have hWm := hWk.1.lt
     have hnd := hWk.1.nodup (L := L1) fun k hk => (hWk.2 k hk).2
     obtain ⟨bat, bl, bn, ve, vs, ms, me, hmp, hR, hE⟩ := hD2
     obtain ⟨A, cap, rfl, _⟩ := hE.val
     obtain ⟨bw, sw, rfl, rfl⟩ := hW.at_ hW0
     refine gB (Sub.openAt hmp) ?_
     unfold jF
     dsimp only [List.cons_append, List.nil_append];refine aB ?_;refine aA rfl rfl rfl (aG rfl) ?_;refine aA rfl rfl rfl (aG rfl) ?_;refine aA rfl rfl rfl (bA bK rfl rfl (0) ⟨by omega, by omega, by first | omega | (simp; done) | (simp; omega)⟩) ?_;refine aA rfl rfl rfl (aM Tryz.isAgg3 rfl (rdA (dN (nI_get hW0)))) ?_;refine aR rfl rfl rfl (bD Tryz.call119 rfl (fun w_ hp_ => left_spec n e f2 bx bat bl bn W[0] cap A w_ (iV (b := bx) hp_ (fun j v hj => hj)) (eU (hE.seen hp_)) hn hF2.fits.len (hWm _ (List.getElem_mem hW0))) ?_);rintro _ _ ⟨rfl, rfl⟩;dsimp only [List.cons_append, List.nil_append];refine aA rfl rfl rfl (aF rfl) ?_;refine aJ ?_;refine aL (kh10 _ _ ?_);clear kh10;refine aK fun K11 kh11 => ?_;refine aK fun K12 kh12 => ?_;refine aB ?_;refine aA rfl rfl rfl (aG rfl) ?_;refine aA rfl rfl rfl (bS bK rfl) ?_;refine aA rfl rfl rfl (aG rfl) ?_;refine aJ ?_;refine aL (kh12 _ _ ?_);clear kh12;refine aY ?_;refine cS (α := Nat × Int) [0, 1, 2, 7, 8, 34, 35] (fun ⟨j, mm⟩ => [(36, .int .i64 (j : Int)), (9, .int .u32 mm)]) (fun ⟨j, mm⟩ => [[(bx, blk (eY (.slice A e.length cap) n bat bl bn) 163)], [(bat, blk vs 25)], ms.flatten, me, [(bl, blk (a6 L1) 3)], [(bn, blk (a6 nx2) 3)], [(bw, blk (a6 (nI W) ++ sw) 3)]]) (fun ⟨j, mm⟩ => j ≤ W.length ∧ 0 < mm ∧ mm ≤ 4294967295 ∧ ∀ i (h : i < W.length), i < j → mm ≤ d9 e f2 W[i]) (fun ⟨j, mm⟩ => W.length - j) (0, d9 e f2 W[0]) ?_ ?_ ?_ ?_
     · exact (by repeat constructor)
     · repeat first|exact aI|refine aD ?_|refine aC rfl ?_|refine aH ?_
     · exact ⟨Nat.zero_le _, (hWk.2 _ (List.getElem_mem _)).1, by have := kleft_rng hF2.fits (hWm _ (List.getElem_mem hW0)); have := (hn.at_ (i := W[0] / 2) (by have := hWm _ (List.getElem_mem hW0); omega)); omega, fun i h hi => by omega⟩
     ·
      rintro ⟨j, mm⟩ ⟨hjl, hm0, hmu, hmj⟩;refine eX (e := [(36, _), (9, _), (0, _), (1, _), (2, _), (7, _), (8, _), (34, _), (35, _)]) (by repeat constructor) ?_;refine aK fun K13 kh13 => ?_;refine aB ?_;refine aA rfl rfl rfl (cD rfl rfl) ?_;refine aJ ?_;refine aL (kh13 _ _ ?_);clear kh13;refine aK fun K14 kh14 => ?_;refine aZ rfl (fun c37 => ?_) (fun c37 => ?_)
      ·
       refine aW ?_;refine aL (kh14 _ _ ?_);clear kh14;refine aK fun K15 kh15 => ?_;refine aY ?_;refine aK fun K16 kh16 => ?_;refine aB ?_;have hj : j < W.length := by omega
       refine aA rfl rfl rfl (bA bK rfl rfl (j) ⟨by omega, by omega, by first | omega | (simp; done) | (simp; omega)⟩) ?_;refine aA rfl rfl rfl (aM Tryz.isAgg3 rfl (rdA (dN (nI_get hj)))) ?_;refine aA rfl rfl rfl (aF rfl) ?_;refine aJ ?_;refine aL (kh16 _ _ ?_);clear kh16;refine aB ?_;refine aA rfl rfl rfl (aG rfl) ?_;refine aA rfl rfl rfl (aG rfl) ?_;refine aA rfl rfl rfl (aG rfl) ?_;refine aR rfl rfl rfl (bD Tryz.call119 rfl (fun w_ hp_ => left_spec n e f2 bx bat bl bn W[j] cap A w_ (iV (b := bx) hp_ (fun j v hj => hj)) (eU (hE.seen hp_)) hn hF2.fits.len (hWm _ (List.getElem_mem hj))) ?_);rintro _ _ ⟨rfl, rfl⟩;dsimp only [List.cons_append, List.nil_append];refine aA rfl rfl rfl (o_min rfl rfl) ?_;refine aA rfl rfl rfl (aF rfl) ?_;refine aJ ?_;refine cV ?_;refine aL (kh15 _ _ ?_);clear kh15;refine aB ?_;refine aA rfl rfl rfl (bG rfl rfl _ (aT (by omega))) ?_;refine aA rfl rfl rfl (aG rfl) ?_;refine aJ ?_;refine aL (bB (j + 1, min mm (d9 e f2 W[j])) (by first | omega | (dsimp only; omega) | (simp; omega)) ⟨by omega, by have := (hWk.2 _ (List.getElem_mem hj)).1; omega, by omega, min_step hj hmj⟩ ?_ ?_ ?_)
       · exact (by repeat constructor)
       · exact (by repeat constructor)
       · repeat first|exact aI|refine aD ?_|refine aC rfl ?_|refine aH ?_
      ·
       refine cG ?_;refine cK ?_;clear kh14;refine cK ?_;refine d5 ?_;refine aL (kh11 _ _ ?_);clear kh11;refine aK fun K17 kh17 => ?_;refine aK fun K18 kh18 => ?_;refine aB ?_;refine aA rfl rfl rfl (aG rfl) ?_;refine aA rfl rfl rfl (bS bK rfl) ?_;refine aA rfl rfl rfl (aG rfl) ?_;refine aJ ?_;refine aL (kh18 _ _ ?_);clear kh18;refine aY ?_
       have hmall : ∀ k, k ∈ W → mm ≤ d9 e f2 k := fun k hk => by
         obtain ⟨i, hi, rfl⟩ := List.mem_iff_getElem.1 hk
         exact hmj i hi (by omega)
       have hF3 := hF2.push (by omega) hWk.1 hnd hmall
       have hV3 := hF3.val_le hs hst
       refine cS (α := Nat × Seg) [0, 1, 2, 7, 9, 46, 47] (fun ⟨j, me3⟩ => [(48, .int .i64 (j : Int))]) (fun ⟨j, me3⟩ => [[(bx, blk (eY (.slice A e.length cap) n bat bl bn) 163)], [(bat, blk vs 25)], ms.flatten, me3, [(bl, blk (a6 L1) 3)], [(bn, blk (a6 nx2) 3)], [(bw, blk (a6 (nI W) ++ sw) 3)]]) (fun ⟨j, me3⟩ => j ≤ W.length ∧ Own 181 4 (.slice A e.length cap) e.length (fA e (eL f2 (W.take j) mm)) me3) (fun ⟨j, me3⟩ => W.length - j) (0, me) ?_ ?_ ?_ ?_
       · exact (by repeat constructor)
       · repeat first|exact aI|refine aD ?_|refine aC rfl ?_|refine aH ?_
       · exact ⟨Nat.zero_le _, hE⟩
       ·
        rintro ⟨j, me3⟩ ⟨hjl, hE3⟩;refine eX (e := [(48, _), (0, _), (1, _), (2, _), (7, _), (9, _), (46, _), (47, _)]) (by repeat constructor) ?_;refine aK fun K19 kh19 => ?_;refine aB ?_;refine aA rfl rfl rfl (cD rfl rfl) ?_;refine aJ ?_;refine aL (kh19 _ _ ?_);clear kh19;refine aK fun K20 kh20 => ?_;refine aZ rfl (fun c49 => ?_) (fun c49 => ?_)
        ·
         refine aW ?_;refine aL (kh20 _ _ ?_);clear kh20;refine aK fun K21 kh21 => ?_;refine aY ?_;refine aK fun K22 kh22 => ?_;refine aB ?_;have hj : j < W.length := by omega
         refine aA rfl rfl rfl (bA bK rfl rfl (j) ⟨by omega, by omega, by first | omega | (simp; done) | (simp; omega)⟩) ?_;refine aA rfl rfl rfl (aM Tryz.isAgg3 rfl (rdA (dN (nI_get hj)))) ?_;refine aA rfl rfl rfl (aF rfl) ?_;refine aJ ?_;refine aL (kh22 _ _ ?_);clear kh22;refine aK fun K23 kh23 => ?_;have hkw := push_left (d := mm) hF2.fits.len hj hWm hnd
         have hfl : (eL f2 (W.take j) mm).length = e.length := by rw [pushAll_len]; exact hF2.fits.len
         have hk2 := hWm _ (List.getElem_mem hj)
         obtain ⟨be, spE, rfl, rfl, hupd⟩ := hE3.upd (by omega)
         have hkm := hmj j hj (by omega)
         have hkr := kleft_rng hF2.fits hk2
         have hkx := kleft_xor (e := e) (f := eL f2 (W.take j) mm) W[j]
         have hat := hn.at_ (i := W[j] / 2) (by omega)
         have hcl := j7 hfl
         refine gY 17 rfl (by decide +kernel) ?_;refine aN rfl rfl rfl (aG rfl) ?_;refine aN rfl rfl rfl (d6 rfl) ?_;refine aN rfl rfl rfl (aQ lY rfl) ?_;refine aN rfl rfl rfl (aM Tryz.isAgg161 rfl (rdA rfl)) ?_;refine aN rfl rfl rfl (aG rfl) ?_;refine aN rfl rfl rfl (o_shr rfl rfl (by decide) ((W[j] / 2 : Nat) : Int) (shr_one (by omega))) ?_;refine aN rfl rfl rfl (aG rfl) ?_;refine aN rfl rfl rfl (o_and rfl rfl ((W[j] % 2 : Nat) : Int) (and_one (by omega))) ?_;refine aN rfl rfl rfl (bA sl161 rfl rfl (W[j] / 2 * 4) ⟨by omega, by omega, by first | omega | (simp; done) | (simp; omega)⟩) ?_;refine aN rfl rfl rfl (aQ fa181_1 rfl) ?_;refine aN rfl rfl rfl (o_idxA ar179 rfl rfl (W[j] / 2 * 4 + 2 + W[j] % 2) ⟨by omega, by omega, by first | omega | (simp; done) | (simp; omega)⟩) ?_;refine aN rfl rfl rfl (aM Tryz.isAgg46 rfl (rdA (v := .int .u32 (d9 e f2 W[j])) (dN (by rw [ecells_left hfl hk2, hkw])))) ?_;refine aN rfl rfl rfl (aG rfl) ?_;refine aN rfl rfl rfl (fV rfl rfl _ (wrap_u32 (by omega))) ?_;refine aN rfl rfl rfl (bA sl161 rfl rfl (W[j] / 2 * 4) ⟨by omega, by omega, by first | omega | (simp; done) | (simp; omega)⟩) ?_;refine aN rfl rfl rfl (aQ fa181_1 rfl) ?_;refine aN rfl rfl rfl (o_idxA ar179 rfl rfl (W[j] / 2 * 4 + 2 + W[j] % 2) ⟨by omega, by omega, by first | omega | (simp; done) | (simp; omega)⟩) ?_;refine eH (kN ?_);refine bF rfl rfl (cB Tryz.sizeOf46 rfl rfl rfl rfl (by rw [List.length_append, hcl]; omega) _ rfl ?_);refine aJ ?_;refine aL (kh23 _ _ ?_);clear kh23;refine gY 18 rfl (by decide +kernel) ?_;refine aN rfl rfl rfl (aG rfl) ?_;refine aN rfl rfl rfl (d6 rfl) ?_;refine aN rfl rfl rfl (aQ lY rfl) ?_;refine aN rfl rfl rfl (aM Tryz.isAgg161 rfl (rdA rfl)) ?_;refine aN rfl rfl rfl (aG rfl) ?_;refine aN rfl rfl rfl (o_shr rfl rfl (by decide) ((W[j] / 2 : Nat) : Int) (shr_one (by omega))) ?_;refine aN rfl rfl rfl (aG rfl) ?_;refine aN rfl rfl rfl (o_and rfl rfl ((W[j] % 2 : Nat) : Int) (and_one (by omega))) ?_;refine aN rfl rfl rfl (fV rfl rfl _ (aT (by omega))) ?_;refine aN rfl rfl rfl (bA sl161 rfl rfl (W[j] / 2 * 4) ⟨by omega, by omega, by first | omega | (simp; done) | (simp; omega)⟩) ?_;refine aN rfl rfl rfl (aQ fa181_1 rfl) ?_;refine aN rfl rfl rfl (o_idxA ar179 rfl rfl (W[j] / 2 * 4 + 2 + (1 - W[j] % 2)) ⟨by omega, by omega, by first | omega | (simp; done) | (simp; omega)⟩) ?_;refine aN rfl rfl rfl (aM Tryz.isAgg46 rfl (rdA (ecells_other hfl hk2))) ?_;refine aN rfl rfl rfl (aG rfl) ?_;refine aN rfl rfl rfl (bG rfl rfl _ (wrap_u32 (by omega))) ?_;refine aN rfl rfl rfl (bA sl161 rfl rfl (W[j] / 2 * 4) ⟨by omega, by omega, by first | omega | (simp; done) | (simp; omega)⟩) ?_;refine aN rfl rfl rfl (aQ fa181_1 rfl) ?_
         refine aN rfl rfl rfl (o_idxA ar179 rfl rfl (W[j] / 2 * 4 + 2 + (1 - W[j] % 2)) ⟨by omega, by omega, by first | omega | (simp; done) | (simp; omega)⟩) ?_;refine eH (kN ?_);refine bF rfl rfl (cB Tryz.sizeOf46 rfl rfl rfl rfl (by rw [List.length_set, List.length_append, hcl]; omega) (fA e (iO (eL f2 (W.take j) mm) W[j] mm) ++ spE) (by rw [← hkw]; exact ecells_push hfl hk2) ?_);refine aJ ?_;refine cV ?_;refine aL (kh21 _ _ ?_);clear kh21;refine aB ?_;refine aA rfl rfl rfl (bG rfl rfl _ (aT (by omega))) ?_;refine aA rfl rfl rfl (aG rfl) ?_;refine aJ ?_;refine aL (bB (j + 1, [(be, blk (fA e (iO (eL f2 (W.take j) mm) W[j] mm) ++ spE) 181)]) (by first | omega | (dsimp only; omega) | (simp; omega)) ⟨by omega, by rw [List.take_succ_eq_append_getElem hj, pushAll_snoc]; exact hupd _ (by rw [j7 (by rw [lC]; exact hfl), j7 hfl])⟩ ?_ ?_ ?_)
         · exact (by repeat constructor)
         · exact (by repeat constructor)
         · repeat first|exact aI|refine aD ?_|refine aC rfl ?_|refine aH ?_
        ·
         refine cG ?_;refine cK ?_;clear kh20;refine cK ?_;refine d5 ?_;refine aL (kh17 _ _ ?_);clear kh17;have hjW : W.take j = W := List.take_of_length_le (by omega)
         have hE4 : Own 181 4 (.slice A e.length cap) e.length (fA e (eL f2 W mm)) me3 := by rw [hjW] at hE3; exact hE3
         refine aB ?_;refine aA rfl rfl rfl (aG rfl) ?_;refine aA rfl rfl rfl (aG rfl) ?_;refine aA rfl rfl rfl (g5 Tryz.runUnderlying46 Tryz.runUnderlying128 rfl _ (jU (by omega))) ?_;refine aA rfl rfl rfl (bG rfl rfl _ (jU (by omega))) ?_;refine aA rfl rfl rfl (aF rfl) ?_;refine aJ ?_;refine cV ?_;refine aL (kh9 _ _ ?_);clear kh9;refine aB ?_;refine aA rfl rfl rfl (aG rfl) ?_;refine aA rfl rfl rfl (aG rfl) ?_;refine aA rfl rfl rfl (aG rfl) ?_;refine aR rfl rfl rfl (fH [(jF bx bat bl bn n (.slice A e.length cap) vs ms.flatten me3 L1 nx2).flatten] _ Tryz.call118 rfl (Sub.flatR (out := jF bx bat bl bn n (.slice A e.length cap) vs ms.flatten me3 L1 nx2) (aD (aD (aD (aD (aD (aD Sub.refl))))))) (fun w_ hp_ => way_spec n e (eL f2 W mm) L1 nx2 bx _ s t w_ hn hF3.fits hLy.len hLy.s0 hLy.ge hx2 (DRep_mk hR hE4) hs ht hst hp_.owns) ?_);rintro v28 _ ⟨W3, nx3, m3, mw3, rfl, hD3, hx3, hW3, hWl3, hWg3, _⟩;dsimp only [List.cons_append, List.nil_append];refine aA rfl rfl rfl (aF rfl) ?_;refine aJ ?_;refine aL (bB (V2 + mm, eL f2 W mm, nx3, m3, W3, v28, mw3) (by show (iF e - (V2 + mm)).toNat < (iF e - V2).toNat; omega) ⟨hF3, hD3, hx3, hW3, hWl3, hWg3, by omega, fun _ => by omega⟩ ?_ ?_ ?_)
         · exact (by repeat constructor)
         · exact (by repeat constructor)
         · repeat first|exact aI|refine aD ?_|refine aC rfl ?_|refine aH ?_
    ·
     refine cG ?_;refine cK ?_;clear kh7;refine cK ?_;refine d5 ?_;refine cV ?_;refine aL (bB (V2, f2, L1, nx2, m2) (by have := hne (by cases W with | nil => rfl | cons a b => simp at c24 <;> omega); have := hF2.val_le hs hst; show (iF e - V2).toNat < (iF e - V).toNat; omega) ⟨hF2, by omega, hD2, hLy.len, hx2.len⟩ ?_ ?_ ?_)
     · exact (by repeat constructor)
     · exact (by repeat constructor)
     · repeat first|exact aI|refine aD ?_|refine aC rfl ?_|refine aH ?_
  · refine cG ?_;refine cK ?_;clear kh4;refine cK ?_;refine d5 ?_;refine aL (kh3 _ _ ?_);clear kh3;refine aK fun K24 kh24 => ?_;refine aB ?_;refine aA rfl rfl rfl (aG rfl) ?_;refine aA rfl rfl rfl (aF rfl) ?_;refine aJ ?_;refine aL (kh24 _ _ ?_);clear kh24;refine a7 ?_;exact bP [m1'] Tryz.results101 rfl (by repeat (first | exact aI | refine aD ?_ | refine aC rfl ?_)) ⟨V, f, L1, _, m1', rfl, rfl, hD1, hF, hLy, by omega, hV, by omega⟩
end Go.Proofs.YtjjogcnjcnpehaaGreat

/- Plain laws of graphs: no program in sight. -/
namespace Go.Proofs.YtjjogcnjcnpehaaGreat
open Go Fly
set_option linter.unusedVariables false
def eB (N : Int) (x : Arc) : Bool := decide (x.src < 0 ∨ N ≤ x.src ∨ x.dst < 0 ∨ N ≤ x.dst)
def bH (N : Int) (l : List Arc) : Int × Int :=
  if N < 1 ∨ 1024 < N then (0, 1) else if 8192 < l.length then (0, 2) else
  match l.findIdx? (eB N) with
  | some i => (i, 30)
  | none => (0, 0)
theorem jM {N : Int} {l : List Arc} (h : N < 1 ∨ 1024 < N) : bH N l = (0, 1) := by simp [bH, h]
theorem gcheck_long {N : Int} {l : List Arc} (h : 1 ≤ N ∧ N ≤ 1024) (hl : 8192 < l.length) : bH N l = (0, 2) := by
  have : ¬ (N < 1 ∨ 1024 < N) := by omega
  simp [bH, this, hl]
theorem gcheck_ok {N : Int} {l : List Arc} (h : 1 ≤ N ∧ N ≤ 1024) (hl : l.length ≤ 8192) (hall : ∀ j (h : j < l.length), eB N l[j] = false) : bH N l = (0, 0) := by
  have h1 : ¬ (N < 1 ∨ 1024 < N) := by omega
  have h2 : ¬ 8192 < l.length := by omega
  have h3 : l.findIdx? (eB N) = none := by
    rw [List.findIdx?_eq_none_iff];intro x hx;obtain ⟨j, hj, rfl⟩ := List.mem_iff_getElem.1 hx
    exact hall j hj
  simp [bH, h1, h2, h3]
theorem i2 {N : Int} {l : List Arc} {k : Nat} (h : 1 ≤ N ∧ N ≤ 1024) (hl : l.length ≤ 8192) (hk : k < l.length) (hall : ∀ j (h : j < l.length), j < k → eB N l[j] = false) (hb : eB N l[k] = true) :
    bH N l = ((k : Int), 30) := by
  have h1 : ¬ (N < 1 ∨ 1024 < N) := by omega
  have h2 : ¬ 8192 < l.length := by omega
  have h3 : l.findIdx? (eB N) = some k := by
    rw [List.findIdx?_eq_some_iff_getElem];exact ⟨hk, hb, fun j hj => by simp [hall j (by omega) hj]⟩
  simp [bH, h1, h2, h3]
theorem kD {x : Int} (h : I64 x) : IntKind.u64.wrap x = if x < 0 then x + 18446744073709551616 else x := by
  unfold I64 at h; unfold IntKind.wrap IntKind.bits IntKind.signed; simp only; split <;> rename_i hc <;> simp at hc <;> split <;> omega
theorem badU {N x : Int} (hN : 1 ≤ N ∧ N ≤ 1024) (h : I64 x) : IntKind.u64.wrap N ≤ IntKind.u64.wrap x ↔ (x < 0 ∨ N ≤ x) := by
  have hN' : I64 N := ⟨by omega, by omega⟩
  rw [kD h, kD hN']; unfold I64 at h; split <;> split <;> omega
theorem arcBadL {N : Int} {x : Arc} (hN : 1 ≤ N ∧ N ≤ 1024) (h : dQ x) (hb : IntKind.u64.wrap N ≤ IntKind.u64.wrap x.src) : eB N x = true := by
  have := (badU hN h.src).1 hb
  unfold eB; simp; omega
theorem arcBadR {N : Int} {x : Arc} (hN : 1 ≤ N ∧ N ≤ 1024) (h : dQ x) (hb : IntKind.u64.wrap N ≤ IntKind.u64.wrap x.dst) : eB N x = true := by
  have := (badU hN h.dst).1 hb
  unfold eB; simp; omega
theorem arcGood {N : Int} {x : Arc} (hN : 1 ≤ N ∧ N ≤ 1024) (h : dQ x) (h1 : ¬ IntKind.u64.wrap N ≤ IntKind.u64.wrap x.src) (h2 : ¬ IntKind.u64.wrap N ≤ IntKind.u64.wrap x.dst) : eB N x = false := by
  have a := mt (badU hN h.src).2 h1
  have b := mt (badU hN h.dst).2 h2
  unfold eB; simp; omega
theorem good_next {N : Int} {l : List Arc} {k : Nat} {hk : k < l.length} (hall : ∀ j (h : j < l.length), j < k → eB N l[j] = false) (hb : eB N l[k] = false) :
    ∀ j (h : j < l.length), j < k + 1 → eB N l[j] = false := fun j h hj => by
  by_cases e : j = k
  · subst e; exact hb
  · exact hall j h (by omega)
def gX (N : Int) (l : List Arc) (v : Int) : Int := if (bH N l).2 ≠ 0 then (bH N l).2 else if v < 0 ∨ N ≤ v then 5 else 0
theorem glooked_bad {N : Int} {l : List Arc} {v : Int} (h : (bH N l).2 ≠ 0) : gX N l v = (bH N l).2 := if_pos h
theorem glooked_none {N : Int} {l : List Arc} {v : Int} (h : (bH N l).2 = 0) (hv : v < 0 ∨ N ≤ v) : gX N l v = 5 := by simp [gX, h, hv]
theorem glooked_ok {N : Int} {l : List Arc} {v : Int} (h : (bH N l).2 = 0) (h0 : 0 ≤ v) (h1 : v < N) : gX N l v = 0 := by
  have : ¬ (v < 0 ∨ N ≤ v) := by omega
  simp [gX, h, this]
/-- The places at which something is so. -/
def j6 {α : Type} (p : α → Bool) (l : List α) : List Int := (l.zipIdx.filter (fun x => p x.1)).map (fun x => (x.2 : Int))
theorem idxs_succ {α : Type} {p : α → Bool} {l : List α} {k : Nat} (hk : k < l.length) : j6 p (l.take (k + 1)) = j6 p (l.take k) ++ (if p l[k] then [(k : Int)] else []) := by
  unfold j6
  rw [List.take_succ_eq_append_getElem hk, List.zipIdx_append, List.filter_append, List.map_append]
  congr 1
  have : (l.take k).length = k := by simp; omega
  simp only [this, Nat.zero_add, List.zipIdx_cons, List.zipIdx_nil, List.filter_cons, List.filter_nil]
  split <;> simp
theorem idxs_yes {α : Type} {p : α → Bool} {l : List α} {k : Nat} (hk : k < l.length) (h : p l[k] = true) : j6 p (l.take (k + 1)) = j6 p (l.take k) ++ [(k : Int)] := by rw [idxs_succ hk, if_pos h]
theorem lV {α : Type} {p : α → Bool} {l : List α} {k : Nat} (hk : k < l.length) (h : p l[k] = false) : j6 p (l.take (k + 1)) = j6 p (l.take k) := by rw [idxs_succ hk, h]; simp
/-- The first place at which something is so, or -1. -/
def fidx {α : Type} (p : α → Bool) (l : List α) : Int := match l.findIdx? p with
  | some i => i
  | none => -1
theorem fidx_at {α : Type} {p : α → Bool} {l : List α} {k : Nat} (hk : k < l.length) (h : p l[k] = true) (hpre : ∀ j (h : j < l.length), j < k → p l[j] = false) : fidx p l = (k : Int) := by
  have : l.findIdx? p = some k := by rw [List.findIdx?_eq_some_iff_getElem]; exact ⟨hk, h, fun j hj => by simp [hpre j (by omega) hj]⟩
  unfold fidx; rw [this]
theorem fidx_none {α : Type} {p : α → Bool} {l : List α} (h : ∀ j (h : j < l.length), p l[j] = false) : fidx p l = -1 := by
  have : l.findIdx? p = none := by
    rw [List.findIdx?_eq_none_iff]; intro x hx;obtain ⟨j, hj, rfl⟩ := List.mem_iff_getElem.1 hx
    exact h j hj
  unfold fidx; rw [this]
theorem false_next {α : Type} {p : α → Bool} {l : List α} {k : Nat} {hk : k < l.length} (h : ∀ j (a : j < l.length), j < k → p l[j] = false) (e : p l[k] = false) : ∀ j (a : j < l.length), j < k + 1 → p l[j] = false := fun j a hj => by
  by_cases hjk : j = k
  · subst hjk; exact e
  · exact h j a (by omega)
end Go.Proofs.YtjjogcnjcnpehaaGreat
