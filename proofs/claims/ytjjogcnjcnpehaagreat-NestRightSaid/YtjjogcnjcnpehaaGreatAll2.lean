import Derived.Test.YtjjogcnjcnpehaaGreatAll1
import Derived.Test.YtjjogcnjcnpehaaGreatFlyD

/- Package flow: a way through the layers. -/
namespace Go.Proofs.YtjjogcnjcnpehaaGreat
open Go Go.RowKit Fly
set_option linter.unusedVariables false
set_option linter.unusedSimpArgs false
theorem nodup_le : ∀ (m : Nat) (l : List Nat), l.Nodup → (∀ x, x ∈ l → x < m) → l.length ≤ m
  | 0, l, _, h => by
    cases l with
    | nil => exact Nat.le_refl _
    | cons x l => exact absurd (h x (List.mem_cons_self ..)) (by omega)
  | m + 1, l, hn, h => by
    by_cases hm : m ∈ l
    · have h1 := nodup_le m (l.erase m) (hn.erase m) fun x hx => by
        have := (hn.mem_erase_iff).1 hx
        have := h x this.2
        omega
      have := List.length_erase_of_mem hm
      omega
    · have := nodup_le m l hn fun x hx => by
        have := h x hx
        have : x ≠ m := fun e => hm (e ▸ hx)
        omega
      omega
theorem Wy.len {n : Nat} {e : List Arc} {s v : Nat} {f L nx : List Int} {W : List Nat} (h : Wy n e s f L nx W v) : W.length ≤ e.length := by
  have := nodup_le e.length (W.map (· / 2)) (h.way.nodup h.up) fun x hx => by
    obtain ⟨k, hk, rfl⟩ := List.mem_map.1 hx
    have := h.way.lt k hk
    omega
  simpa using this
theorem Way.level {e : List Arc} {L : List Int} : ∀ {W : List Nat} {u v : Nat}, Way e u v W → Up e L W → bO L v = bO L u + W.length
  | [], u, v, h, _ => by have : u = v := h; subst this; simp
  | k :: r, u, v, ⟨h1, h2, h3⟩, hU => by
    have a := Way.level h3 fun i hi => hU i (List.mem_cons_of_mem _ hi)
    have b := hU k (List.mem_cons_self ..)
    rw [h2] at b;rw [a, b, List.length_cons]; omega
theorem xor1 (k : Nat) : k ^^^ 1 = if k % 2 = 0 then k + 1 else k - 1 := by
  apply Nat.eq_of_testBit_eq;intro i;rw [Nat.testBit_xor]
  cases i with
  | zero =>
    split
    · rename_i h
      have a : (k + 1) % 2 = 1 := by omega
      simp only [Nat.testBit_zero, h, a]; rfl
    · rename_i h
      have a : (k - 1) % 2 = 0 := by omega
      have b : k % 2 = 1 := by omega
      simp only [Nat.testBit_zero, b, a]; rfl
  | succ i =>
    have h1 : (1 : Nat).testBit (i + 1) = false := by simp [Nat.testBit_succ]
    rw [h1, Bool.xor_false, Nat.testBit_succ]
    split
    · rw [Nat.testBit_succ]; congr 1; omega
    · rw [Nat.testBit_succ]; congr 1; omega
theorem xor1_lt {e : List Arc} {k : Nat} (h : k < 2 * e.length) : k ^^^ 1 < 2 * e.length := by rw [xor1]; split <;> omega
theorem kto_xor (e : List Arc) (k : Nat) : kto e (k ^^^ 1) = bW e k := by
  rw [xor1]
  unfold kto bW
  by_cases h : k % 2 = 0
  · rw [if_pos h, if_neg (by omega), if_pos h, show (k + 1) / 2 = k / 2 by omega]
  · rw [if_neg h, if_pos (by omega), if_neg h, show (k - 1) / 2 = k / 2 by omega]
theorem nI_pop (W : List Nat) (k : Nat) : (aY (nI (W ++ [k]))).take (W.length * 1) = aY (nI W) := by
  rw [nI_snoc, List.take_left' (by rw [nI_len]; omega)]
theorem last_of {W : List Nat} (h : W ≠ []) : ∃ W' k, W = W' ++ [k] := ⟨W.dropLast, W.getLast h, (List.dropLast_concat_getLast h).symm⟩
/-- What way answers. -/
def WayΦ (n : Nat) (e : List Arc) (s t : Nat) (f L nx : List Int) (bx : Nat) (u : Value) (own : List Seg) : Prop :=
  ∃ W nx' m' mw, own = [m', mw] ∧ DRep n e f L nx' bx m' ∧ Nx n e nx' ∧ Own 3 1 u W.length (aY (nI W)) mw ∧ W.length ≤ e.length ∧ (W ≠ [] → Way e s t W ∧ ∀ k, k ∈ W → Good e f L k) ∧ (W = [] → Past n e t f L nx → Dead e t nx' s ∧ Past n e t f L nx')
set_option maxRecDepth 100000 in
set_option maxHeartbeats 4000000 in
theorem way_spec (n : Nat) (e : List Arc) (f L nx : List Int) (bx : Nat) (m : Seg) (s t : Nat) (w : World) (hn : NOk n e) (hf : Fits e f) (hLl : L.length = n) (hL0 : bO L s = 0) (hLg : ∀ v, v < n → -1 ≤ bO L v) (hx : Nx n e nx) (hS : DRep n e f L nx bx m) (hs : s < n) (ht : t < n) (hst : s ≠ t) (hw : Owns w [m]) :
    Meets Tryz.prog 118 [.pointer (some ⟨bx, 0, none⟩), .int .i64 (s : Int), .int .i64 (t : Int)] w [m] (WayΦ n e s t f L nx bx) := by
 have hn1 := hn.n1
 have hel := hn.len
 refine bM Tryz.func118 rfl Tryz.ntmps118 rfl hw ?_;obtain ⟨bat, bl, bn, ve, vs, ms, me, hmp, hR, hE⟩ := hS
 obtain ⟨A, cap, rfl, _⟩ := hE.val
 refine fZ (Sub.permF hmp) ?_
 unfold i7
 refine aK fun K1 kh1 => ?_;refine aC ?_;refine aA rfl rfl rfl (aF rfl) ?_;refine aJ ?_;refine aL (kh1 _ _ ?_);clear kh1;refine f_scope ?_;refine aK fun K2 kh2 => ?_;refine aC ?_;refine aA rfl rfl rfl (aF rfl) ?_;refine aJ ?_;refine aL (kh2 _ _ ?_);clear kh2;refine aK fun K3 kh3 => ?_;refine aC ?_;refine aA rfl rfl rfl (aG rfl) ?_;refine aA rfl rfl rfl (aF rfl) ?_;refine aJ ?_;refine aL (kh3 _ _ ?_);clear kh3;refine aK fun K4 kh4 => ?_;refine f_label ?_;refine aL (kh4 _ _ ?_);clear kh4;refine aK fun K5 kh5 => ?_;refine aZ ?_;refine cS (α := List Nat × Nat × List Int × Value × Seg) [0, 2] (fun ⟨W, v, nx2, wv, wm⟩ => [(7, wv), (8, .int .i64 (v : Int))]) (fun ⟨W, v, nx2, wv, wm⟩ => [[(bx, blk (eT (.slice A e.length cap) n bat bl bn) 163)], [(bat, blk vs 25)], ms.flatten, me, [(bl, blk (aY L) 3)], [(bn, blk (aY nx2) 3)], wm]) (fun ⟨W, v, nx2, wv, wm⟩ => Wy n e s f L nx2 W v ∧ v < n ∧ Own 3 1 wv W.length (aY (nI W)) wm ∧ (Past n e t f L nx → Past n e t f L nx2)) (fun ⟨W, v, nx2, wv, wm⟩ => kF n e L nx2 v) ([], s, nx, .slice none 0 0, []) ?_ ?_ ?_ ?_
 · exact (by repeat constructor)
 · repeat first|exact aH|refine aD ?_|refine aB rfl ?_|refine aI ?_
 · exact ⟨⟨rfl, fun k h => by simp at h, fun k h => by simp at h, hx⟩, hs, Own.nil _ _, fun h => h⟩
 ·
  rintro ⟨W, v, nx2, wv, wm⟩ ⟨hy, hvn, hW, hP⟩;obtain ⟨Aw, cw, rfl, hcw⟩ := hW.val
  refine aK fun K6 kh6 => ?_;refine aK fun K7 kh7 => ?_;refine aC ?_;refine aA rfl rfl rfl (aG rfl) ?_;refine aA rfl rfl rfl (aG rfl) ?_;refine aA rfl rfl rfl (dC rfl rfl) ?_;refine aJ ?_;refine aL (kh7 _ _ ?_);clear kh7;refine a6 rfl (fun c15 => ?_) (fun c15 => ?_)
  ·
   refine aV ?_;refine aL (kh6 _ _ ?_);clear kh6;refine aZ ?_;refine aK fun K8 kh8 => ?_;refine aZ ?_;obtain ⟨rv, rm, rG, hrv, hro, hrp, _⟩ := hR.split (i := v) (by rw [iC]; exact hvn)
   rw [iT] at hro;have hrlen := kRow_len e (2 * e.length) v
   obtain ⟨Ar, cr, rfl, hcr⟩ := hro.val
   refine fZ (Sub.splitF hrp) ?_;refine cS (α := List Int) [0, 2] (fun nx3 => [(7, .slice Aw W.length cw), (8, .int .i64 (v : Int))]) (fun nx3 => [[(bx, blk (eT (.slice A e.length cap) n bat bl bn) 163)], [(bat, blk vs 25)], rm, rG, me, [(bl, blk (aY L) 3)], [(bn, blk (aY nx3) 3)], wm]) (fun nx3 => Wy n e s f L nx3 W v ∧ (Past n e t f L nx → Past n e t f L nx3) ∧ kF n e L nx3 v ≤ kF n e L nx2 v) (fun nx3 => ((gE e (2 * e.length) v).length - bO nx3 v).toNat) (nx2) ?_ ?_ ?_ ?_
   · exact (by repeat constructor)
   · repeat first|exact aH|refine aD ?_|refine aB rfl ?_|refine aI ?_
   · exact ⟨hy, hP, Nat.le_refl _⟩
   ·
    rintro nx3 ⟨hy3, hP3, hm3⟩;have hxl := hy3.nx.len
    have hxr : 0 ≤ bO nx3 v ∧ bO nx3 v ≤ (((gE e (2 * e.length) v).length : Nat) : Int) := hy3.nx.rng v hvn
    refine fC (e := [(7, _), (8, _), (0, _), (2, _)]) (by repeat constructor) ?_;refine aK fun K9 kh9 => ?_;refine aK fun K10 kh10 => ?_;refine fS rfl (by decide +kernel) ?_;refine aN rfl rfl rfl (aG rfl) ?_;refine aN rfl rfl rfl (dS rfl) ?_;refine aN rfl rfl rfl (aP fa163_3 rfl) ?_;refine aN rfl rfl rfl (aM Tryz.isAgg25 rfl (rdA rfl)) ?_;refine aN rfl rfl rfl (aG rfl) ?_;refine aN rfl rfl rfl (a8 bK rfl rfl (v) ⟨by omega, by omega, by first | omega | (simp; done) | (simp; omega)⟩) ?_;refine aN rfl rfl rfl (aM Tryz.isAgg3 rfl (rdA (iH (by omega)))) ?_;refine aN rfl rfl rfl (aG rfl) ?_;refine aN rfl rfl rfl (dS rfl) ?_;refine aN rfl rfl rfl (aP lO rfl) ?_;refine aN rfl rfl rfl (aM Tryz.isAgg30 rfl (rdA rfl)) ?_;refine aN rfl rfl rfl (aG rfl) ?_;refine aN rfl rfl rfl (a8 f8 rfl rfl (v) ⟨by omega, by omega, by first | omega | (simp; done) | (simp; omega)⟩) ?_;refine aN rfl rfl rfl (aM Tryz.isAgg25 rfl (rdA hrv)) ?_;refine aN rfl rfl rfl (bU bK rfl) ?_;refine aN rfl rfl rfl (cE rfl rfl) ?_;refine d7 ?_;refine aL (kh10 _ _ ?_);clear kh10;refine a6 rfl (fun c31 => ?_) (fun c31 => ?_)
    ·
     refine aV ?_;refine aL (kh9 _ _ ?_);clear kh9;refine aK fun K11 kh11 => ?_;refine aZ ?_;refine aK fun K12 kh12 => ?_;refine gQ 16 rfl (by decide +kernel) ?_;have hj : (bO nx3 v).toNat < (gE e (2 * e.length) v).length := by omega
     have hlt : bO nx3 v < ((row e v).length : Int) := by show bO nx3 v < ((gE e (2 * e.length) v).length : Int); omega
     obtain ⟨br, sr, rfl, rfl⟩ := hro.at_ (by omega)
     obtain ⟨k, hrk, hk2, hkf⟩ := row_at hj
     have hcur : (row e v)[(bO nx3 v).toNat]? = some (k : Int) := by rw [List.getElem?_eq_getElem hj, hrk]
     have hut := kto_lt hn.net hk2
     have hlv := hy3.way.level hy3.up
     rw [hL0] at hlv;have hwl := hy3.len
     refine aN rfl rfl rfl (aG rfl) ?_;refine aN rfl rfl rfl (dS rfl) ?_;refine aN rfl rfl rfl (aP lO rfl) ?_;refine aN rfl rfl rfl (aM Tryz.isAgg30 rfl (rdA rfl)) ?_;refine aN rfl rfl rfl (aG rfl) ?_;refine aN rfl rfl rfl (a8 f8 rfl rfl (v) ⟨by omega, by omega, by first | omega | (simp; done) | (simp; omega)⟩) ?_;refine aN rfl rfl rfl (aM Tryz.isAgg25 rfl (rdA hrv)) ?_;refine aN rfl rfl rfl (aG rfl) ?_;refine aN rfl rfl rfl (dS rfl) ?_;refine aN rfl rfl rfl (aP fa163_3 rfl) ?_;refine aN rfl rfl rfl (aM Tryz.isAgg25 rfl (rdA rfl)) ?_;refine aN rfl rfl rfl (aG rfl) ?_;refine aN rfl rfl rfl (a8 bK rfl rfl (v) ⟨by omega, by omega, by first | omega | (simp; done) | (simp; omega)⟩) ?_;refine aN rfl rfl rfl (aM Tryz.isAgg3 rfl (rdA (iH (by omega)))) ?_;refine aN rfl rfl rfl (a8 bK rfl rfl ((bO nx3 v).toNat) ⟨by omega, by omega, by first | omega | (simp; done) | (simp; omega)⟩) ?_;refine aN rfl rfl rfl (aM Tryz.isAgg3 rfl (rdA (v := .int .i64 (k : Int)) (dP (by rw [dO hj, hrk])))) ?_;refine d7 (kB ?_);refine aA rfl rfl rfl (aF rfl) ?_;refine aJ ?_;refine aL (kh12 _ _ ?_);clear kh12;refine aK fun K13 kh13 => ?_;refine aC ?_;refine aA rfl rfl rfl (aG rfl) ?_;refine aA rfl rfl rfl (aG rfl) ?_;refine aU rfl rfl rfl (bE Tryz.call124 rfl (fun w_ hp_ => to_spec n e f bx bat bl bn k cap A w_ (iN (b := bx) hp_ (fun j v hj => hj)) (eN (hE.seen hp_)) hn hf.len hk2) ?_);rintro _ _ ⟨rfl, rfl⟩;dsimp only [List.cons_append, List.nil_append];refine aA rfl rfl rfl (aF rfl) ?_;refine aJ ?_;refine aL (kh13 _ _ ?_);clear kh13;refine aK fun K14 kh14 => ?_;refine dF [[(bx, blk (eT (.slice A e.length cap) n bat bl bn) 163)], [(bl, blk (aY L) 3)]] rfl ?_;refine aS 0 rfl (by decide +kernel) rfl rfl rfl (by repeat first|exact aH|refine aD ?_|refine aB rfl ?_|refine aI ?_) (aG rfl) ?_;refine aS 1 rfl (by decide +kernel) rfl rfl rfl (by repeat first|exact aH|refine aD ?_|refine aB rfl ?_|refine aI ?_) (aG rfl) ?_;refine bP 2 rfl (by decide +kernel) rfl rfl rfl (bE Tryz.call119 rfl (fun w_ hp_ => left_spec n e f bx bat bl bn k cap A w_ (iN (b := bx) hp_ (fun j v hj => hj)) (eN (hE.seen hp_)) hn hf.len hk2) ?_);rintro _ _ ⟨rfl, rfl⟩;dsimp only [List.cons_append, List.nil_append];refine ⟨(by repeat first|exact aH|refine aD ?_|refine aB rfl ?_|refine aI ?_), ?_⟩;refine aS 3 rfl (by decide +kernel) rfl rfl rfl (by repeat first|exact aH|refine aD ?_|refine aB rfl ?_|refine aI ?_) (eL rfl rfl) ?_;refine aS 4 rfl (by decide +kernel) rfl rfl rfl (by repeat first|exact aH|refine aD ?_|refine aB rfl ?_|refine aI ?_) (aG rfl) ?_
     refine f_splitH 64 rfl (fun g64 => ?_) (fun g64 => ?_)
     ·
      refine fL 5 rfl (by decide +kernel) rfl rfl rfl rfl rfl (by repeat first|exact aH|refine aD ?_|refine aB rfl ?_|refine aI ?_) (aG rfl) ?_;refine fL 6 rfl (by decide +kernel) rfl rfl rfl rfl rfl (by repeat first|exact aH|refine aD ?_|refine aB rfl ?_|refine aI ?_) (dS rfl) ?_;refine fL 7 rfl (by decide +kernel) rfl rfl rfl rfl rfl (by repeat first|exact aH|refine aD ?_|refine aB rfl ?_|refine aI ?_) (aP iZ rfl) ?_;refine fL 8 rfl (by decide +kernel) rfl rfl rfl rfl rfl (by repeat first|exact aH|refine aD ?_|refine aB rfl ?_|refine aI ?_) (aM Tryz.isAgg25 rfl (rdA rfl)) ?_;refine fL 9 rfl (by decide +kernel) rfl rfl rfl rfl rfl (by repeat first|exact aH|refine aD ?_|refine aB rfl ?_|refine aI ?_) (aG rfl) ?_;refine fL 10 rfl (by decide +kernel) rfl rfl rfl rfl rfl (by repeat first|exact aH|refine aD ?_|refine aB rfl ?_|refine aI ?_) (a8 bK rfl rfl (kto e k) ⟨by omega, by omega, by first | omega | (simp; done) | (simp; omega)⟩) ?_;refine fL 11 rfl (by decide +kernel) rfl rfl rfl rfl rfl (by repeat first|exact aH|refine aD ?_|refine aB rfl ?_|refine aI ?_) (aM Tryz.isAgg3 rfl (rdA (iH (by omega)))) ?_;refine fL 12 rfl (by decide +kernel) rfl rfl rfl rfl rfl (by repeat first|exact aH|refine aD ?_|refine aB rfl ?_|refine aI ?_) (aG rfl) ?_;refine fL 13 rfl (by decide +kernel) rfl rfl rfl rfl rfl (by repeat first|exact aH|refine aD ?_|refine aB rfl ?_|refine aI ?_) (dS rfl) ?_;refine fL 14 rfl (by decide +kernel) rfl rfl rfl rfl rfl (by repeat first|exact aH|refine aD ?_|refine aB rfl ?_|refine aI ?_) (aP iZ rfl) ?_;refine fL 15 rfl (by decide +kernel) rfl rfl rfl rfl rfl (by repeat first|exact aH|refine aD ?_|refine aB rfl ?_|refine aI ?_) (aM Tryz.isAgg25 rfl (rdA rfl)) ?_;refine fL 16 rfl (by decide +kernel) rfl rfl rfl rfl rfl (by repeat first|exact aH|refine aD ?_|refine aB rfl ?_|refine aI ?_) (aG rfl) ?_;refine fL 17 rfl (by decide +kernel) rfl rfl rfl rfl rfl (by repeat first|exact aH|refine aD ?_|refine aB rfl ?_|refine aI ?_) (a8 bK rfl rfl (v) ⟨by omega, by omega, by first | omega | (simp; done) | (simp; omega)⟩) ?_;refine fL 18 rfl (by decide +kernel) rfl rfl rfl rfl rfl (by repeat first|exact aH|refine aD ?_|refine aB rfl ?_|refine aI ?_) (aM Tryz.isAgg3 rfl (rdA (iH (by omega)))) ?_;refine fL 19 rfl (by decide +kernel) rfl rfl rfl rfl rfl (by repeat first|exact aH|refine aD ?_|refine aB rfl ?_|refine aI ?_) (bF rfl rfl _ (aT (by omega))) ?_
      refine fL 20 rfl (by decide +kernel) rfl rfl rfl rfl rfl (by repeat first|exact aH|refine aD ?_|refine aB rfl ?_|refine aI ?_) (fI rfl rfl) ?_;refine aS 21 rfl (by decide +kernel) rfl rfl rfl (by repeat first|exact aH|refine aD ?_|refine aB rfl ?_|refine aI ?_) (bX rfl rfl) ?_;refine dB (by decide +kernel) ?_;refine aL (kh14 _ _ ?_);clear kh14;refine a6 rfl (fun c81 => ?_) (fun c81 => ?_)
      ·
       refine aK fun K15 kh15 => ?_;refine aC ?_;refine aA rfl rfl rfl (aG rfl) ?_;refine aA rfl rfl rfl (aG rfl) ?_;refine aU rfl rfl rfl (cW dR (by omega) rfl rfl rfl fun b84 => ?_);refine aU rfl rfl rfl (dH dR rfl rfl hW (ys := [.int .i64 (k : Int)]) ⟨(rdA rfl), trivial⟩ rfl rfl (by omega) (by omega) fun v85 m85 o85 => ?_);refine aA rfl rfl rfl (aF rfl) ?_;refine aJ ?_;refine aL (kh15 _ _ ?_);clear kh15;refine aK fun K16 kh16 => ?_;refine aC ?_;refine aA rfl rfl rfl (aG rfl) ?_;refine aA rfl rfl rfl (aF rfl) ?_;refine aJ ?_;refine aL (kh16 _ _ ?_);clear kh16;refine cG ?_;refine f_bo rfl ?_;refine cH ?_;clear kh11;refine cH ?_;refine f_bo rfl ?_;refine cH ?_;clear kh8;refine eB ?_;refine jA (Sub.joinF hrp.symm) ?_;refine aL (bA (W ++ [k], kto e k, nx3, v85, m85) (by show kF n e L nx3 (kto e k) < kF n e L nx2 v; have := wayMu_on (L := L) ⟨g64, by rw [hkf]; exact c81⟩ hkf hy3.nx; omega) ⟨hy3.on hk2 hkf hcur ⟨g64, by rw [hkf]; exact c81⟩, hut, by rw [nI_snoc, List.length_append]; exact o85, hP3⟩ ?_ ?_ ?_)
       · exact (by repeat constructor)
       · exact (by repeat constructor)
       · repeat first|exact aH|refine aD ?_|refine aB rfl ?_|refine aI ?_
      ·
       refine aV ?_;refine cU ?_;refine aL (kh11 _ _ ?_);clear kh11;refine aC ?_;refine aA rfl rfl rfl (aG rfl) ?_;refine aA rfl rfl rfl (dS rfl) ?_;refine aA rfl rfl rfl (aP fa163_3 rfl) ?_;refine aA rfl rfl rfl (aM Tryz.isAgg25 rfl (rdA rfl)) ?_;refine aA rfl rfl rfl (aG rfl) ?_;refine aA rfl rfl rfl (a8 bK rfl rfl (v) ⟨by omega, by omega, by first | omega | (simp; done) | (simp; omega)⟩) ?_;refine aA rfl rfl rfl (aM Tryz.isAgg3 rfl (rdA (iH (by omega)))) ?_;refine aA rfl rfl rfl (bF rfl rfl _ (aT (by omega))) ?_;refine aA rfl rfl rfl (a8 bK rfl rfl (v) ⟨by omega, by omega, by first | omega | (simp; done) | (simp; omega)⟩) ?_;refine bH rfl rfl (bY Tryz.sizeOf3 rfl rfl rfl rfl (by rw [aX]; omega) (aY (nx3.set v (bO nx3 v + 1))) (kZ ..) ?_);refine aJ ?_
       refine aL (bA (nx3.set v (bO nx3 v + 1)) (by rw [gM (by omega), if_pos rfl]; omega) ⟨hy3.pass hvn hlt, fun h => (hP3 h).step hy3.nx hvn hlt (fun k' hk' hg' => by
         rw [hcur] at hk';obtain rfl : k = k' := by have := Option.some.inj hk'; omega
         obtain ⟨q1, q2⟩ := hg'
         rw [hkf] at q2; omega), Nat.le_trans (Nat.le_of_lt (wayMu_pass (L := L) hy3.nx hvn hlt (hLg v hvn) v)) hm3⟩ ?_ ?_ ?_)
       · exact (by repeat constructor)
       · exact (by repeat constructor)
       · repeat first|exact aH|refine aD ?_|refine aB rfl ?_|refine aI ?_
     ·
      refine fM 5 rfl (by decide +kernel) rfl rfl rfl rfl rfl rfl (by repeat first|exact aH|refine aD ?_|refine aB rfl ?_|refine aI ?_) ?_;refine fM 6 rfl (by decide +kernel) rfl rfl rfl rfl rfl rfl (by repeat first|exact aH|refine aD ?_|refine aB rfl ?_|refine aI ?_) ?_;refine fM 7 rfl (by decide +kernel) rfl rfl rfl rfl rfl rfl (by repeat first|exact aH|refine aD ?_|refine aB rfl ?_|refine aI ?_) ?_;refine fM 8 rfl (by decide +kernel) rfl rfl rfl rfl rfl rfl (by repeat first|exact aH|refine aD ?_|refine aB rfl ?_|refine aI ?_) ?_;refine fM 9 rfl (by decide +kernel) rfl rfl rfl rfl rfl rfl (by repeat first|exact aH|refine aD ?_|refine aB rfl ?_|refine aI ?_) ?_;refine fM 10 rfl (by decide +kernel) rfl rfl rfl rfl rfl rfl (by repeat first|exact aH|refine aD ?_|refine aB rfl ?_|refine aI ?_) ?_;refine fM 11 rfl (by decide +kernel) rfl rfl rfl rfl rfl rfl (by repeat first|exact aH|refine aD ?_|refine aB rfl ?_|refine aI ?_) ?_;refine fM 12 rfl (by decide +kernel) rfl rfl rfl rfl rfl rfl (by repeat first|exact aH|refine aD ?_|refine aB rfl ?_|refine aI ?_) ?_;refine fM 13 rfl (by decide +kernel) rfl rfl rfl rfl rfl rfl (by repeat first|exact aH|refine aD ?_|refine aB rfl ?_|refine aI ?_) ?_;refine fM 14 rfl (by decide +kernel) rfl rfl rfl rfl rfl rfl (by repeat first|exact aH|refine aD ?_|refine aB rfl ?_|refine aI ?_) ?_;refine fM 15 rfl (by decide +kernel) rfl rfl rfl rfl rfl rfl (by repeat first|exact aH|refine aD ?_|refine aB rfl ?_|refine aI ?_) ?_;refine fM 16 rfl (by decide +kernel) rfl rfl rfl rfl rfl rfl (by repeat first|exact aH|refine aD ?_|refine aB rfl ?_|refine aI ?_) ?_;refine fM 17 rfl (by decide +kernel) rfl rfl rfl rfl rfl rfl (by repeat first|exact aH|refine aD ?_|refine aB rfl ?_|refine aI ?_) ?_;refine fM 18 rfl (by decide +kernel) rfl rfl rfl rfl rfl rfl (by repeat first|exact aH|refine aD ?_|refine aB rfl ?_|refine aI ?_) ?_;refine fM 19 rfl (by decide +kernel) rfl rfl rfl rfl rfl rfl (by repeat first|exact aH|refine aD ?_|refine aB rfl ?_|refine aI ?_) ?_;refine fM 20 rfl (by decide +kernel) rfl rfl rfl rfl rfl rfl (by repeat first|exact aH|refine aD ?_|refine aB rfl ?_|refine aI ?_) ?_;refine aS 21 rfl (by decide +kernel) rfl rfl rfl (by repeat first|exact aH|refine aD ?_|refine aB rfl ?_|refine aI ?_) (cL rfl rfl) ?_;refine dB (by decide +kernel) ?_;refine aL (kh14 _ _ ?_)
      clear kh14;refine gZ rfl ?_;refine aV ?_;refine cU ?_;refine aL (kh11 _ _ ?_);clear kh11;refine aC ?_;refine aA rfl rfl rfl (aG rfl) ?_;refine aA rfl rfl rfl (dS rfl) ?_;refine aA rfl rfl rfl (aP fa163_3 rfl) ?_;refine aA rfl rfl rfl (aM Tryz.isAgg25 rfl (rdA rfl)) ?_;refine aA rfl rfl rfl (aG rfl) ?_;refine aA rfl rfl rfl (a8 bK rfl rfl (v) ⟨by omega, by omega, by first | omega | (simp; done) | (simp; omega)⟩) ?_;refine aA rfl rfl rfl (aM Tryz.isAgg3 rfl (rdA (iH (by omega)))) ?_;refine aA rfl rfl rfl (bF rfl rfl _ (aT (by omega))) ?_;refine aA rfl rfl rfl (a8 bK rfl rfl (v) ⟨by omega, by omega, by first | omega | (simp; done) | (simp; omega)⟩) ?_;refine bH rfl rfl (bY Tryz.sizeOf3 rfl rfl rfl rfl (by rw [aX]; omega) (aY (nx3.set v (bO nx3 v + 1))) (kZ ..) ?_);refine aJ ?_
      refine aL (bA (nx3.set v (bO nx3 v + 1)) (by rw [gM (by omega), if_pos rfl]; omega) ⟨hy3.pass hvn hlt, fun h => (hP3 h).step hy3.nx hvn hlt (fun k' hk' hg' => by
        rw [hcur] at hk';obtain rfl : k = k' := by have := Option.some.inj hk'; omega
        obtain ⟨q1, q2⟩ := hg'
        rw [hkf] at q2; omega), Nat.le_trans (Nat.le_of_lt (wayMu_pass (L := L) hy3.nx hvn hlt (hLg v hvn) v)) hm3⟩ ?_ ?_ ?_)
      · exact (by repeat constructor)
      · exact (by repeat constructor)
      · repeat first|exact aH|refine aD ?_|refine aB rfl ?_|refine aI ?_
    ·
     refine cG ?_;refine cH ?_;clear kh9;refine cH ?_;refine eB ?_;refine aL (kh8 _ _ ?_);clear kh8;refine aK fun K17 kh17 => ?_;refine aK fun K18 kh18 => ?_;refine aC ?_;refine aA rfl rfl rfl (aG rfl) ?_;refine aA rfl rfl rfl (bU bK rfl) ?_;refine aA rfl rfl rfl (fI rfl rfl) ?_;refine aJ ?_;refine aL (kh18 _ _ ?_);clear kh18;refine a6 rfl (fun c89 => ?_) (fun c89 => ?_)
     ·
      obtain rfl : W = [] := by
        cases W with
        | nil => rfl
        | cons a b => simp at c89; omega
      have hsv : s = v := hy3.way
      subst hsv;refine aK fun K19 kh19 => ?_;refine aC ?_;refine aA rfl rfl rfl (aF rfl) ?_;refine aJ ?_;refine aL (kh19 _ _ ?_);clear kh19;refine a7 ?_;refine bS ?_;refine d3 ?_;refine bS ?_;refine d3 ?_;refine bS ?_;refine f_nr ?_;exact bJ [(i7 bx bat bl bn n (.slice A e.length cap) vs ms.flatten me L nx3).flatten, []] Tryz.results118 rfl (Sub.transF (Sub.joinF hrp.symm) (Sub.flat2 (Sub.transF (b := i7 bx bat bl bn n (.slice A e.length cap) vs ms.flatten me L nx3) (by unfold i7; repeat (first | exact aH | refine aD ?_ | refine aB rfl ?_)) Sub.addNil))) ⟨[], nx3, _, [], rfl, DRep_mk hR hE, hy3.nx, Own.nil _ _, Nat.zero_le _, fun h => absurd rfl h, fun _ h => ⟨⟨by show bO nx3 s = (((gE e (2 * e.length) s).length : Nat) : Int); omega, hst⟩, hP3 h⟩⟩
     ·
      obtain ⟨W', k, rfl⟩ := last_of (W := W) (fun e' => by subst e'; simp at c89)
      have hwl := hy3.len
      have hWl : (W' ++ [k]).length = W'.length + 1 := by simp
      obtain ⟨bw, sw, rfl, rfl⟩ := hW.at_ (by omega)
      obtain ⟨hk2, hkt, hbk⟩ := hy3.back
      have hfn := jS hn.net hk2
      have hlt' := hy3.lt
      have hlq : bO nx3 (bW e k) < (((gE e (2 * e.length) (bW e k)).length : Nat) : Int) := hy3.lt
      have hfr := hy3.nx.rng _ hfn
      have hrl' := kRow_len e (2 * e.length) (bW e k)
      refine aV ?_;refine aL (kh17 _ _ ?_);clear kh17;refine aK fun K20 kh20 => ?_;refine aC ?_;refine aA rfl rfl rfl (aG rfl) ?_;refine aA rfl rfl rfl (aG rfl) ?_;refine aA rfl rfl rfl (bU bK rfl) ?_;refine aA rfl rfl rfl (gW rfl rfl _ (aT (by omega))) ?_;refine aA rfl rfl rfl (a8 bK rfl rfl (W'.length) ⟨by omega, by omega, by first | omega | (simp; done) | (simp; omega)⟩) ?_;refine aA rfl rfl rfl (aM Tryz.isAgg3 rfl (rdA (v := .int .i64 (k : Int)) (dP (by rw [nI_snoc, List.getElem?_append_right (by rw [nI_len]; exact Nat.le_refl _), nI_len, Nat.sub_self]; rfl)))) ?_;refine aA rfl rfl rfl (aF rfl) ?_;refine aJ ?_;refine aL (kh20 _ _ ?_);clear kh20;refine aK fun K21 kh21 => ?_;refine aC ?_;refine aA rfl rfl rfl (aG rfl) ?_;refine aA rfl rfl rfl (aG rfl) ?_;refine aA rfl rfl rfl (bU bK rfl) ?_;refine aA rfl rfl rfl (gW rfl rfl _ (aT (by omega))) ?_;refine aA rfl rfl rfl (eV bK rfl rfl rfl rfl (fun h => by cases h) 0 W'.length _ (.inl ⟨rfl, rfl⟩) (.inr ⟨_, _, rfl, by omega⟩) (.inl ⟨rfl, rfl⟩) ⟨by omega, by omega, by omega⟩ (.slice (some ⟨bw, 0, none⟩) W'.length cw) (by rw [if_neg (by omega)]; simp [cQ])) ?_;refine aA rfl rfl rfl (aF rfl) ?_;refine aJ ?_;refine aL (kh21 _ _ ?_);clear kh21;refine aK fun K22 kh22 => ?_;refine aC ?_;refine aA rfl rfl rfl (aG rfl) ?_;refine aA rfl rfl rfl (aG rfl) ?_;refine aA rfl rfl rfl (o_xor rfl rfl ((k ^^^ 1 : Nat) : Int) (xor_one (by omega))) ?_;refine aU rfl rfl rfl (bE Tryz.call124 rfl (fun w_ hp_ => to_spec n e f bx bat bl bn (k ^^^ 1) cap A w_ (iN (b := bx) hp_ (fun j v hj => hj)) (eN (hE.seen hp_)) hn hf.len (xor1_lt hk2)) ?_);rintro _ _ ⟨rfl, rfl⟩;rw [kto_xor];dsimp only [List.cons_append, List.nil_append];refine aA rfl rfl rfl (aF rfl) ?_;refine aJ ?_;refine aL (kh22 _ _ ?_);clear kh22;refine aC ?_;refine aA rfl rfl rfl (aG rfl) ?_;refine aA rfl rfl rfl (dS rfl) ?_;refine aA rfl rfl rfl (aP fa163_3 rfl) ?_;refine aA rfl rfl rfl (aM Tryz.isAgg25 rfl (rdA rfl)) ?_;refine aA rfl rfl rfl (aG rfl) ?_;refine aA rfl rfl rfl (a8 bK rfl rfl (bW e k) ⟨by omega, by omega, by first | omega | (simp; done) | (simp; omega)⟩) ?_;refine aA rfl rfl rfl (aM Tryz.isAgg3 rfl (rdA (iH (by omega)))) ?_;refine aA rfl rfl rfl (bF rfl rfl _ (aT (by omega))) ?_;refine aA rfl rfl rfl (a8 bK rfl rfl (bW e k) ⟨by omega, by omega, by first | omega | (simp; done) | (simp; omega)⟩) ?_;refine bH rfl rfl (bY Tryz.sizeOf3 rfl rfl rfl rfl (by rw [aX]; omega) (aY (nx3.set (bW e k) (bO nx3 (bW e k) + 1))) (kZ ..) ?_);refine aJ ?_;refine cU ?_;refine jA (Sub.joinF hrp.symm) ?_
      refine aL (bA (W', bW e k, nx3.set (bW e k) (bO nx3 (bW e k) + 1), .slice (some ⟨bw, 0, none⟩) W'.length cw, [(bw, blk (aY (nI (W' ++ [k])) ++ sw) 3)]) (by show kF n e L (nx3.set (bW e k) (bO nx3 (bW e k) + 1)) (bW e k) < kF n e L nx2 v; have := wayMu_pass (L := L) hy3.nx hfn hlt' (hLg _ hfn) v; omega) ⟨hbk.pass hfn hlt', hfn, by have := hW.head (n := W'.length) (by simp); rw [nI_pop] at this; exact this, fun h => (hP3 h).step hy3.nx hfn hlt' (fun k' hk' hg' => by
        have hc2 := hy3.cur k (by simp)
        rw [hk'] at hc2;obtain rfl : k' = k := by have := Option.some.inj hc2; omega
        rw [hkt]; exact ⟨by show bO nx3 v = (((gE e (2 * e.length) v).length : Nat) : Int); omega, fun e' => c15 (by rw [e'])⟩)⟩ ?_ ?_ ?_)
      · exact (by repeat constructor)
      · exact (by repeat constructor)
      · repeat first|exact aH|refine aD ?_|refine aB rfl ?_|refine aI ?_
  ·
   obtain rfl : v = t := by omega
   refine cG ?_;refine cH ?_;clear kh6;refine cH ?_;refine eB ?_;refine aL (kh5 _ _ ?_);clear kh5;refine aK fun K23 kh23 => ?_;refine aC ?_;refine aA rfl rfl rfl (aG rfl) ?_;refine aA rfl rfl rfl (aF rfl) ?_;refine aJ ?_;refine aL (kh23 _ _ ?_);clear kh23;refine a7 ?_;refine f_nr ?_;exact bJ [(i7 bx bat bl bn n (.slice A e.length cap) vs ms.flatten me L nx2).flatten, wm] Tryz.results118 rfl (Sub.flat2 (by unfold i7; repeat (first | exact aH | refine aD ?_ | refine aB rfl ?_))) ⟨W, nx2, _, wm, rfl, DRep_mk hR hE, hy.nx, hW, hy.len, fun _ => ⟨hy.way, hy.good⟩, fun h => by subst h; exact absurd (show s = v from hy.way) hst⟩
end Go.Proofs.YtjjogcnjcnpehaaGreat

/- Package flow: pushing until no way is left. -/
namespace Go.Proofs.YtjjogcnjcnpehaaGreat
open Go Go.RowKit Fly
set_option linter.unusedVariables false
set_option linter.unusedSimpArgs false
theorem Sub.flatR {segs out r : List Seg} (h : Sub segs (out ++ r)) : Sub segs (out.flatten :: r) := by
  obtain ⟨q, h⟩ := h
  exact ⟨q, by simpa using h⟩
theorem Sub.openAt {segs s1 out : List Seg} {m : Seg} [p : Pick segs m s1] (hp : m.Perm out.flatten) : Sub segs (out ++ s1) := Sub.pickF hp Sub.refl
theorem nI_get {W : List Nat} {j : Nat} (h : j < W.length) : (aY (nI W))[j]? = some (.int .i64 ((W[j] : Nat) : Int)) := by simp [nI, aY, h]
theorem kleft_xor {e : List Arc} {f : List Int} (k : Nat) : dX e f k + dX e f (k ^^^ 1) = (c6 e (k / 2)).wt := by
  rw [xor1]
  unfold dX
  by_cases h : k % 2 = 0
  · rw [if_pos h, if_pos h, if_neg (by omega), show (k + 1) / 2 = k / 2 by omega]; omega
  · rw [if_neg h, if_neg h, if_pos (by omega), show (k - 1) / 2 = k / 2 by omega]; omega
theorem other_at (k : Nat) : (k ^^^ 1) / 2 * 4 + 2 + (k ^^^ 1) % 2 = k / 2 * 4 + 2 + (1 - k % 2) := by
  rw [xor1]; split <;> omega
theorem zip_set : ∀ {e : List Arc} {f : List Int} {i : Nat} {y : Int}, f.length = e.length → i < e.length → List.zip e (f.set i y) = (List.zip e f).set i (c6 e i, y)
  | [], f, i, y, _, h => by simp at h
  | x :: e, [], i, y, h, _ => by simp at h
  | x :: e, z :: f, 0, y, _, _ => by simp [c6]
  | x :: e, z :: f, i + 1, y, h, hi => by
    have := zip_set (e := e) (f := f) (i := i) (y := y) (by simpa using h) (by simpa using hi)
    simp only [List.set_cons_succ, List.zip_cons_cons, this];simp [c6]
theorem ecells_push {e : List Arc} {f : List Int} {k : Nat} {d : Int} {sp : List Value} (h : f.length = e.length) (hk : k < 2 * e.length) :
    ((eZ e f ++ sp).set (k / 2 * 4 + 2 + k % 2) (.int .u32 (dX e f k - d))).set (k / 2 * 4 + 2 + (1 - k % 2)) (.int .u32 (dX e f (k ^^^ 1) + d)) = eZ e (iI f k d) ++ sp := by
  have hi : k / 2 < e.length := by omega
  obtain ⟨hz, hzi⟩ := zip_at h hi
  have e1 : eZ e (iI f k d) = ((List.zip e f).set (k / 2) (c6 e (k / 2), bO f (k / 2) + (if k % 2 = 0 then d else -d))).flatMap ecs := by
    unfold eZ iI; rw [zip_set h hi]
  have hx := kleft_xor (e := e) (f := f) k
  have hl2 : ∀ y, k / 2 < ((List.zip e f).set (k / 2) y).length := fun y => by simpa using hz
  have hle : eZ e f = (List.zip e f).flatMap ecs := rfl
  rw [e1, hle]
  by_cases h2 : k % 2 = 0
  · have hk1 : dX e f k = (c6 e (k / 2)).wt - bO f (k / 2) := by unfold dX; rw [if_pos h2]
    rw [h2, if_pos rfl, show k / 2 * 4 + 2 + 0 = k / 2 * 4 + 2 from rfl, show k / 2 * 4 + 2 + (1 - 0) = k / 2 * 4 + 3 from rfl];rw [set_flat ecs_len sp (q := 2) (by omega) (List.zip e f) (k / 2) (⟨(c6 e (k / 2)).src, (c6 e (k / 2)).dst, (c6 e (k / 2)).wt - d⟩, bO f (k / 2)) hz (by rw [hzi]; simp only [ecs, List.set_cons_succ, List.set_cons_zero, hk1]; congr 3; congr 1; omega)]
    rw [set_flat ecs_len sp (q := 3) (by omega) _ (k / 2) (c6 e (k / 2), bO f (k / 2) + d) (hl2 _) (by
      rw [List.getElem_set_self]; simp only [ecs, List.set_cons_succ, List.set_cons_zero]
      rw [show dX e f (k ^^^ 1) = bO f (k / 2) by omega, show (c6 e (k / 2)).wt - d - bO f (k / 2) = (c6 e (k / 2)).wt - (bO f (k / 2) + d) by omega])]
    rw [List.set_set]
  · have h3 : k % 2 = 1 := by omega
    have hk1 : dX e f k = bO f (k / 2) := by unfold dX; rw [if_neg h2]
    rw [h3, if_neg (by omega), show k / 2 * 4 + 2 + 1 = k / 2 * 4 + 3 from rfl, show k / 2 * 4 + 2 + (1 - 1) = k / 2 * 4 + 2 from rfl]
    rw [set_flat ecs_len sp (q := 3) (by omega) (List.zip e f) (k / 2) (⟨(c6 e (k / 2)).src, (c6 e (k / 2)).dst, (c6 e (k / 2)).wt - d⟩, bO f (k / 2) + -d) hz (by
      rw [hzi]; simp only [ecs, List.set_cons_succ, List.set_cons_zero, hk1]
      rw [show (c6 e (k / 2)).wt - d - (bO f (k / 2) + -d) = (c6 e (k / 2)).wt - bO f (k / 2) by omega, show bO f (k / 2) + -d = bO f (k / 2) - d by omega])]
    rw [set_flat ecs_len sp (q := 2) (by omega) _ (k / 2) (c6 e (k / 2), bO f (k / 2) + -d) (hl2 _) (by
      rw [List.getElem_set_self]; simp only [ecs, List.set_cons_succ, List.set_cons_zero]
      rw [show dX e f (k ^^^ 1) + d = (c6 e (k / 2)).wt - (bO f (k / 2) + -d) by omega])]
    rw [List.set_set]
theorem ecells_other {e : List Arc} {f : List Int} {k : Nat} {x : Value} {sp : List Value} (h : f.length = e.length) (hk : k < 2 * e.length) :
    ((eZ e f ++ sp).set (k / 2 * 4 + 2 + k % 2) x)[k / 2 * 4 + 2 + (1 - k % 2)]? = some (.int .u32 (dX e f (k ^^^ 1))) := by
  rw [List.getElem?_set_ne (by omega), ← other_at];exact dP (ecells_left h (xor1_lt hk))
theorem min_step {e : List Arc} {f : List Int} {W : List Nat} {j : Nat} {mm : Int} (hj : j < W.length) (h : ∀ i (h : i < W.length), i < j → mm ≤ dX e f W[i]) : ∀ i (h : i < W.length), i < j + 1 → min mm (dX e f W[j]) ≤ dX e f W[i] := fun i hi hij => by
  by_cases e' : i = j
  · subst e'; exact Int.min_le_right _ _
  · exact Int.le_trans (Int.min_le_left _ _) (h i hi (by omega))
theorem push_left {e : List Arc} {f : List Int} {W : List Nat} {j : Nat} {d : Int} (hf : f.length = e.length) (hj : j < W.length) (hl : ∀ k, k ∈ W → k < 2 * e.length) (hn : (W.map (· / 2)).Nodup) : dX e (eH f (W.take j) d) W[j] = dX e f W[j] := by
  have : bO (eH f (W.take j) d) (W[j] / 2) = bO f (W[j] / 2) := flAt_pushAll (fun k hk => by have := hl k (List.mem_of_mem_take hk); omega) fun k hk e' => by
    obtain ⟨i, hi, rfl⟩ := List.mem_iff_getElem.1 hk
    have hij : i < j := by have := hi; simp at this; omega
    rw [List.getElem_take] at e';have h1 : i < (W.map (· / 2)).length := by simp; omega
    have h2 : j < (W.map (· / 2)).length := by simpa using hj
    exact absurd (by simpa using e') (List.pairwise_iff_getElem.1 hn i j h1 h2 hij)
  unfold dX; rw [this]
set_option maxRecDepth 100000 in
set_option maxHeartbeats 4000000 in
theorem run_spec (n : Nat) (e : List Arc) (L0 nx0 : List Int) (bx : Nat) (m : Seg) (s t : Nat) (w : World) (hn : NOk n e) (hL0 : L0.length = n) (hx0 : nx0.length = n) (hS : DRep n e (List.replicate e.length 0) L0 nx0 bx m) (hs : s < n) (ht : t < n) (hst : s ≠ t) (hw : Owns w [m]) :
    Meets Tryz.prog 101 [.pointer (some ⟨bx, 0, none⟩), .int .i64 (s : Int), .int .i64 (t : Int)] w [m] (fun u own' => ∃ V f L' nx' m', u = .int .u64 V ∧ own' = [m'] ∧ DRep n e f L' nx' bx m' ∧ Flow n e s t f V ∧ Lay n e s f L' ∧ bO L' t < 0 ∧ 0 ≤ V ∧ V ≤ 70368744161280) := by
 have hn1 := hn.n1
 have hel := hn.len
 have hwt : ∀ x ∈ e, x.wt ≤ 4294967295 := fun x hx => (hn.ok x hx).wt.2
 have hcs : h7 e ≤ 70368744161280 := by have := capSum_le 4294967295 e hwt; omega
 refine bM Tryz.func101 rfl Tryz.ntmps101 rfl hw ?_;refine aK fun K1 kh1 => ?_;refine aC ?_;refine aA rfl rfl rfl (aF rfl) ?_;refine aJ ?_;refine aL (kh1 _ _ ?_);clear kh1;refine aK fun K2 kh2 => ?_;refine aC ?_;refine aA rfl rfl rfl (aF rfl) ?_;refine aJ ?_;refine aL (kh2 _ _ ?_);clear kh2;refine aK fun K3 kh3 => ?_;refine aZ ?_;refine cS (α := Int × List Int × List Int × List Int × Seg) [0, 1, 2] (fun ⟨V, f, L, nx, m1⟩ => [(7, .int .u64 V)]) (fun ⟨V, f, L, nx, m1⟩ => [m1]) (fun ⟨V, f, L, nx, m1⟩ => Flow n e s t f V ∧ 0 ≤ V ∧ DRep n e f L nx bx m1 ∧ L.length = n ∧ nx.length = n) (fun ⟨V, f, L, nx, m1⟩ => (h7 e - V).toNat) (0, List.replicate e.length 0, L0, nx0, m) ?_ ?_ ?_ ?_
 · exact (by repeat constructor)
 · repeat first|exact aH|refine aD ?_|refine aB rfl ?_|refine aI ?_
 · exact ⟨Flow.zero fun x hx => (hn.ok x hx).wt.1, Int.le_refl _, hS, hL0, hx0⟩
 ·
  rintro ⟨V, f, L, nx, m1⟩ ⟨hF, hV, hD, hLl, hxl⟩;have hVb := hF.val_le hs hst
  refine aK fun K4 kh4 => ?_;refine aK fun K5 kh5 => ?_;refine aC ?_;refine aA rfl rfl rfl (aG rfl) ?_;refine aA rfl rfl rfl (aG rfl) ?_;refine aA rfl rfl rfl (aG rfl) ?_;refine aU rfl rfl rfl (fK [m1] _ Tryz.call117 rfl (aD Sub.refl) (fun w_ hp_ => layers_spec n e f L nx bx m1 s t w_ hn hF.fits hLl hxl hD hs ht hp_.owns) ?_);rintro _ _ ⟨L1, m1', rfl, hD1, hLy, rfl⟩;dsimp only [List.cons_append, List.nil_append];refine aJ ?_;refine aL (kh5 _ _ ?_);clear kh5;refine a6 rfl (fun c17 => ?_) (fun c17 => ?_)
  ·
   refine aV ?_;refine aL (kh4 _ _ ?_);clear kh4;refine aZ ?_;refine aK fun K6 kh6 => ?_;refine aC ?_;refine aA rfl rfl rfl (aG rfl) ?_;refine aA rfl rfl rfl (aG rfl) ?_;refine aA rfl rfl rfl (aG rfl) ?_;refine aU rfl rfl rfl (fK [m1'] _ Tryz.call118 rfl (aD Sub.refl) (fun w_ hp_ => way_spec n e f L1 (List.replicate n 0) bx m1' s t w_ hn hF.fits hLy.len hLy.s0 hLy.ge (Nx.start n e) hD1 hs ht hst hp_.owns) ?_);rintro v21 _ ⟨W1, nx1, m2, mw1, rfl, hD1', hx1, hW1, hWl1, hWg1, hWd1⟩
   have hW1n : W1 ≠ [] := fun h => by
     obtain ⟨a, b⟩ := hWd1 h (Past.start n e t f L1)
     exact way_there hLy hn.net ht c17 hx1 b a
   dsimp only [List.cons_append, List.nil_append];refine aA rfl rfl rfl (aF rfl) ?_;refine aJ ?_;refine aL (kh6 _ _ ?_);clear kh6;refine aZ ?_;refine cS (α := Int × List Int × List Int × Seg × List Nat × Value × Seg) [0, 1, 2] (fun ⟨V2, f2, nx2, m2, W, wv, wm⟩ => [(7, .int .u64 V2), (8, wv)]) (fun ⟨V2, f2, nx2, m2, W, wv, wm⟩ => [m2, wm]) (fun ⟨V2, f2, nx2, m2, W, wv, wm⟩ => Flow n e s t f2 V2 ∧ DRep n e f2 L1 nx2 bx m2 ∧ Nx n e nx2 ∧ Own 3 1 wv W.length (aY (nI W)) wm ∧ W.length ≤ e.length ∧ (W ≠ [] → Way e s t W ∧ ∀ k, k ∈ W → Good e f2 L1 k) ∧ V ≤ V2 ∧ (W = [] → V < V2)) (fun ⟨V2, f2, nx2, m2, W, wv, wm⟩ => (h7 e - V2).toNat) (V, f, nx1, m2, W1, v21, mw1) ?_ ?_ ?_ ?_
   · exact (by repeat constructor)
   · repeat first|exact aH|refine aD ?_|refine aB rfl ?_|refine aI ?_
   · exact ⟨hF, hD1', hx1, hW1, hWl1, hWg1, Int.le_refl _, fun h => absurd h hW1n⟩
   ·
    rintro ⟨V2, f2, nx2, m2, W, wv, wm⟩ ⟨hF2, hD2, hx2, hW, hWl, hWg, hV2, hne⟩;obtain ⟨Aw, cw, rfl, hcw⟩ := hW.val
    have hV2b := hF2.val_le hs hst
    refine fC (e := [(7, _), (8, _), (0, _), (1, _), (2, _)]) (by repeat constructor) ?_;refine aK fun K7 kh7 => ?_;refine aK fun K8 kh8 => ?_;refine aC ?_;refine aA rfl rfl rfl (aG rfl) ?_;refine aA rfl rfl rfl (bU bK rfl) ?_;refine aA rfl rfl rfl (eL rfl rfl) ?_;refine aJ ?_;refine aL (kh8 _ _ ?_);clear kh8;refine a6 rfl (fun c24 => ?_) (fun c24 => ?_)
    ·
     refine aV ?_;refine aL (kh7 _ _ ?_);clear kh7;refine aK fun K9 kh9 => ?_;refine aZ ?_;refine aK fun K10 kh10 => ?_;have hW0 : 0 < W.length := by omega
     have hWk := hWg (fun h => by subst h; simp at hW0)
     have hWm := hWk.1.lt
     have hnd := hWk.1.nodup (L := L1) fun k hk => (hWk.2 k hk).2
     obtain ⟨bat, bl, bn, ve, vs, ms, me, hmp, hR, hE⟩ := hD2
     obtain ⟨A, cap, rfl, _⟩ := hE.val
     obtain ⟨bw, sw, rfl, rfl⟩ := hW.at_ hW0
     refine fZ (Sub.openAt hmp) ?_
     unfold i7
     dsimp only [List.cons_append, List.nil_append];refine aC ?_;refine aA rfl rfl rfl (aG rfl) ?_;refine aA rfl rfl rfl (aG rfl) ?_;refine aA rfl rfl rfl (a8 bK rfl rfl (0) ⟨by omega, by omega, by first | omega | (simp; done) | (simp; omega)⟩) ?_;refine aA rfl rfl rfl (aM Tryz.isAgg3 rfl (rdA (dP (nI_get hW0)))) ?_;refine aU rfl rfl rfl (bE Tryz.call119 rfl (fun w_ hp_ => left_spec n e f2 bx bat bl bn W[0] cap A w_ (iN (b := bx) hp_ (fun j v hj => hj)) (eN (hE.seen hp_)) hn hF2.fits.len (hWm _ (List.getElem_mem hW0))) ?_);rintro _ _ ⟨rfl, rfl⟩;dsimp only [List.cons_append, List.nil_append];refine aA rfl rfl rfl (aF rfl) ?_;refine aJ ?_;refine aL (kh10 _ _ ?_);clear kh10;refine aK fun K11 kh11 => ?_;refine aK fun K12 kh12 => ?_;refine aC ?_;refine aA rfl rfl rfl (aG rfl) ?_;refine aA rfl rfl rfl (bU bK rfl) ?_;refine aA rfl rfl rfl (aG rfl) ?_;refine aJ ?_;refine aL (kh12 _ _ ?_);clear kh12;refine aZ ?_;refine cS (α := Nat × Int) [0, 1, 2, 7, 8, 34, 35] (fun ⟨j, mm⟩ => [(36, .int .i64 (j : Int)), (9, .int .u32 mm)]) (fun ⟨j, mm⟩ => [[(bx, blk (eT (.slice A e.length cap) n bat bl bn) 163)], [(bat, blk vs 25)], ms.flatten, me, [(bl, blk (aY L1) 3)], [(bn, blk (aY nx2) 3)], [(bw, blk (aY (nI W) ++ sw) 3)]]) (fun ⟨j, mm⟩ => j ≤ W.length ∧ 0 < mm ∧ mm ≤ 4294967295 ∧ ∀ i (h : i < W.length), i < j → mm ≤ dX e f2 W[i]) (fun ⟨j, mm⟩ => W.length - j) (0, dX e f2 W[0]) ?_ ?_ ?_ ?_
     · exact (by repeat constructor)
     · repeat first|exact aH|refine aD ?_|refine aB rfl ?_|refine aI ?_
     · exact ⟨Nat.zero_le _, (hWk.2 _ (List.getElem_mem _)).1, by have := kleft_rng hF2.fits (hWm _ (List.getElem_mem hW0)); have := (hn.at_ (i := W[0] / 2) (by have := hWm _ (List.getElem_mem hW0); omega)); omega, fun i h hi => by omega⟩
     ·
      rintro ⟨j, mm⟩ ⟨hjl, hm0, hmu, hmj⟩;refine fC (e := [(36, _), (9, _), (0, _), (1, _), (2, _), (7, _), (8, _), (34, _), (35, _)]) (by repeat constructor) ?_;refine aK fun K13 kh13 => ?_;refine aC ?_;refine aA rfl rfl rfl (cE rfl rfl) ?_;refine aJ ?_;refine aL (kh13 _ _ ?_);clear kh13;refine aK fun K14 kh14 => ?_;refine a6 rfl (fun c37 => ?_) (fun c37 => ?_)
      ·
       refine aV ?_;refine aL (kh14 _ _ ?_);clear kh14;refine aK fun K15 kh15 => ?_;refine aZ ?_;refine aK fun K16 kh16 => ?_;refine aC ?_;have hj : j < W.length := by omega
       refine aA rfl rfl rfl (a8 bK rfl rfl (j) ⟨by omega, by omega, by first | omega | (simp; done) | (simp; omega)⟩) ?_;refine aA rfl rfl rfl (aM Tryz.isAgg3 rfl (rdA (dP (nI_get hj)))) ?_;refine aA rfl rfl rfl (aF rfl) ?_;refine aJ ?_;refine aL (kh16 _ _ ?_);clear kh16;refine aC ?_;refine aA rfl rfl rfl (aG rfl) ?_;refine aA rfl rfl rfl (aG rfl) ?_;refine aA rfl rfl rfl (aG rfl) ?_;refine aU rfl rfl rfl (bE Tryz.call119 rfl (fun w_ hp_ => left_spec n e f2 bx bat bl bn W[j] cap A w_ (iN (b := bx) hp_ (fun j v hj => hj)) (eN (hE.seen hp_)) hn hF2.fits.len (hWm _ (List.getElem_mem hj))) ?_);rintro _ _ ⟨rfl, rfl⟩;dsimp only [List.cons_append, List.nil_append];refine aA rfl rfl rfl (o_min rfl rfl) ?_;refine aA rfl rfl rfl (aF rfl) ?_;refine aJ ?_;refine cU ?_;refine aL (kh15 _ _ ?_);clear kh15;refine aC ?_;refine aA rfl rfl rfl (bF rfl rfl _ (aT (by omega))) ?_;refine aA rfl rfl rfl (aG rfl) ?_;refine aJ ?_;refine aL (bA (j + 1, min mm (dX e f2 W[j])) (by first | omega | (dsimp only; omega) | (simp; omega)) ⟨by omega, by have := (hWk.2 _ (List.getElem_mem hj)).1; omega, by omega, min_step hj hmj⟩ ?_ ?_ ?_)
       · exact (by repeat constructor)
       · exact (by repeat constructor)
       · repeat first|exact aH|refine aD ?_|refine aB rfl ?_|refine aI ?_
      ·
       refine cG ?_;refine cH ?_;clear kh14;refine cH ?_;refine eB ?_;refine aL (kh11 _ _ ?_);clear kh11;refine aK fun K17 kh17 => ?_;refine aK fun K18 kh18 => ?_;refine aC ?_;refine aA rfl rfl rfl (aG rfl) ?_;refine aA rfl rfl rfl (bU bK rfl) ?_;refine aA rfl rfl rfl (aG rfl) ?_;refine aJ ?_;refine aL (kh18 _ _ ?_);clear kh18;refine aZ ?_
       have hmall : ∀ k, k ∈ W → mm ≤ dX e f2 k := fun k hk => by
         obtain ⟨i, hi, rfl⟩ := List.mem_iff_getElem.1 hk
         exact hmj i hi (by omega)
       have hF3 := hF2.push (by omega) hWk.1 hnd hmall
       have hV3 := hF3.val_le hs hst
       refine cS (α := Nat × Seg) [0, 1, 2, 7, 9, 46, 47] (fun ⟨j, me3⟩ => [(48, .int .i64 (j : Int))]) (fun ⟨j, me3⟩ => [[(bx, blk (eT (.slice A e.length cap) n bat bl bn) 163)], [(bat, blk vs 25)], ms.flatten, me3, [(bl, blk (aY L1) 3)], [(bn, blk (aY nx2) 3)], [(bw, blk (aY (nI W) ++ sw) 3)]]) (fun ⟨j, me3⟩ => j ≤ W.length ∧ Own 181 4 (.slice A e.length cap) e.length (eZ e (eH f2 (W.take j) mm)) me3) (fun ⟨j, me3⟩ => W.length - j) (0, me) ?_ ?_ ?_ ?_
       · exact (by repeat constructor)
       · repeat first|exact aH|refine aD ?_|refine aB rfl ?_|refine aI ?_
       · exact ⟨Nat.zero_le _, hE⟩
       ·
        rintro ⟨j, me3⟩ ⟨hjl, hE3⟩;refine fC (e := [(48, _), (0, _), (1, _), (2, _), (7, _), (9, _), (46, _), (47, _)]) (by repeat constructor) ?_;refine aK fun K19 kh19 => ?_;refine aC ?_;refine aA rfl rfl rfl (cE rfl rfl) ?_;refine aJ ?_;refine aL (kh19 _ _ ?_);clear kh19;refine aK fun K20 kh20 => ?_;refine a6 rfl (fun c49 => ?_) (fun c49 => ?_)
        ·
         refine aV ?_;refine aL (kh20 _ _ ?_);clear kh20;refine aK fun K21 kh21 => ?_;refine aZ ?_;refine aK fun K22 kh22 => ?_;refine aC ?_;have hj : j < W.length := by omega
         refine aA rfl rfl rfl (a8 bK rfl rfl (j) ⟨by omega, by omega, by first | omega | (simp; done) | (simp; omega)⟩) ?_;refine aA rfl rfl rfl (aM Tryz.isAgg3 rfl (rdA (dP (nI_get hj)))) ?_;refine aA rfl rfl rfl (aF rfl) ?_;refine aJ ?_;refine aL (kh22 _ _ ?_);clear kh22;refine aK fun K23 kh23 => ?_;have hkw := push_left (d := mm) hF2.fits.len hj hWm hnd
         have hfl : (eH f2 (W.take j) mm).length = e.length := by rw [pushAll_len]; exact hF2.fits.len
         have hk2 := hWm _ (List.getElem_mem hj)
         obtain ⟨be, spE, rfl, rfl, hupd⟩ := hE3.upd (by omega)
         have hkm := hmj j hj (by omega)
         have hkr := kleft_rng hF2.fits hk2
         have hkx := kleft_xor (e := e) (f := eH f2 (W.take j) mm) W[j]
         have hat := hn.at_ (i := W[j] / 2) (by omega)
         have hcl := jV hfl
         refine gQ 17 rfl (by decide +kernel) ?_;refine aN rfl rfl rfl (aG rfl) ?_;refine aN rfl rfl rfl (dS rfl) ?_;refine aN rfl rfl rfl (aP lP rfl) ?_;refine aN rfl rfl rfl (aM Tryz.isAgg161 rfl (rdA rfl)) ?_;refine aN rfl rfl rfl (aG rfl) ?_;refine aN rfl rfl rfl (o_shr rfl rfl (by decide) ((W[j] / 2 : Nat) : Int) (shr_one (by omega))) ?_;refine aN rfl rfl rfl (aG rfl) ?_;refine aN rfl rfl rfl (o_and rfl rfl ((W[j] % 2 : Nat) : Int) (and_one (by omega))) ?_;refine aN rfl rfl rfl (a8 sl161 rfl rfl (W[j] / 2 * 4) ⟨by omega, by omega, by first | omega | (simp; done) | (simp; omega)⟩) ?_;refine aN rfl rfl rfl (aP fa181_1 rfl) ?_;refine aN rfl rfl rfl (o_idxA ar179 rfl rfl (W[j] / 2 * 4 + 2 + W[j] % 2) ⟨by omega, by omega, by first | omega | (simp; done) | (simp; omega)⟩) ?_;refine aN rfl rfl rfl (aM Tryz.isAgg46 rfl (rdA (v := .int .u32 (dX e f2 W[j])) (dP (by rw [ecells_left hfl hk2, hkw])))) ?_;refine aN rfl rfl rfl (aG rfl) ?_;refine aN rfl rfl rfl (gW rfl rfl _ (wrap_u32 (by omega))) ?_;refine aN rfl rfl rfl (a8 sl161 rfl rfl (W[j] / 2 * 4) ⟨by omega, by omega, by first | omega | (simp; done) | (simp; omega)⟩) ?_;refine aN rfl rfl rfl (aP fa181_1 rfl) ?_;refine aN rfl rfl rfl (o_idxA ar179 rfl rfl (W[j] / 2 * 4 + 2 + W[j] % 2) ⟨by omega, by omega, by first | omega | (simp; done) | (simp; omega)⟩) ?_;refine d7 (kB ?_);refine bH rfl rfl (bY Tryz.sizeOf46 rfl rfl rfl rfl (by rw [List.length_append, hcl]; omega) _ rfl ?_);refine aJ ?_;refine aL (kh23 _ _ ?_);clear kh23;refine gQ 18 rfl (by decide +kernel) ?_;refine aN rfl rfl rfl (aG rfl) ?_;refine aN rfl rfl rfl (dS rfl) ?_;refine aN rfl rfl rfl (aP lP rfl) ?_;refine aN rfl rfl rfl (aM Tryz.isAgg161 rfl (rdA rfl)) ?_;refine aN rfl rfl rfl (aG rfl) ?_;refine aN rfl rfl rfl (o_shr rfl rfl (by decide) ((W[j] / 2 : Nat) : Int) (shr_one (by omega))) ?_;refine aN rfl rfl rfl (aG rfl) ?_;refine aN rfl rfl rfl (o_and rfl rfl ((W[j] % 2 : Nat) : Int) (and_one (by omega))) ?_;refine aN rfl rfl rfl (gW rfl rfl _ (aT (by omega))) ?_;refine aN rfl rfl rfl (a8 sl161 rfl rfl (W[j] / 2 * 4) ⟨by omega, by omega, by first | omega | (simp; done) | (simp; omega)⟩) ?_;refine aN rfl rfl rfl (aP fa181_1 rfl) ?_;refine aN rfl rfl rfl (o_idxA ar179 rfl rfl (W[j] / 2 * 4 + 2 + (1 - W[j] % 2)) ⟨by omega, by omega, by first | omega | (simp; done) | (simp; omega)⟩) ?_;refine aN rfl rfl rfl (aM Tryz.isAgg46 rfl (rdA (ecells_other hfl hk2))) ?_;refine aN rfl rfl rfl (aG rfl) ?_;refine aN rfl rfl rfl (bF rfl rfl _ (wrap_u32 (by omega))) ?_;refine aN rfl rfl rfl (a8 sl161 rfl rfl (W[j] / 2 * 4) ⟨by omega, by omega, by first | omega | (simp; done) | (simp; omega)⟩) ?_;refine aN rfl rfl rfl (aP fa181_1 rfl) ?_
         refine aN rfl rfl rfl (o_idxA ar179 rfl rfl (W[j] / 2 * 4 + 2 + (1 - W[j] % 2)) ⟨by omega, by omega, by first | omega | (simp; done) | (simp; omega)⟩) ?_;refine d7 (kB ?_);refine bH rfl rfl (bY Tryz.sizeOf46 rfl rfl rfl rfl (by rw [List.length_set, List.length_append, hcl]; omega) (eZ e (iI (eH f2 (W.take j) mm) W[j] mm) ++ spE) (by rw [← hkw]; exact ecells_push hfl hk2) ?_);refine aJ ?_;refine cU ?_;refine aL (kh21 _ _ ?_);clear kh21;refine aC ?_;refine aA rfl rfl rfl (bF rfl rfl _ (aT (by omega))) ?_;refine aA rfl rfl rfl (aG rfl) ?_;refine aJ ?_;refine aL (bA (j + 1, [(be, blk (eZ e (iI (eH f2 (W.take j) mm) W[j] mm) ++ spE) 181)]) (by first | omega | (dsimp only; omega) | (simp; omega)) ⟨by omega, by rw [List.take_succ_eq_append_getElem hj, pushAll_snoc]; exact hupd _ (by rw [jV (by rw [k3]; exact hfl), jV hfl])⟩ ?_ ?_ ?_)
         · exact (by repeat constructor)
         · exact (by repeat constructor)
         · repeat first|exact aH|refine aD ?_|refine aB rfl ?_|refine aI ?_
        ·
         refine cG ?_;refine cH ?_;clear kh20;refine cH ?_;refine eB ?_;refine aL (kh17 _ _ ?_);clear kh17;have hjW : W.take j = W := List.take_of_length_le (by omega)
         have hE4 : Own 181 4 (.slice A e.length cap) e.length (eZ e (eH f2 W mm)) me3 := by rw [hjW] at hE3; exact hE3
         refine aC ?_;refine aA rfl rfl rfl (aG rfl) ?_;refine aA rfl rfl rfl (aG rfl) ?_;refine aA rfl rfl rfl (gS Tryz.runUnderlying46 Tryz.runUnderlying128 rfl _ (jK (by omega))) ?_;refine aA rfl rfl rfl (bF rfl rfl _ (jK (by omega))) ?_;refine aA rfl rfl rfl (aF rfl) ?_;refine aJ ?_;refine cU ?_;refine aL (kh9 _ _ ?_);clear kh9;refine aC ?_;refine aA rfl rfl rfl (aG rfl) ?_;refine aA rfl rfl rfl (aG rfl) ?_;refine aA rfl rfl rfl (aG rfl) ?_;refine aU rfl rfl rfl (fK [(i7 bx bat bl bn n (.slice A e.length cap) vs ms.flatten me3 L1 nx2).flatten] _ Tryz.call118 rfl (Sub.flatR (out := i7 bx bat bl bn n (.slice A e.length cap) vs ms.flatten me3 L1 nx2) (aD (aD (aD (aD (aD (aD Sub.refl))))))) (fun w_ hp_ => way_spec n e (eH f2 W mm) L1 nx2 bx _ s t w_ hn hF3.fits hLy.len hLy.s0 hLy.ge hx2 (DRep_mk hR hE4) hs ht hst hp_.owns) ?_);rintro v28 _ ⟨W3, nx3, m3, mw3, rfl, hD3, hx3, hW3, hWl3, hWg3, _⟩;dsimp only [List.cons_append, List.nil_append];refine aA rfl rfl rfl (aF rfl) ?_;refine aJ ?_;refine aL (bA (V2 + mm, eH f2 W mm, nx3, m3, W3, v28, mw3) (by show (h7 e - (V2 + mm)).toNat < (h7 e - V2).toNat; omega) ⟨hF3, hD3, hx3, hW3, hWl3, hWg3, by omega, fun _ => by omega⟩ ?_ ?_ ?_)
         · exact (by repeat constructor)
         · exact (by repeat constructor)
         · repeat first|exact aH|refine aD ?_|refine aB rfl ?_|refine aI ?_
    ·
     refine cG ?_;refine cH ?_;clear kh7;refine cH ?_;refine eB ?_;refine cU ?_;refine aL (bA (V2, f2, L1, nx2, m2) (by have := hne (by cases W with | nil => rfl | cons a b => simp at c24 <;> omega); have := hF2.val_le hs hst; show (h7 e - V2).toNat < (h7 e - V).toNat; omega) ⟨hF2, by omega, hD2, hLy.len, hx2.len⟩ ?_ ?_ ?_)
     · exact (by repeat constructor)
     · exact (by repeat constructor)
     · repeat first|exact aH|refine aD ?_|refine aB rfl ?_|refine aI ?_
  · refine cG ?_;refine cH ?_;clear kh4;refine cH ?_;refine eB ?_;refine aL (kh3 _ _ ?_);clear kh3;refine aK fun K24 kh24 => ?_;refine aC ?_;refine aA rfl rfl rfl (aG rfl) ?_;refine aA rfl rfl rfl (aF rfl) ?_;refine aJ ?_;refine aL (kh24 _ _ ?_);clear kh24;refine a7 ?_;exact bJ [m1'] Tryz.results101 rfl (by repeat (first | exact aH | refine aD ?_ | refine aB rfl ?_)) ⟨V, f, L1, _, m1', rfl, rfl, hD1, hF, hLy, by omega, hV, by omega⟩
end Go.Proofs.YtjjogcnjcnpehaaGreat

/- Plain laws of graphs: no program in sight. -/
namespace Go.Proofs.YtjjogcnjcnpehaaGreat
open Go Fly
set_option linter.unusedVariables false
def dZ (N : Int) (x : Arc) : Bool := decide (x.src < 0 ∨ N ≤ x.src ∨ x.dst < 0 ∨ N ≤ x.dst)
def bG (N : Int) (l : List Arc) : Int × Int :=
  if N < 1 ∨ 1024 < N then (0, 1) else if 8192 < l.length then (0, 2) else
  match l.findIdx? (dZ N) with
  | some i => (i, 30)
  | none => (0, 0)
theorem jD {N : Int} {l : List Arc} (h : N < 1 ∨ 1024 < N) : bG N l = (0, 1) := by simp [bG, h]
theorem gcheck_long {N : Int} {l : List Arc} (h : 1 ≤ N ∧ N ≤ 1024) (hl : 8192 < l.length) : bG N l = (0, 2) := by
  have : ¬ (N < 1 ∨ 1024 < N) := by omega
  simp [bG, this, hl]
theorem gcheck_ok {N : Int} {l : List Arc} (h : 1 ≤ N ∧ N ≤ 1024) (hl : l.length ≤ 8192) (hall : ∀ j (h : j < l.length), dZ N l[j] = false) : bG N l = (0, 0) := by
  have h1 : ¬ (N < 1 ∨ 1024 < N) := by omega
  have h2 : ¬ 8192 < l.length := by omega
  have h3 : l.findIdx? (dZ N) = none := by
    rw [List.findIdx?_eq_none_iff];intro x hx;obtain ⟨j, hj, rfl⟩ := List.mem_iff_getElem.1 hx
    exact hall j hj
  simp [bG, h1, h2, h3]
theorem iU {N : Int} {l : List Arc} {k : Nat} (h : 1 ≤ N ∧ N ≤ 1024) (hl : l.length ≤ 8192) (hk : k < l.length) (hall : ∀ j (h : j < l.length), j < k → dZ N l[j] = false) (hb : dZ N l[k] = true) :
    bG N l = ((k : Int), 30) := by
  have h1 : ¬ (N < 1 ∨ 1024 < N) := by omega
  have h2 : ¬ 8192 < l.length := by omega
  have h3 : l.findIdx? (dZ N) = some k := by
    rw [List.findIdx?_eq_some_iff_getElem];exact ⟨hk, hb, fun j hj => by simp [hall j (by omega) hj]⟩
  simp [bG, h1, h2, h3]
theorem j1 {x : Int} (h : I64 x) : IntKind.u64.wrap x = if x < 0 then x + 18446744073709551616 else x := by
  unfold I64 at h; unfold IntKind.wrap IntKind.bits IntKind.signed; simp only; split <;> rename_i hc <;> simp at hc <;> split <;> omega
theorem badU {N x : Int} (hN : 1 ≤ N ∧ N ≤ 1024) (h : I64 x) : IntKind.u64.wrap N ≤ IntKind.u64.wrap x ↔ (x < 0 ∨ N ≤ x) := by
  have hN' : I64 N := ⟨by omega, by omega⟩
  rw [j1 h, j1 hN']; unfold I64 at h; split <;> split <;> omega
theorem arcBadL {N : Int} {x : Arc} (hN : 1 ≤ N ∧ N ≤ 1024) (h : dV x) (hb : IntKind.u64.wrap N ≤ IntKind.u64.wrap x.src) : dZ N x = true := by
  have := (badU hN h.src).1 hb
  unfold dZ; simp; omega
theorem arcBadR {N : Int} {x : Arc} (hN : 1 ≤ N ∧ N ≤ 1024) (h : dV x) (hb : IntKind.u64.wrap N ≤ IntKind.u64.wrap x.dst) : dZ N x = true := by
  have := (badU hN h.dst).1 hb
  unfold dZ; simp; omega
theorem arcGood {N : Int} {x : Arc} (hN : 1 ≤ N ∧ N ≤ 1024) (h : dV x) (h1 : ¬ IntKind.u64.wrap N ≤ IntKind.u64.wrap x.src) (h2 : ¬ IntKind.u64.wrap N ≤ IntKind.u64.wrap x.dst) : dZ N x = false := by
  have a := mt (badU hN h.src).2 h1
  have b := mt (badU hN h.dst).2 h2
  unfold dZ; simp; omega
theorem good_next {N : Int} {l : List Arc} {k : Nat} {hk : k < l.length} (hall : ∀ j (h : j < l.length), j < k → dZ N l[j] = false) (hb : dZ N l[k] = false) :
    ∀ j (h : j < l.length), j < k + 1 → dZ N l[j] = false := fun j h hj => by
  by_cases e : j = k
  · subst e; exact hb
  · exact hall j h (by omega)
def gP (N : Int) (l : List Arc) (v : Int) : Int := if (bG N l).2 ≠ 0 then (bG N l).2 else if v < 0 ∨ N ≤ v then 5 else 0
theorem glooked_bad {N : Int} {l : List Arc} {v : Int} (h : (bG N l).2 ≠ 0) : gP N l v = (bG N l).2 := if_pos h
theorem glooked_none {N : Int} {l : List Arc} {v : Int} (h : (bG N l).2 = 0) (hv : v < 0 ∨ N ≤ v) : gP N l v = 5 := by simp [gP, h, hv]
theorem glooked_ok {N : Int} {l : List Arc} {v : Int} (h : (bG N l).2 = 0) (h0 : 0 ≤ v) (h1 : v < N) : gP N l v = 0 := by
  have : ¬ (v < 0 ∨ N ≤ v) := by omega
  simp [gP, h, this]
/-- The places at which something is so. -/
def jU {α : Type} (p : α → Bool) (l : List α) : List Int := (l.zipIdx.filter (fun x => p x.1)).map (fun x => (x.2 : Int))
theorem idxs_succ {α : Type} {p : α → Bool} {l : List α} {k : Nat} (hk : k < l.length) : jU p (l.take (k + 1)) = jU p (l.take k) ++ (if p l[k] then [(k : Int)] else []) := by
  unfold jU
  rw [List.take_succ_eq_append_getElem hk, List.zipIdx_append, List.filter_append, List.map_append]
  congr 1
  have : (l.take k).length = k := by simp; omega
  simp only [this, Nat.zero_add, List.zipIdx_cons, List.zipIdx_nil, List.filter_cons, List.filter_nil]
  split <;> simp
theorem idxs_yes {α : Type} {p : α → Bool} {l : List α} {k : Nat} (hk : k < l.length) (h : p l[k] = true) : jU p (l.take (k + 1)) = jU p (l.take k) ++ [(k : Int)] := by rw [idxs_succ hk, if_pos h]
theorem lM {α : Type} {p : α → Bool} {l : List α} {k : Nat} (hk : k < l.length) (h : p l[k] = false) : jU p (l.take (k + 1)) = jU p (l.take k) := by rw [idxs_succ hk, h]; simp
/-- The first place at which something is so, or -1. -/
def fidx {α : Type} (p : α → Bool) (l : List α) : Int := match l.findIdx? p with
  | some i => i
  | none => -1
theorem fidx_at {α : Type} {p : α → Bool} {l : List α} {k : Nat} (hk : k < l.length) (h : p l[k] = true) (hpre : ∀ j (h : j < l.length), j < k → p l[j] = false) : fidx p l = (k : Int) := by
  have : l.findIdx? p = some k := by rw [List.findIdx?_eq_some_iff_getElem]; exact ⟨hk, h, fun j hj => by simp [hpre j (by omega) hj]⟩
  unfold fidx; rw [this]
theorem fidx_none {α : Type} {p : α → Bool} {l : List α} (h : ∀ j (h : j < l.length), p l[j] = false) : fidx p l = -1 := by
  have : l.findIdx? p = none := by
    rw [List.findIdx?_eq_none_iff]; intro x hx;obtain ⟨j, hj, rfl⟩ := List.mem_iff_getElem.1 hx
    exact h j hj
  unfold fidx; rw [this]
theorem false_next {α : Type} {p : α → Bool} {l : List α} {k : Nat} {hk : k < l.length} (h : ∀ j (a : j < l.length), j < k → p l[j] = false) (e : p l[k] = false) : ∀ j (a : j < l.length), j < k + 1 → p l[j] = false := fun j a hj => by
  by_cases hjk : j = k
  · subst hjk; exact e
  · exact h j a (by omega)
end Go.Proofs.YtjjogcnjcnpehaaGreat
