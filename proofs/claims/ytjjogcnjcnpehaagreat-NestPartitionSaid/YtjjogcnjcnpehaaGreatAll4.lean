import Derived.Test.YtjjogcnjcnpehaaGreatAll3
import Derived.Test.YtjjogcnjcnpehaaGreatFlyOps2
import Derived.RangeFuncRecord
import Derived.TacticsIn

/- grow.sides: the neighbours of each vertex, rising. -/
namespace Go.Proofs.YtjjogcnjcnpehaaGreat
open Go Go.RowKit Fly
set_option linter.unusedVariables false
set_option linter.unusedSimpArgs false
def fP (n : Nat) (l : List Arc) : List (List Int) := (List.range n).map fun v => l.flatMap (nbr (Int.ofNat v))
def nrows (n : Nat) (l : List Arc) : List (List Int) := (List.range n).map fun v => bY (Int.ofNat v) l
/-- Rows of which the first j are in order. -/
def gV (n : Nat) (l : List Arc) (j : Nat) : List (List Int) := (List.range n).map fun v => if v < j then bY (Int.ofNat v) l else l.flatMap (nbr (Int.ofNat v))
theorem fL (n : Nat) (l : List Arc) : (fP n l).length = n := by simp [fP]
theorem nrows_len (n : Nat) (l : List Arc) : (nrows n l).length = n := by simp [nrows]
theorem mixRows_len (n : Nat) (l : List Arc) (j : Nat) : (gV n l j).length = n := by simp [gV]
theorem f4 {n : Nat} {l : List Arc} {i : Nat} (h : i < (fP n l).length) : (fP n l)[i] = l.flatMap (nbr (i : Int)) := by simp [fP]
theorem nrows_get {n : Nat} {l : List Arc} {i : Nat} (h : i < (nrows n l).length) : (nrows n l)[i] = bY (i : Int) l := by simp [nrows]
theorem kH {n : Nat} {l : List Arc} {i j : Nat} (h : i < (gV n l j).length) : (gV n l j)[i] = if i < j then bY (i : Int) l else l.flatMap (nbr (i : Int)) := by simp [gV]
theorem rawRows_nil (n : Nat) : fP n [] = List.replicate n [] := by
  refine List.ext_getElem (by simp [fP]) fun i h1 h2 => ?_;rw [f4]; simp
theorem rawRows_same {n : Nat} {l : List Arc} {k : Nat} (hk : k < l.length) (h : l[k].src = l[k].dst) : fP n (l.take (k + 1)) = fP n (l.take k) := by
  refine List.ext_getElem (by simp [fP]) fun i h1 h2 => ?_;rw [f4, f4, k7 hk];simp [nbr, h]
theorem kF {n : Nat} {l : List Arc} {k s d : Nat} (hk : k < l.length) (hs : l[k].src = (s : Int)) (hd : l[k].dst = (d : Int)) (hne : s ≠ d) :
    ((fP n (l.take k)).set s ((l.take k).flatMap (nbr (s : Int)) ++ [l[k].dst])).set d ((l.take k).flatMap (nbr (d : Int)) ++ [l[k].src]) = fP n (l.take (k + 1)) := by
  refine List.ext_getElem (by simp [fP]) fun i h1 h2 => ?_;have e1 : ¬ l[k].src = l[k].dst := by omega
  rw [f4, k7 hk]
  by_cases h : i = d
  · subst h
    rw [List.getElem_set_self]
    unfold nbr
    rw [if_neg e1, if_neg (by omega), if_pos (by omega)]
  · rw [List.getElem_set_ne (by omega)]
    by_cases h' : i = s
    · subst h'
      rw [List.getElem_set_self]
      unfold nbr
      rw [if_neg e1, if_pos (by omega)]
    · rw [List.getElem_set_ne (by omega), f4]
      unfold nbr
      rw [if_neg e1, if_neg (by omega), if_neg (by omega)]; simp
theorem mixRows_zero (n : Nat) (l : List Arc) : gV n l 0 = fP n l := by simp [gV, fP]
theorem mixRows_all (n : Nat) (l : List Arc) : gV n l n = nrows n l := by
  refine List.ext_getElem (by simp [gV, nrows]) fun i h1 h2 => ?_;rw [kH, nrows_get, if_pos (by simpa [nrows] using h2)]
theorem mixRows_next {n : Nat} {l : List Arc} {j : Nat} : (gV n l j).set j (cpt (gL (l.flatMap (nbr (j : Int))))) = gV n l (j + 1) := by
  refine List.ext_getElem (by simp [gV]) fun i h1 h2 => ?_;rw [kH]
  by_cases h : i = j
  · subst h; rw [List.getElem_set_self, if_pos (by omega)]; rfl
  · rw [List.getElem_set_ne (by omega), kH]
    by_cases h' : i < j
    · rw [if_pos h', if_pos (by omega)]
    · rw [if_neg h', if_neg (by omega)]
theorem eS {E : TypeId} {v : Value} {l : List Int} {x : Int} {m : Seg} : Own E 1 v (l.length + 1) (a6 l ++ [.int .i64 x]) m = Own E 1 v (l ++ [x]).length (a6 (l ++ [x])) m := by rw [dZ, List.length_append]; rfl
theorem rep_flat' (n : Nat) (v : Value) : List.replicate n v = (List.replicate n [v]).flatten := by
  induction n with
  | zero => rfl
  | succ n ih => rw [List.replicate_succ, List.replicate_succ, List.flatten_cons, ← ih]; rfl
set_option maxRecDepth 100000 in
set_option maxHeartbeats 4000000 in
theorem lM (n : Nat) (A : Option Addr) (l : List Arc) (cap : Nat) (w : World) (hr : Ro (Fr w []) w A (l.flatMap cE)) (hn : n ≤ 1024) (hlen : l.length ≤ 8192) (hgd : ∀ k (hk : k < l.length), 0 ≤ l[k].src ∧ l[k].src < (n : Int) ∧ 0 ≤ l[k].dst ∧ l[k].dst < (n : Int)) :
    Meets Tryz.prog 87 [.agg #[.int .i64 (n : Int), .slice A l.length cap]] w [] (fun u own' => ∃ bo vs ms, u = .slice (some ⟨bo, 0, none⟩) n n ∧ own' = [[(bo, blk vs 25)], ms.flatten] ∧ RowsI 3 (nrows n l) vs ms) := by
 refine bJ Tryz.func87 rfl Tryz.ntmps87 rfl Owns.nil ?_;refine aK fun K1 kh1 => ?_;refine aB ?_;refine aR rfl rfl rfl (cZ rfl rfl fun b1 => ?_);refine aA rfl rfl rfl (aF rfl) ?_;refine aJ ?_;refine aL (kh1 _ _ ?_);clear kh1;refine aK fun K2 kh2 => ?_;refine aB ?_;refine aA rfl rfl rfl (aQ eE rfl) ?_;refine aA rfl rfl rfl (aM Tryz.isAgg3 rfl (rdA rfl)) ?_;refine aR rfl rfl rfl (d3 el30 rfl rfl n rfl (by omega) (by omega) (List.replicate n (.slice none 0 0)) (rep_flat' n _).symm fun b9 => ?_);refine aA rfl rfl rfl (aF rfl) ?_;refine aJ ?_;refine aL (kh2 _ _ ?_);clear kh2;refine aK fun K3 kh3 => ?_;refine aK fun K4 kh4 => ?_;refine aB ?_;refine aA rfl rfl rfl (aQ hG rfl) ?_;refine aA rfl rfl rfl (aM Tryz.isAgg22 rfl (rdA rfl)) ?_;refine aA rfl rfl rfl (bS lJ rfl) ?_;refine aA rfl rfl rfl (aG rfl) ?_;refine aJ ?_;refine aL (kh4 _ _ ?_);clear kh4;refine aY ?_;refine cS (α := Nat × List Value × List Seg) [3, 11, 12] (fun ⟨k, vs, ms⟩ => [(13, .int .i64 (k : Int))]) (fun ⟨k, vs, ms⟩ => [[(b9, blk vs 25)], ms.flatten, [(b1, blk [.int .i64 (n : Int), .slice A l.length cap] 24)]]) (fun ⟨k, vs, ms⟩ => k ≤ l.length ∧ RowsI 3 (fP n (l.take k)) vs ms) (fun ⟨k, vs, ms⟩ => l.length - k) (0, List.replicate n (.slice none 0 0), List.replicate n []) ?_ ?_ ?_ ?_
 · exact (by repeat constructor)
 · dsimp only
   rw [show (List.replicate n ([] : Seg)).flatten = [] from by simp]
   repeat first|exact aI|refine aD ?_|refine aC rfl ?_|refine aH ?_
 · exact ⟨by omega, by rw [List.take_zero, rawRows_nil]; exact RowsI.start _ n⟩
 ·
  rintro ⟨k, vs, ms⟩ ⟨hkl, hR⟩;refine aK fun K5 kh5 => ?_;refine aB ?_;refine aA rfl rfl rfl (cD rfl rfl) ?_;refine aJ ?_;refine aL (kh5 _ _ ?_);clear kh5;refine aK fun K6 kh6 => ?_;refine aZ rfl (fun c14 => ?_) (fun c14 => ?_)
  ·
   refine aW ?_;refine aL (kh6 _ _ ?_);clear kh6;refine aK fun K7 kh7 => ?_;refine aY ?_;refine aK fun K8 kh8 => ?_;refine aB ?_;have hk : k < l.length := by omega
   obtain ⟨bl, off, rfl, hS, hc⟩ := hr (f9 cE dO (by omega) hk)
   have hgk := hgd k hk
   refine aA rfl rfl rfl (bA lJ rfl rfl (off + k * 3) ⟨by omega, by omega, by first | omega | (simp; done) | (simp; omega)⟩) ?_;refine aA rfl rfl rfl (a8 (vs := cE l[k]) Tryz.isAgg48 Tryz.sizeOf48 rfl rfl (gN dO hS hc hk)) ?_;refine aR rfl rfl rfl (cU Tryz.zeroValue48 rfl fun b5 => ?_);refine bF rfl rfl (cA Tryz.sizeOf48 rfl rfl rfl rfl (by first | exact Nat.le_of_ble_eq_true rfl | (simp; done) | (simp; omega)) (cE l[k]) rfl ?_);refine aJ ?_;refine aL (kh8 _ _ ?_);clear kh8;refine aK fun K9 kh9 => ?_;refine aB ?_;refine aA rfl rfl rfl (aQ gA rfl) ?_;refine aA rfl rfl rfl (aM Tryz.isAgg3 rfl (rdA rfl)) ?_;refine aA rfl rfl rfl (aQ fX rfl) ?_;refine aA rfl rfl rfl (aM Tryz.isAgg3 rfl (rdA rfl)) ?_;refine aA rfl rfl rfl (c6 rfl rfl) ?_;refine aJ ?_;refine aL (kh9 _ _ ?_);clear kh9;refine aZ rfl (fun c21 => ?_) (fun c21 => ?_)
   ·
    refine aK fun K10 kh10 => ?_;obtain ⟨s, hs, hsn⟩ : ∃ s : Nat, l[k].src = (s : Int) ∧ s < n := ⟨l[k].src.toNat, by omega, by omega⟩
    obtain ⟨d, hd, hdn⟩ : ∃ d : Nat, l[k].dst = (d : Int) ∧ d < n := ⟨l[k].dst.toNat, by omega, by omega⟩
    have hsd : s ≠ d := by omega
    obtain ⟨rv, rm, rG, hrv, hro, hrp, hput⟩ := hR.split (i := s) (by rw [fL]; exact hsn)
    rw [f4] at hro;have hrlen := lS (s : Int) (l.take k)
    rw [List.length_take] at hrlen;obtain ⟨rl, hrl⟩ : ∃ rl, rl = (l.take k).flatMap (nbr (s : Int)) := ⟨_, rfl⟩
    rw [← hrl] at hro hrlen;obtain ⟨Ar, cr, rfl, hcr⟩ := hro.val
    refine gB (Sub.splitF hrp) ?_;refine dH [[(b5, blk (cE l[k]) 48)]] rfl ?_;refine aU 0 rfl (by decide +kernel) rfl rfl rfl (by repeat first|exact aI|refine aD ?_|refine aC rfl ?_|refine aH ?_) (aG rfl) ?_;refine aU 1 rfl (by decide +kernel) rfl rfl rfl (by repeat first|exact aI|refine aD ?_|refine aC rfl ?_|refine aH ?_) (aQ gA rfl) ?_;refine aU 2 rfl (by decide +kernel) rfl rfl rfl (by repeat first|exact aI|refine aD ?_|refine aC rfl ?_|refine aH ?_) (aM Tryz.isAgg3 rfl (rdA rfl)) ?_;refine aU 3 rfl (by decide +kernel) rfl rfl rfl (by repeat first|exact aI|refine aD ?_|refine aC rfl ?_|refine aH ?_) (aG rfl) ?_;refine aU 4 rfl (by decide +kernel) rfl rfl rfl (by repeat first|exact aI|refine aD ?_|refine aC rfl ?_|refine aH ?_) (aQ gA rfl) ?_;refine aU 5 rfl (by decide +kernel) rfl rfl rfl (by repeat first|exact aI|refine aD ?_|refine aC rfl ?_|refine aH ?_) (aM Tryz.isAgg3 rfl (rdA rfl)) ?_;refine aU 6 rfl (by decide +kernel) rfl rfl rfl (by repeat first|exact aI|refine aD ?_|refine aC rfl ?_|refine aH ?_) (bA gD rfl rfl (s) ⟨by omega, by omega, by first | omega | (simp; done) | (simp; omega)⟩) ?_;refine aU 8 rfl (by decide +kernel) rfl rfl rfl (by repeat first|exact aI|refine aD ?_|refine aC rfl ?_|refine aH ?_) (aQ fX rfl) ?_;refine aU 9 rfl (by decide +kernel) rfl rfl rfl (by repeat first|exact aI|refine aD ?_|refine aC rfl ?_|refine aH ?_) (aM Tryz.isAgg3 rfl (rdA rfl)) ?_;refine jE 7 10 rfl rfl (by decide +kernel) rfl rfl rfl rfl rfl rfl ?_ ?_
    ·
     refine (aM Tryz.isAgg25 rfl (rdA hrv)).does ⟨(by repeat first|exact aI|refine aD ?_|refine aC rfl ?_|refine aH ?_), ?_⟩;refine bQ 10 rfl (by decide +kernel) rfl rfl rfl (dA dV (by omega) rfl rfl rfl fun b32 => ⟨(by repeat first|exact aI|refine aD ?_|refine aC rfl ?_|refine aH ?_), ?_⟩);refine bQ 11 rfl (by decide +kernel) rfl rfl rfl (dG dV rfl rfl hro (ys := [.int .i64 l[k].dst]) ⟨(rdA rfl), trivial⟩ rfl rfl (by omega) (by omega) fun v33 m33 o33 => ⟨(by repeat first|exact aI|refine aD ?_|refine aC rfl ?_|refine aH ?_), ?_⟩);obtain ⟨A33, cap33, rfl, _⟩ := o33.val
     refine aU 12 rfl (by decide +kernel) rfl rfl rfl (by repeat first|exact aI|refine aD ?_|refine aC rfl ?_|refine aH ?_) (bA gD rfl rfl (s) ⟨by omega, by omega, by first | omega | (simp; done) | (simp; omega)⟩) ?_;refine eM 13 rfl (by decide +kernel) rfl rfl (cB Tryz.sizeOf25 rfl rfl rfl rfl (by have := hR.lv; rw [fL] at this; omega) (vs.set s (.slice A33 (rl.length + 1) cap33)) rfl ⟨(by repeat first|exact aI|refine aD ?_|refine aC rfl ?_|refine aH ?_), ?_⟩);refine dF (by decide +kernel) ?_;refine aL (kh10 _ _ ?_);clear kh10;refine gB (Sub.joinF (m := m33) (G' := rG) (hput _ _ _ (by rw [← eS]; exact o33)).2) ?_;obtain ⟨rv2, rm2, rG2, hrv2, hro2, hrp2, hput2⟩ := (hput _ _ _ (by rw [← eS]; exact o33)).1.split (i := d) (by rw [List.length_set, fL]; exact hdn)
     rw [List.getElem_set_ne hsd, f4] at hro2;have hrlen2 := lS (d : Int) (l.take k)
     rw [List.length_take] at hrlen2;obtain ⟨rl2, hrl2⟩ : ∃ rl2, rl2 = (l.take k).flatMap (nbr (d : Int)) := ⟨_, rfl⟩
     rw [← hrl2] at hro2 hrlen2;obtain ⟨Ar2, cr2, rfl, hcr2⟩ := hro2.val
     refine gB (Sub.splitF hrp2) ?_;refine dH [[(b5, blk (cE l[k]) 48)]] rfl ?_;refine aU 0 rfl (by decide +kernel) rfl rfl rfl (by repeat first|exact aI|refine aD ?_|refine aC rfl ?_|refine aH ?_) (aG rfl) ?_;refine aU 1 rfl (by decide +kernel) rfl rfl rfl (by repeat first|exact aI|refine aD ?_|refine aC rfl ?_|refine aH ?_) (aQ fX rfl) ?_;refine aU 2 rfl (by decide +kernel) rfl rfl rfl (by repeat first|exact aI|refine aD ?_|refine aC rfl ?_|refine aH ?_) (aM Tryz.isAgg3 rfl (rdA rfl)) ?_;refine aU 3 rfl (by decide +kernel) rfl rfl rfl (by repeat first|exact aI|refine aD ?_|refine aC rfl ?_|refine aH ?_) (aG rfl) ?_;refine aU 4 rfl (by decide +kernel) rfl rfl rfl (by repeat first|exact aI|refine aD ?_|refine aC rfl ?_|refine aH ?_) (aQ fX rfl) ?_;refine aU 5 rfl (by decide +kernel) rfl rfl rfl (by repeat first|exact aI|refine aD ?_|refine aC rfl ?_|refine aH ?_) (aM Tryz.isAgg3 rfl (rdA rfl)) ?_;refine aU 6 rfl (by decide +kernel) rfl rfl rfl (by repeat first|exact aI|refine aD ?_|refine aC rfl ?_|refine aH ?_) (bA gD rfl rfl (d) ⟨by omega, by omega, by first | omega | (simp; done) | (simp; omega)⟩) ?_;refine aU 8 rfl (by decide +kernel) rfl rfl rfl (by repeat first|exact aI|refine aD ?_|refine aC rfl ?_|refine aH ?_) (aQ gA rfl) ?_;refine aU 9 rfl (by decide +kernel) rfl rfl rfl (by repeat first|exact aI|refine aD ?_|refine aC rfl ?_|refine aH ?_) (aM Tryz.isAgg3 rfl (rdA rfl)) ?_;refine jE 7 10 rfl rfl (by decide +kernel) rfl rfl rfl rfl rfl rfl ?_ ?_
     ·
      refine (aM Tryz.isAgg25 rfl (rdA hrv2)).does ⟨(by repeat first|exact aI|refine aD ?_|refine aC rfl ?_|refine aH ?_), ?_⟩;refine bQ 10 rfl (by decide +kernel) rfl rfl rfl (dA dV (by omega) rfl rfl rfl fun b45 => ⟨(by repeat first|exact aI|refine aD ?_|refine aC rfl ?_|refine aH ?_), ?_⟩);refine bQ 11 rfl (by decide +kernel) rfl rfl rfl (dG dV rfl rfl hro2 (ys := [.int .i64 l[k].src]) ⟨(rdA rfl), trivial⟩ rfl rfl (by omega) (by omega) fun v46 m46 o46 => ⟨(by repeat first|exact aI|refine aD ?_|refine aC rfl ?_|refine aH ?_), ?_⟩);obtain ⟨A46, cap46, rfl, _⟩ := o46.val
      refine aU 12 rfl (by decide +kernel) rfl rfl rfl (by repeat first|exact aI|refine aD ?_|refine aC rfl ?_|refine aH ?_) (bA gD rfl rfl (d) ⟨by omega, by omega, by first | omega | (simp; done) | (simp; omega)⟩) ?_;refine eM 13 rfl (by decide +kernel) rfl rfl (cB Tryz.sizeOf25 rfl rfl rfl rfl (by have := hR.lv; rw [fL] at this; rw [List.length_set]; omega) ((vs.set s (.slice A33 (rl.length + 1) cap33)).set d (.slice A46 (rl2.length + 1) cap46)) rfl ⟨(by repeat first|exact aI|refine aD ?_|refine aC rfl ?_|refine aH ?_), ?_⟩);refine dF (by decide +kernel) ?_;refine cV ?_;refine aL (kh7 _ _ ?_);clear kh7;refine aB ?_;refine aA rfl rfl rfl (bG rfl rfl _ (aT (by omega))) ?_;refine aA rfl rfl rfl (aG rfl) ?_;refine aJ ?_;refine jI (Sub.joinF (m := m46) (G' := rG2) (hput2 _ _ _ (by rw [← eS]; exact o46)).2) ?_;refine aL (bB (k + 1, (vs.set s (.slice A33 (rl.length + 1) cap33)).set d (.slice A46 (rl2.length + 1) cap46), (ms.set s m33).set d m46) (by first | omega | (dsimp only; omega) | (simp; omega)) ⟨by omega, by have := (hput2 _ _ _ (by rw [← eS]; exact o46)).1; rw [hrl, hrl2, kF hk hs hd hsd] at this; rw [hrl, hrl2]; exact this⟩ ?_ ?_ ?_)
      · exact (by repeat constructor)
      · exact (by repeat constructor)
      · repeat first|exact aI|refine aD ?_|refine aC rfl ?_|refine aH ?_
     ·
      refine (dA dV (by omega) rfl rfl rfl fun b45 => ⟨(by repeat first|exact aI|refine aD ?_|refine aC rfl ?_|refine aH ?_), ?_⟩);refine bQ 7 rfl (by decide +kernel) rfl rfl rfl ((aM Tryz.isAgg25 rfl (rdA hrv2)).does ⟨(by repeat first|exact aI|refine aD ?_|refine aC rfl ?_|refine aH ?_), ?_⟩);refine bQ 11 rfl (by decide +kernel) rfl rfl rfl (dG dV rfl rfl hro2 (ys := [.int .i64 l[k].src]) ⟨(rdA rfl), trivial⟩ rfl rfl (by omega) (by omega) fun v46 m46 o46 => ⟨(by repeat first|exact aI|refine aD ?_|refine aC rfl ?_|refine aH ?_), ?_⟩);obtain ⟨A46, cap46, rfl, _⟩ := o46.val
      refine aU 12 rfl (by decide +kernel) rfl rfl rfl (by repeat first|exact aI|refine aD ?_|refine aC rfl ?_|refine aH ?_) (bA gD rfl rfl (d) ⟨by omega, by omega, by first | omega | (simp; done) | (simp; omega)⟩) ?_;refine eM 13 rfl (by decide +kernel) rfl rfl (cB Tryz.sizeOf25 rfl rfl rfl rfl (by have := hR.lv; rw [fL] at this; rw [List.length_set]; omega) ((vs.set s (.slice A33 (rl.length + 1) cap33)).set d (.slice A46 (rl2.length + 1) cap46)) rfl ⟨(by repeat first|exact aI|refine aD ?_|refine aC rfl ?_|refine aH ?_), ?_⟩);refine dF (by decide +kernel) ?_;refine cV ?_;refine aL (kh7 _ _ ?_);clear kh7;refine aB ?_;refine aA rfl rfl rfl (bG rfl rfl _ (aT (by omega))) ?_;refine aA rfl rfl rfl (aG rfl) ?_;refine aJ ?_;refine jI (Sub.joinF (m := m46) (G' := rG2) (hput2 _ _ _ (by rw [← eS]; exact o46)).2) ?_;refine aL (bB (k + 1, (vs.set s (.slice A33 (rl.length + 1) cap33)).set d (.slice A46 (rl2.length + 1) cap46), (ms.set s m33).set d m46) (by first | omega | (dsimp only; omega) | (simp; omega)) ⟨by omega, by have := (hput2 _ _ _ (by rw [← eS]; exact o46)).1; rw [hrl, hrl2, kF hk hs hd hsd] at this; rw [hrl, hrl2]; exact this⟩ ?_ ?_ ?_)
      · exact (by repeat constructor)
      · exact (by repeat constructor)
      · repeat first|exact aI|refine aD ?_|refine aC rfl ?_|refine aH ?_
    ·
     refine (dA dV (by omega) rfl rfl rfl fun b32 => ⟨(by repeat first|exact aI|refine aD ?_|refine aC rfl ?_|refine aH ?_), ?_⟩);refine bQ 7 rfl (by decide +kernel) rfl rfl rfl ((aM Tryz.isAgg25 rfl (rdA hrv)).does ⟨(by repeat first|exact aI|refine aD ?_|refine aC rfl ?_|refine aH ?_), ?_⟩);refine bQ 11 rfl (by decide +kernel) rfl rfl rfl (dG dV rfl rfl hro (ys := [.int .i64 l[k].dst]) ⟨(rdA rfl), trivial⟩ rfl rfl (by omega) (by omega) fun v33 m33 o33 => ⟨(by repeat first|exact aI|refine aD ?_|refine aC rfl ?_|refine aH ?_), ?_⟩);obtain ⟨A33, cap33, rfl, _⟩ := o33.val
     refine aU 12 rfl (by decide +kernel) rfl rfl rfl (by repeat first|exact aI|refine aD ?_|refine aC rfl ?_|refine aH ?_) (bA gD rfl rfl (s) ⟨by omega, by omega, by first | omega | (simp; done) | (simp; omega)⟩) ?_;refine eM 13 rfl (by decide +kernel) rfl rfl (cB Tryz.sizeOf25 rfl rfl rfl rfl (by have := hR.lv; rw [fL] at this; omega) (vs.set s (.slice A33 (rl.length + 1) cap33)) rfl ⟨(by repeat first|exact aI|refine aD ?_|refine aC rfl ?_|refine aH ?_), ?_⟩);refine dF (by decide +kernel) ?_;refine aL (kh10 _ _ ?_);clear kh10;refine gB (Sub.joinF (m := m33) (G' := rG) (hput _ _ _ (by rw [← eS]; exact o33)).2) ?_;obtain ⟨rv2, rm2, rG2, hrv2, hro2, hrp2, hput2⟩ := (hput _ _ _ (by rw [← eS]; exact o33)).1.split (i := d) (by rw [List.length_set, fL]; exact hdn)
     rw [List.getElem_set_ne hsd, f4] at hro2;have hrlen2 := lS (d : Int) (l.take k)
     rw [List.length_take] at hrlen2;obtain ⟨rl2, hrl2⟩ : ∃ rl2, rl2 = (l.take k).flatMap (nbr (d : Int)) := ⟨_, rfl⟩
     rw [← hrl2] at hro2 hrlen2;obtain ⟨Ar2, cr2, rfl, hcr2⟩ := hro2.val
     refine gB (Sub.splitF hrp2) ?_;refine dH [[(b5, blk (cE l[k]) 48)]] rfl ?_;refine aU 0 rfl (by decide +kernel) rfl rfl rfl (by repeat first|exact aI|refine aD ?_|refine aC rfl ?_|refine aH ?_) (aG rfl) ?_;refine aU 1 rfl (by decide +kernel) rfl rfl rfl (by repeat first|exact aI|refine aD ?_|refine aC rfl ?_|refine aH ?_) (aQ fX rfl) ?_;refine aU 2 rfl (by decide +kernel) rfl rfl rfl (by repeat first|exact aI|refine aD ?_|refine aC rfl ?_|refine aH ?_) (aM Tryz.isAgg3 rfl (rdA rfl)) ?_;refine aU 3 rfl (by decide +kernel) rfl rfl rfl (by repeat first|exact aI|refine aD ?_|refine aC rfl ?_|refine aH ?_) (aG rfl) ?_;refine aU 4 rfl (by decide +kernel) rfl rfl rfl (by repeat first|exact aI|refine aD ?_|refine aC rfl ?_|refine aH ?_) (aQ fX rfl) ?_;refine aU 5 rfl (by decide +kernel) rfl rfl rfl (by repeat first|exact aI|refine aD ?_|refine aC rfl ?_|refine aH ?_) (aM Tryz.isAgg3 rfl (rdA rfl)) ?_;refine aU 6 rfl (by decide +kernel) rfl rfl rfl (by repeat first|exact aI|refine aD ?_|refine aC rfl ?_|refine aH ?_) (bA gD rfl rfl (d) ⟨by omega, by omega, by first | omega | (simp; done) | (simp; omega)⟩) ?_;refine aU 8 rfl (by decide +kernel) rfl rfl rfl (by repeat first|exact aI|refine aD ?_|refine aC rfl ?_|refine aH ?_) (aQ gA rfl) ?_;refine aU 9 rfl (by decide +kernel) rfl rfl rfl (by repeat first|exact aI|refine aD ?_|refine aC rfl ?_|refine aH ?_) (aM Tryz.isAgg3 rfl (rdA rfl)) ?_;refine jE 7 10 rfl rfl (by decide +kernel) rfl rfl rfl rfl rfl rfl ?_ ?_
     ·
      refine (aM Tryz.isAgg25 rfl (rdA hrv2)).does ⟨(by repeat first|exact aI|refine aD ?_|refine aC rfl ?_|refine aH ?_), ?_⟩;refine bQ 10 rfl (by decide +kernel) rfl rfl rfl (dA dV (by omega) rfl rfl rfl fun b45 => ⟨(by repeat first|exact aI|refine aD ?_|refine aC rfl ?_|refine aH ?_), ?_⟩);refine bQ 11 rfl (by decide +kernel) rfl rfl rfl (dG dV rfl rfl hro2 (ys := [.int .i64 l[k].src]) ⟨(rdA rfl), trivial⟩ rfl rfl (by omega) (by omega) fun v46 m46 o46 => ⟨(by repeat first|exact aI|refine aD ?_|refine aC rfl ?_|refine aH ?_), ?_⟩);obtain ⟨A46, cap46, rfl, _⟩ := o46.val
      refine aU 12 rfl (by decide +kernel) rfl rfl rfl (by repeat first|exact aI|refine aD ?_|refine aC rfl ?_|refine aH ?_) (bA gD rfl rfl (d) ⟨by omega, by omega, by first | omega | (simp; done) | (simp; omega)⟩) ?_;refine eM 13 rfl (by decide +kernel) rfl rfl (cB Tryz.sizeOf25 rfl rfl rfl rfl (by have := hR.lv; rw [fL] at this; rw [List.length_set]; omega) ((vs.set s (.slice A33 (rl.length + 1) cap33)).set d (.slice A46 (rl2.length + 1) cap46)) rfl ⟨(by repeat first|exact aI|refine aD ?_|refine aC rfl ?_|refine aH ?_), ?_⟩);refine dF (by decide +kernel) ?_;refine cV ?_;refine aL (kh7 _ _ ?_);clear kh7;refine aB ?_;refine aA rfl rfl rfl (bG rfl rfl _ (aT (by omega))) ?_;refine aA rfl rfl rfl (aG rfl) ?_;refine aJ ?_;refine jI (Sub.joinF (m := m46) (G' := rG2) (hput2 _ _ _ (by rw [← eS]; exact o46)).2) ?_;refine aL (bB (k + 1, (vs.set s (.slice A33 (rl.length + 1) cap33)).set d (.slice A46 (rl2.length + 1) cap46), (ms.set s m33).set d m46) (by first | omega | (dsimp only; omega) | (simp; omega)) ⟨by omega, by have := (hput2 _ _ _ (by rw [← eS]; exact o46)).1; rw [hrl, hrl2, kF hk hs hd hsd] at this; rw [hrl, hrl2]; exact this⟩ ?_ ?_ ?_)
      · exact (by repeat constructor)
      · exact (by repeat constructor)
      · repeat first|exact aI|refine aD ?_|refine aC rfl ?_|refine aH ?_
     ·
      refine (dA dV (by omega) rfl rfl rfl fun b45 => ⟨(by repeat first|exact aI|refine aD ?_|refine aC rfl ?_|refine aH ?_), ?_⟩);refine bQ 7 rfl (by decide +kernel) rfl rfl rfl ((aM Tryz.isAgg25 rfl (rdA hrv2)).does ⟨(by repeat first|exact aI|refine aD ?_|refine aC rfl ?_|refine aH ?_), ?_⟩);refine bQ 11 rfl (by decide +kernel) rfl rfl rfl (dG dV rfl rfl hro2 (ys := [.int .i64 l[k].src]) ⟨(rdA rfl), trivial⟩ rfl rfl (by omega) (by omega) fun v46 m46 o46 => ⟨(by repeat first|exact aI|refine aD ?_|refine aC rfl ?_|refine aH ?_), ?_⟩);obtain ⟨A46, cap46, rfl, _⟩ := o46.val
      refine aU 12 rfl (by decide +kernel) rfl rfl rfl (by repeat first|exact aI|refine aD ?_|refine aC rfl ?_|refine aH ?_) (bA gD rfl rfl (d) ⟨by omega, by omega, by first | omega | (simp; done) | (simp; omega)⟩) ?_;refine eM 13 rfl (by decide +kernel) rfl rfl (cB Tryz.sizeOf25 rfl rfl rfl rfl (by have := hR.lv; rw [fL] at this; rw [List.length_set]; omega) ((vs.set s (.slice A33 (rl.length + 1) cap33)).set d (.slice A46 (rl2.length + 1) cap46)) rfl ⟨(by repeat first|exact aI|refine aD ?_|refine aC rfl ?_|refine aH ?_), ?_⟩);refine dF (by decide +kernel) ?_;refine cV ?_;refine aL (kh7 _ _ ?_);clear kh7;refine aB ?_;refine aA rfl rfl rfl (bG rfl rfl _ (aT (by omega))) ?_;refine aA rfl rfl rfl (aG rfl) ?_;refine aJ ?_;refine jI (Sub.joinF (m := m46) (G' := rG2) (hput2 _ _ _ (by rw [← eS]; exact o46)).2) ?_;refine aL (bB (k + 1, (vs.set s (.slice A33 (rl.length + 1) cap33)).set d (.slice A46 (rl2.length + 1) cap46), (ms.set s m33).set d m46) (by first | omega | (dsimp only; omega) | (simp; omega)) ⟨by omega, by have := (hput2 _ _ _ (by rw [← eS]; exact o46)).1; rw [hrl, hrl2, kF hk hs hd hsd] at this; rw [hrl, hrl2]; exact this⟩ ?_ ?_ ?_)
      · exact (by repeat constructor)
      · exact (by repeat constructor)
      · repeat first|exact aI|refine aD ?_|refine aC rfl ?_|refine aH ?_
   ·
    refine aW ?_;refine cV ?_;refine aL (kh7 _ _ ?_);clear kh7;refine aB ?_;refine aA rfl rfl rfl (bG rfl rfl _ (aT (by omega))) ?_;refine aA rfl rfl rfl (aG rfl) ?_;refine aJ ?_;refine aL (bB (k + 1, vs, ms) (by first | omega | (dsimp only; omega) | (simp; omega)) ⟨by omega, by rw [rawRows_same hk (by simpa using c21)]; exact hR⟩ ?_ ?_ ?_)
    · exact (by repeat constructor)
    · exact (by repeat constructor)
    · repeat first|exact aI|refine aD ?_|refine aC rfl ?_|refine aH ?_
  ·
   refine cG ?_;refine cK ?_;clear kh6;refine cK ?_;refine d5 ?_;refine aL (kh3 _ _ ?_);clear kh3;refine aK fun K11 kh11 => ?_;refine aK fun K12 kh12 => ?_;obtain rfl : k = l.length := by omega
   rw [List.take_length] at hR;refine aB ?_;refine aA rfl rfl rfl (aG rfl) ?_;refine aA rfl rfl rfl (bS gD rfl) ?_;refine aA rfl rfl rfl (aG rfl) ?_;refine aJ ?_;refine aL (kh12 _ _ ?_);clear kh12;refine aY ?_;refine cS (α := Nat × List Value × List Seg) [3, 50] (fun ⟨j, vs, ms⟩ => [(51, .int .i64 (j : Int))]) (fun ⟨j, vs, ms⟩ => [[(b9, blk vs 25)], ms.flatten]) (fun ⟨j, vs, ms⟩ => j ≤ n ∧ RowsI 3 (gV n l j) vs ms) (fun ⟨j, vs, ms⟩ => n - j) (0, vs, ms) ?_ ?_ ?_ ?_
   · exact (by repeat constructor)
   · repeat first|exact aI|refine aD ?_|refine aC rfl ?_|refine aH ?_
   · exact ⟨by omega, by rw [mixRows_zero]; exact hR⟩
   ·
    rintro ⟨j, vs, ms⟩ ⟨hjn, hR⟩;refine eX (e := [(51, _), (3, _), (50, _)]) (by repeat constructor) ?_;refine aK fun K13 kh13 => ?_;refine aB ?_;refine aA rfl rfl rfl (cD rfl rfl) ?_;refine aJ ?_;refine aL (kh13 _ _ ?_);clear kh13;refine aK fun K14 kh14 => ?_;refine aZ rfl (fun c52 => ?_) (fun c52 => ?_)
    ·
     refine aW ?_;refine aL (kh14 _ _ ?_);clear kh14;refine aK fun K15 kh15 => ?_;refine aY ?_;refine aK fun K16 kh16 => ?_;refine aB ?_;refine aA rfl rfl rfl (aG rfl) ?_;refine aA rfl rfl rfl (aF rfl) ?_;refine aJ ?_;refine aL (kh16 _ _ ?_);clear kh16;refine aK fun K17 kh17 => ?_;have hj : j < n := by omega
     obtain ⟨rv, rm, rG, hrv, hro, hrp, hput⟩ := hR.split (i := j) (by rw [mixRows_len]; exact hj)
     rw [kH, if_neg (by omega)] at hro;have hrlen := lS (j : Int) l
     obtain ⟨rl, hrl⟩ : ∃ rl, rl = l.flatMap (nbr (j : Int)) := ⟨_, rfl⟩
     rw [← hrl] at hro hrlen;obtain ⟨Ar, cr, rfl, hcr⟩ := hro.val
     refine gB (Sub.splitF hrp) ?_;refine aB ?_;refine aA rfl rfl rfl (aG rfl) ?_;refine aA rfl rfl rfl (aG rfl) ?_;refine aA rfl rfl rfl (bA gD rfl rfl (j) ⟨by omega, by omega, by first | omega | (simp; done) | (simp; omega)⟩) ?_;refine aA rfl rfl rfl (aM Tryz.isAgg25 rfl (rdA hrv)) ?_;refine aR rfl rfl rfl (fH [rm] _ Tryz.call30 rfl (aD Sub.refl) (fun w_ hp_ => kP Ar cr rl rm w_ hro (by omega) hp_.owns) ?_);rintro _ _ ⟨rfl, m2, rfl, ho2⟩;dsimp only [List.cons_append, List.nil_append];refine aJ ?_;refine aL (kh17 _ _ ?_);clear kh17;refine aB ?_;refine aA rfl rfl rfl (aG rfl) ?_;refine aA rfl rfl rfl (aG rfl) ?_;refine aA rfl rfl rfl (aG rfl) ?_;refine aA rfl rfl rfl (aG rfl) ?_;refine aA rfl rfl rfl (bA gD rfl rfl (j) ⟨by omega, by omega, by first | omega | (simp; done) | (simp; omega)⟩) ?_;refine aA rfl rfl rfl (aM Tryz.isAgg25 rfl (rdA hrv)) ?_;refine aR rfl rfl rfl (fH [m2] _ Tryz.call32 rfl (aD Sub.refl) (fun w_ hp_ => (by have h := mB Ar cr (gL rl) m2 w_ (by rw [eZ]; exact ho2) (by rw [eZ]; omega) hp_.owns; rw [eZ] at h; exact h)) ?_);rintro v65 _ ⟨m3, rfl, ho3⟩;obtain ⟨A3, c3, rfl, hc3⟩ := ho3.val
     dsimp only [List.cons_append, List.nil_append];refine aA rfl rfl rfl (bA gD rfl rfl (j) ⟨by omega, by omega, by first | omega | (simp; done) | (simp; omega)⟩) ?_;refine bF rfl rfl (cB Tryz.sizeOf25 rfl rfl rfl rfl (by have := hR.lv; rw [mixRows_len] at this; omega) (vs.set j (.slice A3 (cpt (gL rl)).length c3)) rfl ?_);refine aJ ?_;refine cV ?_;refine aL (kh15 _ _ ?_);clear kh15;refine aB ?_;refine aA rfl rfl rfl (bG rfl rfl _ (aT (by omega))) ?_;refine aA rfl rfl rfl (aG rfl) ?_;refine aJ ?_;refine jI (Sub.joinF (m := m3) (G' := rG) (hput _ _ _ ho3).2) ?_;refine aL (bB (j + 1, vs.set j (.slice A3 (cpt (gL rl)).length c3), ms.set j m3) (by first | omega | (dsimp only; omega) | (simp; omega)) ⟨by omega, by have := (hput _ _ _ ho3).1; rw [hrl, mixRows_next] at this; rw [hrl]; exact this⟩ ?_ ?_ ?_)
     · exact (by repeat constructor)
     · exact (by repeat constructor)
     · repeat first|exact aI|refine aD ?_|refine aC rfl ?_|refine aH ?_
    ·
     refine cG ?_;refine cK ?_;clear kh14;refine cK ?_;refine d5 ?_;refine aL (kh11 _ _ ?_);clear kh11;refine aK fun K18 kh18 => ?_;obtain rfl : j = n := by omega
     rw [mixRows_all] at hR;refine aB ?_;refine aA rfl rfl rfl (aG rfl) ?_;refine aA rfl rfl rfl (aF rfl) ?_;refine aJ ?_;refine aL (kh18 _ _ ?_);clear kh18;refine a7 ?_;exact bP [[(b9, blk vs 25)], ms.flatten] Tryz.results87 rfl (by repeat (first | exact aI | refine aD ?_ | refine aC rfl ?_)) ⟨b9, vs, ms, rfl, rfl, hR⟩
end Go.Proofs.YtjjogcnjcnpehaaGreat

/- The order around a centre: nearest first. -/
namespace Go.Proofs.YtjjogcnjcnpehaaGreat
open Go Fly
set_option linter.unusedVariables false
set_option linter.unusedSimpArgs false
set_option linter.unusedSectionVars false
abbrev BSt := List Int × List Bool
def gG (s : BSt) (u : Int) : BSt := if s.2.getD u.toNat false = true then s else (s.1 ++ [u], s.2.set u.toNat true)
def fZ (row : List Int) (s : BSt) : BSt := row.foldl gG s
def iT (rows : Nat → List Int) (k : Nat) (s : BSt) : BSt :=
  match s.1[k]? with
  | some v => fZ (rows v.toNat) s
  | none => s
/-- k vertices have been gone through. -/
def bgo (rows : Nat → List Int) (s : BSt) : Nat → BSt
  | 0 => s
  | k + 1 => iT rows k (bgo rows s k)
def eA (c : Nat) (b : List Bool) : BSt := ([(c : Int)], b.set c true)
def bfs (n : Nat) (rows : Nat → List Int) (c : Nat) (b : List Bool) : BSt := bgo rows (eA c b) n
theorem l7 {row : List Int} {j : Nat} (hj : j < row.length) (s : BSt) : fZ (row.take (j + 1)) s = gG (fZ (row.take j) s) row[j] := by
  unfold fZ; rw [List.take_succ_eq_append_getElem hj, List.foldl_append]; rfl
theorem bpush1_ext (s : BSt) (u : Int) : ∃ r, (gG s u).1 = s.1 ++ r := by
  unfold gG
  split
  · exact ⟨[], by simp⟩
  · exact ⟨[u], rfl⟩
theorem bpush_ext (row : List Int) : ∀ s : BSt, ∃ r, (fZ row s).1 = s.1 ++ r := by
  induction row with
  | nil => intro s; exact ⟨[], by simp [fZ]⟩
  | cons u row ih =>
    intro s;obtain ⟨r1, h1⟩ := bpush1_ext s u
    obtain ⟨r2, h2⟩ := ih (gG s u)
    refine ⟨r1 ++ r2, ?_⟩
    show (fZ row (gG s u)).1 = _
    rw [h2, h1, List.append_assoc]
theorem lG {rows : Nat → List Int} {k : Nat} {s : BSt} (h : k < s.1.length) : iT rows k s = fZ (rows s.1[k].toNat) s := by
  unfold iT; rw [List.getElem?_eq_getElem h]
theorem lF {rows : Nat → List Int} {k : Nat} {s : BSt} (h : s.1.length ≤ k) : iT rows k s = s := by
  unfold iT; rw [List.getElem?_eq_none h]
theorem bstep_ext (rows : Nat → List Int) (k : Nat) (s : BSt) : ∃ r, (iT rows k s).1 = s.1 ++ r := by
  rcases Nat.lt_or_ge k s.1.length with h | h
  · rw [lG h]; exact bpush_ext _ _
  · rw [lF h]; exact ⟨[], by simp⟩
theorem bgo_ext (rows : Nat → List Int) (s : BSt) (k : Nat) : ∀ d, ∃ r, (bgo rows s (k + d)).1 = (bgo rows s k).1 ++ r
  | 0 => ⟨[], by simp⟩
  | d + 1 => by
    obtain ⟨r1, h1⟩ := bgo_ext rows s k d
    obtain ⟨r2, h2⟩ := bstep_ext rows (k + d) (bgo rows s (k + d))
    refine ⟨r1 ++ r2, ?_⟩
    show (iT rows (k + d) (bgo rows s (k + d))).1 = _
    rw [h2, h1, List.append_assoc]
theorem bgo_stop {rows : Nat → List Int} {s : BSt} {k : Nat} (h : (bgo rows s k).1.length ≤ k) : ∀ d, bgo rows s (k + d) = bgo rows s k
  | 0 => rfl
  | d + 1 => by
    have ih := bgo_stop h d
    show iT rows (k + d) (bgo rows s (k + d)) = _
    rw [ih, lF (by omega)]
structure BInv (n : Nat) (s : BSt) : Prop where
  len : s.2.length = n
  rng : ∀ x ∈ s.1, 0 ≤ x ∧ x < (n : Int)
  nd : s.1.Nodup
  tr : ∀ x ∈ s.1, s.2.getD x.toNat false = true
theorem ints_card {n : Nat} {l : List Int} (hr : ∀ x ∈ l, 0 ≤ x ∧ x < (n : Int)) (hn : l.Nodup) : l.length ≤ n := by
  have h := List.Nodup.length_le_of_subset hn (l₂ := (List.range n).map Int.ofNat) fun x hx => by
    have := hr x hx
    exact List.mem_map.2 ⟨x.toNat, List.mem_range.2 (by omega), by show ((x.toNat : Nat) : Int) = x; omega⟩
  simpa using h
theorem BInv.out {n : Nat} {s : BSt} (h : BInv n s) : s.1.length ≤ n := ints_card h.rng h.nd
theorem getD_set (l : List Bool) (i j : Nat) (b : Bool) : (l.set i b).getD j false = if i = j ∧ i < l.length then b else l.getD j false := by
  simp only [List.getD_eq_getElem?_getD, List.getElem?_set]
  by_cases h : i = j
  · subst h
    by_cases h' : i < l.length
    · simp [h']
    · simp [h']
  · simp [h]
theorem BInv.start {n c : Nat} {b : List Bool} (hb : b.length = n) (hc : c < n) : BInv n (eA c b) := by
  refine ⟨by simp [eA, hb], fun x hx => ?_, by simp [eA], fun x hx => ?_⟩
  · simp only [eA, List.mem_singleton] at hx; omega
  · simp only [eA, List.mem_singleton] at hx
    subst hx
    show (b.set c true).getD _ false = true
    rw [getD_set, if_pos ⟨by omega, by omega⟩]
theorem BInv.push1 {n : Nat} {s : BSt} (h : BInv n s) {u : Int} (hu : 0 ≤ u ∧ u < (n : Int)) : BInv n (gG s u) := by
  unfold gG
  split
  · exact h
  · rename_i hn
    refine ⟨by simp [h.len], fun x hx => ?_, ?_, fun x hx => ?_⟩
    · rcases List.mem_append.1 hx with hx | hx
      · exact h.rng x hx
      · simp only [List.mem_singleton] at hx; omega
    · rw [List.nodup_append]
      refine ⟨h.nd, by simp, fun a ha b hb e => ?_⟩;simp only [List.mem_singleton] at hb;subst hb; subst e;exact hn (h.tr _ ha)
    · show (s.2.set u.toNat true).getD _ false = true
      rw [getD_set]
      split
      · rfl
      · rename_i hne
        rcases List.mem_append.1 hx with hx | hx
        · exact h.tr x hx
        · simp only [List.mem_singleton] at hx; subst hx
          exact absurd ⟨rfl, by rw [h.len]; omega⟩ hne
theorem BInv.push {n : Nat} {row : List Int} (hr : ∀ u ∈ row, 0 ≤ u ∧ u < (n : Int)) : ∀ {s : BSt}, BInv n s → BInv n (fZ row s) := by
  induction row with
  | nil => exact fun h => h
  | cons u row ih => exact fun h => ih (fun x hx => hr x (List.mem_cons_of_mem _ hx)) (h.push1 (hr u (List.mem_cons_self ..)))
theorem BInv.step {n : Nat} {rows : Nat → List Int} (hr : ∀ v, v < n → ∀ u ∈ rows v, 0 ≤ u ∧ u < (n : Int)) {k : Nat} {s : BSt} (h : BInv n s) : BInv n (iT rows k s) := by
  rcases Nat.lt_or_ge k s.1.length with hk | hk
  · rw [lG hk]
    exact h.push (hr _ (by have := h.rng _ (List.getElem_mem hk); omega))
  · rw [lF hk]; exact h
theorem BInv.go {n : Nat} {rows : Nat → List Int} (hr : ∀ v, v < n → ∀ u ∈ rows v, 0 ≤ u ∧ u < (n : Int)) {s : BSt} (h : BInv n s) : ∀ k, BInv n (bgo rows s k)
  | 0 => h
  | k + 1 => (BInv.go hr h k).step hr
/-- What has been gone through is the beginning of the whole. -/
theorem bgo_pre {n : Nat} {rows : Nat → List Int} {s : BSt} {k : Nat} (hk : k ≤ n) : ∃ r, (bgo rows s n).1 = (bgo rows s k).1 ++ r := by
  have := bgo_ext rows s k (n - k)
  rwa [show k + (n - k) = n by omega] at this
theorem bgo_fin {n : Nat} {rows : Nat → List Int} {s : BSt} {k : Nat} (hk : k ≤ n) (h : (bgo rows s k).1.length ≤ k) : bgo rows s n = bgo rows s k := by
  have := bgo_stop h (n - k)
  rwa [show k + (n - k) = n by omega] at this
theorem bgo_get {n : Nat} {rows : Nat → List Int} {s : BSt} {k : Nat} (hk : k ≤ n) (h : k < (bgo rows s k).1.length) : ∃ h' : k < (bgo rows s n).1.length, (bgo rows s n).1[k] = (bgo rows s k).1[k] := by
  obtain ⟨r, hr⟩ := bgo_pre (rows := rows) (s := s) hk
  refine ⟨by rw [hr, List.length_append]; omega, ?_⟩;simp only [hr];exact List.getElem_append_left h
end Go.Proofs.YtjjogcnjcnpehaaGreat

/- Functions that range over a function, the rounds that they hand out, and functions that ask for such rounds: the small logic once more, under the kit's fences. -/
namespace Go.Proofs.YtjjogcnjcnpehaaGreat.Fly
open Go Go.RowKit
set_option linter.unusedVariables false
set_option linter.unusedSimpArgs false
set_option linter.unusedSectionVars false
/-- No fence at all; in a round of the loop 'rd'. -/
abbrev FW (rd : Option Nat) : Fence := { fn := fun _ => True, depth := none, alive := false, round := rd }
/-- The marks that loops over functions leave among the deferred calls, and their blocks. -/
abbrev coll (mk : List Nat) : List Deferred := mk.map fun D => { target := .collected D, args := #[] }
abbrev mks (mk : List Nat) : Seg := mk.map fun D => (D, Obj.deferred (some []))
structure EnR (n : Nat) (mk : List Nat) (env : Env) (a : Act) : Prop where
  size : a.tmps.size = n
  defers : a.defers = coll mk
  get : ∀ t v, eV env t = some v → a.tmps[t]? = some v
theorem kI (a : Act) (ds : List Deferred) : ({ a with defers := ds } : Act).eval = a.eval := by funext x; cases x <;> rfl
section
variable {n : Nat} {mk : List Nat} {env : Env} {a : Act}
theorem EnR.base (h : EnR n mk env a) : En n env { a with defers := [] } := ⟨h.size, rfl, h.get⟩
theorem EnR.eval (h : EnR n mk env a) {x : Operand} {v : Value} (hx : ev env x = some v) : a.eval x = v := by
  have := h.base.eval hx; rwa [kI] at this
theorem EnR.evals (h : EnR n mk env a) {l : List Operand} {vs : List Value} (hx : evs env l = some vs) : l.map a.eval = vs := by
  have := h.base.evals hx; rwa [kI] at this
theorem EnR.put (h : EnR n mk env a) {d : Nat} (hd : Nat.blt d n = true) (v : Value) : EnR n mk ((d, v) :: env) (a.put (some d) v) := by
  have := h.base.put hd v
  exact ⟨this.size, by simp [Act.put, h.defers], this.get⟩
theorem EnR.none (h : EnR n mk env a) (v : Value) : EnR n mk env (a.put none v) := by simpa [Act.put] using h
theorem EnR.also (h : EnR n mk env a) {t : Nat} {v : Value} (hl : eV env t = some v) : EnR n mk ((t, v) :: env) a := by
  have := h.base.also hl
  exact ⟨h.size, h.defers, this.get⟩
theorem EnR.keep (h : EnR n mk env a) (ts : List Nat) : EnR n mk (Fly.keep ts env) a := ⟨h.size, h.defers, (h.base.keep ts).get⟩
theorem EnR.agree {e' : Env} (h : EnR n mk env a) {ts : List Nat} (hk : Agree ts env e') : EnR n mk (Fly.keep ts e') a := ⟨h.size, h.defers, (h.base.agree hk).get⟩
theorem EnR.has {b : Env} (h : EnR n mk env a) (hb : EnR n mk b a) {l : Env} (hl : Has env l) : EnR n mk (l ++ b) a := ⟨h.size, h.defers, (h.base.has hb.base hl).get⟩
end
def j2 : Op → Bool
  | .defer _ => false
  | _ => true
section
variable (P : Program) (n : Nat) (S : Nat → Prop) (w0 : World) (rd : Option Nat) (mk : List Nat)
def WqR (R : Act → World → Prop) (env : Env) (segs : List Seg) : Prop := ∀ a w, EnR n mk env a → Hp S w0 segs.flatten w → R a w
def WcR (Q : Exit → Act → World → Prop) (env : Env) (segs : List Seg) (c : Code) : Prop := ∀ a w, EnR n mk env a → Hp S w0 segs.flatten w → c.wpIn (FW rd) 0 P Q a w
def WlR (ops : Array Oper) (Q : Exit → Act → World → Prop) (env : Env) (segs : List Seg) (l : List Oper) : Prop :=
  ∀ a w, EnR n mk env a → Hp S w0 segs.flatten w → wpListIn (FW rd) 0 P ops Q l a w
def DoesR (env : Env) (segs : List Seg) (o : Oper) (K : Value → List Seg → Prop) : Prop :=
  ∀ a w (next : Act → World → Prop) (Q : Exit → Act → World → Prop), EnR n mk env a → Hp S w0 segs.flatten w →
    (∀ v segs' w', K v segs' → Hp S w0 segs'.flatten w' → next (a.put o.dst v) w') → o.wpIn (FW rd) 0 P a w next Q
end
theorem wpIn_loop_ghost {F : Fence} {m : Nat} {P : Program} {Q : Exit → Act → World → Prop} {a : Act} {w : World} {c : Code} (I : Nat → Act → World → Prop) (n₀ : Nat) (h₀ : I n₀ a w)
    (round : ∀ n a w, I n a w → c.wpIn F m P (Exit.then (fun a' w' => ∃ n', n' < n ∧ I n' a' w') Q) a w) : (Code.loop c).wpIn F m P Q a w := by
  refine wpIn_loop (fun a w => ∃ n, I n a w) (fun a w => leastOf (fun n => I n a w)) ⟨n₀, h₀⟩ ?_;intro a w hI;refine wpIn_mono (round _ a w (leastOf_spec hI).1) ?_;intro e a' w' hq
  cases e with
  | normal =>
    obtain ⟨n', hlt, hI'⟩ := hq
    exact show (∃ n, I n a' w') ∧ leastOf (fun n => I n a' w') < leastOf (fun n => I n a w) from ⟨⟨n', hI'⟩, Nat.lt_of_le_of_lt ((leastOf_spec ⟨n', hI'⟩).2 n' hI') hlt⟩
  | exit id => exact hq
  | goto l => exact hq
  | ret => exact hq
  | panic ch => exact hq
  | outgrown => exact hq
section
variable {P : Program} {n : Nat} {S : Nat → Prop} {w0 : World} {rd : Option Nat} {mk : List Nat} {env : Env} {segs : List Seg} {Q : Exit → Act → World → Prop} {ops : Array Oper} {rest : List Oper} {o : Oper}
theorem jY (a : Act) (ds : List Deferred) (d : Option Tmp) (v : Value) : ({ ({ a with defers := [] } : Act).put d v with defers := a.defers } : Act) = a.put d v := by cases d <;> rfl
theorem Does.toR {K : Value → List Seg → Prop} (hn : j2 o.op = true) (h : Does P n S w0 env segs o K) : DoesR P n S w0 rd mk env segs o K := by
  intro a w next Q ha hp hk
  have h0 := h { a with defers := [] } w (fun a' w' => a'.defers = [] ∧ next { a' with defers := a.defers } w') (fun _ _ _ => False) ha.base hp
    (fun v segs' w' hK hp' => ⟨by cases o.dst <;> rfl, by rw [jY a []]; exact hk v segs' w' hK hp'⟩)
  unfold Oper.wp at h0
  unfold Oper.wpIn
  refine ⟨fun _ _ => trivial, ?_⟩;rw [Oper.semAt_eq _ _ _ (fun c hc => by rw [hc] at hn; cases hn)];rw [kI] at h0
  generalize (execOp a.eval o).run P w = r at h0 ⊢
  cases r with
  | halt hh w' =>
    cases hh <;> simp only [Oper.upon] at h0
  | ok x w' =>
    cases x with
    | value v =>
      have := h0.2
      rw [jY a []] at this;exact this
    | skip =>
      have := h0.2
      rw [jY a []] at this;exact this
    | defer d =>
      have := h0.1
      cases hd : o.dst <;> simp [Act.put, hd] at this
    | enter f args =>
      have h1 : Calls P f args w' _ := h0
      refine ⟨(fun h => by cases h), ?_⟩
      show CallsIn Fence.wide 0 P f args w' _
      refine callsIn_wide.2 (Calls.mono h1 ?_);intro e w'' he
      cases e with
      | returned v =>
        have := he.2
        rw [jY a []] at this;exact this
      | panicked ch => exact he.elim
      | outgrown => obtain ⟨_, _, hf⟩ := he; exact hf.elim
    | row r args =>
      have h1 : Rows P r args w' _ := h0
      refine ⟨(fun h => by cases h), fun c cs _ => ?_⟩;obtain ⟨v, w'', hv, hst⟩ := h1 c cs
      have hv2 := hv.2
      rw [jY a []] at hv2;exact ⟨v, w'', hv2, (stepsIn_wide (P := P)).2 hst⟩
    | round l f tmps assign body => exact h0.elim
    | _ => exact h0.elim
theorem eI {d : Nat} (hg : o.guard = none) (hd : o.dst = some d) (hn : Nat.blt d n = true)
    (h : DoesR P n S w0 rd mk env segs o fun v segs' => WlR P n S w0 rd mk ops Q ((d, v) :: env) segs' rest) : WlR P n S w0 rd mk ops Q env segs (o :: rest) := by
  intro a w ha hp;refine wpListIn_plain hg fun K hK => h a w K Q ha hp fun v segs' w' hk hp' => hK _ _ (hk _ _ ?_ hp');rw [hd]; exact ha.put hn v
theorem iM (hg : o.guard = none) (hd : o.dst = none)
    (h : DoesR P n S w0 rd mk env segs o fun _ segs' => WlR P n S w0 rd mk ops Q env segs' rest) : WlR P n S w0 rd mk ops Q env segs (o :: rest) := by
  intro a w ha hp;refine wpListIn_plain hg fun K hK => h a w K Q ha hp fun v segs' w' hk hp' => hK _ _ (hk _ _ ?_ hp');rw [hd]; exact ha.none v
theorem aP {d : Nat} {v : Value} (hg : o.guard = none) (hd : o.dst = some d) (hn : Nat.blt d n = true) (hnd : j2 o.op = true) (hp : Pure P n S w0 env segs o v)
    (h : WlR P n S w0 rd mk ops Q ((d, v) :: env) segs rest) : WlR P n S w0 rd mk ops Q env segs (o :: rest) :=
  eI hg hd hn (Does.toR hnd (hp.does h))
theorem k3 {d j t : Nat} {b : Bool} {v : Value} (hg : o.guard = some (j, b)) (hj : (ops[j]?).bind (·.dst) = some t) (hl : eV env t = some (.bool b)) (hd : o.dst = some d) (hn : Nat.blt d n = true) (hnd : j2 o.op = true) (hp : Pure P n S w0 env segs o v)
    (h : WlR P n S w0 rd mk ops Q ((d, v) :: env) segs rest) : WlR P n S w0 rd mk ops Q env segs (o :: rest) := by
  intro a w ha hh;refine wpListIn_step fun K hK => ?_;rw [if_pos (by simp [Region.wanted, hg, yielded, hj, ha.get _ _ hl])];exact (Does.toR hnd (hp.does (K := fun u segs' => u = v ∧ segs' = segs) ⟨rfl, rfl⟩) : DoesR P n S w0 rd mk env segs o _) a w K Q ha hh fun u segs' w' ⟨hu, hs⟩ hp' => hK _ _ (h _ _ (by rw [hd, hu]; exact ha.put hn v) (hs ▸ hp'))
theorem r_stepN {d j t : Nat} {b c : Bool} (hg : o.guard = some (j, b)) (hj : (ops[j]?).bind (·.dst) = some t) (hl : eV env t = some (.bool c)) (hc : (c == b) = false) (hd : o.dst = some d) (hn : Nat.blt d n = true)
    (h : WlR P n S w0 rd mk ops Q ((d, undef) :: env) segs rest) : WlR P n S w0 rd mk ops Q env segs (o :: rest) := by
  intro a w ha hp;refine wpListIn_step fun K hK => ?_;have hne : c ≠ b := by simpa using hc
  rw [if_neg (by simp [Region.wanted, hg, yielded, hj, ha.get _ _ hl, hne])];refine ⟨fun _ _ => trivial, hK _ _ (h _ _ ?_ hp)⟩;rw [hd]; exact ha.put hn undef
theorem bV (h : WqR n S w0 mk (Q .normal) env segs) : WlR P n S w0 rd mk ops Q env segs [] := fun a w ha hp => wpListIn_nil (h a w ha hp)
theorem bE {id : Nat} {l : List Oper} (h : WlR P n S w0 rd mk l.toArray Q env segs l) : WcR P n S w0 rd mk Q env segs (.region id l.toArray false) :=
  fun a w ha hp => wpIn_region_lit (h a w ha hp)
/-- A piece of code outside of any round and ahead of any mark: by the plain logic. -/
theorem r_old {c : Code} (h : Wc P n S w0 Q env segs c) : WcR P n S w0 none [] Q env segs c :=
  fun a w ha hp => wpIn_wide.2 (h a w ⟨ha.size, ha.defers, ha.get⟩ hp)
theorem r_new {R : Act → World → Prop} (h : WqR n S w0 [] R env segs) : Wq n S w0 R env segs := fun a w ha hp => h a w ⟨ha.size, ha.defers, ha.get⟩ hp
theorem r_splitL (t : Nat) {φ : Prop} [Decidable φ] {l : List Oper} (hl : eV env t = some (.bool (decide φ)))
    (hy : φ → WlR P n S w0 rd mk ops Q ((t, .bool true) :: env) segs l) (hn : ¬ φ → WlR P n S w0 rd mk ops Q ((t, .bool false) :: env) segs l) : WlR P n S w0 rd mk ops Q env segs l := by
  intro a w ha hp
  by_cases h : φ
  · refine hy h a w (ha.also ?_) hp
    rw [hl, decide_eq_true h]
  · refine hn h a w (ha.also ?_) hp
    rw [hl, decide_eq_false h]
theorem r_envC {e : Env} {c : Code} (he : Has env e) (h : WcR P n S w0 rd mk Q e segs c) : WcR P n S w0 rd mk Q env segs c :=
  fun a w ha hp => h a w (by
    have h0 : EnR n mk [] a := ⟨ha.size, ha.defers, fun t v hx => by simp [eV] at hx⟩
    have := ha.has h0 he
    rwa [List.append_nil] at this) hp
theorem r_subC {out : List Seg} {c : Code} (hs : Sub segs out) (h : WcR P n S w0 rd mk Q env out c) : WcR P n S w0 rd mk Q env segs c := fun a w ha hp => h a w ha (hp.sub hs)
theorem r_subQ {out : List Seg} {R : Act → World → Prop} (hs : Sub segs out) (h : WqR n S w0 mk R env out) : WqR n S w0 mk R env segs := fun a w ha hp => h a w ha (hp.sub hs)
theorem cL {x y : Code} (h : ∀ K : Act → World → Prop, (∀ env segs mk, WcR P n S w0 rd mk Q env segs y → WqR n S w0 mk K env segs) → WcR P n S w0 rd mk (Exit.then K Q) env segs x) :
    WcR P n S w0 rd mk Q env segs (.seq x y) :=
  fun a w ha hp => wpIn_seq (h (y.wpIn (FW rd) 0 P Q) (fun _ _ _ hy a' w' ha' hp' => hy a' w' ha' hp') a w ha hp)
theorem iC {c : Operand} {x y : Code} {φ : Prop} [Decidable φ] (hc : ev env c = some (.bool (decide φ))) (ht : φ → WcR P n S w0 rd mk Q env segs x) (hf : ¬ φ → WcR P n S w0 rd mk Q env segs y) :
    WcR P n S w0 rd mk Q env segs (.cond c x y) := by
  intro a w ha hp;have he := ha.eval hc
  by_cases h : φ
  · exact wpIn_cond_true (by rw [he, decide_eq_true h]) (ht h a w ha hp)
  · exact wpIn_cond_false (by rw [he, decide_eq_false h]) (hf h a w ha hp)
theorem r_condN {c : Operand} {x y : Code} {φ : Prop} [Decidable φ] (hc : ev env c = some (.bool (decide φ))) (h : ¬ φ) (hf : WcR P n S w0 rd mk Q env segs y) : WcR P n S w0 rd mk Q env segs (.cond c x y) :=
  fun a w ha hp => wpIn_cond_false ((ha.eval hc).trans (by rw [decide_eq_false h])) (hf a w ha hp)
theorem r_condT {c : Operand} {x y : Code} (hc : ev env c = some (.bool true)) (ht : WcR P n S w0 rd mk Q env segs x) : WcR P n S w0 rd mk Q env segs (.cond c x y) :=
  fun a w ha hp => wpIn_cond_true (ha.eval hc) (ht a w ha hp)
theorem r_condB {c : Operand} {x y : Code} {b : Bool} (hc : ev env c = some (.bool b)) (ht : b = true → WcR P n S w0 rd mk Q env segs x) (hf : b = false → WcR P n S w0 rd mk Q env segs y) :
    WcR P n S w0 rd mk Q env segs (.cond c x y) := by
  intro a w ha hp;have he := ha.eval hc
  cases b
  · exact wpIn_cond_false he (hf rfl a w ha hp)
  · exact wpIn_cond_true he (ht rfl a w ha hp)
theorem eK {id : Nat} {c : Code} (h : WcR P n S w0 rd mk (Exit.inBlock id Q) env segs c) : WcR P n S w0 rd mk Q env segs (.block id c) := fun a w ha hp => wpIn_block (h a w ha hp)
theorem fU (h : WqR n S w0 mk (Q .normal) env segs) : WcR P n S w0 rd mk Q env segs .skip := fun a w ha hp => wpIn_skip (h a w ha hp)
theorem jX (h : WqR n S w0 mk (Q .ret) env segs) : WcR P n S w0 rd mk Q env segs .ret := fun a w ha hp => wpIn_ret (h a w ha hp)
theorem iY {id : Nat} (h : WqR n S w0 mk (Q (.exit id)) env segs) : WcR P n S w0 rd mk Q env segs (.exit id) := fun a w ha hp => wpIn_exit (h a w ha hp)
theorem cT {K : Act → World → Prop} (h : WqR n S w0 mk K env segs) : WqR n S w0 mk (Exit.then K Q .normal) env segs := h
theorem r_tr {K : Act → World → Prop} (h : WqR n S w0 mk (Q .ret) env segs) : WqR n S w0 mk (Exit.then K Q .ret) env segs := h
theorem r_te {K : Act → World → Prop} {id : Nat} (h : WqR n S w0 mk (Q (.exit id)) env segs) : WqR n S w0 mk (Exit.then K Q (.exit id)) env segs := h
theorem r_bn {id : Nat} (h : WqR n S w0 mk (Q .normal) env segs) : WqR n S w0 mk (Exit.inBlock id Q .normal) env segs := h
theorem r_br {id : Nat} (h : WqR n S w0 mk (Q .ret) env segs) : WqR n S w0 mk (Exit.inBlock id Q .ret) env segs := h
theorem r_be {id : Nat} (h : WqR n S w0 mk (Q .normal) env segs) : WqR n S w0 mk (Exit.inBlock id Q (.exit id)) env segs := by
  intro a w ha hp; simpa [Exit.inBlock] using h a w ha hp
theorem r_bo {id id' : Nat} (hne : Nat.beq id' id = false) (h : WqR n S w0 mk (Q (.exit id')) env segs) : WqR n S w0 mk (Exit.inBlock id Q (.exit id')) env segs := by
  intro a w ha hp;have : id' ≠ id := fun e => by subst e; simp at hne
  simpa [Exit.inBlock, this] using h a w ha hp
def AgainR {α : Type} (n : Nat) (S : Nat → Prop) (w0 : World) (base : Env) (mkf : α → List Nat) (mod : α → Env) (sg : α → List Seg) (inv : α → Prop) (μ : α → Nat) (m : Nat) (a : Act) (w : World) : Prop :=
  ∃ x, μ x < m ∧ inv x ∧ EnR n (mkf x) (mod x ++ base) a ∧ Hp S w0 (sg x).flatten w
theorem r_loop {α : Type} (mkf : α → List Nat) (ts : List Nat) (mod : α → Env) (sg : α → List Seg) (inv : α → Prop) (μ : α → Nat) (x0 : α) {c : Code}
    (hm : mkf x0 = mk) (he : Has env (mod x0)) (hs : Sub segs (sg x0)) (hi : inv x0)
    (round : ∀ x, inv x → WcR P n S w0 rd (mkf x) (Exit.then (AgainR n S w0 (keep ts env) mkf mod sg inv μ (μ x)) Q) (mod x ++ keep ts env) (sg x) c) :
    WcR P n S w0 rd mk Q env segs (.loop c) := by
  intro a w ha hp
  refine wpIn_loop_ghost (fun m a w => ∃ x, μ x = m ∧ inv x ∧ EnR n (mkf x) (mod x ++ keep ts env) a ∧ Hp S w0 (sg x).flatten w) (μ x0)
    ⟨x0, rfl, hi, hm ▸ ha.has (ha.keep ts) he, hp.sub hs⟩ ?_
  rintro m a' w' ⟨x, rfl, hix, hax, hpx⟩;refine wpIn_mono (round x hix a' w' hax hpx) ?_;intro e a'' w'' hq
  cases e with
  | normal =>
    obtain ⟨x', h1, h2, h3, h4⟩ := hq
    exact ⟨μ x', h1, x', rfl, h2, h3, h4⟩
  | exit id => exact hq
  | goto l => exact hq
  | ret => exact hq
  | panic ch => exact hq
  | outgrown => exact hq
theorem i4 {α : Type} {mkf : α → List Nat} {ts : List Nat} {env0 : Env} {mod : α → Env} {sg : α → List Seg} {inv : α → Prop} {μ : α → Nat} {m : Nat} (x : α)
    (hm : μ x < m) (hk0 : mkf x = mk) (hi : inv x) (he : Has env (mod x)) (hk : Agree ts env env0) (hs : Sub segs (sg x)) :
    WqR n S w0 mk (AgainR n S w0 (keep ts env0) mkf mod sg inv μ m) env segs :=
  fun _ _ ha hp => ⟨x, hm, hi, hk0 ▸ ha.has (ha.agree hk) he, hp.sub hs⟩
end
theorem r_meet {P : Program} {n : Nat} {S : Nat → Prop} {w0 : World} {rd : Option Nat} {mk : List Nat} {env : Env} {segs : List Seg} {Q : Exit → Act → World → Prop} {α : Type} (ts : List Nat) (mod : α → Env) (sg : α → List Seg) (inv : α → Prop) {x y : Code}
    (h1 : ∀ K : Act → World → Prop, (∀ env' segs' z, inv z → Has env' (mod z) → Agree ts env' env → Sub segs' (sg z) → WqR n S w0 mk K env' segs') → WcR P n S w0 rd mk (Exit.then K Q) env segs x)
    (h2 : ∀ z, inv z → WcR P n S w0 rd mk Q (mod z ++ keep ts env) (sg z) y) : WcR P n S w0 rd mk Q env segs (.seq x y) :=
  fun a w ha hp => wpIn_seq (h1 (y.wpIn (FW rd) 0 P Q) (fun _ _ z hz he hk hs a' w' ha' hp' => h2 z hz a' w' (ha'.has (ha'.agree hk) he) (hp'.sub hs)) a w ha hp)
/-! ### entering and leaving -/
theorem r_enter {P : Program} {f : FuncId} {fn : Func} {n : Nat} {args : List Value} {w : World} {own : List Seg} {Φ : Value → List Seg → Prop} {c : Code}
    (hf : P.funcs[f]? = some fn) (hb : fn.body = some c) (hn : fn.ntmps = n) (hl : Nat.ble args.length n = true) (ho : Owns w own)
    (h : WcR P n (Fr w own) w none [] (bodyPostM (FW none) 0 P fn (eN w own Φ)) (initEnv 0 args) own c) : Meets P f args w own Φ := by
  have hle : args.length ≤ n := Nat.le_of_ble_eq_true hl
  refine (callsIn_wide (n := 0)).1 (show CallsIn (FW none) 0 P f args.toArray w _ from callsIn_of_wp_marks hf hb trivial (h _ _ ⟨?_, rfl, fun t v ht => ?_⟩ (Hp.start ho)) rfl)
  · simp [hn]; omega
  · have ⟨_, h2⟩ := lT args 0 t v ht
    simp only [Nat.sub_zero] at h2;have hlt : t < args.length := (List.getElem?_eq_some_iff.1 h2).1
    rw [Array.getElem?_append_left (by simpa using hlt)]
    simpa using h2
theorem Hp.putObj {S : Nat → Prop} {w0 w : World} {D : Nat} {o : Obj} {r : Seg} (o' : Obj) (h : Hp S w0 ((D, o) :: r) w) : Hp S w0 ((D, o') :: r) (w.putObj D o') := by
  have h' : Hp S w0 (([] : Seg) ++ (D, o) :: r) w := h
  have := Hp.put (w' := w.putObj D o') h' rfl rfl rfl (by simp) (Nat.le_refl _) (World.putObj_heap_same (h.key_lt (o := o) (by simp))) (fun k hk => World.putObj_heap_other hk)
  exact this
theorem Hp.tailR {S : Nat → Prop} {w0 w : World} {x : Nat × Obj} {r : Seg} (h : Hp S w0 (x :: r) w) : Hp S w0 r w := by
  have h' : Hp S w0 ([x] ++ r) w := h
  exact (h'.perm List.perm_append_comm).left
theorem lU {P : Program} {fn : Func} {tmps : Array Value} {R : Ending → World → Prop} {S : Nat → Prop} {w0 : World} {out : Seg} :
    ∀ (mk : List Nat) (w : World), Hp S w0 (mks mk ++ out) w → (∀ w', Hp S w0 out w' → ∃ v, (results fn tmps).run P w' = .ok v w' ∧ R (.returned v) w') → LeavesInM (FW none) 0 P fn tmps R (coll mk) .returning w
  | [], w, hp, h => by
    obtain ⟨v, h1, h2⟩ := h w hp
    exact ⟨v, h1, h2⟩
  | D :: mk, w, hp, h => by
    refine ⟨by simp, .inl ⟨D, w.putObj D (.deferred none), rfl, run_takeDeferred (hp.own D _ (by simp)), ?_⟩⟩;exact lU mk _ (Hp.tailR (Hp.putObj (.deferred none) hp)) h
section
variable {P : Program} {fn : Func} {n : Nat} {w : World} {own : List Seg} {Φ : Value → List Seg → Prop} {env : Env} {segs : List Seg} {mk : List Nat}
theorem r_fin0 (own' : List Seg) (hr : fn.results = #[]) (hs : Sub segs (mks mk :: own')) (hΦ : Φ (.tuple #[]) own') : WqR n (Fr w own) w mk (bodyPostM (FW none) 0 P fn (eN w own Φ) .ret) env segs := fun a w' ha hp => by
  show LeavesInM _ _ _ _ _ _ a.defers _ _
  rw [ha.defers];exact lU mk w' (out := own'.flatten) (by simpa using hp.sub hs) fun w'' hp' => ⟨_, results_none hr _ _ _, _, own', rfl, hp', hΦ⟩
theorem r_fin0n (own' : List Seg) (hr : fn.results = #[]) (hs : Sub segs (mks mk :: own')) (hΦ : Φ (.tuple #[]) own') : WqR n (Fr w own) w mk (bodyPostM (FW none) 0 P fn (eN w own Φ) .normal) env segs :=
  r_fin0 own' hr hs hΦ
theorem iX (own' : List Seg) {r s : Tmp} {v u : Value} (hr : fn.results = #[.tmp r, .tmp s]) (hv : eV env r = some v) (hu : eV env s = some u) (hs : Sub segs (mks mk :: own')) (hΦ : Φ (.tuple #[v, u]) own') :
    WqR n (Fr w own) w mk (bodyPostM (FW none) 0 P fn (eN w own Φ) .ret) env segs := fun a w' ha hp => by
  show LeavesInM _ _ _ _ _ _ a.defers _ _
  rw [ha.defers];exact lU mk w' (out := own'.flatten) (by simpa using hp.sub hs) fun w'' hp' => ⟨_, results_tmp2 hr _ _ _, _, own', rfl, hp', by simp only [Array.getD_eq_getD_getElem?, ha.get _ _ hv, ha.get _ _ hu]; exact hΦ⟩
end
theorem Hp.fz {S : Nat → Prop} {w0 w : World} {own fr : List Seg} (hp : Hp S w0 (own ++ fr).flatten w) (k : Nat) (hk : S k) : Fr w own k ∧ w.heap[k]? = w0.heap[k]? := by
  refine ⟨⟨Nat.lt_of_lt_of_le (hp.lt k hk) hp.size, fun hm => ?_⟩, hp.same k hk⟩;obtain ⟨⟨b', o⟩, hx, rfl⟩ := List.mem_map.1 hm
  rw [List.flatten_append] at hp;exact hp.out b' o (List.mem_append_left _ hx) hk
/-- A cell of one of many blocks that are held as one segment. -/
theorem rdG {S : Nat → Prop} {w0 : World} {segs out : List Seg} {G : Seg} {b i : Nat} {cs : List Value} {T : TypeId} {v : Value} [pk : Pick segs G out] (hin : (b, blk cs T) ∈ G) (hi : cs[i]? = some v) : Rd S w0 segs b i v := fun w hp => by
  have hb := hp.own b _ (pk.perm.symm.subset (List.mem_append_left _ hin))
  simp [World.cell?, hb, hi]
theorem Sub.reg {segs out out' : List Seg} (h : Sub segs out) (e : out.flatten = out'.flatten) : Sub segs out' := by
  obtain ⟨rest, h⟩ := h; exact ⟨rest, by rw [← e]; exact h⟩
theorem Sub.op2 {a m : Seg} {segs out parts : List Seg} (hm : m = parts.flatten) (h : Sub (a :: (parts ++ segs)) out) : Sub (a :: m :: segs) out := by
  obtain ⟨rest, h⟩ := h
  exact ⟨rest, by subst hm; simpa using h⟩
theorem Sub.op3 {a b m : Seg} {segs out parts : List Seg} (hm : m = parts.flatten) (h : Sub (a :: b :: (parts ++ segs)) out) : Sub (a :: b :: m :: segs) out := by
  obtain ⟨rest, h⟩ := h
  exact ⟨rest, by subst hm; simpa using h⟩
/-! ### asking for a round -/
def YMeets (P : Program) (l : Nat) (args : List Value) (w : World) (own : List Seg) (Φ : Value → List Seg → Prop) : Prop :=
  ∃ f tmps assign body, (Instr.yield l args.toArray).run P w = .ok (.round l f tmps assign body) w ∧ RoundIn (FW none) 0 P l f tmps assign body w (eN w own Φ)
section
variable {P : Program} {n : Nat} {S : Nat → Prop} {w0 : World} {rd : Option Nat} {mk : List Nat} {env : Env} {segs : List Seg} {K : Value → List Seg → Prop} {d : Option Tmp} {ty : TypeId} {pos : String} {af : Array Edge} {g : Option (Nat × Bool)}
theorem o_yield (own fr : List Seg) {l : Nat} {x : Operand} {args : List Operand} {tys : Array TypeId} {vs : List Value} {Φ : Value → List Seg → Prop}
    (hx : ev env x = some (.func (.yield l) #[] #[])) (ha : evs env args = some vs) (hsub : Sub segs (own ++ fr)) (hspec : ∀ w, Hp S w0 (own ++ fr).flatten w → YMeets P l vs w own Φ) (k : ∀ v own', Φ v own' → K v (own' ++ fr)) :
    DoesR P n S w0 rd mk env segs ⟨d, .call ⟨.value x, args.toArray, tys⟩, ty, pos, af, g⟩ K := by
  intro a w next Q hE hp hk
  obtain ⟨f, tmps, assign, body, hrun, hR⟩ := hspec w (hp.sub hsub)
  unfold Oper.wpIn
  refine ⟨fun _ _ => trivial, ?_⟩;rw [Oper.semAt_eq _ _ _ (fun c hc => by cases hc)]
  have hex : (execOp a.eval ⟨d, .call ⟨.value x, args.toArray, tys⟩, ty, pos, af, g⟩).run P w = .ok (.round l f tmps assign body) w := by
    simp [execOp, resolve, Deferred.ofValue, invoke, hE.eval hx, hE.evals ha, hrun]
  rw [hex];refine ⟨(fun h => by cases h), ?_⟩
  show RoundIn (FW none) 0 P l f tmps assign body w _
  refine RoundIn.mono hR ?_;rintro e w' ⟨v, own', rfl, hp', hΦ⟩;exact hk v _ w' (k v own' hΦ) ((hp.sub hsub).called hp')
end
/-! ### the statement 'for .. range f' -/
/-- What a loop's record bears. -/
structure LoopD where
  fn : FuncId
  tmps : Array Value
  params : Array Tmp
  assign : Code
  body : Code
  D : Nat
def LoopD.rc (d : LoopD) (st : LoopState) (pe : Option Code) : Loop := { state := st, pending := pe, fn := d.fn, tmps := d.tmps, params := d.params, assign := d.assign, body := d.body, defers := d.D }
/-- The caller's memory with the loop's two blocks. -/
abbrev jC (l : Nat) (d : LoopD) (st : LoopState) (pe : Option Code) (m : Seg) : Seg := (l, .loop (d.rc st pe)) :: (d.D, .deferred (some [])) :: m
/-- What a round hands over: J between two rounds, Jx behind a round that has left. -/
def YPost {β : Type} (l : Nat) (d : LoopD) (I Ix : List β → Seg → Prop) (cx : Code) (ys : List β) (u : Value) (own' : List Seg) : Prop :=
  ∃ m', own' = [m'] ∧ ((u = .bool true ∧ ∃ m, m' = jC l d .ready none m ∧ I ys m) ∨ (u = .bool false ∧ ∃ m, m' = jC l d .done (some cx) m ∧ Ix ys m))
/-- An iterator: for whatever is done in its rounds, J between two rounds (what has come), Jx behind a round that has left. -/
def IterAt {β : Type} (P : Program) (gf : FuncId) (lb : List Value) (own : List Seg) (enc : β → Value) (may : List β → β → Prop) (Fin Stp : List β → List Seg → Prop) (m0 : Seg) (w : World) : Prop :=
  ∀ (l : Nat) (J Jx : List β → Seg → Prop), J [] m0 → Owns w (m0 :: own) →
    (∀ ys y w' m, J ys m → may ys y → Owns w' [m] → (∀ k, Fr w (m0 :: own) k → Fr w' [m] k ∧ w'.heap[k]? = w.heap[k]?) →
      YMeets P l [enc y] w' [m] fun u own' => ∃ m', own' = [m'] ∧ ((u = .bool true ∧ J (ys ++ [y]) m') ∨ (u = .bool false ∧ Jx (ys ++ [y]) m'))) →
    Meets P gf (.func (.yield l) #[] #[] :: lb) w (m0 :: own) fun u own' => u = .tuple #[] ∧ ∃ m' o', own' = m' :: o' ∧ ((∃ ys, Fin ys o' ∧ J ys m') ∨ (∃ ys, Stp ys o' ∧ Jx ys m'))
section
variable {P : Program} {n : Nat} {S' : Nat → Prop} {w' : World} {env : Env} {segs : List Seg} {β : Type} {l : Nat} {d : LoopD} {I Ix : List β → Seg → Prop} {cx : Code} {ys : List β} {m m' : Seg}
theorem lN (hs : Sub segs [[(l, .loop (d.rc .busy none))], [(d.D, .deferred (some []))], m']) (hI : I ys m') :
    WqR n (Fr w' [jC l d .ready none m]) w' [] (roundPost P l (eN w' [jC l d .ready none m] (YPost l d I Ix cx ys)) .normal) env segs := fun a w ha hp => by
  have hp1 : Hp (Fr w' [jC l d .ready none m]) w' ((l, Obj.loop (d.rc .busy none)) :: ((d.D, .deferred (some [])) :: m')) w := by simpa using hp.sub hs
  refine ⟨_, _, run_endRound none (hp1.own l _ (List.mem_cons_self ..)), .bool true, [jC l d .ready none m'], rfl, ?_, ⟨_, rfl, .inl ⟨rfl, _, rfl, hI⟩⟩⟩;have := Hp.putObj (.loop (d.rc .ready none)) hp1
  rw [List.flatten_cons, List.flatten_nil, List.append_nil]; exact this
theorem r_roundOut {e : Exit} (he : (e = .ret ∧ cx = .ret) ∨ ∃ id, e = .exit id ∧ cx = .exit id) (hs : Sub segs [[(l, .loop (d.rc .busy none))], [(d.D, .deferred (some []))], m']) (hI : Ix ys m') :
    WqR n (Fr w' [jC l d .ready none m]) w' [] (roundPost P l (eN w' [jC l d .ready none m] (YPost l d I Ix cx ys)) e) env segs := fun a w ha hp => by
  have hp1 : Hp (Fr w' [jC l d .ready none m]) w' ((l, Obj.loop (d.rc .busy none)) :: ((d.D, .deferred (some [])) :: m')) w := by simpa using hp.sub hs
  have hq := Hp.putObj (.loop (d.rc .done (some cx))) hp1
  rcases he with ⟨rfl, rfl⟩ | ⟨id, rfl, rfl⟩
  · exact ⟨_, _, run_endRound (some .ret) (hp1.own l _ (List.mem_cons_self ..)), .bool false, [jC l d .done (some .ret) m'], rfl, (by rw [List.flatten_cons, List.flatten_nil, List.append_nil]; exact hq), ⟨_, rfl, .inr ⟨rfl, _, rfl, hI⟩⟩⟩
  · exact ⟨_, _, run_endRound (some (.exit id)) (hp1.own l _ (List.mem_cons_self ..)), .bool false, [jC l d .done (some (.exit id)) m'], rfl, (by rw [List.flatten_cons, List.flatten_nil, List.append_nil]; exact hq), ⟨_, rfl, .inr ⟨rfl, _, rfl, hI⟩⟩⟩
end
section
variable {P : Program} {n : Nat} {S : Nat → Prop} {w0 : World} {mk : List Nat} {env : Env} {segs : List Seg} {Q : Exit → Act → World → Prop}
theorem r_range {β : Type} {g : Operand} {p : Tmp} {assign body : Code} {gf : FuncId} {lb : List Value} (hg : ev env g = some (.func (.func gf) #[] lb.toArray))
    (hc : ∀ args w, (callFunc gf args).run P w = .ok (.enter gf args) w) (hn : Nat.blt p n = true) (C own fr : List Seg) (hs : Sub segs (C ++ (own ++ fr)))
    (enc : β → Value) {may : List β → β → Prop} {Fin Stp : List β → List Seg → Prop}
    (hit : ∀ w1 m0, Hp S w0 (m0 :: (own ++ fr)).flatten w1 → IterAt P gf lb own enc may Fin Stp m0 w1)
    (I Ix : List β → Seg → Prop) (cx : Code) (h0 : I [] C.flatten)
    (hround : ∀ (w' : World) (l : Nat) (d : LoopD) (ys : List β) (y : β) (m : Seg), I ys m → may ys y → (∀ k, S k → Fr w' [jC l d .ready none m] k ∧ w'.heap[k]? = w0.heap[k]?) →
      ∀ K : Act → World → Prop, (∀ env' rest, WcR P n (Fr w' [jC l d .ready none m]) w' (some l) [] (roundPost P l (eN w' [jC l d .ready none m] (YPost l d I Ix cx (ys ++ [y])))) env' ([(l, .loop (d.rc .busy none))] :: rest) body →
          WqR n (Fr w' [jC l d .ready none m]) w' [] K env' ([(l, .loop (d.rc .ready none))] :: rest)) →
        WcR P n (Fr w' [jC l d .ready none m]) w' (some l) [] (Exit.then K fun _ _ _ => False) ((p, enc y) :: env) [[(l, .loop (d.rc .ready none))], [(d.D, .deferred (some []))], m] assign)
    (hdone : ∀ D ys m o', Fin ys o' → I ys m → WqR n S w0 (D :: mk) (Q .normal) env ([(D, .deferred (some []))] :: m :: (o' ++ fr)))
    (hstop : ∀ D ys m o', Stp ys o' → Ix ys m → WcR P n S w0 none (D :: mk) Q env ([(D, .deferred (some []))] :: m :: (o' ++ fr)) cx) :
    WcR P n S w0 none mk Q env segs (.rangeFunc g #[p] assign body) := by
  intro a w ha hp;refine wpIn_rangeFunc ?_;intro fn _;obtain ⟨d, hd⟩ : ∃ d : LoopD, d = ⟨fn, a.tmps, #[p], assign, body, w.heap.size⟩ := ⟨_, rfl⟩
  obtain ⟨l, hl⟩ : ∃ l, l = w.heap.size + 1 := ⟨_, rfl⟩
  obtain ⟨W1, hW1⟩ : ∃ W1, W1 = (w.alloc (.deferred (some []))).alloc (.loop (d.rc .ready none)) := ⟨_, rfl⟩
  have hD : d.D = w.heap.size := by rw [hd]
  have hp1 : Hp S w0 (jC l d .ready none C.flatten :: (own ++ fr)).flatten W1 := by
    have h1 := (Hp.alloc (hp.sub hs) (.deferred (some []))).alloc (.loop (d.rc .ready none))
    rw [World.size_alloc, ← hl, ← hW1, ← hD] at h1
    simpa using h1
  refine ⟨l, [{ target := .collected w.heap.size, args := #[] }], W1, { target := .fn (.func gf) lb.toArray, args := #[.func (.yield l) #[] #[]] }, W1, gf,
    (.func (.yield l) #[] #[] :: lb).toArray, W1, ?_, ?_, fun _ _ => trivial, ?_, (fun h => by cases h), ?_⟩
  · have := run_enterLoop_outer (P := P) (w := w) fn a.tmps #[p] assign body
    rw [hl, hW1, hd]; exact this
  · simp [resolve, Deferred.ofValue, ha.eval hg]
    simp [Act.eval]
  · simp [invoke, hc]
  have hown : Owns W1 (jC l d .ready none C.flatten :: own) := Hp.owns (fr := fr) hp1
  have hSF : ∀ k, S k → Fr W1 (jC l d .ready none C.flatten :: own) k ∧ W1.heap[k]? = w0.heap[k]? := fun k hk => by
    refine ⟨⟨Nat.lt_of_lt_of_le (hp1.lt k hk) hp1.size, fun hm => ?_⟩, hp1.same k hk⟩;obtain ⟨⟨b', o⟩, hx, rfl⟩ := List.mem_map.1 hm
    refine hp1.out b' o ?_ hk;have e : (jC l d .ready none C.flatten :: (own ++ fr)) = (jC l d .ready none C.flatten :: own) ++ fr := rfl
    rw [e, List.flatten_append];exact List.mem_append_left _ hx
  have hM := hit W1 _ hp1 l (fun ys m => ∃ m', m = jC l d .ready none m' ∧ I ys m') (fun ys m => ∃ m', m = jC l d .done (some cx) m' ∧ Ix ys m') ⟨_, rfl, h0⟩ hown ?_
  · show CallsIn Fence.wide 0 P gf _ W1 _
    refine callsIn_wide.2 (Calls.mono hM ?_);rintro e w3 ⟨v, own', rfl, hp3, rfl, m', o', rfl, hc3⟩;have hp4 := Hp.called (own := jC l d .ready none C.flatten :: own) (fr := fr) hp1 hp3
    have hE : EnR n (w.heap.size :: mk) env { a with defers := [{ target := .collected w.heap.size, args := #[] }] ++ a.defers } := ⟨ha.size, by simp [ha.defers], ha.get⟩
    rcases hc3 with ⟨ys, hF, m, rfl, hI⟩ | ⟨ys, hF, m, rfl, hI⟩
    · have hp5 : Hp S w0 ((l, Obj.loop (d.rc .ready none)) :: ((d.D, .deferred (some [])) :: (m ++ (o' ++ fr).flatten))) w3 := by simpa using hp4
      refine ⟨none, _, run_endLoop (hp5.own l _ (List.mem_cons_self ..)) (by simp [LoopD.rc]), ?_⟩;have hp6 := Hp.tailR (Hp.putObj (.loop { d.rc .ready none with state := .exhausted }) hp5)
      rw [hD] at hp6;exact hdone w.heap.size ys m o' hF hI _ _ hE (by simpa using hp6)
    · have hp5 : Hp S w0 ((l, Obj.loop (d.rc .done (some cx))) :: ((d.D, .deferred (some [])) :: (m ++ (o' ++ fr).flatten))) w3 := by simpa using hp4
      refine ⟨some cx, _, run_endLoop (hp5.own l _ (List.mem_cons_self ..)) (by simp [LoopD.rc]), ?_⟩;have hp6 := Hp.tailR (Hp.putObj (.loop { d.rc .done (some cx) with state := .exhausted }) hp5)
      rw [hD] at hp6;exact hstop w.heap.size ys m o' hF hI _ _ hE (by simpa using hp6)
  · rintro ys y w' _ ⟨m, rfl, hI⟩ hmay hown' hfr
    refine ⟨fn, a.tmps.setIfInBounds p (enc y), assign, body, ?_, ?_⟩
    · have hy := run_yield (P := P) (w := w') (l := l) (r := d.rc .ready none) (args := #[enc y]) (hown'.there l _ (by simp)) (by rw [hd]; rfl)
      rw [hd] at hy
      simpa [LoopD.rc] using hy
    · refine RoundIn.mono (R := eN w' [jC l d .ready none m] (YPost l d I Ix cx (ys ++ [y]))) (roundIn_of_wpIn trivial ?_) ?_
      · refine hround w' l d ys y m hI hmay (fun k hk => ⟨(hfr k (hSF k hk).1).1, (hfr k (hSF k hk).1).2.trans (hSF k hk).2⟩) _ ?_ _ w' ?_ (by simpa using Hp.start hown')
        · intro env' rest hb a1 w1 ha1 hp1'
          have hp2 : Hp (Fr w' [jC l d .ready none m]) w' ((l, Obj.loop (d.rc .ready none)) :: rest.flatten) w1 := by simpa using hp1'
          refine ⟨_, run_beginRound (hp2.own l _ (List.mem_cons_self ..)) rfl, hb _ _ ha1 ?_⟩;have := Hp.putObj (.loop (d.rc .busy none)) hp2
          rw [List.flatten_cons, List.singleton_append]; exact this
        · have := ha.put hn (enc y)
          exact ⟨by simpa [Act.put] using this.size, rfl, by simpa [Act.put] using this.get⟩
      · rintro e w'' ⟨v, own', rfl, hp', m', rfl, hΦ⟩
        exact ⟨v, _, rfl, hp', m', rfl, hΦ⟩
end
end Go.Proofs.YtjjogcnjcnpehaaGreat.Fly

/- grow.around, and the function that it hands back: the vertices around a centre, nearest first. -/
namespace Go.Proofs.YtjjogcnjcnpehaaGreat
open Go Go.RowKit Fly
set_option linter.unusedVariables false
set_option linter.unusedSimpArgs false
abbrev dW (l : List Bool) : List Value := l.map .bool
theorem l8 (l : List Bool) (i : Nat) (b : Bool) : (dW l).set i (.bool b) = dW (l.set i b) := by simp [dW, List.map_set]
theorem boolsG_at {l : List Bool} {i : Nat} (h : i < l.length) : (dW l)[i]? = some (.bool (l.getD i false)) := by simp [List.getD_eq_getElem?_getD, h]
/-- What the iterator holds: three boxes, the marks, the rows. -/
abbrev arSegs (n c bin bo b3 b4 b5 : Nat) (b : List Bool) (vs : List Value) (G : Seg) : List Seg :=
  [[(b5, blk [.slice (some ⟨bin, 0, none⟩) n n] 43)], [(b4, blk [.int .i64 (c : Int)] 3)], [(b3, blk [.slice (some ⟨bo, 0, none⟩) n n] 30)], [(bin, blk (dW b) 4)], [(bo, blk vs 25)], G]
def arMay (F : BSt) (ys : List Int) (y : Int) : Prop := ∃ k, ∃ h : k < F.1.length, ys = F.1.take k ∧ y = F.1[k]
def arFin (F : BSt) (n c bin bo b3 b4 b5 : Nat) (vs : List Value) (G : Seg) (ys : List Int) (o : List Seg) : Prop := ys = F.1 ∧ o = arSegs n c bin bo b3 b4 b5 F.2 vs G
def arStp (F : BSt) (n c bin bo b3 b4 b5 : Nat) (vs : List Value) (G : Seg) (ys : List Int) (o : List Seg) : Prop := ∃ k, k < F.1.length ∧ ys = F.1.take (k + 1) ∧ ∃ b', b'.length = n ∧ o = arSegs n c bin bo b3 b4 b5 b' vs G
theorem drop_cons_of {α : Type} {l : List α} {k : Nat} (h : k < l.length) : l.drop k = l[k] :: l.drop (k + 1) := (List.getElem_cons_drop h).symm
theorem row_blk {E : TypeId} {ls : List (List Int)} {vs : List Value} {ms : List Seg} (hR : RowsI E ls vs ms) {i : Nat} (hi : i < ls.length) : ∃ A c, vs[i]? = some (.slice A ls[i].length c) ∧ (0 < ls[i].length → ∃ br sp, A = some ⟨br, 0, none⟩ ∧ (br, blk (a6 ls[i] ++ sp) E) ∈ ms.flatten) := by
  have ho := hR.own i hi
  obtain ⟨A, c, e, _⟩ := ho.val
  rw [e] at ho;refine ⟨A, c, by rw [List.getElem?_eq_getElem (by rw [hR.lv]; exact hi), e], fun hl => ?_⟩;obtain ⟨br, sp, rfl, hm⟩ := ho.at_ hl
  exact ⟨br, sp, rfl, List.mem_flatten.2 ⟨_, List.getElem_mem (by rw [hR.lm]; exact hi), by rw [hm]; simp⟩⟩
set_option maxRecDepth 100000 in
set_option maxHeartbeats 4000000 in
theorem around_spec (n bo bin : Nat) (c : Int) (w : World) :
    Meets Tryz.prog 88 [.slice (some ⟨bo, 0, none⟩) n n, .int .i64 c, .slice (some ⟨bin, 0, none⟩) n n] w [] (fun u own' => ∃ b3 b4 b5, u = .func (.func 111) #[] #[.pointer (some ⟨b5, 0, none⟩), .pointer (some ⟨b4, 0, none⟩), .pointer (some ⟨b3, 0, none⟩)] ∧ own' = [[(b5, blk [.slice (some ⟨bin, 0, none⟩) n n] 43)], [(b4, blk [.int .i64 c] 3)], [(b3, blk [.slice (some ⟨bo, 0, none⟩) n n] 30)]]) := by
 refine bJ Tryz.func88 rfl Tryz.ntmps88 rfl Owns.nil ?_;refine aK fun K1 kh1 => ?_;refine aB ?_;refine aR rfl rfl rfl (cZ rfl rfl fun b3 => ?_);refine aR rfl rfl rfl (cZ rfl rfl fun b4 => ?_);refine aR rfl rfl rfl (cZ rfl rfl fun b5 => ?_);refine aA rfl rfl rfl (aF rfl) ?_;refine aJ ?_;refine aL (kh1 _ _ ?_);clear kh1;refine aK fun K2 kh2 => ?_;refine aB ?_;refine aA rfl rfl rfl (o_func rfl rfl) ?_;refine aA rfl rfl rfl (aF rfl) ?_;refine aJ ?_;refine aL (kh2 _ _ ?_);clear kh2;refine a7 ?_;exact bP [[(b5, blk [.slice (some ⟨bin, 0, none⟩) n n] 43)], [(b4, blk [.int .i64 c] 3)], [(b3, blk [.slice (some ⟨bo, 0, none⟩) n n] 30)]] Tryz.results88 rfl (by repeat first|exact aI|refine aD ?_|refine aC rfl ?_|refine aH ?_) ⟨b3, b4, b5, rfl, rfl⟩
set_option maxRecDepth 100000 in
set_option maxHeartbeats 4000000 in
theorem l9 (n c bin bo b3 b4 b5 : Nat) (l : List Arc) (b0 : List Bool) (vs : List Value) (ms : List Seg) (m0 : Seg) (w : World) (hb0 : b0.length = n) (hc : c < n) (hn : n ≤ 1024) (hR : RowsI 3 (nrows n l) vs ms) (hrng : ∀ v, v < n → ∀ u ∈ bY (v : Int) l, 0 ≤ u ∧ u < (n : Int)) (hrl : ∀ v : Nat, (bY (v : Int) l).length ≤ 8192) :
    IterAt Tryz.prog 111 [.pointer (some ⟨b5, 0, none⟩), .pointer (some ⟨b4, 0, none⟩), .pointer (some ⟨b3, 0, none⟩)] (arSegs n c bin bo b3 b4 b5 b0 vs ms.flatten) (fun y : Int => .int .i64 y) (arMay (bfs n (fun v : Nat => bY (v : Int) l) c b0)) (arFin (bfs n (fun v : Nat => bY (v : Int) l) c b0) n c bin bo b3 b4 b5 vs ms.flatten) (arStp (bfs n (fun v : Nat => bY (v : Int) l) c b0) n c bin bo b3 b4 b5 vs ms.flatten) m0 w := by
 intro l_ J Jx hJ0 hown hY;have hvl : vs.length = n := by have := hR.lv; rwa [nrows_len] at this
 have hI0 : BInv n (eA c b0) := BInv.start hb0 hc
 refine r_enter Tryz.func111 rfl Tryz.ntmps111 rfl hown ?_;refine cL fun K1 kh1 => ?_;refine bE ?_;refine aP rfl rfl rfl rfl (aM Tryz.isAgg43 rfl (rdA rfl)) ?_;refine aP rfl rfl rfl rfl (aM Tryz.isAgg3 rfl (rdA rfl)) ?_;refine aP rfl rfl rfl rfl (bA kW rfl rfl (c) ⟨by omega, by omega, by first | omega | (simp; done) | (simp; omega)⟩) ?_;refine iM rfl rfl (Does.toR rfl (cB Tryz.sizeOf4 rfl rfl rfl rfl (by simp [dW]; omega) (dW (b0.set c true)) (l8 ..) ?_));refine bV ?_;refine cT (kh1 _ _ _ ?_);clear kh1;refine cL fun K2 kh2 => ?_;refine bE ?_;refine aP rfl rfl rfl rfl (aM Tryz.isAgg3 rfl (rdA rfl)) ?_;refine eI rfl rfl rfl (Does.toR rfl (dA dV (by omega) rfl rfl rfl fun b12 => ?_));refine aP rfl rfl rfl rfl (aF rfl) ?_;refine bV ?_;refine cT (kh2 _ _ _ ?_);clear kh2;refine eK ?_;refine r_loop (α := Nat × Value × Seg × Seg) (fun ⟨k, qv, qm, mJ⟩ => []) [0, 1, 3] (fun ⟨k, qv, qm, mJ⟩ => [(5, qv)]) (fun ⟨k, qv, qm, mJ⟩ => [[(b5, blk [.slice (some ⟨bin, 0, none⟩) n n] 43)], [(b4, blk [.int .i64 (c : Int)] 3)], [(b3, blk [.slice (some ⟨bo, 0, none⟩) n n] 30)], [(bin, blk (dW (bgo (fun v : Nat => bY (v : Int) l) (eA c b0) k).2) 4)], [(bo, blk vs 25)], ms.flatten, qm, mJ]) (fun ⟨k, qv, qm, mJ⟩ => k ≤ (bgo (fun v : Nat => bY (v : Int) l) (eA c b0) k).1.length ∧ OwnQ 3 qv (a6 ((bgo (fun v : Nat => bY (v : Int) l) (eA c b0) k).1.drop k)) qm ∧ J ((bfs n (fun v : Nat => bY (v : Int) l) c b0).1.take k) mJ) (fun ⟨k, qv, qm, mJ⟩ => n - k) (0, .slice (some ⟨b12, 0, none⟩) 1 1, [(b12, blk [.int .i64 (c : Int)] 3)], m0) rfl ?_ ?_ ?_ ?_
 · exact (by repeat constructor)
 · repeat first|exact aI|refine aD ?_|refine aC rfl ?_|refine aH ?_
 · exact ⟨Nat.zero_le _, OwnQ.one _ _ _, by rw [List.take_zero]; exact hJ0⟩
 ·
  rintro ⟨k, qv, qm, mJ⟩ ⟨hkl, hQ, hJ⟩;have hI := BInv.go hrng hI0 k
  have hIo := hI.out
  obtain ⟨st, hst⟩ : ∃ st, st = bgo (fun v : Nat => bY (v : Int) l) (eA c b0) k := ⟨_, rfl⟩
  dsimp only;rw [← hst] at hkl hQ hI hIo ⊢;have hQ0 := hQ
  have hql := aX (st.1.drop k)
  rw [List.length_drop] at hql;obtain ⟨bw, ow, cw, pre, sp, rfl, rfl, hq1, hq2, hq3, hq4⟩ := hQ
  refine cL fun K3 kh3 => ?_;refine cL fun K4 kh4 => ?_;refine bE ?_;refine aP rfl rfl rfl rfl (aG rfl) ?_;refine aP rfl rfl rfl rfl (bS bK rfl) ?_;refine aP rfl rfl rfl rfl (eQ rfl rfl) ?_;refine bV ?_;refine cT (kh4 _ _ _ ?_);clear kh4;refine iC rfl (fun c15 => ?_) (fun c15 => ?_)
  ·
   have hkl2 : k < st.1.length := by omega
   have hpre := hq4 (by omega)
   obtain ⟨v, hv⟩ : ∃ v, v = st.1[k] := ⟨_, rfl⟩
   have hdc : st.1.drop k = v :: st.1.drop (k + 1) := by rw [hv]; exact drop_cons_of hkl2
   have hvr := hI.rng _ (List.getElem_mem hkl2)
   rw [← hv] at hvr;obtain ⟨vn, rfl⟩ : ∃ vn : Nat, v = (vn : Int) := ⟨v.toNat, by omega⟩
   have hvn : vn < n := by omega
   obtain ⟨hgl0, hge⟩ := bgo_get (n := n) (rows := (fun v : Nat => bY (v : Int) l)) (s := eA c b0) (k := k) (by omega) (by rw [← hst]; exact hkl2)
   have hgl : k < (bfs n (fun v : Nat => bY (v : Int) l) c b0).1.length := hgl0
   have hge' : (bfs n (fun v : Nat => bY (v : Int) l) c b0).1[k] = (vn : Int) := by rw [hv]; refine hge.trans ?_; simp only [hst]
   have hys : (bfs n (fun v : Nat => bY (v : Int) l) c b0).1.take k ++ [(vn : Int)] = (bfs n (fun v : Nat => bY (v : Int) l) c b0).1.take (k + 1) := by rw [List.take_succ_eq_append_getElem hgl, hge']
   refine fU ?_;refine cT (kh3 _ _ _ ?_);clear kh3;refine cL fun K5 kh5 => ?_;refine eK ?_;refine cL fun K6 kh6 => ?_;refine cL fun K7 kh7 => ?_;refine bE ?_;refine aP rfl rfl rfl rfl (aG rfl) ?_;refine aP rfl rfl rfl rfl (aG rfl) ?_;refine aP rfl rfl rfl rfl (bA bK rfl rfl (ow) ⟨by omega, by omega, by first | omega | (simp; done) | (simp; omega)⟩) ?_;refine aP rfl rfl rfl rfl (aM Tryz.isAgg3 rfl (rdA (v := .int .i64 (vn : Int)) (by rw [← hpre, hdc]; simp [a6]))) ?_;refine eI rfl rfl rfl (o_yield [mJ] _ rfl rfl (by repeat (first | exact Sub.refl | refine aD ?_)) (fun w_ hp_ => hY _ (vn : Int) w_ mJ hJ ⟨k, hgl, rfl, hge'.symm⟩ hp_.owns (fun k hk => hp_.fz k hk)) ?_);rintro v22 _ ⟨m2, rfl, hy2⟩
   obtain ⟨bb, rfl, hy3⟩ : ∃ bb, v22 = .bool bb ∧ ((bb = true ∧ J ((bfs n (fun v : Nat => bY (v : Int) l) c b0).1.take k ++ [(vn : Int)]) m2) ∨ (bb = false ∧ Jx ((bfs n (fun v : Nat => bY (v : Int) l) c b0).1.take k ++ [(vn : Int)]) m2)) := by
     rcases hy2 with ⟨rfl, h⟩ | ⟨rfl, h⟩
     · exact ⟨_, rfl, .inl ⟨rfl, h⟩⟩
     · exact ⟨_, rfl, .inr ⟨rfl, h⟩⟩
   dsimp only [List.cons_append, List.nil_append];refine aP rfl rfl rfl rfl (kG rfl) ?_;refine bV ?_;refine cT (kh7 _ _ _ ?_);clear kh7;refine r_condB rfl (fun c23 => ?_) (fun c23 => ?_)
   ·
    refine jX ?_;refine r_tr ?_;refine r_br ?_;refine r_tr ?_;refine r_tr ?_;refine r_br ?_;have hJx2 : Jx _ m2 := (hy3.resolve_left (fun h => by rw [h.1] at c23; cases c23)).2
    exact r_fin0 [m2, [(b5, blk [.slice (some ⟨bin, 0, none⟩) n n] 43)], [(b4, blk [.int .i64 (c : Int)] 3)], [(b3, blk [.slice (some ⟨bo, 0, none⟩) n n] 30)], [(bin, blk (dW st.2) 4)], [(bo, blk vs 25)], ms.flatten] Tryz.results111 (by repeat first|exact aI|refine aD ?_|refine aC rfl ?_|refine aH ?_) ⟨rfl, m2, _, rfl, .inr ⟨_, ⟨k, hgl, hys, st.2, hI.len, rfl⟩, hJx2⟩⟩
   ·
    refine fU ?_;refine cT (kh6 _ _ _ ?_);clear kh6;refine cL fun K8 kh8 => ?_;have hJ2 : J _ m2 := (hy3.resolve_right (fun h => by rw [h.1] at c23; cases c23)).2
    obtain ⟨Ar, cr, hrv, hrow⟩ := row_blk hR (i := vn) (by rw [nrows_len]; exact hvn)
    rw [nrows_get] at hrv hrow;have hrll := hrl vn
    refine r_old ?_;refine fY rfl (by decide +kernel) ?_;refine aN rfl rfl rfl (aM Tryz.isAgg30 rfl (rdA rfl)) ?_;refine aN rfl rfl rfl (aG rfl) ?_;refine aN rfl rfl rfl (bA bK rfl rfl (ow) ⟨by omega, by omega, by first | omega | (simp; done) | (simp; omega)⟩) ?_;refine aN rfl rfl rfl (aM Tryz.isAgg3 rfl (rdA (v := .int .i64 (vn : Int)) (by rw [← hpre, hdc]; simp [a6]))) ?_;refine aN rfl rfl rfl (bA gD rfl rfl (vn) ⟨by omega, by omega, by first | omega | (simp; done) | (simp; omega)⟩) ?_;refine aN rfl rfl rfl (aM Tryz.isAgg25 rfl (rdA hrv)) ?_;refine aN rfl rfl rfl (bS bK rfl) ?_;refine aN rfl rfl rfl (aG rfl) ?_;refine eH ?_;refine r_new ?_;refine cT (kh8 _ _ _ ?_);clear kh8;refine eK ?_;refine r_loop (α := Nat × BSt × Value × Seg) (fun ⟨j, s2, qv2, qm2⟩ => []) [0, 1, 3, 29, 30] (fun ⟨j, s2, qv2, qm2⟩ => [(31, .int .i64 (j : Int)), (5, qv2)]) (fun ⟨j, s2, qv2, qm2⟩ => [[(b5, blk [.slice (some ⟨bin, 0, none⟩) n n] 43)], [(b4, blk [.int .i64 (c : Int)] 3)], [(b3, blk [.slice (some ⟨bo, 0, none⟩) n n] 30)], [(bin, blk (dW s2.2) 4)], [(bo, blk vs 25)], ms.flatten, qm2, m2]) (fun ⟨j, s2, qv2, qm2⟩ => j ≤ (bY (vn : Int) l).length ∧ s2 = fZ ((bY (vn : Int) l).take j) st ∧ BInv n s2 ∧ st.1.length ≤ s2.1.length ∧ OwnQ 3 qv2 (a6 (s2.1.drop k)) qm2) (fun ⟨j, s2, qv2, qm2⟩ => (bY (vn : Int) l).length - j) (0, st, .slice (some ⟨bw, ow, none⟩) (a6 (st.1.drop k)).length cw, [(bw, blk (pre ++ (a6 (st.1.drop k) ++ sp)) 3)]) rfl ?_ ?_ ?_ ?_
    · exact (by repeat constructor)
    · repeat first|exact aI|refine aD ?_|refine aC rfl ?_|refine aH ?_
    · exact ⟨Nat.zero_le _, rfl, hI, Nat.le_refl _, hQ0⟩
    ·
     rintro ⟨j, s2, qv2, qm2⟩ ⟨hjl, hs2, hI2, hl2, hQ2⟩;have hIo2 := hI2.out
     refine r_envC (e := [(31, _), (5, _), (0, _), (1, _), (3, _), (29, _), (30, _)]) (by repeat constructor) ?_;refine cL fun K9 kh9 => ?_;refine bE ?_;refine aP rfl rfl rfl rfl (cD rfl rfl) ?_;refine bV ?_;refine cT (kh9 _ _ _ ?_);clear kh9;refine cL fun K10 kh10 => ?_;refine iC rfl (fun c32 => ?_) (fun c32 => ?_)
     ·
      refine fU ?_;refine cT (kh10 _ _ _ ?_);clear kh10;refine cL fun K11 kh11 => ?_;refine eK ?_;refine cL fun K12 kh12 => ?_;refine bE ?_;have hj : j < (bY (vn : Int) l).length := by omega
      obtain ⟨br, spr, rfl, hbr⟩ := hrow (by omega)
      have hur := hrng vn hvn _ (List.getElem_mem hj)
      obtain ⟨un, hue⟩ : ∃ un : Nat, (bY (vn : Int) l)[j] = (un : Int) := ⟨((bY (vn : Int) l)[j]).toNat, by omega⟩
      refine aP rfl rfl rfl rfl (bA bK rfl rfl (j) ⟨by omega, by omega, by first | omega | (simp; done) | (simp; omega)⟩) ?_;refine aP rfl rfl rfl rfl (aM Tryz.isAgg3 rfl (rdG (v := .int .i64 ((un : Nat) : Int)) hbr (dN (by rw [dL hj, hue])))) ?_;refine aP rfl rfl rfl rfl (aF rfl) ?_;refine bV ?_;refine cT (kh12 _ _ _ ?_);clear kh12;refine cL fun K13 kh13 => ?_;refine bE ?_;refine aP rfl rfl rfl rfl (aM Tryz.isAgg43 rfl (rdA rfl)) ?_;refine aP rfl rfl rfl rfl (aG rfl) ?_;refine aP rfl rfl rfl rfl (bA kW rfl rfl (un) ⟨by omega, by omega, by first | omega | (simp; done) | (simp; omega)⟩) ?_;refine aP rfl rfl rfl rfl (aM Tryz.isAgg4 rfl (rdA (boolsG_at (by rw [hI2.len]; omega)))) ?_;refine aP rfl rfl rfl rfl (kG rfl) ?_;refine bV ?_;refine cT (kh13 _ _ _ ?_);clear kh13;refine r_condB rfl (fun c39 => ?_) (fun c39 => ?_)
      ·
       have hbu : s2.2.getD un false = false := by simpa using c39
       have hpn : (s2.1 ++ [((un : Nat) : Int)], s2.2.set un true) = fZ ((bY (vn : Int) l).take (j + 1)) st := by rw [l7 hj, ← hs2, gG, hue, Int.toNat_natCast, if_neg (by rw [hbu]; simp)]
       refine cL fun K14 kh14 => ?_;refine bE ?_;refine aP rfl rfl rfl rfl (aM Tryz.isAgg43 rfl (rdA rfl)) ?_;refine aP rfl rfl rfl rfl (aG rfl) ?_;refine aP rfl rfl rfl rfl (bA kW rfl rfl (un) ⟨by omega, by omega, by first | omega | (simp; done) | (simp; omega)⟩) ?_;refine iM rfl rfl (Does.toR rfl (cB Tryz.sizeOf4 rfl rfl rfl rfl (by have := hI2.len; simp [dW]; omega) (dW (s2.2.set un true)) (l8 ..) ?_));refine bV ?_;refine cT (kh14 _ _ _ ?_);clear kh14;refine bE ?_;refine aP rfl rfl rfl rfl (aG rfl) ?_;refine aP rfl rfl rfl rfl (aG rfl) ?_;refine eI rfl rfl rfl (Does.toR rfl (dA dV (by omega) rfl rfl rfl fun b45 => ?_));refine eI rfl rfl rfl (Does.toR rfl (o_appendO dV rfl rfl hQ2 (ys := [.int .i64 ((un : Nat) : Int)]) ⟨(rdA rfl), trivial⟩ rfl (by omega) rfl (by rw [aX, List.length_drop]; omega) (by rw [aX, List.length_drop]; omega) fun v46 m46 o46 => ?_));refine aP rfl rfl rfl rfl (aF rfl) ?_;refine bV ?_;refine r_bn ?_;refine cT (kh11 _ _ _ ?_);clear kh11;refine bE ?_;refine aP rfl rfl rfl rfl (bG rfl rfl _ (aT (by omega))) ?_;refine aP rfl rfl rfl rfl (aG rfl) ?_;refine bV ?_;refine cT (i4 (j + 1, (s2.1 ++ [((un : Nat) : Int)], s2.2.set un true), v46, m46) (by first | omega | (dsimp only; omega) | (simp; omega)) rfl ⟨by omega, hpn, by rw [hpn, l7 hj, ← hs2]; exact hI2.push1 hur, by simp; omega, by rw [List.drop_append_of_le_length (by omega), dZ]; exact o46⟩ ?_ ?_ ?_)
       · exact (by repeat constructor)
       · exact (by repeat constructor)
       · repeat first|exact aI|refine aD ?_|refine aC rfl ?_|refine aH ?_
      ·
       have hbu : s2.2.getD un false = true := by simpa using c39
       refine fU ?_;refine r_bn ?_;refine cT (kh11 _ _ _ ?_);clear kh11;refine bE ?_;refine aP rfl rfl rfl rfl (bG rfl rfl _ (aT (by omega))) ?_;refine aP rfl rfl rfl rfl (aG rfl) ?_;refine bV ?_;refine cT (i4 (j + 1, s2, qv2, qm2) (by first | omega | (dsimp only; omega) | (simp; omega)) rfl ⟨by omega, by rw [l7 hj, ← hs2, gG, if_pos (by rw [hue] at *; simpa using hbu)], hI2, hl2, hQ2⟩ ?_ ?_ ?_)
       · exact (by repeat constructor)
       · exact (by repeat constructor)
       · repeat first|exact aI|refine aD ?_|refine aC rfl ?_|refine aH ?_
     ·
      refine iY ?_;refine r_te ?_;clear kh10;refine r_te ?_;refine r_be ?_;refine r_bn ?_;refine cT (kh5 _ _ _ ?_);clear kh5
      have hst2 : s2 = bgo (fun v : Nat => bY (v : Int) l) (eA c b0) (k + 1) := by
        rw [hs2, List.take_of_length_le (by omega)]
        show _ = iT _ k (bgo (fun v : Nat => bY (v : Int) l) (eA c b0) k)
        rw [← hst, lG hkl2, ← hv, Int.toNat_natCast]
      have hq2l := aX (s2.1.drop k)
      rw [List.length_drop] at hq2l;have hQ2' := hQ2
      obtain ⟨bw2, ow2, cw2, pre2, sp2, rfl, rfl, hq21, hq22, hq23, hq24⟩ := hQ2'
      obtain ⟨st2, rfl⟩ : ∃ st2, st2 = s2 := ⟨_, rfl⟩
      have hv2 : st2.1[k]'(by omega) = (vn : Int) := by
        obtain ⟨r, hr⟩ := bpush_ext ((bY (vn : Int) l).take j) st
        rw [← hs2] at hr;simp only [hr];rw [List.getElem_append_left hkl2]; exact hv.symm
      refine bE ?_;refine aP rfl rfl rfl rfl (aG rfl) ?_;refine aP rfl rfl rfl rfl (e5 bK rfl rfl rfl rfl (fun h => by cases h) 1 _ _ (.inr ⟨_, _, rfl, by omega⟩) (.inl ⟨rfl, rfl⟩) (.inl ⟨rfl, rfl⟩) ⟨by omega, by omega, by omega⟩ _ rfl) ?_;refine aP rfl rfl rfl rfl (aF rfl) ?_;refine bV ?_;have hnx : bgo (fun v : Nat => bY (v : Int) l) (eA c b0) (k + 1) = st2 := hst2.symm
      rw [← hnx];refine cT (i4 (k + 1, .slice (if cw2 = 1 then some ⟨bw2, ow2, none⟩ else (some ⟨bw2, ow2, none⟩ : Option Addr).map (·.add (1 * 1))) ((a6 ((bgo (fun v : Nat => bY (v : Int) l) (eA c b0) (k + 1)).1.drop k)).length - 1) (cw2 - 1), [(bw2, blk (pre2 ++ (a6 ((bgo (fun v : Nat => bY (v : Int) l) (eA c b0) (k + 1)).1.drop k) ++ sp2)) 3)], m2) (by first | omega | (dsimp only; omega) | (simp; omega)) rfl ⟨by rw [hnx]; omega, by rw [hnx]; refine OwnQ.tail (x := .int .i64 (vn : Int)) ?_; rw [show Value.int .i64 (vn : Int) :: a6 (st2.1.drop (k + 1)) = a6 (st2.1.drop k) from by rw [drop_cons_of (show k < st2.1.length by omega), hv2]; rfl]; exact hQ2, by rw [← hys]; exact hJ2⟩ ?_ ?_ ?_)
      · exact (by repeat constructor)
      · exact (by repeat constructor)
      · repeat first|exact aI|refine aD ?_|refine aC rfl ?_|refine aH ?_
  ·
   have hke : st.1.length ≤ k := by omega
   have hfin : bfs n (fun v : Nat => bY (v : Int) l) c b0 = st := by rw [hst]; exact bgo_fin (by omega) (by rw [← hst]; exact hke)
   have htk : (bfs n (fun v : Nat => bY (v : Int) l) c b0).1.take k = (bfs n (fun v : Nat => bY (v : Int) l) c b0).1 := List.take_of_length_le (by rw [hfin]; exact hke)
   rw [htk] at hJ;refine iY ?_;refine r_te ?_;clear kh3;refine r_te ?_;refine r_be ?_;exact r_fin0n [mJ, [(b5, blk [.slice (some ⟨bin, 0, none⟩) n n] 43)], [(b4, blk [.int .i64 (c : Int)] 3)], [(b3, blk [.slice (some ⟨bo, 0, none⟩) n n] 30)], [(bin, blk (dW st.2) 4)], [(bo, blk vs 25)], ms.flatten] Tryz.results111 (by repeat first|exact aI|refine aD ?_|refine aC rfl ?_|refine aH ?_) ⟨rfl, mJ, _, rfl, .inl ⟨_, ⟨rfl, by rw [hfin]⟩, hJ⟩⟩
end Go.Proofs.YtjjogcnjcnpehaaGreat
