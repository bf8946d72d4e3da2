import Derived.Test.YtjjogcnjcnpehaaGreatAll8
import Derived.Test.YtjjogcnjcnpehaaGreatAll6
import Derived.Test.YtjjogcnjcnpehaaGreatAll5
import Derived.Test.YtjjogcnjcnpehaaGreatAll3
import Derived.Test.YtjjogcnjcnpehaaGreatFlyMap

/- natcut.Fragments: what a graph falls into where pairs are marked. -/
namespace Go.Proofs.YtjjogcnjcnpehaaGreat
open Go Go.RowKit Fly
set_option linter.unusedVariables false
set_option linter.unusedSimpArgs false
theorem Meets.flatN {P : Program} {f : FuncId} {args : List Value} {w : World} {own : List Seg} {Φ Ψ : Value → List Seg → Prop}
    (h : Meets P f args w own Φ) (hi : ∀ v m, Φ v m → ∃ m', Ψ v m' ∧ m'.flatten = m.flatten) : Meets P f args w own Ψ :=
  Calls.mono h fun _ _ ⟨v, m, he, hp, hf⟩ => by
    obtain ⟨m', h1, h2⟩ := hi v m hf
    exact ⟨v, m', he, by rw [h2]; exact hp, h1⟩
def natN (p : List Nat) : List Int := p.map fun x : Nat => (x : Int)
theorem natN_len (p : List Nat) : (natN p).length = p.length := by simp [natN]
theorem natN_ints (p : List Nat) : iU p = a6 (natN p) := by simp [iU, natN, a6]
/-- What is wrong with marks. -/
def fE (N : Int) : List Pr → Int
  | [] => 0
  | p :: r => if (p.1 < 0 ∨ N ≤ p.1) ∨ p.2 < 0 ∨ N ≤ p.2 then 5 else if p.2 ≤ p.1 then 4 else fE N r
def jD (N : Int) (l : List Arc) (M : List Pr) : Int := if (bH N l).2 ≠ 0 then (bH N l).2 else if 16384 < M.length then 2 else fE N M
/-- The arcs that are not marked. -/
def iW (M : List Pr) (l : List Arc) : List Arc := l.filter fun a => !decide (jZ a ∈ M)
theorem fE_drop {N : Int} {M : List Pr} {k : Nat} (hk : k < M.length) : fE N (M.drop k) = if (M[k].1 < 0 ∨ N ≤ M[k].1) ∨ M[k].2 < 0 ∨ N ≤ M[k].2 then 5 else if M[k].2 ≤ M[k].1 then 4 else fE N (M.drop (k + 1)) := by
  rw [← List.getElem_cons_drop hk]; rfl
theorem u64_ge {x N : Int} (hx : I64 x) (hN : I64 N) (h0 : 0 ≤ N) : IntKind.u64.wrap N ≤ IntKind.u64.wrap x ↔ x < 0 ∨ N ≤ x := by
  rw [kD hx, kD hN]
  unfold I64 at hx hN
  split <;> split <;> omega
structure MkI (ps : List Pr) (ents : List ((Int × Int) × Value × Nat)) : Prop where
  yes : ∀ q ∈ ps, ∃ c : Int, dI ents q = some (.int .i64 c) ∧ 1 ≤ c ∧ c ≤ (ps.length : Int)
  no : ∀ q, q ∉ ps → dI ents q = none
theorem MkI.nil : MkI [] [] where
  yes := fun q hq => by cases hq
  no := fun q _ => rfl
theorem MkI.val {ps : List Pr} {ents : List ((Int × Int) × Value × Nat)} (h : MkI ps ents) (q : Pr) : ∃ c : Int, (dI ents q).getD (.int .i64 0) = .int .i64 c ∧ 0 ≤ c ∧ c ≤ (ps.length : Int) ∧ (c = 0 ↔ q ∉ ps) := by
  by_cases hq : q ∈ ps
  · obtain ⟨c, h1, h2, h3⟩ := h.yes q hq
    exact ⟨c, by rw [h1]; rfl, by omega, h3, by constructor; intro e; omega; intro e; exact absurd hq e⟩
  · exact ⟨0, by rw [h.no q hq]; rfl, by omega, by omega, by simp [hq]⟩
theorem MkI.add {ps : List Pr} {ents : List ((Int × Int) × Value × Nat)} (h : MkI ps ents) {q : Pr} {c : Int} (hc : (dI ents q).getD (.int .i64 0) = .int .i64 c) (h0 : 0 ≤ c) (h1 : c ≤ (ps.length : Int)) (k : Nat) : MkI (ps ++ [q]) (eW ents q (.int .i64 (c + 1)) k) where
  yes := fun x hx => by
    rw [gS]
    by_cases e : x = q
    · rw [if_pos e]; exact ⟨_, rfl, by omega, by simp; omega⟩
    · rw [if_neg e]
      rcases List.mem_append.1 hx with hx | hx
      · obtain ⟨d, h2, h3, h4⟩ := h.yes x hx
        exact ⟨d, h2, h3, by simp; omega⟩
      · exact absurd (List.mem_singleton.1 hx) e
  no := fun x hx => by
    rw [gS, if_neg (fun e => hx (by simp [e]))];exact h.no x fun hm => hx (by simp [hm])
theorem mget_appN {α : Type} [DecidableEq α] (x : α) (z : Value) (c : Nat) : ∀ l : List (α × Value × Nat), dI l x = none → dI (l ++ [(x, z, c)]) x = some z
  | [], _ => by simp [dI]
  | e :: r, h => by
    unfold dI at h
    split at h
    · cases h
    · rename_i hne
      rw [List.cons_append]; unfold dI; rw [if_neg hne]; exact mget_appN x z c r h
theorem ment_valN {α : Type} [DecidableEq α] (l : List (α × Value × Nat)) (x : α) (z : Value) (c : Nat) : (dI (kB l x z c) x).getD z = (dI l x).getD z := by
  unfold kB
  split
  · rfl
  · rename_i h
    have h' : dI l x = none := by cases hg : dI l x with
      | none => rfl
      | some v => rw [hg] at h; simp at h
    rw [mget_appN x z c l h', h']; rfl
theorem keepA_yes {M : List Pr} {l : List Arc} {i : Nat} (hi : i < l.length) (h : jZ l[i] ∉ M) : iW M (l.take (i + 1)) = iW M (l.take i) ++ [l[i]] := by
  unfold iW; rw [List.take_succ_eq_append_getElem hi, List.filter_append]; simp [h]
theorem keepA_no {M : List Pr} {l : List Arc} {i : Nat} (hi : i < l.length) (h : jZ l[i] ∈ M) : iW M (l.take (i + 1)) = iW M (l.take i) := by
  unfold iW; rw [List.take_succ_eq_append_getElem hi, List.filter_append]; simp [h]
theorem keepA_len (M : List Pr) (l : List Arc) : (iW M l).length ≤ l.length := List.length_filter_le _ _
theorem keepA_good {n : Nat} {l : List Arc} (hg : (bH (n : Int) l).2 = 0) (M : List Pr) : (bH (n : Int) (iW M l)).2 = 0 := by
  obtain ⟨h1, h2, h3, h4⟩ := bX hg
  rw [gcheck_ok ⟨by omega, by omega⟩ (by have := keepA_len M l; omega) fun j hj => ?_];have hm := (List.mem_filter.1 (List.getElem_mem hj)).1
  obtain ⟨i, hi, e⟩ := List.mem_iff_getElem.1 hm
  have := h4 i hi
  rw [e] at this
  unfold eB; simp; omega
theorem keepA_ok {l : List Arc} (M : List Pr) (hok : ∀ x ∈ l, dQ x) : ∀ x ∈ iW M l, dQ x := fun x hx => hok x (List.mem_filter.1 hx).1
theorem PartsN_spec (N : Int) (A : Option Addr) (l : List Arc) (cap : Nat) (w : World) (hr : Ro (Fr w []) w A (l.flatMap cE)) (hl : l.length ≤ 9223372036854775807) (hN : I64 N) (hok : ∀ x ∈ l, dQ x) :
    Meets Tryz.prog 59 [.agg #[.int .i64 N, .slice A l.length cap]] w [] (fun u own' => ∃ (P : List Int) (A' : Option Addr) (c : Nat) (m' : Seg), u = .tuple #[.slice A' P.length c, .int .i64 (bH N l).2] ∧ own' = [m'] ∧ Own 3 1 (.slice A' P.length c) P.length (a6 P) m' ∧ ((bH N l).2 = 0 → ∃ p, P = natN p ∧ IsParts N.toNat (lE l) p) ∧ ((bH N l).2 ≠ 0 → P = [])) := by
  refine Meets.flatN (Parts_spec N A l cap w hr hl hN hok) fun v m h => ?_
  by_cases hg : (bH N l).2 = 0
  · rw [if_pos hg] at h
    obtain ⟨p, b, rfl, rfl, hp⟩ := h
    have hlen : (natN p).length = N.toNat := by rw [natN_len, hp.len]
    have hb := bX hg
    refine ⟨_, ⟨natN p, some ⟨b, 0, none⟩, N.toNat, [(b, blk (iU p) 3)], by rw [hlen, hg], rfl, ?_, fun _ => ⟨p, rfl, hp⟩, fun h => absurd hg h⟩, rfl⟩;rw [natN_ints, hlen];exact Own.mk (by rw [aX, hlen]; omega) (by omega)
  · rw [if_neg hg] at h
    obtain ⟨rfl, rfl⟩ := h
    exact ⟨[[]], ⟨[], none, 0, [], rfl, rfl, Own.nil _ _, fun h => absurd h hg, fun _ => rfl⟩, rfl⟩
set_option maxRecDepth 100000 in
set_option maxHeartbeats 4000000 in
theorem Fragments_spec (N : Int) (A B : Option Addr) (l : List Arc) (cap : Nat) (M : List Pr) (cb : Nat) (w : World) (hr : Ro (Fr w []) w A (l.flatMap cE)) (hl : l.length ≤ 9223372036854775807) (hN : I64 N) (hok : ∀ x ∈ l, dQ x) (hM : Ro (Fr w []) w B (M.flatMap dU)) (hm : M.length ≤ 9223372036854775807) (hMk : ∀ p ∈ M, I64 p.1 ∧ I64 p.2) :
    Meets Tryz.prog 36 [.agg #[.int .i64 N, .slice A l.length cap], .slice B M.length cb] w [] (fun u own' => ∃ (P : List Int) (A' : Option Addr) (c : Nat) (m' : Seg), u = .tuple #[.slice A' P.length c, .int .i64 (jD N l M)] ∧ own' = [m'] ∧ Own 3 1 (.slice A' P.length c) P.length (a6 P) m' ∧ (jD N l M = 0 → ∃ p, P = natN p ∧ IsParts N.toNat (lE (iW M l)) p) ∧ (jD N l M ≠ 0 → P = [])) := by
 refine bJ Tryz.func36 rfl Tryz.ntmps36 rfl Owns.nil ?_;refine aK fun K1 kh1 => ?_;refine aB ?_;refine aR rfl rfl rfl (cZ rfl rfl fun b2 => ?_);refine aA rfl rfl rfl (aF rfl) ?_;refine aA rfl rfl rfl (aF rfl) ?_;refine aJ ?_;refine aL (kh1 _ _ ?_);clear kh1;refine aK fun K2 kh2 => ?_;refine aK fun K3 kh3 => ?_;refine aB ?_;refine aA rfl rfl rfl (a8 (vs := [_, _]) Tryz.isAgg24 Tryz.sizeOf24 rfl rfl ⟨(rdA rfl), (rdA rfl), trivial⟩) ?_;refine aR rfl rfl rfl (bD Tryz.call21 rfl (fun w_ hp_ => fG N A l cap w_ (hr.up0 hp_) hl hN hok) ?_);rintro _ _ ⟨rfl, rfl⟩;dsimp only [List.cons_append, List.nil_append];refine aA rfl rfl rfl (aG rfl) ?_;refine aA rfl rfl rfl (aV rfl rfl) ?_;refine aA rfl rfl rfl (aV rfl rfl) ?_;refine aA rfl rfl rfl (aF rfl) ?_;refine aA rfl rfl rfl (aF rfl) ?_;refine aJ ?_;refine aL (kh3 _ _ ?_);clear kh3;refine aK fun K4 kh4 => ?_;refine aB ?_;refine aA rfl rfl rfl (aG rfl) ?_;refine aA rfl rfl rfl (c6 rfl rfl) ?_;refine aJ ?_;refine aL (kh4 _ _ ?_);clear kh4;refine aZ rfl (fun c20 => ?_) (fun c20 => ?_)
 ·
  refine aK fun K5 kh5 => ?_;refine aB ?_;refine aA rfl rfl rfl (aG rfl) ?_;refine aA rfl rfl rfl (aF rfl) ?_;refine aA rfl rfl rfl (aF rfl) ?_;refine aJ ?_;refine aL (kh5 _ _ ?_);clear kh5;refine a7 ?_;refine bT ?_;have c20' : (bH N l).2 ≠ 0 := by simpa using c20
  have hfe : jD N l M = (bH N l).2 := by unfold jD; rw [if_pos c20']
  exact bW [[]] Tryz.results36 rfl rfl (show Fly.Sub _ [[]] from (by repeat first|exact aI|refine aD ?_|refine aC rfl ?_|refine aH ?_)) ⟨[], none, 0, [], by rw [hfe]; rfl, rfl, Own.nil _ _, fun h => absurd (hfe.symm.trans h) c20', fun _ => rfl⟩
 ·
  have hg : (bH N l).2 = 0 := by simpa using c20
  obtain ⟨hg1, hg2, hgl, hgd⟩ := bX hg
  obtain ⟨n, rfl⟩ : ∃ n : Nat, N = (n : Int) := ⟨N.toNat, by omega⟩
  refine aW ?_;refine aL (kh2 _ _ ?_);clear kh2;refine aK fun K6 kh6 => ?_;refine aK fun K7 kh7 => ?_;refine aB ?_;refine aA rfl rfl rfl (aG rfl) ?_;refine aA rfl rfl rfl (bS iB rfl) ?_;refine aA rfl rfl rfl (eQ rfl rfl) ?_;refine aJ ?_;refine aL (kh7 _ _ ?_);clear kh7;refine aZ rfl (fun c24 => ?_) (fun c24 => ?_)
  ·
   refine aK fun K8 kh8 => ?_;refine aB ?_;refine aA rfl rfl rfl (aF rfl) ?_;refine aA rfl rfl rfl (aF rfl) ?_;refine aJ ?_;refine aL (kh8 _ _ ?_);clear kh8;refine a7 ?_;refine bT ?_;have hfe : jD (n : Int) l M = 2 := by unfold jD; rw [if_neg (by rw [hg]; simp), if_pos (by omega)]
   exact bW [[]] Tryz.results36 rfl rfl (show Fly.Sub _ [[]] from (by repeat first|exact aI|refine aD ?_|refine aC rfl ?_|refine aH ?_)) ⟨[], none, 0, [], by rw [hfe]; rfl, rfl, Own.nil _ _, fun h => absurd (hfe.symm.trans h) (by decide), fun _ => rfl⟩
  ·
   refine aW ?_;refine aL (kh6 _ _ ?_);clear kh6;refine aK fun K9 kh9 => ?_;refine aB ?_;refine aR rfl rfl rfl (iH fun b25 => ?_);refine aA rfl rfl rfl (aF rfl) ?_;refine aJ ?_;refine aL (kh9 _ _ ?_);clear kh9;refine aK fun K10 kh10 => ?_;refine aK fun K11 kh11 => ?_;refine aB ?_;refine aA rfl rfl rfl (aG rfl) ?_;refine aA rfl rfl rfl (bS iB rfl) ?_;refine aA rfl rfl rfl (aG rfl) ?_;refine aJ ?_;refine aL (kh11 _ _ ?_);clear kh11;refine aY ?_;refine cS (α := Nat × List ((Int × Int) × Value × Nat) × Nat) [2, 8, 26, 27] (fun ⟨k, ents, c1⟩ => [(28, .int .i64 (k : Int))]) (fun ⟨k, ents, c1⟩ => [[(b25, f3 kO ents c1)], [(b2, blk [.int .i64 (n : Int), .slice A l.length cap] 24)]]) (fun ⟨k, ents, c1⟩ => k ≤ M.length ∧ MOk ents c1 ∧ MkI (M.take k) ents ∧ fE (n : Int) M = fE (n : Int) (M.drop k)) (fun ⟨k, ents, c1⟩ => M.length - k) (0, [], 0) ?_ ?_ ?_ ?_
   · exact (by repeat constructor)
   · repeat first|exact aI|refine aD ?_|refine aC rfl ?_|refine aH ?_
   · exact ⟨by omega, MOk.nil, MkI.nil, rfl⟩
   ·
    rintro ⟨k, ents, c1⟩ ⟨hkl, hmap, hmk, hfe⟩;refine aK fun K12 kh12 => ?_;refine aB ?_;refine aA rfl rfl rfl (cD rfl rfl) ?_;refine aJ ?_;refine aL (kh12 _ _ ?_);clear kh12;refine aK fun K13 kh13 => ?_;refine aZ rfl (fun c29 => ?_) (fun c29 => ?_)
    ·
     have hk : k < M.length := by omega
     obtain ⟨bp, op, rfl, hSp, hcp⟩ := hM (f9 dU dK (by omega) hk)
     have hMi := hMk _ (List.getElem_mem hk)
     have hw1 := u64_ge hMi.1 hN (by omega)
     have hw2 := u64_ge hMi.2 hN (by omega)
     have hdr := fE_drop (N := (n : Int)) hk
     obtain ⟨c, hc, hc0, hc1, _⟩ := hmk.val M[k]
     have htk : M.take (k + 1) = M.take k ++ [M[k]] := List.take_succ_eq_append_getElem hk
     have hti : (M.take k).length = k := by rw [List.length_take]; omega
     have hmk2 := hmk.add hc hc0 hc1 c1
     rw [← htk] at hmk2;rw [hti] at hc1;refine aW ?_;refine aL (kh13 _ _ ?_);clear kh13;refine aK fun K14 kh14 => ?_;refine aY ?_;refine aK fun K15 kh15 => ?_;refine aB ?_;refine aA rfl rfl rfl (bA iB rfl rfl (op + k * 2) ⟨by omega, by omega, by first | omega | (simp; done) | (simp; omega)⟩) ?_;refine aA rfl rfl rfl (a8 (vs := dU M[k]) Tryz.isAgg95 Tryz.sizeOf95 rfl rfl (gN dK hSp hcp hk)) ?_;refine aR rfl rfl rfl (cU Tryz.zeroValue95 rfl fun b10 => ?_);refine bF rfl rfl (cA Tryz.sizeOf95 rfl rfl rfl rfl (by first | exact Nat.le_of_ble_eq_true rfl | (simp; done) | (simp; omega)) (dU M[k]) rfl ?_);refine aJ ?_;refine aL (kh15 _ _ ?_);clear kh15;refine aK fun K16 kh16 => ?_;refine aY ?_;refine aK fun K17 kh17 => ?_;refine aB ?_;refine aA rfl rfl rfl (aQ kM rfl) ?_;refine aA rfl rfl rfl (aM Tryz.isAgg3 rfl (rdA rfl)) ?_;refine aA rfl rfl rfl (g5 Tryz.runUnderlying3 Tryz.runUnderlying83 rfl _ rfl) ?_;refine aA rfl rfl rfl (aQ eE rfl) ?_;refine aA rfl rfl rfl (aM Tryz.isAgg3 rfl (rdA rfl)) ?_;refine aA rfl rfl rfl (g5 Tryz.runUnderlying3 Tryz.runUnderlying83 rfl _ rfl) ?_;refine aA rfl rfl rfl (h7 rfl rfl) ?_;refine aA rfl rfl rfl (aG rfl) ?_;refine cX 40 rfl (fun g40 => ?_) (fun g40 => ?_)
     ·
      refine aS rfl rfl rfl rfl rfl rfl ?_;refine aS rfl rfl rfl rfl rfl rfl ?_;refine aS rfl rfl rfl rfl rfl rfl ?_;refine aS rfl rfl rfl rfl rfl rfl ?_;refine aS rfl rfl rfl rfl rfl rfl ?_;refine aS rfl rfl rfl rfl rfl rfl ?_;refine aS rfl rfl rfl rfl rfl rfl ?_;refine aA rfl rfl rfl (cF rfl rfl) ?_;refine aA rfl rfl rfl (aF rfl) ?_;refine aJ ?_;refine aL (kh17 _ _ ?_);clear kh17;refine eF rfl ?_;refine aK fun K18 kh18 => ?_;refine aB ?_;refine aA rfl rfl rfl (aF rfl) ?_;refine aA rfl rfl rfl (aF rfl) ?_;refine aJ ?_;refine aL (kh18 _ _ ?_);clear kh18;refine a7 ?_;refine eC ?_;refine bT ?_;refine eC ?_;refine bT ?_;refine bT ?_;refine eC ?_;refine bT ?_;have hfe : jD (n : Int) l M = 5 := by unfold jD; rw [if_neg (by rw [hg]; simp), if_neg (by omega), hfe, hdr, if_pos (by omega)]
      exact bW [[]] Tryz.results36 rfl rfl (show Fly.Sub _ [[]] from (by repeat first|exact aI|refine aD ?_|refine aC rfl ?_|refine aH ?_)) ⟨[], none, 0, [], by rw [hfe]; rfl, rfl, Own.nil _ _, fun h => absurd (hfe.symm.trans h) (by decide), fun _ => rfl⟩
     ·
      refine aO rfl rfl rfl rfl rfl (aQ fa95_1 rfl) ?_;refine aO rfl rfl rfl rfl rfl (aM Tryz.isAgg3 rfl (rdA rfl)) ?_;refine aO rfl rfl rfl rfl rfl (g5 Tryz.runUnderlying3 Tryz.runUnderlying83 rfl _ rfl) ?_;refine aO rfl rfl rfl rfl rfl (aQ eE rfl) ?_;refine aO rfl rfl rfl rfl rfl (aM Tryz.isAgg3 rfl (rdA rfl)) ?_;refine aO rfl rfl rfl rfl rfl (g5 Tryz.runUnderlying3 Tryz.runUnderlying83 rfl _ rfl) ?_;refine aO rfl rfl rfl rfl rfl (h7 rfl rfl) ?_;refine aA rfl rfl rfl (cO rfl rfl) ?_;refine aA rfl rfl rfl (aF rfl) ?_;refine aJ ?_;refine aL (kh17 _ _ ?_);clear kh17;refine aZ rfl (fun c32 => ?_) (fun c32 => ?_)
      ·
       refine aK fun K19 kh19 => ?_;refine aB ?_;refine aA rfl rfl rfl (aF rfl) ?_;refine aA rfl rfl rfl (aF rfl) ?_;refine aJ ?_;refine aL (kh19 _ _ ?_);clear kh19;refine a7 ?_;refine eC ?_;refine bT ?_;refine eC ?_;refine bT ?_;refine bT ?_;refine eC ?_;refine bT ?_;have hfe : jD (n : Int) l M = 5 := by unfold jD; rw [if_neg (by rw [hg]; simp), if_neg (by omega), hfe, hdr, if_pos (by omega)]
       exact bW [[]] Tryz.results36 rfl rfl (show Fly.Sub _ [[]] from (by repeat first|exact aI|refine aD ?_|refine aC rfl ?_|refine aH ?_)) ⟨[], none, 0, [], by rw [hfe]; rfl, rfl, Own.nil _ _, fun h => absurd (hfe.symm.trans h) (by decide), fun _ => rfl⟩
      ·
       refine aK fun K20 kh20 => ?_;refine aB ?_;refine aA rfl rfl rfl (aQ kM rfl) ?_;refine aA rfl rfl rfl (aM Tryz.isAgg3 rfl (rdA rfl)) ?_;refine aA rfl rfl rfl (aQ fa95_1 rfl) ?_;refine aA rfl rfl rfl (aM Tryz.isAgg3 rfl (rdA rfl)) ?_;refine aA rfl rfl rfl (h7 rfl rfl) ?_;refine aA rfl rfl rfl (aF rfl) ?_;refine aJ ?_;refine aL (kh20 _ _ ?_);clear kh20;refine aZ rfl (fun c49 => ?_) (fun c49 => ?_)
       ·
        refine aK fun K21 kh21 => ?_;refine aB ?_;refine aA rfl rfl rfl (aF rfl) ?_;refine aA rfl rfl rfl (aF rfl) ?_;refine aJ ?_;refine aL (kh21 _ _ ?_);clear kh21;refine a7 ?_;refine eC ?_;refine bT ?_;refine eC ?_;refine bT ?_;refine bT ?_;refine eC ?_;refine bT ?_;have hfe : jD (n : Int) l M = 4 := by unfold jD; rw [if_neg (by rw [hg]; simp), if_neg (by omega), hfe, hdr, if_neg (by omega), if_pos (by omega)]
        exact bW [[]] Tryz.results36 rfl rfl (show Fly.Sub _ [[]] from (by repeat first|exact aI|refine aD ?_|refine aC rfl ?_|refine aH ?_)) ⟨[], none, 0, [], by rw [hfe]; rfl, rfl, Own.nil _ _, fun h => absurd (hfe.symm.trans h) (by decide), fun _ => rfl⟩
       ·
        refine aW ?_;refine cV ?_;refine aL (kh16 _ _ ?_);clear kh16;refine dH [[(b10, blk [.int .i64 M[k].1, .int .i64 M[k].2] 95)]] rfl ?_;refine aU 0 rfl (by decide +kernel) rfl rfl rfl (by repeat first|exact aI|refine aD ?_|refine aC rfl ?_|refine aH ?_) (aG rfl) ?_;refine aU 1 rfl (by decide +kernel) rfl rfl rfl (by repeat first|exact aI|refine aD ?_|refine aC rfl ?_|refine aH ?_) (a8 (vs := dU M[k]) Tryz.isAgg95 Tryz.sizeOf95 rfl rfl ⟨(rdA rfl), (rdA rfl), trivial⟩) ?_;refine jE 2 4 rfl rfl (by decide +kernel) rfl rfl rfl rfl rfl rfl ?_ ?_
        ·
         refine (fW kt98 Tryz.zeroValue3 rfl rfl rfl (key := M[k]) (.int .i64 c) (by first | exact hc | exact (ment_valN _ _ _ _).trans hc)).does ⟨(by repeat first|exact aI|refine aD ?_|refine aC rfl ?_|refine aH ?_), ?_⟩;refine aU 3 rfl (by decide +kernel) rfl rfl rfl (by repeat first|exact aI|refine aD ?_|refine aC rfl ?_|refine aH ?_) (bG rfl rfl _ (aT (by omega))) ?_;refine bQ 4 rfl (by decide +kernel) rfl rfl rfl (lP kt98 Tryz.zeroValue3 rfl rfl rfl (key := M[k]) _ rfl ⟨(by repeat first|exact aI|refine aD ?_|refine aC rfl ?_|refine aH ?_), ?_⟩);refine aU 5 rfl (by decide +kernel) rfl rfl rfl (by repeat first|exact aI|refine aD ?_|refine aC rfl ?_|refine aH ?_) (aV rfl rfl) ?_;refine eM 6 rfl (by decide +kernel) rfl rfl (jK (key := M[k]) hmap rfl rfl rfl ⟨(by repeat first|exact aI|refine aD ?_|refine aC rfl ?_|refine aH ?_), ?_⟩);refine dF (by decide +kernel) ?_;refine cV ?_;refine aL (kh14 _ _ ?_);clear kh14;refine aB ?_;refine aA rfl rfl rfl (bG rfl rfl _ (aT (by omega))) ?_;refine aA rfl rfl rfl (aG rfl) ?_;refine aJ ?_;refine aL (bB (k + 1, eW ents M[k] (.int .i64 (c + 1)) c1, fF ents M[k] c1) (by first | omega | (dsimp only; omega) | (simp; omega)) ⟨by omega, hmap.put _ _, hmk2, hfe.trans (hdr.trans (by rw [if_neg (by omega), if_neg (by omega)]))⟩ ?_ ?_ ?_)
         · exact (by repeat constructor)
         · exact (by repeat constructor)
         · repeat first|exact aI|refine aD ?_|refine aC rfl ?_|refine aH ?_
        ·
         refine (lP kt98 Tryz.zeroValue3 rfl rfl rfl (key := M[k]) _ rfl ⟨(by repeat first|exact aI|refine aD ?_|refine aC rfl ?_|refine aH ?_), ?_⟩);refine aU 5 rfl (by decide +kernel) rfl rfl rfl (by repeat first|exact aI|refine aD ?_|refine aC rfl ?_|refine aH ?_) (aV rfl rfl) ?_;refine bQ 2 rfl (by decide +kernel) rfl rfl rfl ((fW kt98 Tryz.zeroValue3 rfl rfl rfl (key := M[k]) (.int .i64 c) (by first | exact hc | exact (ment_valN _ _ _ _).trans hc)).does ⟨(by repeat first|exact aI|refine aD ?_|refine aC rfl ?_|refine aH ?_), ?_⟩);refine aU 3 rfl (by decide +kernel) rfl rfl rfl (by repeat first|exact aI|refine aD ?_|refine aC rfl ?_|refine aH ?_) (bG rfl rfl _ (aT (by omega))) ?_;refine eM 6 rfl (by decide +kernel) rfl rfl (jK (key := M[k]) hmap rfl rfl rfl ⟨(by repeat first|exact aI|refine aD ?_|refine aC rfl ?_|refine aH ?_), ?_⟩);refine dF (by decide +kernel) ?_;refine cV ?_;refine aL (kh14 _ _ ?_);clear kh14;refine aB ?_;refine aA rfl rfl rfl (bG rfl rfl _ (aT (by omega))) ?_;refine aA rfl rfl rfl (aG rfl) ?_;refine aJ ?_;refine aL (bB (k + 1, eW ents M[k] (.int .i64 (c + 1)) c1, fF ents M[k] c1) (by first | omega | (dsimp only; omega) | (simp; omega)) ⟨by omega, hmap.put _ _, hmk2, hfe.trans (hdr.trans (by rw [if_neg (by omega), if_neg (by omega)]))⟩ ?_ ?_ ?_)
         · exact (by repeat constructor)
         · exact (by repeat constructor)
         · repeat first|exact aI|refine aD ?_|refine aC rfl ?_|refine aH ?_
    ·
     obtain rfl : k = M.length := by omega
     rw [List.take_length] at hmk;rw [List.drop_length] at hfe;have hfz : jD (n : Int) l M = 0 := by unfold jD; rw [if_neg (by rw [hg]; simp), if_neg (by omega), hfe]; rfl
     refine cG ?_;refine cK ?_;clear kh13;refine cK ?_;refine d5 ?_;refine aL (kh10 _ _ ?_);clear kh10;refine aK fun K22 kh22 => ?_;refine aB ?_;refine aA rfl rfl rfl (aQ eE rfl) ?_;refine aA rfl rfl rfl (aM Tryz.isAgg3 rfl (rdA rfl)) ?_;refine aA rfl rfl rfl (dB (cs := [.int .i64 (n : Int), .slice none 0 0]) st24 rfl rfl) ?_;refine aR rfl rfl rfl (cU Tryz.zeroValue24 rfl fun b11 => ?_);refine bF rfl rfl (cA Tryz.sizeOf24 rfl rfl rfl rfl (by first | exact Nat.le_of_ble_eq_true rfl | (simp; done) | (simp; omega)) [.int .i64 (n : Int), .slice none 0 0] rfl ?_);refine aJ ?_;refine aL (kh22 _ _ ?_);clear kh22;refine aK fun K23 kh23 => ?_;refine aK fun K24 kh24 => ?_;refine aB ?_;refine aA rfl rfl rfl (aQ hG rfl) ?_;refine aA rfl rfl rfl (aM Tryz.isAgg22 rfl (rdA rfl)) ?_;refine aA rfl rfl rfl (bS lJ rfl) ?_;refine aA rfl rfl rfl (aG rfl) ?_;refine aJ ?_;refine aL (kh24 _ _ ?_);clear kh24;refine aY ?_;refine cS (α := Nat × Value × Seg) [8, 11, 66, 67] (fun ⟨i, sa, ma⟩ => [(68, .int .i64 (i : Int))]) (fun ⟨i, sa, ma⟩ => [[(b11, blk [.int .i64 (n : Int), sa] 24)], ma, [(b25, f3 kO ents c1)]]) (fun ⟨i, sa, ma⟩ => i ≤ l.length ∧ Own 48 3 sa (iW M (l.take i)).length ((iW M (l.take i)).flatMap cE) ma) (fun ⟨i, sa, ma⟩ => l.length - i) (0, .slice none 0 0, []) ?_ ?_ ?_ ?_
     · exact (by repeat constructor)
     · repeat first|exact aI|refine aD ?_|refine aC rfl ?_|refine aH ?_
     · exact ⟨by omega, Own.nil _ _⟩
     ·
      rintro ⟨i, sa, ma⟩ ⟨hil, hO⟩;have hkl2 := keepA_len M (l.take i)
      rw [List.length_take] at hkl2;obtain ⟨A11, c11, rfl, hc11⟩ := hO.val
      refine eX (e := [(68, _), (8, _), (11, _), (66, _), (67, _)]) (by repeat constructor) ?_;refine aK fun K25 kh25 => ?_;refine aB ?_;refine aA rfl rfl rfl (cD rfl rfl) ?_;refine aJ ?_;refine aL (kh25 _ _ ?_);clear kh25;refine aK fun K26 kh26 => ?_;refine aZ rfl (fun c69 => ?_) (fun c69 => ?_)
      ·
       have hi : i < l.length := by omega
       obtain ⟨bl, off, rfl, hS, hcs⟩ := hr (f9 cE dO (by omega) hi)
       obtain ⟨c, hc, hc0, hc1, hciff⟩ := hmk.val (jZ l[i])
       refine aW ?_;refine aL (kh26 _ _ ?_);clear kh26;refine aK fun K27 kh27 => ?_;refine aY ?_;refine aK fun K28 kh28 => ?_;refine aB ?_;refine aA rfl rfl rfl (bA lJ rfl rfl (off + i * 3) ⟨by omega, by omega, by first | omega | (simp; done) | (simp; omega)⟩) ?_;refine aA rfl rfl rfl (a8 (vs := cE l[i]) Tryz.isAgg48 Tryz.sizeOf48 rfl rfl (gN dO hS hcs hi)) ?_;refine aR rfl rfl rfl (cU Tryz.zeroValue48 rfl fun b13 => ?_);refine bF rfl rfl (cA Tryz.sizeOf48 rfl rfl rfl rfl (by first | exact Nat.le_of_ble_eq_true rfl | (simp; done) | (simp; omega)) (cE l[i]) rfl ?_);refine aJ ?_;refine aL (kh28 _ _ ?_);clear kh28;refine aK fun K29 kh29 => ?_;refine aB ?_;refine aA rfl rfl rfl (aG rfl) ?_;refine aA rfl rfl rfl (aQ gA rfl) ?_;refine aA rfl rfl rfl (aM Tryz.isAgg3 rfl (rdA rfl)) ?_;refine aA rfl rfl rfl (aQ fX rfl) ?_;refine aA rfl rfl rfl (aM Tryz.isAgg3 rfl (rdA rfl)) ?_;refine aA rfl rfl rfl (o_min rfl rfl) ?_;refine aA rfl rfl rfl (aQ gA rfl) ?_;refine aA rfl rfl rfl (aM Tryz.isAgg3 rfl (rdA rfl)) ?_;refine aA rfl rfl rfl (aQ fX rfl) ?_;refine aA rfl rfl rfl (aM Tryz.isAgg3 rfl (rdA rfl)) ?_;refine aA rfl rfl rfl (o_max rfl rfl) ?_;refine aA rfl rfl rfl (dB (cs := [.int .i64 (min l[i].src l[i].dst), .int .i64 (max l[i].src l[i].dst)]) st95 rfl rfl) ?_;refine aA rfl rfl rfl (fW kt98 Tryz.zeroValue3 rfl rfl rfl (key := jZ l[i]) (.int .i64 c) hc) ?_;refine aA rfl rfl rfl (fM rfl rfl) ?_;refine aJ ?_;refine aL (kh29 _ _ ?_);clear kh29;refine aZ rfl (fun c85 => ?_) (fun c85 => ?_)
       ·
        have hni : jZ l[i] ∉ M := hciff.1 (by simpa using c85)
        have hky := keepA_yes hi hni
        refine aB ?_;refine aA rfl rfl rfl (aQ hG rfl) ?_;refine aA rfl rfl rfl (aM Tryz.isAgg22 rfl (rdA rfl)) ?_;refine aA rfl rfl rfl (a8 (vs := [_, _, _]) Tryz.isAgg48 Tryz.sizeOf48 rfl rfl ⟨(rdA rfl), (rdA rfl), (rdA rfl), trivial⟩) ?_;refine aR rfl rfl rfl (dA el22 (by omega) rfl rfl rfl fun b89 => ?_);refine aR rfl rfl rfl (dG el22 rfl rfl hO (ys := cE l[i]) ⟨(rdA rfl), (rdA rfl), (rdA rfl), trivial⟩ rfl rfl (by omega) (by omega) fun v90 m90 o90 => ?_);obtain ⟨A90, c90, rfl, _⟩ := o90.val
        refine aA rfl rfl rfl (aQ hG rfl) ?_;refine bF rfl rfl (cB Tryz.sizeOf22 rfl rfl rfl rfl (by first | exact Nat.le_of_ble_eq_true rfl | (simp; done) | (simp; omega)) [.int .i64 (n : Int), .slice A90 ((iW M (l.take i)).length + 1) c90] rfl ?_);refine aJ ?_;refine cV ?_;refine aL (kh27 _ _ ?_);clear kh27;refine aB ?_;refine aA rfl rfl rfl (bG rfl rfl _ (aT (by omega))) ?_;refine aA rfl rfl rfl (aG rfl) ?_;refine aJ ?_;refine aL (bB (i + 1, _, m90) (by first | omega | (dsimp only; omega) | (simp; omega)) ⟨by omega, by rw [hky, List.flatMap_append, List.length_append]; simpa using o90⟩ ?_ ?_ ?_)
        · exact (by repeat constructor)
        · exact (by repeat constructor)
        · repeat first|exact aI|refine aD ?_|refine aC rfl ?_|refine aH ?_
       ·
        have hni : jZ l[i] ∈ M := Classical.byContradiction fun h => absurd (hciff.2 h) (by simpa using c85)
        have hky := keepA_no hi hni
        refine aW ?_;refine cV ?_;refine aL (kh27 _ _ ?_);clear kh27;refine aB ?_;refine aA rfl rfl rfl (bG rfl rfl _ (aT (by omega))) ?_;refine aA rfl rfl rfl (aG rfl) ?_;refine aJ ?_;refine aL (bB (i + 1, _, ma) (by first | omega | (dsimp only; omega) | (simp; omega)) ⟨by omega, by rw [hky]; exact hO⟩ ?_ ?_ ?_)
        · exact (by repeat constructor)
        · exact (by repeat constructor)
        · repeat first|exact aI|refine aD ?_|refine aC rfl ?_|refine aH ?_
      ·
       obtain rfl : i = l.length := by omega
       rw [List.take_length] at hO ⊢;refine cG ?_;refine cK ?_;clear kh26;refine cK ?_;refine d5 ?_;refine aL (kh23 _ _ ?_);clear kh23;refine aK fun K30 kh30 => ?_;refine aB ?_;refine aA rfl rfl rfl (a8 (vs := [_, _]) Tryz.isAgg24 Tryz.sizeOf24 rfl rfl ⟨(rdA rfl), (rdA rfl), trivial⟩) ?_;refine aR rfl rfl rfl (bD Tryz.call59 rfl (fun w_ hp_ => PartsN_spec (n : Int) A11 (iW M l) c11 w_ (eU (hO.seen hp_)) (by have := keepA_len M l; omega) hN (keepA_ok M hok)) ?_);rintro _ _ ⟨P, AP, cP, mP, rfl, rfl, hoP, hP0, _⟩;rw [keepA_good hg M];dsimp only [List.cons_append, List.nil_append];refine aA rfl rfl rfl (aV rfl rfl) ?_;refine aA rfl rfl rfl (aV rfl rfl) ?_;refine aA rfl rfl rfl (aF rfl) ?_;refine aA rfl rfl rfl (aF rfl) ?_;refine aJ ?_;refine aL (kh30 _ _ ?_);clear kh30;refine a7 ?_;exact bW [mP] Tryz.results36 rfl rfl (by repeat first|exact aI|refine aD ?_|refine aC rfl ?_|refine aH ?_) ⟨P, AP, cP, mP, by rw [hfz], rfl, hoP, fun _ => hP0 (keepA_good hg M), fun h => absurd hfz h⟩
end Go.Proofs.YtjjogcnjcnpehaaGreat

/- natcut.right, natcut.Count, slices.Max, split.sizes, split.looked, split.Sizes. -/
namespace Go.Proofs.YtjjogcnjcnpehaaGreat
open Go Go.RowKit Fly
set_option linter.unusedVariables false
set_option linter.unusedSimpArgs false
set_option maxRecDepth 100000 in
set_option maxHeartbeats 4000000 in
theorem right_spec (N : Int) (A B : Option Addr) (ln cap : Nat) (L : List Int) (cb : Nat) (w : World) (hL : Ro (Fr w []) w B (a6 L)) (hm : L.length ≤ 9223372036854775807) :
    Meets Tryz.prog 67 [.agg #[.int .i64 N, .slice A ln cap], .slice B L.length cb] w [] (fun u m => u = .bool (c7 N L) ∧ m = []) := by
 refine bJ Tryz.func67 rfl Tryz.ntmps67 rfl Owns.nil ?_;refine aK fun K1 kh1 => ?_;refine aB ?_;refine aR rfl rfl rfl (cZ rfl rfl fun b2 => ?_);refine aA rfl rfl rfl (aF rfl) ?_;refine aJ ?_;refine aL (kh1 _ _ ?_);clear kh1;refine aK fun K2 kh2 => ?_;refine aB ?_;refine aA rfl rfl rfl (aF rfl) ?_;refine aJ ?_;refine aL (kh2 _ _ ?_);clear kh2;refine aK fun K3 kh3 => ?_;refine aK fun K4 kh4 => ?_;refine aB ?_;refine aA rfl rfl rfl (aG rfl) ?_;refine aA rfl rfl rfl (bS bK rfl) ?_;refine aA rfl rfl rfl (aG rfl) ?_;refine aJ ?_;refine aL (kh4 _ _ ?_);clear kh4;refine aY ?_;refine jO (α := Nat × Int) [1, 2, 8, 9] (fun ⟨k, q⟩ => [(10, .int .i64 (k : Int)), (5, .int .i64 q)]) (fun ⟨k, q⟩ => k ≤ L.length ∧ 0 ≤ q ∧ q ≤ k ∧ rgo 0 L = rgo q (L.drop k)) (fun ⟨k, q⟩ => L.length - k) (0, 0) ?_ ?_ ?_
 · exact (by repeat constructor)
 · exact ⟨by omega, by omega, by omega, by rw [List.drop_zero]⟩
 ·
  rintro ⟨k, q⟩ ⟨hkl, hq0, hqk, hrg⟩;refine aK fun K5 kh5 => ?_;refine aB ?_;refine aA rfl rfl rfl (cD rfl rfl) ?_;refine aJ ?_;refine aL (kh5 _ _ ?_);clear kh5;refine aK fun K6 kh6 => ?_;refine aZ rfl (fun c11 => ?_) (fun c11 => ?_)
  ·
   have hk : k < L.length := by omega
   obtain ⟨bb, ob, rfl, hSb, hcb⟩ := hL (fun e => by have := aX L; rw [e] at this; simp at this; omega)
   have hrd := rgo_drop hk q
   refine aW ?_;refine aL (kh6 _ _ ?_);clear kh6;refine aK fun K7 kh7 => ?_;refine aY ?_;refine aK fun K8 kh8 => ?_;refine aB ?_;refine aA rfl rfl rfl (bA bK rfl rfl (ob + k) ⟨by omega, by omega, by first | omega | (simp; done) | (simp; omega)⟩) ?_;refine aA rfl rfl rfl (aM Tryz.isAgg3 rfl (dX (enc := (.int .i64 ·)) hSb hcb hk)) ?_;refine aA rfl rfl rfl (aF rfl) ?_;refine aJ ?_;refine aL (kh8 _ _ ?_);clear kh8;refine aK fun K9 kh9 => ?_;refine aK fun K10 kh10 => ?_;refine aB ?_;refine aA rfl rfl rfl (aG rfl) ?_;refine aA rfl rfl rfl (cD rfl rfl) ?_;refine aA rfl rfl rfl (aG rfl) ?_;refine cX 16 rfl (fun g16 => ?_) (fun g16 => ?_)
   ·
    refine aS rfl rfl rfl rfl rfl rfl ?_;refine aS rfl rfl rfl rfl rfl rfl ?_;refine aS rfl rfl rfl rfl rfl rfl ?_;refine aA rfl rfl rfl (cF rfl rfl) ?_;refine aJ ?_;refine aL (kh10 _ _ ?_);clear kh10;refine eF rfl ?_;refine aK fun K11 kh11 => ?_;refine aB ?_;refine aA rfl rfl rfl (aF rfl) ?_;refine aJ ?_;refine aL (kh11 _ _ ?_);clear kh11;refine a7 ?_;refine bT ?_;refine eC ?_;refine bT ?_;refine bT ?_;refine eC ?_;refine bT ?_;have e : c7 N L = false := by rw [c7, hrg, hrd, if_pos (.inl g16)]; rfl
    exact bP [] Tryz.results67 rfl aI ⟨by rw [e], rfl⟩
   ·
    refine aO rfl rfl rfl rfl rfl (aG rfl) ?_;refine aO rfl rfl rfl rfl rfl (aG rfl) ?_;refine aO rfl rfl rfl rfl rfl (eQ rfl rfl) ?_;refine aA rfl rfl rfl (cO rfl rfl) ?_;refine aJ ?_;refine aL (kh10 _ _ ?_);clear kh10;refine aZ rfl (fun c20 => ?_) (fun c20 => ?_)
    ·
     refine aK fun K12 kh12 => ?_;refine aB ?_;refine aA rfl rfl rfl (aF rfl) ?_;refine aJ ?_;refine aL (kh12 _ _ ?_);clear kh12;refine a7 ?_;refine bT ?_;refine eC ?_;refine bT ?_;refine bT ?_;refine eC ?_;refine bT ?_;have e : c7 N L = false := by rw [c7, hrg, hrd, if_pos (.inr (by omega))]; rfl
     exact bP [] Tryz.results67 rfl aI ⟨by rw [e], rfl⟩
    ·
     refine aW ?_;refine aL (kh9 _ _ ?_);clear kh9;refine aK fun K13 kh13 => ?_;refine aB ?_;refine aA rfl rfl rfl (aG rfl) ?_;refine aA rfl rfl rfl (aG rfl) ?_;refine aA rfl rfl rfl (fM rfl rfl) ?_;refine aJ ?_;refine aL (kh13 _ _ ?_);clear kh13;refine aZ rfl (fun c23 => ?_) (fun c23 => ?_)
     ·
      rw [if_neg (by omega), if_pos c23] at hrd;refine aB ?_;refine aA rfl rfl rfl (aG rfl) ?_;refine aA rfl rfl rfl (bG rfl rfl _ (aT (by omega))) ?_;refine aA rfl rfl rfl (aF rfl) ?_;refine aJ ?_;refine cV ?_;refine aL (kh7 _ _ ?_);clear kh7;refine aB ?_;refine aA rfl rfl rfl (bG rfl rfl _ (aT (by omega))) ?_;refine aA rfl rfl rfl (aG rfl) ?_;refine aJ ?_;refine aL (bB (k + 1, q + 1) (by first | omega | (dsimp only; omega) | (simp; omega)) ⟨by omega, by omega, by omega, hrg.trans hrd⟩ ?_ ?_ ?_)
      · exact (by repeat constructor)
      · exact (by repeat constructor)
      · repeat first|exact aI|refine aD ?_|refine aC rfl ?_|refine aH ?_
     ·
      rw [if_neg (by omega), if_neg c23] at hrd;refine aW ?_;refine cV ?_;refine aL (kh7 _ _ ?_);clear kh7;refine aB ?_;refine aA rfl rfl rfl (bG rfl rfl _ (aT (by omega))) ?_;refine aA rfl rfl rfl (aG rfl) ?_;refine aJ ?_;refine aL (bB (k + 1, q) (by first | omega | (dsimp only; omega) | (simp; omega)) ⟨by omega, by omega, by omega, hrg.trans hrd⟩ ?_ ?_ ?_)
      · exact (by repeat constructor)
      · exact (by repeat constructor)
      · repeat first|exact aI|refine aD ?_|refine aC rfl ?_|refine aH ?_
  ·
   refine cG ?_;refine cK ?_;clear kh6;refine cK ?_;refine d5 ?_;refine aL (kh3 _ _ ?_);clear kh3;refine aK fun K14 kh14 => ?_;refine aB ?_;refine aA rfl rfl rfl (aG rfl) ?_;refine aA rfl rfl rfl (bS bK rfl) ?_;refine aA rfl rfl rfl (aQ eE rfl) ?_;refine aA rfl rfl rfl (aM Tryz.isAgg3 rfl (rdA rfl)) ?_;refine aA rfl rfl rfl (fM rfl rfl) ?_;refine aA rfl rfl rfl (aF rfl) ?_;refine aJ ?_;refine aL (kh14 _ _ ?_);clear kh14;refine a7 ?_;have e : c7 N L = decide ((L.length : Int) = N) := by rw [c7, hrg, rgo_end (by omega)]; rfl
   exact bP [] Tryz.results67 rfl aI ⟨by rw [e], rfl⟩
set_option maxRecDepth 100000 in
set_option maxHeartbeats 4000000 in
theorem Count_spec (N : Int) (A B : Option Addr) (l : List Arc) (cap : Nat) (L : List Int) (cb : Nat) (w : World) (hr : Ro (Fr w []) w A (l.flatMap cE)) (hl : l.length ≤ 9223372036854775807) (hN : I64 N) (hok : ∀ x ∈ l, dQ x) (hL : Ro (Fr w []) w B (a6 L)) (hm : L.length ≤ 9223372036854775807) :
    Meets Tryz.prog 47 [.agg #[.int .i64 N, .slice A l.length cap], .slice B L.length cb] w [] (fun u m => u = .tuple #[.int .i64 (eD N l L).1, .int .i64 (eD N l L).2] ∧ m = []) := by
 refine bJ Tryz.func47 rfl Tryz.ntmps47 rfl Owns.nil ?_;refine aK fun K1 kh1 => ?_;refine aB ?_;refine aR rfl rfl rfl (cZ rfl rfl fun b2 => ?_);refine aA rfl rfl rfl (aF rfl) ?_;refine aA rfl rfl rfl (aF rfl) ?_;refine aJ ?_;refine aL (kh1 _ _ ?_);clear kh1;refine aK fun K2 kh2 => ?_;refine aK fun K3 kh3 => ?_;refine aB ?_;refine aA rfl rfl rfl (a8 (vs := [_, _]) Tryz.isAgg24 Tryz.sizeOf24 rfl rfl ⟨(rdA rfl), (rdA rfl), trivial⟩) ?_;refine aR rfl rfl rfl (bD Tryz.call21 rfl (fun w_ hp_ => fG N A l cap w_ (hr.up0 hp_) hl hN hok) ?_);rintro _ _ ⟨rfl, rfl⟩;dsimp only [List.cons_append, List.nil_append];refine aA rfl rfl rfl (aG rfl) ?_;refine aA rfl rfl rfl (aV rfl rfl) ?_;refine aA rfl rfl rfl (aV rfl rfl) ?_;refine aA rfl rfl rfl (aF rfl) ?_;refine aA rfl rfl rfl (aF rfl) ?_;refine aJ ?_;refine aL (kh3 _ _ ?_);clear kh3;refine aK fun K4 kh4 => ?_;refine aB ?_;refine aA rfl rfl rfl (aG rfl) ?_;refine aA rfl rfl rfl (c6 rfl rfl) ?_;refine aJ ?_;refine aL (kh4 _ _ ?_);clear kh4;refine aZ rfl (fun c17 => ?_) (fun c17 => ?_)
 ·
  refine aK fun K5 kh5 => ?_;refine aB ?_;refine aA rfl rfl rfl (aG rfl) ?_;refine aA rfl rfl rfl (aF rfl) ?_;refine aA rfl rfl rfl (aF rfl) ?_;refine aJ ?_;refine aL (kh5 _ _ ?_);clear kh5;refine a7 ?_;refine bT ?_;have e : eD N l L = (0, (bH N l).2) := if_pos c17
  exact bW [] Tryz.results47 rfl rfl aI ⟨by rw [e], rfl⟩
 ·
  have hg0 : (bH N l).2 = 0 := by simpa using c17
  obtain ⟨hn1, hn2, _, hgd⟩ := bX hg0
  refine aW ?_;refine aL (kh2 _ _ ?_);clear kh2;refine aK fun K6 kh6 => ?_;refine aK fun K7 kh7 => ?_;refine aB ?_;refine aA rfl rfl rfl (a8 (vs := [_, _]) Tryz.isAgg24 Tryz.sizeOf24 rfl rfl ⟨(rdA rfl), (rdA rfl), trivial⟩) ?_;refine aA rfl rfl rfl (aG rfl) ?_;refine aR rfl rfl rfl (bD Tryz.call67 rfl (fun w_ hp_ => right_spec N A B l.length cap L cb w_ (hL.up0 hp_) hm) ?_);rintro _ _ ⟨rfl, rfl⟩;dsimp only [List.cons_append, List.nil_append];refine aA rfl rfl rfl (kG rfl) ?_;refine aJ ?_;refine aL (kh7 _ _ ?_);clear kh7;refine fC rfl (fun c22 => ?_) (fun c22 => ?_)
  ·
   refine aK fun K8 kh8 => ?_;refine aB ?_;refine aA rfl rfl rfl (aF rfl) ?_;refine aA rfl rfl rfl (aF rfl) ?_;refine aJ ?_;refine aL (kh8 _ _ ?_);clear kh8;refine a7 ?_;refine bT ?_;have e : eD N l L = (0, 80) := by rw [eD, if_neg c17, if_pos (by simpa using c22)]
   exact bW [] Tryz.results47 rfl rfl aI ⟨by rw [e], rfl⟩
  ·
   have hrt : c7 N L = true := by simpa using c22
   obtain ⟨n, rfl⟩ : ∃ n : Nat, N = (n : Int) := ⟨N.toNat, by omega⟩
   have hg : (bH (n : Int) l).2 = 0 := hg0
   have hLn : L.length = n := by unfold c7 at hrt; simp at hrt; omega
   refine aW ?_;refine aL (kh6 _ _ ?_);clear kh6;refine aK fun K9 kh9 => ?_;refine aB ?_;refine aA rfl rfl rfl (aF rfl) ?_;refine aJ ?_;refine aL (kh9 _ _ ?_);clear kh9;refine aK fun K10 kh10 => ?_;refine aK fun K11 kh11 => ?_;refine aB ?_;refine aA rfl rfl rfl (a8 (vs := [_, _]) Tryz.isAgg24 Tryz.sizeOf24 rfl rfl ⟨(rdA rfl), (rdA rfl), trivial⟩) ?_;refine aR rfl rfl rfl (bD Tryz.call66 rfl (fun w_ hp_ => pairs_spec n A l cap w_ (hr.up0 hp_) hg) ?_);rintro _ _ ⟨A', mp, rfl, rfl, cp, hop⟩;have hpl := prs_len (n := n) (by omega) l
   dsimp only [List.cons_append, List.nil_append];refine aA rfl rfl rfl (bS iB rfl) ?_;refine aA rfl rfl rfl (aG rfl) ?_;refine aJ ?_;refine aL (kh11 _ _ ?_);clear kh11;refine aY ?_;refine cS (α := Nat) [1, 24, 25] (fun i => [(26, .int .i64 (i : Int)), (8, .int .i64 ((((prs n l).take i).filter (gE L)).length : Int))]) (fun i => [mp]) (fun i => i ≤ (prs n l).length) (fun i => (prs n l).length - i) (0) ?_ ?_ ?_ ?_
   · exact (by repeat constructor)
   · repeat first|exact aI|refine aD ?_|refine aC rfl ?_|refine aH ?_
   · exact Nat.zero_le _
   ·
    rintro i hil;have hfl : (((prs n l).take i).filter (gE L)).length ≤ i := Nat.le_trans (List.length_filter_le _ _) (by rw [List.length_take]; omega)
    refine aK fun K12 kh12 => ?_;refine aB ?_;refine aA rfl rfl rfl (cD rfl rfl) ?_;refine aJ ?_;refine aL (kh12 _ _ ?_);clear kh12;refine aK fun K13 kh13 => ?_;refine aZ rfl (fun c27 => ?_) (fun c27 => ?_)
    ·
     have hi : i < (prs n l).length := by omega
     obtain ⟨bp, spp, rfl, rfl⟩ := hop.at_ (by omega)
     have hrg := f7 (List.getElem_mem hi)
     obtain ⟨bb, ob, rfl, hSb, hcb⟩ := hL (fun e => by have := aX L; rw [e] at this; simp at this; omega)
     have hx1 : (prs n l)[i].1.toNat < L.length := by omega
     have hx2 : (prs n l)[i].2.toNat < L.length := by omega
     have hap : gE L (prs n l)[i] = decide (L[(prs n l)[i].1.toNat] ≠ L[(prs n l)[i].2.toNat]) := by unfold gE; rw [List.getD_eq_getElem?_getD, List.getD_eq_getElem?_getD, List.getElem?_eq_getElem hx1, List.getElem?_eq_getElem hx2]; rfl
     have hnx := kL (q := gE L) hi
     rw [hap] at hnx;refine aW ?_;refine aL (kh13 _ _ ?_);clear kh13;refine aK fun K14 kh14 => ?_;refine aY ?_;refine aK fun K15 kh15 => ?_;refine aB ?_;refine aA rfl rfl rfl (bA iB rfl rfl (i * 2) ⟨by omega, by omega, by first | omega | (simp; done) | (simp; omega)⟩) ?_;refine aA rfl rfl rfl (a8 (vs := dU (prs n l)[i]) Tryz.isAgg95 Tryz.sizeOf95 rfl rfl (rdsOwn dK hi)) ?_;refine aR rfl rfl rfl (cU Tryz.zeroValue95 rfl fun b10 => ?_);refine bF rfl rfl (cA Tryz.sizeOf95 rfl rfl rfl rfl (by first | exact Nat.le_of_ble_eq_true rfl | (simp; done) | (simp; omega)) (dU (prs n l)[i]) rfl ?_);refine aJ ?_;refine aL (kh15 _ _ ?_);clear kh15;refine aK fun K16 kh16 => ?_;refine fY rfl (by decide +kernel) ?_;refine aN rfl rfl rfl (aG rfl) ?_;refine aN rfl rfl rfl (aQ kM rfl) ?_;refine aN rfl rfl rfl (aM Tryz.isAgg3 rfl (rdA rfl)) ?_;refine aN rfl rfl rfl (bA bK rfl rfl (ob + (prs n l)[i].1.toNat) ⟨by omega, by omega, by first | omega | (simp; done) | (simp; omega)⟩) ?_;refine aN rfl rfl rfl (aM Tryz.isAgg3 rfl (dX (enc := (.int .i64 ·)) hSb hcb hx1)) ?_;refine aN rfl rfl rfl (aG rfl) ?_;refine aN rfl rfl rfl (aQ fa95_1 rfl) ?_;refine aN rfl rfl rfl (aM Tryz.isAgg3 rfl (rdA rfl)) ?_;refine aN rfl rfl rfl (bA bK rfl rfl (ob + (prs n l)[i].2.toNat) ⟨by omega, by omega, by first | omega | (simp; done) | (simp; omega)⟩) ?_;refine aN rfl rfl rfl (aM Tryz.isAgg3 rfl (dX (enc := (.int .i64 ·)) hSb hcb hx2)) ?_;refine aN rfl rfl rfl (c6 rfl rfl) ?_;refine eH ?_;refine aL (kh16 _ _ ?_);clear kh16;refine aZ rfl (fun c40 => ?_) (fun c40 => ?_)
     ·
      rw [if_pos (by simpa using c40)] at hnx;refine aB ?_;refine aA rfl rfl rfl (aG rfl) ?_;refine aA rfl rfl rfl (bG rfl rfl _ (Eq.trans (aT (by omega)) (show _ = ((((prs n l).take (i + 1)).filter (gE L)).length : Int) by omega))) ?_;refine aA rfl rfl rfl (aF rfl) ?_;refine aJ ?_;refine cV ?_;refine aL (kh14 _ _ ?_);clear kh14;refine aB ?_;refine aA rfl rfl rfl (bG rfl rfl _ (aT (by omega))) ?_;refine aA rfl rfl rfl (aG rfl) ?_;refine aJ ?_;refine aL (bB (i + 1) (by first | omega | (dsimp only; omega) | (simp; omega)) (by omega) ?_ ?_ ?_)
      · exact (by repeat constructor)
      · exact (by repeat constructor)
      · repeat first|exact aI|refine aD ?_|refine aC rfl ?_|refine aH ?_
     ·
      rw [if_neg (by simpa using c40), Nat.add_zero] at hnx;refine f_reC 8 rfl (v := .int .i64 ((((prs n l).take (i + 1)).filter (gE L)).length : Int)) (by rw [hnx]; rfl) ?_;refine aW ?_;refine cV ?_;refine aL (kh14 _ _ ?_);clear kh14;refine aB ?_;refine aA rfl rfl rfl (bG rfl rfl _ (aT (by omega))) ?_;refine aA rfl rfl rfl (aG rfl) ?_;refine aJ ?_;refine aL (bB (i + 1) (by first | omega | (dsimp only; omega) | (simp; omega)) (by omega) ?_ ?_ ?_)
      · exact (by repeat constructor)
      · exact (by repeat constructor)
      · repeat first|exact aI|refine aD ?_|refine aC rfl ?_|refine aH ?_
    ·
     refine cG ?_;refine cK ?_;clear kh13;refine cK ?_;refine d5 ?_;refine aL (kh10 _ _ ?_);clear kh10;refine aK fun K17 kh17 => ?_;refine aB ?_;refine aA rfl rfl rfl (aG rfl) ?_;refine aA rfl rfl rfl (aF rfl) ?_;refine aA rfl rfl rfl (aF rfl) ?_;refine aJ ?_;refine aL (kh17 _ _ ?_);clear kh17;refine a7 ?_;have e : eD (n : Int) l L = ((l3 n l L : Int), 0) := by rw [eD, if_neg (by rw [hg]; simp), if_neg (by rw [hrt]; simp)]; rfl
     obtain rfl : i = (prs n l).length := by omega
     rw [e];exact bW [] Tryz.results47 rfl rfl aI ⟨by rw [l3, List.take_length], rfl⟩
set_option maxRecDepth 100000 in
set_option maxHeartbeats 4000000 in
theorem kA (B : Option Addr) (L : List Int) (cb : Nat) (w : World) (hL : Ro (Fr w []) w B (a6 L)) (h0 : 0 < L.length) (hm : L.length ≤ 9223372036854775807) :
    Meets Tryz.prog 40 [.slice B L.length cb] w [] (fun u m => u = .int .i64 (d4 L) ∧ m = []) := by
 obtain ⟨bb, ob, rfl, hSb, hcb⟩ := hL (fun e => by have := aX L; rw [e] at this; simp at this; omega)
 refine bJ Tryz.func40 rfl Tryz.ntmps40 rfl Owns.nil ?_;refine aK fun K1 kh1 => ?_;refine aB ?_;refine aA rfl rfl rfl (aF rfl) ?_;refine aJ ?_;refine aL (kh1 _ _ ?_);clear kh1;refine aK fun K2 kh2 => ?_;refine aK fun K3 kh3 => ?_;refine aB ?_;refine aA rfl rfl rfl (aG rfl) ?_;refine aA rfl rfl rfl (bS bK rfl) ?_;refine aA rfl rfl rfl (cD rfl rfl) ?_;refine aJ ?_;refine aL (kh3 _ _ ?_);clear kh3;refine e7 rfl (by omega) ?_;refine aW ?_;refine aL (kh2 _ _ ?_);clear kh2;refine aK fun K4 kh4 => ?_;refine aB ?_;refine aA rfl rfl rfl (aG rfl) ?_;refine aA rfl rfl rfl (bA bK rfl rfl (ob + 0) ⟨by omega, by omega, by first | omega | (simp; done) | (simp; omega)⟩) ?_;refine aA rfl rfl rfl (aM Tryz.isAgg3 rfl (dX (enc := (.int .i64 ·)) hSb hcb h0)) ?_;refine aA rfl rfl rfl (aF rfl) ?_;refine aJ ?_;refine aL (kh4 _ _ ?_);clear kh4;refine aK fun K5 kh5 => ?_;refine aK fun K6 kh6 => ?_;refine f_reC 3 rfl (v := .int .i64 ((L.take 1).foldl max (L.headD 0))) (by rw [max_one h0]) ?_;refine aB ?_;refine aA rfl rfl rfl (aF rfl) ?_;refine aJ ?_;refine aL (kh6 _ _ ?_);clear kh6;refine aY ?_;refine jO (α := Nat) [0] (fun k => [(4, .int .i64 (k : Int)), (3, .int .i64 ((L.take k).foldl max (L.headD 0)))]) (fun k => 1 ≤ k ∧ k ≤ L.length) (fun k => L.length - k) (1) ?_ ?_ ?_
 · exact (by repeat constructor)
 · exact ⟨by omega, by omega⟩
 ·
  rintro k ⟨hk1, hkl⟩;refine aK fun K7 kh7 => ?_;refine aK fun K8 kh8 => ?_;refine aB ?_;refine aA rfl rfl rfl (aG rfl) ?_;refine aA rfl rfl rfl (aG rfl) ?_;refine aA rfl rfl rfl (bS bK rfl) ?_;refine aA rfl rfl rfl (cD rfl rfl) ?_;refine aJ ?_;refine aL (kh8 _ _ ?_);clear kh8;refine aZ rfl (fun c15 => ?_) (fun c15 => ?_)
  ·
   have hk : k < L.length := by omega
   refine aW ?_;refine aL (kh7 _ _ ?_);clear kh7;refine aK fun K9 kh9 => ?_;refine aY ?_;refine aB ?_;refine aA rfl rfl rfl (aG rfl) ?_;refine aA rfl rfl rfl (aG rfl) ?_;refine aA rfl rfl rfl (aG rfl) ?_;refine aA rfl rfl rfl (bA bK rfl rfl (ob + k) ⟨by omega, by omega, by first | omega | (simp; done) | (simp; omega)⟩) ?_;refine aA rfl rfl rfl (aM Tryz.isAgg3 rfl (dX (enc := (.int .i64 ·)) hSb hcb hk)) ?_;refine aA rfl rfl rfl (o_max rfl rfl) ?_;refine aA rfl rfl rfl (aF rfl) ?_;refine aJ ?_;refine cV ?_;refine aL (kh9 _ _ ?_);clear kh9;refine f_reC 3 rfl (v := .int .i64 ((L.take (k + 1)).foldl max (L.headD 0))) (by rw [max_next hk]) ?_;refine aB ?_;refine aA rfl rfl rfl (aG rfl) ?_;refine aA rfl rfl rfl (bG rfl rfl _ (aT (by omega))) ?_;refine aA rfl rfl rfl (aF rfl) ?_;refine aJ ?_;refine aL (bB (k + 1) (by first | omega | (dsimp only; omega) | (simp; omega)) ⟨by omega, by omega⟩ ?_ ?_ ?_)
   · exact (by repeat constructor)
   · exact (by repeat constructor)
   · repeat first|exact aI|refine aD ?_|refine aC rfl ?_|refine aH ?_
  ·
   refine cG ?_;refine cK ?_;clear kh7;refine cK ?_;refine d5 ?_;refine aL (kh5 _ _ ?_);clear kh5;refine aK fun K10 kh10 => ?_;refine aB ?_;refine aA rfl rfl rfl (aG rfl) ?_;refine aA rfl rfl rfl (aF rfl) ?_;refine aJ ?_;refine aL (kh10 _ _ ?_);clear kh10;refine a7 ?_;exact bP [] Tryz.results40 rfl aI ⟨by rw [List.take_of_length_le (by omega)]; rfl, rfl⟩
set_option maxRecDepth 100000 in
set_option maxHeartbeats 4000000 in
theorem lK (B : Option Addr) (L : List Int) (cb : Nat) (w : World) (hL : Ro (Fr w []) w B (a6 L)) (h0 : 0 < L.length) (hm : L.length ≤ 1024) (hp : ∀ x ∈ L, 0 ≤ x ∧ x < 1024) :
    Meets Tryz.prog 41 [.slice B L.length cb] w [] (fun u own' => ∃ b, u = .slice (some ⟨b, 0, none⟩) (d4 L + 1).toNat (d4 L + 1).toNat ∧ own' = [[(b, blk (a6 (cQ L)) 3)]]) := by
 have hx0 : 0 ≤ d4 L := Int.le_trans (hp L[0] (List.getElem_mem h0)).1 (f8 (List.getElem_mem h0))
 have hx1 : d4 L ≤ 1023 := jL h0 fun x hx => by have := hp x hx; omega
 obtain ⟨M, hM⟩ : ∃ M : Nat, d4 L + 1 = (M : Int) := ⟨(d4 L + 1).toNat, by omega⟩
 rw [cQ, show (d4 L + 1).toNat = M by omega];refine bJ Tryz.func41 rfl Tryz.ntmps41 rfl Owns.nil ?_;refine aK fun K1 kh1 => ?_;refine aB ?_;refine aA rfl rfl rfl (aF rfl) ?_;refine aJ ?_;refine aL (kh1 _ _ ?_);clear kh1;refine aK fun K2 kh2 => ?_;refine aB ?_;refine aA rfl rfl rfl (aG rfl) ?_;refine aR rfl rfl rfl (bD Tryz.call40 rfl (fun w_ hp_ => kA B L cb w_ (hL.up0 hp_) h0 (by omega)) ?_);rintro _ _ ⟨rfl, rfl⟩;dsimp only [List.cons_append, List.nil_append];refine aA rfl rfl rfl (bG rfl rfl _ (show IntKind.i64.wrap (d4 L + 1) = (M : Int) from by rw [aT (by omega)]; omega)) ?_;refine aR rfl rfl rfl (d3 dV rfl rfl M rfl (by omega) (by omega) (a6 (szs M [])) (by rw [szs_nil]; simp [a6, List.flatten_replicate_singleton]) fun b9 => ?_);refine aA rfl rfl rfl (aF rfl) ?_;refine aJ ?_;refine aL (kh2 _ _ ?_);clear kh2;refine aK fun K3 kh3 => ?_;refine aK fun K4 kh4 => ?_;refine aB ?_;refine aA rfl rfl rfl (aG rfl) ?_;refine aA rfl rfl rfl (bS bK rfl) ?_;refine aA rfl rfl rfl (aG rfl) ?_;refine aJ ?_;refine aL (kh4 _ _ ?_);clear kh4;refine aY ?_;refine cS (α := Nat) [3, 10, 11] (fun k => [(12, .int .i64 (k : Int))]) (fun k => [[(b9, blk (a6 (szs M (L.take k))) 3)]]) (fun k => k ≤ L.length) (fun k => L.length - k) (0) ?_ ?_ ?_ ?_
 · exact (by repeat constructor)
 · repeat first|exact aI|refine aD ?_|refine aC rfl ?_|refine aH ?_
 · exact Nat.zero_le _
 ·
  rintro k hkl;refine aK fun K5 kh5 => ?_;refine aB ?_;refine aA rfl rfl rfl (cD rfl rfl) ?_;refine aJ ?_;refine aL (kh5 _ _ ?_);clear kh5;refine aK fun K6 kh6 => ?_;refine aZ rfl (fun c13 => ?_) (fun c13 => ?_)
  ·
   have hk : k < L.length := by omega
   obtain ⟨bb, ob, rfl, hSb, hcb⟩ := hL (fun e => by have := aX L; rw [e] at this; simp at this; omega)
   have hpk := hp L[k] (List.getElem_mem hk)
   have hmx := f8 (List.getElem_mem hk)
   obtain ⟨v, hv⟩ : ∃ v : Nat, L[k] = (v : Int) := ⟨L[k].toNat, by omega⟩
   have hvM : v < M := by omega
   have hcl := cnt_le (L.take k) v
   rw [List.length_take] at hcl;refine aW ?_;refine aL (kh6 _ _ ?_);clear kh6;refine aK fun K7 kh7 => ?_;refine aY ?_;refine aK fun K8 kh8 => ?_;refine aB ?_;refine aA rfl rfl rfl (bA bK rfl rfl (ob + k) ⟨by omega, by omega, by first | omega | (simp; done) | (simp; omega)⟩) ?_;refine aA rfl rfl rfl (aM Tryz.isAgg3 rfl (show Rd _ _ _ _ _ (.int .i64 (v : Int)) by rw [← hv]; exact dX (enc := (.int .i64 ·)) hSb hcb hk)) ?_;refine aA rfl rfl rfl (aF rfl) ?_;refine aJ ?_;refine aL (kh8 _ _ ?_);clear kh8;refine aB ?_;refine aA rfl rfl rfl (aG rfl) ?_;refine aA rfl rfl rfl (aG rfl) ?_;refine aA rfl rfl rfl (bA bK rfl rfl (v) ⟨by omega, by omega, by first | omega | (simp; done) | (simp; omega)⟩) ?_;refine aA rfl rfl rfl (aM Tryz.isAgg3 rfl (rdA (v := .int .i64 (cnt (L.take k) v : Int)) (by rw [dL (by rw [eT]; exact hvM), iK hvM]))) ?_;refine aA rfl rfl rfl (bG rfl rfl _ (aT (by omega))) ?_;refine aA rfl rfl rfl (bA bK rfl rfl (v) ⟨by omega, by omega, by first | omega | (simp; done) | (simp; omega)⟩) ?_;refine bF rfl rfl (cB Tryz.sizeOf3 rfl rfl rfl rfl (by rw [aX, eT]; omega) (a6 (szs M (L.take (k + 1)))) (by rw [szs_next hk hv hvM]; simp [a6]) ?_);refine aJ ?_;refine cV ?_;refine aL (kh7 _ _ ?_);clear kh7;refine aB ?_;refine aA rfl rfl rfl (bG rfl rfl _ (aT (by omega))) ?_;refine aA rfl rfl rfl (aG rfl) ?_;refine aJ ?_;refine aL (bB (k + 1) (by first | omega | (dsimp only; omega) | (simp; omega)) (by omega) ?_ ?_ ?_)
   · exact (by repeat constructor)
   · exact (by repeat constructor)
   · repeat first|exact aI|refine aD ?_|refine aC rfl ?_|refine aH ?_
  · refine cG ?_;refine cK ?_;clear kh6;refine cK ?_;refine d5 ?_;refine aL (kh3 _ _ ?_);clear kh3;refine aK fun K9 kh9 => ?_;refine aB ?_;refine aA rfl rfl rfl (aG rfl) ?_;refine aA rfl rfl rfl (aF rfl) ?_;refine aJ ?_;refine aL (kh9 _ _ ?_);clear kh9;refine a7 ?_;rw [List.take_of_length_le (by omega)];exact bP [[(b9, blk (a6 (szs M L)) 3)]] Tryz.results41 rfl (by repeat (first | exact aI | refine aD ?_ | refine aC rfl ?_)) ⟨b9, rfl, rfl⟩
end Go.Proofs.YtjjogcnjcnpehaaGreat

/- The first example of chapter 8: what the natural cut is asked of. -/
namespace Go.Proofs.YtjjogcnjcnpehaaGreat
open Go Fly
set_option linter.unusedVariables false
set_option linter.unusedSimpArgs false
set_option linter.unusedSectionVars false
/-- The neighbours of a vertex, counted out. -/
def nbC (n : Nat) (l : List Arc) (v : Int) : List Int := ((List.range n).map Int.ofNat).filter fun u => l.any fun x => decide (u ∈ nbr v x)
theorem nbrs_canonC {n : Nat} {l : List Arc} (hg : (bH (n : Int) l).2 = 0) (v : Nat) (hv : v < n) : bY (v : Int) l = nbC n l v := by
  have h2 : (nbC n l v).Pairwise (· < ·) := by
    unfold nbC
    refine List.Pairwise.filter _ ?_;rw [List.pairwise_map];exact List.pairwise_lt_range.imp fun {a b} h => by show (a : Int) < (b : Int); omega
  have h1 := nbrs_rising v l
  refine List.Perm.eq_of_pairwise (le := (· < ·)) (fun a b _ _ h h' => absurd h (by omega)) h1 h2 ?_;refine (List.perm_ext_iff_of_nodup (h1.imp fun {a b} h e => by omega) (h2.imp fun {a b} h e => by omega)).2 fun u => ?_;rw [k6]
  unfold nbC
  simp only [List.mem_filter, List.mem_map, List.mem_range, List.any_eq_true, decide_eq_true_eq];constructor
  · rintro ⟨x, hx, hu⟩
    have := (iZ hg).2 v hv u (k6.2 ⟨x, hx, hu⟩)
    exact ⟨⟨u.toNat, by omega, by show ((u.toNat : Nat) : Int) = u; omega⟩, x, hx, hu⟩
  · rintro ⟨_, x, hx, hu⟩; exact ⟨x, hx, hu⟩
theorem bstep_sameC {rows rows' : Nat → List Int} {n : Nat} (h : ∀ v, v < n → rows v = rows' v) {s : BSt} (hI : BInv n s) (k : Nat) : iT rows k s = iT rows' k s := by
  unfold iT
  cases e : s.1[k]? with
  | none => rfl
  | some v =>
    have hv := hI.rng v (List.mem_of_getElem? e)
    simp only;rw [h _ (by omega)]
theorem bgo_sameC {rows rows' : Nat → List Int} {n : Nat} (h : ∀ v, v < n → rows v = rows' v) (hr : ∀ v, v < n → ∀ u ∈ rows v, 0 ≤ u ∧ u < (n : Int)) {s : BSt} (hI : BInv n s) : ∀ k, bgo rows s k = bgo rows' s k
  | 0 => rfl
  | k + 1 => by
    show iT rows k (bgo rows s k) = iT rows' k (bgo rows' s k)
    rw [← bgo_sameC h hr hI k];exact bstep_sameC h (BInv.go hr hI k) k
def wg8 : List Arc := [⟨0, 1, 0⟩, ⟨1, 2, 0⟩, ⟨2, 0, 0⟩, ⟨3, 4, 0⟩, ⟨4, 5, 0⟩, ⟨5, 3, 0⟩, ⟨2, 3, 0⟩]
theorem wg8Ok : ∀ x ∈ wg8, dQ x := by
  intro x hx;simp only [wg8, List.mem_cons, List.not_mem_nil, or_false] at hx
  rcases hx with rfl | rfl | rfl | rfl | rfl | rfl | rfl <;> exact ⟨⟨by decide, by decide⟩, ⟨by decide, by decide⟩, by decide⟩
theorem w8Es : lE (iW [(2, 3)] wg8) = [(0, 1), (1, 2), (2, 0), (3, 4), (4, 5), (5, 3)] := by decide +kernel
theorem w8Root : ∀ u : Nat, u < 6 → Conn [(0, 1), (1, 2), (2, 0), (3, 4), (4, 5), (5, 3)] u (if u < 3 then 0 else 3) := fun u hu => by
  have h5 : u = 0 ∨ u = 1 ∨ u = 2 ∨ u = 3 ∨ u = 4 ∨ u = 5 := by omega
  rcases h5 with rfl | rfl | rfl | rfl | rfl | rfl
  · exact .refl _
  · exact Conn.edge (.inr (by decide))
  · exact Conn.edge (.inl (by decide))
  · exact .refl _
  · exact Conn.edge (.inr (by decide))
  · exact Conn.edge (.inl (by decide))
theorem w8At : ∀ u : Nat, ∀ h : u < 6, ([0, 0, 0, 1, 1, 1] : List Nat)[u] = if u < 3 then 0 else 1 := by decide
theorem w8Parts : IsParts 6 (lE (iW [(2, 3)] wg8)) [0, 0, 0, 1, 1, 1] where
  len := rfl
  tidy := by unfold Tidy; decide
  conn := fun u v hu hv => by
    have hu' : u < 6 := hu
    have hv' : v < 6 := hv
    rw [w8Es, w8At u hu', w8At v hv'];constructor
    · intro e
      have h1 := w8Root u hu'
      have h2 := w8Root v hv'
      have e2 : (if u < 3 then 0 else 3) = (if v < 3 then 0 else 3) := by
        by_cases a : u < 3 <;> by_cases b : v < 3 <;> simp [a, b] at e ⊢
      rw [e2] at h1;exact h1.trans h2.symm
    · intro h
      exact conn_eq_of_up (f := fun x => if x < 3 then 0 else 1) (by decide) h
theorem w8Frag {p : List Nat} (h : IsParts 6 (lE (iW [(2, 3)] wg8)) p) : natN p = [0, 0, 0, 1, 1, 1] := by
  rw [h.unique w8Parts fun _ _ _ _ => Iff.rfl]; rfl
end Go.Proofs.YtjjogcnjcnpehaaGreat

/- Moves of a vertex to another label. -/
namespace Go.Proofs.YtjjogcnjcnpehaaGreat
open Go Fly
set_option linter.unusedVariables false
set_option linter.unusedSimpArgs false
set_option linter.unusedSectionVars false
theorem Sub.of_perm {m : Seg} {out : List Seg} (h : m.Perm out.flatten) : Fly.Sub [m] out := ⟨[], by simpa using h⟩
theorem Sub.flat {segs out : List Seg} (h : Fly.Sub segs out) : Fly.Sub segs [out.flatten] := by
  obtain ⟨rest, h⟩ := h; exact ⟨rest, by simpa using h⟩
theorem Sub.shut {m : Seg} {tl out : List Seg} (h : m.Perm out.flatten) : Fly.Sub (out ++ tl) (m :: tl) := ⟨[], by simp only [List.flatten_cons, List.flatten_append, List.append_nil]; exact h.symm.append_right _⟩
theorem Sub.opened {m : Seg} {tl out : List Seg} (h : m.Perm out.flatten) : Fly.Sub (m :: tl) (out ++ tl) := ⟨[], by simp only [List.flatten_cons, List.flatten_append, List.append_nil]; exact h.append_right _⟩
/-- A vertex's label. -/
def lab (L : List Int) (u : Int) : Int := L.getD u.toNat 0
theorem kK {L : List Int} {u : Int} (h : u.toNat < L.length) : lab L u = L[u.toNat] := by simp [lab, h]
/-- How many of some vertices bear a label. -/
def k5 (L R : List Int) (j : Int) : Nat := (R.filter fun u => decide (lab L u = j)).length
theorem ncnt_next {L R : List Int} {k : Nat} (hk : k < R.length) (j : Int) : k5 L (R.take (k + 1)) j = k5 L (R.take k) j + (if lab L R[k] = j then 1 else 0) := by
  unfold k5; rw [kL hk]; simp
theorem ncnt_le (L R : List Int) (j : Int) : k5 L R j ≤ R.length := List.length_filter_le _ _
/-- What a map of counts holds. -/
def Cnts (L R : List Int) (ents : List (Int × Value × Nat)) : Prop := ∀ j : Int, (dI ents j).getD (.int .i64 0) = .int .i64 (k5 L R j : Int)
theorem Cnts.nil (L : List Int) : Cnts L [] [] := fun j => rfl
theorem Cnts.next {L R : List Int} {ents : List (Int × Value × Nat)} {k c : Nat} (h : Cnts L (R.take k) ents) (hk : k < R.length) : Cnts L (R.take (k + 1)) (eW ents (lab L R[k]) (.int .i64 ((k5 L (R.take k) (lab L R[k]) : Int) + 1)) c) := fun j => by
  rw [gS, ncnt_next hk]
  by_cases e : j = lab L R[k]
  · subst e; rw [if_pos rfl, if_pos rfl]; rfl
  · rw [if_neg e, if_neg (fun h => e h.symm)]; exact h j
/-- What a move gains. -/
def gn (L R : List Int) (own j : Int) : Int := (k5 L R j : Int) - k5 L R own
abbrev Mv := Int × Int × Int
def mvUp (L S R : List Int) (bd : Int) (v : Nat) (b : Mv) (j : Nat) : Mv :=
  if (j : Int) ≠ lab L v ∧ 0 < k5 L R j ∧ S.getD j 0 < bd ∧ b.2.2 < gn L R (lab L v) j then ((v : Int), (j : Int), gn L R (lab L v) j) else b
def gR (L S R : List Int) (bd : Int) (v j : Nat) (b : Mv) : Mv := (List.range j).foldl (mvUp L S R bd v) b
theorem iD (L S R : List Int) (bd : Int) (v j : Nat) (b : Mv) : gR L S R bd v (j + 1) b = mvUp L S R bd v (gR L S R bd v j b) j := by
  unfold gR; rw [List.range_succ, List.foldl_append]; rfl
/-- The first move of all that gain most, over the first k vertices. -/
def g7 (L S : List Int) (rows : Nat → List Int) (bd : Int) (k : Nat) : Mv := (List.range k).foldl (fun b v => gR L S (rows v) bd v S.length b) (0, 0, 0)
theorem mvTo_next (L S : List Int) (rows : Nat → List Int) (bd : Int) (k : Nat) : g7 L S rows bd (k + 1) = gR L S (rows k) bd k S.length (g7 L S rows bd k) := by
  unfold g7; rw [List.range_succ, List.foldl_append]; rfl
def mvCs (m : Mv) : List Value := [.int .i64 m.1, .int .i64 m.2.1, .int .i64 m.2.2]
/-- Labels in the order in which they come. -/
def sns (L : List Int) : List Int := L.foldl (fun s l => if l ∈ s then s else s ++ [l]) []
theorem jV {L : List Int} {k : Nat} (hk : k < L.length) : sns (L.take (k + 1)) = if L[k] ∈ sns (L.take k) then sns (L.take k) else sns (L.take k) ++ [L[k]] := by
  unfold sns; rw [List.take_succ_eq_append_getElem hk, List.foldl_append]; rfl
theorem sns_pre (b : List Int) : ∀ (s : List Int), ∃ r, b.foldl (fun s l => if l ∈ s then s else s ++ [l]) s = s ++ r := by
  induction b with
  | nil => intro s; exact ⟨[], by simp⟩
  | cons x b ih =>
    intro s;simp only [List.foldl_cons]
    by_cases h : x ∈ s
    · rw [if_pos h]; exact ih s
    · rw [if_neg h]
      obtain ⟨r, hr⟩ := ih (s ++ [x])
      exact ⟨x :: r, by rw [hr]; simp⟩
theorem sns_take (L : List Int) (k : Nat) : ∃ r, sns L = sns (L.take k) ++ r := by
  obtain ⟨r, hr⟩ := sns_pre (L.drop k) (sns (L.take k))
  refine ⟨r, ?_⟩;rw [← hr]
  unfold sns
  rw [← List.foldl_append, List.take_append_drop]
theorem kE {L : List Int} : ∀ {k : Nat}, k ≤ L.length → ∀ x ∈ L.take k, x ∈ sns (L.take k)
  | 0, _, x, hx => by simp at hx
  | k + 1, h, x, hx => by
    have hk : k < L.length := by omega
    rw [List.take_succ_eq_append_getElem hk] at hx;rw [jV hk]
    rcases List.mem_append.1 hx with hx | hx
    · have := kE (k := k) (by omega) x hx
      split
      · exact this
      · exact List.mem_append_left _ this
    · simp only [List.mem_singleton] at hx
      subst hx
      split
      · assumption
      · simp
theorem sns_len {L : List Int} : ∀ {k : Nat}, k ≤ L.length → (sns (L.take k)).length ≤ k
  | 0, _ => by simp [sns]
  | k + 1, h => by
    have := sns_len (L := L) (k := k) (by omega)
    rw [jV (by omega)]
    split
    · omega
    · simp; omega
/-- Labels made tidy. -/
def tdy (L : List Int) : List Int := L.map fun l => (((sns L).idxOf l : Nat) : Int)
theorem eR (L : List Int) : (tdy L).length = L.length := by simp [tdy]
/-- Labels of which the first k are tidy. -/
def i9 (L : List Int) (k : Nat) : List Int := (tdy L).take k ++ L.drop k
theorem fS {L : List Int} {k : Nat} : (i9 L k).length = L.length := by unfold i9; rw [List.length_append, List.length_take, List.length_drop, eR]; omega
theorem tdyTo_zero (L : List Int) : i9 L 0 = L := by simp [i9]
theorem tdyTo_all (L : List Int) : i9 L L.length = tdy L := by
  unfold i9; rw [List.drop_length, List.append_nil, ← eR L, List.take_length]
theorem tdyTo_get {L : List Int} {k : Nat} (hk : k < L.length) : (i9 L k)[k]'(by rw [fS]; exact hk) = L[k] := by
  unfold i9
  rw [List.getElem_append_right (by rw [List.length_take, eR]; omega)];simp [List.length_take, eR, Nat.min_eq_left (Nat.le_of_lt hk)]
theorem lI {L : List Int} {k : Nat} (hk : k < L.length) {j : Nat} (hj : j = (sns (L.take (k + 1))).idxOf L[k]) : i9 L (k + 1) = (i9 L k).set k (j : Int) := by
  have hm : L[k] ∈ sns (L.take (k + 1)) := kE (by omega) _ (by rw [List.take_succ_eq_append_getElem hk]; exact List.mem_append_right _ (List.mem_singleton.2 rfl))
  obtain ⟨r, hr⟩ := sns_take L (k + 1)
  have hi : (sns L).idxOf L[k] = j := by rw [hr, List.idxOf_append, if_pos hm, hj]
  unfold i9
  have hkt : k < (tdy L).length := by rw [eR]; exact hk
  rw [List.take_succ_eq_append_getElem hkt];have e : (tdy L)[k] = (j : Int) := by simp [tdy, hi]
  rw [e];rw [List.set_append_right _ _ (by rw [List.length_take]; omega)];simp only [List.length_take, Nat.min_eq_left (Nat.le_of_lt hkt), Nat.sub_self, List.append_assoc, List.singleton_append];rw [show L.drop k = L[k] :: L.drop (k + 1) from (List.getElem_cons_drop hk).symm]; rfl
theorem tdy_rng {L : List Int} : ∀ x ∈ tdy L, 0 ≤ x ∧ x < ((sns L).length : Int) := fun x hx => by
  obtain ⟨l, hl, rfl⟩ := List.mem_map.1 hx
  have : l ∈ sns L := by have := kE (L := L) (k := L.length) (Nat.le_refl _) l (by simpa using hl); simpa using this
  have := List.idxOf_lt_length_of_mem this
  omega
/-- What the map of labels holds. -/
def Nums (s : List Int) (ents : List (Int × Value × Nat)) : Prop := ents.length = s.length ∧ ∀ j : Int, dI ents j = if j ∈ s then some (.int .i64 ((s.idxOf j : Nat) : Int)) else none
theorem Nums.nil : Nums [] [] := ⟨rfl, fun j => rfl⟩
theorem mput_len_new {ents : List (Int × Value × Nat)} {x : Int} (h : dI ents x = none) (v : Value) (c : Nat) : (eW ents x v c).length = ents.length + 1 := by
  induction ents with
  | nil => rfl
  | cons e r ih =>
    simp only [dI] at h
    by_cases hx : x = e.1
    · rw [if_pos hx] at h; cases h
    · rw [if_neg hx] at h
      simp only [eW, if_neg hx, List.length_cons, ih h]
theorem Nums.add {s : List Int} {ents : List (Int × Value × Nat)} (h : Nums s ents) {x : Int} (hx : x ∉ s) (c : Nat) : Nums (s ++ [x]) (eW ents x (.int .i64 (s.length : Int)) c) := by
  refine ⟨?_, fun j => ?_⟩
  · rw [mput_len_new (by rw [h.2, if_neg hx])]; simp [h.1]
  · rw [gS]
    by_cases e : j = x
    · subst e
      rw [if_pos rfl, if_pos (by simp), List.idxOf_append, if_neg hx];simp
    · rw [if_neg e, h.2]
      by_cases hj : j ∈ s
      · rw [if_pos hj, if_pos (by simp [hj]), List.idxOf_append, if_pos hj]
      · rw [if_neg hj, if_neg (by simp [hj, e])]
end Go.Proofs.YtjjogcnjcnpehaaGreat

/- What a move does to the pairs between labels. -/
namespace Go.Proofs.YtjjogcnjcnpehaaGreat
open Go Fly
set_option linter.unusedVariables false
set_option linter.unusedSimpArgs false
set_option linter.unusedSectionVars false
def oth (v : Int) (p : Pr) : Int := if p.1 = v then p.2 else p.1
def atv (v : Int) (p : Pr) : Bool := decide (p.1 = v) || decide (p.2 = v)
theorem filt_split {α : Type} (c a : α → Bool) (l : List α) : (l.filter a).length = ((l.filter c).filter a).length + ((l.filter fun x => !c x).filter a).length := by
  induction l with
  | nil => rfl
  | cons x l ih => by_cases h1 : a x <;> by_cases h2 : c x <;> simp [h1, h2, ih] <;> omega
abbrev GoodC (n : Nat) (l : List Arc) : Prop := ∀ a ∈ l, (0 ≤ a.src ∧ a.src < n) ∧ 0 ≤ a.dst ∧ a.dst < n
theorem prs_lt {n : Nat} {l : List Arc} (hg : GoodC n l) {p : Pr} (h : p ∈ prs n l) : p.1 < p.2 := by
  obtain ⟨a, _, hne, rfl⟩ := k8.1 ((mem_prs hg).1 h)
  unfold jZ
  simp only;omega
theorem nbr_iff {v u : Int} {x : Arc} : u ∈ nbr v x ↔ x.src ≠ x.dst ∧ ((x.src = v ∧ u = x.dst) ∨ (x.dst = v ∧ u = x.src)) := by
  unfold nbr
  by_cases h1 : x.src = x.dst
  · rw [if_pos h1]; simp [h1]
  · rw [if_neg h1]
    by_cases h2 : x.src = v
    · rw [if_pos h2]; simp; omega
    · rw [if_neg h2]
      by_cases h3 : x.dst = v
      · rw [if_pos h3]; simp; omega
      · rw [if_neg h3]; simp; omega
theorem oth_mem {n : Nat} {l : List Arc} (hg : GoodC n l) {v u : Int} : u ∈ ((prs n l).filter (atv v)).map (oth v) ↔ u ∈ bY v l := by
  rw [k6, List.mem_map];constructor
  · rintro ⟨p, hp, rfl⟩
    obtain ⟨hp, hv⟩ := List.mem_filter.1 hp
    obtain ⟨a, ha, hne, rfl⟩ := k8.1 ((mem_prs hg).1 hp)
    refine ⟨a, ha, nbr_iff.2 ⟨hne, ?_⟩⟩
    unfold atv jZ at hv
    simp only [Bool.or_eq_true, decide_eq_true_eq] at hv
    unfold oth jZ
    simp only
    split <;> omega
  · rintro ⟨a, ha, hu⟩
    obtain ⟨hne, hu⟩ := nbr_iff.1 hu
    refine ⟨jZ a, List.mem_filter.2 ⟨(mem_prs hg).2 (k8.2 ⟨a, ha, hne, rfl⟩), ?_⟩, ?_⟩
    · unfold atv jZ
      simp only [Bool.or_eq_true, decide_eq_true_eq];omega
    · unfold oth jZ
      simp only
      split <;> omega
theorem oth_perm {n : Nat} {l : List Arc} (hg : GoodC n l) (v : Int) : (((prs n l).filter (atv v)).map (oth v)).Perm (bY v l) := by
  have h1 : (((prs n l).filter (atv v)).map (oth v)).Nodup := by
    unfold List.Nodup
    rw [List.pairwise_map];refine ((lO n l).filter (atv v)).imp_of_mem ?_;intro p q hp hq hlt e;obtain ⟨hp1, hp2⟩ := List.mem_filter.1 hp
    obtain ⟨hq1, hq2⟩ := List.mem_filter.1 hq
    have a1 := prs_lt hg hp1
    have a2 := prs_lt hg hq1
    unfold atv at hp2 hq2
    simp only [Bool.or_eq_true, decide_eq_true_eq] at hp2 hq2
    unfold oth at e
    unfold ltX at hlt
    split at e <;> split at e <;> omega
  have h2 : (bY v l).Nodup := (nbrs_rising v l).imp fun {a b} h e => by omega
  exact (List.perm_ext_iff_of_nodup h1 h2).2 fun u => oth_mem hg
theorem ncnt_compl (L R : List Int) (j : Int) : (R.filter fun u => decide (lab L u ≠ j)).length + k5 L R j = R.length := by
  unfold k5
  induction R with
  | nil => rfl
  | cons x R ih => by_cases h : lab L x = j <;> simp [h] at ih ⊢ <;> omega
theorem jS (L : List Int) (p : Pr) : gE L p = decide (lab L p.1 ≠ lab L p.2) := rfl
theorem at_count {n : Nat} {l : List Arc} (hg : GoodC n l) (L : List Int) (v : Int) : (((prs n l).filter (atv v)).filter (gE L)).length + k5 L (bY v l) (lab L v) = (bY v l).length := by
  have h1 := ncnt_compl L (bY v l) (lab L v)
  have hp := (oth_perm hg v).filter fun u => decide (lab L u ≠ lab L v)
  have h2 := hp.length_eq
  rw [List.filter_map, List.length_map] at h2
  have h3 : ((prs n l).filter (atv v)).filter (gE L) = ((prs n l).filter (atv v)).filter ((fun u => decide (lab L u ≠ lab L v)) ∘ oth v) := by
    refine List.filter_congr fun p hp => ?_;have hv := (List.mem_filter.1 hp).2
    unfold atv at hv
    simp only [Bool.or_eq_true, decide_eq_true_eq] at hv;rw [jS]
    show decide _ = decide _
    apply decide_eq_decide.2
    unfold oth
    by_cases e : p.1 = v
    · rw [if_pos e, e]; exact ⟨fun h h' => h h'.symm, fun h h' => h h'.symm⟩
    · rw [if_neg e, hv.resolve_left e]
  rw [h3];omega
theorem lab_set_ne {L : List Int} {v : Nat} {j u : Int} (h0 : 0 ≤ u) (h : u ≠ (v : Int)) : lab (L.set v j) u = lab L u := by
  unfold lab
  rw [List.getD_eq_getElem?_getD, List.getD_eq_getElem?_getD, List.getElem?_set_ne (by omega)]
theorem lab_set {L : List Int} {v : Nat} {j : Int} (h : v < L.length) : lab (L.set v j) (v : Int) = j := by
  unfold lab
  rw [List.getD_eq_getElem?_getD]; simp [h]
theorem ncnt_congr {L L' R : List Int} (h : ∀ u ∈ R, lab L u = lab L' u) (j : Int) : k5 L R j = k5 L' R j := by
  unfold k5
  congr 1
  exact List.filter_congr fun u hu => by rw [h u hu]
/-- A move leaves as many pairs fewer as it gains. -/
theorem cut_set {n : Nat} {l : List Arc} (hg : GoodC n l) {L : List Int} {v : Nat} (hv : v < L.length) (j : Int) : (l3 n l (L.set v j) : Int) = l3 n l L - gn L (bY (v : Int) l) (lab L (v : Int)) j := by
  have hR : ∀ u ∈ bY (v : Int) l, 0 ≤ u ∧ u ≠ (v : Int) := fun u hu => by
    obtain ⟨x, hx, hux⟩ := k6.1 hu
    have := nbr_iff.1 hux
    have := hg x hx
    omega
  have a1 := at_count hg L (v : Int)
  have a2 := at_count hg (L.set v j) (v : Int)
  rw [lab_set hv, ncnt_congr (L := L.set v j) (L' := L) (fun u hu => lab_set_ne (hR u hu).1 (hR u hu).2)] at a2
  have e : ((prs n l).filter fun p => !atv (v : Int) p).filter (gE (L.set v j)) = ((prs n l).filter fun p => !atv (v : Int) p).filter (gE L) := by
    refine List.filter_congr fun p hp => ?_;obtain ⟨hp, hnv⟩ := List.mem_filter.1 hp
    have hr := f7 hp
    unfold atv at hnv
    simp only [Bool.not_eq_true', Bool.or_eq_false_iff, decide_eq_false_iff_not] at hnv;rw [jS, jS, lab_set_ne hr.1.1 hnv.1, lab_set_ne hr.2.1 hnv.2]
  have s1 := filt_split (atv (v : Int)) (gE L) (prs n l)
  have s2 := filt_split (atv (v : Int)) (gE (L.set v j)) (prs n l)
  rw [e] at s2
  unfold l3 gn
  omega
/-- Tidy labels are unlike just where the labels were. -/
theorem tdy_lab {L : List Int} {u w : Int} (hu : u.toNat < L.length) (hw : w.toNat < L.length) : (lab (tdy L) u = lab (tdy L) w) ↔ lab L u = lab L w := by
  rw [kK (by rw [eR]; exact hu), kK (by rw [eR]; exact hw), kK hu, kK hw];simp only [tdy, List.getElem_map];constructor
  · intro h
    have m1 : L[u.toNat] ∈ sns L := by have := kE (L := L) (k := L.length) (Nat.le_refl _) L[u.toNat] (by simp); simpa using this
    have m2 : L[w.toNat] ∈ sns L := by have := kE (L := L) (k := L.length) (Nat.le_refl _) L[w.toNat] (by simp); simpa using this
    have h' : (sns L).idxOf L[u.toNat] = (sns L).idxOf L[w.toNat] := by omega
    have g1 := List.getElem_idxOf (List.idxOf_lt_length_of_mem m1)
    have g2 := List.getElem_idxOf (List.idxOf_lt_length_of_mem m2)
    rw [← g1, ← g2];simp only [h']
  · intro h; rw [h]
theorem cut_tdy {n : Nat} {l : List Arc} {L : List Int} (hL : L.length = n) : l3 n l (tdy L) = l3 n l L := by
  unfold l3
  congr 1
  refine List.filter_congr fun p hp => ?_;have hr := f7 hp
  rw [jS, jS];apply decide_eq_decide.2;exact not_congr (tdy_lab (by omega) (by omega))
end Go.Proofs.YtjjogcnjcnpehaaGreat

/- Labels made tidy are right, and their sizes. -/
namespace Go.Proofs.YtjjogcnjcnpehaaGreat
open Go Fly
set_option linter.unusedVariables false
set_option linter.unusedSimpArgs false
set_option linter.unusedSectionVars false
theorem tdy_at {L : List Int} {k : Nat} (hk : k < L.length) : (tdy L)[k]'(by rw [eR]; exact hk) = (((sns (L.take (k + 1))).idxOf L[k] : Nat) : Int) := by
  have hm : L[k] ∈ sns (L.take (k + 1)) := kE (by omega) _ (by rw [List.take_succ_eq_append_getElem hk]; exact List.mem_append_right _ (List.mem_singleton.2 rfl))
  obtain ⟨r, hr⟩ := sns_take L (k + 1)
  have e : (tdy L)[k]'(by rw [eR]; exact hk) = (((sns L).idxOf L[k] : Nat) : Int) := by simp [tdy]
  rw [e, hr, List.idxOf_append, if_pos hm]
theorem rgo_tdy {L : List Int} : ∀ (m k : Nat), L.length - k = m → k ≤ L.length → rgo ((sns (L.take k)).length : Int) ((tdy L).drop k) = true
  | 0, k, h, hk => rgo_end (by rw [eR]; omega) _
  | m + 1, k, h, hk => by
    have hk' : k < L.length := by omega
    have ih := rgo_tdy (L := L) m (k + 1) (by omega) (by omega)
    rw [rgo_drop (by rw [eR]; exact hk'), tdy_at hk'];have hs := jV hk'
    by_cases hx : L[k] ∈ sns (L.take k)
    · rw [if_pos hx] at hs
      rw [hs] at ih ⊢;have := List.idxOf_lt_length_of_mem hx
      rw [if_neg (by omega), if_neg (by omega)];exact ih
    · rw [if_neg hx] at hs
      have hi : (sns (L.take (k + 1))).idxOf L[k] = (sns (L.take k)).length := by rw [hs, List.idxOf_append, if_neg hx]; simp
      rw [hi, if_neg (by omega), if_pos rfl];rw [hs, List.length_append, List.length_singleton] at ih;exact ih
theorem right_tdy {L : List Int} {n : Nat} (hL : L.length = n) : c7 (n : Int) (tdy L) = true := by
  have := rgo_tdy (L := L) L.length 0 (by omega) (by omega)
  unfold c7
  rw [List.take_zero, List.drop_zero] at this;have h0 : ((sns ([] : List Int)).length : Int) = 0 := rfl
  rw [h0] at this;rw [this, eR, hL];simp
theorem sns_nodup {L : List Int} : ∀ {k : Nat}, k ≤ L.length → (sns (L.take k)).Nodup
  | 0, _ => by simp [sns]
  | k + 1, h => by
    have := sns_nodup (L := L) (k := k) (by omega)
    rw [jV (by omega)]
    split
    · exact this
    · rename_i hx
      rw [List.nodup_append];exact ⟨this, by simp, fun a ha b hb e => by simp at hb; subst hb; subst e; exact hx ha⟩
theorem sns_sub {L : List Int} : ∀ {k : Nat}, k ≤ L.length → ∀ x ∈ sns (L.take k), x ∈ L
  | 0, _, x, hx => by simp [sns] at hx
  | k + 1, h, x, hx => by
    rw [jV (by omega)] at hx
    split at hx
    · exact sns_sub (k := k) (by omega) x hx
    · rcases List.mem_append.1 hx with hx | hx
      · exact sns_sub (k := k) (by omega) x hx
      · simp only [List.mem_singleton] at hx; rw [hx]; exact List.getElem_mem _
theorem max_tdy {L : List Int} (h0 : 0 < L.length) : d4 (tdy L) = ((sns L).length : Int) - 1 := by
  have hx : ∀ x ∈ tdy L, x ≤ ((sns L).length : Int) - 1 := fun x hx => by have := tdy_rng x hx; omega
  have h1 := jL (by rw [eR]; exact h0) hx
  have hpos : 0 < (sns L).length := by
    have : L[0] ∈ sns L := by have := kE (L := L) (k := L.length) (Nat.le_refl _) L[0] (by simp); simpa using this
    exact List.length_pos_of_mem this
  have hlt : (sns L).length - 1 < (sns L).length := by omega
  have hin : (sns L)[(sns L).length - 1] ∈ L := by
    have := sns_sub (L := L) (k := L.length) (Nat.le_refl _) (sns L)[(sns L).length - 1] (by rw [List.take_length]; exact List.getElem_mem _)
    exact this
  have hnd : (sns L).Nodup := by have := sns_nodup (L := L) (k := L.length) (Nat.le_refl _); rwa [List.take_length] at this
  have hix : (sns L).idxOf (sns L)[(sns L).length - 1] = (sns L).length - 1 := by
    have g := List.getElem_idxOf (List.idxOf_lt_length_of_mem (List.getElem_mem hlt))
    have hlt2 := List.idxOf_lt_length_of_mem (List.getElem_mem hlt)
    refine Classical.byContradiction fun hne => ?_;exact (List.pairwise_iff_getElem.1 hnd) _ _ hlt2 hlt (by omega) g
  have h2 : (((sns L).length - 1 : Nat) : Int) ≤ d4 (tdy L) := f8 (List.mem_map.2 ⟨_, hin, by rw [hix]⟩)
  omega
theorem sizes_tdy {L : List Int} (h0 : 0 < L.length) : szs (sns L).length (tdy L) = cQ (tdy L) := by
  unfold cQ
  rw [max_tdy h0, show (((sns L).length : Int) - 1 + 1).toNat = (sns L).length by omega]
end Go.Proofs.YtjjogcnjcnpehaaGreat

/- The move that is told gains most; sizes stay under the bound. -/
namespace Go.Proofs.YtjjogcnjcnpehaaGreat
open Go Fly
set_option linter.unusedVariables false
set_option linter.unusedSimpArgs false
set_option linter.unusedSectionVars false
/-- May a vertex go to a label? -/
abbrev mayGo (L S : List Int) (bd : Int) (v j : Nat) : Prop := (j : Int) ≠ lab L (v : Int) ∧ S.getD j 0 < bd
def IsMv (n : Nat) (L S : List Int) (rows : Nat → List Int) (bd : Int) (b : Mv) : Prop :=
  b = (0, 0, 0) ∨ ∃ y j : Nat, b = ((y : Int), (j : Int), gn L (rows y) (lab L (y : Int)) j) ∧ y < n ∧ j < S.length ∧ mayGo L S bd y j
theorem row_is {n : Nat} {L S : List Int} {rows : Nat → List Int} {bd : Int} {v : Nat} {b : Mv} (hv : v < n) (hb : IsMv n L S rows bd b) : ∀ j, j ≤ S.length → IsMv n L S rows bd (gR L S (rows v) bd v j b)
  | 0, _ => hb
  | j + 1, h => by
    rw [iD]
    unfold mvUp
    split
    · rename_i hc; exact .inr ⟨v, j, rfl, hv, by omega, hc.1, hc.2.2.1⟩
    · exact row_is hv hb j (by omega)
theorem to_is {n : Nat} {L S : List Int} {rows : Nat → List Int} {bd : Int} : ∀ k, k ≤ n → IsMv n L S rows bd (g7 L S rows bd k)
  | 0, _ => .inl rfl
  | k + 1, h => by rw [mvTo_next]; exact row_is (by omega) (to_is k (by omega)) _ (Nat.le_refl _)
theorem filt_set {α : Type} (p : α → Bool) : ∀ (l : List α) (i : Nat) (x : α) (h : i < l.length), ((l.set i x).filter p).length + (if p l[i] then 1 else 0) = (l.filter p).length + (if p x then 1 else 0)
  | [], i, x, h => by simp at h
  | y :: l, 0, x, h => by by_cases h1 : p x <;> by_cases h2 : p y <;> simp [h1, h2]
  | y :: l, i + 1, x, h => by
    have ih := filt_set p l i x (by simpa using h)
    by_cases h2 : p y <;> simp [h2] at ih ⊢ <;> omega
theorem cnt_tdy {L : List Int} {i : Nat} (hi : i < (sns L).length) : cnt (tdy L) i = (L.filter fun x => decide (x = (sns L)[i])).length := by
  unfold cnt tdy
  rw [List.filter_map, List.length_map]
  congr 1
  refine List.filter_congr fun x hx => ?_;have hm : x ∈ sns L := by have := kE (L := L) (k := L.length) (Nat.le_refl _) x (by simpa using hx); simpa using this
  have hnd : (sns L).Nodup := by have := sns_nodup (L := L) (k := L.length) (Nat.le_refl _); rwa [List.take_length] at this
  show decide ((((sns L).idxOf x : Nat) : Int) = Int.ofNat i) = decide (x = (sns L)[i])
  apply decide_eq_decide.2;have hlt := List.idxOf_lt_length_of_mem hm
  have g := List.getElem_idxOf hlt
  constructor
  · intro h
    have h' : (sns L).idxOf x = i := by have : (((sns L).idxOf x : Nat) : Int) = (i : Int) := h; omega
    rw [← g]; simp only [h']
  · intro h
    show (((sns L).idxOf x : Nat) : Int) = (i : Int)
    have : (sns L).idxOf x = i := by
      refine Classical.byContradiction fun hne => ?_
      rcases Nat.lt_or_gt_of_ne hne with hl | hl
      · exact (List.pairwise_iff_getElem.1 hnd) _ _ hlt hi hl (g.trans h)
      · exact (List.pairwise_iff_getElem.1 hnd) _ _ hi hlt hl (h.symm.trans g.symm)
    omega
/-- Sizes stay under the bound. -/
theorem size_move {L : List Int} {M : Nat} {bd : Int} {v j : Nat} (hv : v < L.length) (hj : j < M) (hL : ∀ x ∈ L, 0 ≤ x ∧ x < (M : Int)) (hb : ∀ i, i < M → (cnt L i : Int) ≤ bd) (hjb : (cnt L j : Int) < bd) : ∀ x ∈ szs (sns (L.set v (j : Int))).length (tdy (L.set v (j : Int))), x ≤ bd := fun x hx => by
  obtain ⟨i, hi, rfl⟩ := List.mem_map.1 hx
  have hi' : i < (sns (L.set v (j : Int))).length := by simpa using hi
  rw [cnt_tdy hi']
  have hs : (sns (L.set v (j : Int)))[i] ∈ L.set v (j : Int) := by
    have := sns_sub (L := L.set v (j : Int)) (k := (L.set v (j : Int)).length) (Nat.le_refl _) (sns (L.set v (j : Int)))[i] (by rw [List.take_length]; exact List.getElem_mem _)
    exact this
  generalize (sns (L.set v (j : Int)))[i] = s at hs
  have hf := filt_set (fun x => decide (x = s)) L v (j : Int) hv
  obtain ⟨y, hy⟩ : ∃ y : Nat, s = (y : Int) ∧ y < M := by
    rcases List.mem_or_eq_of_mem_set hs with h | h
    · have := hL s h; exact ⟨s.toNat, by omega, by omega⟩
    · exact ⟨j, h, hj⟩
  obtain ⟨rfl, hyM⟩ := hy
  have hc : (L.filter fun x => decide (x = (y : Int))).length = cnt L y := rfl
  rw [hc] at hf;have := hb y hyM
  by_cases e : j = y
  · subst e
    simp only [decide_true, if_true] at hf
    split at hf <;> omega
  · have e' : ¬ ((j : Int) = (y : Int)) := by omega
    simp only [e', decide_false, Bool.false_eq_true, if_false] at hf
    split at hf <;> omega
end Go.Proofs.YtjjogcnjcnpehaaGreat
