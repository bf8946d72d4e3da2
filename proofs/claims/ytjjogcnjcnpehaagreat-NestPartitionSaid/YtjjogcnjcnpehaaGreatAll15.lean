import Derived.Test.YtjjogcnjcnpehaaGreatAll12
import Derived.Test.YtjjogcnjcnpehaaGreatAll13
import Derived.Test.YtjjogcnjcnpehaaGreatAll14
import Derived.Test.YtjjogcnjcnpehaaGreatFlyR
import Derived.Test.YtjjogcnjcnpehaaGreatAll6

/- nest.planned, lowest, Make. -/
namespace Go.Proofs.YtjjogcnjcnpehaaGreat
open Go Go.RowKit Fly
set_option linter.unusedVariables false
set_option linter.unusedSimpArgs false
theorem RowsI.snoc {E : TypeId} {ls : List (List Int)} {vs : List Value} {ms : List Seg} (h : RowsI E ls vs ms) {l : List Int} {v : Value} {m : Seg} (ho : Own E 1 v l.length (a6 l) m) : RowsI E (ls ++ [l]) (vs ++ [v]) (ms ++ [m]) :=
  ⟨by simp [h.lv], by simp [h.lm], fun i hi => by
    rw [List.length_append, List.length_singleton] at hi;have hlv := h.lv
    have hlm := h.lm
    by_cases e : i < ls.length
    · have e1 : (ls ++ [l])[i]'(by simp; omega) = ls[i] := List.getElem_append_left e
      have e2 : (vs ++ [v])[i]'(by simp; omega) = vs[i]'(by omega) := List.getElem_append_left (by omega)
      have e3 : (ms ++ [m])[i]'(by simp; omega) = ms[i]'(by omega) := List.getElem_append_left (by omega)
      rw [e1, e2, e3]; exact h.own i e
    · have hie : i = ls.length := by omega
      have e1 : (ls ++ [l])[i]'(by simp; omega) = l := by subst hie; simp
      have e2 : (vs ++ [v])[i]'(by simp; omega) = v := by
        rw [List.getElem_append_right (by omega)]; simp
      have e3 : (ms ++ [m])[i]'(by simp; omega) = m := by
        rw [List.getElem_append_right (by omega)]; simp
      rw [e1, e2, e3]; exact ho⟩
theorem RowsI.one {E : TypeId} {l : List Int} {v : Value} {m : Seg} (ho : Own E 1 v l.length (a6 l) m) : RowsI E [l] [v] [m] :=
  ⟨rfl, rfl, fun i hi => by
    have : i = 0 := by simpa using hi
    subst this; exact ho⟩
/-- The rows as they are read. -/
theorem RowsI.rows {E : TypeId} {ls : List (List Int)} {vs : List Value} {ms : List Seg} (h : RowsI E ls vs ms) : ∃ R : List Row, vs = R.map eO ∧ bI R = ls := by
  have hlv := h.lv
  have key : ∀ i, i < ls.length → ∃ r : Row, (∀ hv : i < vs.length, vs[i] = eO r) ∧ ∀ hi : i < ls.length, ls[i] = r.2.1 := fun i hi => by
    obtain ⟨A, c, e, _⟩ := (h.own i hi).val
    exact ⟨(A, ls[i], c), fun _ => e, fun _ => rfl⟩
  obtain ⟨R, hRl, hR⟩ := list_of (R := fun i r => (∀ hv : i < vs.length, vs[i] = eO r) ∧ ∀ hi : i < ls.length, ls[i] = r.2.1) key
  refine ⟨R, List.ext_getElem (by simp; omega) fun i h1 h2 => ?_, List.ext_getElem (by simp [bI]; omega) fun i h1 h2 => ?_⟩
  · rw [List.getElem_map]; exact (hR i (by simpa using h2)).1 h1
  · simp only [bI, List.getElem_map]
    exact ((hR i (by omega)).2 h2).symm
/-- An owned nest is read. -/
theorem nest_ro {S : Nat → Prop} {w0 w : World} {segs o1 o2 o3 : List Seg} {Ab Ac : Option Addr} {bs : List Int} {cb cc lc : Nat} {mb mc : Seg} {R : List Row} {ls : List (List Int)} {ms : List Seg} {E E2 : TypeId} (hp : Hp S w0 segs.flatten w) (hb : Own E 1 (.slice Ab bs.length cb) bs.length (a6 bs) mb)
    (hc : Own E2 1 (.slice Ac lc cc) lc (R.map eO) mc) (hR : RowsI E ls (R.map eO) ms) (hRL : bI R = ls) [p1 : Pick segs mb o1] [p2 : Pick segs mc o2] [p3 : Pick segs ms.flatten o3] (hcl : R.length ≤ 9223372036854775807) : NestRo (Fr w []) w Ab bs Ac R where
  b := eU (hb.seen hp)
  bl := by have := hb.val; obtain ⟨_, _, e, h⟩ := this; cases e; omega
  c := eU (hc.seen hp)
  cl := hcl
  rows := fun r hr => by
    obtain ⟨i, hi, rfl⟩ := List.mem_iff_getElem.1 hr
    subst hRL;have hi2 : i < (bI R).length := by rw [gF]; exact hi
    have ho := hR.own i hi2
    have e1 : (R.map eO)[i]'(by simpa using hi) = eO R[i] := by simp
    have e2 : (bI R)[i] = R[i].2.1 := by simp [bI]
    rw [e1, e2] at ho;refine ⟨?_, by have := ho.val; obtain ⟨_, _, e, h⟩ := this; cases e; omega⟩;have hmi : i < ms.length := by rw [hR.lm]; exact hi2
    have hsub : Fly.Sub segs (ms[i] :: [(ms.eraseIdx i).flatten]) := ⟨o3.flatten, by
      have := p3.perm.trans ((i3 ms i hmi).append_right o3.flatten)
      simpa using this⟩
    have hp2 := hp.sub hsub
    exact eU (ho.seen (segs := ms[i] :: [(ms.eraseIdx i).flatten]) hp2)
theorem last_row {E : TypeId} {ls : List (List Int)} {vs : List Value} {ms : List Seg} (h : RowsI E ls vs ms) {v : Value} (h0 : 0 < ls.length) (hv : vs.getLast? = some v) : ∃ A c, v = .slice A (ls.getD (ls.length - 1) []).length c ∧ (0 < (ls.getD (ls.length - 1) []).length → ∃ br sp, A = some ⟨br, 0, none⟩ ∧ (br, blk (a6 (ls.getD (ls.length - 1) []) ++ sp) E) ∈ ms.flatten) := by
  have hlv := h.lv
  have hi : ls.length - 1 < ls.length := by omega
  have e1 : ls.getD (ls.length - 1) [] = ls[ls.length - 1] := by simp [List.getD_eq_getElem?_getD, hi]
  have e2 : v = vs[ls.length - 1]'(by omega) := by
    rw [List.getLast?_eq_getElem?, hlv, List.getElem?_eq_getElem (by omega)] at hv;exact (Option.some.inj hv).symm
  have ho := h.own _ hi
  rw [← e2, ← e1] at ho;obtain ⟨A, c, rfl, _⟩ := ho.val
  refine ⟨A, c, rfl, fun hl => ?_⟩;obtain ⟨br, sp, rfl, hm⟩ := ho.at_ hl
  exact ⟨br, sp, rfl, List.mem_flatten.2 ⟨_, List.getElem_mem (by rw [h.lm]; exact hi), by rw [hm]; simp⟩⟩
/-- A block somewhere in a segment is read. -/
theorem ro_in {S : Nat → Prop} {w0 w : World} {segs o3 : List Seg} {G : Seg} {b : Nat} {cs sp : List Value} {E : TypeId} (hp : Hp S w0 segs.flatten w) [p3 : Pick segs G o3] (hm : (b, blk (cs ++ sp) E) ∈ G) : Ro (Fr w []) w (some ⟨b, 0, none⟩) cs := fun hne => by
  have hmem : (b, blk (cs ++ sp) E) ∈ segs.flatten := p3.perm.mem_iff.2 (List.mem_append_left _ hm)
  refine ⟨b, 0, rfl, ⟨hp.key_lt hmem, by simp⟩, fun j v hj => ?_⟩;rw [hp.cell hmem]; simpa using dN hj
theorem perm_snocF {ms : List Seg} {m : Seg} : (m ++ ms.flatten).Perm (ms ++ [m]).flatten := by
  rw [List.flatten_append]; simpa using List.perm_append_comm
theorem fE_zeroM {n : Nat} {l : List Arc} : ∀ {M : List Pr}, (∀ p ∈ M, p ∈ prs n l) → fE (n : Int) M = 0
  | [], _ => rfl
  | p :: r, h => by
    have h1 := f7 (h p (by simp))
    have h2 : p.1 < p.2 := by
      have := h p (by simp)
      unfold prs at this
      obtain ⟨_, h2⟩ := List.mem_filter.1 this
      obtain ⟨a, ha, hb⟩ := List.any_eq_true.1 h2
      simp only [Bool.and_eq_true, decide_eq_true_eq] at hb;obtain ⟨h3, rfl⟩ := hb
      unfold jZ; simp only; omega
    unfold fE
    rw [if_neg (by omega), if_neg (by omega)];exact fE_zeroM fun q hq => h q (by simp [hq])
theorem blw_nn {n : Nat} {l : List Arc} {bs cs : List Int} {mv : Int} (hP : PlOk n l bs cs mv) : ∀ {k : Nat}, k < bs.length → 0 ≤ jP bs k
  | 0, _ => Int.le_refl _
  | k + 1, h => by
    have h1 := hP.bnd k (by omega)
    have h2 := blw_nn hP (k := k) (by omega)
    show 0 ≤ bs.getD k 0
    omega
set_option maxRecDepth 100000 in
set_option maxHeartbeats 4000000 in
theorem planned1_spec (N : Int) (A : Option Addr) (len cap b : Nat) (i : Int) (w : World) (h2 : Ro (Fr w []) w (some ⟨b, 0, none⟩) [.int .i64 N, .slice A len cap]) :
    Meets Tryz.prog 34 ([.int .i64 i] ++ [.pointer (some ⟨b, 0, none⟩)]) w [] (fun u m => u = .bool (offV N i) ∧ m = []) := by
 obtain ⟨b', o', e', hS2, hc2⟩ := h2 (by simp)
 obtain ⟨rfl, rfl⟩ : b = b' ∧ 0 = o' := by cases e'; exact ⟨rfl, rfl⟩
 refine bJ Tryz.func34 rfl Tryz.ntmps34 rfl Owns.nil ?_;refine aK fun K1 kh1 => ?_;refine aB ?_;refine aA rfl rfl rfl (aF rfl) ?_;refine aJ ?_;refine aL (kh1 _ _ ?_);clear kh1;refine aK fun K2 kh2 => ?_;refine aB ?_;refine aA rfl rfl rfl (aG rfl) ?_;refine aA rfl rfl rfl (cD rfl rfl) ?_;refine aA rfl rfl rfl (aG rfl) ?_;refine cX 6 rfl (fun g6 => ?_) (fun g6 => ?_)
 ·
  refine aS rfl rfl rfl rfl rfl rfl ?_;refine aS rfl rfl rfl rfl rfl rfl ?_;refine aS rfl rfl rfl rfl rfl rfl ?_;refine aS rfl rfl rfl rfl rfl rfl ?_;refine aA rfl rfl rfl (cF rfl rfl) ?_;refine aA rfl rfl rfl (aF rfl) ?_;refine aJ ?_;refine aL (kh2 _ _ ?_);clear kh2;refine a7 ?_;exact bP [] Tryz.results34 rfl aI ⟨by unfold offV; rw [decide_eq_true (.inl g6)], rfl⟩
 ·
  refine aO rfl rfl rfl rfl rfl (aG rfl) ?_;refine aO rfl rfl rfl rfl rfl (aQ eE rfl) ?_;refine aO rfl rfl rfl rfl rfl (aM Tryz.isAgg3 rfl (rdS hS2 (hc2 0 _ rfl))) ?_;refine aO rfl rfl rfl rfl rfl (h7 rfl rfl) ?_;refine aA rfl rfl rfl (cO rfl rfl) ?_;refine aA rfl rfl rfl (aF rfl) ?_;refine aJ ?_;refine aL (kh2 _ _ ?_);clear kh2;refine a7 ?_;exact bP [] Tryz.results34 rfl aI ⟨by unfold offV; congr 1; apply decide_eq_decide.2; omega, rfl⟩
set_option maxRecDepth 100000 in
set_option maxHeartbeats 4000000 in
theorem planned_spec (N : Int) (A : Option Addr) (l : List Arc) (cap : Nat) (B : Option Addr) (bs : List Int) (bc : Nat) (C : Option Addr) (cs : List Int) (cc : Nat) (mv : Int) (w : World) (hr : Ro (Fr w []) w A (l.flatMap cE)) (hl : l.length ≤ 9223372036854775807) (hN : I64 N) (hok : ∀ x ∈ l, dQ x) (hB : Ro (Fr w []) w B (a6 bs)) (hbl : bs.length ≤ 9223372036854775807) (hC : Ro (Fr w []) w C (a6 cs)) (hcl : cs.length ≤ 9223372036854775807) :
    Meets Tryz.prog 17 [.agg #[.int .i64 N, .slice A l.length cap], .slice B bs.length bc, .slice C cs.length cc, .int .i64 mv] w [] (fun u m => u = .int .i64 (plE N l bs cs mv) ∧ m = []) := by
 refine bJ Tryz.func17 rfl Tryz.ntmps17 rfl Owns.nil ?_;refine aK fun K1 kh1 => ?_;refine aB ?_;refine aR rfl rfl rfl (cZ rfl rfl fun b4 => ?_);refine aA rfl rfl rfl (aF rfl) ?_;refine aJ ?_;refine aL (kh1 _ _ ?_);clear kh1;refine aK fun K2 kh2 => ?_;refine aK fun K3 kh3 => ?_;refine aB ?_;refine aA rfl rfl rfl (a8 (vs := [_, _]) Tryz.isAgg24 Tryz.sizeOf24 rfl rfl ⟨(rdA rfl), (rdA rfl), trivial⟩) ?_;refine aR rfl rfl rfl (bD Tryz.call21 rfl (fun w_ hp_ => fG N A l cap w_ (hr.up0 hp_) hl hN hok) ?_);rintro _ _ ⟨rfl, rfl⟩;dsimp only [List.cons_append, List.nil_append];refine aA rfl rfl rfl (aG rfl) ?_;refine aA rfl rfl rfl (aV rfl rfl) ?_;refine aA rfl rfl rfl (aV rfl rfl) ?_;refine aA rfl rfl rfl (aF rfl) ?_;refine aA rfl rfl rfl (aF rfl) ?_;refine aJ ?_;refine aL (kh3 _ _ ?_);clear kh3;refine aK fun K4 kh4 => ?_;refine aB ?_;refine aA rfl rfl rfl (aG rfl) ?_;refine aA rfl rfl rfl (c6 rfl rfl) ?_;refine aJ ?_;refine aL (kh4 _ _ ?_);clear kh4;refine aZ rfl (fun c20 => ?_) (fun c20 => ?_)
 ·
  refine aK fun K5 kh5 => ?_;refine aB ?_;refine aA rfl rfl rfl (aG rfl) ?_;refine aA rfl rfl rfl (aF rfl) ?_;refine aJ ?_;refine aL (kh5 _ _ ?_);clear kh5;refine a7 ?_;refine bT ?_;have e : plE N l bs cs mv = (bH N l).2 := by unfold plE; rw [if_pos (by simpa using c20)]
  exact bP [] Tryz.results17 rfl (by repeat first|exact aI|refine aD ?_|refine aC rfl ?_|refine aH ?_) ⟨by rw [e], rfl⟩
 ·
  have hg : (bH N l).2 = 0 := by simpa using c20
  refine aW ?_;refine aL (kh2 _ _ ?_);clear kh2;refine aK fun K6 kh6 => ?_;refine aK fun K7 kh7 => ?_;refine aB ?_;refine aA rfl rfl rfl (aG rfl) ?_;refine aA rfl rfl rfl (bS bK rfl) ?_;refine aA rfl rfl rfl (cD rfl rfl) ?_;refine aA rfl rfl rfl (aG rfl) ?_;refine cX 25 rfl (fun g25 => ?_) (fun g25 => ?_)
  ·
   refine aS rfl rfl rfl rfl rfl rfl ?_;refine aS rfl rfl rfl rfl rfl rfl ?_;refine aS rfl rfl rfl rfl rfl rfl ?_;refine aA rfl rfl rfl (cF rfl rfl) ?_;refine aJ ?_;refine aL (kh7 _ _ ?_);clear kh7;refine eF rfl ?_;refine aK fun K8 kh8 => ?_;refine aB ?_;refine aA rfl rfl rfl (aF rfl) ?_;refine aJ ?_;refine aL (kh8 _ _ ?_);clear kh8;refine a7 ?_;refine bT ?_;have e : plE N l bs cs mv = 111 := by unfold plE; rw [if_neg (by rw [hg]; simp), if_pos (by omega)]
   exact bP [] Tryz.results17 rfl (by repeat first|exact aI|refine aD ?_|refine aC rfl ?_|refine aH ?_) ⟨by rw [e], rfl⟩
  ·
   refine aO rfl rfl rfl rfl rfl (aG rfl) ?_;refine aO rfl rfl rfl rfl rfl (bS bK rfl) ?_;refine aO rfl rfl rfl rfl rfl (eQ rfl rfl) ?_;refine aA rfl rfl rfl (cO rfl rfl) ?_;refine aJ ?_;refine aL (kh7 _ _ ?_);clear kh7;refine aZ rfl (fun c29 => ?_) (fun c29 => ?_)
   ·
    refine aK fun K9 kh9 => ?_;refine aB ?_;refine aA rfl rfl rfl (aF rfl) ?_;refine aJ ?_;refine aL (kh9 _ _ ?_);clear kh9;refine a7 ?_;refine bT ?_;have e : plE N l bs cs mv = 111 := by unfold plE; rw [if_neg (by rw [hg]; simp), if_pos (by omega)]
    exact bP [] Tryz.results17 rfl (by repeat first|exact aI|refine aD ?_|refine aC rfl ?_|refine aH ?_) ⟨by rw [e], rfl⟩
   ·
    refine aW ?_;refine aL (kh6 _ _ ?_);clear kh6;refine aK fun K10 kh10 => ?_;refine aB ?_;refine aA rfl rfl rfl (aF rfl) ?_;refine aJ ?_;refine aL (kh10 _ _ ?_);clear kh10;refine aK fun K11 kh11 => ?_;refine aK fun K12 kh12 => ?_;refine aB ?_;refine aA rfl rfl rfl (aG rfl) ?_;refine aA rfl rfl rfl (bS bK rfl) ?_;refine aA rfl rfl rfl (aG rfl) ?_;refine aJ ?_;refine aL (kh12 _ _ ?_);clear kh12;refine aY ?_;refine cS (α := Nat) [2, 3, 4, 30, 31] (fun k => [(32, .int .i64 (k : Int)), (11, .int .i64 (jP bs k))]) (fun k => [[(b4, blk [.int .i64 N, .slice A l.length cap] 24)]]) (fun k => k ≤ bs.length ∧ ∀ j (h : j < bs.length), j < k → jP bs j < bs[j] ∧ bs[j] ≤ 1024) (fun k => bs.length - k) (0) ?_ ?_ ?_ ?_
    · exact (by repeat constructor)
    · repeat first|exact aI|refine aD ?_|refine aC rfl ?_|refine aH ?_
    · exact ⟨Nat.zero_le _, fun j _ h => by omega⟩
    ·
     rintro k ⟨hkl, hall⟩;refine aK fun K13 kh13 => ?_;refine aB ?_;refine aA rfl rfl rfl (cD rfl rfl) ?_;refine aJ ?_;refine aL (kh13 _ _ ?_);clear kh13;refine aK fun K14 kh14 => ?_;refine aZ rfl (fun c33 => ?_) (fun c33 => ?_)
     ·
      have hk : k < bs.length := by omega
      obtain ⟨b1, o1, rfl, hS1, hc1⟩ := hB (fun e => by have := aX bs; rw [e] at this; simp at this; omega)
      refine aW ?_;refine aL (kh14 _ _ ?_);clear kh14;refine aK fun K15 kh15 => ?_;refine aY ?_;refine aK fun K16 kh16 => ?_;refine aB ?_;refine aA rfl rfl rfl (bA bK rfl rfl (o1 + k) ⟨by omega, by omega, by first | omega | (simp; done) | (simp; omega)⟩) ?_;refine aA rfl rfl rfl (aM Tryz.isAgg3 rfl (dX (enc := (.int .i64 ·)) hS1 hc1 hk)) ?_;refine aA rfl rfl rfl (aF rfl) ?_;refine aJ ?_;refine aL (kh16 _ _ ?_);clear kh16;refine aK fun K17 kh17 => ?_;refine aK fun K18 kh18 => ?_;refine aB ?_;refine aA rfl rfl rfl (aG rfl) ?_;refine aA rfl rfl rfl (aG rfl) ?_;refine aR rfl rfl rfl (bD Tryz.call22 rfl (fun w_ hp_ => nbounded_spec bs[k] (jP bs k) w_) ?_);rintro _ _ ⟨rfl, rfl⟩;dsimp only [List.cons_append, List.nil_append];refine aA rfl rfl rfl (kG rfl) ?_;refine aJ ?_;refine aL (kh18 _ _ ?_);clear kh18;refine fC rfl (fun c39 => ?_) (fun c39 => ?_)
      ·
       have hbad : badB bs = true := by
         rw [← Bool.not_eq_false, badB_no];intro h;have := h k hk
         rw [bs_at hk] at this;simp at c39; omega
       refine aK fun K19 kh19 => ?_;refine aB ?_;refine aA rfl rfl rfl (aF rfl) ?_;refine aJ ?_;refine aL (kh19 _ _ ?_);clear kh19;refine a7 ?_;refine bT ?_;refine eC ?_;refine bT ?_;refine bT ?_;refine eC ?_;refine bT ?_;have e : plE N l bs cs mv = 1 := by unfold plE; rw [if_neg (by rw [hg]; simp), if_neg (by omega), if_pos hbad]
       exact bP [] Tryz.results17 rfl (by repeat first|exact aI|refine aD ?_|refine aC rfl ?_|refine aH ?_) ⟨by rw [e], rfl⟩
      ·
       refine aW ?_;refine aL (kh17 _ _ ?_);clear kh17;refine aB ?_;refine aA rfl rfl rfl (aG rfl) ?_;refine aA rfl rfl rfl (aF rfl) ?_;refine aJ ?_;refine cV ?_;refine aL (kh15 _ _ ?_);clear kh15;refine aB ?_;refine aA rfl rfl rfl (bG rfl rfl _ (aT (by omega))) ?_;refine aA rfl rfl rfl (aG rfl) ?_;refine aJ ?_;refine f_reQ 11 rfl (v := .int .i64 (jP bs (k + 1))) (by show _ = Value.int .i64 (bs.getD k 0); rw [bs_at hk]) ?_
       refine aL (bB (k + 1) (by first | omega | (dsimp only; omega) | (simp; omega)) ⟨by omega, fun j h hj => by
         by_cases e : j = k
         · subst e; simpa using c39
         · exact hall j h (by omega)⟩ ?_ ?_ ?_)
       · exact (by repeat constructor)
       · exact (by repeat constructor)
       · repeat first|exact aI|refine aD ?_|refine aC rfl ?_|refine aH ?_
     ·
      have hbad : badB bs = false := badB_no.2 fun j hj => by rw [bs_at hj]; exact hall j hj (by omega)
      refine cG ?_;refine cK ?_;clear kh14;refine cK ?_;refine d5 ?_;refine aL (kh11 _ _ ?_);clear kh11;refine aK fun K20 kh20 => ?_;refine aY ?_;refine aK fun K21 kh21 => ?_;refine aB ?_;refine aA rfl rfl rfl (aG rfl) ?_;refine aA rfl rfl rfl (bS bK rfl) ?_;refine aA rfl rfl rfl (eQ rfl rfl) ?_;refine aA rfl rfl rfl (aF rfl) ?_;refine aJ ?_;refine aL (kh21 _ _ ?_);clear kh21;refine aZ rfl (fun c42 => ?_) (fun c42 => ?_)
      ·
       refine aK fun K22 kh22 => ?_;refine aB ?_;refine aA rfl rfl rfl (aF rfl) ?_;refine aJ ?_;refine aL (kh22 _ _ ?_);clear kh22;refine a7 ?_;refine eC ?_;refine bT ?_;have e : plE N l bs cs mv = 2 := by unfold plE; rw [if_neg (by rw [hg]; simp), if_neg (by omega), if_neg (by rw [hbad]; simp), if_pos (by omega)]
       exact bP [] Tryz.results17 rfl (by repeat first|exact aI|refine aD ?_|refine aC rfl ?_|refine aH ?_) ⟨by rw [e], rfl⟩
      ·
       refine aK fun K23 kh23 => ?_;refine aB ?_;refine aA rfl rfl rfl (aG rfl) ?_;refine aA rfl rfl rfl (o_func rfl rfl) ?_;refine aR rfl rfl rfl (bD Tryz.call33 rfl (fun w_ hp_ => ContG_spec C cs cc (offV N) 34 [.pointer (some ⟨b4, 0, none⟩)] w_ (hC.up0 hp_) hcl Tryz.call34 (fun w' hs i hi => planned1_spec N A l.length cap b4 i w' (heldRo hp_ hs))) ?_);rintro _ _ ⟨rfl, rfl⟩;dsimp only [List.cons_append, List.nil_append];refine aA rfl rfl rfl (aF rfl) ?_;refine aJ ?_;refine aL (kh23 _ _ ?_);clear kh23;refine fC rfl (fun c46 => ?_) (fun c46 => ?_)
       ·
        refine aK fun K24 kh24 => ?_;refine aB ?_;refine aA rfl rfl rfl (aF rfl) ?_;refine aJ ?_;refine aL (kh24 _ _ ?_);clear kh24;refine a7 ?_;refine eC ?_;refine bT ?_;have e : plE N l bs cs mv = 5 := by unfold plE; rw [if_neg (by rw [hg]; simp), if_neg (by omega), if_neg (by rw [hbad]; simp), if_neg (by omega), if_pos c46]
        exact bP [] Tryz.results17 rfl (by repeat first|exact aI|refine aD ?_|refine aC rfl ?_|refine aH ?_) ⟨by rw [e], rfl⟩
       ·
        refine aK fun K25 kh25 => ?_;refine aB ?_;refine aA rfl rfl rfl (aG rfl) ?_;refine aA rfl rfl rfl (cD rfl rfl) ?_;refine aA rfl rfl rfl (aG rfl) ?_;refine cX 53 rfl (fun g53 => ?_) (fun g53 => ?_)
        ·
         refine aS rfl rfl rfl rfl rfl rfl ?_;refine aS rfl rfl rfl rfl rfl rfl ?_;refine aA rfl rfl rfl (cF rfl rfl) ?_;refine aA rfl rfl rfl (aF rfl) ?_;refine aJ ?_;refine aL (kh25 _ _ ?_);clear kh25;refine eF rfl ?_;refine aK fun K26 kh26 => ?_;refine aB ?_;refine aA rfl rfl rfl (aF rfl) ?_;refine aJ ?_;refine aL (kh26 _ _ ?_);clear kh26;refine a7 ?_;refine eC ?_;refine bT ?_;have e : plE N l bs cs mv = 1 := by unfold plE; rw [if_neg (by rw [hg]; simp), if_neg (by omega), if_neg (by rw [hbad]; simp), if_neg (by omega), if_neg (by rw [c46]; simp), if_pos (by omega)]
         exact bP [] Tryz.results17 rfl (by repeat first|exact aI|refine aD ?_|refine aC rfl ?_|refine aH ?_) ⟨by rw [e], rfl⟩
        ·
         refine aO rfl rfl rfl rfl rfl (aG rfl) ?_;refine aO rfl rfl rfl rfl rfl (eQ rfl rfl) ?_;refine aA rfl rfl rfl (cO rfl rfl) ?_;refine aA rfl rfl rfl (aF rfl) ?_;refine aJ ?_;refine aL (kh25 _ _ ?_);clear kh25;refine aZ rfl (fun c50 => ?_) (fun c50 => ?_)
         ·
          refine aK fun K27 kh27 => ?_;refine aB ?_;refine aA rfl rfl rfl (aF rfl) ?_;refine aJ ?_;refine aL (kh27 _ _ ?_);clear kh27;refine a7 ?_;refine eC ?_;refine bT ?_;have e : plE N l bs cs mv = 1 := by unfold plE; rw [if_neg (by rw [hg]; simp), if_neg (by omega), if_neg (by rw [hbad]; simp), if_neg (by omega), if_neg (by rw [c46]; simp), if_pos (by omega)]
          exact bP [] Tryz.results17 rfl (by repeat first|exact aI|refine aD ?_|refine aC rfl ?_|refine aH ?_) ⟨by rw [e], rfl⟩
         ·
          refine aW ?_;refine cV ?_;refine aL (kh20 _ _ ?_);clear kh20;refine aK fun K28 kh28 => ?_;refine aB ?_;refine aA rfl rfl rfl (aF rfl) ?_;refine aJ ?_;refine aL (kh28 _ _ ?_);clear kh28;refine a7 ?_;have e : plE N l bs cs mv = 0 := by unfold plE; rw [if_neg (by rw [hg]; simp), if_neg (by omega), if_neg (by rw [hbad]; simp), if_neg (by omega), if_neg (by rw [c46]; simp), if_neg (by omega)]
          exact bP [] Tryz.results17 rfl (by repeat first|exact aI|refine aD ?_|refine aC rfl ?_|refine aH ?_) ⟨by rw [e], rfl⟩
set_option maxRecDepth 100000 in
set_option maxHeartbeats 4000000 in
theorem lowest_spec (n : Nat) (A : Option Addr) (l : List Arc) (cap : Nat) (b : Int) (C : Option Addr) (cs : List Int) (cc : Nat) (mv : Int) (w : World) (hr : Ro (Fr w []) w A (l.flatMap cE)) (hl : l.length ≤ 9223372036854775807) (hN : I64 (n : Int)) (hok : ∀ x ∈ l, dQ x) (hC : Ro (Fr w []) w C (a6 cs)) (hcl : cs.length ≤ 16384) (hg : (bH (n : Int) l).2 = 0) (hb : 1 ≤ b ∧ b ≤ 1024) (hcr : ∀ v ∈ cs, 0 ≤ v ∧ v < (n : Int)) (hmv : 0 ≤ mv ∧ mv ≤ 16384) :
    Meets Tryz.prog 18 [.agg #[.int .i64 (n : Int), .slice A l.length cap], .int .i64 b, .slice C cs.length cc, .int .i64 mv] w [] (fun u own' => ∃ (L : List Int) (A' : Option Addr) (c' : Nat) (m' : Seg), u = .tuple #[.slice A' L.length c', .int .i64 0] ∧ own' = [m'] ∧ Own 3 1 (.slice A' L.length c') L.length (a6 L) m' ∧ LowN n l b cs mv L) := by
 obtain ⟨hg1, hg2, hl8, hgd⟩ := bX hg
 have hmz : mkE (n : Int) l cs b = 0 := by
   unfold mkE
   rw [if_neg (by rw [hg]; simp), if_neg (by omega), if_neg (by omega), if_neg];rw [Bool.not_eq_true, List.any_eq_false];intro v hv;have := hcr v hv
   unfold offV; simp; omega
 refine bJ Tryz.func18 rfl Tryz.ntmps18 rfl Owns.nil ?_;refine aK fun K1 kh1 => ?_;refine aB ?_;refine aR rfl rfl rfl (cZ rfl rfl fun b4 => ?_);refine aA rfl rfl rfl (aF rfl) ?_;refine aA rfl rfl rfl (aF rfl) ?_;refine aJ ?_;refine aL (kh1 _ _ ?_);clear kh1;refine aK fun K2 kh2 => ?_;refine aB ?_;refine aA rfl rfl rfl (a8 (vs := [_, _]) Tryz.isAgg24 Tryz.sizeOf24 rfl rfl ⟨(rdA rfl), (rdA rfl), trivial⟩) ?_;refine aA rfl rfl rfl (aG rfl) ?_;refine aA rfl rfl rfl (aG rfl) ?_;refine aR rfl rfl rfl (bD Tryz.call35 rfl (fun w_ hp_ => Marks_spec (n : Int) A C l cap cs cc b w_ (hr.up0 hp_) hl hN hok (hC.up0 hp_) (by omega)) ?_);rintro _ _ ⟨M, AM, cM, mM, rfl, rfl, hoM, _, hM0⟩;obtain ⟨hMs, hMO⟩ := hM0 hmz
 rw [Int.toNat_natCast] at hMO
 have hMp : ∀ p ∈ M, p ∈ prs n l := fun p hp => by
   obtain ⟨v, _, C', hC', hpC⟩ := (hMO p).1 hp
   exact (nc_sub hC').1 p hpC
 have hM8 : M.length ≤ 8192 := Nat.le_trans (List.Nodup.length_le_of_subset (nodup_X hMs) hMp) (Nat.le_trans (prs_few (raw_good hgd)) hl8)
 have hfr : jD (n : Int) l M = 0 := by
   unfold jD
   rw [if_neg (by rw [hg]; simp), if_neg (by omega)];exact fE_zeroM hMp
 rw [hmz];dsimp only [List.cons_append, List.nil_append];refine aA rfl rfl rfl (aG rfl) ?_;refine aA rfl rfl rfl (aV rfl rfl) ?_;refine aA rfl rfl rfl (aV rfl rfl) ?_;refine aA rfl rfl rfl (aF rfl) ?_;refine aA rfl rfl rfl (aF rfl) ?_;refine aJ ?_;refine aL (kh2 _ _ ?_);clear kh2;refine aK fun K3 kh3 => ?_;refine aK fun K4 kh4 => ?_;refine aB ?_;refine aA rfl rfl rfl (aG rfl) ?_;refine aA rfl rfl rfl (c6 rfl rfl) ?_;refine aJ ?_;refine aL (kh4 _ _ ?_);clear kh4;refine e7 rfl (by simp) ?_;refine aW ?_;refine aL (kh3 _ _ ?_);clear kh3;refine aK fun K5 kh5 => ?_;refine aB ?_;refine aA rfl rfl rfl (a8 (vs := [_, _]) Tryz.isAgg24 Tryz.sizeOf24 rfl rfl ⟨(rdA rfl), (rdA rfl), trivial⟩) ?_;refine aA rfl rfl rfl (aG rfl) ?_;refine aR rfl rfl rfl (bD Tryz.call36 rfl (fun w_ hp_ => Fragments_spec (n : Int) A AM l cap M M.length w_ (hr.up0 hp_) hl hN hok (eU (hoM.seen hp_)) (by omega) (fun p hp => by have := f7 (hMp p hp); unfold I64; omega)) ?_);rintro _ _ ⟨P, AP, cP, mP, rfl, rfl, hoP, hP0, _⟩;obtain ⟨p, rfl, hp⟩ := hP0 hfr
 rw [Int.toNat_natCast] at hp;have hpl := hp.len
 have hRP := natN_right hp.tidy hp.len
 have hz1 := spE_oneN (bd := b) hg hRP hb
 obtain ⟨bn, rfl⟩ : ∃ bn : Nat, b = (bn : Int) := ⟨b.toNat, by omega⟩
 obtain ⟨hRc, hSc, _⟩ := cut_holds (l := l) hRP (by omega) (by omega) hl8 (b := bn) (by omega)
 have hSc' : ∀ y, (eP (l4 l (natN p) bn) y : Int) ≤ (bn : Int) := fun y => by have := hSc y; omega
 have hje := joinE_zeroM hg hRc hb hSc'
 rw [hfr];dsimp only [List.cons_append, List.nil_append];refine aA rfl rfl rfl (aG rfl) ?_;refine aA rfl rfl rfl (aV rfl rfl) ?_;refine aA rfl rfl rfl (aV rfl rfl) ?_;refine aA rfl rfl rfl (aF rfl) ?_;refine aA rfl rfl rfl (aF rfl) ?_;refine aJ ?_;refine aL (kh5 _ _ ?_);clear kh5;refine aK fun K6 kh6 => ?_;refine aK fun K7 kh7 => ?_;refine aB ?_;refine aA rfl rfl rfl (aG rfl) ?_;refine aA rfl rfl rfl (c6 rfl rfl) ?_;refine aJ ?_;refine aL (kh7 _ _ ?_);clear kh7;refine e7 rfl (by simp) ?_;refine aW ?_;refine aL (kh6 _ _ ?_);clear kh6;refine aK fun K8 kh8 => ?_;refine aK fun K9 kh9 => ?_;refine aB ?_;refine aA rfl rfl rfl (a8 (vs := [_, _]) Tryz.isAgg24 Tryz.sizeOf24 rfl rfl ⟨(rdA rfl), (rdA rfl), trivial⟩) ?_;refine aA rfl rfl rfl (aG rfl) ?_;refine aA rfl rfl rfl (aG rfl) ?_;refine aR rfl rfl rfl (bD Tryz.call37 rfl (fun w_ hp_ => CutUp_spec (n : Int) A AP l cap (natN p) cP (bn : Int) w_ (hr.up0 hp_) hl hN hok (eU (hoP.seen hp_)) (by rw [natN_len]; omega)) ?_);rintro _ _ ⟨Lc, Ac, cc_, mc, rfl, rfl, hoc, _, hc0⟩;obtain rfl := hc0 hz1
 rw [Int.toNat_natCast] at hoc ⊢;have hLcl := (cN hRc).2
 rw [hz1];dsimp only [List.cons_append, List.nil_append];refine aA rfl rfl rfl (aG rfl) ?_;refine aA rfl rfl rfl (aV rfl rfl) ?_;refine aA rfl rfl rfl (aV rfl rfl) ?_;refine aA rfl rfl rfl (aF rfl) ?_;refine aA rfl rfl rfl (aF rfl) ?_;refine aJ ?_;refine aL (kh9 _ _ ?_);clear kh9;refine aK fun K10 kh10 => ?_;refine aB ?_;refine aA rfl rfl rfl (aG rfl) ?_;refine aA rfl rfl rfl (c6 rfl rfl) ?_;refine aJ ?_;refine aL (kh10 _ _ ?_);clear kh10;refine e7 rfl (by simp) ?_;refine aW ?_;refine aL (kh8 _ _ ?_);clear kh8;refine aK fun K11 kh11 => ?_;refine aK fun K12 kh12 => ?_;refine aB ?_;refine aA rfl rfl rfl (a8 (vs := [_, _]) Tryz.isAgg24 Tryz.sizeOf24 rfl rfl ⟨(rdA rfl), (rdA rfl), trivial⟩) ?_;refine aA rfl rfl rfl (aG rfl) ?_;refine aA rfl rfl rfl (aG rfl) ?_;refine aR rfl rfl rfl (bD Tryz.call20 rfl (fun w_ hp_ => Join_spec (n : Int) A Ac l cap (l4 l (natN p) bn) cc_ (bn : Int) w_ (hr.up0 hp_) hl hN hok (eU (hoc.seen hp_)) (by omega)) ?_);rintro _ _ ⟨J, AJ, cJ, mJ, rfl, rfl, hoJ, _, hJ0⟩;obtain ⟨hJ1, hJ2, hJ3⟩ := hJ0 hje
 rw [Int.toNat_natCast] at hJ1 hJ2 hJ3;have hJl := (cN hJ1.right).2
 have him := imp_right hg hJ1.right hb hJ1.size hmv
 rw [hje];dsimp only [List.cons_append, List.nil_append];refine aA rfl rfl rfl (aG rfl) ?_;refine aA rfl rfl rfl (aV rfl rfl) ?_;refine aA rfl rfl rfl (aV rfl rfl) ?_;refine aA rfl rfl rfl (aF rfl) ?_;refine aA rfl rfl rfl (aF rfl) ?_;refine aJ ?_;refine aL (kh12 _ _ ?_);clear kh12;refine aK fun K13 kh13 => ?_;refine aB ?_;refine aA rfl rfl rfl (aG rfl) ?_;refine aA rfl rfl rfl (c6 rfl rfl) ?_;refine aJ ?_;refine aL (kh13 _ _ ?_);clear kh13;refine e7 rfl (by simp) ?_;refine aW ?_;refine aL (kh11 _ _ ?_);clear kh11;refine aK fun K14 kh14 => ?_;refine aB ?_;refine aA rfl rfl rfl (a8 (vs := [_, _]) Tryz.isAgg24 Tryz.sizeOf24 rfl rfl ⟨(rdA rfl), (rdA rfl), trivial⟩) ?_;refine aA rfl rfl rfl (aG rfl) ?_;refine aA rfl rfl rfl (aG rfl) ?_;refine aA rfl rfl rfl (aG rfl) ?_;refine aR rfl rfl rfl (bD Tryz.call38 rfl (fun w_ hp_ => Improve_spec (n : Int) A AJ l cap J cJ (bn : Int) mv w_ (hr.up0 hp_) hl hN hok (eU (hoJ.seen hp_)) (by omega)) ?_);rintro _ _ ⟨sI, mI, rfl, rfl, hoI⟩;obtain ⟨AI, cI, rfl, _⟩ := hoI.val
 rw [him.1];dsimp only [List.cons_append, List.nil_append];refine aA rfl rfl rfl (aG rfl) ?_;refine aA rfl rfl rfl (aV rfl rfl) ?_;refine aA rfl rfl rfl (aV rfl rfl) ?_;refine aA rfl rfl rfl (aV rfl rfl) ?_;refine aA rfl rfl rfl (aF rfl) ?_;refine aA rfl rfl rfl (aF rfl) ?_;refine aJ ?_;refine aL (kh14 _ _ ?_);clear kh14;refine aK fun K15 kh15 => ?_;refine aB ?_;refine aA rfl rfl rfl (aG rfl) ?_;refine aA rfl rfl rfl (aG rfl) ?_;refine aA rfl rfl rfl (aF rfl) ?_;refine aA rfl rfl rfl (aF rfl) ?_;refine aJ ?_;refine aL (kh15 _ _ ?_);clear kh15;refine a7 ?_;exact bW [mI] Tryz.results18 rfl rfl (by repeat first|exact aI|refine aD ?_|refine aC rfl ?_|refine aH ?_) ⟨_, AI, cI, mI, rfl, rfl, hoI, M, p, J, hMs, hMO, hp, by rw [Int.toNat_natCast]; exact hJ1, hJ2, by rw [Int.toNat_natCast]; exact hJ3, rfl⟩
set_option maxRecDepth 100000 in
set_option maxHeartbeats 4000000 in
theorem Make_spec (N : Int) (A : Option Addr) (l : List Arc) (cap : Nat) (B : Option Addr) (bs : List Int) (bc : Nat) (C : Option Addr) (cs : List Int) (cc : Nat) (mv : Int) (w : World) (hr : Ro (Fr w []) w A (l.flatMap cE)) (hl : l.length ≤ 9223372036854775807) (hN : I64 N) (hok : ∀ x ∈ l, dQ x) (hB : Ro (Fr w []) w B (a6 bs)) (hbl : bs.length ≤ 9223372036854775807) (hC : Ro (Fr w []) w C (a6 cs)) (hcl : cs.length ≤ 9223372036854775807) (hbc : bs.length ≤ bc ∧ bc ≤ 9223372036854775807) :
    Meets Tryz.prog 8 [.agg #[.int .i64 N, .slice A l.length cap], .slice B bs.length bc, .slice C cs.length cc, .int .i64 mv] w [] (fun u own' => ∃ (bs' : List Int) (L : List (List Int)) (R : List Row) (Ab Ac : Option Addr) (cb' cc' : Nat) (mb mc : Seg) (ms : List Seg), u = .tuple #[.agg #[.slice Ab bs'.length cb', .slice Ac R.length cc'], .int .i64 (plE N l bs cs mv)] ∧ own' = [mb, mc, ms.flatten] ∧ Own 3 1 (.slice Ab bs'.length cb') bs'.length (a6 bs') mb ∧ Own 25 1 (.slice Ac R.length cc') R.length (R.map eO) mc ∧ RowsI 3 L (R.map eO) ms ∧ bI R = L ∧
      (plE N l bs cs mv ≠ 0 → bs' = [] ∧ L = []) ∧ (plE N l bs cs mv = 0 → bs' = bs ∧ L.length = bs.length ∧ MkTo N.toNat l bs cs mv L)) := by
 refine bJ Tryz.func8 rfl Tryz.ntmps8 rfl Owns.nil ?_;refine aK fun K1 kh1 => ?_;refine aB ?_;refine aR rfl rfl rfl (cZ rfl rfl fun b4 => ?_);refine aR rfl rfl rfl (cU Tryz.zeroValue32 rfl fun b8 => ?_);refine aA rfl rfl rfl (aF rfl) ?_;refine aJ ?_;refine aL (kh1 _ _ ?_);clear kh1;refine aK fun K2 kh2 => ?_;refine aK fun K3 kh3 => ?_;refine aB ?_;refine aA rfl rfl rfl (a8 (vs := [_, _]) Tryz.isAgg24 Tryz.sizeOf24 rfl rfl ⟨(rdA rfl), (rdA rfl), trivial⟩) ?_;refine aA rfl rfl rfl (aG rfl) ?_;refine aA rfl rfl rfl (aG rfl) ?_;refine aA rfl rfl rfl (aG rfl) ?_;refine aR rfl rfl rfl (bD Tryz.call17 rfl (fun w_ hp_ => planned_spec N A l cap B bs bc C cs cc mv w_ (hr.up0 hp_) hl hN hok (hB.up0 hp_) hbl (hC.up0 hp_) hcl) ?_);rintro _ _ ⟨rfl, rfl⟩;dsimp only [List.cons_append, List.nil_append];refine aA rfl rfl rfl (aF rfl) ?_;refine aJ ?_;refine aL (kh3 _ _ ?_);clear kh3;refine aK fun K4 kh4 => ?_;refine aB ?_;refine aA rfl rfl rfl (aG rfl) ?_;refine aA rfl rfl rfl (c6 rfl rfl) ?_;refine aJ ?_;refine aL (kh4 _ _ ?_);clear kh4;refine aZ rfl (fun c22 => ?_) (fun c22 => ?_)
 ·
  refine aK fun K5 kh5 => ?_;refine aB ?_;refine aA rfl rfl rfl (dB (cs := [.slice none 0 0, .slice none 0 0]) st32 rfl rfl) ?_;refine aA rfl rfl rfl (aG rfl) ?_;refine bF rfl rfl (cA Tryz.sizeOf32 rfl rfl rfl rfl (by first | exact Nat.le_of_ble_eq_true rfl | (simp; done) | (simp; omega)) [.slice none 0 0, .slice none 0 0] rfl ?_);refine aA rfl rfl rfl (aF rfl) ?_;refine aJ ?_;refine aL (kh5 _ _ ?_);clear kh5;refine a7 ?_;refine bT ?_;exact iR (vs := [.slice none 0 0, .slice none 0 0]) [[], [], ([] : List Seg).flatten] Tryz.results8 rfl Tryz.isAgg32 Tryz.sizeOf32 rfl ⟨(rdA rfl), (rdA rfl), trivial⟩ rfl (by rw [List.flatten_nil]; exact (by repeat first|exact aI|refine aD ?_|refine aC rfl ?_|refine aH ?_)) ⟨[], [], [], none, none, 0, 0, [], [], [], rfl, rfl, Own.nil _ _, Own.nil _ _, ⟨rfl, rfl, fun i hi => by simp at hi⟩, rfl, fun _ => ⟨rfl, rfl⟩, fun h => absurd h (by simpa using c22)⟩
 ·
  have hz : plE N l bs cs mv = 0 := by simpa using c22
  obtain ⟨n, hNn, hPl⟩ := plE_zero hz
  subst hNn;have hmany := hPl.many
  have hn1 := bX hPl.g
  have h0 : 0 < bs.length := by omega
  obtain ⟨b1, o1, rfl, hS1, hc1⟩ := hB (fun e => by have := aX bs; rw [e] at this; simp at this; omega)
  refine aW ?_;refine aL (kh2 _ _ ?_);clear kh2;refine aK fun K6 kh6 => ?_;refine dH [[(b4, blk [.int .i64 (n : Int), .slice A l.length cap] 24)], [(b8, blk [.slice none 0 0, .slice none 0 0] 32)]] rfl ?_;refine aU 0 rfl (by decide +kernel) rfl rfl rfl (by repeat first|exact aI|refine aD ?_|refine aC rfl ?_|refine aH ?_) (a8 (vs := [_, _]) Tryz.isAgg24 Tryz.sizeOf24 rfl rfl ⟨(rdA rfl), (rdA rfl), trivial⟩) ?_;refine aU 1 rfl (by decide +kernel) rfl rfl rfl (by repeat first|exact aI|refine aD ?_|refine aC rfl ?_|refine aH ?_) (aG rfl) ?_;refine aU 2 rfl (by decide +kernel) rfl rfl rfl (by repeat first|exact aI|refine aD ?_|refine aC rfl ?_|refine aH ?_) (bA bK rfl rfl (o1 + 0) ⟨by omega, by omega, by first | omega | (simp; done) | (simp; omega)⟩) ?_;refine aU 3 rfl (by decide +kernel) rfl rfl rfl (by repeat first|exact aI|refine aD ?_|refine aC rfl ?_|refine aH ?_) (aM Tryz.isAgg3 rfl (dX (enc := (.int .i64 ·)) hS1 hc1 h0)) ?_;refine aU 4 rfl (by decide +kernel) rfl rfl rfl (by repeat first|exact aI|refine aD ?_|refine aC rfl ?_|refine aH ?_) (aG rfl) ?_;refine aU 5 rfl (by decide +kernel) rfl rfl rfl (by repeat first|exact aI|refine aD ?_|refine aC rfl ?_|refine aH ?_) (aG rfl) ?_;refine bQ 6 rfl (by decide +kernel) rfl rfl rfl (bD Tryz.call18 rfl (fun w_ hp_ => lowest_spec n A l cap bs[0] C cs cc mv w_ (hr.up0 hp_) hl hN hok (hC.up0 hp_) hPl.few hPl.g (by have := hPl.first; rw [bs_at h0] at this; exact this) hPl.rng hPl.moves) ?_);rintro _ _ ⟨L0, A0, c0, m0, rfl, rfl, ho0, hLow⟩;dsimp only [List.cons_append, List.nil_append];refine ⟨(by repeat first|exact aI|refine aD ?_|refine aC rfl ?_|refine aH ?_), ?_⟩;refine aU 7 rfl (by decide +kernel) rfl rfl rfl (by repeat first|exact aI|refine aD ?_|refine aC rfl ?_|refine aH ?_) (aG rfl) ?_;refine aU 8 rfl (by decide +kernel) rfl rfl rfl (by repeat first|exact aI|refine aD ?_|refine aC rfl ?_|refine aH ?_) (aV rfl rfl) ?_;refine aU 9 rfl (by decide +kernel) rfl rfl rfl (by repeat first|exact aI|refine aD ?_|refine aC rfl ?_|refine aH ?_) (aV rfl rfl) ?_;refine bQ 10 rfl (by decide +kernel) rfl rfl rfl ((aF rfl).does ⟨(by repeat first|exact aI|refine aD ?_|refine aC rfl ?_|refine aH ?_), ?_⟩);refine bQ 11 rfl (by decide +kernel) rfl rfl rfl ((aF rfl).does ⟨(by repeat first|exact aI|refine aD ?_|refine aC rfl ?_|refine aH ?_), ?_⟩);refine dF (by decide +kernel) ?_;refine aL (kh6 _ _ ?_);clear kh6;refine aK fun K7 kh7 => ?_;refine aK fun K8 kh8 => ?_;refine aB ?_
  refine aA rfl rfl rfl (aG rfl) ?_;refine aA rfl rfl rfl (c6 rfl rfl) ?_;refine aJ ?_;refine aL (kh8 _ _ ?_);clear kh8;refine e7 rfl (by simp) ?_;refine aW ?_;refine aL (kh7 _ _ ?_);clear kh7;refine aK fun K9 kh9 => ?_;refine aB ?_;refine aA rfl rfl rfl (aG rfl) ?_;refine aR rfl rfl rfl (bD Tryz.call19 rfl (fun w_ hp_ => kJ (some ⟨b1, o1, none⟩) bs.length (a6 bs) bc w_ (hB.up0 hp_) (fun e => by cases e) (by rw [aX]; omega) (ints_oneG _) (by omega)) ?_);rintro v40 _ ⟨m40, rfl, ho40⟩;obtain ⟨Ab, cb', rfl, _⟩ := ho40.val
  dsimp only [List.cons_append, List.nil_append];refine aA rfl rfl rfl (aG rfl) ?_;refine aR rfl rfl rfl (dA el30 (by omega) rfl rfl rfl fun b42 => ?_);refine aA rfl rfl rfl (dB (cs := [.slice Ab bs.length cb', .slice (some ⟨b42, 0, none⟩) 1 1]) st32 rfl rfl) ?_;refine aR rfl rfl rfl (cU Tryz.zeroValue32 rfl fun b13 => ?_);refine bF rfl rfl (cA Tryz.sizeOf32 rfl rfl rfl rfl (by first | exact Nat.le_of_ble_eq_true rfl | (simp; done) | (simp; omega)) [.slice Ab bs.length cb', .slice (some ⟨b42, 0, none⟩) 1 1] rfl ?_);refine aJ ?_;refine aL (kh9 _ _ ?_);clear kh9;refine aK fun K10 kh10 => ?_;refine aK fun K11 kh11 => ?_;refine aB ?_;refine aA rfl rfl rfl (aG rfl) ?_;refine aA rfl rfl rfl (e5 bK rfl rfl rfl rfl (fun h => by cases h) 1 _ _ (.inr ⟨_, _, rfl, by omega⟩) (.inl ⟨rfl, rfl⟩) (.inl ⟨rfl, rfl⟩) ⟨by omega, by omega, by omega⟩ (.slice (if bc = 1 then some ⟨b1, o1, none⟩ else some ⟨b1, o1 + 1, none⟩) (bs.length - 1) (bc - 1)) (by congr 1)) ?_;refine aA rfl rfl rfl (bS bK rfl) ?_;refine aA rfl rfl rfl (aG rfl) ?_;refine aJ ?_;refine aL (kh11 _ _ ?_);clear kh11;refine aY ?_;refine cS (α := Nat × List (List Int) × List Value × List Seg × Value × Value × Seg) [4, 8, 13, 45, 46] (fun ⟨i, L, vs, ms, vl, cv, mc⟩ => [(47, .int .i64 (i : Int)), (11, vl)]) (fun ⟨i, L, vs, ms, vl, cv, mc⟩ => [[(b13, blk [.slice Ab bs.length cb', cv] 32)], m40, mc, ms.flatten, [(b4, blk [.int .i64 (n : Int), .slice A l.length cap] 24)], [(b8, blk [.slice none 0 0, .slice none 0 0] 32)]]) (fun ⟨i, L, vs, ms, vl, cv, mc⟩ => i + 1 ≤ bs.length ∧ L.length = i + 1 ∧ RowsI 3 L vs ms ∧ vs.getLast? = some vl ∧ Own 25 1 cv L.length vs mc ∧ MkTo n l bs cs mv L) (fun ⟨i, L, vs, ms, vl, cv, mc⟩ => bs.length - i) (0, [L0], [.slice A0 L0.length c0], [m0], .slice A0 L0.length c0, .slice (some ⟨b42, 0, none⟩) 1 1, [(b42, blk [.slice A0 L0.length c0] 25)]) ?_ ?_ ?_ ?_
  · exact (by repeat constructor)
  · dsimp only
    rw [show ([m0] : List Seg).flatten = m0 from by simp]
    repeat first|exact aI|refine aD ?_|refine aC rfl ?_|refine aH ?_
  · exact ⟨by omega, rfl, RowsI.one ho0, rfl, Own.mk rfl (by omega), by rw [bs_at h0]; exact hLow, fun k hk => by simp at hk⟩
  ·
   rintro ⟨i, L, vs, ms, vl, cv, mc⟩ ⟨hil, hLl, hRI, hvl, hoc, hMk⟩;obtain ⟨Ac, cc2, rfl, hcc2⟩ := hoc.val
   refine aK fun K12 kh12 => ?_;refine aB ?_;refine aA rfl rfl rfl (cD rfl rfl) ?_;refine aJ ?_;refine aL (kh12 _ _ ?_);clear kh12;refine aK fun K13 kh13 => ?_;refine aZ rfl (fun c48 => ?_) (fun c48 => ?_)
   ·
    have hi : i + 1 < bs.length := by omega
    obtain ⟨Al, cr, hve, hbr'⟩ := last_row hRI (by omega) hvl
    rw [show L.length - 1 = i by omega] at hve hbr';subst hve;have hri := hMk.right hPl (k := i) (by omega)
    have hrl := (cN hri.1).2
    obtain ⟨br, spr, rfl, hbr⟩ := hbr' (by omega)
    have hbi := hPl.bnd (i + 1) hi
    have hbi2 : jP bs (i + 1) = bs.getD i 0 := rfl
    have hb0 := hPl.bnd i (by omega)
    have hbpos : 0 ≤ jP bs i := by
      cases i with
      | zero => exact Int.le_refl _
      | succ j => have h1 := hPl.bnd j (by omega); have h2 : jP bs (j + 1) = bs.getD j 0 := rfl; have h3 : 0 ≤ jP bs j := blw_nn hPl (by omega); omega
    rw [hbi2] at hbi;have hje := joinE_zeroM (bd := bs[i + 1]) hPl.g hri.1 (by rw [← bs_at hi]; omega) (fun y => by have := hri.2 y; rw [← bs_at hi]; omega)
    refine aW ?_;refine aL (kh13 _ _ ?_);clear kh13;refine aK fun K14 kh14 => ?_;refine aY ?_;refine aK fun K15 kh15 => ?_;refine aB ?_;refine aA rfl rfl rfl (bA bK (show _ = some (Value.slice (some ⟨b1, o1 + 1, none⟩) (bs.length - 1) (bc - 1)) from by show some (Value.slice (if bc = 1 then _ else _) _ _) = _; rw [if_neg (by omega)]) rfl (o1 + 1 + i) ⟨by omega, by omega, by omega⟩) ?_;refine aA rfl rfl rfl (aM Tryz.isAgg3 rfl (show Rd _ _ _ _ _ (.int .i64 bs[i + 1]) by rw [show o1 + 1 + i = o1 + (i + 1) by omega]; exact dX (enc := (.int .i64 ·)) hS1 hc1 hi)) ?_;refine aA rfl rfl rfl (aF rfl) ?_;refine aJ ?_;refine aL (kh15 _ _ ?_);clear kh15;refine aK fun K16 kh16 => ?_;refine aK fun K17 kh17 => ?_;refine aB ?_;refine aA rfl rfl rfl (a8 (vs := [_, _]) Tryz.isAgg24 Tryz.sizeOf24 rfl rfl ⟨(rdA rfl), (rdA rfl), trivial⟩) ?_;refine aA rfl rfl rfl (aG rfl) ?_;refine aA rfl rfl rfl (aG rfl) ?_;refine aR rfl rfl rfl (bD Tryz.call20 rfl (fun w_ hp_ => Join_spec (n : Int) A (some ⟨br, 0, none⟩) l cap (L.getD i []) cr bs[i + 1] w_ (hr.up0 hp_) hl hN hok (ro_in hp_ (G := ms.flatten) hbr) (by omega)) ?_);rintro _ _ ⟨J, AJ, cJ, mJ, rfl, rfl, hoJ, _, hJ0⟩;obtain hJ := hJ0 hje
    rw [Int.toNat_natCast] at hJ;rw [hje];dsimp only [List.cons_append, List.nil_append];refine aA rfl rfl rfl (aG rfl) ?_;refine aA rfl rfl rfl (aV rfl rfl) ?_;refine aA rfl rfl rfl (aV rfl rfl) ?_;refine aA rfl rfl rfl (aF rfl) ?_;refine aA rfl rfl rfl (aF rfl) ?_;refine aJ ?_;refine aL (kh17 _ _ ?_);clear kh17;refine aK fun K18 kh18 => ?_;refine aB ?_;refine aA rfl rfl rfl (aG rfl) ?_;refine aA rfl rfl rfl (c6 rfl rfl) ?_;refine aJ ?_;refine aL (kh18 _ _ ?_);clear kh18;refine e7 rfl (by simp) ?_;refine aW ?_;refine aL (kh16 _ _ ?_);clear kh16;refine aB ?_;refine aA rfl rfl rfl (aQ iQ rfl) ?_;refine aA rfl rfl rfl (aM Tryz.isAgg30 rfl (rdA rfl)) ?_;refine aA rfl rfl rfl (aG rfl) ?_;refine aR rfl rfl rfl (dA el30 (by omega) rfl rfl rfl fun b65 => ?_);refine aR rfl rfl rfl (dG el30 rfl rfl hoc (ys := [.slice AJ J.length cJ]) ⟨(rdA rfl), trivial⟩ rfl rfl (by omega) (by omega) fun v66 m66 o66 => ?_);obtain ⟨A66, c66, rfl, _⟩ := o66.val
    refine aA rfl rfl rfl (aQ iQ rfl) ?_;refine bF rfl rfl (cB Tryz.sizeOf30 rfl rfl rfl rfl (by first | exact Nat.le_of_ble_eq_true rfl | (simp; done) | (simp; omega)) [.slice Ab bs.length cb', .slice A66 (L.length + 1) c66] rfl ?_);refine aJ ?_;refine cV ?_;refine aL (kh14 _ _ ?_);clear kh14;refine aB ?_;refine aA rfl rfl rfl (bG rfl rfl _ (aT (by omega))) ?_;refine aA rfl rfl rfl (aG rfl) ?_;refine aJ ?_;refine jI (Sub.joinF (m := mJ) (G' := ms.flatten) perm_snocF) ?_;refine aL (bB (i + 1, L ++ [J], vs ++ [.slice AJ J.length cJ], ms ++ [mJ], .slice AJ J.length cJ, _, m66) (by first | omega | (dsimp only; omega) | (simp; omega)) ⟨by omega, by simp [hLl], RowsI.snoc hRI hoJ, by simp, by rw [List.length_append]; exact o66, hMk.snoc (by omega) (by rw [show L.length - 1 = i by omega, hLl, bs_at hi]; exact hJ)⟩ ?_ ?_ ?_)
    · exact (by repeat constructor)
    · exact (by repeat constructor)
    · repeat first|exact aI|refine aD ?_|refine aC rfl ?_|refine aH ?_
   ·
    obtain rfl : i = bs.length - 1 := by omega
    obtain ⟨R, rfl, hRL⟩ := RowsI.rows hRI
    have hRlen : R.length = L.length := by rw [← hRL, gF]
    refine cG ?_;refine cK ?_;clear kh13;refine cK ?_;refine d5 ?_;refine aL (kh10 _ _ ?_);clear kh10;refine aK fun K19 kh19 => ?_;refine aB ?_;refine aA rfl rfl rfl (a8 (vs := [.slice Ab bs.length cb', .slice Ac L.length cc2]) Tryz.isAgg32 Tryz.sizeOf32 rfl rfl ⟨(rdA rfl), (rdA rfl), trivial⟩) ?_;refine bF rfl rfl (cA Tryz.sizeOf32 rfl rfl rfl rfl (by first | exact Nat.le_of_ble_eq_true rfl | (simp; done) | (simp; omega)) [.slice Ab bs.length cb', .slice Ac L.length cc2] rfl ?_);refine aA rfl rfl rfl (aF rfl) ?_;refine aJ ?_;refine aL (kh19 _ _ ?_);clear kh19;refine a7 ?_;exact iR (vs := [.slice Ab bs.length cb', .slice Ac L.length cc2]) [m40, mc, ms.flatten] Tryz.results8 rfl Tryz.isAgg32 Tryz.sizeOf32 rfl ⟨(rdA rfl), (rdA rfl), trivial⟩ rfl (by repeat first|exact aI|refine aD ?_|refine aC rfl ?_|refine aH ?_) ⟨bs, L, R, Ab, Ac, cb', cc2, m40, mc, ms, by rw [hz, hRlen], rfl, ho40, by rw [hRlen]; exact hoc, hRI, hRL, fun h => absurd hz h, fun _ => ⟨rfl, by omega, by rw [Int.toNat_natCast]; exact hMk⟩⟩
end Go.Proofs.YtjjogcnjcnpehaaGreat

/- flyoverlaw11: large, works, NestRight. -/
namespace Go.Proofs.YtjjogcnjcnpehaaGreat
open Go Go.RowKit Fly
set_option linter.unusedVariables false
set_option linter.unusedSimpArgs false
set_option maxRecDepth 100000 in
set_option maxHeartbeats 4000000 in
theorem RCheckN_spec (N : Int) (A : Option Addr) (l : List Arc) (cap : Nat) (w : World) (hr : Ro (Fr w []) w A (l.flatMap cE)) (hl : l.length ≤ 9223372036854775807) (hN : I64 N) (hok : ∀ x ∈ l, dQ x) :
    Meets Tryz.prog 16 [.agg #[.int .i64 N, .slice A l.length cap]] w [] (fun v m => v = .tuple #[.int .i64 (bH N l).1, .int .i64 (bH N l).2] ∧ m = []) := by
 refine bJ Tryz.func16 rfl Tryz.ntmps16 rfl Owns.nil ?_;refine aK fun K1 kh1 => ?_;refine aB ?_;refine aR rfl rfl rfl (cZ rfl rfl fun b1 => ?_);refine aA rfl rfl rfl (aF rfl) ?_;refine aA rfl rfl rfl (aF rfl) ?_;refine aJ ?_;refine aL (kh1 _ _ ?_);clear kh1;refine aK fun K2 kh2 => ?_;refine aK fun K3 kh3 => ?_;refine aB ?_;refine aA rfl rfl rfl (aQ eE rfl) ?_;refine aA rfl rfl rfl (aM Tryz.isAgg3 rfl (rdA rfl)) ?_;refine aA rfl rfl rfl (cD rfl rfl) ?_;refine aA rfl rfl rfl (aG rfl) ?_;refine cX 9 rfl (fun g9 => ?_) (fun g9 => ?_)
 · refine aS rfl rfl rfl rfl rfl rfl ?_;refine aS rfl rfl rfl rfl rfl rfl ?_;refine aS rfl rfl rfl rfl rfl rfl ?_;refine aA rfl rfl rfl (cF rfl rfl) ?_;refine aJ ?_;refine aL (kh3 _ _ ?_);clear kh3;refine eF rfl ?_;refine aK fun K4 kh4 => ?_;refine aB ?_;refine aA rfl rfl rfl (aF rfl) ?_;refine aA rfl rfl rfl (aF rfl) ?_;refine aJ ?_;refine aL (kh4 _ _ ?_);clear kh4;refine a7 ?_;refine bT ?_;exact bW [] Tryz.results16 rfl rfl aI ⟨by rw [jM (by omega)], rfl⟩
 ·
  refine aO rfl rfl rfl rfl rfl (aQ eE rfl) ?_;refine aO rfl rfl rfl rfl rfl (aM Tryz.isAgg3 rfl (rdA rfl)) ?_;refine aO rfl rfl rfl rfl rfl (eQ rfl rfl) ?_;refine aA rfl rfl rfl (cO rfl rfl) ?_;refine aJ ?_;refine aL (kh3 _ _ ?_);clear kh3;refine aZ rfl (fun c13 => ?_) (fun c13 => ?_)
  · refine aK fun K5 kh5 => ?_;refine aB ?_;refine aA rfl rfl rfl (aF rfl) ?_;refine aA rfl rfl rfl (aF rfl) ?_;refine aJ ?_;refine aL (kh5 _ _ ?_);clear kh5;refine a7 ?_;refine bT ?_;exact bW [] Tryz.results16 rfl rfl aI ⟨by rw [jM (by omega)], rfl⟩
  ·
   have hN1 : 1 ≤ N ∧ N ≤ 1024 := by omega
   refine aW ?_;refine aL (kh2 _ _ ?_);clear kh2;refine aK fun K6 kh6 => ?_;refine aK fun K7 kh7 => ?_;refine aB ?_;refine aA rfl rfl rfl (aQ hG rfl) ?_;refine aA rfl rfl rfl (aM Tryz.isAgg22 rfl (rdA rfl)) ?_;refine aA rfl rfl rfl (bS lJ rfl) ?_;refine aA rfl rfl rfl (eQ rfl rfl) ?_;refine aJ ?_;refine aL (kh7 _ _ ?_);clear kh7;refine aZ rfl (fun c17 => ?_) (fun c17 => ?_)
   · refine aK fun K8 kh8 => ?_;refine aB ?_;refine aA rfl rfl rfl (aF rfl) ?_;refine aA rfl rfl rfl (aF rfl) ?_;refine aJ ?_;refine aL (kh8 _ _ ?_);clear kh8;refine a7 ?_;refine bT ?_;exact bW [] Tryz.results16 rfl rfl aI ⟨by rw [gcheck_long hN1 (by omega)], rfl⟩
   ·
    refine aW ?_;refine aL (kh6 _ _ ?_);clear kh6;refine aK fun K9 kh9 => ?_;refine aK fun K10 kh10 => ?_;refine aB ?_;refine aA rfl rfl rfl (aF rfl) ?_;refine aJ ?_;refine aL (kh10 _ _ ?_);clear kh10;refine aY ?_;refine cS (α := Nat) [1] (fun k => [(4, .int .i64 (k : Int))]) (fun k => [[(b1, blk [.int .i64 N, .slice A l.length cap] 24)]]) (fun k => k ≤ l.length ∧ ∀ j (h : j < l.length), j < k → eB N l[j] = false) (fun k => l.length - k) (0) ?_ ?_ ?_ ?_
    · exact (by repeat constructor)
    · repeat first|exact aI|refine aD ?_|refine aC rfl ?_|refine aH ?_
    · exact ⟨by omega, fun j h hj => by omega⟩
    ·
     rintro k ⟨hkl, hall⟩;refine aK fun K11 kh11 => ?_;refine aK fun K12 kh12 => ?_;refine aB ?_;refine aA rfl rfl rfl (aG rfl) ?_;refine aA rfl rfl rfl (aQ hG rfl) ?_;refine aA rfl rfl rfl (aM Tryz.isAgg22 rfl (rdA rfl)) ?_;refine aA rfl rfl rfl (bS lJ rfl) ?_;refine aA rfl rfl rfl (cD rfl rfl) ?_;refine aJ ?_;refine aL (kh12 _ _ ?_);clear kh12;refine aZ rfl (fun c22 => ?_) (fun c22 => ?_)
     ·
      refine aW ?_;refine aL (kh11 _ _ ?_);clear kh11;refine aK fun K13 kh13 => ?_;refine aY ?_;refine aK fun K14 kh14 => ?_;refine aB ?_;refine aA rfl rfl rfl (aQ hG rfl) ?_;refine aA rfl rfl rfl (aM Tryz.isAgg22 rfl (rdA rfl)) ?_;refine aA rfl rfl rfl (aG rfl) ?_;have hk : k < l.length := by omega
      obtain ⟨b, off, rfl, hS, hc⟩ := hr (f9 cE dO (by omega) hk)
      refine aA rfl rfl rfl (bA lJ rfl rfl (off + k * 3) ⟨by omega, by omega, by first | omega | (simp; done) | (simp; omega)⟩) ?_;refine aA rfl rfl rfl (a8 (vs := cE l[k]) Tryz.isAgg48 Tryz.sizeOf48 rfl rfl (gN dO hS hc hk)) ?_;refine aR rfl rfl rfl (cU Tryz.zeroValue48 rfl fun b5 => ?_);refine bF rfl rfl (cA Tryz.sizeOf48 rfl rfl rfl rfl (by first | exact Nat.le_of_ble_eq_true rfl | (simp; done) | (simp; omega)) (cE l[k]) rfl ?_);refine aJ ?_;refine aL (kh14 _ _ ?_);clear kh14;refine aK fun K15 kh15 => ?_;refine aB ?_;refine aA rfl rfl rfl (aQ gA rfl) ?_;refine aA rfl rfl rfl (aM Tryz.isAgg3 rfl (rdA rfl)) ?_;refine aA rfl rfl rfl (cD rfl rfl) ?_;refine aA rfl rfl rfl (aG rfl) ?_;refine cX 33 rfl (fun g33 => ?_) (fun g33 => ?_)
      ·
       refine aS rfl rfl rfl rfl rfl rfl ?_;refine aS rfl rfl rfl rfl rfl rfl ?_;refine aS rfl rfl rfl rfl rfl rfl ?_;refine aS rfl rfl rfl rfl rfl rfl ?_;refine aS rfl rfl rfl rfl rfl rfl ?_;refine aA rfl rfl rfl (cF rfl rfl) ?_;refine aA rfl rfl rfl (aG rfl) ?_;refine aS rfl rfl rfl rfl rfl rfl ?_;refine aS rfl rfl rfl rfl rfl rfl ?_;refine aS rfl rfl rfl rfl rfl rfl ?_;refine aA rfl rfl rfl (cF rfl rfl) ?_;refine aA rfl rfl rfl (aG rfl) ?_;refine aS rfl rfl rfl rfl rfl rfl ?_;refine aS rfl rfl rfl rfl rfl rfl ?_;refine aS rfl rfl rfl rfl rfl rfl ?_;refine aS rfl rfl rfl rfl rfl rfl ?_;refine aS rfl rfl rfl rfl rfl rfl ?_;refine aA rfl rfl rfl (cF rfl rfl) ?_;refine aJ ?_;refine aL (kh15 _ _ ?_);clear kh15;refine eF rfl ?_;refine aK fun K16 kh16 => ?_;refine aB ?_;refine aA rfl rfl rfl (aG rfl) ?_;refine aA rfl rfl rfl (aF rfl) ?_;refine aA rfl rfl rfl (aF rfl) ?_;refine aJ ?_;refine aL (kh16 _ _ ?_);clear kh16;refine a7 ?_;refine eC ?_;refine bT ?_;refine bT ?_;refine eC ?_;refine bT ?_;exact bW [] Tryz.results16 rfl rfl aI ⟨by rw [i2 hN1 (by omega) hk hall (by unfold eB; simp; omega)], rfl⟩
      ·
       refine aO rfl rfl rfl rfl rfl (aQ gA rfl) ?_;refine aO rfl rfl rfl rfl rfl (aM Tryz.isAgg3 rfl (rdA rfl)) ?_;refine aO rfl rfl rfl rfl rfl (aQ eE rfl) ?_;refine aO rfl rfl rfl rfl rfl (aM Tryz.isAgg3 rfl (rdA rfl)) ?_;refine aO rfl rfl rfl rfl rfl (h7 rfl rfl) ?_;refine aA rfl rfl rfl (cO rfl rfl) ?_;refine aA rfl rfl rfl (aG rfl) ?_;refine cX 40 rfl (fun g40 => ?_) (fun g40 => ?_)
       ·
        refine aS rfl rfl rfl rfl rfl rfl ?_;refine aS rfl rfl rfl rfl rfl rfl ?_;refine aS rfl rfl rfl rfl rfl rfl ?_;refine aA rfl rfl rfl (cF rfl rfl) ?_;refine aA rfl rfl rfl (aG rfl) ?_;refine aS rfl rfl rfl rfl rfl rfl ?_;refine aS rfl rfl rfl rfl rfl rfl ?_;refine aS rfl rfl rfl rfl rfl rfl ?_;refine aS rfl rfl rfl rfl rfl rfl ?_;refine aS rfl rfl rfl rfl rfl rfl ?_;refine aA rfl rfl rfl (cF rfl rfl) ?_;refine aJ ?_;refine aL (kh15 _ _ ?_);clear kh15;refine eF rfl ?_;refine aK fun K17 kh17 => ?_;refine aB ?_;refine aA rfl rfl rfl (aG rfl) ?_;refine aA rfl rfl rfl (aF rfl) ?_;refine aA rfl rfl rfl (aF rfl) ?_;refine aJ ?_;refine aL (kh17 _ _ ?_);clear kh17;refine a7 ?_;refine eC ?_;refine bT ?_;refine bT ?_;refine eC ?_;refine bT ?_;exact bW [] Tryz.results16 rfl rfl aI ⟨by rw [i2 hN1 (by omega) hk hall (by unfold eB; simp; omega)], rfl⟩
       ·
        refine aO rfl rfl rfl rfl rfl (aQ fX rfl) ?_;refine aO rfl rfl rfl rfl rfl (aM Tryz.isAgg3 rfl (rdA rfl)) ?_;refine aO rfl rfl rfl rfl rfl (cD rfl rfl) ?_;refine aA rfl rfl rfl (cO rfl rfl) ?_;refine aA rfl rfl rfl (aG rfl) ?_;refine cX 45 rfl (fun g45 => ?_) (fun g45 => ?_)
        ·
         refine aS rfl rfl rfl rfl rfl rfl ?_;refine aS rfl rfl rfl rfl rfl rfl ?_;refine aS rfl rfl rfl rfl rfl rfl ?_;refine aS rfl rfl rfl rfl rfl rfl ?_;refine aS rfl rfl rfl rfl rfl rfl ?_;refine aA rfl rfl rfl (cF rfl rfl) ?_;refine aJ ?_;refine aL (kh15 _ _ ?_);clear kh15;refine eF rfl ?_;refine aK fun K18 kh18 => ?_;refine aB ?_;refine aA rfl rfl rfl (aG rfl) ?_;refine aA rfl rfl rfl (aF rfl) ?_;refine aA rfl rfl rfl (aF rfl) ?_;refine aJ ?_;refine aL (kh18 _ _ ?_);clear kh18;refine a7 ?_;refine eC ?_;refine bT ?_;refine bT ?_;refine eC ?_;refine bT ?_;exact bW [] Tryz.results16 rfl rfl aI ⟨by rw [i2 hN1 (by omega) hk hall (by unfold eB; simp; omega)], rfl⟩
        ·
         refine aO rfl rfl rfl rfl rfl (aQ fX rfl) ?_;refine aO rfl rfl rfl rfl rfl (aM Tryz.isAgg3 rfl (rdA rfl)) ?_;refine aO rfl rfl rfl rfl rfl (aQ eE rfl) ?_;refine aO rfl rfl rfl rfl rfl (aM Tryz.isAgg3 rfl (rdA rfl)) ?_;refine aO rfl rfl rfl rfl rfl (h7 rfl rfl) ?_;refine aA rfl rfl rfl (cO rfl rfl) ?_;refine aJ ?_;refine aL (kh15 _ _ ?_);clear kh15;refine aZ rfl (fun c51 => ?_) (fun c51 => ?_)
         ·
          refine aK fun K19 kh19 => ?_;refine aB ?_;refine aA rfl rfl rfl (aG rfl) ?_;refine aA rfl rfl rfl (aF rfl) ?_;refine aA rfl rfl rfl (aF rfl) ?_;refine aJ ?_;refine aL (kh19 _ _ ?_);clear kh19;refine a7 ?_;refine eC ?_;refine bT ?_;refine bT ?_;refine eC ?_;refine bT ?_;exact bW [] Tryz.results16 rfl rfl aI ⟨by rw [i2 hN1 (by omega) hk hall (by unfold eB; simp; omega)], rfl⟩
         ·
          refine aW ?_;refine cV ?_;refine aL (kh13 _ _ ?_);clear kh13;refine aB ?_;refine aA rfl rfl rfl (aG rfl) ?_;refine aA rfl rfl rfl (bG rfl rfl _ (aT (by omega))) ?_;refine aA rfl rfl rfl (aF rfl) ?_;refine aJ ?_;refine aL (bB (k + 1) (by first | omega | (dsimp only; omega) | (simp; omega)) ⟨by omega, good_next hall (by unfold eB; simp; omega)⟩ ?_ ?_ ?_)
          · exact (by repeat constructor)
          · exact (by repeat constructor)
          · repeat first|exact aI|refine aD ?_|refine aC rfl ?_|refine aH ?_
     · refine cG ?_;refine cK ?_;clear kh11;refine cK ?_;refine d5 ?_;refine aL (kh9 _ _ ?_);clear kh9;refine aK fun K20 kh20 => ?_;refine aB ?_;refine aA rfl rfl rfl (aF rfl) ?_;refine aA rfl rfl rfl (aF rfl) ?_;refine aJ ?_;refine aL (kh20 _ _ ?_);clear kh20;refine a7 ?_;exact bW [] Tryz.results16 rfl rfl aI ⟨by rw [gcheck_ok hN1 (by omega) (fun j h => hall j h (by omega))], rfl⟩
set_option maxRecDepth 100000 in
set_option maxHeartbeats 4000000 in
theorem large_spec (N : Int) (A : Option Addr) (l : List Arc) (cap : Nat) (w : World) (hr : Ro (Fr w []) w A (l.flatMap cE)) (hl : l.length ≤ 9223372036854775807) (hN : I64 N) (hok : ∀ x ∈ l, dQ x) :
    Meets Tryz.prog 7 [.agg #[.int .i64 N, .slice A l.length cap]] w [] (fun u m => ∃ b, u = .bool b ∧ m = []) := by
 refine bJ Tryz.func7 rfl Tryz.ntmps7 rfl Owns.nil ?_;refine aK fun K1 kh1 => ?_;refine aB ?_;refine aR rfl rfl rfl (cZ rfl rfl fun b1 => ?_);refine aA rfl rfl rfl (aF rfl) ?_;refine aJ ?_;refine aL (kh1 _ _ ?_);clear kh1;refine aK fun K2 kh2 => ?_;refine aB ?_;refine aA rfl rfl rfl (a8 (vs := [_, _]) Tryz.isAgg24 Tryz.sizeOf24 rfl rfl ⟨(rdA rfl), (rdA rfl), trivial⟩) ?_;refine aR rfl rfl rfl (bD Tryz.call16 rfl (fun w_ hp_ => RCheckN_spec N A l cap w_ (hr.up0 hp_) hl hN hok) ?_);rintro _ _ ⟨rfl, rfl⟩;dsimp only [List.cons_append, List.nil_append];refine aA rfl rfl rfl (aG rfl) ?_;refine aA rfl rfl rfl (aV rfl rfl) ?_;refine aA rfl rfl rfl (aV rfl rfl) ?_;refine aA rfl rfl rfl (aF rfl) ?_;refine aA rfl rfl rfl (aF rfl) ?_;refine aJ ?_;refine aL (kh2 _ _ ?_);clear kh2;refine aK fun K3 kh3 => ?_;refine aB ?_;refine aA rfl rfl rfl (aG rfl) ?_;refine aA rfl rfl rfl (fM rfl rfl) ?_;refine aA rfl rfl rfl (aG rfl) ?_;refine cX 12 rfl (fun g12 => ?_) (fun g12 => ?_)
 ·
  refine aO rfl rfl rfl rfl rfl (aQ eE rfl) ?_;refine aO rfl rfl rfl rfl rfl (aM Tryz.isAgg3 rfl (rdA rfl)) ?_;refine aO rfl rfl rfl rfl rfl (eQ rfl rfl) ?_;refine aO rfl rfl rfl rfl rfl (aG rfl) ?_;refine cX 16 rfl (fun g16 => ?_) (fun g16 => ?_)
  · refine aS rfl rfl rfl rfl rfl rfl ?_;refine aS rfl rfl rfl rfl rfl rfl ?_;refine aS rfl rfl rfl rfl rfl rfl ?_;refine aS rfl rfl rfl rfl rfl rfl ?_;refine aO rfl rfl rfl rfl rfl (cF rfl rfl) ?_;refine aA rfl rfl rfl (cF rfl rfl) ?_;refine aA rfl rfl rfl (aF rfl) ?_;refine aJ ?_;refine aL (kh3 _ _ ?_);clear kh3;refine a7 ?_;exact bP [] Tryz.results7 rfl aI ⟨_, rfl, rfl⟩
  · refine aO rfl rfl rfl rfl rfl (aQ hG rfl) ?_;refine aO rfl rfl rfl rfl rfl (aM Tryz.isAgg22 rfl (rdA rfl)) ?_;refine aO rfl rfl rfl rfl rfl (bS lJ rfl) ?_;refine aO rfl rfl rfl rfl rfl (eQ rfl rfl) ?_;refine aO rfl rfl rfl rfl rfl (cO rfl rfl) ?_;refine aA rfl rfl rfl (cF rfl rfl) ?_;refine aA rfl rfl rfl (aF rfl) ?_;refine aJ ?_;refine aL (kh3 _ _ ?_);clear kh3;refine a7 ?_;exact bP [] Tryz.results7 rfl aI ⟨_, rfl, rfl⟩
 · refine aS rfl rfl rfl rfl rfl rfl ?_;refine aS rfl rfl rfl rfl rfl rfl ?_;refine aS rfl rfl rfl rfl rfl rfl ?_;refine aS rfl rfl rfl rfl rfl rfl ?_;refine f_stepU rfl rfl rfl rfl rfl ?_;refine f_stepU rfl rfl rfl rfl rfl ?_;refine f_stepU rfl rfl rfl rfl rfl ?_;refine f_stepU rfl rfl rfl rfl rfl ?_;refine aS rfl rfl rfl rfl rfl rfl ?_;refine aA rfl rfl rfl (cO rfl rfl) ?_;refine aA rfl rfl rfl (aF rfl) ?_;refine aJ ?_;refine aL (kh3 _ _ ?_);clear kh3;refine a7 ?_;exact bP [] Tryz.results7 rfl aI ⟨_, rfl, rfl⟩
set_option maxRecDepth 100000 in
set_option maxHeartbeats 4000000 in
theorem works_spec (w : World) : Meets Tryz.prog 6 [] w [] (fun u m => u = .bool true ∧ m = []) := by
 refine bJ Tryz.func6 rfl Tryz.ntmps6 rfl Owns.nil ?_;refine aK fun K1 kh1 => ?_;refine aB ?_;refine aA rfl rfl rfl (aF rfl) ?_;refine aJ ?_;refine aL (kh1 _ _ ?_);clear kh1;refine aK fun K2 kh2 => ?_;refine aB ?_;refine aA rfl rfl rfl (dB st48 rfl rfl) ?_;refine aA rfl rfl rfl (dB st48 rfl rfl) ?_;refine aA rfl rfl rfl (dB st48 rfl rfl) ?_;refine aA rfl rfl rfl (dB st48 rfl rfl) ?_;refine aA rfl rfl rfl (dB st48 rfl rfl) ?_;refine aA rfl rfl rfl (dB st48 rfl rfl) ?_;refine aA rfl rfl rfl (dB st48 rfl rfl) ?_;refine aR rfl rfl rfl (o_sliceN (len := 7) el22 (by omega) rfl rfl fun b13 => ?_);refine aA rfl rfl rfl (dB st24 rfl rfl) ?_;refine aR rfl rfl rfl (cU Tryz.zeroValue24 rfl fun b1 => ?_);refine bF rfl rfl (cA Tryz.sizeOf24 rfl rfl rfl rfl (by first | exact Nat.le_of_ble_eq_true rfl | (simp; done) | (simp; omega)) [.int .i64 6, .slice (some ⟨b13, 0, none⟩) 7 7] rfl ?_);refine aJ ?_;refine aL (kh2 _ _ ?_);clear kh2;refine aK fun K3 kh3 => ?_;refine aB ?_;refine aA rfl rfl rfl (a8 (vs := [_, _]) Tryz.isAgg24 Tryz.sizeOf24 rfl rfl ⟨(rdA rfl), (rdA rfl), trivial⟩) ?_;refine aR rfl rfl rfl (o_sliceN (len := 2) dV (by omega) rfl rfl fun b17 => ?_);refine aR rfl rfl rfl (dA dV (by omega) rfl rfl rfl fun b18 => ?_);refine aR rfl rfl rfl (bD Tryz.call8 rfl (fun w_ hp_ => Make_spec 6 (some ⟨b13, 0, none⟩) wg8 7 (some ⟨b17, 0, none⟩) [3, 6] 2 (some ⟨b18, 0, none⟩) [0] 1 0 w_ (iV (b := b13) hp_ (cs := wg8.flatMap cE) (fun j v hj => hj)) (by decide) (by decide) wg8Ok (iV (b := b17) hp_ (cs := a6 [3, 6]) (fun j v hj => hj)) (by decide) (iV (b := b18) hp_ (cs := a6 [0]) (fun j v hj => hj)) (by decide) ⟨by decide, by decide⟩) ?_);rintro _ _ ⟨bs2, L, R, Ab, Ac, cb2, cc2, mb, mc, ms, rfl, rfl, hob, hoc, hRI, hRL, _, hz⟩;obtain ⟨rfl, hLl, hMk⟩ := hz w11Pl
 obtain rfl := w11Made hLl hMk
 rw [w11Pl]
 obtain ⟨r0, r1, rfl⟩ : ∃ r0 r1, R = [r0, r1] := by
   have h := congrArg List.length hRL
   rw [gF] at h
   match R, h with
   | [a, b], _ => exact ⟨a, b, rfl⟩
 obtain ⟨A0, l0, c0⟩ := r0
 obtain ⟨A1, l1, c1⟩ := r1
 obtain ⟨rfl, rfl⟩ : l0 = [0, 0, 0, 1, 1, 1] ∧ l1 = [0, 0, 0, 0, 0, 0] := by simpa [bI] using hRL
 obtain ⟨bc, spc, rfl, rfl⟩ := hoc.at_ (by simp)
 dsimp only [List.cons_append, List.nil_append];refine aA rfl rfl rfl (aG rfl) ?_;refine aA rfl rfl rfl (aV rfl rfl) ?_;refine aA rfl rfl rfl (aV rfl rfl) ?_;refine aR rfl rfl rfl (cU Tryz.zeroValue32 rfl fun b2 => ?_);refine bF rfl rfl (cA Tryz.sizeOf32 rfl rfl rfl rfl (by first | exact Nat.le_of_ble_eq_true rfl | (simp; done) | (simp; omega)) [.slice Ab 2 cb2, .slice (some ⟨bc, 0, none⟩) 2 cc2] rfl ?_);refine aA rfl rfl rfl (aF rfl) ?_;refine aJ ?_;refine aL (kh3 _ _ ?_);clear kh3;refine aK fun K4 kh4 => ?_;refine aB ?_;refine aA rfl rfl rfl (a8 (vs := [_, _]) Tryz.isAgg24 Tryz.sizeOf24 rfl rfl ⟨(rdA rfl), (rdA rfl), trivial⟩) ?_;refine aA rfl rfl rfl (a8 (vs := [_, _]) Tryz.isAgg32 Tryz.sizeOf32 rfl rfl ⟨(rdA rfl), (rdA rfl), trivial⟩) ?_;refine aR rfl rfl rfl (bD Tryz.call11 rfl (fun w_ hp_ => NApart_spec 6 (some ⟨b13, 0, none⟩) wg8 7 Ab [3, 6] cb2 (some ⟨bc, 0, none⟩) [(A0, [0, 0, 0, 1, 1, 1], c0), (A1, [0, 0, 0, 0, 0, 0], c1)] cc2 0 3 w_ (iV (b := b13) hp_ (cs := wg8.flatMap cE) (fun j v hj => hj)) (by decide) (by decide) wg8Ok (nest_ro hp_ hob hoc hRI hRL (by simp))) ?_);rintro _ _ ⟨rfl, rfl⟩;rw [show bI [(A0, [0, 0, 0, 1, 1, 1], c0), (A1, [0, 0, 0, 0, 0, 0], c1)] = [[0, 0, 0, 1, 1, 1], [0, 0, 0, 0, 0, 0]] from rfl];rw [show apE 6 wg8 [3, 6] [[0, 0, 0, 1, 1, 1], [0, 0, 0, 0, 0, 0]] 0 3 = 0 from by unfold apE; rw [show nsE 6 wg8 [3, 6] [[0, 0, 0, 1, 1, 1], [0, 0, 0, 0, 0, 0]] = (0, 0) from w11Ok.zero]; rfl];dsimp only [List.cons_append, List.nil_append];refine aA rfl rfl rfl (aG rfl) ?_;refine aA rfl rfl rfl (aV rfl rfl) ?_;refine aA rfl rfl rfl (aV rfl rfl) ?_;refine aA rfl rfl rfl (aF rfl) ?_;refine aA rfl rfl rfl (aF rfl) ?_;refine aJ ?_;refine aL (kh4 _ _ ?_);clear kh4;refine aK fun K5 kh5 => ?_;refine aB ?_;refine aA rfl rfl rfl (aG rfl) ?_;refine aA rfl rfl rfl (fM rfl rfl) ?_;refine aA rfl rfl rfl (aG rfl) ?_;refine f_trueL 30 rfl (rfl) ?_;refine aO rfl rfl rfl rfl rfl (aQ iQ rfl) ?_;refine aO rfl rfl rfl rfl rfl (aM Tryz.isAgg30 rfl (rdA rfl)) ?_;refine aO rfl rfl rfl rfl rfl (bS gD rfl) ?_;refine aO rfl rfl rfl rfl rfl (fM rfl rfl) ?_;refine aA rfl rfl rfl (cF rfl rfl) ?_;refine aA rfl rfl rfl (aG rfl) ?_;refine f_trueL 36 rfl (rfl) ?_;refine aO rfl rfl rfl rfl rfl (aQ iQ rfl) ?_;refine aO rfl rfl rfl rfl rfl (aM Tryz.isAgg30 rfl (rdA rfl)) ?_;refine aO rfl rfl rfl rfl rfl (bA gD rfl rfl (0) ⟨by omega, by omega, by first | omega | (simp; done) | (simp; omega)⟩) ?_;refine aO rfl rfl rfl rfl rfl (aM Tryz.isAgg25 rfl (rdA (v := .slice A0 6 c0) rfl)) ?_;refine lZ rfl rfl rfl rfl rfl (o_sliceN (len := 6) dV (by omega) rfl rfl fun b41 => ?_);refine lZ rfl rfl rfl rfl rfl (bD Tryz.call10 rfl (fun w_ hp_ => SameInts_spec A0 (some ⟨b41, 0, none⟩) [0, 0, 0, 1, 1, 1] [0, 0, 0, 1, 1, 1] c0 6 w_ ((nest_ro hp_ hob hoc hRI hRL (by simp)).rows (A0, [0, 0, 0, 1, 1, 1], c0) (by simp)).1 (iV (b := b41) hp_ (cs := a6 [0, 0, 0, 1, 1, 1]) (fun j v hj => hj)) (by decide)) ?_)
 rintro _ _ ⟨rfl, rfl⟩;rw [decide_eq_true rfl];dsimp only [List.cons_append, List.nil_append];refine aA rfl rfl rfl (cF rfl rfl) ?_;refine aA rfl rfl rfl (aG rfl) ?_;refine aO rfl rfl rfl rfl rfl (aQ iQ rfl) ?_;refine aO rfl rfl rfl rfl rfl (aM Tryz.isAgg30 rfl (rdA rfl)) ?_;refine aO rfl rfl rfl rfl rfl (bA gD rfl rfl (1) ⟨by omega, by omega, by first | omega | (simp; done) | (simp; omega)⟩) ?_;refine aO rfl rfl rfl rfl rfl (aM Tryz.isAgg25 rfl (rdA (v := .slice A1 6 c1) rfl)) ?_;refine lZ rfl rfl rfl rfl rfl (o_sliceN (len := 6) dV (by omega) rfl rfl fun b49 => ?_);refine lZ rfl rfl rfl rfl rfl (bD Tryz.call10 rfl (fun w_ hp_ => SameInts_spec A1 (some ⟨b49, 0, none⟩) [0, 0, 0, 0, 0, 0] [0, 0, 0, 0, 0, 0] c1 6 w_ ((nest_ro hp_ hob hoc hRI hRL (by simp)).rows (A1, [0, 0, 0, 0, 0, 0], c1) (by simp)).1 (iV (b := b49) hp_ (cs := a6 [0, 0, 0, 0, 0, 0]) (fun j v hj => hj)) (by decide)) ?_);rintro _ _ ⟨rfl, rfl⟩;rw [decide_eq_true rfl];dsimp only [List.cons_append, List.nil_append];refine aA rfl rfl rfl (cF rfl rfl) ?_;refine aA rfl rfl rfl (aG rfl) ?_;refine aO rfl rfl rfl rfl rfl (aG rfl) ?_;refine aO rfl rfl rfl rfl rfl (fM rfl rfl) ?_;refine aA rfl rfl rfl (cF rfl rfl) ?_;refine aA rfl rfl rfl (aG rfl) ?_;refine f_trueL 56 rfl (by decide) ?_;refine aO rfl rfl rfl rfl rfl (aG rfl) ?_;refine aO rfl rfl rfl rfl rfl (fM rfl rfl) ?_;refine aA rfl rfl rfl (cF rfl rfl) ?_;refine aA rfl rfl rfl (aF rfl) ?_;refine aJ ?_;refine aL (kh5 _ _ ?_);clear kh5;refine a7 ?_;exact bP [] Tryz.results6 rfl aI ⟨by rfl, rfl⟩
end Go.Proofs.YtjjogcnjcnpehaaGreat
