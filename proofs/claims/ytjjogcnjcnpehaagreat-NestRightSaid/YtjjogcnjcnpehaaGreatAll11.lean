import Derived.Test.YtjjogcnjcnpehaaGreatAll10
import Derived.Test.YtjjogcnjcnpehaaGreatAll9
import Derived.Test.YtjjogcnjcnpehaaGreatAll3
import Derived.Test.YtjjogcnjcnpehaaGreatAll5

/- What is cut up: no size is above the bound, and who had unlike labels has unlike ones. -/
namespace Go.Proofs.YtjjogcnjcnpehaaGreat
open Go Fly
set_option linter.unusedVariables false
set_option linter.unusedSimpArgs false
set_option linter.unusedSectionVars false
theorem qn (a b : Nat) : (0 : Int) ≤ ((a / b : Nat) : Int) := Int.natCast_nonneg _
theorem CutOk.inj {l : List Arc} {L : List Int} {j : Nat} (h : CutOk l L j) {i k : Nat} (hi : i < (cA l L j).length) (hk : k < (cA l L j).length) (e : putAt (cY L j) (cA l L j) i = putAt (cY L j) (cA l L j) k) : i = k := by
  obtain ⟨q, hq, _, u, _, _, hu, hr⟩ := h.at hi
  obtain ⟨q', hq', _, u', _, _, hu', hr'⟩ := h.at hk
  rw [hu, hu'] at e;subst e;have : q = q' := by rw [← hr, ← hr']
  subst this;refine Classical.byContradiction fun hne => ?_;have hn := h.nd
  rcases Nat.lt_or_gt_of_ne hne with hlt | hlt
  · exact List.pairwise_iff_getElem.1 hn i k hi hk hlt (by rw [hq, hq'])
  · exact List.pairwise_iff_getElem.1 hn k i hk hi hlt (by rw [hq, hq'])
theorem CutOk.cover {l : List Arc} {L : List Int} {j : Nat} (h : CutOk l L j) {v : Nat} (hv : v < L.length) (e : L[v] = (j : Int)) : ∃ i, i < (cA l L j).length ∧ putAt (cY L j) (cA l L j) i = v := by
  have hkv : v < (fB L j).length := by rw [iS]; exact hv
  have hkt : (fB L j)[v] = true := by simp [fB, e]
  have hr := kG hkv hkt
  obtain ⟨i, hi, ei⟩ := List.mem_iff_getElem.1 (h.all _ hr)
  obtain ⟨q, hq, _, u, _, ⟨hu, eu⟩, hp, hru⟩ := h.at hi
  refine ⟨i, hi, hp.trans ?_⟩;have : q = fD (fB L j) v := by rw [ei] at hq; omega
  exact vrank_inj (by rw [iS]; exact hu) hkv (by simp [fB, eu]) hkt (by rw [hru, this])
/-- While the vertices of a label are told their new ones. -/
structure PutI (vs ord : List Int) (b : Nat) (nx : Int) (o p : List Int) (i : Nat) : Prop where
  len : p.length = o.length
  rest : ∀ v, (∀ k, k < i → putAt vs ord k ≠ v) → p[v]? = o[v]?
  told : ∀ k, k < i → p[putAt vs ord k]? = some (nx + ((k / b : Nat) : Int))
  old : ∀ y, y < nx → eU p y ≤ eU o y
  new : ∀ c : Nat, eU p (nx + (c : Int)) ≤ min (i - c * b) b
theorem put_inv {l : List Arc} {L o : List Int} {j b : Nat} {nx : Int} (h : CutOk l L j) (hb : 0 < b) (hl : o.length = L.length) (hn : ∀ x ∈ o, x < nx) : ∀ i, i ≤ (cA l L j).length → PutI (cY L j) (cA l L j) b nx o (gV (cY L j) (cA l L j) b nx o i) i
  | 0, _ => by
    refine ⟨rfl, fun _ _ => rfl, fun k hk => by omega, fun y _ => Nat.le_refl _, fun c => ?_⟩
    show eU o (nx + (c : Int)) ≤ _
    rw [iD fun hm => by have := hn _ hm; omega]; omega
  | i + 1, hi => by
    have ih := put_inv (o := o) (nx := nx) (b := b) h hb hl hn i (by omega)
    obtain ⟨q, hq, _, u, _, ⟨hu, _⟩, hp, _⟩ := h.at (i := i) (by omega)
    have hset := cntI_set (L := gV (cY L j) (cA l L j) b nx o i) (i := u) (by rw [ih.len]; omega) (nx + ((i / b : Nat) : Int))
    show PutI _ _ _ _ _ ((gV (cY L j) (cA l L j) b nx o i).set (putAt (cY L j) (cA l L j) i) _) _
    rw [hp];have hdm := Nat.div_add_mod i b
    have hml := Nat.mod_lt i hb
    refine ⟨by rw [List.length_set, ih.len], fun v hv => ?_, fun k hk => ?_, fun y hy => ?_, fun c => ?_⟩
    · rw [List.getElem?_set_ne (by have := hv i (by omega); rw [hp] at this; exact this)]
      exact ih.rest v fun k hk => hv k (by omega)
    · by_cases e : k = i
      · subst e
        rw [hp, List.getElem?_set_self (by rw [ih.len]; omega)]
      · rw [List.getElem?_set_ne (fun e' => e (h.inj (by omega) (by omega) (by rw [hp, e'])))]
        exact ih.told k (by omega)
    · have h1 := hset y
      have h2 := ih.old y hy
      rw [if_neg (show ¬ nx + ((i / b : Nat) : Int) = y by have := qn i b; omega)] at h1;omega
    · have h1 := hset (nx + (c : Int))
      have h2 := ih.new c
      by_cases e : i / b = c
      · rw [if_pos (show nx + ((i / b : Nat) : Int) = nx + (c : Int) by omega)] at h1
        rw [e] at hdm;rw [Nat.mul_comm] at hdm
        generalize c * b = z at *
        omega
      · rw [if_neg (show ¬ nx + ((i / b : Nat) : Int) = nx + (c : Int) by omega)] at h1
        have : i < c * b ∨ c * b + b ≤ i := by
          rcases Nat.lt_or_gt_of_ne e with hlt | hlt
          · left
            have h3 := Nat.mul_le_mul_right b (show i / b + 1 ≤ c from hlt)
            rw [Nat.succ_mul] at h3;rw [Nat.mul_comm] at hdm;omega
          · right
            have h3 := Nat.mul_le_mul_right b (show c + 1 ≤ i / b from hlt)
            rw [Nat.succ_mul] at h3;rw [Nat.mul_comm] at hdm;omega
        generalize c * b = z at *
        omega
/-- What has been cut up so far. -/
structure CutI (L : List Int) (b j : Nat) (o : List Int) (nx : Int) : Prop where
  len : o.length = L.length
  low : (L.length : Int) ≤ nx
  same : ∀ v (h : v < L.length), (j : Int) ≤ L[v] ∨ eU L L[v] ≤ b → o[v]? = some L[v]
  new : ∀ v (h : v < L.length), L[v] < (j : Int) → b < eU L L[v] → ∃ z, o[v]? = some z ∧ (L.length : Int) ≤ z ∧ z < nx
  fine : ∀ u v (hu : u < L.length) (hv : v < L.length), o[u]? = o[v]? → L[u] = L[v]
  size : ∀ y, (L.length : Int) ≤ y → eU o y ≤ b
theorem CutI.rng {L : List Int} {b j : Nat} {o : List Int} {nx : Int} (h : CutI L b j o nx) (hL : ∀ x ∈ L, 0 ≤ x ∧ x < (L.length : Int)) : ∀ x ∈ o, x < nx := fun x hx => by
  obtain ⟨v, hv, e⟩ := List.mem_iff_getElem.1 hx
  have hv' : v < L.length := by rw [← h.len]; exact hv
  have e' : o[v]? = some x := by rw [List.getElem?_eq_getElem hv, e]
  have hr := hL _ (List.getElem_mem hv')
  have hlow := h.low
  by_cases hc : (j : Int) ≤ L[v] ∨ eU L L[v] ≤ b
  · have := h.same v hv' hc
    rw [e'] at this;have := Option.some.inj this
    omega
  · obtain ⟨z, h1, h2, h3⟩ := h.new v hv' (by omega) (by omega)
    rw [e'] at h1;have := Option.some.inj h1
    omega
theorem cut_inv {l : List Arc} {L : List Int} {b : Nat} (hn : L.length ≤ 1024) (hl : l.length ≤ 8192) (hb : 0 < b) (hL : ∀ x ∈ L, 0 ≤ x ∧ x < (L.length : Int)) : ∀ j, CutI L b j (cO l L b j).1 (cO l L b j).2
  | 0 => by
    refine ⟨rfl, Int.le_refl _, fun v h _ => List.getElem?_eq_getElem h, fun v h h1 => ?_, fun u v hu hv e => ?_, fun y hy => ?_⟩
    · have := hL _ (List.getElem_mem h); omega
    · have e' : L[u]? = L[v]? := e
      rw [List.getElem?_eq_getElem hu, List.getElem?_eq_getElem hv] at e';exact Option.some.inj e'
    · show eU L y ≤ b
      rw [iD fun hm => by have := hL _ hm; omega]; omega
  | j + 1 => by
    have ih := cut_inv (l := l) hn hl hb hL j
    unfold cO
    by_cases hc : cnt L j ≤ b
    · rw [if_pos hc]
      rw [cnt_is] at hc;refine ⟨ih.len, ih.low, fun v h h1 => ih.same v h ?_, fun v h h1 h2 => ih.new v h ?_ h2, ih.fine, ih.size⟩
      · by_cases e : L[v] = (j : Int)
        · right; rw [e]; exact hc
        · rcases h1 with h1 | h1
          · left; omega
          · exact .inr h1
      · refine Classical.byContradiction fun hne => ?_
        have : L[v] = (j : Int) := by omega
        rw [this] at h2; omega
    · rw [if_neg hc]
      have hck := cut_ok (l := l) hn hl (show 0 < cnt L j by omega)
      have hP := put_inv hck hb ih.len (ih.rng hL) (cA l L j).length (Nat.le_refl _)
      rw [cnt_is] at hc;have hlow := ih.low
      have hnj : ∀ v (h : v < L.length), L[v] ≠ (j : Int) → (gV (cY L j) (cA l L j) b (cO l L b j).2 (cO l L b j).1 (cA l L j).length)[v]? = (cO l L b j).1[v]? := fun v h hne => hP.rest v fun k hk e => by
        obtain ⟨_, _, _, u, _, ⟨hu, eu⟩, hp, _⟩ := hck.at hk
        rw [hp] at e; subst e; exact hne eu
      have hyj : ∀ v (h : v < L.length), L[v] = (j : Int) → ∃ k, k < (cA l L j).length ∧ (gV (cY L j) (cA l L j) b (cO l L b j).2 (cO l L b j).1 (cA l L j).length)[v]? = some ((cO l L b j).2 + ((k / b : Nat) : Int)) := fun v h e => by
        obtain ⟨k, hk, rfl⟩ := hck.cover h e
        exact ⟨k, hk, hP.told k hk⟩
      have hdiv : ∀ k, k < (cA l L j).length → ((k / b : Nat) : Int) < ((((cA l L j).length + b - 1) / b : Nat) : Int) := fun k hk => by
        have : k / b + 1 ≤ ((cA l L j).length + b - 1) / b := by
          rw [← Nat.add_div_right k hb];exact Nat.div_le_div_right (by omega)
        omega
      have hlt : ∀ v (h : v < L.length) z, (cO l L b j).1[v]? = some z → z < (cO l L b j).2 := fun v h z e => ih.rng hL z (List.mem_of_getElem? e)
      refine ⟨by rw [hP.len, ih.len], by dsimp only; have := qn ((cA l L j).length + b - 1) b; omega, fun v h h1 => ?_, fun v h h1 h2 => ?_, fun u v hu hv e => ?_, fun y hy => ?_⟩
      · have hne : L[v] ≠ (j : Int) := by
          rcases h1 with h1 | h1
          · omega
          · intro e; rw [e] at h1; exact hc h1
        rw [hnj v h hne];refine ih.same v h ?_
        rcases h1 with h1 | h1
        · left; omega
        · exact .inr h1
      · by_cases e : L[v] = (j : Int)
        · obtain ⟨k, hk, ek⟩ := hyj v h e
          have := hdiv k hk
          have h6 := qn k b
          exact ⟨_, ek, by omega, by dsimp only; omega⟩
        · rw [hnj v h e]
          obtain ⟨z, h3, h4, h5⟩ := ih.new v h (by omega) h2
          have h6 := qn ((cA l L j).length + b - 1) b
          exact ⟨z, h3, h4, by dsimp only; omega⟩
      · by_cases e1 : L[u] = (j : Int) <;> by_cases e2 : L[v] = (j : Int)
        · rw [e1, e2]
        · obtain ⟨k, hk, ek⟩ := hyj u hu e1
          rw [ek, hnj v hv e2] at e;have := hlt v hv _ e.symm
          have h6 := qn k b
          omega
        · obtain ⟨k, hk, ek⟩ := hyj v hv e2
          rw [ek, hnj u hu e1] at e;have := hlt u hu _ e
          have h6 := qn k b
          omega
        · rw [hnj u hu e1, hnj v hv e2] at e
          exact ih.fine u v hu hv e
      · dsimp only
        by_cases h1 : y < (cO l L b j).2
        · exact Nat.le_trans (hP.old y h1) (ih.size y hy)
        · have := hP.new (y - (cO l L b j).2).toNat
          rw [show (cO l L b j).2 + (((y - (cO l L b j).2).toNat : Nat) : Int) = y by omega] at this;omega
/-- What is cut up, in the end. -/
theorem cut_holds {l : List Arc} {L : List Int} {n b : Nat} (hR : cZ (n : Int) L = true) (hn1 : 1 ≤ n) (hn : n ≤ 1024) (hl : l.length ≤ 8192) (hb : 0 < b) :
    cZ (n : Int) (lS l L b) = true ∧ (∀ y, eU (lS l L b) y ≤ b) ∧ ∀ u v : Nat, u < n → v < n → lab (lS l L b) (u : Int) = lab (lS l L b) (v : Int) → lab L (u : Int) = lab L (v : Int) := by
  obtain rfl : L.length = n := (cX hR).2
  have hrg := eK hR hn1
  have hI := cut_inv (l := l) hn hl hb (fun x hx => by have := hrg x hx; omega) (eO L + 1).toNat
  obtain ⟨M, hM⟩ : ∃ M : Nat, (eO L + 1).toNat = M := ⟨_, rfl⟩
  rw [hM] at hI hrg;obtain ⟨o, ho⟩ : ∃ o, (cO l L b M).1 = o := ⟨_, rfl⟩
  obtain ⟨nx, hnx⟩ : ∃ nx, (cO l L b M).2 = nx := ⟨_, rfl⟩
  have ec : lS l L b = tdy o := by unfold lS; rw [hM, ho]
  rw [ho, hnx] at hI;rw [ec]
  have hsz : ∀ y, eU o y ≤ b := fun y => by
    by_cases hy : (L.length : Int) ≤ y
    · exact hI.size y hy
    · by_cases hyb : eU L y ≤ b
      · refine Nat.le_trans ?_ hyb
        have key : ∀ (p q : List Int), p.length = q.length → (∀ v (h : v < p.length) (h' : v < q.length), p[v] = y → q[v] = y) → eU p y ≤ eU q y := by
          intro p
          induction p with
          | nil => intro q _ _; exact Nat.zero_le _
          | cons x p ihp =>
            intro q hl hq
            cases q with
            | nil => cases hl
            | cons z q =>
              have h1 := ihp q (by simpa using hl) (fun v h h' e => by have := hq (v + 1) (by simpa using h) (by simpa using h') (by simpa using e); simpa using this)
              have h2 := hq 0 (by simp) (by simp)
              unfold eU at h1 ⊢
              rw [List.filter_cons, List.filter_cons]
              by_cases e : x = y
              · have := h2 e
                simp only [List.getElem_cons_zero] at this;rw [if_pos (by simpa using e), if_pos (by simpa using this)]; simp only [List.length_cons]; omega
              · rw [if_neg (by simpa using e)]
                split
                · simp only [List.length_cons]; omega
                · exact h1
        refine key o L hI.len fun v h h' e => ?_
        by_cases hc : (M : Int) ≤ L[v] ∨ eU L L[v] ≤ b
        · have := hI.same v h' hc
          rw [List.getElem?_eq_getElem h, e] at this;exact (Option.some.inj this).symm
        · obtain ⟨z, h1, h2, h3⟩ := hI.new v h' (by omega) (by omega)
          rw [List.getElem?_eq_getElem h, e] at h1;have := Option.some.inj h1
          omega
      · have : y ∉ o := fun hm => by
          obtain ⟨v, hv, e⟩ := List.mem_iff_getElem.1 hm
          have h' : v < L.length := by rw [← hI.len]; exact hv
          by_cases hc : (M : Int) ≤ L[v] ∨ eU L L[v] ≤ b
          · have := hI.same v h' hc
            rw [List.getElem?_eq_getElem hv, e] at this;have := Option.some.inj this
            rw [← this] at hc
            rcases hc with hc | hc
            · have := hrg y (by rw [this]; exact List.getElem_mem h'); omega
            · exact hyb hc
          · obtain ⟨z, h1, h2, h3⟩ := hI.new v h' (by omega) (by omega)
            rw [List.getElem?_eq_getElem hv, e] at h1;have := Option.some.inj h1
            omega
        rw [iD this]; omega
  refine ⟨right_tdy hI.len, fun y => ?_, fun u v hu hv e => ?_⟩
  · have := cntI_tdy (L := o) (bd := (b : Int)) (by omega) (fun y => by have := hsz y; omega) y
    omega
  · have ou : u < o.length := by rw [hI.len]; exact hu
    have ov : v < o.length := by rw [hI.len]; exact hv
    rw [tdy_labN ou ov, lab_get ou, lab_get ov] at e;rw [lab_get hu, lab_get hv];exact hI.fine u v hu hv (by rw [List.getElem?_eq_getElem ou, List.getElem?_eq_getElem ov, e])
end Go.Proofs.YtjjogcnjcnpehaaGreat

/- The searcher of package local: what a vertex's neighbours bear, the next move. -/
namespace Go.Proofs.YtjjogcnjcnpehaaGreat
open Go Go.RowKit Fly
set_option linter.unusedVariables false
set_option linter.unusedSimpArgs false
/-- What a searcher shows. -/
structure LSee (n : Nat) (rows : Nat → List Int) (L S : List Int) (bs : Nat) (w : World) (Al : Option Addr) (cl bo bz : Nat) (vs : List Value) : Prop where
  cells : Ro (Fr w []) w (some ⟨bs, 0, none⟩) [.slice Al L.length cl, .slice (some ⟨bo, 0, none⟩) n n, .slice (some ⟨bz, 0, none⟩) S.length S.length]
  labs : Ro (Fr w []) w Al (aY L)
  side : Ro (Fr w []) w (some ⟨bo, 0, none⟩) vs
  lv : vs.length = n
  row : ∀ v, v < n → ∃ A c, vs[v]? = some (.slice A (rows v).length c) ∧ Ro (Fr w []) w A (aY (rows v))
  size : Ro (Fr w []) w (some ⟨bz, 0, none⟩) (aY S)
theorem LSee.up0 {n : Nat} {rows : Nat → List Int} {L S : List Int} {bs : Nat} {w w' : World} {Al : Option Addr} {cl bo bz : Nat} {vs : List Value} {m : Seg} (h : LSee n rows L S bs w Al cl bo bz vs) (hp : Hp (Fr w []) w m w') : LSee n rows L S bs w' Al cl bo bz vs :=
  ⟨h.cells.up0 hp, h.labs.up0 hp, h.side.up0 hp, h.lv, fun v hv => by obtain ⟨A, c, h1, h2⟩ := h.row v hv; exact ⟨A, c, h1, h2.up0 hp⟩, h.size.up0 hp⟩
/-- What is known of labels and neighbours. -/
structure LOk (n : Nat) (rows : Nat → List Int) (L S : List Int) : Prop where
  n1 : 1 ≤ n ∧ n ≤ 1024
  len : L.length = n
  lab : ∀ x ∈ L, 0 ≤ x ∧ x < (S.length : Int)
  slen : S.length ≤ 1024
  rlen : ∀ v, v < n → (rows v).length ≤ 16384
  rok : ∀ v, v < n → ∀ u ∈ rows v, 0 ≤ u ∧ u < (n : Int)
  sz : ∀ x ∈ S, 0 ≤ x ∧ x ≤ 1024
/-- Rows that were clipped. -/
structure RowsC (E : TypeId) (n : Nat) (rows : Nat → List Int) (vs : List Value) (ms : List Seg) : Prop where
  lv : vs.length = n
  lm : ms.length = n
  own : ∀ i (h : i < n), ∃ A c, vs[i]? = some (.slice A (rows i).length (rows i).length) ∧ Own E 1 (.slice A (rows i).length c) (rows i).length (aY (rows i)) (ms[i]'(by rw [lm]; exact h))
abbrev kX (bs : Nat) (Al : Option Addr) (cl : Nat) (L : List Int) (ml : Seg) (bo n : Nat) (vs : List Value) (G : Seg) (bz : Nat) (S : List Int) : List Seg :=
  [[(bs, blk [.slice Al L.length cl, .slice (some ⟨bo, 0, none⟩) n n, .slice (some ⟨bz, 0, none⟩) S.length S.length] 114)], ml, [(bo, blk vs 25)], G, [(bz, blk (aY S) 3)]]
/-- A searcher in memory. -/
def LRep (n : Nat) (rows : Nat → List Int) (L S : List Int) (bs : Nat) (m : Seg) : Prop := ∃ Al cl ml bo vs ms bz, m.Perm (kX bs Al cl L ml bo n vs ms.flatten bz S).flatten ∧ Own 3 1 (.slice Al L.length cl) L.length (aY L) ml ∧ RowsC 3 n rows vs ms
theorem own_ints {E b c : Nat} {L L2 : List Int} {sp : List Value} (h : Own E 1 (.slice (some ⟨b, 0, none⟩) L.length c) L.length (aY L) [(b, blk (aY L ++ sp) E)]) (hl : L2.length = L.length) : Own E 1 (.slice (some ⟨b, 0, none⟩) L2.length c) L2.length (aY L2) [(b, blk (aY L2 ++ sp) E)] := by
  obtain ⟨_, h | ⟨b', c', sp', e, hm, h1, h2, h3⟩⟩ := h
  · obtain ⟨e, _⟩ := h; cases e
  · cases e
    have hsp : aY L ++ sp = aY L ++ sp' := by simpa using hm
    have hsp := List.append_cancel_left hsp
    subst hsp;exact ⟨by simp [aY], .inr ⟨b, c, sp, rfl, rfl, by omega, h2, by rw [hl]; exact h3⟩⟩
set_option maxRecDepth 100000 in
set_option maxHeartbeats 4000000 in
theorem aroundL_spec (n : Nat) (rows : Nat → List Int) (L S : List Int) (bs : Nat) (Al : Option Addr) (cl bo bz : Nat) (vs : List Value) (v : Nat) (w : World) (hs : LSee n rows L S bs w Al cl bo bz vs) (hO : LOk n rows L S) (hv : v < n) :
    Meets Tryz.prog 91 [.pointer (some ⟨bs, 0, none⟩), .int .i64 (v : Int)] w [] (fun u own' => ∃ bm ents c, u = .map (some bm) ∧ own' = [[(bm, fU (fun x : Int => .int .i64 x) ents c)]] ∧ MOk ents c ∧ Cnts L (rows v) ents) := by
 obtain ⟨_, _, e1_, hSs, hcs⟩ := hs.cells (by simp)
 cases e1_
 have hn := hO.n1
 have hLn := hO.len
 have hsl := hO.slen
 obtain ⟨Ar, cr, hvr, hrr⟩ := hs.row v hv
 obtain ⟨_, _, e2_, hSo, hco⟩ := hs.side (fun e => by have := hs.lv; rw [e] at this; simp at this; omega)
 cases e2_
 have hrl := hO.rlen v hv
 obtain ⟨_, _, e3_⟩ : ∃ bl off, True := ⟨0, 0, trivial⟩
 refine bM Tryz.func91 rfl Tryz.ntmps91 rfl Owns.nil ?_;refine aK fun K1 kh1 => ?_;refine aC ?_;refine aA rfl rfl rfl (aF rfl) ?_;refine aJ ?_;refine aL (kh1 _ _ ?_);clear kh1;refine aK fun K2 kh2 => ?_;refine aC ?_;refine aU rfl rfl rfl (iA fun b8 => ?_);refine aA rfl rfl rfl (aF rfl) ?_;refine aJ ?_;refine aL (kh2 _ _ ?_);clear kh2;refine aK fun K3 kh3 => ?_;refine aK fun K4 kh4 => ?_;refine aC ?_;refine aA rfl rfl rfl (aG rfl) ?_;refine aA rfl rfl rfl (dS rfl) ?_;refine aA rfl rfl rfl (aP fa114_1 rfl) ?_;refine aA rfl rfl rfl (aM Tryz.isAgg30 rfl (rdS hSs (hcs 1 _ rfl))) ?_;refine aA rfl rfl rfl (aG rfl) ?_;refine aA rfl rfl rfl (a8 f8 rfl rfl (0 + v) ⟨by omega, by omega, by first | omega | (simp; done) | (simp; omega)⟩) ?_;refine aA rfl rfl rfl (aM Tryz.isAgg25 rfl (rdS hSo (hco v _ hvr))) ?_;refine aA rfl rfl rfl (bU bK rfl) ?_;refine aA rfl rfl rfl (aG rfl) ?_;refine aJ ?_;refine aL (kh4 _ _ ?_);clear kh4;refine aZ ?_;refine cS (α := Nat × List (Int × Value × Nat) × Nat) [0, 5, 15, 16] (fun ⟨k, ents, c⟩ => [(17, .int .i64 (k : Int))]) (fun ⟨k, ents, c⟩ => [[(b8, fU (fun x : Int => .int .i64 x) ents c)]]) (fun ⟨k, ents, c⟩ => k ≤ (rows v).length ∧ MOk ents c ∧ Cnts L ((rows v).take k) ents) (fun ⟨k, ents, c⟩ => (rows v).length - k) (0, [], 0) ?_ ?_ ?_ ?_
 · exact (by repeat constructor)
 · repeat first|exact aH|refine aD ?_|refine aB rfl ?_|refine aI ?_
 · exact ⟨by omega, MOk.nil, Cnts.nil L⟩
 ·
  rintro ⟨k, ents, c⟩ ⟨hkl, hmap, hC⟩;refine aK fun K5 kh5 => ?_;refine aC ?_;refine aA rfl rfl rfl (cE rfl rfl) ?_;refine aJ ?_;refine aL (kh5 _ _ ?_);clear kh5;refine aK fun K6 kh6 => ?_;refine a6 rfl (fun c18 => ?_) (fun c18 => ?_)
  ·
   have hk : k < (rows v).length := by omega
   obtain ⟨br, offr, rfl, hSr, hcr⟩ := hrr (fun e => by have := aX (rows v); rw [e] at this; simp at this; omega)
   have hu := hO.rok v hv _ (List.getElem_mem hk)
   obtain ⟨bl, offl, rfl, hSl, hcl⟩ := hs.labs (fun e => by have := aX L; rw [e] at this; simp at this; omega)
   have hcn := ncnt_le L ((rows v).take k) (lab L (rows v)[k])
   rw [List.length_take] at hcn;refine aV ?_;refine aL (kh6 _ _ ?_);clear kh6;refine aK fun K7 kh7 => ?_;refine aZ ?_;refine aK fun K8 kh8 => ?_;refine aC ?_;refine aA rfl rfl rfl (a8 bK rfl rfl (offr + k) ⟨by omega, by omega, by first | omega | (simp; done) | (simp; omega)⟩) ?_;refine aA rfl rfl rfl (aM Tryz.isAgg3 rfl (eD (enc := (.int .i64 ·)) hSr hcr hk)) ?_;refine aA rfl rfl rfl (aF rfl) ?_;refine aJ ?_;refine aL (kh8 _ _ ?_);clear kh8;refine aC ?_;refine aA rfl rfl rfl (aG rfl) ?_;refine aA rfl rfl rfl (aG rfl) ?_;refine aA rfl rfl rfl (dS rfl) ?_;refine aA rfl rfl rfl (aP jE rfl) ?_;refine aA rfl rfl rfl (aM Tryz.isAgg25 rfl (rdS hSs (hcs 0 _ rfl))) ?_;refine aA rfl rfl rfl (aG rfl) ?_;refine aA rfl rfl rfl (a8 bK rfl rfl (offl + (rows v)[k].toNat) ⟨by omega, by omega, by first | omega | (simp; done) | (simp; omega)⟩) ?_;refine aA rfl rfl rfl (aM Tryz.isAgg3 rfl (show Rd _ _ _ _ _ (.int .i64 (lab L (rows v)[k])) by rw [j8 (by omega)]; exact eD (enc := (.int .i64 ·)) hSl hcl (by omega))) ?_;refine aA rfl rfl rfl (fQ kt86 Tryz.zeroValue3 rfl rfl rfl (.int .i64 (kS L ((rows v).take k) (lab L (rows v)[k]) : Int)) (hC _)) ?_;refine aA rfl rfl rfl (bF rfl rfl _ (aT (by omega))) ?_;refine bH rfl rfl (gG kt86 rfl rfl rfl rfl ?_);refine aJ ?_;refine cU ?_;refine aL (kh7 _ _ ?_);clear kh7;refine aC ?_;refine aA rfl rfl rfl (bF rfl rfl _ (aT (by omega))) ?_;refine aA rfl rfl rfl (aG rfl) ?_;refine aJ ?_;refine aL (bA (k + 1, eS ents (lab L (rows v)[k]) (.int .i64 ((kS L ((rows v).take k) (lab L (rows v)[k]) : Int) + 1)) c, e7 ents (lab L (rows v)[k]) c) (by first | omega | (dsimp only; omega) | (simp; omega)) ⟨by omega, hmap.put _ _, hC.next hk⟩ ?_ ?_ ?_)
   · exact (by repeat constructor)
   · exact (by repeat constructor)
   · repeat first|exact aH|refine aD ?_|refine aB rfl ?_|refine aI ?_
  ·
   refine cG ?_;refine cH ?_;clear kh6;refine cH ?_;refine eB ?_;refine aL (kh3 _ _ ?_);clear kh3;refine aK fun K9 kh9 => ?_;refine aC ?_;refine aA rfl rfl rfl (aG rfl) ?_;refine aA rfl rfl rfl (aF rfl) ?_;refine aJ ?_;refine aL (kh9 _ _ ?_);clear kh9;refine a7 ?_;exact bJ [[(b8, fU (fun x : Int => .int .i64 x) ents c)]] Tryz.results91 rfl (by repeat (first | exact aH | refine aD ?_)) ⟨b8, ents, c, rfl, rfl, hmap, by rw [List.take_of_length_le (by omega)] at hC; exact hC⟩
set_option maxRecDepth 100000 in
set_option maxHeartbeats 4000000 in
theorem next_spec (n : Nat) (rows : Nat → List Int) (L S : List Int) (bs : Nat) (Al : Option Addr) (cl bo bz : Nat) (vs : List Value) (bd : Int) (w : World) (hs : LSee n rows L S bs w Al cl bo bz vs) (hO : LOk n rows L S) :
    Meets Tryz.prog 64 [.pointer (some ⟨bs, 0, none⟩), .int .i64 bd] w [] (fun u own' => u = .tuple #[.agg (mvCs (gT L S rows bd n)).toArray, .bool (decide (0 < (gT L S rows bd n).2.2))] ∧ own' = []) := by
 obtain ⟨_, _, e1_, hSs, hcs⟩ := hs.cells (by simp)
 cases e1_
 have hn := hO.n1
 have hLn := hO.len
 have hsl := hO.slen
 refine bM Tryz.func64 rfl Tryz.ntmps64 rfl Owns.nil ?_;refine aK fun K1 kh1 => ?_;refine aC ?_;refine aU rfl rfl rfl (cV Tryz.zeroValue109 rfl fun b4 => ?_);refine aA rfl rfl rfl (aF rfl) ?_;refine aJ ?_;refine aL (kh1 _ _ ?_);clear kh1;refine aK fun K2 kh2 => ?_;refine aC ?_;refine aU rfl rfl rfl (cV Tryz.zeroValue109 rfl fun b6 => ?_);refine aJ ?_;refine aL (kh2 _ _ ?_);clear kh2;refine aK fun K3 kh3 => ?_;refine aK fun K4 kh4 => ?_;refine aC ?_;refine aA rfl rfl rfl (aG rfl) ?_;refine aA rfl rfl rfl (dS rfl) ?_;refine aA rfl rfl rfl (aP fa114_1 rfl) ?_;refine aA rfl rfl rfl (aM Tryz.isAgg30 rfl (rdS hSs (hcs 1 _ rfl))) ?_;refine aA rfl rfl rfl (bU f8 rfl) ?_;refine aA rfl rfl rfl (aG rfl) ?_;refine aJ ?_;refine aL (kh4 _ _ ?_);clear kh4;refine aZ ?_;refine cS (α := Nat) [0, 1, 4, 6, 16] (fun k => [(17, .int .i64 (k : Int))]) (fun k => [[(b4, blk [.int .i64 0, .int .i64 0, .int .i64 0] 109)], [(b6, blk (mvCs (gT L S rows bd k)) 109)]]) (fun k => k ≤ n) (fun k => n - k) (0) ?_ ?_ ?_ ?_
 · exact (by repeat constructor)
 · repeat first|exact aH|refine aD ?_|refine aB rfl ?_|refine aI ?_
 · exact Nat.zero_le _
 ·
  rintro k hkn;refine aK fun K5 kh5 => ?_;refine aC ?_;refine aA rfl rfl rfl (cE rfl rfl) ?_;refine aJ ?_;refine aL (kh5 _ _ ?_);clear kh5;refine aK fun K6 kh6 => ?_;refine a6 rfl (fun c18 => ?_) (fun c18 => ?_)
  ·
   have hk : k < n := by omega
   obtain ⟨bl, offl, rfl, hSl, hcl⟩ := hs.labs (fun e => by have := aX L; rw [e] at this; simp at this; omega)
   have hrl := hO.rlen k hk
   refine aV ?_;refine aL (kh6 _ _ ?_);clear kh6;refine aK fun K7 kh7 => ?_;refine aZ ?_;refine aK fun K8 kh8 => ?_;refine aC ?_;refine aA rfl rfl rfl (aG rfl) ?_;refine aA rfl rfl rfl (aF rfl) ?_;refine aJ ?_;refine aL (kh8 _ _ ?_);clear kh8;refine aK fun K9 kh9 => ?_;refine aC ?_;refine aA rfl rfl rfl (aG rfl) ?_;refine aA rfl rfl rfl (dS rfl) ?_;refine aA rfl rfl rfl (aP jE rfl) ?_;refine aA rfl rfl rfl (aM Tryz.isAgg25 rfl (rdS hSs (hcs 0 _ rfl))) ?_;refine aA rfl rfl rfl (aG rfl) ?_;refine aA rfl rfl rfl (a8 bK rfl rfl (offl + k) ⟨by omega, by omega, by first | omega | (simp; done) | (simp; omega)⟩) ?_;refine aA rfl rfl rfl (aM Tryz.isAgg3 rfl (show Rd _ _ _ _ _ (.int .i64 (lab L (k : Int))) by rw [j8 (by simp; omega)]; exact eD (enc := (.int .i64 ·)) hSl hcl (by omega))) ?_;refine aA rfl rfl rfl (aF rfl) ?_;refine aJ ?_;refine aL (kh9 _ _ ?_);clear kh9;refine aK fun K10 kh10 => ?_;refine aC ?_;refine aA rfl rfl rfl (aG rfl) ?_;refine aA rfl rfl rfl (aG rfl) ?_;refine aU rfl rfl rfl (bE Tryz.call91 rfl (fun w_ hp_ => aroundL_spec n rows L S bs _ cl bo bz vs k w_ (hs.up0 hp_) hO hk) ?_);rintro _ _ ⟨bm, ents, c, rfl, rfl, hmap, hC⟩;dsimp only [List.cons_append, List.nil_append];refine aA rfl rfl rfl (aF rfl) ?_;refine aJ ?_;refine aL (kh10 _ _ ?_);clear kh10;refine aK fun K11 kh11 => ?_;refine aC ?_;refine aA rfl rfl rfl (aG rfl) ?_;refine aA rfl rfl rfl (dS rfl) ?_;refine aA rfl rfl rfl (aP fa114_2 rfl) ?_;refine aA rfl rfl rfl (aM Tryz.isAgg25 rfl (rdS hSs (hcs 2 _ rfl))) ?_;refine aA rfl rfl rfl (bU bK rfl) ?_;refine aA rfl rfl rfl (aG rfl) ?_;refine aJ ?_;refine aL (kh11 _ _ ?_);clear kh11;refine aZ ?_;refine cS (α := Nat) [0, 1, 4, 6, 7, 8, 9, 16, 17, 34] (fun j => [(35, .int .i64 (j : Int))]) (fun j => [[(b4, blk [.int .i64 0, .int .i64 0, .int .i64 0] 109)], [(b6, blk (mvCs (gJ L S (rows k) bd k j (gT L S rows bd k))) 109)], [(bm, fU (fun x : Int => .int .i64 x) ents c)]]) (fun j => j ≤ S.length) (fun j => S.length - j) (0) ?_ ?_ ?_ ?_
   · exact (by repeat constructor)
   · repeat first|exact aH|refine aD ?_|refine aB rfl ?_|refine aI ?_
   · exact Nat.zero_le _
   ·
    rintro j hjn;refine fC (e := [(35, _), (0, _), (1, _), (4, _), (6, _), (7, _), (8, _), (9, _), (16, _), (17, _), (34, _)]) (by repeat constructor) ?_;refine aK fun K12 kh12 => ?_;refine aC ?_;refine aA rfl rfl rfl (cE rfl rfl) ?_;refine aJ ?_;refine aL (kh12 _ _ ?_);clear kh12;refine aK fun K13 kh13 => ?_;refine a6 rfl (fun c36 => ?_) (fun c36 => ?_)
    ·
     have hj : j < S.length := by omega
     obtain ⟨_, _, e4_, hSz, hcz⟩ := hs.size (fun e => by have := aX S; rw [e] at this; simp at this; omega)
     cases e4_
     have hn1 := ncnt_le L (rows k) (j : Int)
     have hn2 := ncnt_le L (rows k) (lab L (k : Int))
     have hSj : S.getD j 0 = S[j] := by simp [hj]
     refine aV ?_;refine aL (kh13 _ _ ?_);clear kh13;refine aK fun K14 kh14 => ?_;refine aZ ?_;refine aK fun K15 kh15 => ?_;refine aC ?_;refine aA rfl rfl rfl (aG rfl) ?_;refine aA rfl rfl rfl (aF rfl) ?_;refine aJ ?_;refine aL (kh15 _ _ ?_);clear kh15;refine aK fun K16 kh16 => ?_;refine aC ?_;refine aA rfl rfl rfl (aG rfl) ?_;refine aA rfl rfl rfl (aG rfl) ?_;refine aA rfl rfl rfl (fQ kt86 Tryz.zeroValue3 rfl rfl rfl (.int .i64 (kS L (rows k) (j : Int) : Int)) (hC _)) ?_;refine aA rfl rfl rfl (aG rfl) ?_;refine aA rfl rfl rfl (aG rfl) ?_;refine aA rfl rfl rfl (fQ kt86 Tryz.zeroValue3 rfl rfl rfl (.int .i64 (kS L (rows k) (lab L (k : Int)) : Int)) (hC _)) ?_;refine aA rfl rfl rfl (gW rfl rfl _ (Eq.trans (aT (by omega)) (show _ = gn L (rows k) (lab L (k : Int)) (j : Int) from rfl))) ?_;refine aA rfl rfl rfl (aF rfl) ?_;refine aJ ?_;refine aL (kh16 _ _ ?_);clear kh16;refine aK fun K17 kh17 => ?_;refine aC ?_;refine aA rfl rfl rfl (aG rfl) ?_;refine aA rfl rfl rfl (aG rfl) ?_;refine aA rfl rfl rfl (dC rfl rfl) ?_;refine aA rfl rfl rfl (aG rfl) ?_;refine cT 48 rfl (fun g48 => ?_) (fun g48 => ?_)
     ·
      refine aQ rfl rfl rfl rfl rfl (aG rfl) ?_;refine aQ rfl rfl rfl rfl rfl (aG rfl) ?_;refine aQ rfl rfl rfl rfl rfl (fQ kt86 Tryz.zeroValue3 rfl rfl rfl (.int .i64 (kS L (rows k) (j : Int) : Int)) (hC _)) ?_;refine aQ rfl rfl rfl rfl rfl (eL rfl rfl) ?_;refine aA rfl rfl rfl (bX rfl rfl) ?_;refine aA rfl rfl rfl (aG rfl) ?_;refine cT 54 rfl (fun g54 => ?_) (fun g54 => ?_)
      ·
       refine aQ rfl rfl rfl rfl rfl (aG rfl) ?_;refine aQ rfl rfl rfl rfl rfl (dS rfl) ?_;refine aQ rfl rfl rfl rfl rfl (aP fa114_2 rfl) ?_;refine aQ rfl rfl rfl rfl rfl (aM Tryz.isAgg25 rfl (rdS hSs (hcs 2 _ rfl))) ?_;refine aQ rfl rfl rfl rfl rfl (aG rfl) ?_;refine aQ rfl rfl rfl rfl rfl (a8 bK rfl rfl (0 + j) ⟨by omega, by omega, by first | omega | (simp; done) | (simp; omega)⟩) ?_;refine aQ rfl rfl rfl rfl rfl (aM Tryz.isAgg3 rfl (eD (enc := (.int .i64 ·)) hSz hcz hj)) ?_;refine aQ rfl rfl rfl rfl rfl (aG rfl) ?_;refine aQ rfl rfl rfl rfl rfl (cE rfl rfl) ?_;refine aA rfl rfl rfl (bX rfl rfl) ?_;refine aA rfl rfl rfl (aG rfl) ?_;refine cT 65 rfl (fun g65 => ?_) (fun g65 => ?_)
       ·
        refine aQ rfl rfl rfl rfl rfl (aG rfl) ?_;refine aQ rfl rfl rfl rfl rfl (aP fa109_2 rfl) ?_;refine aQ rfl rfl rfl rfl rfl (aM Tryz.isAgg3 rfl (rdA rfl)) ?_;refine aQ rfl rfl rfl rfl rfl (eL rfl rfl) ?_;refine aA rfl rfl rfl (bX rfl rfl) ?_;refine aJ ?_;refine aL (kh17 _ _ ?_);clear kh17;refine a6 rfl (fun c70 => ?_) (fun c70 => ?_)
        ·
         refine aC ?_;refine aA rfl rfl rfl (aG rfl) ?_;refine aA rfl rfl rfl (aG rfl) ?_;refine aA rfl rfl rfl (aG rfl) ?_;refine aA rfl rfl rfl (dI (cs := mvCs ((k : Int), (j : Int), gn L (rows k) (lab L (k : Int)) (j : Int))) st109 rfl rfl) ?_;refine bH rfl rfl (cN Tryz.sizeOf109 rfl rfl rfl rfl (by first | exact Nat.le_of_ble_eq_true rfl | (simp; done) | (simp; omega)) (mvCs ((k : Int), (j : Int), gn L (rows k) (lab L (k : Int)) (j : Int))) rfl ?_);refine aJ ?_;refine cU ?_;refine aL (kh14 _ _ ?_);clear kh14;have hup : gJ L S (rows k) bd k (j + 1) (gT L S rows bd k) = ((k : Int), (j : Int), gn L (rows k) (lab L (k : Int)) (j : Int)) := by rw [hG, mvUp, if_pos ⟨by omega, by omega, by omega, by omega⟩]
         refine iK b6 (mvCs (gJ L S (rows k) bd k (j + 1) (gT L S rows bd k))) (by rw [hup]) ?_;refine aC ?_;refine aA rfl rfl rfl (bF rfl rfl _ (aT (by omega))) ?_;refine aA rfl rfl rfl (aG rfl) ?_;refine aJ ?_;refine aL (bA (j + 1) (by first | omega | (dsimp only; omega) | (simp; omega)) (by omega) ?_ ?_ ?_)
         · exact (by repeat constructor)
         · exact (by repeat constructor)
         · repeat first|exact aH|refine aD ?_|refine aB rfl ?_|refine aI ?_
        ·
         refine aV ?_;refine cU ?_;refine aL (kh14 _ _ ?_);clear kh14;have hup : gJ L S (rows k) bd k (j + 1) (gT L S rows bd k) = gJ L S (rows k) bd k j (gT L S rows bd k) := by rw [hG, mvUp, if_neg (by rintro ⟨h1, h2, h3, h4⟩; omega)]
         refine iK b6 (mvCs (gJ L S (rows k) bd k (j + 1) (gT L S rows bd k))) (by rw [hup]) ?_;refine aC ?_;refine aA rfl rfl rfl (bF rfl rfl _ (aT (by omega))) ?_;refine aA rfl rfl rfl (aG rfl) ?_;refine aJ ?_;refine aL (bA (j + 1) (by first | omega | (dsimp only; omega) | (simp; omega)) (by omega) ?_ ?_ ?_)
         · exact (by repeat constructor)
         · exact (by repeat constructor)
         · repeat first|exact aH|refine aD ?_|refine aB rfl ?_|refine aI ?_
       ·
        refine aR rfl rfl rfl rfl rfl rfl ?_;refine aR rfl rfl rfl rfl rfl rfl ?_;refine aR rfl rfl rfl rfl rfl rfl ?_;refine aR rfl rfl rfl rfl rfl rfl ?_;refine aA rfl rfl rfl (cL rfl rfl) ?_;refine aJ ?_;refine aL (kh17 _ _ ?_);clear kh17;refine gZ rfl ?_;refine aV ?_;refine cU ?_;refine aL (kh14 _ _ ?_);clear kh14;have hup : gJ L S (rows k) bd k (j + 1) (gT L S rows bd k) = gJ L S (rows k) bd k j (gT L S rows bd k) := by rw [hG, mvUp, if_neg (by rintro ⟨h1, h2, h3, h4⟩; omega)]
        refine iK b6 (mvCs (gJ L S (rows k) bd k (j + 1) (gT L S rows bd k))) (by rw [hup]) ?_;refine aC ?_;refine aA rfl rfl rfl (bF rfl rfl _ (aT (by omega))) ?_;refine aA rfl rfl rfl (aG rfl) ?_;refine aJ ?_;refine aL (bA (j + 1) (by first | omega | (dsimp only; omega) | (simp; omega)) (by omega) ?_ ?_ ?_)
        · exact (by repeat constructor)
        · exact (by repeat constructor)
        · repeat first|exact aH|refine aD ?_|refine aB rfl ?_|refine aI ?_
      ·
       refine aR rfl rfl rfl rfl rfl rfl ?_;refine aR rfl rfl rfl rfl rfl rfl ?_;refine aR rfl rfl rfl rfl rfl rfl ?_;refine aR rfl rfl rfl rfl rfl rfl ?_;refine aR rfl rfl rfl rfl rfl rfl ?_;refine aR rfl rfl rfl rfl rfl rfl ?_;refine aR rfl rfl rfl rfl rfl rfl ?_;refine aR rfl rfl rfl rfl rfl rfl ?_;refine aR rfl rfl rfl rfl rfl rfl ?_;refine aA rfl rfl rfl (cL rfl rfl) ?_;refine aA rfl rfl rfl (aG rfl) ?_;refine aR rfl rfl rfl rfl rfl rfl ?_;refine aR rfl rfl rfl rfl rfl rfl ?_;refine aR rfl rfl rfl rfl rfl rfl ?_;refine aR rfl rfl rfl rfl rfl rfl ?_;refine aA rfl rfl rfl (cL rfl rfl) ?_;refine aJ ?_;refine aL (kh17 _ _ ?_);clear kh17;refine gZ rfl ?_;refine aV ?_;refine cU ?_;refine aL (kh14 _ _ ?_);clear kh14;have hup : gJ L S (rows k) bd k (j + 1) (gT L S rows bd k) = gJ L S (rows k) bd k j (gT L S rows bd k) := by rw [hG, mvUp, if_neg (by rintro ⟨h1, h2, h3, h4⟩; omega)]
       refine iK b6 (mvCs (gJ L S (rows k) bd k (j + 1) (gT L S rows bd k))) (by rw [hup]) ?_;refine aC ?_;refine aA rfl rfl rfl (bF rfl rfl _ (aT (by omega))) ?_;refine aA rfl rfl rfl (aG rfl) ?_;refine aJ ?_;refine aL (bA (j + 1) (by first | omega | (dsimp only; omega) | (simp; omega)) (by omega) ?_ ?_ ?_)
       · exact (by repeat constructor)
       · exact (by repeat constructor)
       · repeat first|exact aH|refine aD ?_|refine aB rfl ?_|refine aI ?_
     ·
      refine aR rfl rfl rfl rfl rfl rfl ?_;refine aR rfl rfl rfl rfl rfl rfl ?_;refine aR rfl rfl rfl rfl rfl rfl ?_;refine aR rfl rfl rfl rfl rfl rfl ?_;refine aA rfl rfl rfl (cL rfl rfl) ?_;refine aA rfl rfl rfl (aG rfl) ?_;refine aR rfl rfl rfl rfl rfl rfl ?_;refine aR rfl rfl rfl rfl rfl rfl ?_;refine aR rfl rfl rfl rfl rfl rfl ?_;refine aR rfl rfl rfl rfl rfl rfl ?_;refine aR rfl rfl rfl rfl rfl rfl ?_;refine aR rfl rfl rfl rfl rfl rfl ?_;refine aR rfl rfl rfl rfl rfl rfl ?_;refine aR rfl rfl rfl rfl rfl rfl ?_;refine aR rfl rfl rfl rfl rfl rfl ?_;refine aA rfl rfl rfl (cL rfl rfl) ?_;refine aA rfl rfl rfl (aG rfl) ?_;refine aR rfl rfl rfl rfl rfl rfl ?_;refine aR rfl rfl rfl rfl rfl rfl ?_;refine aR rfl rfl rfl rfl rfl rfl ?_;refine aR rfl rfl rfl rfl rfl rfl ?_;refine aA rfl rfl rfl (cL rfl rfl) ?_;refine aJ ?_;refine aL (kh17 _ _ ?_);clear kh17;refine gZ rfl ?_;refine aV ?_;refine cU ?_;refine aL (kh14 _ _ ?_);clear kh14;have hup : gJ L S (rows k) bd k (j + 1) (gT L S rows bd k) = gJ L S (rows k) bd k j (gT L S rows bd k) := by rw [hG, mvUp, if_neg (by rintro ⟨h1, h2, h3, h4⟩; omega)]
      refine iK b6 (mvCs (gJ L S (rows k) bd k (j + 1) (gT L S rows bd k))) (by rw [hup]) ?_;refine aC ?_;refine aA rfl rfl rfl (bF rfl rfl _ (aT (by omega))) ?_;refine aA rfl rfl rfl (aG rfl) ?_;refine aJ ?_;refine aL (bA (j + 1) (by first | omega | (dsimp only; omega) | (simp; omega)) (by omega) ?_ ?_ ?_)
      · exact (by repeat constructor)
      · exact (by repeat constructor)
      · repeat first|exact aH|refine aD ?_|refine aB rfl ?_|refine aI ?_
    ·
     have hj' : j = S.length := by omega
     refine iK b6 (mvCs (gT L S rows bd (k + 1))) (by rw [mvTo_next, hj']) ?_;refine cG ?_;refine cH ?_;clear kh13;refine cH ?_;refine eB ?_;refine cU ?_;refine aL (kh7 _ _ ?_);clear kh7;refine aC ?_;refine aA rfl rfl rfl (bF rfl rfl _ (aT (by omega))) ?_;refine aA rfl rfl rfl (aG rfl) ?_;refine aJ ?_;refine aL (bA (k + 1) (by first | omega | (dsimp only; omega) | (simp; omega)) (by omega) ?_ ?_ ?_)
     · exact (by repeat constructor)
     · exact (by repeat constructor)
     · repeat first|exact aH|refine aD ?_|refine aB rfl ?_|refine aI ?_
  ·
   refine cG ?_;refine cH ?_;clear kh6;refine cH ?_;refine eB ?_;refine aL (kh3 _ _ ?_);clear kh3;refine aK fun K18 kh18 => ?_;obtain rfl : k = n := by omega
   refine dF [[(b6, blk (mvCs (gT L S rows bd k)) 109)]] rfl ?_;refine aS 0 rfl (by decide +kernel) rfl rfl rfl (by repeat first|exact aH|refine aD ?_|refine aB rfl ?_|refine aI ?_) (bD (vs := [_, _, _]) Tryz.isAgg109 Tryz.sizeOf109 rfl rfl ⟨(rdA rfl), (rdA rfl), (rdA rfl), trivial⟩) ?_;refine aS 1 rfl (by decide +kernel) rfl rfl rfl (by repeat first|exact aH|refine aD ?_|refine aB rfl ?_|refine aI ?_) (aP fa109_2 rfl) ?_;refine aS 2 rfl (by decide +kernel) rfl rfl rfl (by repeat first|exact aH|refine aD ?_|refine aB rfl ?_|refine aI ?_) (aM Tryz.isAgg3 rfl (rdA rfl)) ?_;refine aS 3 rfl (by decide +kernel) rfl rfl rfl (by repeat first|exact aH|refine aD ?_|refine aB rfl ?_|refine aI ?_) (eL rfl rfl) ?_;refine eI 4 rfl (by decide +kernel) rfl rfl (cN Tryz.sizeOf109 rfl rfl rfl rfl (by first | exact Nat.le_of_ble_eq_true rfl | (simp; done) | (simp; omega)) (mvCs (gT L S rows bd k)) rfl ⟨(by repeat first|exact aH|refine aD ?_|refine aB rfl ?_|refine aI ?_), ?_⟩);refine bP 5 rfl (by decide +kernel) rfl rfl rfl ((aF rfl).does ⟨(by repeat first|exact aH|refine aD ?_|refine aB rfl ?_|refine aI ?_), ?_⟩);refine dB (by decide +kernel) ?_;refine aL (kh18 _ _ ?_);clear kh18;refine a7 ?_;exact f_fin2c (vs := mvCs (gT L S rows bd k)) [] Tryz.results64 rfl Tryz.isAgg109 Tryz.sizeOf109 rfl ⟨(rdA rfl), (rdA rfl), (rdA rfl), trivial⟩ rfl aH ⟨rfl, rfl⟩
set_option maxRecDepth 100000 in
set_option maxHeartbeats 4000000 in
theorem do_spec (n : Nat) (rows : Nat → List Int) (L S : List Int) (bs : Nat) (m : Seg) (v j : Nat) (g : Int) (w : World) (hS : LRep n rows L S bs m) (hO : LOk n rows L S) (hv : v < n) (hj : j < S.length) (ho : Owns w [m]) :
    Meets Tryz.prog 65 [.pointer (some ⟨bs, 0, none⟩), .agg (mvCs ((v : Int), (j : Int), g)).toArray] w [m] (fun u own' => ∃ m', own' = [m'] ∧ LRep n rows (tdy (L.set v (j : Int))) (szs (sns (L.set v (j : Int))).length (tdy (L.set v (j : Int)))) bs m') := by
 refine bM Tryz.func65 rfl Tryz.ntmps65 rfl ho ?_;obtain ⟨Al, cl, ml, bo, vs, ms, bz, hm, hlo, hrw⟩ := hS
 refine fZ (Sub.of_perm hm) ?_
 unfold kX
 have hLn := hO.len
 have hn1 := hO.n1
 obtain ⟨bl, spl, rfl, rfl⟩ := hlo.at_ (by omega)
 obtain ⟨L2, hL2⟩ : ∃ L2, L2 = L.set v (j : Int) := ⟨_, rfl⟩
 rw [← hL2];have hL2n : L2.length = n := by rw [hL2, List.length_set]; exact hLn
 refine aK fun K1 kh1 => ?_;refine aC ?_;refine aU rfl rfl rfl (dA rfl rfl fun b3 => ?_);refine aJ ?_;refine aL (kh1 _ _ ?_);clear kh1;refine aK fun K2 kh2 => ?_;refine dF [[(bs, blk [.slice (some ⟨bl, 0, none⟩) L.length cl, .slice (some ⟨bo, 0, none⟩) n n, .slice (some ⟨bz, 0, none⟩) S.length S.length] 114)], [(b3, blk (mvCs ((v : Int), (j : Int), g)) 109)]] rfl ?_;refine aS 0 rfl (by decide +kernel) rfl rfl rfl (by repeat first|exact aH|refine aD ?_|refine aB rfl ?_|refine aI ?_) (aG rfl) ?_;refine aS 1 rfl (by decide +kernel) rfl rfl rfl (by repeat first|exact aH|refine aD ?_|refine aB rfl ?_|refine aI ?_) (dS rfl) ?_;refine aS 2 rfl (by decide +kernel) rfl rfl rfl (by repeat first|exact aH|refine aD ?_|refine aB rfl ?_|refine aI ?_) (aP jE rfl) ?_;refine aS 3 rfl (by decide +kernel) rfl rfl rfl (by repeat first|exact aH|refine aD ?_|refine aB rfl ?_|refine aI ?_) (aM Tryz.isAgg25 rfl (rdA rfl)) ?_;refine aS 4 rfl (by decide +kernel) rfl rfl rfl (by repeat first|exact aH|refine aD ?_|refine aB rfl ?_|refine aI ?_) (aP fa109_0 rfl) ?_;refine aS 5 rfl (by decide +kernel) rfl rfl rfl (by repeat first|exact aH|refine aD ?_|refine aB rfl ?_|refine aI ?_) (aM Tryz.isAgg3 rfl (rdA rfl)) ?_;refine aS 6 rfl (by decide +kernel) rfl rfl rfl (by repeat first|exact aH|refine aD ?_|refine aB rfl ?_|refine aI ?_) (aP fa109_1 rfl) ?_;refine aS 7 rfl (by decide +kernel) rfl rfl rfl (by repeat first|exact aH|refine aD ?_|refine aB rfl ?_|refine aI ?_) (aM Tryz.isAgg3 rfl (rdA rfl)) ?_;refine aS 8 rfl (by decide +kernel) rfl rfl rfl (by repeat first|exact aH|refine aD ?_|refine aB rfl ?_|refine aI ?_) (a8 bK rfl rfl (v) ⟨by omega, by omega, by first | omega | (simp; done) | (simp; omega)⟩) ?_;refine eI 9 rfl (by decide +kernel) rfl rfl (bY Tryz.sizeOf3 rfl rfl rfl rfl (by rw [List.length_append, aX]; omega) (aY L2 ++ spl) (by rw [hL2, List.set_append_left _ _ (by rw [aX]; omega)]; simp [aY, List.map_set]) ⟨(by repeat first|exact aH|refine aD ?_|refine aB rfl ?_|refine aI ?_), ?_⟩);refine dB (by decide +kernel) ?_;refine aL (kh2 _ _ ?_);clear kh2;refine aK fun K3 kh3 => ?_;refine aC ?_;refine aU rfl rfl rfl (iA fun b20 => ?_);refine aA rfl rfl rfl (aF rfl) ?_;refine aJ ?_;refine aL (kh3 _ _ ?_);clear kh3;refine aK fun K4 kh4 => ?_;refine aK fun K5 kh5 => ?_;refine aC ?_;refine aA rfl rfl rfl (aG rfl) ?_;refine aA rfl rfl rfl (dS rfl) ?_;refine aA rfl rfl rfl (aP jE rfl) ?_;refine aA rfl rfl rfl (aM Tryz.isAgg25 rfl (rdA rfl)) ?_
 refine aA rfl rfl rfl (bU bK rfl) ?_;refine aA rfl rfl rfl (aG rfl) ?_;refine aJ ?_;refine aL (kh5 _ _ ?_);clear kh5;refine aZ ?_;refine cS (α := Nat × List (Int × Value × Nat) × Nat) [0, 4, 24, 25] (fun ⟨k, ents, c⟩ => [(26, .int .i64 (k : Int))]) (fun ⟨k, ents, c⟩ => [[(bs, blk [.slice (some ⟨bl, 0, none⟩) L.length cl, .slice (some ⟨bo, 0, none⟩) n n, .slice (some ⟨bz, 0, none⟩) S.length S.length] 114)], [(bl, blk (aY (i1 L2 k) ++ spl) 3)], [(bo, blk vs 25)], ms.flatten, [(b20, fU (fun x : Int => .int .i64 x) ents c)]]) (fun ⟨k, ents, c⟩ => k ≤ n ∧ MOk ents c ∧ Nums (sns (L2.take k)) ents) (fun ⟨k, ents, c⟩ => n - k) (0, [], 0) ?_ ?_ ?_ ?_
 · exact (by repeat constructor)
 · dsimp only
   rw [tdyTo_zero]
   repeat first|exact aH|refine aD ?_|refine aB rfl ?_|refine aI ?_
 · exact ⟨by omega, MOk.nil, Nums.nil⟩
 ·
  rintro ⟨k, ents, c⟩ ⟨hkn, hmap, hNm⟩;refine aK fun K6 kh6 => ?_;refine aC ?_;refine aA rfl rfl rfl (cE rfl rfl) ?_;refine aJ ?_;refine aL (kh6 _ _ ?_);clear kh6;refine aK fun K7 kh7 => ?_;refine a6 rfl (fun c27 => ?_) (fun c27 => ?_)
  ·
   have hk : k < L2.length := by omega
   have hsn := jL hk
   have hsl := sns_len (L := L2) (k := k) (by omega)
   refine aV ?_;refine aL (kh7 _ _ ?_);clear kh7;refine aK fun K8 kh8 => ?_;refine aZ ?_;refine aK fun K9 kh9 => ?_;refine aC ?_;refine aA rfl rfl rfl (aG rfl) ?_;refine aA rfl rfl rfl (a8 bK rfl rfl (k) ⟨by omega, by omega, by first | omega | (simp; done) | (simp; omega)⟩) ?_;refine aA rfl rfl rfl (aM Tryz.isAgg3 rfl (rdA (v := .int .i64 L2[k]) (dP (by rw [dO (by rw [fN]; exact hk), tdyTo_get hk])))) ?_;refine aA rfl rfl rfl (aF rfl) ?_;refine aA rfl rfl rfl (aF rfl) ?_;refine aJ ?_;refine aL (kh9 _ _ ?_);clear kh9;refine aK fun K10 kh10 => ?_;refine aC ?_;refine aA rfl rfl rfl (aG rfl) ?_;refine aA rfl rfl rfl (aG rfl) ?_;refine aA rfl rfl rfl (o_lookup2 kt86 Tryz.zeroValue3 rfl rfl rfl (.int .i64 (if L2[k] ∈ sns (L2.take k) then (((sns (L2.take k)).idxOf L2[k] : Nat) : Int) else 0)) (by rw [hNm.2]; split <;> rfl) (decide (L2[k] ∈ sns (L2.take k))) (by rw [hNm.2]; split <;> simp_all)) ?_;refine aA rfl rfl rfl (aG rfl) ?_;refine aA rfl rfl rfl (aW rfl rfl) ?_;refine aA rfl rfl rfl (aW rfl rfl) ?_;refine aA rfl rfl rfl (aF rfl) ?_;refine aA rfl rfl rfl (aF rfl) ?_;refine aJ ?_;refine aL (kh10 _ _ ?_);clear kh10;refine aK fun K11 kh11 => ?_;refine aK fun K12 kh12 => ?_;refine aC ?_;refine aA rfl rfl rfl (aG rfl) ?_;refine aA rfl rfl rfl (kR rfl) ?_;refine aJ ?_;refine aL (kh12 _ _ ?_);clear kh12;refine e9 rfl (fun c38 => ?_) (fun c38 => ?_)
   ·
    have hx : L2[k] ∉ sns (L2.take k) := by simpa using c38
    rw [if_neg hx] at hsn;have hjt : ents.length = (sns (L2.take (k + 1))).idxOf L2[k] := by rw [hsn, List.idxOf_append, if_neg hx, hNm.1]; simp
    refine aK fun K13 kh13 => ?_;refine aC ?_;refine aA rfl rfl rfl (aG rfl) ?_;refine aA rfl rfl rfl (o_lenM kt86.und rfl) ?_;refine aA rfl rfl rfl (aF rfl) ?_;refine aJ ?_;refine aL (kh13 _ _ ?_);clear kh13;refine aC ?_;refine aA rfl rfl rfl (aG rfl) ?_;refine aA rfl rfl rfl (aG rfl) ?_;refine aA rfl rfl rfl (aG rfl) ?_;refine bH rfl rfl (gG kt86 rfl rfl rfl rfl ?_);refine aJ ?_;refine aL (kh11 _ _ ?_);clear kh11;refine aC ?_;refine aA rfl rfl rfl (aG rfl) ?_;refine aA rfl rfl rfl (dS rfl) ?_;refine aA rfl rfl rfl (aP jE rfl) ?_;refine aA rfl rfl rfl (aM Tryz.isAgg25 rfl (rdA rfl)) ?_;refine aA rfl rfl rfl (aG rfl) ?_;refine aA rfl rfl rfl (aG rfl) ?_;refine aA rfl rfl rfl (a8 bK rfl rfl (k) ⟨by omega, by omega, by first | omega | (simp; done) | (simp; omega)⟩) ?_;refine bH rfl rfl (bY Tryz.sizeOf3 rfl rfl rfl rfl (by rw [List.length_append, aX, fN]; omega) (aY (i1 L2 (k + 1)) ++ spl) (by rw [k8 hk hjt, List.set_append_left _ _ (by rw [aX, fN]; omega)]; simp [aY, List.map_set]) ?_);refine aJ ?_;refine cU ?_;refine aL (kh8 _ _ ?_);clear kh8;refine aC ?_;refine aA rfl rfl rfl (bF rfl rfl _ (aT (by omega))) ?_;refine aA rfl rfl rfl (aG rfl) ?_;refine aJ ?_;refine aL (bA (k + 1, eS ents L2[k] (.int .i64 (ents.length : Int)) c, e7 ents L2[k] c) (by first | omega | (dsimp only; omega) | (simp; omega)) ⟨by omega, hmap.put _ _, by rw [hsn]; have := hNm.add hx c; rw [← hNm.1] at this; exact this⟩ ?_ ?_ ?_)
    · exact (by repeat constructor)
    · exact (by repeat constructor)
    · repeat first|exact aH|refine aD ?_|refine aB rfl ?_|refine aI ?_
   ·
    have hx : L2[k] ∈ sns (L2.take k) := by simpa using c38
    rw [if_pos hx] at hsn;have hjf : (sns (L2.take k)).idxOf L2[k] = (sns (L2.take (k + 1))).idxOf L2[k] := by rw [hsn]
    refine f_reC 7 rfl (v := .int .i64 (((sns (L2.take k)).idxOf L2[k] : Nat) : Int)) (by rw [if_pos hx]) ?_;refine aV ?_;refine aL (kh11 _ _ ?_);clear kh11;refine aC ?_;refine aA rfl rfl rfl (aG rfl) ?_;refine aA rfl rfl rfl (dS rfl) ?_;refine aA rfl rfl rfl (aP jE rfl) ?_;refine aA rfl rfl rfl (aM Tryz.isAgg25 rfl (rdA rfl)) ?_;refine aA rfl rfl rfl (aG rfl) ?_;refine aA rfl rfl rfl (aG rfl) ?_;refine aA rfl rfl rfl (a8 bK rfl rfl (k) ⟨by omega, by omega, by first | omega | (simp; done) | (simp; omega)⟩) ?_;refine bH rfl rfl (bY Tryz.sizeOf3 rfl rfl rfl rfl (by rw [List.length_append, aX, fN]; omega) (aY (i1 L2 (k + 1)) ++ spl) (by rw [k8 hk hjf, List.set_append_left _ _ (by rw [aX, fN]; omega)]; simp [aY, List.map_set]) ?_);refine aJ ?_;refine cU ?_;refine aL (kh8 _ _ ?_);clear kh8;refine aC ?_;refine aA rfl rfl rfl (bF rfl rfl _ (aT (by omega))) ?_;refine aA rfl rfl rfl (aG rfl) ?_;refine aJ ?_;refine aL (bA (k + 1, ents, c) (by first | omega | (dsimp only; omega) | (simp; omega)) ⟨by omega, hmap, by rw [hsn]; exact hNm⟩ ?_ ?_ ?_)
    · exact (by repeat constructor)
    · exact (by repeat constructor)
    · repeat first|exact aH|refine aD ?_|refine aB rfl ?_|refine aI ?_
  ·
   refine cG ?_;refine cH ?_;clear kh7;refine cH ?_;refine eB ?_;refine aL (kh4 _ _ ?_);clear kh4;refine aK fun K14 kh14 => ?_;have hkn' : k = n := by omega
   rw [List.take_of_length_le (by omega)] at hNm;have hel := hNm.1
   have hsl := sns_len (L := L2) (k := k) (by omega)
   rw [List.take_of_length_le (by omega)] at hsl;refine iK bl (aY (tdy L2) ++ spl) (by rw [hkn', ← hL2n, tdyTo_all]) ?_;refine aC ?_;refine aA rfl rfl rfl (aG rfl) ?_;refine aA rfl rfl rfl (aG rfl) ?_;refine aA rfl rfl rfl (o_lenM kt86.und rfl) ?_;refine aU rfl rfl rfl (dQ dR rfl rfl ents.length rfl (by omega) (by omega) (aY (szs ents.length [])) (by rw [szs_nil]; simp [aY, List.flatten_replicate_singleton]) fun b55 => ?_);refine aA rfl rfl rfl (dS rfl) ?_;refine aA rfl rfl rfl (aP fa114_2 rfl) ?_;refine bH rfl rfl (bY Tryz.sizeOf25 rfl rfl rfl rfl (by first | exact Nat.le_of_ble_eq_true rfl | (simp; done) | (simp; omega)) [.slice (some ⟨bl, 0, none⟩) L.length cl, .slice (some ⟨bo, 0, none⟩) n n, .slice (some ⟨b55, 0, none⟩) ents.length ents.length] rfl ?_);refine aJ ?_;refine aL (kh14 _ _ ?_);clear kh14;refine aK fun K15 kh15 => ?_;refine aC ?_;refine aA rfl rfl rfl (aG rfl) ?_;refine aA rfl rfl rfl (dS rfl) ?_;refine aA rfl rfl rfl (aP jE rfl) ?_;refine aA rfl rfl rfl (aM Tryz.isAgg25 rfl (rdA rfl)) ?_;refine aA rfl rfl rfl (bU bK rfl) ?_;refine aA rfl rfl rfl (aG rfl) ?_;refine aJ ?_;refine aL (kh15 _ _ ?_);clear kh15;refine aZ ?_;refine cS (α := Nat) [0, 61, 62] (fun q => [(63, .int .i64 (q : Int))]) (fun q => [[(bs, blk [.slice (some ⟨bl, 0, none⟩) L.length cl, .slice (some ⟨bo, 0, none⟩) n n, .slice (some ⟨b55, 0, none⟩) ents.length ents.length] 114)], [(bl, blk (aY (tdy L2) ++ spl) 3)], [(bo, blk vs 25)], ms.flatten, [(b55, blk (aY (szs ents.length ((tdy L2).take q))) 3)]]) (fun q => q ≤ n) (fun q => n - q) (0) ?_ ?_ ?_ ?_
   · exact (by repeat constructor)
   · repeat first|exact aH|refine aD ?_|refine aB rfl ?_|refine aI ?_
   · exact Nat.zero_le _
   ·
    rintro q hqn;refine fC (e := [(63, _), (0, _), (61, _), (62, _)]) (by repeat constructor) ?_;refine aK fun K16 kh16 => ?_;refine aC ?_;refine aA rfl rfl rfl (cE rfl rfl) ?_;refine aJ ?_;refine aL (kh16 _ _ ?_);clear kh16;refine aK fun K17 kh17 => ?_;refine a6 rfl (fun c64 => ?_) (fun c64 => ?_)
    ·
     have hq : q < (tdy L2).length := by rw [eM]; omega
     have hyr := tdy_rng _ (List.getElem_mem hq)
     obtain ⟨y, hy⟩ : ∃ y : Nat, (tdy L2)[q] = (y : Int) := ⟨(tdy L2)[q].toNat, by omega⟩
     have hyM : y < ents.length := by omega
     have hcl := cnt_le ((tdy L2).take q) y
     rw [List.length_take] at hcl;refine aV ?_;refine aL (kh17 _ _ ?_);clear kh17;refine aK fun K18 kh18 => ?_;refine aZ ?_;refine aK fun K19 kh19 => ?_;refine aC ?_;refine aA rfl rfl rfl (a8 bK rfl rfl (q) ⟨by omega, by omega, by first | omega | (simp; done) | (simp; omega)⟩) ?_;refine aA rfl rfl rfl (aM Tryz.isAgg3 rfl (rdA (v := .int .i64 (y : Int)) (dP (by rw [dO hq, hy])))) ?_;refine aA rfl rfl rfl (aF rfl) ?_;refine aJ ?_;refine aL (kh19 _ _ ?_);clear kh19;refine aC ?_;refine aA rfl rfl rfl (aG rfl) ?_;refine aA rfl rfl rfl (dS rfl) ?_;refine aA rfl rfl rfl (aP fa114_2 rfl) ?_;refine aA rfl rfl rfl (aM Tryz.isAgg25 rfl (rdA rfl)) ?_;refine aA rfl rfl rfl (aG rfl) ?_;refine aA rfl rfl rfl (a8 bK rfl rfl (y) ⟨by omega, by omega, by first | omega | (simp; done) | (simp; omega)⟩) ?_;refine aA rfl rfl rfl (aM Tryz.isAgg3 rfl (rdA (v := .int .i64 (cnt ((tdy L2).take q) y : Int)) (by rw [dO (by rw [eQ]; exact hyM), iE hyM]))) ?_;refine aA rfl rfl rfl (bF rfl rfl _ (aT (by omega))) ?_;refine aA rfl rfl rfl (a8 bK rfl rfl (y) ⟨by omega, by omega, by first | omega | (simp; done) | (simp; omega)⟩) ?_;refine bH rfl rfl (bY Tryz.sizeOf3 rfl rfl rfl rfl (by rw [aX, eQ]; omega) (aY (szs ents.length ((tdy L2).take (q + 1)))) (by rw [szs_next hq hy hyM]; simp [aY]) ?_);refine aJ ?_;refine cU ?_;refine aL (kh18 _ _ ?_);clear kh18;refine aC ?_;refine aA rfl rfl rfl (bF rfl rfl _ (aT (by omega))) ?_;refine aA rfl rfl rfl (aG rfl) ?_;refine aJ ?_;refine aL (bA (q + 1) (by first | omega | (dsimp only; omega) | (simp; omega)) (by omega) ?_ ?_ ?_)
     · exact (by repeat constructor)
     · exact (by repeat constructor)
     · repeat first|exact aH|refine aD ?_|refine aB rfl ?_|refine aI ?_
    ·
     refine cG ?_;refine cH ?_;clear kh17;refine cH ?_;refine eB ?_;rw [List.take_of_length_le (by rw [eM]; omega)];exact f_fin0n [(kX bs (some ⟨bl, 0, none⟩) cl (tdy L2) [(bl, blk (aY (tdy L2) ++ spl) 3)] bo n vs ms.flatten b55 (szs ents.length (tdy L2))).flatten] Tryz.results65 (Sub.flat (by unfold kX; rw [eM, eQ, show L2.length = L.length by omega]; repeat (first | exact aH | refine aD ?_))) ⟨_, rfl, by rw [← hel]; exact ⟨_, cl, _, bo, vs, ms, b55, List.Perm.refl _, own_ints hlo (by rw [eM]; omega), hrw⟩⟩
end Go.Proofs.YtjjogcnjcnpehaaGreat

/- graph.Out, graph.In: the arcs out of a vertex, and into it. -/
namespace Go.Proofs.YtjjogcnjcnpehaaGreat
open Go Go.RowKit Fly
set_option linter.unusedVariables false
set_option linter.unusedSimpArgs false
theorem glooked_zero {N : Int} {l : List Arc} {v : Int} (h : gP N l v = 0) : (bG N l).2 = 0 ∧ 0 ≤ v ∧ v < N := by
  unfold gP at h
  split at h
  · rename_i h1; exact absurd h h1
  · split at h
    · simp at h
    · rename_i h1 h2; exact ⟨by simpa using h1, by omega, by omega⟩
end Go.Proofs.YtjjogcnjcnpehaaGreat

/- graph.Neighbours. -/
namespace Go.Proofs.YtjjogcnjcnpehaaGreat
open Go Go.RowKit Fly
set_option linter.unusedVariables false
set_option linter.unusedSimpArgs false
/-- The answer of Neighbours. -/
def NbΦ (N : Int) (l : List Arc) (v : Int) (u : Value) (own : List Seg) : Prop :=
  ∃ A W c m, u = .tuple #[.slice A W.length W.length, .int .i64 (gP N l v)] ∧ own = [m] ∧ Own 3 1 (.slice A W.length c) W.length (aY W) m ∧ W = if gP N l v = 0 then bV v l else []
set_option maxRecDepth 100000 in
set_option maxHeartbeats 4000000 in
theorem Neighbours_spec (N : Int) (A : Option Addr) (l : List Arc) (cap : Nat) (v : Int) (w : World) (hr : Ro (Fr w []) w A (l.flatMap cD)) (hl : l.length ≤ 9223372036854775807) (hN : I64 N) (hok : ∀ x ∈ l, dV x) :
    Meets Tryz.prog 112 [.agg #[.int .i64 N, .slice A l.length cap], .int .i64 v] w [] (NbΦ N l v) := by
 refine bM Tryz.func112 rfl Tryz.ntmps112 rfl Owns.nil ?_;refine aK fun K1 kh1 => ?_;refine aC ?_;refine aU rfl rfl rfl (dA rfl rfl fun b2 => ?_);refine aA rfl rfl rfl (aF rfl) ?_;refine aA rfl rfl rfl (aF rfl) ?_;refine aJ ?_;refine aL (kh1 _ _ ?_);clear kh1;refine aK fun K2 kh2 => ?_;refine aK fun K3 kh3 => ?_;refine aC ?_;refine aA rfl rfl rfl (bD (vs := [_, _]) Tryz.isAgg24 Tryz.sizeOf24 rfl rfl ⟨(rdA rfl), (rdA rfl), trivial⟩) ?_;refine aA rfl rfl rfl (aG rfl) ?_;refine aU rfl rfl rfl (bE Tryz.call123 rfl (fun w_ hp_ => looked_spec N A l cap v w_ (hr.up0 hp_) hl hN hok) ?_);rintro _ _ ⟨rfl, rfl⟩;dsimp only [List.cons_append, List.nil_append];refine aA rfl rfl rfl (aF rfl) ?_;refine aJ ?_;refine aL (kh3 _ _ ?_);clear kh3;refine aK fun K4 kh4 => ?_;refine aC ?_;refine aA rfl rfl rfl (aG rfl) ?_;refine aA rfl rfl rfl (dC rfl rfl) ?_;refine aJ ?_;refine aL (kh4 _ _ ?_);clear kh4;refine a6 rfl (fun c14 => ?_) (fun c14 => ?_)
 · refine aK fun K5 kh5 => ?_;refine aC ?_;refine aA rfl rfl rfl (aG rfl) ?_;refine aA rfl rfl rfl (aF rfl) ?_;refine aA rfl rfl rfl (aF rfl) ?_;refine aJ ?_;refine aL (kh5 _ _ ?_);clear kh5;refine a7 ?_;refine bS ?_;exact bZ [[]] Tryz.results112 rfl rfl Sub.empty ⟨none, [], 0, [], rfl, rfl, Own.nil _ _, by rw [if_neg (by simpa using c14)]⟩
 ·
  have hz : gP N l v = 0 := by simpa using c14
  obtain ⟨hg0, hv0, hv1⟩ := glooked_zero hz
  have hlen := (bT hg0).2.2.1
  refine aV ?_;refine aL (kh2 _ _ ?_);clear kh2;refine aK fun K6 kh6 => ?_;refine aC ?_;refine aA rfl rfl rfl (aF rfl) ?_;refine aJ ?_;refine aL (kh6 _ _ ?_);clear kh6;refine aK fun K7 kh7 => ?_;refine aK fun K8 kh8 => ?_;refine aC ?_;refine aA rfl rfl rfl (aP gU rfl) ?_;refine aA rfl rfl rfl (aM Tryz.isAgg22 rfl (rdA rfl)) ?_;refine aA rfl rfl rfl (bU k9 rfl) ?_;refine aA rfl rfl rfl (aG rfl) ?_;refine aJ ?_;refine aL (kh8 _ _ ?_);clear kh8;refine aZ ?_;refine cS (α := Nat × Value × Seg) [1, 17, 18] (fun ⟨i, ov, om⟩ => [(19, .int .i64 (i : Int)), (7, ov)]) (fun ⟨i, ov, om⟩ => [om, [(b2, blk [.int .i64 N, .slice A l.length cap] 24)]]) (fun ⟨i, ov, om⟩ => i ≤ l.length ∧ Own 3 1 ov ((l.take i).flatMap (nbr v)).length (aY ((l.take i).flatMap (nbr v))) om) (fun ⟨i, ov, om⟩ => l.length - i) (0, .slice none 0 0, []) ?_ ?_ ?_ ?_
  · exact (by repeat constructor)
  · repeat first|exact aH|refine aD ?_|refine aB rfl ?_|refine aI ?_
  · exact ⟨Nat.zero_le _, Own.nil _ _⟩
  ·
   rintro ⟨i, ov, om⟩ ⟨hil, hO⟩;obtain ⟨Ao, co, rfl, hco⟩ := hO.val
   have hnl := lI v (l.take i)
   rw [List.length_take] at hnl;refine aK fun K9 kh9 => ?_;refine aC ?_;refine aA rfl rfl rfl (cE rfl rfl) ?_;refine aJ ?_;refine aL (kh9 _ _ ?_);clear kh9;refine aK fun K10 kh10 => ?_;refine a6 rfl (fun c20 => ?_) (fun c20 => ?_)
   ·
    refine aV ?_;refine aL (kh10 _ _ ?_);clear kh10;refine aK fun K11 kh11 => ?_;refine aZ ?_;refine aK fun K12 kh12 => ?_;refine aC ?_;have hi : i < l.length := by omega
    obtain ⟨bq, off, rfl, hS, hc⟩ := hr (fX cD dK (by omega) hi)
    refine aA rfl rfl rfl (a8 k9 rfl rfl (off + i * 3) ⟨by omega, by omega, by first | omega | (simp; done) | (simp; omega)⟩) ?_;refine aA rfl rfl rfl (bD (vs := cD l[i]) Tryz.isAgg48 Tryz.sizeOf48 rfl rfl (gF dK hS hc hi)) ?_;refine aU rfl rfl rfl (cV Tryz.zeroValue48 rfl fun b9 => ?_);refine bH rfl rfl (cN Tryz.sizeOf48 rfl rfl rfl rfl (by first | exact Nat.le_of_ble_eq_true rfl | (simp; done) | (simp; omega)) (cD l[i]) rfl ?_);refine aJ ?_;refine aL (kh12 _ _ ?_);clear kh12;refine aZ ?_;refine aK fun K13 kh13 => ?_;refine aC ?_;refine aA rfl rfl rfl (aP fY rfl) ?_;refine aA rfl rfl rfl (aM Tryz.isAgg3 rfl (rdA rfl)) ?_;refine aA rfl rfl rfl (aP fR rfl) ?_;refine aA rfl rfl rfl (aM Tryz.isAgg3 rfl (rdA rfl)) ?_;refine aA rfl rfl rfl (fI rfl rfl) ?_;refine aA rfl rfl rfl (aF rfl) ?_;refine aJ ?_;refine aL (kh13 _ _ ?_);clear kh13;refine a6 rfl (fun c23 => ?_) (fun c23 => ?_)
    ·
     refine aV ?_;refine cU ?_;refine cU ?_;refine aL (kh11 _ _ ?_);clear kh11;refine aC ?_;refine aA rfl rfl rfl (bF rfl rfl _ (aT (by omega))) ?_;refine aA rfl rfl rfl (aG rfl) ?_;refine aJ ?_;refine aL (bA (i + 1, .slice Ao ((l.take i).flatMap (nbr v)).length co, om) (by first | omega | (dsimp only; omega) | (simp; omega)) ⟨by omega, by rw [kU hi, show nbr v l[i] = [] from if_pos c23, List.append_nil]; exact hO⟩ ?_ ?_ ?_)
     · exact (by repeat constructor)
     · exact (by repeat constructor)
     · repeat first|exact aH|refine aD ?_|refine aB rfl ?_|refine aI ?_
    ·
     refine aK fun K14 kh14 => ?_;refine aC ?_;refine aA rfl rfl rfl (aP fY rfl) ?_;refine aA rfl rfl rfl (aM Tryz.isAgg3 rfl (rdA rfl)) ?_;refine aA rfl rfl rfl (aG rfl) ?_;refine aA rfl rfl rfl (fI rfl rfl) ?_;refine aA rfl rfl rfl (aF rfl) ?_;refine aJ ?_;refine aL (kh14 _ _ ?_);clear kh14;refine a6 rfl (fun c29 => ?_) (fun c29 => ?_)
     ·
      refine aC ?_;refine aA rfl rfl rfl (aG rfl) ?_;refine aA rfl rfl rfl (aP fR rfl) ?_;refine aA rfl rfl rfl (aM Tryz.isAgg3 rfl (rdA rfl)) ?_;refine aU rfl rfl rfl (cW dR (by omega) rfl rfl rfl fun b37 => ?_);refine aU rfl rfl rfl (dH dR rfl rfl hO (ys := [.int .i64 l[i].dst]) ⟨(rdA rfl), trivial⟩ rfl rfl (by omega) (by omega) fun v38 m38 o38 => ?_);refine aA rfl rfl rfl (aF rfl) ?_;refine aJ ?_;refine cU ?_;refine cU ?_;refine aL (kh11 _ _ ?_);clear kh11;refine aC ?_;refine aA rfl rfl rfl (bF rfl rfl _ (aT (by omega))) ?_;refine aA rfl rfl rfl (aG rfl) ?_;refine aJ ?_;refine aL (bA (i + 1, v38, m38) (by first | omega | (dsimp only; omega) | (simp; omega)) ⟨by omega, by rw [kU hi, show nbr v l[i] = [l[i].dst] from by unfold nbr; rw [if_neg c23, if_pos c29], List.length_append, eA]; exact o38⟩ ?_ ?_ ?_)
      · exact (by repeat constructor)
      · exact (by repeat constructor)
      · repeat first|exact aH|refine aD ?_|refine aB rfl ?_|refine aI ?_
     ·
      refine aK fun K15 kh15 => ?_;refine aC ?_;refine aA rfl rfl rfl (aP fR rfl) ?_;refine aA rfl rfl rfl (aM Tryz.isAgg3 rfl (rdA rfl)) ?_;refine aA rfl rfl rfl (aG rfl) ?_;refine aA rfl rfl rfl (fI rfl rfl) ?_;refine aA rfl rfl rfl (aF rfl) ?_;refine aJ ?_;refine aL (kh15 _ _ ?_);clear kh15;refine a6 rfl (fun c39 => ?_) (fun c39 => ?_)
      ·
       refine aC ?_;refine aA rfl rfl rfl (aG rfl) ?_;refine aA rfl rfl rfl (aP fY rfl) ?_;refine aA rfl rfl rfl (aM Tryz.isAgg3 rfl (rdA rfl)) ?_;refine aU rfl rfl rfl (cW dR (by omega) rfl rfl rfl fun b47 => ?_);refine aU rfl rfl rfl (dH dR rfl rfl hO (ys := [.int .i64 l[i].src]) ⟨(rdA rfl), trivial⟩ rfl rfl (by omega) (by omega) fun v48 m48 o48 => ?_);refine aA rfl rfl rfl (aF rfl) ?_;refine aJ ?_;refine cU ?_;refine cU ?_;refine aL (kh11 _ _ ?_);clear kh11;refine aC ?_;refine aA rfl rfl rfl (bF rfl rfl _ (aT (by omega))) ?_;refine aA rfl rfl rfl (aG rfl) ?_;refine aJ ?_;refine aL (bA (i + 1, v48, m48) (by first | omega | (dsimp only; omega) | (simp; omega)) ⟨by omega, by rw [kU hi, show nbr v l[i] = [l[i].src] from by unfold nbr; rw [if_neg c23, if_neg c29, if_pos c39], List.length_append, eA]; exact o48⟩ ?_ ?_ ?_)
       · exact (by repeat constructor)
       · exact (by repeat constructor)
       · repeat first|exact aH|refine aD ?_|refine aB rfl ?_|refine aI ?_
      ·
       refine aV ?_;refine cU ?_;refine cU ?_;refine aL (kh11 _ _ ?_);clear kh11;refine aC ?_;refine aA rfl rfl rfl (bF rfl rfl _ (aT (by omega))) ?_;refine aA rfl rfl rfl (aG rfl) ?_;refine aJ ?_;refine aL (bA (i + 1, .slice Ao ((l.take i).flatMap (nbr v)).length co, om) (by first | omega | (dsimp only; omega) | (simp; omega)) ⟨by omega, by rw [kU hi, show nbr v l[i] = [] from by unfold nbr; rw [if_neg c23, if_neg c29, if_neg c39], List.append_nil]; exact hO⟩ ?_ ?_ ?_)
       · exact (by repeat constructor)
       · exact (by repeat constructor)
       · repeat first|exact aH|refine aD ?_|refine aB rfl ?_|refine aI ?_
   ·
    refine cG ?_;refine cH ?_;clear kh10;refine cH ?_;refine eB ?_;refine aL (kh7 _ _ ?_);clear kh7;refine aK fun K16 kh16 => ?_;obtain rfl : i = l.length := by omega
    rw [List.take_length] at hO hnl ⊢;refine aC ?_;refine aA rfl rfl rfl (aG rfl) ?_;refine aU rfl rfl rfl (fK [om] _ Tryz.call30 rfl (aD Sub.refl) (fun w_ hp_ => SortInts_spec Ao co _ om w_ hO (by omega) hp_.owns) ?_);rintro _ _ ⟨rfl, m2, rfl, ho2⟩;dsimp only [List.cons_append, List.nil_append];refine aJ ?_;refine aL (kh16 _ _ ?_);clear kh16;refine aK fun K17 kh17 => ?_;refine aC ?_;refine aA rfl rfl rfl (aG rfl) ?_;refine aU rfl rfl rfl (fK [m2] _ Tryz.call32 rfl (aD Sub.refl) (fun w_ hp_ => (by have h := Compact_spec Ao co (h8 (l.flatMap (nbr v))) m2 w_ (by rw [f7]; exact ho2) (by rw [f7]; omega) hp_.owns; rw [f7] at h; exact h)) ?_);rintro v53 _ ⟨m3, rfl, ho3⟩;obtain ⟨A3, c3, rfl, hc3⟩ := ho3.val
    dsimp only [List.cons_append, List.nil_append];refine aU rfl rfl rfl (bE Tryz.call31 rfl (fun w_ hp_ => Clip_spec A3 (cpt (h8 (l.flatMap (nbr v)))).length c3 w_ hc3.1 hc3.2 (kP ho3)) ?_);rintro _ _ ⟨rfl, rfl⟩;dsimp only [List.cons_append, List.nil_append];refine aA rfl rfl rfl (aF rfl) ?_;refine aA rfl rfl rfl (aF rfl) ?_;refine aJ ?_;refine aL (kh17 _ _ ?_);clear kh17;refine a7 ?_;exact bZ [m3] Tryz.results112 rfl rfl (by repeat (first | exact aH | refine aD ?_ | refine aB rfl ?_)) ⟨A3, bV v l, c3, m3, by rw [hz]; rfl, rfl, ho3, by rw [if_pos hz]⟩
end Go.Proofs.YtjjogcnjcnpehaaGreat

/- A searcher is begun; what is asked of it. -/
namespace Go.Proofs.YtjjogcnjcnpehaaGreat
open Go Go.RowKit Fly
set_option linter.unusedVariables false
set_option linter.unusedSimpArgs false
theorem ints_oneC (l : List Int) : (aY l).all (·.oneCell') = true := by
  rw [List.all_eq_true]; intro x hx; obtain ⟨s, _, rfl⟩ := List.mem_map.1 hx; rfl
theorem rep_flatC (n : Nat) (z : Value) : (List.replicate n [z]).flatten = List.replicate n z := by
  induction n with
  | zero => rfl
  | succ n ih => simp only [List.replicate_succ, List.flatten_cons, ih]; rfl
theorem RowsC.start (E : TypeId) (n : Nat) (r : Nat → List Int) : RowsC E n (fun i => if i < 0 then r i else []) (List.replicate n (.slice none 0 0)) (List.replicate n []) :=
  ⟨by simp, by simp, fun i h => ⟨none, 0, by simp [h], by simpa [aY] using Own.nil E 1⟩⟩
theorem RowsC.next {E : TypeId} {n k : Nat} {r : Nat → List Int} {vs : List Value} {ms : List Seg} (h : RowsC E n (fun i => if i < k then r i else []) vs ms) (hk : k < n) {A : Option Addr} {c : Nat} {m : Seg} (ho : Own E 1 (.slice A (r k).length c) (r k).length (aY (r k)) m) :
    RowsC E n (fun i => if i < k + 1 then r i else []) (vs.set k (.slice A (r k).length (r k).length)) (ms.set k m) where
  lv := by rw [List.length_set]; exact h.lv
  lm := by rw [List.length_set]; exact h.lm
  own := fun i hi => by
    by_cases e : k = i
    · subst e
      refine ⟨A, c, ?_, ?_⟩
      · rw [List.getElem?_set_self (by rw [h.lv]; exact hk), if_pos (by omega)]
      · rw [if_pos (by omega), List.getElem_set_self]; exact ho
    · obtain ⟨A', c', h1, h2⟩ := h.own i hi
      refine ⟨A', c', ?_, ?_⟩
      · rw [List.getElem?_set_ne e, h1]
        by_cases hik : i < k
        · rw [if_pos hik, if_pos (by omega)]
        · rw [if_neg hik, if_neg (by omega)]
      · rw [List.getElem_set_ne e]
        by_cases hik : i < k
        · rw [if_pos hik] at h2; rw [if_pos (by omega)]; exact h2
        · rw [if_neg hik] at h2; rw [if_neg (by omega)]; exact h2
theorem RowsC.all {E : TypeId} {n : Nat} {r : Nat → List Int} {vs : List Value} {ms : List Seg} (h : RowsC E n (fun i => if i < n then r i else []) vs ms) : RowsC E n r vs ms :=
  ⟨h.lv, h.lm, fun i hi => by have := h.own i hi; simpa only [if_pos hi] using this⟩
theorem flat_put {ms : List Seg} {k : Nat} (hk : ms[k]? = some []) (m : Seg) : (m ++ ms.flatten).Perm (ms.set k m).flatten := by
  obtain ⟨hlt, he⟩ := List.getElem?_eq_some_iff.1 hk
  have h1 := iV ms k hlt
  rw [he, List.nil_append] at h1;have h2 := iV (ms.set k m) k (by simpa using hlt)
  rw [List.getElem_set_self, List.eraseIdx_set_eq] at h2;exact (h1.append_left m).trans h2.symm
set_option maxRecDepth 100000 in
set_option maxHeartbeats 4000000 in
theorem CloneI_spec (A : Option Addr) (len : Nat) (cs : List Value) (cap : Nat) (w : World) (hs : Ro (Fr w []) w A cs) (hn : A = none → len = 0) (hl : cs.length = len * 1) (hone : cs.all (·.oneCell') = true) (hmax : len ≤ 1000000000) :
    Meets Tryz.prog 19 [.slice A len cap] w [] (fun u own' => ∃ m, own' = [m] ∧ Own 3 1 u len cs m) := by
 refine bM Tryz.func19 rfl Tryz.ntmps19 rfl Owns.nil ?_;refine aK fun K1 kh1 => ?_;refine aC ?_;refine aA rfl rfl rfl (aF rfl) ?_;refine aJ ?_;refine aL (kh1 _ _ ?_);clear kh1;refine aK fun K2 kh2 => ?_;refine aK fun K3 kh3 => ?_;refine aC ?_;refine aA rfl rfl rfl (aG rfl) ?_;refine aA rfl rfl rfl (o_eqlSl Tryz.underlying25 rfl rfl) ?_;refine aJ ?_;refine aL (kh3 _ _ ?_);clear kh3;refine e9 rfl (fun c4 => ?_) (fun c4 => ?_)
 ·
  obtain rfl : A = none := by cases A <;> first | rfl | simp at c4
  obtain rfl : len = 0 := hn rfl
  obtain rfl : cs = [] := List.eq_nil_of_length_eq_zero (by simpa using hl)
  refine aK fun K4 kh4 => ?_;refine aC ?_;refine aA rfl rfl rfl (aF rfl) ?_;refine aJ ?_;refine aL (kh4 _ _ ?_);clear kh4;refine a7 ?_;refine bS ?_;exact bJ [[]] Tryz.results19 rfl Sub.empty ⟨[], rfl, Own.nil _ _⟩
 · refine aV ?_;refine aL (kh2 _ _ ?_);clear kh2;refine aK fun K5 kh5 => ?_;refine aC ?_;refine aU rfl rfl rfl (o_slice0 dR fun b5 => ?_);refine aA rfl rfl rfl (aG rfl) ?_;refine aU rfl rfl rfl (o_appendQ dR rfl rfl (Own.mk (b := b5) (cs := []) (len := 0) rfl (by omega)) (ys := cs) (fun hne => by obtain ⟨b, off, e, hS, hc⟩ := hs hne; exact ⟨b, off, e, Seen.rds fun _ => ⟨hS, hc⟩⟩) hl hone (by omega) (by omega) fun v7 m7 o7 => ?_);refine aA rfl rfl rfl (aF rfl) ?_;refine aJ ?_;refine aL (kh5 _ _ ?_);clear kh5;refine a7 ?_;exact bJ [m7] Tryz.results19 rfl (by repeat (first | exact aH | refine aD ?_)) ⟨m7, rfl, by simpa using o7⟩
set_option maxRecDepth 100000 in
set_option maxHeartbeats 4000000 in
theorem begin_spec (n : Nat) (A B : Option Addr) (l : List Arc) (cap : Nat) (L : List Int) (cb : Nat) (w : World) (hr : Ro (Fr w []) w A (l.flatMap cD)) (hok : ∀ x ∈ l, dV x) (hg : (bG (n : Int) l).2 = 0) (hL : Ro (Fr w []) w B (aY L)) (hrt : cZ (n : Int) L = true) :
    Meets Tryz.prog 90 [.agg #[.int .i64 (n : Int), .slice A l.length cap], .slice B L.length cb] w [] (fun u own' => ∃ bs m, u = .pointer (some ⟨bs, 0, none⟩) ∧ own' = [m] ∧ LRep n (fun v => bV (v : Int) l) L (cF L) bs m) := by
 obtain ⟨hn1, hn2, hlen, hgd⟩ := bT hg
 have hrt2 := hrt
 unfold cZ at hrt2
 simp only [Bool.and_eq_true, decide_eq_true_eq] at hrt2;have hLn : L.length = n := by omega
 have h0 : 0 < L.length := by omega
 have hp0 := rgo_pos hrt2.1
 have hp1 := rgo_lt hrt2.1
 have hx0 : 0 ≤ eO L := Int.le_trans (hp0 L[0] (List.getElem_mem h0)) (gO (List.getElem_mem h0))
 have hx1 : eO L ≤ 1023 := lJ h0 fun x hx => by have := hp1 x hx; omega
 obtain ⟨M, hM⟩ : ∃ M : Nat, eO L + 1 = (M : Int) := ⟨(eO L + 1).toNat, by omega⟩
 have hN : I64 (n : Int) := by unfold I64; omega
 obtain ⟨bb, ob, rfl, hSb, hcb⟩ := hL (fun e => by have := aX L; rw [e] at this; simp at this; omega)
 refine bM Tryz.func90 rfl Tryz.ntmps90 rfl Owns.nil ?_;refine aK fun K1 kh1 => ?_;refine aC ?_;refine aU rfl rfl rfl (dA rfl rfl fun b2 => ?_);refine aA rfl rfl rfl (aF rfl) ?_;refine aJ ?_;refine aL (kh1 _ _ ?_);clear kh1;refine f_meet (α := Nat × Nat × Nat × Option Addr × Nat × Seg) [1, 2] (fun ⟨b17, b11, b15, Al8, c8, m8⟩ => [(5, .pointer (some ⟨b17, 0, none⟩))]) (fun ⟨b17, b11, b15, Al8, c8, m8⟩ => [[(b17, blk [.slice Al8 L.length c8, .slice (some ⟨b11, 0, none⟩) n n, .slice (some ⟨b15, 0, none⟩) M M] 114)], m8, [(b11, blk (List.replicate n (.slice none 0 0)) 25)], [(b15, blk (aY (szs M [])) 3)], [(b2, blk [.int .i64 (n : Int), .slice A l.length cap] 24)]]) (fun ⟨b17, b11, b15, Al8, c8, m8⟩ => Own 3 1 (.slice Al8 L.length c8) L.length (aY L) m8) ?_ ?_
 ·
  intro K2 kh2;refine dF [[(b2, blk [.int .i64 (n : Int), .slice A l.length cap] 24)]] rfl ?_;refine aS 0 rfl (by decide +kernel) rfl rfl rfl (by repeat first|exact aH|refine aD ?_|refine aB rfl ?_|refine aI ?_) (aG rfl) ?_;refine aS 2 rfl (by decide +kernel) rfl rfl rfl (by repeat first|exact aH|refine aD ?_|refine aB rfl ?_|refine aI ?_) (aP d9 rfl) ?_;refine aS 3 rfl (by decide +kernel) rfl rfl rfl (by repeat first|exact aH|refine aD ?_|refine aB rfl ?_|refine aI ?_) (aM Tryz.isAgg3 rfl (rdA rfl)) ?_;refine aS 5 rfl (by decide +kernel) rfl rfl rfl (by repeat first|exact aH|refine aD ?_|refine aB rfl ?_|refine aI ?_) (aG rfl) ?_;refine i6 1 4 rfl rfl (by decide +kernel) rfl rfl rfl rfl rfl rfl ?_ ?_
  ·
   refine (bE Tryz.call19 rfl (fun w_ hp_ => CloneI_spec _ L.length (aY L) cb w_ (hL.up0 hp_) (fun e => by cases e) (by rw [aX]; omega) (ints_oneC _) (by omega)) ?_);rintro v8 _ ⟨m8, rfl, o8⟩;obtain ⟨Al8, c8, rfl, _⟩ := o8.val
   dsimp only [List.cons_append, List.nil_append];refine ⟨(by repeat first|exact aH|refine aD ?_|refine aB rfl ?_|refine aI ?_), ?_⟩;refine i6 4 6 rfl rfl (by decide +kernel) rfl rfl rfl rfl rfl rfl ?_ ?_
   ·
    refine (dQ el30 rfl rfl n rfl (by omega) (by omega) (List.replicate n (.slice none 0 0)) (rep_flatC n _) fun b11 => ⟨(by repeat first|exact aH|refine aD ?_|refine aB rfl ?_|refine aI ?_), ?_⟩);refine bP 6 rfl (by decide +kernel) rfl rfl rfl (bE Tryz.call40 rfl (fun w_ hp_ => jY _ L cb w_ (hL.up0 hp_) h0 (by omega)) ?_);rintro _ _ ⟨rfl, rfl⟩;dsimp only [List.cons_append, List.nil_append];refine ⟨(by repeat first|exact aH|refine aD ?_|refine aB rfl ?_|refine aI ?_), ?_⟩;refine aS 7 rfl (by decide +kernel) rfl rfl rfl (by repeat first|exact aH|refine aD ?_|refine aB rfl ?_|refine aI ?_) (bF rfl rfl _ (show IntKind.i64.wrap (eO L + 1) = (M : Int) from by rw [aT (by omega)]; omega)) ?_;refine bP 8 rfl (by decide +kernel) rfl rfl rfl (dQ dR rfl rfl M rfl (by omega) (by omega) (aY (szs M [])) (by rw [szs_nil]; simp [aY, List.flatten_replicate_singleton]) fun b15 => ⟨(by repeat first|exact aH|refine aD ?_|refine aB rfl ?_|refine aI ?_), ?_⟩);refine aS 9 rfl (by decide +kernel) rfl rfl rfl (by repeat first|exact aH|refine aD ?_|refine aB rfl ?_|refine aI ?_) (dI (cs := [.slice Al8 L.length c8, .slice (some ⟨b11, 0, none⟩) n n, .slice (some ⟨b15, 0, none⟩) M M]) st114 rfl rfl) ?_;refine bP 10 rfl (by decide +kernel) rfl rfl rfl (dA rfl rfl fun b17 => ⟨(by repeat first|exact aH|refine aD ?_|refine aB rfl ?_|refine aI ?_), ?_⟩);refine bP 11 rfl (by decide +kernel) rfl rfl rfl ((aF rfl).does ⟨(by repeat first|exact aH|refine aD ?_|refine aB rfl ?_|refine aI ?_), ?_⟩);refine dB (by decide +kernel) ?_;refine aL (kh2 _ _ (b17, b11, b15, Al8, c8, m8) o8 ?_ ?_ ?_)
    · exact (by repeat constructor)
    · exact (by repeat constructor)
    · repeat first|exact aH|refine aD ?_|refine aB rfl ?_|refine aI ?_
   ·
    refine (bE Tryz.call40 rfl (fun w_ hp_ => jY _ L cb w_ (hL.up0 hp_) h0 (by omega)) ?_);rintro _ _ ⟨rfl, rfl⟩;dsimp only [List.cons_append, List.nil_append];refine ⟨(by repeat first|exact aH|refine aD ?_|refine aB rfl ?_|refine aI ?_), ?_⟩;refine aS 7 rfl (by decide +kernel) rfl rfl rfl (by repeat first|exact aH|refine aD ?_|refine aB rfl ?_|refine aI ?_) (bF rfl rfl _ (show IntKind.i64.wrap (eO L + 1) = (M : Int) from by rw [aT (by omega)]; omega)) ?_;refine i6 4 8 rfl rfl (by decide +kernel) rfl rfl rfl rfl rfl rfl ?_ ?_
    ·
     refine (dQ el30 rfl rfl n rfl (by omega) (by omega) (List.replicate n (.slice none 0 0)) (rep_flatC n _) fun b11 => ⟨(by repeat first|exact aH|refine aD ?_|refine aB rfl ?_|refine aI ?_), ?_⟩);refine bP 8 rfl (by decide +kernel) rfl rfl rfl (dQ dR rfl rfl M rfl (by omega) (by omega) (aY (szs M [])) (by rw [szs_nil]; simp [aY, List.flatten_replicate_singleton]) fun b15 => ⟨(by repeat first|exact aH|refine aD ?_|refine aB rfl ?_|refine aI ?_), ?_⟩);refine aS 9 rfl (by decide +kernel) rfl rfl rfl (by repeat first|exact aH|refine aD ?_|refine aB rfl ?_|refine aI ?_) (dI (cs := [.slice Al8 L.length c8, .slice (some ⟨b11, 0, none⟩) n n, .slice (some ⟨b15, 0, none⟩) M M]) st114 rfl rfl) ?_;refine bP 10 rfl (by decide +kernel) rfl rfl rfl (dA rfl rfl fun b17 => ⟨(by repeat first|exact aH|refine aD ?_|refine aB rfl ?_|refine aI ?_), ?_⟩);refine bP 11 rfl (by decide +kernel) rfl rfl rfl ((aF rfl).does ⟨(by repeat first|exact aH|refine aD ?_|refine aB rfl ?_|refine aI ?_), ?_⟩);refine dB (by decide +kernel) ?_;refine aL (kh2 _ _ (b17, b11, b15, Al8, c8, m8) o8 ?_ ?_ ?_)
     · exact (by repeat constructor)
     · exact (by repeat constructor)
     · repeat first|exact aH|refine aD ?_|refine aB rfl ?_|refine aI ?_
    ·
     refine (dQ dR rfl rfl M rfl (by omega) (by omega) (aY (szs M [])) (by rw [szs_nil]; simp [aY, List.flatten_replicate_singleton]) fun b15 => ⟨(by repeat first|exact aH|refine aD ?_|refine aB rfl ?_|refine aI ?_), ?_⟩);refine bP 4 rfl (by decide +kernel) rfl rfl rfl (dQ el30 rfl rfl n rfl (by omega) (by omega) (List.replicate n (.slice none 0 0)) (rep_flatC n _) fun b11 => ⟨(by repeat first|exact aH|refine aD ?_|refine aB rfl ?_|refine aI ?_), ?_⟩);refine aS 9 rfl (by decide +kernel) rfl rfl rfl (by repeat first|exact aH|refine aD ?_|refine aB rfl ?_|refine aI ?_) (dI (cs := [.slice Al8 L.length c8, .slice (some ⟨b11, 0, none⟩) n n, .slice (some ⟨b15, 0, none⟩) M M]) st114 rfl rfl) ?_;refine bP 10 rfl (by decide +kernel) rfl rfl rfl (dA rfl rfl fun b17 => ⟨(by repeat first|exact aH|refine aD ?_|refine aB rfl ?_|refine aI ?_), ?_⟩);refine bP 11 rfl (by decide +kernel) rfl rfl rfl ((aF rfl).does ⟨(by repeat first|exact aH|refine aD ?_|refine aB rfl ?_|refine aI ?_), ?_⟩);refine dB (by decide +kernel) ?_;refine aL (kh2 _ _ (b17, b11, b15, Al8, c8, m8) o8 ?_ ?_ ?_)
     · exact (by repeat constructor)
     · exact (by repeat constructor)
     · repeat first|exact aH|refine aD ?_|refine aB rfl ?_|refine aI ?_
  ·
   refine (dQ el30 rfl rfl n rfl (by omega) (by omega) (List.replicate n (.slice none 0 0)) (rep_flatC n _) fun b11 => ⟨(by repeat first|exact aH|refine aD ?_|refine aB rfl ?_|refine aI ?_), ?_⟩);refine bP 1 rfl (by decide +kernel) rfl rfl rfl (bE Tryz.call19 rfl (fun w_ hp_ => CloneI_spec _ L.length (aY L) cb w_ (hL.up0 hp_) (fun e => by cases e) (by rw [aX]; omega) (ints_oneC _) (by omega)) ?_);rintro v8 _ ⟨m8, rfl, o8⟩;obtain ⟨Al8, c8, rfl, _⟩ := o8.val
   dsimp only [List.cons_append, List.nil_append];refine ⟨(by repeat first|exact aH|refine aD ?_|refine aB rfl ?_|refine aI ?_), ?_⟩;refine bP 6 rfl (by decide +kernel) rfl rfl rfl (bE Tryz.call40 rfl (fun w_ hp_ => jY _ L cb w_ (hL.up0 hp_) h0 (by omega)) ?_);rintro _ _ ⟨rfl, rfl⟩;dsimp only [List.cons_append, List.nil_append];refine ⟨(by repeat first|exact aH|refine aD ?_|refine aB rfl ?_|refine aI ?_), ?_⟩;refine aS 7 rfl (by decide +kernel) rfl rfl rfl (by repeat first|exact aH|refine aD ?_|refine aB rfl ?_|refine aI ?_) (bF rfl rfl _ (show IntKind.i64.wrap (eO L + 1) = (M : Int) from by rw [aT (by omega)]; omega)) ?_;refine bP 8 rfl (by decide +kernel) rfl rfl rfl (dQ dR rfl rfl M rfl (by omega) (by omega) (aY (szs M [])) (by rw [szs_nil]; simp [aY, List.flatten_replicate_singleton]) fun b15 => ⟨(by repeat first|exact aH|refine aD ?_|refine aB rfl ?_|refine aI ?_), ?_⟩);refine aS 9 rfl (by decide +kernel) rfl rfl rfl (by repeat first|exact aH|refine aD ?_|refine aB rfl ?_|refine aI ?_) (dI (cs := [.slice Al8 L.length c8, .slice (some ⟨b11, 0, none⟩) n n, .slice (some ⟨b15, 0, none⟩) M M]) st114 rfl rfl) ?_;refine bP 10 rfl (by decide +kernel) rfl rfl rfl (dA rfl rfl fun b17 => ⟨(by repeat first|exact aH|refine aD ?_|refine aB rfl ?_|refine aI ?_), ?_⟩);refine bP 11 rfl (by decide +kernel) rfl rfl rfl ((aF rfl).does ⟨(by repeat first|exact aH|refine aD ?_|refine aB rfl ?_|refine aI ?_), ?_⟩);refine dB (by decide +kernel) ?_;refine aL (kh2 _ _ (b17, b11, b15, Al8, c8, m8) o8 ?_ ?_ ?_)
   · exact (by repeat constructor)
   · exact (by repeat constructor)
   · repeat first|exact aH|refine aD ?_|refine aB rfl ?_|refine aI ?_
 ·
  rintro ⟨b17, b11, b15, Al8, c8, m8⟩ o8;refine aK fun K3 kh3 => ?_;refine aK fun K4 kh4 => ?_;refine aC ?_;refine aA rfl rfl rfl (aP d9 rfl) ?_;refine aA rfl rfl rfl (aM Tryz.isAgg3 rfl (rdA rfl)) ?_;refine aA rfl rfl rfl (aG rfl) ?_;refine aJ ?_;refine aL (kh4 _ _ ?_);clear kh4;refine aZ ?_;refine cS (α := Nat × List Value × List Seg) [1, 2, 5, 19] (fun ⟨k, vs, ms⟩ => [(20, .int .i64 (k : Int))]) (fun ⟨k, vs, ms⟩ => [[(b17, blk [.slice Al8 L.length c8, .slice (some ⟨b11, 0, none⟩) n n, .slice (some ⟨b15, 0, none⟩) M M] 114)], m8, [(b11, blk vs 25)], ms.flatten, [(b15, blk (aY (szs M (L.take k))) 3)], [(b2, blk [.int .i64 (n : Int), .slice A l.length cap] 24)]]) (fun ⟨k, vs, ms⟩ => k ≤ n ∧ RowsC 3 n (fun i => if i < k then bV (i : Int) l else []) vs ms ∧ ∀ i, k ≤ i → i < n → ms[i]? = some []) (fun ⟨k, vs, ms⟩ => n - k) (0, List.replicate n (.slice none 0 0), List.replicate n []) ?_ ?_ ?_ ?_
  · exact (by repeat constructor)
  · dsimp only
    rw [show (List.replicate n ([] : Seg)).flatten = [] from by simp]
    repeat first|exact aH|refine aD ?_|refine aB rfl ?_|refine aI ?_
  · exact ⟨by omega, RowsC.start _ n _, fun i _ hi => by simp [hi]⟩
  ·
   rintro ⟨k, vs, ms⟩ ⟨hkn, hRC, hnil⟩;refine fC (e := [(20, _), (1, _), (2, _), (5, _), (19, _)]) (by repeat constructor) ?_;refine aK fun K5 kh5 => ?_;refine aC ?_;refine aA rfl rfl rfl (cE rfl rfl) ?_;refine aJ ?_;refine aL (kh5 _ _ ?_);clear kh5;refine aK fun K6 kh6 => ?_;refine a6 rfl (fun c21 => ?_) (fun c21 => ?_)
   ·
    have hk : k < n := by omega
    have hkL : k < L.length := by omega
    have hz : gP (n : Int) l (k : Int) = 0 := by unfold gP; rw [if_neg (by rw [hg]; simp), if_neg (by omega)]
    obtain ⟨y, hy⟩ : ∃ y : Nat, L[k] = (y : Int) := ⟨L[k].toNat, by have := hp0 _ (List.getElem_mem hkL); omega⟩
    have hyM : y < M := by have := gO (List.getElem_mem hkL); omega
    have hcl := cnt_le (L.take k) y
    rw [List.length_take] at hcl;refine aV ?_;refine aL (kh6 _ _ ?_);clear kh6;refine aK fun K7 kh7 => ?_;refine aZ ?_;refine aK fun K8 kh8 => ?_;refine aC ?_;refine aA rfl rfl rfl (aG rfl) ?_;refine aA rfl rfl rfl (aF rfl) ?_;refine aJ ?_;refine aL (kh8 _ _ ?_);clear kh8;refine aK fun K9 kh9 => ?_;refine dF [[(b17, blk [.slice Al8 L.length c8, .slice (some ⟨b11, 0, none⟩) n n, .slice (some ⟨b15, 0, none⟩) M M] 114)], [(b2, blk [.int .i64 (n : Int), .slice A l.length cap] 24)]] rfl ?_;refine aS 0 rfl (by decide +kernel) rfl rfl rfl (by repeat first|exact aH|refine aD ?_|refine aB rfl ?_|refine aI ?_) (aG rfl) ?_;refine aS 1 rfl (by decide +kernel) rfl rfl rfl (by repeat first|exact aH|refine aD ?_|refine aB rfl ?_|refine aI ?_) (dS rfl) ?_;refine aS 2 rfl (by decide +kernel) rfl rfl rfl (by repeat first|exact aH|refine aD ?_|refine aB rfl ?_|refine aI ?_) (aP fa114_1 rfl) ?_;refine aS 3 rfl (by decide +kernel) rfl rfl rfl (by repeat first|exact aH|refine aD ?_|refine aB rfl ?_|refine aI ?_) (aM Tryz.isAgg30 rfl (rdA rfl)) ?_;refine aS 4 rfl (by decide +kernel) rfl rfl rfl (by repeat first|exact aH|refine aD ?_|refine aB rfl ?_|refine aI ?_) (aG rfl) ?_;refine aS 5 rfl (by decide +kernel) rfl rfl rfl (by repeat first|exact aH|refine aD ?_|refine aB rfl ?_|refine aI ?_) (bD (vs := [.int .i64 (n : Int), .slice A l.length cap]) Tryz.isAgg24 Tryz.sizeOf24 rfl rfl ⟨(rdA rfl), (rdA rfl), trivial⟩) ?_;refine aS 6 rfl (by decide +kernel) rfl rfl rfl (by repeat first|exact aH|refine aD ?_|refine aB rfl ?_|refine aI ?_) (aG rfl) ?_;refine bP 7 rfl (by decide +kernel) rfl rfl rfl (bE Tryz.call112 rfl (fun w_ hp_ => Neighbours_spec (n : Int) A l cap (k : Int) w_ (hr.up0 hp_) (by omega) hN hok) ?_);rintro _ _ ⟨Ar, W, cr, m31, rfl, rfl, hor, hW⟩;rw [if_pos hz] at hW;subst hW;dsimp only [List.cons_append, List.nil_append];refine ⟨(by repeat first|exact aH|refine aD ?_|refine aB rfl ?_|refine aI ?_), ?_⟩;refine aS 8 rfl (by decide +kernel) rfl rfl rfl (by repeat first|exact aH|refine aD ?_|refine aB rfl ?_|refine aI ?_) (aG rfl) ?_;refine aS 9 rfl (by decide +kernel) rfl rfl rfl (by repeat first|exact aH|refine aD ?_|refine aB rfl ?_|refine aI ?_) (aW rfl rfl) ?_;refine aS 10 rfl (by decide +kernel) rfl rfl rfl (by repeat first|exact aH|refine aD ?_|refine aB rfl ?_|refine aI ?_) (aW rfl rfl) ?_;refine aS 11 rfl (by decide +kernel) rfl rfl rfl (by repeat first|exact aH|refine aD ?_|refine aB rfl ?_|refine aI ?_) (a8 f8 rfl rfl (k) ⟨by omega, by omega, by first | omega | (simp; done) | (simp; omega)⟩) ?_
    refine eI 12 rfl (by decide +kernel) rfl rfl (bY Tryz.sizeOf25 rfl rfl rfl rfl (by rw [hRC.lv]; omega) (vs.set k (.slice Ar (bV (k : Int) l).length (bV (k : Int) l).length)) rfl ⟨(by repeat first|exact aH|refine aD ?_|refine aB rfl ?_|refine aI ?_), ?_⟩);refine dB (by decide +kernel) ?_;refine aL (kh9 _ _ ?_);clear kh9;refine dF [[(b17, blk [.slice Al8 L.length c8, .slice (some ⟨b11, 0, none⟩) n n, .slice (some ⟨b15, 0, none⟩) M M] 114)]] rfl ?_;refine aS 0 rfl (by decide +kernel) rfl rfl rfl (by repeat first|exact aH|refine aD ?_|refine aB rfl ?_|refine aI ?_) (aG rfl) ?_;refine aS 1 rfl (by decide +kernel) rfl rfl rfl (by repeat first|exact aH|refine aD ?_|refine aB rfl ?_|refine aI ?_) (dS rfl) ?_;refine aS 2 rfl (by decide +kernel) rfl rfl rfl (by repeat first|exact aH|refine aD ?_|refine aB rfl ?_|refine aI ?_) (aP fa114_2 rfl) ?_;refine aS 3 rfl (by decide +kernel) rfl rfl rfl (by repeat first|exact aH|refine aD ?_|refine aB rfl ?_|refine aI ?_) (aM Tryz.isAgg25 rfl (rdA rfl)) ?_;refine aS 4 rfl (by decide +kernel) rfl rfl rfl (by repeat first|exact aH|refine aD ?_|refine aB rfl ?_|refine aI ?_) (aG rfl) ?_;refine aS 5 rfl (by decide +kernel) rfl rfl rfl (by repeat first|exact aH|refine aD ?_|refine aB rfl ?_|refine aI ?_) (aG rfl) ?_;refine aS 6 rfl (by decide +kernel) rfl rfl rfl (by repeat first|exact aH|refine aD ?_|refine aB rfl ?_|refine aI ?_) (a8 bK rfl rfl (ob + k) ⟨by omega, by omega, by first | omega | (simp; done) | (simp; omega)⟩) ?_;refine aS 7 rfl (by decide +kernel) rfl rfl rfl (by repeat first|exact aH|refine aD ?_|refine aB rfl ?_|refine aI ?_) (aM Tryz.isAgg3 rfl (show Rd _ _ _ _ _ (.int .i64 (y : Int)) by rw [← hy]; exact eD (enc := (.int .i64 ·)) hSb hcb hkL)) ?_;refine aS 8 rfl (by decide +kernel) rfl rfl rfl (by repeat first|exact aH|refine aD ?_|refine aB rfl ?_|refine aI ?_) (a8 bK rfl rfl (y) ⟨by omega, by omega, by first | omega | (simp; done) | (simp; omega)⟩) ?_;refine bP 9 rfl (by decide +kernel) rfl rfl rfl ((aM Tryz.isAgg3 rfl (rdA (v := .int .i64 (cnt (L.take k) y : Int)) (by rw [dO (by rw [eQ]; exact hyM), iE hyM]))).does ⟨(by repeat first|exact aH|refine aD ?_|refine aB rfl ?_|refine aI ?_), ?_⟩);refine aS 10 rfl (by decide +kernel) rfl rfl rfl (by repeat first|exact aH|refine aD ?_|refine aB rfl ?_|refine aI ?_) (bF rfl rfl _ (aT (by omega))) ?_;refine aS 11 rfl (by decide +kernel) rfl rfl rfl (by repeat first|exact aH|refine aD ?_|refine aB rfl ?_|refine aI ?_) (a8 bK rfl rfl (y) ⟨by omega, by omega, by first | omega | (simp; done) | (simp; omega)⟩) ?_
    refine eI 12 rfl (by decide +kernel) rfl rfl (bY Tryz.sizeOf3 rfl rfl rfl rfl (by rw [aX, eQ]; omega) (aY (szs M (L.take (k + 1)))) (by rw [szs_next hkL hy hyM]; simp [aY]) ⟨(by repeat first|exact aH|refine aD ?_|refine aB rfl ?_|refine aI ?_), ?_⟩);refine dB (by decide +kernel) ?_;refine cU ?_;refine aL (kh7 _ _ ?_);clear kh7;refine aC ?_;refine aA rfl rfl rfl (bF rfl rfl _ (aT (by omega))) ?_;refine aA rfl rfl rfl (aG rfl) ?_;refine aJ ?_;refine jA (Sub.joinF (m := m31) (G' := ms.flatten) (flat_put (hnil k (Nat.le_refl _) hk) m31)) ?_;refine aL (bA (k + 1, vs.set k (.slice Ar (bV (k : Int) l).length (bV (k : Int) l).length), ms.set k m31) (by first | omega | (dsimp only; omega) | (simp; omega)) ⟨by omega, hRC.next (r := fun i => bV (i : Int) l) hk hor, fun i h1 h2 => by rw [List.getElem?_set_ne (by omega)]; exact hnil i (by omega) h2⟩ ?_ ?_ ?_)
    · exact (by repeat constructor)
    · exact (by repeat constructor)
    · repeat first|exact aH|refine aD ?_|refine aB rfl ?_|refine aI ?_
   ·
    refine cG ?_;refine cH ?_;clear kh6;refine cH ?_;refine eB ?_;refine aL (kh3 _ _ ?_);clear kh3;refine aK fun K10 kh10 => ?_;refine aC ?_;refine aA rfl rfl rfl (aG rfl) ?_;refine aA rfl rfl rfl (aF rfl) ?_;refine aJ ?_;refine aL (kh10 _ _ ?_);clear kh10;refine a7 ?_;obtain rfl : k = n := by omega
    dsimp only;rw [List.take_of_length_le (by omega)];exact bJ [(kX b17 Al8 c8 L m8 b11 k vs ms.flatten b15 (szs M L)).flatten] Tryz.results90 rfl (Sub.flat (by unfold kX; rw [eQ]; repeat (first | exact aH | refine aD ?_))) ⟨b17, _, rfl, rfl, by rw [cF, show (eO L + 1).toNat = M by omega]; exact ⟨Al8, c8, m8, b11, vs, ms, b15, List.Perm.refl _, o8, hRC.all⟩⟩
end Go.Proofs.YtjjogcnjcnpehaaGreat
