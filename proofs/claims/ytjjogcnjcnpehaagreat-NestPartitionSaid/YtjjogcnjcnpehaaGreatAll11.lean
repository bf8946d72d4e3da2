import Derived.Test.YtjjogcnjcnpehaaGreatAll10
import Derived.Test.YtjjogcnjcnpehaaGreatAll7
import Derived.Test.YtjjogcnjcnpehaaGreatAll8
import Derived.Test.YtjjogcnjcnpehaaGreatAll9
import Derived.Test.YtjjogcnjcnpehaaGreatAll3
import Derived.Test.YtjjogcnjcnpehaaGreatAll5

/- Labels cut up under a bound: plain laws. -/
namespace Go.Proofs.YtjjogcnjcnpehaaGreat
open Go Fly
set_option linter.unusedVariables false
set_option linter.unusedSimpArgs false
set_option linter.unusedSectionVars false
/-- The vertices with a label. -/
def fJ (L : List Int) (j : Nat) : List Bool := L.map fun x => decide (x = (j : Int))
theorem i0 (L : List Int) (j : Nat) : (fJ L j).length = L.length := by simp [fJ]
def kpTo (L : List Int) (j k : Nat) : List Bool := L.mapIdx fun i x => decide (i < k ∧ x = (j : Int))
theorem kpTo_len (L : List Int) (j k : Nat) : (kpTo L j k).length = L.length := by simp [kpTo]
theorem kpTo_zero (L : List Int) (j : Nat) : kpTo L j 0 = List.replicate L.length false := by
  refine List.ext_getElem (by simp [kpTo]) fun i h1 h2 => ?_;simp [kpTo]
theorem kpTo_next {L : List Int} {j k : Nat} (h : k < L.length) : (kpTo L j k).set k (decide (L[k] = (j : Int))) = kpTo L j (k + 1) := by
  refine List.ext_getElem (by simp [kpTo]) fun i h1 h2 => ?_;have h3 : i < L.length := by simpa [kpTo] using h2
  by_cases hi : k = i
  · subst hi; simp [kpTo]
  · rw [List.getElem_set_ne hi]
    simp only [kpTo, List.getElem_mapIdx];apply decide_eq_decide.2;constructor <;> rintro ⟨h4, h5⟩ <;> exact ⟨by omega, h5⟩
theorem kpTo_all (L : List Int) (j : Nat) : kpTo L j L.length = fJ L j := by
  refine List.ext_getElem (by simp [kpTo, fJ]) fun i h1 h2 => ?_;have h3 : i < L.length := by simpa [fJ] using h2
  simp [kpTo, fJ, h3]
abbrev dC (L : List Int) (j : Nat) : List Int := fB (fJ L j)
def cH (l : List Arc) (L : List Int) (j : Nat) : List Int := (ordR ((dC L j).length : Int) (d8 (fJ L j) l)).1
def putAt (vs ord : List Int) (i : Nat) : Nat := (vs.getD (ord.getD i 0).toNat 0).toNat
def hZ (vs ord : List Int) (b : Nat) (nx : Int) (out : List Int) : Nat → List Int
  | 0 => out
  | i + 1 => (hZ vs ord b nx out i).set (putAt vs ord i) (nx + ((i / b : Nat) : Int))
theorem putTo_len (vs ord : List Int) (b : Nat) (nx : Int) (out : List Int) : ∀ i, (hZ vs ord b nx out i).length = out.length
  | 0 => rfl
  | i + 1 => by unfold hZ; rw [List.length_set, putTo_len vs ord b nx out i]
def cW (l : List Arc) (L : List Int) (b : Nat) : Nat → List Int × Int
  | 0 => (L, (L.length : Int))
  | j + 1 => if cnt L j ≤ b then cW l L b j else (hZ (dC L j) (cH l L j) b (cW l L b j).2 (cW l L b j).1 (cH l L j).length, (cW l L b j).2 + ((((cH l L j).length + b - 1) / b : Nat) : Int))
theorem g4 (l : List Arc) (L : List Int) (b : Nat) : ∀ j, (cW l L b j).1.length = L.length
  | 0 => rfl
  | j + 1 => by unfold cW; split; exact g4 l L b j; rw [putTo_len, g4 l L b j]
def l4 (l : List Arc) (L : List Int) (b : Nat) : List Int := tdy (cW l L b (d4 L + 1).toNat).1
/-- The vertices of a label that is there, in order. -/
structure CutOk (l : List Arc) (L : List Int) (j : Nat) : Prop where
  has : (dC L j).length ≠ 0
  few : (dC L j).length ≤ L.length
  good : bH ((dC L j).length : Int) (d8 (fJ L j) l) = (0, 0)
  ord : ordR ((dC L j).length : Int) (d8 (fJ L j) l) = (cH l L j, 0)
  rng : ∀ x ∈ cH l L j, 0 ≤ x ∧ x < ((dC L j).length : Int)
  nd : (cH l L j).Nodup
  all : ∀ u, u < (dC L j).length → (u : Int) ∈ cH l L j
  olen : (cH l L j).length ≤ (dC L j).length
theorem cut_ok {l : List Arc} {L : List Int} {j : Nat} (hn : L.length ≤ 1024) (hl : l.length ≤ 8192) (hj : 0 < cnt L j) : CutOk l L j := by
  have hkl := i0 L j
  have hne : (dC L j).length ≠ 0 := by
    have : (j : Int) ∈ L := Classical.byContradiction fun h => by have := iJ h; rw [cnt_is] at hj; omega
    obtain ⟨v, hv, e⟩ := List.mem_iff_getElem.1 this
    exact verts_ne (v := v) (by omega) (by simp [fJ, e])
  have hg := sub_good (keep := fJ L j) (l := l) (by omega) hl hne
  obtain ⟨hrl, hrng⟩ := iZ (n := (dC L j).length) (l := d8 (fJ L j) l) (by rw [dC, hg])
  have ho := ord_ok hrng (dC L j).length (Nat.le_refl _)
  have e : ordR ((dC L j).length : Int) (d8 (fJ L j) l) = ((dJ (dC L j).length (fun v : Nat => bY (v : Int) (d8 (fJ L j) l)) (dC L j).length).1, 0) := by
    unfold ordR
    rw [if_neg (by rw [dC, hg]; simp), Int.toNat_natCast]
  have e1 : cH l L j = (dJ (dC L j).length (fun v : Nat => bY (v : Int) (d8 (fJ L j) l)) (dC L j).length).1 := by unfold cH; rw [e]
  refine ⟨hne, ?_, hg, by rw [e, e1], ?_, ?_, ?_, ?_⟩
  · have := verts_le (fJ L j); rw [hkl] at this; exact this
  · rw [e1]; exact ho.rng
  · rw [e1]; exact ho.nd
  · rw [e1]; exact ho.all
  · rw [e1]; exact ints_card ho.rng ho.nd
/-- What a place of the order is told. -/
theorem CutOk.at {l : List Arc} {L : List Int} {j : Nat} (h : CutOk l L j) {i : Nat} (hi : i < (cH l L j).length) : ∃ q, (cH l L j)[i] = ((q : Nat) : Int) ∧ ∃ hq : q < (dC L j).length, ∃ u, (dC L j)[q] = ((u : Nat) : Int) ∧ (∃ hu : u < L.length, L[u] = (j : Int)) ∧ putAt (dC L j) (cH l L j) i = u ∧ fK (fJ L j) u = q := by
  have hr := h.rng _ (List.getElem_mem hi)
  obtain ⟨q, hq⟩ : ∃ q : Nat, (cH l L j)[i] = (q : Int) := ⟨_, (Int.toNat_of_nonneg hr.1).symm⟩
  rw [hq] at hr;obtain ⟨u, hu, e1, e2, e3⟩ := verts_get (keep := fJ L j) (i := q) (by show q < (dC L j).length; omega)
  have hq2 : q < (dC L j).length := by omega
  have e4 : (dC L j)[q] = (u : Int) := by have : (dC L j)[q]? = some (u : Int) := e1; rw [List.getElem?_eq_getElem hq2] at this; exact Option.some.inj this
  rw [i0] at hu;refine ⟨q, hq, hq2, u, e4, ⟨hu, by simpa [fJ] using e2⟩, ?_, e3⟩
  unfold putAt
  rw [List.getD_eq_getElem?_getD, List.getD_eq_getElem?_getD, List.getElem?_eq_getElem hi, Option.getD_some, hq, Int.toNat_natCast, List.getElem?_eq_getElem hq2, Option.getD_some, e4, Int.toNat_natCast]
theorem cutTo_next {l : List Arc} {L : List Int} {b : Nat} (hn : L.length ≤ 1024) (hl : l.length ≤ 8192) (hb : 0 < b) : ∀ j, (L.length : Int) ≤ (cW l L b j).2 ∧ (cW l L b j).2 ≤ 1024 + (j : Int) * 2048
  | 0 => by unfold cW; simp; omega
  | j + 1 => by
    have ih := cutTo_next (l := l) hn hl hb j
    unfold cW
    split
    · omega
    · have hc := cut_ok (l := l) hn hl (show 0 < cnt L j by omega)
      have h1 := hc.olen
      have h2 := hc.few
      have : ((cH l L j).length + b - 1) / b ≤ 2048 := by
        refine Nat.div_le_of_le_mul ?_;have : b * 1 ≤ b * 2048 := Nat.mul_le_mul_left b (by decide)
        rcases Nat.lt_or_ge b 1025 with h | h
        · have : 1 * 2048 ≤ b * 2048 := Nat.mul_le_mul_right 2048 hb
          omega
        · omega
      generalize ((cH l L j).length + b - 1) / b = q at *
      omega
end Go.Proofs.YtjjogcnjcnpehaaGreat

/- What is cut up: no size is above the bound, and who had unlike labels has unlike ones. -/
namespace Go.Proofs.YtjjogcnjcnpehaaGreat
open Go Fly
set_option linter.unusedVariables false
set_option linter.unusedSimpArgs false
set_option linter.unusedSectionVars false
theorem qn (a b : Nat) : (0 : Int) ≤ ((a / b : Nat) : Int) := Int.natCast_nonneg _
theorem CutOk.inj {l : List Arc} {L : List Int} {j : Nat} (h : CutOk l L j) {i k : Nat} (hi : i < (cH l L j).length) (hk : k < (cH l L j).length) (e : putAt (dC L j) (cH l L j) i = putAt (dC L j) (cH l L j) k) : i = k := by
  obtain ⟨q, hq, _, u, _, _, hu, hr⟩ := h.at hi
  obtain ⟨q', hq', _, u', _, _, hu', hr'⟩ := h.at hk
  rw [hu, hu'] at e;subst e;have : q = q' := by rw [← hr, ← hr']
  subst this;refine Classical.byContradiction fun hne => ?_;have hn := h.nd
  rcases Nat.lt_or_gt_of_ne hne with hlt | hlt
  · exact List.pairwise_iff_getElem.1 hn i k hi hk hlt (by rw [hq, hq'])
  · exact List.pairwise_iff_getElem.1 hn k i hk hi hlt (by rw [hq, hq'])
theorem CutOk.cover {l : List Arc} {L : List Int} {j : Nat} (h : CutOk l L j) {v : Nat} (hv : v < L.length) (e : L[v] = (j : Int)) : ∃ i, i < (cH l L j).length ∧ putAt (dC L j) (cH l L j) i = v := by
  have hkv : v < (fJ L j).length := by rw [i0]; exact hv
  have hkt : (fJ L j)[v] = true := by simp [fJ, e]
  have hr := kS hkv hkt
  obtain ⟨i, hi, ei⟩ := List.mem_iff_getElem.1 (h.all _ hr)
  obtain ⟨q, hq, _, u, _, ⟨hu, eu⟩, hp, hru⟩ := h.at hi
  refine ⟨i, hi, hp.trans ?_⟩;have : q = fK (fJ L j) v := by rw [ei] at hq; omega
  exact vrank_inj (by rw [i0]; exact hu) hkv (by simp [fJ, eu]) hkt (by rw [hru, this])
/-- While the vertices of a label are told their new ones. -/
structure PutI (vs ord : List Int) (b : Nat) (nx : Int) (o p : List Int) (i : Nat) : Prop where
  len : p.length = o.length
  rest : ∀ v, (∀ k, k < i → putAt vs ord k ≠ v) → p[v]? = o[v]?
  told : ∀ k, k < i → p[putAt vs ord k]? = some (nx + ((k / b : Nat) : Int))
  old : ∀ y, y < nx → eP p y ≤ eP o y
  new : ∀ c : Nat, eP p (nx + (c : Int)) ≤ min (i - c * b) b
theorem put_inv {l : List Arc} {L o : List Int} {j b : Nat} {nx : Int} (h : CutOk l L j) (hb : 0 < b) (hl : o.length = L.length) (hn : ∀ x ∈ o, x < nx) : ∀ i, i ≤ (cH l L j).length → PutI (dC L j) (cH l L j) b nx o (hZ (dC L j) (cH l L j) b nx o i) i
  | 0, _ => by
    refine ⟨rfl, fun _ _ => rfl, fun k hk => by omega, fun y _ => Nat.le_refl _, fun c => ?_⟩
    show eP o (nx + (c : Int)) ≤ _
    rw [iJ fun hm => by have := hn _ hm; omega]; omega
  | i + 1, hi => by
    have ih := put_inv (o := o) (nx := nx) (b := b) h hb hl hn i (by omega)
    obtain ⟨q, hq, _, u, _, ⟨hu, _⟩, hp, _⟩ := h.at (i := i) (by omega)
    have hset := cntI_set (L := hZ (dC L j) (cH l L j) b nx o i) (i := u) (by rw [ih.len]; omega) (nx + ((i / b : Nat) : Int))
    show PutI _ _ _ _ _ ((hZ (dC L j) (cH l L j) b nx o i).set (putAt (dC L j) (cH l L j) i) _) _
    rw [hp];have hdm := Nat.div_add_mod i b
    have hml := Nat.mod_lt i hb
    refine ⟨by rw [List.length_set, ih.len], fun v hv => ?_, fun k hk => ?_, fun y hy => ?_, fun c => ?_⟩
    · rw [List.getElem?_set_ne (by have := hv i (by omega); rw [hp] at this; exact this)]
      exact ih.rest v fun k hk => hv k (by omega)
    · by_cases e : k = i
      · subst e
        rw [hp, List.getElem?_set_self (by rw [ih.len]; omega)]
      · rw [List.getElem?_set_ne (fun e' => e (h.inj (by omega) (by omega) (by rw [hp, e'])))]
        exact ih.told k (by omega)
    · have h1 := hset y
      have h2 := ih.old y hy
      rw [if_neg (show ¬ nx + ((i / b : Nat) : Int) = y by have := qn i b; omega)] at h1;omega
    · have h1 := hset (nx + (c : Int))
      have h2 := ih.new c
      by_cases e : i / b = c
      · rw [if_pos (show nx + ((i / b : Nat) : Int) = nx + (c : Int) by omega)] at h1
        rw [e] at hdm;rw [Nat.mul_comm] at hdm
        generalize c * b = z at *
        omega
      · rw [if_neg (show ¬ nx + ((i / b : Nat) : Int) = nx + (c : Int) by omega)] at h1
        have : i < c * b ∨ c * b + b ≤ i := by
          rcases Nat.lt_or_gt_of_ne e with hlt | hlt
          · left
            have h3 := Nat.mul_le_mul_right b (show i / b + 1 ≤ c from hlt)
            rw [Nat.succ_mul] at h3;rw [Nat.mul_comm] at hdm;omega
          · right
            have h3 := Nat.mul_le_mul_right b (show c + 1 ≤ i / b from hlt)
            rw [Nat.succ_mul] at h3;rw [Nat.mul_comm] at hdm;omega
        generalize c * b = z at *
        omega
/-- What has been cut up so far. -/
structure CutI (L : List Int) (b j : Nat) (o : List Int) (nx : Int) : Prop where
  len : o.length = L.length
  low : (L.length : Int) ≤ nx
  same : ∀ v (h : v < L.length), (j : Int) ≤ L[v] ∨ eP L L[v] ≤ b → o[v]? = some L[v]
  new : ∀ v (h : v < L.length), L[v] < (j : Int) → b < eP L L[v] → ∃ z, o[v]? = some z ∧ (L.length : Int) ≤ z ∧ z < nx
  fine : ∀ u v (hu : u < L.length) (hv : v < L.length), o[u]? = o[v]? → L[u] = L[v]
  size : ∀ y, (L.length : Int) ≤ y → eP o y ≤ b
theorem CutI.rng {L : List Int} {b j : Nat} {o : List Int} {nx : Int} (h : CutI L b j o nx) (hL : ∀ x ∈ L, 0 ≤ x ∧ x < (L.length : Int)) : ∀ x ∈ o, x < nx := fun x hx => by
  obtain ⟨v, hv, e⟩ := List.mem_iff_getElem.1 hx
  have hv' : v < L.length := by rw [← h.len]; exact hv
  have e' : o[v]? = some x := by rw [List.getElem?_eq_getElem hv, e]
  have hr := hL _ (List.getElem_mem hv')
  have hlow := h.low
  by_cases hc : (j : Int) ≤ L[v] ∨ eP L L[v] ≤ b
  · have := h.same v hv' hc
    rw [e'] at this;have := Option.some.inj this
    omega
  · obtain ⟨z, h1, h2, h3⟩ := h.new v hv' (by omega) (by omega)
    rw [e'] at h1;have := Option.some.inj h1
    omega
theorem cut_inv {l : List Arc} {L : List Int} {b : Nat} (hn : L.length ≤ 1024) (hl : l.length ≤ 8192) (hb : 0 < b) (hL : ∀ x ∈ L, 0 ≤ x ∧ x < (L.length : Int)) : ∀ j, CutI L b j (cW l L b j).1 (cW l L b j).2
  | 0 => by
    refine ⟨rfl, Int.le_refl _, fun v h _ => List.getElem?_eq_getElem h, fun v h h1 => ?_, fun u v hu hv e => ?_, fun y hy => ?_⟩
    · have := hL _ (List.getElem_mem h); omega
    · have e' : L[u]? = L[v]? := e
      rw [List.getElem?_eq_getElem hu, List.getElem?_eq_getElem hv] at e';exact Option.some.inj e'
    · show eP L y ≤ b
      rw [iJ fun hm => by have := hL _ hm; omega]; omega
  | j + 1 => by
    have ih := cut_inv (l := l) hn hl hb hL j
    unfold cW
    by_cases hc : cnt L j ≤ b
    · rw [if_pos hc]
      rw [cnt_is] at hc;refine ⟨ih.len, ih.low, fun v h h1 => ih.same v h ?_, fun v h h1 h2 => ih.new v h ?_ h2, ih.fine, ih.size⟩
      · by_cases e : L[v] = (j : Int)
        · right; rw [e]; exact hc
        · rcases h1 with h1 | h1
          · left; omega
          · exact .inr h1
      · refine Classical.byContradiction fun hne => ?_
        have : L[v] = (j : Int) := by omega
        rw [this] at h2; omega
    · rw [if_neg hc]
      have hck := cut_ok (l := l) hn hl (show 0 < cnt L j by omega)
      have hP := put_inv hck hb ih.len (ih.rng hL) (cH l L j).length (Nat.le_refl _)
      rw [cnt_is] at hc;have hlow := ih.low
      have hnj : ∀ v (h : v < L.length), L[v] ≠ (j : Int) → (hZ (dC L j) (cH l L j) b (cW l L b j).2 (cW l L b j).1 (cH l L j).length)[v]? = (cW l L b j).1[v]? := fun v h hne => hP.rest v fun k hk e => by
        obtain ⟨_, _, _, u, _, ⟨hu, eu⟩, hp, _⟩ := hck.at hk
        rw [hp] at e; subst e; exact hne eu
      have hyj : ∀ v (h : v < L.length), L[v] = (j : Int) → ∃ k, k < (cH l L j).length ∧ (hZ (dC L j) (cH l L j) b (cW l L b j).2 (cW l L b j).1 (cH l L j).length)[v]? = some ((cW l L b j).2 + ((k / b : Nat) : Int)) := fun v h e => by
        obtain ⟨k, hk, rfl⟩ := hck.cover h e
        exact ⟨k, hk, hP.told k hk⟩
      have hdiv : ∀ k, k < (cH l L j).length → ((k / b : Nat) : Int) < ((((cH l L j).length + b - 1) / b : Nat) : Int) := fun k hk => by
        have : k / b + 1 ≤ ((cH l L j).length + b - 1) / b := by
          rw [← Nat.add_div_right k hb];exact Nat.div_le_div_right (by omega)
        omega
      have hlt : ∀ v (h : v < L.length) z, (cW l L b j).1[v]? = some z → z < (cW l L b j).2 := fun v h z e => ih.rng hL z (List.mem_of_getElem? e)
      refine ⟨by rw [hP.len, ih.len], by dsimp only; have := qn ((cH l L j).length + b - 1) b; omega, fun v h h1 => ?_, fun v h h1 h2 => ?_, fun u v hu hv e => ?_, fun y hy => ?_⟩
      · have hne : L[v] ≠ (j : Int) := by
          rcases h1 with h1 | h1
          · omega
          · intro e; rw [e] at h1; exact hc h1
        rw [hnj v h hne];refine ih.same v h ?_
        rcases h1 with h1 | h1
        · left; omega
        · exact .inr h1
      · by_cases e : L[v] = (j : Int)
        · obtain ⟨k, hk, ek⟩ := hyj v h e
          have := hdiv k hk
          have h6 := qn k b
          exact ⟨_, ek, by omega, by dsimp only; omega⟩
        · rw [hnj v h e]
          obtain ⟨z, h3, h4, h5⟩ := ih.new v h (by omega) h2
          have h6 := qn ((cH l L j).length + b - 1) b
          exact ⟨z, h3, h4, by dsimp only; omega⟩
      · by_cases e1 : L[u] = (j : Int) <;> by_cases e2 : L[v] = (j : Int)
        · rw [e1, e2]
        · obtain ⟨k, hk, ek⟩ := hyj u hu e1
          rw [ek, hnj v hv e2] at e;have := hlt v hv _ e.symm
          have h6 := qn k b
          omega
        · obtain ⟨k, hk, ek⟩ := hyj v hv e2
          rw [ek, hnj u hu e1] at e;have := hlt u hu _ e
          have h6 := qn k b
          omega
        · rw [hnj u hu e1, hnj v hv e2] at e
          exact ih.fine u v hu hv e
      · dsimp only
        by_cases h1 : y < (cW l L b j).2
        · exact Nat.le_trans (hP.old y h1) (ih.size y hy)
        · have := hP.new (y - (cW l L b j).2).toNat
          rw [show (cW l L b j).2 + (((y - (cW l L b j).2).toNat : Nat) : Int) = y by omega] at this;omega
/-- What is cut up, in the end. -/
theorem cut_holds {l : List Arc} {L : List Int} {n b : Nat} (hR : c7 (n : Int) L = true) (hn1 : 1 ≤ n) (hn : n ≤ 1024) (hl : l.length ≤ 8192) (hb : 0 < b) :
    c7 (n : Int) (l4 l L b) = true ∧ (∀ y, eP (l4 l L b) y ≤ b) ∧ ∀ u v : Nat, u < n → v < n → lab (l4 l L b) (u : Int) = lab (l4 l L b) (v : Int) → lab L (u : Int) = lab L (v : Int) := by
  obtain rfl : L.length = n := (cN hR).2
  have hrg := dY hR hn1
  have hI := cut_inv (l := l) hn hl hb (fun x hx => by have := hrg x hx; omega) (d4 L + 1).toNat
  obtain ⟨M, hM⟩ : ∃ M : Nat, (d4 L + 1).toNat = M := ⟨_, rfl⟩
  rw [hM] at hI hrg;obtain ⟨o, ho⟩ : ∃ o, (cW l L b M).1 = o := ⟨_, rfl⟩
  obtain ⟨nx, hnx⟩ : ∃ nx, (cW l L b M).2 = nx := ⟨_, rfl⟩
  have ec : l4 l L b = tdy o := by unfold l4; rw [hM, ho]
  rw [ho, hnx] at hI;rw [ec]
  have hsz : ∀ y, eP o y ≤ b := fun y => by
    by_cases hy : (L.length : Int) ≤ y
    · exact hI.size y hy
    · by_cases hyb : eP L y ≤ b
      · refine Nat.le_trans ?_ hyb
        have key : ∀ (p q : List Int), p.length = q.length → (∀ v (h : v < p.length) (h' : v < q.length), p[v] = y → q[v] = y) → eP p y ≤ eP q y := by
          intro p
          induction p with
          | nil => intro q _ _; exact Nat.zero_le _
          | cons x p ihp =>
            intro q hl hq
            cases q with
            | nil => cases hl
            | cons z q =>
              have h1 := ihp q (by simpa using hl) (fun v h h' e => by have := hq (v + 1) (by simpa using h) (by simpa using h') (by simpa using e); simpa using this)
              have h2 := hq 0 (by simp) (by simp)
              unfold eP at h1 ⊢
              rw [List.filter_cons, List.filter_cons]
              by_cases e : x = y
              · have := h2 e
                simp only [List.getElem_cons_zero] at this;rw [if_pos (by simpa using e), if_pos (by simpa using this)]; simp only [List.length_cons]; omega
              · rw [if_neg (by simpa using e)]
                split
                · simp only [List.length_cons]; omega
                · exact h1
        refine key o L hI.len fun v h h' e => ?_
        by_cases hc : (M : Int) ≤ L[v] ∨ eP L L[v] ≤ b
        · have := hI.same v h' hc
          rw [List.getElem?_eq_getElem h, e] at this;exact (Option.some.inj this).symm
        · obtain ⟨z, h1, h2, h3⟩ := hI.new v h' (by omega) (by omega)
          rw [List.getElem?_eq_getElem h, e] at h1;have := Option.some.inj h1
          omega
      · have : y ∉ o := fun hm => by
          obtain ⟨v, hv, e⟩ := List.mem_iff_getElem.1 hm
          have h' : v < L.length := by rw [← hI.len]; exact hv
          by_cases hc : (M : Int) ≤ L[v] ∨ eP L L[v] ≤ b
          · have := hI.same v h' hc
            rw [List.getElem?_eq_getElem hv, e] at this;have := Option.some.inj this
            rw [← this] at hc
            rcases hc with hc | hc
            · have := hrg y (by rw [this]; exact List.getElem_mem h'); omega
            · exact hyb hc
          · obtain ⟨z, h1, h2, h3⟩ := hI.new v h' (by omega) (by omega)
            rw [List.getElem?_eq_getElem hv, e] at h1;have := Option.some.inj h1
            omega
        rw [iJ this]; omega
  refine ⟨right_tdy hI.len, fun y => ?_, fun u v hu hv e => ?_⟩
  · have := cntI_tdy (L := o) (bd := (b : Int)) (by omega) (fun y => by have := hsz y; omega) y
    omega
  · have ou : u < o.length := by rw [hI.len]; exact hu
    have ov : v < o.length := by rw [hI.len]; exact hv
    rw [tdy_labN ou ov, i6 ou, i6 ov] at e;rw [i6 hu, i6 hv];exact hI.fine u v hu hv (by rw [List.getElem?_eq_getElem ou, List.getElem?_eq_getElem ov, e])
end Go.Proofs.YtjjogcnjcnpehaaGreat

/- The searcher of package local: what a vertex's neighbours bear, the next move. -/
namespace Go.Proofs.YtjjogcnjcnpehaaGreat
open Go Go.RowKit Fly
set_option linter.unusedVariables false
set_option linter.unusedSimpArgs false
/-- What a searcher shows. -/
structure LSee (n : Nat) (rows : Nat → List Int) (L S : List Int) (bs : Nat) (w : World) (Al : Option Addr) (cl bo bz : Nat) (vs : List Value) : Prop where
  cells : Ro (Fr w []) w (some ⟨bs, 0, none⟩) [.slice Al L.length cl, .slice (some ⟨bo, 0, none⟩) n n, .slice (some ⟨bz, 0, none⟩) S.length S.length]
  labs : Ro (Fr w []) w Al (a6 L)
  side : Ro (Fr w []) w (some ⟨bo, 0, none⟩) vs
  lv : vs.length = n
  row : ∀ v, v < n → ∃ A c, vs[v]? = some (.slice A (rows v).length c) ∧ Ro (Fr w []) w A (a6 (rows v))
  size : Ro (Fr w []) w (some ⟨bz, 0, none⟩) (a6 S)
theorem LSee.up0 {n : Nat} {rows : Nat → List Int} {L S : List Int} {bs : Nat} {w w' : World} {Al : Option Addr} {cl bo bz : Nat} {vs : List Value} {m : Seg} (h : LSee n rows L S bs w Al cl bo bz vs) (hp : Hp (Fr w []) w m w') : LSee n rows L S bs w' Al cl bo bz vs :=
  ⟨h.cells.up0 hp, h.labs.up0 hp, h.side.up0 hp, h.lv, fun v hv => by obtain ⟨A, c, h1, h2⟩ := h.row v hv; exact ⟨A, c, h1, h2.up0 hp⟩, h.size.up0 hp⟩
/-- What is known of labels and neighbours. -/
structure LOk (n : Nat) (rows : Nat → List Int) (L S : List Int) : Prop where
  n1 : 1 ≤ n ∧ n ≤ 1024
  len : L.length = n
  lab : ∀ x ∈ L, 0 ≤ x ∧ x < (S.length : Int)
  slen : S.length ≤ 1024
  rlen : ∀ v, v < n → (rows v).length ≤ 16384
  rok : ∀ v, v < n → ∀ u ∈ rows v, 0 ≤ u ∧ u < (n : Int)
  sz : ∀ x ∈ S, 0 ≤ x ∧ x ≤ 1024
/-- Rows that were clipped. -/
structure RowsC (E : TypeId) (n : Nat) (rows : Nat → List Int) (vs : List Value) (ms : List Seg) : Prop where
  lv : vs.length = n
  lm : ms.length = n
  own : ∀ i (h : i < n), ∃ A c, vs[i]? = some (.slice A (rows i).length (rows i).length) ∧ Own E 1 (.slice A (rows i).length c) (rows i).length (a6 (rows i)) (ms[i]'(by rw [lm]; exact h))
abbrev k9 (bs : Nat) (Al : Option Addr) (cl : Nat) (L : List Int) (ml : Seg) (bo n : Nat) (vs : List Value) (G : Seg) (bz : Nat) (S : List Int) : List Seg :=
  [[(bs, blk [.slice Al L.length cl, .slice (some ⟨bo, 0, none⟩) n n, .slice (some ⟨bz, 0, none⟩) S.length S.length] 114)], ml, [(bo, blk vs 25)], G, [(bz, blk (a6 S) 3)]]
/-- A searcher in memory. -/
def LRep (n : Nat) (rows : Nat → List Int) (L S : List Int) (bs : Nat) (m : Seg) : Prop := ∃ Al cl ml bo vs ms bz, m.Perm (k9 bs Al cl L ml bo n vs ms.flatten bz S).flatten ∧ Own 3 1 (.slice Al L.length cl) L.length (a6 L) ml ∧ RowsC 3 n rows vs ms
theorem own_ints {E b c : Nat} {L L2 : List Int} {sp : List Value} (h : Own E 1 (.slice (some ⟨b, 0, none⟩) L.length c) L.length (a6 L) [(b, blk (a6 L ++ sp) E)]) (hl : L2.length = L.length) : Own E 1 (.slice (some ⟨b, 0, none⟩) L2.length c) L2.length (a6 L2) [(b, blk (a6 L2 ++ sp) E)] := by
  obtain ⟨_, h | ⟨b', c', sp', e, hm, h1, h2, h3⟩⟩ := h
  · obtain ⟨e, _⟩ := h; cases e
  · cases e
    have hsp : a6 L ++ sp = a6 L ++ sp' := by simpa using hm
    have hsp := List.append_cancel_left hsp
    subst hsp;exact ⟨by simp [a6], .inr ⟨b, c, sp, rfl, rfl, by omega, h2, by rw [hl]; exact h3⟩⟩
set_option maxRecDepth 100000 in
set_option maxHeartbeats 4000000 in
theorem aroundL_spec (n : Nat) (rows : Nat → List Int) (L S : List Int) (bs : Nat) (Al : Option Addr) (cl bo bz : Nat) (vs : List Value) (v : Nat) (w : World) (hs : LSee n rows L S bs w Al cl bo bz vs) (hO : LOk n rows L S) (hv : v < n) :
    Meets Tryz.prog 91 [.pointer (some ⟨bs, 0, none⟩), .int .i64 (v : Int)] w [] (fun u own' => ∃ bm ents c, u = .map (some bm) ∧ own' = [[(bm, f3 (fun x : Int => .int .i64 x) ents c)]] ∧ MOk ents c ∧ Cnts L (rows v) ents) := by
 obtain ⟨_, _, e1_, hSs, hcs⟩ := hs.cells (by simp)
 cases e1_
 have hn := hO.n1
 have hLn := hO.len
 have hsl := hO.slen
 obtain ⟨Ar, cr, hvr, hrr⟩ := hs.row v hv
 obtain ⟨_, _, e2_, hSo, hco⟩ := hs.side (fun e => by have := hs.lv; rw [e] at this; simp at this; omega)
 cases e2_
 have hrl := hO.rlen v hv
 obtain ⟨_, _, e3_⟩ : ∃ bl off, True := ⟨0, 0, trivial⟩
 refine bJ Tryz.func91 rfl Tryz.ntmps91 rfl Owns.nil ?_;refine aK fun K1 kh1 => ?_;refine aB ?_;refine aA rfl rfl rfl (aF rfl) ?_;refine aJ ?_;refine aL (kh1 _ _ ?_);clear kh1;refine aK fun K2 kh2 => ?_;refine aB ?_;refine aR rfl rfl rfl (iH fun b8 => ?_);refine aA rfl rfl rfl (aF rfl) ?_;refine aJ ?_;refine aL (kh2 _ _ ?_);clear kh2;refine aK fun K3 kh3 => ?_;refine aK fun K4 kh4 => ?_;refine aB ?_;refine aA rfl rfl rfl (aG rfl) ?_;refine aA rfl rfl rfl (d6 rfl) ?_;refine aA rfl rfl rfl (aQ fa114_1 rfl) ?_;refine aA rfl rfl rfl (aM Tryz.isAgg30 rfl (rdS hSs (hcs 1 _ rfl))) ?_;refine aA rfl rfl rfl (aG rfl) ?_;refine aA rfl rfl rfl (bA gD rfl rfl (0 + v) ⟨by omega, by omega, by first | omega | (simp; done) | (simp; omega)⟩) ?_;refine aA rfl rfl rfl (aM Tryz.isAgg25 rfl (rdS hSo (hco v _ hvr))) ?_;refine aA rfl rfl rfl (bS bK rfl) ?_;refine aA rfl rfl rfl (aG rfl) ?_;refine aJ ?_;refine aL (kh4 _ _ ?_);clear kh4;refine aY ?_;refine cS (α := Nat × List (Int × Value × Nat) × Nat) [0, 5, 15, 16] (fun ⟨k, ents, c⟩ => [(17, .int .i64 (k : Int))]) (fun ⟨k, ents, c⟩ => [[(b8, f3 (fun x : Int => .int .i64 x) ents c)]]) (fun ⟨k, ents, c⟩ => k ≤ (rows v).length ∧ MOk ents c ∧ Cnts L ((rows v).take k) ents) (fun ⟨k, ents, c⟩ => (rows v).length - k) (0, [], 0) ?_ ?_ ?_ ?_
 · exact (by repeat constructor)
 · repeat first|exact aI|refine aD ?_|refine aC rfl ?_|refine aH ?_
 · exact ⟨by omega, MOk.nil, Cnts.nil L⟩
 ·
  rintro ⟨k, ents, c⟩ ⟨hkl, hmap, hC⟩;refine aK fun K5 kh5 => ?_;refine aB ?_;refine aA rfl rfl rfl (cD rfl rfl) ?_;refine aJ ?_;refine aL (kh5 _ _ ?_);clear kh5;refine aK fun K6 kh6 => ?_;refine aZ rfl (fun c18 => ?_) (fun c18 => ?_)
  ·
   have hk : k < (rows v).length := by omega
   obtain ⟨br, offr, rfl, hSr, hcr⟩ := hrr (fun e => by have := aX (rows v); rw [e] at this; simp at this; omega)
   have hu := hO.rok v hv _ (List.getElem_mem hk)
   obtain ⟨bl, offl, rfl, hSl, hcl⟩ := hs.labs (fun e => by have := aX L; rw [e] at this; simp at this; omega)
   have hcn := ncnt_le L ((rows v).take k) (lab L (rows v)[k])
   rw [List.length_take] at hcn;refine aW ?_;refine aL (kh6 _ _ ?_);clear kh6;refine aK fun K7 kh7 => ?_;refine aY ?_;refine aK fun K8 kh8 => ?_;refine aB ?_;refine aA rfl rfl rfl (bA bK rfl rfl (offr + k) ⟨by omega, by omega, by first | omega | (simp; done) | (simp; omega)⟩) ?_;refine aA rfl rfl rfl (aM Tryz.isAgg3 rfl (dX (enc := (.int .i64 ·)) hSr hcr hk)) ?_;refine aA rfl rfl rfl (aF rfl) ?_;refine aJ ?_;refine aL (kh8 _ _ ?_);clear kh8;refine aB ?_;refine aA rfl rfl rfl (aG rfl) ?_;refine aA rfl rfl rfl (aG rfl) ?_;refine aA rfl rfl rfl (d6 rfl) ?_;refine aA rfl rfl rfl (aQ jN rfl) ?_;refine aA rfl rfl rfl (aM Tryz.isAgg25 rfl (rdS hSs (hcs 0 _ rfl))) ?_;refine aA rfl rfl rfl (aG rfl) ?_;refine aA rfl rfl rfl (bA bK rfl rfl (offl + (rows v)[k].toNat) ⟨by omega, by omega, by first | omega | (simp; done) | (simp; omega)⟩) ?_;refine aA rfl rfl rfl (aM Tryz.isAgg3 rfl (show Rd _ _ _ _ _ (.int .i64 (lab L (rows v)[k])) by rw [kK (by omega)]; exact dX (enc := (.int .i64 ·)) hSl hcl (by omega))) ?_;refine aA rfl rfl rfl (fW kt86 Tryz.zeroValue3 rfl rfl rfl (.int .i64 (k5 L ((rows v).take k) (lab L (rows v)[k]) : Int)) (hC _)) ?_;refine aA rfl rfl rfl (bG rfl rfl _ (aT (by omega))) ?_;refine bF rfl rfl (gO kt86 rfl rfl rfl rfl ?_);refine aJ ?_;refine cV ?_;refine aL (kh7 _ _ ?_);clear kh7;refine aB ?_;refine aA rfl rfl rfl (bG rfl rfl _ (aT (by omega))) ?_;refine aA rfl rfl rfl (aG rfl) ?_;refine aJ ?_;refine aL (bB (k + 1, eW ents (lab L (rows v)[k]) (.int .i64 ((k5 L ((rows v).take k) (lab L (rows v)[k]) : Int) + 1)) c, fF ents (lab L (rows v)[k]) c) (by first | omega | (dsimp only; omega) | (simp; omega)) ⟨by omega, hmap.put _ _, hC.next hk⟩ ?_ ?_ ?_)
   · exact (by repeat constructor)
   · exact (by repeat constructor)
   · repeat first|exact aI|refine aD ?_|refine aC rfl ?_|refine aH ?_
  ·
   refine cG ?_;refine cK ?_;clear kh6;refine cK ?_;refine d5 ?_;refine aL (kh3 _ _ ?_);clear kh3;refine aK fun K9 kh9 => ?_;refine aB ?_;refine aA rfl rfl rfl (aG rfl) ?_;refine aA rfl rfl rfl (aF rfl) ?_;refine aJ ?_;refine aL (kh9 _ _ ?_);clear kh9;refine a7 ?_;exact bP [[(b8, f3 (fun x : Int => .int .i64 x) ents c)]] Tryz.results91 rfl (by repeat (first | exact aI | refine aD ?_)) ⟨b8, ents, c, rfl, rfl, hmap, by rw [List.take_of_length_le (by omega)] at hC; exact hC⟩
set_option maxRecDepth 100000 in
set_option maxHeartbeats 4000000 in
theorem next_spec (n : Nat) (rows : Nat → List Int) (L S : List Int) (bs : Nat) (Al : Option Addr) (cl bo bz : Nat) (vs : List Value) (bd : Int) (w : World) (hs : LSee n rows L S bs w Al cl bo bz vs) (hO : LOk n rows L S) :
    Meets Tryz.prog 64 [.pointer (some ⟨bs, 0, none⟩), .int .i64 bd] w [] (fun u own' => u = .tuple #[.agg (mvCs (g7 L S rows bd n)).toArray, .bool (decide (0 < (g7 L S rows bd n).2.2))] ∧ own' = []) := by
 obtain ⟨_, _, e1_, hSs, hcs⟩ := hs.cells (by simp)
 cases e1_
 have hn := hO.n1
 have hLn := hO.len
 have hsl := hO.slen
 refine bJ Tryz.func64 rfl Tryz.ntmps64 rfl Owns.nil ?_;refine aK fun K1 kh1 => ?_;refine aB ?_;refine aR rfl rfl rfl (cU Tryz.zeroValue109 rfl fun b4 => ?_);refine aA rfl rfl rfl (aF rfl) ?_;refine aJ ?_;refine aL (kh1 _ _ ?_);clear kh1;refine aK fun K2 kh2 => ?_;refine aB ?_;refine aR rfl rfl rfl (cU Tryz.zeroValue109 rfl fun b6 => ?_);refine aJ ?_;refine aL (kh2 _ _ ?_);clear kh2;refine aK fun K3 kh3 => ?_;refine aK fun K4 kh4 => ?_;refine aB ?_;refine aA rfl rfl rfl (aG rfl) ?_;refine aA rfl rfl rfl (d6 rfl) ?_;refine aA rfl rfl rfl (aQ fa114_1 rfl) ?_;refine aA rfl rfl rfl (aM Tryz.isAgg30 rfl (rdS hSs (hcs 1 _ rfl))) ?_;refine aA rfl rfl rfl (bS gD rfl) ?_;refine aA rfl rfl rfl (aG rfl) ?_;refine aJ ?_;refine aL (kh4 _ _ ?_);clear kh4;refine aY ?_;refine cS (α := Nat) [0, 1, 4, 6, 16] (fun k => [(17, .int .i64 (k : Int))]) (fun k => [[(b4, blk [.int .i64 0, .int .i64 0, .int .i64 0] 109)], [(b6, blk (mvCs (g7 L S rows bd k)) 109)]]) (fun k => k ≤ n) (fun k => n - k) (0) ?_ ?_ ?_ ?_
 · exact (by repeat constructor)
 · repeat first|exact aI|refine aD ?_|refine aC rfl ?_|refine aH ?_
 · exact Nat.zero_le _
 ·
  rintro k hkn;refine aK fun K5 kh5 => ?_;refine aB ?_;refine aA rfl rfl rfl (cD rfl rfl) ?_;refine aJ ?_;refine aL (kh5 _ _ ?_);clear kh5;refine aK fun K6 kh6 => ?_;refine aZ rfl (fun c18 => ?_) (fun c18 => ?_)
  ·
   have hk : k < n := by omega
   obtain ⟨bl, offl, rfl, hSl, hcl⟩ := hs.labs (fun e => by have := aX L; rw [e] at this; simp at this; omega)
   have hrl := hO.rlen k hk
   refine aW ?_;refine aL (kh6 _ _ ?_);clear kh6;refine aK fun K7 kh7 => ?_;refine aY ?_;refine aK fun K8 kh8 => ?_;refine aB ?_;refine aA rfl rfl rfl (aG rfl) ?_;refine aA rfl rfl rfl (aF rfl) ?_;refine aJ ?_;refine aL (kh8 _ _ ?_);clear kh8;refine aK fun K9 kh9 => ?_;refine aB ?_;refine aA rfl rfl rfl (aG rfl) ?_;refine aA rfl rfl rfl (d6 rfl) ?_;refine aA rfl rfl rfl (aQ jN rfl) ?_;refine aA rfl rfl rfl (aM Tryz.isAgg25 rfl (rdS hSs (hcs 0 _ rfl))) ?_;refine aA rfl rfl rfl (aG rfl) ?_;refine aA rfl rfl rfl (bA bK rfl rfl (offl + k) ⟨by omega, by omega, by first | omega | (simp; done) | (simp; omega)⟩) ?_;refine aA rfl rfl rfl (aM Tryz.isAgg3 rfl (show Rd _ _ _ _ _ (.int .i64 (lab L (k : Int))) by rw [kK (by simp; omega)]; exact dX (enc := (.int .i64 ·)) hSl hcl (by omega))) ?_;refine aA rfl rfl rfl (aF rfl) ?_;refine aJ ?_;refine aL (kh9 _ _ ?_);clear kh9;refine aK fun K10 kh10 => ?_;refine aB ?_;refine aA rfl rfl rfl (aG rfl) ?_;refine aA rfl rfl rfl (aG rfl) ?_;refine aR rfl rfl rfl (bD Tryz.call91 rfl (fun w_ hp_ => aroundL_spec n rows L S bs _ cl bo bz vs k w_ (hs.up0 hp_) hO hk) ?_);rintro _ _ ⟨bm, ents, c, rfl, rfl, hmap, hC⟩;dsimp only [List.cons_append, List.nil_append];refine aA rfl rfl rfl (aF rfl) ?_;refine aJ ?_;refine aL (kh10 _ _ ?_);clear kh10;refine aK fun K11 kh11 => ?_;refine aB ?_;refine aA rfl rfl rfl (aG rfl) ?_;refine aA rfl rfl rfl (d6 rfl) ?_;refine aA rfl rfl rfl (aQ fa114_2 rfl) ?_;refine aA rfl rfl rfl (aM Tryz.isAgg25 rfl (rdS hSs (hcs 2 _ rfl))) ?_;refine aA rfl rfl rfl (bS bK rfl) ?_;refine aA rfl rfl rfl (aG rfl) ?_;refine aJ ?_;refine aL (kh11 _ _ ?_);clear kh11;refine aY ?_;refine cS (α := Nat) [0, 1, 4, 6, 7, 8, 9, 16, 17, 34] (fun j => [(35, .int .i64 (j : Int))]) (fun j => [[(b4, blk [.int .i64 0, .int .i64 0, .int .i64 0] 109)], [(b6, blk (mvCs (gR L S (rows k) bd k j (g7 L S rows bd k))) 109)], [(bm, f3 (fun x : Int => .int .i64 x) ents c)]]) (fun j => j ≤ S.length) (fun j => S.length - j) (0) ?_ ?_ ?_ ?_
   · exact (by repeat constructor)
   · repeat first|exact aI|refine aD ?_|refine aC rfl ?_|refine aH ?_
   · exact Nat.zero_le _
   ·
    rintro j hjn;refine eX (e := [(35, _), (0, _), (1, _), (4, _), (6, _), (7, _), (8, _), (9, _), (16, _), (17, _), (34, _)]) (by repeat constructor) ?_;refine aK fun K12 kh12 => ?_;refine aB ?_;refine aA rfl rfl rfl (cD rfl rfl) ?_;refine aJ ?_;refine aL (kh12 _ _ ?_);clear kh12;refine aK fun K13 kh13 => ?_;refine aZ rfl (fun c36 => ?_) (fun c36 => ?_)
    ·
     have hj : j < S.length := by omega
     obtain ⟨_, _, e4_, hSz, hcz⟩ := hs.size (fun e => by have := aX S; rw [e] at this; simp at this; omega)
     cases e4_
     have hn1 := ncnt_le L (rows k) (j : Int)
     have hn2 := ncnt_le L (rows k) (lab L (k : Int))
     have hSj : S.getD j 0 = S[j] := by simp [hj]
     refine aW ?_;refine aL (kh13 _ _ ?_);clear kh13;refine aK fun K14 kh14 => ?_;refine aY ?_;refine aK fun K15 kh15 => ?_;refine aB ?_;refine aA rfl rfl rfl (aG rfl) ?_;refine aA rfl rfl rfl (aF rfl) ?_;refine aJ ?_;refine aL (kh15 _ _ ?_);clear kh15;refine aK fun K16 kh16 => ?_;refine aB ?_;refine aA rfl rfl rfl (aG rfl) ?_;refine aA rfl rfl rfl (aG rfl) ?_;refine aA rfl rfl rfl (fW kt86 Tryz.zeroValue3 rfl rfl rfl (.int .i64 (k5 L (rows k) (j : Int) : Int)) (hC _)) ?_;refine aA rfl rfl rfl (aG rfl) ?_;refine aA rfl rfl rfl (aG rfl) ?_;refine aA rfl rfl rfl (fW kt86 Tryz.zeroValue3 rfl rfl rfl (.int .i64 (k5 L (rows k) (lab L (k : Int)) : Int)) (hC _)) ?_;refine aA rfl rfl rfl (fV rfl rfl _ (Eq.trans (aT (by omega)) (show _ = gn L (rows k) (lab L (k : Int)) (j : Int) from rfl))) ?_;refine aA rfl rfl rfl (aF rfl) ?_;refine aJ ?_;refine aL (kh16 _ _ ?_);clear kh16;refine aK fun K17 kh17 => ?_;refine aB ?_;refine aA rfl rfl rfl (aG rfl) ?_;refine aA rfl rfl rfl (aG rfl) ?_;refine aA rfl rfl rfl (c6 rfl rfl) ?_;refine aA rfl rfl rfl (aG rfl) ?_;refine cX 48 rfl (fun g48 => ?_) (fun g48 => ?_)
     ·
      refine aO rfl rfl rfl rfl rfl (aG rfl) ?_;refine aO rfl rfl rfl rfl rfl (aG rfl) ?_;refine aO rfl rfl rfl rfl rfl (fW kt86 Tryz.zeroValue3 rfl rfl rfl (.int .i64 (k5 L (rows k) (j : Int) : Int)) (hC _)) ?_;refine aO rfl rfl rfl rfl rfl (eQ rfl rfl) ?_;refine aA rfl rfl rfl (cF rfl rfl) ?_;refine aA rfl rfl rfl (aG rfl) ?_;refine cX 54 rfl (fun g54 => ?_) (fun g54 => ?_)
      ·
       refine aO rfl rfl rfl rfl rfl (aG rfl) ?_;refine aO rfl rfl rfl rfl rfl (d6 rfl) ?_;refine aO rfl rfl rfl rfl rfl (aQ fa114_2 rfl) ?_;refine aO rfl rfl rfl rfl rfl (aM Tryz.isAgg25 rfl (rdS hSs (hcs 2 _ rfl))) ?_;refine aO rfl rfl rfl rfl rfl (aG rfl) ?_;refine aO rfl rfl rfl rfl rfl (bA bK rfl rfl (0 + j) ⟨by omega, by omega, by first | omega | (simp; done) | (simp; omega)⟩) ?_;refine aO rfl rfl rfl rfl rfl (aM Tryz.isAgg3 rfl (dX (enc := (.int .i64 ·)) hSz hcz hj)) ?_;refine aO rfl rfl rfl rfl rfl (aG rfl) ?_;refine aO rfl rfl rfl rfl rfl (cD rfl rfl) ?_;refine aA rfl rfl rfl (cF rfl rfl) ?_;refine aA rfl rfl rfl (aG rfl) ?_;refine cX 65 rfl (fun g65 => ?_) (fun g65 => ?_)
       ·
        refine aO rfl rfl rfl rfl rfl (aG rfl) ?_;refine aO rfl rfl rfl rfl rfl (aQ fa109_2 rfl) ?_;refine aO rfl rfl rfl rfl rfl (aM Tryz.isAgg3 rfl (rdA rfl)) ?_;refine aO rfl rfl rfl rfl rfl (eQ rfl rfl) ?_;refine aA rfl rfl rfl (cF rfl rfl) ?_;refine aJ ?_;refine aL (kh17 _ _ ?_);clear kh17;refine aZ rfl (fun c70 => ?_) (fun c70 => ?_)
        ·
         refine aB ?_;refine aA rfl rfl rfl (aG rfl) ?_;refine aA rfl rfl rfl (aG rfl) ?_;refine aA rfl rfl rfl (aG rfl) ?_;refine aA rfl rfl rfl (dB (cs := mvCs ((k : Int), (j : Int), gn L (rows k) (lab L (k : Int)) (j : Int))) st109 rfl rfl) ?_;refine bF rfl rfl (cA Tryz.sizeOf109 rfl rfl rfl rfl (by first | exact Nat.le_of_ble_eq_true rfl | (simp; done) | (simp; omega)) (mvCs ((k : Int), (j : Int), gn L (rows k) (lab L (k : Int)) (j : Int))) rfl ?_);refine aJ ?_;refine cV ?_;refine aL (kh14 _ _ ?_);clear kh14;have hup : gR L S (rows k) bd k (j + 1) (g7 L S rows bd k) = ((k : Int), (j : Int), gn L (rows k) (lab L (k : Int)) (j : Int)) := by rw [iD, mvUp, if_pos ⟨by omega, by omega, by omega, by omega⟩]
         refine iS b6 (mvCs (gR L S (rows k) bd k (j + 1) (g7 L S rows bd k))) (by rw [hup]) ?_;refine aB ?_;refine aA rfl rfl rfl (bG rfl rfl _ (aT (by omega))) ?_;refine aA rfl rfl rfl (aG rfl) ?_;refine aJ ?_;refine aL (bB (j + 1) (by first | omega | (dsimp only; omega) | (simp; omega)) (by omega) ?_ ?_ ?_)
         · exact (by repeat constructor)
         · exact (by repeat constructor)
         · repeat first|exact aI|refine aD ?_|refine aC rfl ?_|refine aH ?_
        ·
         refine aW ?_;refine cV ?_;refine aL (kh14 _ _ ?_);clear kh14;have hup : gR L S (rows k) bd k (j + 1) (g7 L S rows bd k) = gR L S (rows k) bd k j (g7 L S rows bd k) := by rw [iD, mvUp, if_neg (by rintro ⟨h1, h2, h3, h4⟩; omega)]
         refine iS b6 (mvCs (gR L S (rows k) bd k (j + 1) (g7 L S rows bd k))) (by rw [hup]) ?_;refine aB ?_;refine aA rfl rfl rfl (bG rfl rfl _ (aT (by omega))) ?_;refine aA rfl rfl rfl (aG rfl) ?_;refine aJ ?_;refine aL (bB (j + 1) (by first | omega | (dsimp only; omega) | (simp; omega)) (by omega) ?_ ?_ ?_)
         · exact (by repeat constructor)
         · exact (by repeat constructor)
         · repeat first|exact aI|refine aD ?_|refine aC rfl ?_|refine aH ?_
       ·
        refine aS rfl rfl rfl rfl rfl rfl ?_;refine aS rfl rfl rfl rfl rfl rfl ?_;refine aS rfl rfl rfl rfl rfl rfl ?_;refine aS rfl rfl rfl rfl rfl rfl ?_;refine aA rfl rfl rfl (cO rfl rfl) ?_;refine aJ ?_;refine aL (kh17 _ _ ?_);clear kh17;refine gZ rfl ?_;refine aW ?_;refine cV ?_;refine aL (kh14 _ _ ?_);clear kh14;have hup : gR L S (rows k) bd k (j + 1) (g7 L S rows bd k) = gR L S (rows k) bd k j (g7 L S rows bd k) := by rw [iD, mvUp, if_neg (by rintro ⟨h1, h2, h3, h4⟩; omega)]
        refine iS b6 (mvCs (gR L S (rows k) bd k (j + 1) (g7 L S rows bd k))) (by rw [hup]) ?_;refine aB ?_;refine aA rfl rfl rfl (bG rfl rfl _ (aT (by omega))) ?_;refine aA rfl rfl rfl (aG rfl) ?_;refine aJ ?_;refine aL (bB (j + 1) (by first | omega | (dsimp only; omega) | (simp; omega)) (by omega) ?_ ?_ ?_)
        · exact (by repeat constructor)
        · exact (by repeat constructor)
        · repeat first|exact aI|refine aD ?_|refine aC rfl ?_|refine aH ?_
      ·
       refine aS rfl rfl rfl rfl rfl rfl ?_;refine aS rfl rfl rfl rfl rfl rfl ?_;refine aS rfl rfl rfl rfl rfl rfl ?_;refine aS rfl rfl rfl rfl rfl rfl ?_;refine aS rfl rfl rfl rfl rfl rfl ?_;refine aS rfl rfl rfl rfl rfl rfl ?_;refine aS rfl rfl rfl rfl rfl rfl ?_;refine aS rfl rfl rfl rfl rfl rfl ?_;refine aS rfl rfl rfl rfl rfl rfl ?_;refine aA rfl rfl rfl (cO rfl rfl) ?_;refine aA rfl rfl rfl (aG rfl) ?_;refine aS rfl rfl rfl rfl rfl rfl ?_;refine aS rfl rfl rfl rfl rfl rfl ?_;refine aS rfl rfl rfl rfl rfl rfl ?_;refine aS rfl rfl rfl rfl rfl rfl ?_;refine aA rfl rfl rfl (cO rfl rfl) ?_;refine aJ ?_;refine aL (kh17 _ _ ?_);clear kh17;refine gZ rfl ?_;refine aW ?_;refine cV ?_;refine aL (kh14 _ _ ?_);clear kh14;have hup : gR L S (rows k) bd k (j + 1) (g7 L S rows bd k) = gR L S (rows k) bd k j (g7 L S rows bd k) := by rw [iD, mvUp, if_neg (by rintro ⟨h1, h2, h3, h4⟩; omega)]
       refine iS b6 (mvCs (gR L S (rows k) bd k (j + 1) (g7 L S rows bd k))) (by rw [hup]) ?_;refine aB ?_;refine aA rfl rfl rfl (bG rfl rfl _ (aT (by omega))) ?_;refine aA rfl rfl rfl (aG rfl) ?_;refine aJ ?_;refine aL (bB (j + 1) (by first | omega | (dsimp only; omega) | (simp; omega)) (by omega) ?_ ?_ ?_)
       · exact (by repeat constructor)
       · exact (by repeat constructor)
       · repeat first|exact aI|refine aD ?_|refine aC rfl ?_|refine aH ?_
     ·
      refine aS rfl rfl rfl rfl rfl rfl ?_;refine aS rfl rfl rfl rfl rfl rfl ?_;refine aS rfl rfl rfl rfl rfl rfl ?_;refine aS rfl rfl rfl rfl rfl rfl ?_;refine aA rfl rfl rfl (cO rfl rfl) ?_;refine aA rfl rfl rfl (aG rfl) ?_;refine aS rfl rfl rfl rfl rfl rfl ?_;refine aS rfl rfl rfl rfl rfl rfl ?_;refine aS rfl rfl rfl rfl rfl rfl ?_;refine aS rfl rfl rfl rfl rfl rfl ?_;refine aS rfl rfl rfl rfl rfl rfl ?_;refine aS rfl rfl rfl rfl rfl rfl ?_;refine aS rfl rfl rfl rfl rfl rfl ?_;refine aS rfl rfl rfl rfl rfl rfl ?_;refine aS rfl rfl rfl rfl rfl rfl ?_;refine aA rfl rfl rfl (cO rfl rfl) ?_;refine aA rfl rfl rfl (aG rfl) ?_;refine aS rfl rfl rfl rfl rfl rfl ?_;refine aS rfl rfl rfl rfl rfl rfl ?_;refine aS rfl rfl rfl rfl rfl rfl ?_;refine aS rfl rfl rfl rfl rfl rfl ?_;refine aA rfl rfl rfl (cO rfl rfl) ?_;refine aJ ?_;refine aL (kh17 _ _ ?_);clear kh17;refine gZ rfl ?_;refine aW ?_;refine cV ?_;refine aL (kh14 _ _ ?_);clear kh14;have hup : gR L S (rows k) bd k (j + 1) (g7 L S rows bd k) = gR L S (rows k) bd k j (g7 L S rows bd k) := by rw [iD, mvUp, if_neg (by rintro ⟨h1, h2, h3, h4⟩; omega)]
      refine iS b6 (mvCs (gR L S (rows k) bd k (j + 1) (g7 L S rows bd k))) (by rw [hup]) ?_;refine aB ?_;refine aA rfl rfl rfl (bG rfl rfl _ (aT (by omega))) ?_;refine aA rfl rfl rfl (aG rfl) ?_;refine aJ ?_;refine aL (bB (j + 1) (by first | omega | (dsimp only; omega) | (simp; omega)) (by omega) ?_ ?_ ?_)
      · exact (by repeat constructor)
      · exact (by repeat constructor)
      · repeat first|exact aI|refine aD ?_|refine aC rfl ?_|refine aH ?_
    ·
     have hj' : j = S.length := by omega
     refine iS b6 (mvCs (g7 L S rows bd (k + 1))) (by rw [mvTo_next, hj']) ?_;refine cG ?_;refine cK ?_;clear kh13;refine cK ?_;refine d5 ?_;refine cV ?_;refine aL (kh7 _ _ ?_);clear kh7;refine aB ?_;refine aA rfl rfl rfl (bG rfl rfl _ (aT (by omega))) ?_;refine aA rfl rfl rfl (aG rfl) ?_;refine aJ ?_;refine aL (bB (k + 1) (by first | omega | (dsimp only; omega) | (simp; omega)) (by omega) ?_ ?_ ?_)
     · exact (by repeat constructor)
     · exact (by repeat constructor)
     · repeat first|exact aI|refine aD ?_|refine aC rfl ?_|refine aH ?_
  ·
   refine cG ?_;refine cK ?_;clear kh6;refine cK ?_;refine d5 ?_;refine aL (kh3 _ _ ?_);clear kh3;refine aK fun K18 kh18 => ?_;obtain rfl : k = n := by omega
   refine dH [[(b6, blk (mvCs (g7 L S rows bd k)) 109)]] rfl ?_;refine aU 0 rfl (by decide +kernel) rfl rfl rfl (by repeat first|exact aI|refine aD ?_|refine aC rfl ?_|refine aH ?_) (a8 (vs := [_, _, _]) Tryz.isAgg109 Tryz.sizeOf109 rfl rfl ⟨(rdA rfl), (rdA rfl), (rdA rfl), trivial⟩) ?_;refine aU 1 rfl (by decide +kernel) rfl rfl rfl (by repeat first|exact aI|refine aD ?_|refine aC rfl ?_|refine aH ?_) (aQ fa109_2 rfl) ?_;refine aU 2 rfl (by decide +kernel) rfl rfl rfl (by repeat first|exact aI|refine aD ?_|refine aC rfl ?_|refine aH ?_) (aM Tryz.isAgg3 rfl (rdA rfl)) ?_;refine aU 3 rfl (by decide +kernel) rfl rfl rfl (by repeat first|exact aI|refine aD ?_|refine aC rfl ?_|refine aH ?_) (eQ rfl rfl) ?_;refine eM 4 rfl (by decide +kernel) rfl rfl (cA Tryz.sizeOf109 rfl rfl rfl rfl (by first | exact Nat.le_of_ble_eq_true rfl | (simp; done) | (simp; omega)) (mvCs (g7 L S rows bd k)) rfl ⟨(by repeat first|exact aI|refine aD ?_|refine aC rfl ?_|refine aH ?_), ?_⟩);refine bQ 5 rfl (by decide +kernel) rfl rfl rfl ((aF rfl).does ⟨(by repeat first|exact aI|refine aD ?_|refine aC rfl ?_|refine aH ?_), ?_⟩);refine dF (by decide +kernel) ?_;refine aL (kh18 _ _ ?_);clear kh18;refine a7 ?_;exact iR (vs := mvCs (g7 L S rows bd k)) [] Tryz.results64 rfl Tryz.isAgg109 Tryz.sizeOf109 rfl ⟨(rdA rfl), (rdA rfl), (rdA rfl), trivial⟩ rfl aI ⟨rfl, rfl⟩
set_option maxRecDepth 100000 in
set_option maxHeartbeats 4000000 in
theorem do_spec (n : Nat) (rows : Nat → List Int) (L S : List Int) (bs : Nat) (m : Seg) (v j : Nat) (g : Int) (w : World) (hS : LRep n rows L S bs m) (hO : LOk n rows L S) (hv : v < n) (hj : j < S.length) (ho : Owns w [m]) :
    Meets Tryz.prog 65 [.pointer (some ⟨bs, 0, none⟩), .agg (mvCs ((v : Int), (j : Int), g)).toArray] w [m] (fun u own' => ∃ m', own' = [m'] ∧ LRep n rows (tdy (L.set v (j : Int))) (szs (sns (L.set v (j : Int))).length (tdy (L.set v (j : Int)))) bs m') := by
 refine bJ Tryz.func65 rfl Tryz.ntmps65 rfl ho ?_;obtain ⟨Al, cl, ml, bo, vs, ms, bz, hm, hlo, hrw⟩ := hS
 refine gB (Sub.of_perm hm) ?_
 unfold k9
 have hLn := hO.len
 have hn1 := hO.n1
 obtain ⟨bl, spl, rfl, rfl⟩ := hlo.at_ (by omega)
 obtain ⟨L2, hL2⟩ : ∃ L2, L2 = L.set v (j : Int) := ⟨_, rfl⟩
 rw [← hL2];have hL2n : L2.length = n := by rw [hL2, List.length_set]; exact hLn
 refine aK fun K1 kh1 => ?_;refine aB ?_;refine aR rfl rfl rfl (cZ rfl rfl fun b3 => ?_);refine aJ ?_;refine aL (kh1 _ _ ?_);clear kh1;refine aK fun K2 kh2 => ?_;refine dH [[(bs, blk [.slice (some ⟨bl, 0, none⟩) L.length cl, .slice (some ⟨bo, 0, none⟩) n n, .slice (some ⟨bz, 0, none⟩) S.length S.length] 114)], [(b3, blk (mvCs ((v : Int), (j : Int), g)) 109)]] rfl ?_;refine aU 0 rfl (by decide +kernel) rfl rfl rfl (by repeat first|exact aI|refine aD ?_|refine aC rfl ?_|refine aH ?_) (aG rfl) ?_;refine aU 1 rfl (by decide +kernel) rfl rfl rfl (by repeat first|exact aI|refine aD ?_|refine aC rfl ?_|refine aH ?_) (d6 rfl) ?_;refine aU 2 rfl (by decide +kernel) rfl rfl rfl (by repeat first|exact aI|refine aD ?_|refine aC rfl ?_|refine aH ?_) (aQ jN rfl) ?_;refine aU 3 rfl (by decide +kernel) rfl rfl rfl (by repeat first|exact aI|refine aD ?_|refine aC rfl ?_|refine aH ?_) (aM Tryz.isAgg25 rfl (rdA rfl)) ?_;refine aU 4 rfl (by decide +kernel) rfl rfl rfl (by repeat first|exact aI|refine aD ?_|refine aC rfl ?_|refine aH ?_) (aQ fa109_0 rfl) ?_;refine aU 5 rfl (by decide +kernel) rfl rfl rfl (by repeat first|exact aI|refine aD ?_|refine aC rfl ?_|refine aH ?_) (aM Tryz.isAgg3 rfl (rdA rfl)) ?_;refine aU 6 rfl (by decide +kernel) rfl rfl rfl (by repeat first|exact aI|refine aD ?_|refine aC rfl ?_|refine aH ?_) (aQ fa109_1 rfl) ?_;refine aU 7 rfl (by decide +kernel) rfl rfl rfl (by repeat first|exact aI|refine aD ?_|refine aC rfl ?_|refine aH ?_) (aM Tryz.isAgg3 rfl (rdA rfl)) ?_;refine aU 8 rfl (by decide +kernel) rfl rfl rfl (by repeat first|exact aI|refine aD ?_|refine aC rfl ?_|refine aH ?_) (bA bK rfl rfl (v) ⟨by omega, by omega, by first | omega | (simp; done) | (simp; omega)⟩) ?_;refine eM 9 rfl (by decide +kernel) rfl rfl (cB Tryz.sizeOf3 rfl rfl rfl rfl (by rw [List.length_append, aX]; omega) (a6 L2 ++ spl) (by rw [hL2, List.set_append_left _ _ (by rw [aX]; omega)]; simp [a6, List.map_set]) ⟨(by repeat first|exact aI|refine aD ?_|refine aC rfl ?_|refine aH ?_), ?_⟩);refine dF (by decide +kernel) ?_;refine aL (kh2 _ _ ?_);clear kh2;refine aK fun K3 kh3 => ?_;refine aB ?_;refine aR rfl rfl rfl (iH fun b20 => ?_);refine aA rfl rfl rfl (aF rfl) ?_;refine aJ ?_;refine aL (kh3 _ _ ?_);clear kh3;refine aK fun K4 kh4 => ?_;refine aK fun K5 kh5 => ?_;refine aB ?_;refine aA rfl rfl rfl (aG rfl) ?_;refine aA rfl rfl rfl (d6 rfl) ?_;refine aA rfl rfl rfl (aQ jN rfl) ?_;refine aA rfl rfl rfl (aM Tryz.isAgg25 rfl (rdA rfl)) ?_
 refine aA rfl rfl rfl (bS bK rfl) ?_;refine aA rfl rfl rfl (aG rfl) ?_;refine aJ ?_;refine aL (kh5 _ _ ?_);clear kh5;refine aY ?_;refine cS (α := Nat × List (Int × Value × Nat) × Nat) [0, 4, 24, 25] (fun ⟨k, ents, c⟩ => [(26, .int .i64 (k : Int))]) (fun ⟨k, ents, c⟩ => [[(bs, blk [.slice (some ⟨bl, 0, none⟩) L.length cl, .slice (some ⟨bo, 0, none⟩) n n, .slice (some ⟨bz, 0, none⟩) S.length S.length] 114)], [(bl, blk (a6 (i9 L2 k) ++ spl) 3)], [(bo, blk vs 25)], ms.flatten, [(b20, f3 (fun x : Int => .int .i64 x) ents c)]]) (fun ⟨k, ents, c⟩ => k ≤ n ∧ MOk ents c ∧ Nums (sns (L2.take k)) ents) (fun ⟨k, ents, c⟩ => n - k) (0, [], 0) ?_ ?_ ?_ ?_
 · exact (by repeat constructor)
 · dsimp only
   rw [tdyTo_zero]
   repeat first|exact aI|refine aD ?_|refine aC rfl ?_|refine aH ?_
 · exact ⟨by omega, MOk.nil, Nums.nil⟩
 ·
  rintro ⟨k, ents, c⟩ ⟨hkn, hmap, hNm⟩;refine aK fun K6 kh6 => ?_;refine aB ?_;refine aA rfl rfl rfl (cD rfl rfl) ?_;refine aJ ?_;refine aL (kh6 _ _ ?_);clear kh6;refine aK fun K7 kh7 => ?_;refine aZ rfl (fun c27 => ?_) (fun c27 => ?_)
  ·
   have hk : k < L2.length := by omega
   have hsn := jV hk
   have hsl := sns_len (L := L2) (k := k) (by omega)
   refine aW ?_;refine aL (kh7 _ _ ?_);clear kh7;refine aK fun K8 kh8 => ?_;refine aY ?_;refine aK fun K9 kh9 => ?_;refine aB ?_;refine aA rfl rfl rfl (aG rfl) ?_;refine aA rfl rfl rfl (bA bK rfl rfl (k) ⟨by omega, by omega, by first | omega | (simp; done) | (simp; omega)⟩) ?_;refine aA rfl rfl rfl (aM Tryz.isAgg3 rfl (rdA (v := .int .i64 L2[k]) (dN (by rw [dL (by rw [fS]; exact hk), tdyTo_get hk])))) ?_;refine aA rfl rfl rfl (aF rfl) ?_;refine aA rfl rfl rfl (aF rfl) ?_;refine aJ ?_;refine aL (kh9 _ _ ?_);clear kh9;refine aK fun K10 kh10 => ?_;refine aB ?_;refine aA rfl rfl rfl (aG rfl) ?_;refine aA rfl rfl rfl (aG rfl) ?_;refine aA rfl rfl rfl (o_lookup2 kt86 Tryz.zeroValue3 rfl rfl rfl (.int .i64 (if L2[k] ∈ sns (L2.take k) then (((sns (L2.take k)).idxOf L2[k] : Nat) : Int) else 0)) (by rw [hNm.2]; split <;> rfl) (decide (L2[k] ∈ sns (L2.take k))) (by rw [hNm.2]; split <;> simp_all)) ?_;refine aA rfl rfl rfl (aG rfl) ?_;refine aA rfl rfl rfl (aV rfl rfl) ?_;refine aA rfl rfl rfl (aV rfl rfl) ?_;refine aA rfl rfl rfl (aF rfl) ?_;refine aA rfl rfl rfl (aF rfl) ?_;refine aJ ?_;refine aL (kh10 _ _ ?_);clear kh10;refine aK fun K11 kh11 => ?_;refine aK fun K12 kh12 => ?_;refine aB ?_;refine aA rfl rfl rfl (aG rfl) ?_;refine aA rfl rfl rfl (kG rfl) ?_;refine aJ ?_;refine aL (kh12 _ _ ?_);clear kh12;refine fC rfl (fun c38 => ?_) (fun c38 => ?_)
   ·
    have hx : L2[k] ∉ sns (L2.take k) := by simpa using c38
    rw [if_neg hx] at hsn;have hjt : ents.length = (sns (L2.take (k + 1))).idxOf L2[k] := by rw [hsn, List.idxOf_append, if_neg hx, hNm.1]; simp
    refine aK fun K13 kh13 => ?_;refine aB ?_;refine aA rfl rfl rfl (aG rfl) ?_;refine aA rfl rfl rfl (o_lenM kt86.und rfl) ?_;refine aA rfl rfl rfl (aF rfl) ?_;refine aJ ?_;refine aL (kh13 _ _ ?_);clear kh13;refine aB ?_;refine aA rfl rfl rfl (aG rfl) ?_;refine aA rfl rfl rfl (aG rfl) ?_;refine aA rfl rfl rfl (aG rfl) ?_;refine bF rfl rfl (gO kt86 rfl rfl rfl rfl ?_);refine aJ ?_;refine aL (kh11 _ _ ?_);clear kh11;refine aB ?_;refine aA rfl rfl rfl (aG rfl) ?_;refine aA rfl rfl rfl (d6 rfl) ?_;refine aA rfl rfl rfl (aQ jN rfl) ?_;refine aA rfl rfl rfl (aM Tryz.isAgg25 rfl (rdA rfl)) ?_;refine aA rfl rfl rfl (aG rfl) ?_;refine aA rfl rfl rfl (aG rfl) ?_;refine aA rfl rfl rfl (bA bK rfl rfl (k) ⟨by omega, by omega, by first | omega | (simp; done) | (simp; omega)⟩) ?_;refine bF rfl rfl (cB Tryz.sizeOf3 rfl rfl rfl rfl (by rw [List.length_append, aX, fS]; omega) (a6 (i9 L2 (k + 1)) ++ spl) (by rw [lI hk hjt, List.set_append_left _ _ (by rw [aX, fS]; omega)]; simp [a6, List.map_set]) ?_);refine aJ ?_;refine cV ?_;refine aL (kh8 _ _ ?_);clear kh8;refine aB ?_;refine aA rfl rfl rfl (bG rfl rfl _ (aT (by omega))) ?_;refine aA rfl rfl rfl (aG rfl) ?_;refine aJ ?_;refine aL (bB (k + 1, eW ents L2[k] (.int .i64 (ents.length : Int)) c, fF ents L2[k] c) (by first | omega | (dsimp only; omega) | (simp; omega)) ⟨by omega, hmap.put _ _, by rw [hsn]; have := hNm.add hx c; rw [← hNm.1] at this; exact this⟩ ?_ ?_ ?_)
    · exact (by repeat constructor)
    · exact (by repeat constructor)
    · repeat first|exact aI|refine aD ?_|refine aC rfl ?_|refine aH ?_
   ·
    have hx : L2[k] ∈ sns (L2.take k) := by simpa using c38
    rw [if_pos hx] at hsn;have hjf : (sns (L2.take k)).idxOf L2[k] = (sns (L2.take (k + 1))).idxOf L2[k] := by rw [hsn]
    refine f_reC 7 rfl (v := .int .i64 (((sns (L2.take k)).idxOf L2[k] : Nat) : Int)) (by rw [if_pos hx]) ?_;refine aW ?_;refine aL (kh11 _ _ ?_);clear kh11;refine aB ?_;refine aA rfl rfl rfl (aG rfl) ?_;refine aA rfl rfl rfl (d6 rfl) ?_;refine aA rfl rfl rfl (aQ jN rfl) ?_;refine aA rfl rfl rfl (aM Tryz.isAgg25 rfl (rdA rfl)) ?_;refine aA rfl rfl rfl (aG rfl) ?_;refine aA rfl rfl rfl (aG rfl) ?_;refine aA rfl rfl rfl (bA bK rfl rfl (k) ⟨by omega, by omega, by first | omega | (simp; done) | (simp; omega)⟩) ?_;refine bF rfl rfl (cB Tryz.sizeOf3 rfl rfl rfl rfl (by rw [List.length_append, aX, fS]; omega) (a6 (i9 L2 (k + 1)) ++ spl) (by rw [lI hk hjf, List.set_append_left _ _ (by rw [aX, fS]; omega)]; simp [a6, List.map_set]) ?_);refine aJ ?_;refine cV ?_;refine aL (kh8 _ _ ?_);clear kh8;refine aB ?_;refine aA rfl rfl rfl (bG rfl rfl _ (aT (by omega))) ?_;refine aA rfl rfl rfl (aG rfl) ?_;refine aJ ?_;refine aL (bB (k + 1, ents, c) (by first | omega | (dsimp only; omega) | (simp; omega)) ⟨by omega, hmap, by rw [hsn]; exact hNm⟩ ?_ ?_ ?_)
    · exact (by repeat constructor)
    · exact (by repeat constructor)
    · repeat first|exact aI|refine aD ?_|refine aC rfl ?_|refine aH ?_
  ·
   refine cG ?_;refine cK ?_;clear kh7;refine cK ?_;refine d5 ?_;refine aL (kh4 _ _ ?_);clear kh4;refine aK fun K14 kh14 => ?_;have hkn' : k = n := by omega
   rw [List.take_of_length_le (by omega)] at hNm;have hel := hNm.1
   have hsl := sns_len (L := L2) (k := k) (by omega)
   rw [List.take_of_length_le (by omega)] at hsl;refine iS bl (a6 (tdy L2) ++ spl) (by rw [hkn', ← hL2n, tdyTo_all]) ?_;refine aB ?_;refine aA rfl rfl rfl (aG rfl) ?_;refine aA rfl rfl rfl (aG rfl) ?_;refine aA rfl rfl rfl (o_lenM kt86.und rfl) ?_;refine aR rfl rfl rfl (d3 dV rfl rfl ents.length rfl (by omega) (by omega) (a6 (szs ents.length [])) (by rw [szs_nil]; simp [a6, List.flatten_replicate_singleton]) fun b55 => ?_);refine aA rfl rfl rfl (d6 rfl) ?_;refine aA rfl rfl rfl (aQ fa114_2 rfl) ?_;refine bF rfl rfl (cB Tryz.sizeOf25 rfl rfl rfl rfl (by first | exact Nat.le_of_ble_eq_true rfl | (simp; done) | (simp; omega)) [.slice (some ⟨bl, 0, none⟩) L.length cl, .slice (some ⟨bo, 0, none⟩) n n, .slice (some ⟨b55, 0, none⟩) ents.length ents.length] rfl ?_);refine aJ ?_;refine aL (kh14 _ _ ?_);clear kh14;refine aK fun K15 kh15 => ?_;refine aB ?_;refine aA rfl rfl rfl (aG rfl) ?_;refine aA rfl rfl rfl (d6 rfl) ?_;refine aA rfl rfl rfl (aQ jN rfl) ?_;refine aA rfl rfl rfl (aM Tryz.isAgg25 rfl (rdA rfl)) ?_;refine aA rfl rfl rfl (bS bK rfl) ?_;refine aA rfl rfl rfl (aG rfl) ?_;refine aJ ?_;refine aL (kh15 _ _ ?_);clear kh15;refine aY ?_;refine cS (α := Nat) [0, 61, 62] (fun q => [(63, .int .i64 (q : Int))]) (fun q => [[(bs, blk [.slice (some ⟨bl, 0, none⟩) L.length cl, .slice (some ⟨bo, 0, none⟩) n n, .slice (some ⟨b55, 0, none⟩) ents.length ents.length] 114)], [(bl, blk (a6 (tdy L2) ++ spl) 3)], [(bo, blk vs 25)], ms.flatten, [(b55, blk (a6 (szs ents.length ((tdy L2).take q))) 3)]]) (fun q => q ≤ n) (fun q => n - q) (0) ?_ ?_ ?_ ?_
   · exact (by repeat constructor)
   · repeat first|exact aI|refine aD ?_|refine aC rfl ?_|refine aH ?_
   · exact Nat.zero_le _
   ·
    rintro q hqn;refine eX (e := [(63, _), (0, _), (61, _), (62, _)]) (by repeat constructor) ?_;refine aK fun K16 kh16 => ?_;refine aB ?_;refine aA rfl rfl rfl (cD rfl rfl) ?_;refine aJ ?_;refine aL (kh16 _ _ ?_);clear kh16;refine aK fun K17 kh17 => ?_;refine aZ rfl (fun c64 => ?_) (fun c64 => ?_)
    ·
     have hq : q < (tdy L2).length := by rw [eR]; omega
     have hyr := tdy_rng _ (List.getElem_mem hq)
     obtain ⟨y, hy⟩ : ∃ y : Nat, (tdy L2)[q] = (y : Int) := ⟨(tdy L2)[q].toNat, by omega⟩
     have hyM : y < ents.length := by omega
     have hcl := cnt_le ((tdy L2).take q) y
     rw [List.length_take] at hcl;refine aW ?_;refine aL (kh17 _ _ ?_);clear kh17;refine aK fun K18 kh18 => ?_;refine aY ?_;refine aK fun K19 kh19 => ?_;refine aB ?_;refine aA rfl rfl rfl (bA bK rfl rfl (q) ⟨by omega, by omega, by first | omega | (simp; done) | (simp; omega)⟩) ?_;refine aA rfl rfl rfl (aM Tryz.isAgg3 rfl (rdA (v := .int .i64 (y : Int)) (dN (by rw [dL hq, hy])))) ?_;refine aA rfl rfl rfl (aF rfl) ?_;refine aJ ?_;refine aL (kh19 _ _ ?_);clear kh19;refine aB ?_;refine aA rfl rfl rfl (aG rfl) ?_;refine aA rfl rfl rfl (d6 rfl) ?_;refine aA rfl rfl rfl (aQ fa114_2 rfl) ?_;refine aA rfl rfl rfl (aM Tryz.isAgg25 rfl (rdA rfl)) ?_;refine aA rfl rfl rfl (aG rfl) ?_;refine aA rfl rfl rfl (bA bK rfl rfl (y) ⟨by omega, by omega, by first | omega | (simp; done) | (simp; omega)⟩) ?_;refine aA rfl rfl rfl (aM Tryz.isAgg3 rfl (rdA (v := .int .i64 (cnt ((tdy L2).take q) y : Int)) (by rw [dL (by rw [eT]; exact hyM), iK hyM]))) ?_;refine aA rfl rfl rfl (bG rfl rfl _ (aT (by omega))) ?_;refine aA rfl rfl rfl (bA bK rfl rfl (y) ⟨by omega, by omega, by first | omega | (simp; done) | (simp; omega)⟩) ?_;refine bF rfl rfl (cB Tryz.sizeOf3 rfl rfl rfl rfl (by rw [aX, eT]; omega) (a6 (szs ents.length ((tdy L2).take (q + 1)))) (by rw [szs_next hq hy hyM]; simp [a6]) ?_);refine aJ ?_;refine cV ?_;refine aL (kh18 _ _ ?_);clear kh18;refine aB ?_;refine aA rfl rfl rfl (bG rfl rfl _ (aT (by omega))) ?_;refine aA rfl rfl rfl (aG rfl) ?_;refine aJ ?_;refine aL (bB (q + 1) (by first | omega | (dsimp only; omega) | (simp; omega)) (by omega) ?_ ?_ ?_)
     · exact (by repeat constructor)
     · exact (by repeat constructor)
     · repeat first|exact aI|refine aD ?_|refine aC rfl ?_|refine aH ?_
    ·
     refine cG ?_;refine cK ?_;clear kh17;refine cK ?_;refine d5 ?_;rw [List.take_of_length_le (by rw [eR]; omega)];exact f_fin0n [(k9 bs (some ⟨bl, 0, none⟩) cl (tdy L2) [(bl, blk (a6 (tdy L2) ++ spl) 3)] bo n vs ms.flatten b55 (szs ents.length (tdy L2))).flatten] Tryz.results65 (Sub.flat (by unfold k9; rw [eR, eT, show L2.length = L.length by omega]; repeat (first | exact aI | refine aD ?_))) ⟨_, rfl, by rw [← hel]; exact ⟨_, cl, _, bo, vs, ms, b55, List.Perm.refl _, own_ints hlo (by rw [eR]; omega), hrw⟩⟩
end Go.Proofs.YtjjogcnjcnpehaaGreat

/- graph.Out, graph.In: the arcs out of a vertex, and into it. -/
namespace Go.Proofs.YtjjogcnjcnpehaaGreat
open Go Go.RowKit Fly
set_option linter.unusedVariables false
set_option linter.unusedSimpArgs false
theorem glooked_zero {N : Int} {l : List Arc} {v : Int} (h : gX N l v = 0) : (bH N l).2 = 0 ∧ 0 ≤ v ∧ v < N := by
  unfold gX at h
  split at h
  · rename_i h1; exact absurd h h1
  · split at h
    · simp at h
    · rename_i h1 h2; exact ⟨by simpa using h1, by omega, by omega⟩
end Go.Proofs.YtjjogcnjcnpehaaGreat

/- graph.Neighbours. -/
namespace Go.Proofs.YtjjogcnjcnpehaaGreat
open Go Go.RowKit Fly
set_option linter.unusedVariables false
set_option linter.unusedSimpArgs false
/-- The answer of Neighbours. -/
def NbΦ (N : Int) (l : List Arc) (v : Int) (u : Value) (own : List Seg) : Prop :=
  ∃ A W c m, u = .tuple #[.slice A W.length W.length, .int .i64 (gX N l v)] ∧ own = [m] ∧ Own 3 1 (.slice A W.length c) W.length (a6 W) m ∧ W = if gX N l v = 0 then bY v l else []
set_option maxRecDepth 100000 in
set_option maxHeartbeats 4000000 in
theorem Neighbours_spec (N : Int) (A : Option Addr) (l : List Arc) (cap : Nat) (v : Int) (w : World) (hr : Ro (Fr w []) w A (l.flatMap cE)) (hl : l.length ≤ 9223372036854775807) (hN : I64 N) (hok : ∀ x ∈ l, dQ x) :
    Meets Tryz.prog 112 [.agg #[.int .i64 N, .slice A l.length cap], .int .i64 v] w [] (NbΦ N l v) := by
 refine bJ Tryz.func112 rfl Tryz.ntmps112 rfl Owns.nil ?_;refine aK fun K1 kh1 => ?_;refine aB ?_;refine aR rfl rfl rfl (cZ rfl rfl fun b2 => ?_);refine aA rfl rfl rfl (aF rfl) ?_;refine aA rfl rfl rfl (aF rfl) ?_;refine aJ ?_;refine aL (kh1 _ _ ?_);clear kh1;refine aK fun K2 kh2 => ?_;refine aK fun K3 kh3 => ?_;refine aB ?_;refine aA rfl rfl rfl (a8 (vs := [_, _]) Tryz.isAgg24 Tryz.sizeOf24 rfl rfl ⟨(rdA rfl), (rdA rfl), trivial⟩) ?_;refine aA rfl rfl rfl (aG rfl) ?_;refine aR rfl rfl rfl (bD Tryz.call123 rfl (fun w_ hp_ => looked_spec N A l cap v w_ (hr.up0 hp_) hl hN hok) ?_);rintro _ _ ⟨rfl, rfl⟩;dsimp only [List.cons_append, List.nil_append];refine aA rfl rfl rfl (aF rfl) ?_;refine aJ ?_;refine aL (kh3 _ _ ?_);clear kh3;refine aK fun K4 kh4 => ?_;refine aB ?_;refine aA rfl rfl rfl (aG rfl) ?_;refine aA rfl rfl rfl (c6 rfl rfl) ?_;refine aJ ?_;refine aL (kh4 _ _ ?_);clear kh4;refine aZ rfl (fun c14 => ?_) (fun c14 => ?_)
 · refine aK fun K5 kh5 => ?_;refine aB ?_;refine aA rfl rfl rfl (aG rfl) ?_;refine aA rfl rfl rfl (aF rfl) ?_;refine aA rfl rfl rfl (aF rfl) ?_;refine aJ ?_;refine aL (kh5 _ _ ?_);clear kh5;refine a7 ?_;refine bT ?_;exact bW [[]] Tryz.results112 rfl rfl Sub.empty ⟨none, [], 0, [], rfl, rfl, Own.nil _ _, by rw [if_neg (by simpa using c14)]⟩
 ·
  have hz : gX N l v = 0 := by simpa using c14
  obtain ⟨hg0, hv0, hv1⟩ := glooked_zero hz
  have hlen := (bX hg0).2.2.1
  refine aW ?_;refine aL (kh2 _ _ ?_);clear kh2;refine aK fun K6 kh6 => ?_;refine aB ?_;refine aA rfl rfl rfl (aF rfl) ?_;refine aJ ?_;refine aL (kh6 _ _ ?_);clear kh6;refine aK fun K7 kh7 => ?_;refine aK fun K8 kh8 => ?_;refine aB ?_;refine aA rfl rfl rfl (aQ hG rfl) ?_;refine aA rfl rfl rfl (aM Tryz.isAgg22 rfl (rdA rfl)) ?_;refine aA rfl rfl rfl (bS lJ rfl) ?_;refine aA rfl rfl rfl (aG rfl) ?_;refine aJ ?_;refine aL (kh8 _ _ ?_);clear kh8;refine aY ?_;refine cS (α := Nat × Value × Seg) [1, 17, 18] (fun ⟨i, ov, om⟩ => [(19, .int .i64 (i : Int)), (7, ov)]) (fun ⟨i, ov, om⟩ => [om, [(b2, blk [.int .i64 N, .slice A l.length cap] 24)]]) (fun ⟨i, ov, om⟩ => i ≤ l.length ∧ Own 3 1 ov ((l.take i).flatMap (nbr v)).length (a6 ((l.take i).flatMap (nbr v))) om) (fun ⟨i, ov, om⟩ => l.length - i) (0, .slice none 0 0, []) ?_ ?_ ?_ ?_
  · exact (by repeat constructor)
  · repeat first|exact aI|refine aD ?_|refine aC rfl ?_|refine aH ?_
  · exact ⟨Nat.zero_le _, Own.nil _ _⟩
  ·
   rintro ⟨i, ov, om⟩ ⟨hil, hO⟩;obtain ⟨Ao, co, rfl, hco⟩ := hO.val
   have hnl := lS v (l.take i)
   rw [List.length_take] at hnl;refine aK fun K9 kh9 => ?_;refine aB ?_;refine aA rfl rfl rfl (cD rfl rfl) ?_;refine aJ ?_;refine aL (kh9 _ _ ?_);clear kh9;refine aK fun K10 kh10 => ?_;refine aZ rfl (fun c20 => ?_) (fun c20 => ?_)
   ·
    refine aW ?_;refine aL (kh10 _ _ ?_);clear kh10;refine aK fun K11 kh11 => ?_;refine aY ?_;refine aK fun K12 kh12 => ?_;refine aB ?_;have hi : i < l.length := by omega
    obtain ⟨bq, off, rfl, hS, hc⟩ := hr (f9 cE dO (by omega) hi)
    refine aA rfl rfl rfl (bA lJ rfl rfl (off + i * 3) ⟨by omega, by omega, by first | omega | (simp; done) | (simp; omega)⟩) ?_;refine aA rfl rfl rfl (a8 (vs := cE l[i]) Tryz.isAgg48 Tryz.sizeOf48 rfl rfl (gN dO hS hc hi)) ?_;refine aR rfl rfl rfl (cU Tryz.zeroValue48 rfl fun b9 => ?_);refine bF rfl rfl (cA Tryz.sizeOf48 rfl rfl rfl rfl (by first | exact Nat.le_of_ble_eq_true rfl | (simp; done) | (simp; omega)) (cE l[i]) rfl ?_);refine aJ ?_;refine aL (kh12 _ _ ?_);clear kh12;refine aY ?_;refine aK fun K13 kh13 => ?_;refine aB ?_;refine aA rfl rfl rfl (aQ gA rfl) ?_;refine aA rfl rfl rfl (aM Tryz.isAgg3 rfl (rdA rfl)) ?_;refine aA rfl rfl rfl (aQ fX rfl) ?_;refine aA rfl rfl rfl (aM Tryz.isAgg3 rfl (rdA rfl)) ?_;refine aA rfl rfl rfl (fM rfl rfl) ?_;refine aA rfl rfl rfl (aF rfl) ?_;refine aJ ?_;refine aL (kh13 _ _ ?_);clear kh13;refine aZ rfl (fun c23 => ?_) (fun c23 => ?_)
    ·
     refine aW ?_;refine cV ?_;refine cV ?_;refine aL (kh11 _ _ ?_);clear kh11;refine aB ?_;refine aA rfl rfl rfl (bG rfl rfl _ (aT (by omega))) ?_;refine aA rfl rfl rfl (aG rfl) ?_;refine aJ ?_;refine aL (bB (i + 1, .slice Ao ((l.take i).flatMap (nbr v)).length co, om) (by first | omega | (dsimp only; omega) | (simp; omega)) ⟨by omega, by rw [k7 hi, show nbr v l[i] = [] from if_pos c23, List.append_nil]; exact hO⟩ ?_ ?_ ?_)
     · exact (by repeat constructor)
     · exact (by repeat constructor)
     · repeat first|exact aI|refine aD ?_|refine aC rfl ?_|refine aH ?_
    ·
     refine aK fun K14 kh14 => ?_;refine aB ?_;refine aA rfl rfl rfl (aQ gA rfl) ?_;refine aA rfl rfl rfl (aM Tryz.isAgg3 rfl (rdA rfl)) ?_;refine aA rfl rfl rfl (aG rfl) ?_;refine aA rfl rfl rfl (fM rfl rfl) ?_;refine aA rfl rfl rfl (aF rfl) ?_;refine aJ ?_;refine aL (kh14 _ _ ?_);clear kh14;refine aZ rfl (fun c29 => ?_) (fun c29 => ?_)
     ·
      refine aB ?_;refine aA rfl rfl rfl (aG rfl) ?_;refine aA rfl rfl rfl (aQ fX rfl) ?_;refine aA rfl rfl rfl (aM Tryz.isAgg3 rfl (rdA rfl)) ?_;refine aR rfl rfl rfl (dA dV (by omega) rfl rfl rfl fun b37 => ?_);refine aR rfl rfl rfl (dG dV rfl rfl hO (ys := [.int .i64 l[i].dst]) ⟨(rdA rfl), trivial⟩ rfl rfl (by omega) (by omega) fun v38 m38 o38 => ?_);refine aA rfl rfl rfl (aF rfl) ?_;refine aJ ?_;refine cV ?_;refine cV ?_;refine aL (kh11 _ _ ?_);clear kh11;refine aB ?_;refine aA rfl rfl rfl (bG rfl rfl _ (aT (by omega))) ?_;refine aA rfl rfl rfl (aG rfl) ?_;refine aJ ?_;refine aL (bB (i + 1, v38, m38) (by first | omega | (dsimp only; omega) | (simp; omega)) ⟨by omega, by rw [k7 hi, show nbr v l[i] = [l[i].dst] from by unfold nbr; rw [if_neg c23, if_pos c29], List.length_append, dZ]; exact o38⟩ ?_ ?_ ?_)
      · exact (by repeat constructor)
      · exact (by repeat constructor)
      · repeat first|exact aI|refine aD ?_|refine aC rfl ?_|refine aH ?_
     ·
      refine aK fun K15 kh15 => ?_;refine aB ?_;refine aA rfl rfl rfl (aQ fX rfl) ?_;refine aA rfl rfl rfl (aM Tryz.isAgg3 rfl (rdA rfl)) ?_;refine aA rfl rfl rfl (aG rfl) ?_;refine aA rfl rfl rfl (fM rfl rfl) ?_;refine aA rfl rfl rfl (aF rfl) ?_;refine aJ ?_;refine aL (kh15 _ _ ?_);clear kh15;refine aZ rfl (fun c39 => ?_) (fun c39 => ?_)
      ·
       refine aB ?_;refine aA rfl rfl rfl (aG rfl) ?_;refine aA rfl rfl rfl (aQ gA rfl) ?_;refine aA rfl rfl rfl (aM Tryz.isAgg3 rfl (rdA rfl)) ?_;refine aR rfl rfl rfl (dA dV (by omega) rfl rfl rfl fun b47 => ?_);refine aR rfl rfl rfl (dG dV rfl rfl hO (ys := [.int .i64 l[i].src]) ⟨(rdA rfl), trivial⟩ rfl rfl (by omega) (by omega) fun v48 m48 o48 => ?_);refine aA rfl rfl rfl (aF rfl) ?_;refine aJ ?_;refine cV ?_;refine cV ?_;refine aL (kh11 _ _ ?_);clear kh11;refine aB ?_;refine aA rfl rfl rfl (bG rfl rfl _ (aT (by omega))) ?_;refine aA rfl rfl rfl (aG rfl) ?_;refine aJ ?_;refine aL (bB (i + 1, v48, m48) (by first | omega | (dsimp only; omega) | (simp; omega)) ⟨by omega, by rw [k7 hi, show nbr v l[i] = [l[i].src] from by unfold nbr; rw [if_neg c23, if_neg c29, if_pos c39], List.length_append, dZ]; exact o48⟩ ?_ ?_ ?_)
       · exact (by repeat constructor)
       · exact (by repeat constructor)
       · repeat first|exact aI|refine aD ?_|refine aC rfl ?_|refine aH ?_
      ·
       refine aW ?_;refine cV ?_;refine cV ?_;refine aL (kh11 _ _ ?_);clear kh11;refine aB ?_;refine aA rfl rfl rfl (bG rfl rfl _ (aT (by omega))) ?_;refine aA rfl rfl rfl (aG rfl) ?_;refine aJ ?_;refine aL (bB (i + 1, .slice Ao ((l.take i).flatMap (nbr v)).length co, om) (by first | omega | (dsimp only; omega) | (simp; omega)) ⟨by omega, by rw [k7 hi, show nbr v l[i] = [] from by unfold nbr; rw [if_neg c23, if_neg c29, if_neg c39], List.append_nil]; exact hO⟩ ?_ ?_ ?_)
       · exact (by repeat constructor)
       · exact (by repeat constructor)
       · repeat first|exact aI|refine aD ?_|refine aC rfl ?_|refine aH ?_
   ·
    refine cG ?_;refine cK ?_;clear kh10;refine cK ?_;refine d5 ?_;refine aL (kh7 _ _ ?_);clear kh7;refine aK fun K16 kh16 => ?_;obtain rfl : i = l.length := by omega
    rw [List.take_length] at hO hnl ⊢;refine aB ?_;refine aA rfl rfl rfl (aG rfl) ?_;refine aR rfl rfl rfl (fH [om] _ Tryz.call30 rfl (aD Sub.refl) (fun w_ hp_ => kP Ao co _ om w_ hO (by omega) hp_.owns) ?_);rintro _ _ ⟨rfl, m2, rfl, ho2⟩;dsimp only [List.cons_append, List.nil_append];refine aJ ?_;refine aL (kh16 _ _ ?_);clear kh16;refine aK fun K17 kh17 => ?_;refine aB ?_;refine aA rfl rfl rfl (aG rfl) ?_;refine aR rfl rfl rfl (fH [m2] _ Tryz.call32 rfl (aD Sub.refl) (fun w_ hp_ => (by have h := mB Ao co (gL (l.flatMap (nbr v))) m2 w_ (by rw [eZ]; exact ho2) (by rw [eZ]; omega) hp_.owns; rw [eZ] at h; exact h)) ?_);rintro v53 _ ⟨m3, rfl, ho3⟩;obtain ⟨A3, c3, rfl, hc3⟩ := ho3.val
    dsimp only [List.cons_append, List.nil_append];refine aR rfl rfl rfl (bD Tryz.call31 rfl (fun w_ hp_ => Clip_spec A3 (cpt (gL (l.flatMap (nbr v)))).length c3 w_ hc3.1 hc3.2 (j0 ho3)) ?_);rintro _ _ ⟨rfl, rfl⟩;dsimp only [List.cons_append, List.nil_append];refine aA rfl rfl rfl (aF rfl) ?_;refine aA rfl rfl rfl (aF rfl) ?_;refine aJ ?_;refine aL (kh17 _ _ ?_);clear kh17;refine a7 ?_;exact bW [m3] Tryz.results112 rfl rfl (by repeat (first | exact aI | refine aD ?_ | refine aC rfl ?_)) ⟨A3, bY v l, c3, m3, by rw [hz]; rfl, rfl, ho3, by rw [if_pos hz]⟩
end Go.Proofs.YtjjogcnjcnpehaaGreat
