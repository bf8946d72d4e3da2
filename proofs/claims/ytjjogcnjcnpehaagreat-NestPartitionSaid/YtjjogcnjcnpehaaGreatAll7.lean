import Derived.Test.YtjjogcnjcnpehaaGreatAll0
import Derived.Test.YtjjogcnjcnpehaaGreatAll3
import Derived.Test.YtjjogcnjcnpehaaGreatAll5
import Derived.Test.YtjjogcnjcnpehaaGreatAll6

/- natcut.Cut: the natural cut around a centre. -/
namespace Go.Proofs.YtjjogcnjcnpehaaGreat
open Go Go.RowKit Fly
set_option linter.unusedVariables false
set_option linter.unusedSimpArgs false
theorem fidx_cases {α : Type} (p : α → Bool) (l : List α) : (fidx p l = -1 ∧ ∀ x ∈ l, p x = false) ∨ ∃ k, ∃ hk : k < l.length, fidx p l = (k : Int) ∧ p l[k] = true ∧ ∀ j (h : j < l.length), j < k → p l[j] = false := by
  unfold fidx
  cases hf : l.findIdx? p with
  | none => exact .inl ⟨rfl, fun x hx => by rw [List.findIdx?_eq_none_iff] at hf; exact hf x hx⟩
  | some k =>
    rw [List.findIdx?_eq_some_iff_getElem] at hf;obtain ⟨hk, h1, h2⟩ := hf
    exact .inr ⟨k, hk, rfl, h1, fun j h hj => by have := h2 j hj; simpa using this⟩
theorem del_start {α : Type} {p : α → Bool} {l : List α} {k : Nat} (hk : k < l.length) (h : p l[k] = true) (hpre : ∀ j (h : j < l.length), j < k → p l[j] = false) : l.take k = (l.take (k + 1)).filter (fun x => !p x) := by
  rw [List.take_succ_eq_append_getElem hk, List.filter_append]
  have e1 : (l.take k).filter (fun x => !p x) = l.take k := List.filter_eq_self.2 fun x hx => by
    obtain ⟨i, hi, rfl⟩ := List.mem_iff_getElem.1 hx
    have hi' : i < k := by simp at hi; omega
    rw [List.getElem_take, hpre i (by omega) hi']; rfl
  rw [e1]; simp [h]
theorem del_keep {α : Type} {p : α → Bool} {l d : List α} {i j : Nat} (hj : j < l.length) (hij : i < j) (hd : d.length = l.length) (ht : d.take i = (l.take j).filter (fun x => !p x)) (hdr : d.drop j = l.drop j) (h : p l[j] = false) :
    (d.set i l[j]).take (i + 1) = (l.take (j + 1)).filter (fun x => !p x) ∧ (d.set i l[j]).drop (j + 1) = l.drop (j + 1) := by
  refine ⟨?_, ?_⟩
  · rw [List.take_succ_eq_append_getElem hj, List.filter_append, ← ht, List.take_succ_eq_append_getElem (show i < (d.set i l[j]).length by simp; omega), List.getElem_set_self, List.take_set_of_le (Nat.le_refl _)]
    simp [h]
  · rw [List.drop_set_of_lt (by omega), ← List.drop_drop, ← List.drop_drop, hdr]
theorem del_skip {α : Type} {p : α → Bool} {l d : List α} {i j : Nat} (hj : j < l.length) (ht : d.take i = (l.take j).filter (fun x => !p x)) (hdr : d.drop j = l.drop j) (h : p l[j] = true) : d.take i = (l.take (j + 1)).filter (fun x => !p x) ∧ d.drop (j + 1) = l.drop (j + 1) := by
  refine ⟨?_, by rw [← List.drop_drop, ← List.drop_drop, hdr]⟩;rw [List.take_succ_eq_append_getElem hj, List.filter_append, ← ht]; simp [h]
theorem del_at {α : Type} {l d : List α} {j : Nat} (hj : j < l.length) (hd : d.length = l.length) (hdr : d.drop j = l.drop j) : d[j]'(by omega) = l[j] := by
  have := congrArg (fun x => x[0]?) hdr
  simpa [hj, hd] using this
theorem del_zero {α : Type} {enc : α → List Value} {sz : Nat} (hs : ∀ x, (enc x).length = sz) {d : List α} {i : Nat} (hi : i ≤ d.length) (sp ys : List Value) (hy : ys.length = (d.length - i) * sz) : gH (d.flatMap enc ++ sp) (i * sz) ys = (d.take i).flatMap enc ++ (ys ++ sp) := by
  have e : d.flatMap enc ++ sp = (d.take i).flatMap enc ++ ((d.drop i).flatMap enc ++ sp) := by rw [← List.append_assoc, ← List.flatMap_append, List.take_append_drop]
  rw [e];exact iL ys _ _ _ _ (by rw [dR enc hs, List.length_take, Nat.min_eq_left hi]) (by rw [dR enc hs, hy, List.length_drop])
theorem heldFrN {S : Nat → Prop} {w0 w w' : World} {own fr : List Seg} {b : Nat} {cs : List Value} {T : TypeId} {f : Seg → List Seg} [h : At fr b (blk cs T) f] (hp : Hp S w0 (own ++ fr).flatten w) (hs : ∀ k, Fr w own k → w'.heap[k]? = w.heap[k]?) : Ro (Fr w' []) w' (some ⟨b, 0, none⟩) cs := fun hne => by
  have hm : (b, blk cs T) ∈ (own ++ fr).flatten := by rw [List.flatten_append]; exact List.mem_append_right _ h.mem
  have hb := hp.own b _ hm
  have hlt := hp.key_lt hm
  have hn := hp.nodup
  rw [List.flatten_append, List.map_append] at hn;have hnot : b ∉ own.flatten.map (·.1) := fun hx => (List.nodup_append.1 hn).2.2 b hx b (List.mem_map.2 ⟨_, h.mem, rfl⟩) rfl
  have hs' := hs b ⟨hlt, hnot⟩
  have hb' : w'.heap[b]? = some (blk cs T) := by rw [hs', hb]
  have hlt' : b < w'.heap.size := by
    rcases Nat.lt_or_ge b w'.heap.size with h' | h'
    · exact h'
    · rw [Array.getElem?_eq_none h'] at hb'; cases hb'
  refine ⟨b, 0, rfl, ⟨hlt', by simp⟩, fun j v hj => ?_⟩;rw [Nat.zero_add];simp [World.cell?, hb', hj]
/-- The nodes of a region's vertices: 0 within the core, one of its own else; 1 outside. -/
def lR (reg : List Int) (c n : Nat) : Nat → List Int
  | 0 => List.replicate n 1
  | k + 1 => (lR reg c n k).set (reg.getD k 0).toNat (if k < c then 0 else 2 + (k : Int) - (c : Int))
theorem ndTo_succ (reg : List Int) (c n k : Nat) : lR reg c n (k + 1) = (lR reg c n k).set (reg.getD k 0).toNat (if k < c then 0 else 2 + (k : Int) - (c : Int)) := rfl
theorem ndTo_len (reg : List Int) (c n : Nat) : ∀ k, (lR reg c n k).length = n
  | 0 => by simp [lR]
  | k + 1 => by unfold lR; rw [List.length_set, ndTo_len reg c n k]
theorem ndTo_rng (reg : List Int) (c n m : Nat) (hc : c ≤ m) : ∀ k, k ≤ m → ∀ x ∈ lR reg c n k, 0 ≤ x ∧ x < 2 + (m : Int) - (c : Int)
  | 0, _, x, hx => by
    have := List.eq_of_mem_replicate hx
    omega
  | k + 1, h, x, hx => by
    unfold lR at hx
    rcases List.mem_or_eq_of_mem_set hx with h1 | h1
    · exact ndTo_rng reg c n m hc k (by omega) x h1
    · subst h1; split <;> omega
def d7 (n : Nat) (l : List Arc) (c most : Int) : List Int := lR (dE (n : Int) l c most).1 (fN (n : Int) l c most).1.length n (dE (n : Int) l c most).1.length
def gP (n : Nat) (l : List Arc) (c most : Int) : Int := 2 + ((dE (n : Int) l c most).1.length : Int) - ((fN (n : Int) l c most).1.length : Int)
def nd (L : List Int) (u : Int) : Int := L.getD u.toNat 0
theorem nd_at {L : List Int} {u : Int} (h : u.toNat < L.length) : nd L u = L[u.toNat] := by simp [nd, h]
/-- The network's edges. -/
def kC (ps : List Pr) (L : List Int) : List Arc := ps.flatMap fun p => if nd L p.1 ≠ nd L p.2 then [⟨nd L p.1, nd L p.2, 1⟩, ⟨nd L p.2, nd L p.1, 1⟩] else []
theorem cutE_next {ps : List Pr} {L : List Int} {k : Nat} (h : k < ps.length) : kC (ps.take (k + 1)) L = kC (ps.take k) L ++ if nd L ps[k].1 ≠ nd L ps[k].2 then [⟨nd L ps[k].1, nd L ps[k].2, 1⟩, ⟨nd L ps[k].2, nd L ps[k].1, 1⟩] else [] := by
  unfold kC; rw [List.take_succ_eq_append_getElem h, List.flatMap_append]; simp
theorem cutE_len (L : List Int) : ∀ ps : List Pr, (kC ps L).length ≤ 2 * ps.length
  | [] => by simp [kC]
  | p :: ps => by
    have ih := cutE_len L ps
    unfold kC at ih ⊢
    rw [List.flatMap_cons, List.length_append]
    split
    · simp only [List.length_cons, List.length_nil]; omega
    · simp only [List.length_cons, List.length_nil]; omega
theorem cutE_ok {L : List Int} {ps : List Pr} (h : ∀ u : Int, I64 (nd L u)) : ∀ x ∈ kC ps L, dQ x := fun x hx => by
  obtain ⟨p, _, hp⟩ := List.mem_flatMap.1 hx
  split at hp
  · simp only [List.mem_cons, List.not_mem_nil, or_false] at hp
    rcases hp with rfl | rfl
    · exact ⟨h _, h _, by show (0 : Int) ≤ 1; omega, by show (1 : Int) ≤ 4294967295; omega⟩
    · exact ⟨h _, h _, by show (0 : Int) ≤ 1; omega, by show (1 : Int) ≤ 4294967295; omega⟩
  · cases hp
def ncE (N : Int) (l : List Arc) (c most : Int) : Int := if (dE N l c most).2 ≠ 0 then (dE N l c most).2 else if ((dE N l c most).1.length : Int) = N then 0 else e6 (gP N.toNat l c most) (kC (prs N.toNat l) (d7 N.toNat l c most)) 0 1
def cutB (L : List Int) (sd : List Bool) (p : Pr) : Bool := decide (sd.getD (nd L p.1).toNat false = sd.getD (nd L p.2).toNat false)
theorem reg_rngN {N : Int} {l : List Arc} {c most : Int} (h : (dE N l c most).2 = 0) : ∀ x ∈ (dE N l c most).1, 0 ≤ x ∧ x < N := by
  obtain ⟨_, n, cn, mn, rfl, rfl, rfl, hok⟩ := reg_ok h
  exact hok.rng
theorem I64_nd {L : List Int} {m : Int} (hm : m ≤ 1000000) (h : ∀ x ∈ L, 0 ≤ x ∧ x < m) (u : Int) : I64 (nd L u) := by
  unfold nd
  rw [List.getD_eq_getElem?_getD]
  cases e : L[u.toNat]? with
  | none => exact ⟨by decide, by decide⟩
  | some v => have := h v (List.mem_of_getElem? e); exact ⟨by simp; omega, by simp; omega⟩
/-- What the natural cut is. -/
def NcΦ (n : Nat) (l : List Arc) (c most : Int) (C : List Pr) : Prop :=
  ((dE (n : Int) l c most).1.length = n → C = []) ∧
  ((dE (n : Int) l c most).1.length ≠ n → ∃ (f : List Int) (V : Int) (sd : List Bool), sd.length = (gP n l c most).toNat ∧ Flow (gP n l c most).toNat (kC (prs n l) (d7 n l c most)) 0 1 f V ∧ Side (gP n l c most).toNat (kC (prs n l) (d7 n l c most)) 0 1 f (fun v => sd.getD v false) ∧ C = (prs n l).filter fun p => !cutB (d7 n l c most) sd p)
theorem regR_rng {N : Int} {l : List Arc} {c most : Int} (h : (dE N l c most).2 = 0) : (bH N l).2 = 0 := by
  unfold dE at h
  by_cases h1 : (bH N l).2 = 0
  · exact h1
  · rw [if_pos h1] at h; exact absurd h h1
set_option maxRecDepth 100000 in
set_option maxHeartbeats 4000000 in
theorem DelP_spec_ix (A : Option Addr) (l : List Pr) (cap : Nat) (fi : FuncId) (capi : List Value) (p : Pr → Bool) (w : World) (hr : Ro (Fr w []) w A (l.flatMap dU)) (hl : l.length ≤ 1000000000)
    (hci : ∀ args w, (callFunc fi args).run Tryz.prog w = .ok (.enter fi args) w)
    (his : ∀ w', (∀ k, Fr w [] k → w'.heap[k]? = w.heap[k]?) → ∀ x ∈ l, Meets Tryz.prog fi ([.agg (dU x).toArray] ++ capi) w' [] (fun u m => u = .bool (p x) ∧ m = [])) :
    Meets Tryz.prog 102 [.slice A l.length cap, .func (.func fi) #[] capi.toArray] w [] (fun u own' => u = .int .i64 (fidx p l) ∧ own' = []) := by
 refine bJ Tryz.func102 rfl Tryz.ntmps102 rfl Owns.nil ?_;refine aK fun K1 kh1 => ?_;refine aB ?_;refine aA rfl rfl rfl (aF rfl) ?_;refine aJ ?_;refine aL (kh1 _ _ ?_);clear kh1;refine aK fun K2 kh2 => ?_;refine aK fun K3 kh3 => ?_;refine aB ?_;refine aA rfl rfl rfl (aG rfl) ?_;refine aA rfl rfl rfl (bS iB rfl) ?_;refine aA rfl rfl rfl (aG rfl) ?_;refine aJ ?_;refine aL (kh3 _ _ ?_);clear kh3;refine aY ?_;refine jO (α := Nat) [0, 1, 7] (fun k => [(8, .int .i64 (k : Int))]) (fun k => k ≤ l.length ∧ ∀ j (h : j < l.length), j < k → p l[j] = false) (fun k => l.length - k) (0) ?_ ?_ ?_
 · exact (by repeat constructor)
 · exact ⟨by omega, fun j _ h => by omega⟩
 ·
  rintro k ⟨hkl, hpre⟩;refine aK fun K4 kh4 => ?_;refine aB ?_;refine aA rfl rfl rfl (cD rfl rfl) ?_;refine aJ ?_;refine aL (kh4 _ _ ?_);clear kh4;refine aK fun K5 kh5 => ?_;refine aZ rfl (fun c9 => ?_) (fun c9 => ?_)
  ·
   refine aW ?_;refine aL (kh5 _ _ ?_);clear kh5;refine aK fun K6 kh6 => ?_;refine aY ?_;refine aK fun K7 kh7 => ?_;refine aB ?_;refine aA rfl rfl rfl (aG rfl) ?_;refine aA rfl rfl rfl (aF rfl) ?_;refine aJ ?_;refine aL (kh7 _ _ ?_);clear kh7;refine aK fun K8 kh8 => ?_;refine aB ?_;refine aA rfl rfl rfl (aG rfl) ?_;refine aA rfl rfl rfl (aG rfl) ?_;refine aA rfl rfl rfl (aG rfl) ?_;have hk : k < l.length := by omega
   obtain ⟨bl, off, rfl, hS, hc⟩ := hr (f9 dU dK (by omega) hk)
   refine aA rfl rfl rfl (bA iB rfl rfl (off + k * 2) ⟨by omega, by omega, by first | omega | (simp; done) | (simp; omega)⟩) ?_;refine aA rfl rfl rfl (a8 (vs := dU l[k]) Tryz.isAgg95 Tryz.sizeOf95 rfl rfl (gN dK hS hc hk)) ?_;refine aR rfl rfl rfl (lQ [] _ hci rfl rfl Sub.refl (fun w_ hp_ => (by have h := his w_ (fun j hj => hp_.same j hj) l[k] (List.getElem_mem hk); exact h)) ?_);rintro _ _ ⟨rfl, rfl⟩;dsimp only [List.cons_append, List.nil_append];refine aJ ?_;refine aL (kh8 _ _ ?_);clear kh8;refine fC rfl (fun c16 => ?_) (fun c16 => ?_)
   · refine aK fun K9 kh9 => ?_;refine aB ?_;refine aA rfl rfl rfl (aG rfl) ?_;refine aA rfl rfl rfl (aF rfl) ?_;refine aJ ?_;refine aL (kh9 _ _ ?_);clear kh9;refine a7 ?_;refine eC ?_;refine bT ?_;refine bT ?_;refine eC ?_;refine bT ?_;exact bP [] Tryz.results102 rfl aI ⟨by rw [fidx_at hk (by simpa using c16) hpre], rfl⟩
   ·
    refine aW ?_;refine cV ?_;refine aL (kh6 _ _ ?_);clear kh6;refine aB ?_;refine aA rfl rfl rfl (bG rfl rfl _ (aT (by omega))) ?_;refine aA rfl rfl rfl (aG rfl) ?_;refine aJ ?_;refine aL (bB (k + 1) (by first | omega | (dsimp only; omega) | (simp; omega)) ⟨by omega, false_next hpre (by simpa using c16)⟩ ?_ ?_ ?_)
    · exact (by repeat constructor)
    · exact (by repeat constructor)
    · repeat first|exact aI|refine aD ?_|refine aC rfl ?_|refine aH ?_
  · refine cG ?_;refine cK ?_;clear kh5;refine cK ?_;refine d5 ?_;refine aL (kh2 _ _ ?_);clear kh2;refine aK fun K10 kh10 => ?_;refine aB ?_;refine aA rfl rfl rfl (aF rfl) ?_;refine aJ ?_;refine aL (kh10 _ _ ?_);clear kh10;refine a7 ?_;exact bP [] Tryz.results102 rfl aI ⟨by rw [fidx_none (fun j h => hpre j h (by omega))], rfl⟩
set_option maxRecDepth 100000 in
set_option maxHeartbeats 4000000 in
theorem DelP_spec (A : Option Addr) (l : List Pr) (cap : Nat) (m : Seg) (fi : FuncId) (capi : List Value) (p : Pr → Bool) (w : World) (ho : Own 95 2 (.slice A l.length cap) l.length (l.flatMap dU) m) (hl : l.length ≤ 100000000)
    (hci : ∀ args w, (callFunc fi args).run Tryz.prog w = .ok (.enter fi args) w)
    (his : ∀ w', (∀ k, Fr w [m] k → w'.heap[k]? = w.heap[k]?) → ∀ x ∈ l, Meets Tryz.prog fi ([.agg (dU x).toArray] ++ capi) w' [] (fun u m => u = .bool (p x) ∧ m = [])) (hw : Owns w [m]) :
    Meets Tryz.prog 83 [.slice A l.length l.length, .func (.func fi) #[] capi.toArray] w [m] (fun u own' => ∃ (m' : Seg) (A' : Option Addr) (c1 c2 : Nat), u = .slice A' (l.filter fun x => !p x).length c1 ∧ own' = [m'] ∧ (l.filter fun x => !p x).length ≤ c1 ∧ c1 ≤ 9223372036854775807 ∧ Own 95 2 (.slice A' (l.filter fun x => !p x).length c2) (l.filter fun x => !p x).length ((l.filter fun x => !p x).flatMap dU) m') := by
 refine bJ Tryz.func83 rfl Tryz.ntmps83 rfl hw ?_;refine aK fun K1 kh1 => ?_;refine aB ?_;refine aA rfl rfl rfl (aF rfl) ?_;refine aJ ?_;refine aL (kh1 _ _ ?_);clear kh1;refine aK fun K2 kh2 => ?_;refine aB ?_;refine aA rfl rfl rfl (aG rfl) ?_;refine aA rfl rfl rfl (aG rfl) ?_
 refine aR rfl rfl rfl (bD Tryz.call102 rfl (fun w_ hp_ => DelP_spec_ix A l l.length fi capi p w_ (eU (ho.seen hp_)) (by omega) hci (fun w' hs x hx => his w' (fun j hj => by
   have hne : ¬ (Fr w_ [] j) → False := fun h => h ⟨Nat.lt_of_lt_of_le (hp_.lt j hj) hp_.size, by simp⟩
   rw [hs j (Classical.byContradiction hne)]; exact hp_.same j hj) x hx)) ?_)
 rintro _ _ ⟨rfl, rfl⟩;dsimp only [List.cons_append, List.nil_append];refine aA rfl rfl rfl (aF rfl) ?_;refine aJ ?_;refine aL (kh2 _ _ ?_);clear kh2;refine aK fun K3 kh3 => ?_;refine aK fun K4 kh4 => ?_;refine aB ?_;refine aA rfl rfl rfl (aG rfl) ?_;refine aA rfl rfl rfl (fM rfl rfl) ?_;refine aJ ?_;refine aL (kh4 _ _ ?_);clear kh4;refine aZ rfl (fun c12 => ?_) (fun c12 => ?_)
 ·
  have hno : ∀ x ∈ l, p x = false := by
    rcases fidx_cases p l with ⟨_, h⟩ | ⟨k, hk, h, _⟩
    · exact h
    · omega
  have hfl : (l.filter fun x => !p x) = l := List.filter_eq_self.2 fun x hx => by rw [hno x hx]; rfl
  refine aK fun K5 kh5 => ?_;refine aB ?_;refine aA rfl rfl rfl (aG rfl) ?_;refine aA rfl rfl rfl (aF rfl) ?_;refine aJ ?_;refine aL (kh5 _ _ ?_);clear kh5;refine a7 ?_;refine bT ?_;exact bP [m] Tryz.results83 rfl (aD aI) ⟨m, A, l.length, cap, by rw [hfl], rfl, by rw [hfl]; omega, by omega, by rw [hfl]; exact ho⟩
 ·
  obtain ⟨k, hk, hfk, hpk, hpre⟩ := (fidx_cases p l).resolve_left (fun h => c12 h.1)
  rw [hfk];have hds := del_start hk hpk hpre
  refine aW ?_;refine aL (kh3 _ _ ?_);clear kh3;refine aK fun K6 kh6 => ?_;refine aK fun K7 kh7 => ?_;refine aB ?_;refine aA rfl rfl rfl (aG rfl) ?_;refine aA rfl rfl rfl (bG rfl rfl _ (aT (by omega))) ?_;refine aA rfl rfl rfl (aF rfl) ?_;refine aJ ?_;refine aL (kh7 _ _ ?_);clear kh7;refine aY ?_;refine cS (α := Nat × Nat × List (Pr) × Seg) [0, 1] (fun ⟨i, j, d, m1⟩ => [(5, .int .i64 (i : Int)), (6, .int .i64 (j : Int))]) (fun ⟨i, j, d, m1⟩ => [m1]) (fun ⟨i, j, d, m1⟩ => i < j ∧ j ≤ l.length ∧ d.length = l.length ∧ d.take i = (l.take j).filter (fun x => !p x) ∧ d.drop j = l.drop j ∧ Own 95 2 (.slice A l.length cap) l.length (d.flatMap dU) m1) (fun ⟨i, j, d, m1⟩ => l.length - j) (k, k + 1, l, m) ?_ ?_ ?_ ?_
  · exact (by repeat constructor)
  · repeat first|exact aI|refine aD ?_|refine aC rfl ?_|refine aH ?_
  · exact ⟨by omega, by omega, rfl, hds, rfl, ho⟩
  ·
   rintro ⟨i, j, d, m1⟩ ⟨hij, hjl, hdl, hdt, hdd, ho1⟩;obtain ⟨_, _, e_, hcap⟩ := ho1.val
   cases e_
   refine aK fun K8 kh8 => ?_;refine aK fun K9 kh9 => ?_;refine aB ?_;refine aA rfl rfl rfl (aG rfl) ?_;refine aA rfl rfl rfl (aG rfl) ?_;refine aA rfl rfl rfl (bS iB rfl) ?_;refine aA rfl rfl rfl (cD rfl rfl) ?_;refine aJ ?_;refine aL (kh9 _ _ ?_);clear kh9;refine aZ rfl (fun c19 => ?_) (fun c19 => ?_)
   ·
    refine aW ?_;refine aL (kh8 _ _ ?_);clear kh8;refine aK fun K10 kh10 => ?_;refine aY ?_;refine aK fun K11 kh11 => ?_;have hj' : j < l.length := by omega
    obtain ⟨b, sp, rfl, rfl, hup⟩ := ho1.upd (by omega)
    refine aB ?_;refine aA rfl rfl rfl (aG rfl) ?_;refine aA rfl rfl rfl (aG rfl) ?_;refine aA rfl rfl rfl (bA iB rfl rfl (j * 2) ⟨by omega, by omega, by first | omega | (simp; done) | (simp; omega)⟩) ?_;refine aA rfl rfl rfl (a8 (vs := dU l[j]) Tryz.isAgg95 Tryz.sizeOf95 rfl rfl (by rw [← del_at hj' hdl hdd]; exact rdsOwn dK (by omega))) ?_;refine aR rfl rfl rfl (cU Tryz.zeroValue95 rfl fun b7 => ?_);refine bF rfl rfl (cA Tryz.sizeOf95 rfl rfl rfl rfl (by first | exact Nat.le_of_ble_eq_true rfl | (simp; done) | (simp; omega)) (dU l[j]) rfl ?_);refine aJ ?_;refine aL (kh11 _ _ ?_);clear kh11;refine aK fun K12 kh12 => ?_;refine aB ?_;refine aA rfl rfl rfl (aG rfl) ?_;refine aA rfl rfl rfl (a8 (vs := [_, _]) Tryz.isAgg95 Tryz.sizeOf95 rfl rfl ⟨(rdA rfl), (rdA rfl), trivial⟩) ?_;refine aR rfl rfl rfl (lQ [] _ hci rfl rfl Sub.refl (fun w_ hp_ => (by have h := his w_ (fun j hj => hp_.same j hj) l[j] (List.getElem_mem hj'); exact h)) ?_);rintro _ _ ⟨rfl, rfl⟩;dsimp only [List.cons_append, List.nil_append];refine aA rfl rfl rfl (kG rfl) ?_;refine aJ ?_;refine aL (kh12 _ _ ?_);clear kh12;refine fC rfl (fun c29 => ?_) (fun c29 => ?_)
    ·
     have hpj : p l[j] = false := by simpa using c29
     refine aK fun K13 kh13 => ?_;refine aB ?_;refine aA rfl rfl rfl (aG rfl) ?_;refine aA rfl rfl rfl (aG rfl) ?_;refine aA rfl rfl rfl (a8 (vs := [_, _]) Tryz.isAgg95 Tryz.sizeOf95 rfl rfl ⟨(rdA rfl), (rdA rfl), trivial⟩) ?_;refine aA rfl rfl rfl (bA iB rfl rfl (i * 2) ⟨by omega, by omega, by first | omega | (simp; done) | (simp; omega)⟩) ?_;refine bF rfl rfl (cA Tryz.sizeOf95 rfl rfl rfl rfl (by show i * 2 + 2 ≤ _; rw [List.length_append, dR dU dK]; omega) ((d.set i l[j]).flatMap dU ++ sp) (setMany_flat dK sp _ _ _ (by omega)) ?_);refine aJ ?_;refine aL (kh13 _ _ ?_);clear kh13;refine aB ?_;refine aA rfl rfl rfl (aG rfl) ?_;refine aA rfl rfl rfl (bG rfl rfl _ (aT (by omega))) ?_;refine aA rfl rfl rfl (aF rfl) ?_;refine aJ ?_;refine cV ?_;refine aL (kh10 _ _ ?_);clear kh10;refine aB ?_;refine aA rfl rfl rfl (aG rfl) ?_;refine aA rfl rfl rfl (bG rfl rfl _ (aT (by omega))) ?_;refine aA rfl rfl rfl (aF rfl) ?_;refine aJ ?_;refine aL (bB (i + 1, j + 1, d.set i l[j], [(b, blk ((d.set i l[j]).flatMap dU ++ sp) 95)]) (by first | omega | (dsimp only; omega) | (simp; omega)) ⟨by omega, by omega, by simpa using hdl, (del_keep hj' hij hdl hdt hdd hpj).1, (del_keep hj' hij hdl hdt hdd hpj).2, hup _ (by rw [dR dU dK, dR dU dK, List.length_set])⟩ ?_ ?_ ?_)
     · exact (by repeat constructor)
     · exact (by repeat constructor)
     · repeat first|exact aI|refine aD ?_|refine aC rfl ?_|refine aH ?_
    ·
     have hpj : p l[j] = true := by simpa using c29
     refine aW ?_;refine cV ?_;refine aL (kh10 _ _ ?_);clear kh10;refine aB ?_;refine aA rfl rfl rfl (aG rfl) ?_;refine aA rfl rfl rfl (bG rfl rfl _ (aT (by omega))) ?_;refine aA rfl rfl rfl (aF rfl) ?_;refine aJ ?_;refine aL (bB (i, j + 1, d, [(b, blk (d.flatMap dU ++ sp) 95)]) (by first | omega | (dsimp only; omega) | (simp; omega)) ⟨by omega, by omega, hdl, (del_skip hj' hdt hdd hpj).1, (del_skip hj' hdt hdd hpj).2, ho1⟩ ?_ ?_ ?_)
     · exact (by repeat constructor)
     · exact (by repeat constructor)
     · repeat first|exact aI|refine aD ?_|refine aC rfl ?_|refine aH ?_
   ·
    refine cG ?_;refine cK ?_;clear kh8;refine cK ?_;refine d5 ?_;refine aL (kh6 _ _ ?_);clear kh6;refine aK fun K14 kh14 => ?_;obtain ⟨b, sp, rfl, rfl, hup⟩ := ho1.upd (by omega)
    have hsp := ho1.1
    have hspl : sp.length = (cap - l.length) * 2 := by
      obtain ⟨_, h | ⟨b', c', sp', e, hm, _, _, h3⟩⟩ := ho1
      · omega
      · cases e
        have := List.append_cancel_left (Array.toList_inj.2 (show (d.flatMap dU ++ sp).toArray = (d.flatMap dU ++ sp').toArray by simpa using hm))
        rw [this]; exact h3
    obtain rfl : j = l.length := by omega
    rw [List.take_length] at hdt;refine aB ?_;refine aA rfl rfl rfl (aG rfl) ?_;refine aA rfl rfl rfl (aG rfl) ?_;refine aA rfl rfl rfl (e5 iB rfl rfl rfl rfl (fun h => by cases h) i _ _ (.inr ⟨_, _, rfl, by omega⟩) (.inl ⟨rfl, rfl⟩) (.inl ⟨rfl, rfl⟩) ⟨by omega, by omega, by omega⟩ (.slice (some ⟨b, i * 2, none⟩) (l.length - i) (l.length - i)) (by rw [if_neg (by omega)]; simp [cY])) ?_;refine bF rfl rfl (o_clear el68 rfl rfl (by rw [List.length_append, dR dU dK]; omega) ((d.take i).flatMap dU ++ ((List.replicate (l.length - i) [.int .i64 0, .int .i64 0]).flatten ++ sp)) (del_zero dK (by omega) sp _ (by rw [hdl]; simp)) ?_);refine aJ ?_;refine aL (kh14 _ _ ?_);clear kh14;refine aK fun K15 kh15 => ?_;refine aB ?_;refine aA rfl rfl rfl (aG rfl) ?_;refine aA rfl rfl rfl (aG rfl) ?_;refine aA rfl rfl rfl (e5 iB rfl rfl rfl rfl (fun h => by cases h) 0 i l.length (.inl ⟨rfl, rfl⟩) (.inr ⟨_, _, rfl, by omega⟩) (.inl ⟨rfl, rfl⟩) ⟨by omega, by omega, by omega⟩ (.slice (some ⟨b, 0, none⟩) i l.length) (by rw [if_neg (by omega)]; simp [cY])) ?_;refine aA rfl rfl rfl (aF rfl) ?_;refine aJ ?_;refine aL (kh15 _ _ ?_);clear kh15;refine a7 ?_;have hfl : (l.filter fun x => !p x).length = i := by rw [← hdt]; simp; omega
    exact bP [[(b, blk ((d.take i).flatMap dU ++ ((List.replicate (l.length - i) [.int .i64 0, .int .i64 0]).flatten ++ sp)) 95)]] Tryz.results83 rfl (by repeat (first | exact aI | refine aD ?_)) ⟨_, some ⟨b, 0, none⟩, l.length, cap, by rw [hfl], rfl, by omega, by omega, by rw [hfl, ← hdt]; exact ⟨by rw [dR dU dK, List.length_take, Nat.min_eq_left (by omega)], .inr ⟨b, cap, _, rfl, rfl, by omega, by omega, by rw [List.length_append, hspl]; simp; omega⟩⟩⟩
set_option maxRecDepth 100000 in
set_option maxHeartbeats 4000000 in
theorem CutN1_spec (p : Pr) (b20 b11 bs bo ns n cn : Nat) (sd : List Bool) (L : List Int) (w : World) (h20 : Ro (Fr w []) w (some ⟨b20, 0, none⟩) [.slice (some ⟨bs, 0, none⟩) ns ns]) (h11 : Ro (Fr w []) w (some ⟨b11, 0, none⟩) [.slice (some ⟨bo, 0, none⟩) n cn]) (hs : Ro (Fr w []) w (some ⟨bs, 0, none⟩) (sd.map .bool)) (hn : Ro (Fr w []) w (some ⟨bo, 0, none⟩) (a6 L)) (hsl : sd.length = ns) (hLn : L.length = n) (h1 : 0 ≤ p.1 ∧ p.1 < (n : Int)) (h2 : 0 ≤ p.2 ∧ p.2 < (n : Int)) (hr : ∀ x ∈ L, 0 ≤ x ∧ x < (ns : Int)) :
    Meets Tryz.prog 84 ([.agg (dU p).toArray] ++ [.pointer (some ⟨b20, 0, none⟩), .pointer (some ⟨b11, 0, none⟩)]) w [] (fun u m => u = .bool (cutB L sd p) ∧ m = []) := by
 obtain ⟨_, _, e1, hS20, hc20⟩ := h20 (by simp)
 cases e1
 obtain ⟨_, _, e2, hS11, hc11⟩ := h11 (by simp)
 cases e2
 have hu1 : p.1.toNat < L.length := by omega
 have hu2 : p.2.toNat < L.length := by omega
 have hx1 := hr _ (List.getElem_mem hu1)
 have hx2 := hr _ (List.getElem_mem hu2)
 obtain ⟨_, _, e3, hSo, hco⟩ := hn (fun e => by have := aX L; rw [e] at this; simp at this; omega)
 cases e3
 obtain ⟨_, _, e4, hSs, hcs⟩ := hs (map_ne (k := 0) (by omega))
 cases e4
 obtain ⟨a, ha⟩ : ∃ a : Nat, L[p.1.toNat] = (a : Int) := ⟨_, (Int.toNat_of_nonneg hx1.1).symm⟩
 obtain ⟨b, hb⟩ : ∃ b : Nat, L[p.2.toNat] = (b : Int) := ⟨_, (Int.toNat_of_nonneg hx2.1).symm⟩
 refine bJ Tryz.func84 rfl Tryz.ntmps84 rfl Owns.nil ?_;refine aK fun K1 kh1 => ?_;refine aB ?_;refine aR rfl rfl rfl (cZ rfl rfl fun b3 => ?_);refine aA rfl rfl rfl (aF rfl) ?_;refine aJ ?_;refine aL (kh1 _ _ ?_);clear kh1;refine aK fun K2 kh2 => ?_;refine gY 17 rfl (by decide +kernel) ?_;refine aN rfl rfl rfl (aM Tryz.isAgg43 rfl (rdS hS20 (hc20 0 _ rfl))) ?_;refine aN rfl rfl rfl (aM Tryz.isAgg25 rfl (rdS hS11 (hc11 0 _ rfl))) ?_;refine aN rfl rfl rfl (aQ kM rfl) ?_;refine aN rfl rfl rfl (aM Tryz.isAgg3 rfl (rdA rfl)) ?_;refine aN rfl rfl rfl (bA bK rfl rfl (0 + p.1.toNat) ⟨by omega, by omega, by first | omega | (simp; done) | (simp; omega)⟩) ?_;refine aN rfl rfl rfl (aM Tryz.isAgg3 rfl (show Rd _ _ _ _ _ (.int .i64 (a : Int)) by rw [← ha]; exact dX (enc := (.int .i64 ·)) hSo hco hu1)) ?_;refine aN rfl rfl rfl (bA kW rfl rfl (0 + a) ⟨by omega, by omega, by first | omega | (simp; done) | (simp; omega)⟩) ?_;refine aN rfl rfl rfl (aM Tryz.isAgg4 rfl (dX (enc := Value.bool) hSs hcs (k := a) (by omega))) ?_;refine aN rfl rfl rfl (aM Tryz.isAgg43 rfl (rdS hS20 (hc20 0 _ rfl))) ?_;refine aN rfl rfl rfl (aM Tryz.isAgg25 rfl (rdS hS11 (hc11 0 _ rfl))) ?_;refine aN rfl rfl rfl (aQ fa95_1 rfl) ?_;refine aN rfl rfl rfl (aM Tryz.isAgg3 rfl (rdA rfl)) ?_;refine aN rfl rfl rfl (bA bK rfl rfl (0 + p.2.toNat) ⟨by omega, by omega, by first | omega | (simp; done) | (simp; omega)⟩) ?_;refine aN rfl rfl rfl (aM Tryz.isAgg3 rfl (show Rd _ _ _ _ _ (.int .i64 (b : Int)) by rw [← hb]; exact dX (enc := (.int .i64 ·)) hSo hco hu2)) ?_;refine aN rfl rfl rfl (bA kW rfl rfl (0 + b) ⟨by omega, by omega, by first | omega | (simp; done) | (simp; omega)⟩) ?_;refine aN rfl rfl rfl (aM Tryz.isAgg4 rfl (dX (enc := Value.bool) hSs hcs (k := b) (by omega))) ?_;refine aN rfl rfl rfl (o_eqlB Tryz.underlying4 rfl rfl) ?_;refine eH (kN ?_);refine aA rfl rfl rfl (aF rfl) ?_;refine aJ ?_;refine aL (kh2 _ _ ?_);clear kh2;refine a7 ?_;have e : cutB L sd p = decide (sd[a]'(by omega) = sd[b]'(by omega)) := by unfold cutB; rw [nd_at hu1, nd_at hu2, ha, hb, Int.toNat_natCast, Int.toNat_natCast, List.getD_eq_getElem?_getD, List.getD_eq_getElem?_getD, List.getElem?_eq_getElem (by omega), List.getElem?_eq_getElem (by omega)]; rfl
 exact bP [] Tryz.results84 rfl aI ⟨by rw [e], rfl⟩
set_option maxRecDepth 100000 in
set_option maxHeartbeats 4000000 in
theorem CutN_spec (N : Int) (A : Option Addr) (l : List Arc) (cap : Nat) (c most : Int) (w : World) (hr : Ro (Fr w []) w A (l.flatMap cE)) (hl : l.length ≤ 9223372036854775807) (hN : I64 N) (hok : ∀ x ∈ l, dQ x) :
    Meets Tryz.prog 54 [.agg #[.int .i64 N, .slice A l.length cap], .int .i64 c, .int .i64 most] w [] (fun u own' => ∃ (C : List Pr) (A' : Option Addr) (c2 : Nat) (m' : Seg), u = .tuple #[.slice A' C.length C.length, .int .i64 (ncE N l c most)] ∧ own' = [m'] ∧ Own 95 2 (.slice A' C.length c2) C.length (C.flatMap dU) m' ∧ (ncE N l c most ≠ 0 → C = []) ∧ (ncE N l c most = 0 → NcΦ N.toNat l c most C)) := by
 have hrl := regR_len (N := N) (l := l) (c := c) (most := most)
 refine bJ Tryz.func54 rfl Tryz.ntmps54 rfl Owns.nil ?_;refine aK fun K1 kh1 => ?_;refine aB ?_;refine aR rfl rfl rfl (cZ rfl rfl fun b3 => ?_);refine aA rfl rfl rfl (aF rfl) ?_;refine aA rfl rfl rfl (aF rfl) ?_;refine aJ ?_;refine aL (kh1 _ _ ?_);clear kh1;refine aK fun K2 kh2 => ?_;refine aB ?_;refine aA rfl rfl rfl (a8 (vs := [_, _]) Tryz.isAgg24 Tryz.sizeOf24 rfl rfl ⟨(rdA rfl), (rdA rfl), trivial⟩) ?_;refine aA rfl rfl rfl (aG rfl) ?_;refine aA rfl rfl rfl (aG rfl) ?_;refine aR rfl rfl rfl (bD Tryz.call79 rfl (fun w_ hp_ => Region_spec N A l cap c most w_ (hr.up0 hp_) hl hN hok) ?_);rintro _ _ ⟨sR, mR, rfl, rfl, hoR⟩;obtain ⟨AR, cR, rfl, hcR⟩ := hoR.val
 dsimp only [List.cons_append, List.nil_append];refine aA rfl rfl rfl (aG rfl) ?_;refine aA rfl rfl rfl (aV rfl rfl) ?_;refine aA rfl rfl rfl (aV rfl rfl) ?_;refine aA rfl rfl rfl (aF rfl) ?_;refine aA rfl rfl rfl (aF rfl) ?_;refine aJ ?_;refine aL (kh2 _ _ ?_);clear kh2;refine aK fun K3 kh3 => ?_;refine aK fun K4 kh4 => ?_;refine aB ?_;refine aA rfl rfl rfl (aG rfl) ?_;refine aA rfl rfl rfl (c6 rfl rfl) ?_;refine aJ ?_;refine aL (kh4 _ _ ?_);clear kh4;refine aZ rfl (fun c31 => ?_) (fun c31 => ?_)
 ·
  refine aK fun K5 kh5 => ?_;refine aB ?_;refine aA rfl rfl rfl (aG rfl) ?_;refine aA rfl rfl rfl (aF rfl) ?_;refine aA rfl rfl rfl (aF rfl) ?_;refine aJ ?_;refine aL (kh5 _ _ ?_);clear kh5;refine a7 ?_;refine bT ?_;have c31' : (dE N l c most).2 ≠ 0 := by simpa using c31
  have he : ncE N l c most = (dE N l c most).2 := by unfold ncE; rw [if_pos c31']
  exact bW [[]] Tryz.results54 rfl rfl (show Fly.Sub _ [[]] from (by repeat first|exact aI|refine aD ?_|refine aC rfl ?_|refine aH ?_)) ⟨[], none, 0, [], by rw [he]; rfl, rfl, Own.nil _ _, fun _ => rfl, fun h => absurd (he.symm.trans h) c31'⟩
 ·
  have hreg0 : (dE N l c most).2 = 0 := by simpa using c31
  have hg := regR_rng hreg0
  obtain ⟨hg1, hg2, hgl, hgd⟩ := bX hg
  obtain ⟨n, rfl⟩ : ∃ n : Nat, N = (n : Int) := ⟨N.toNat, by omega⟩
  have hrr := reg_rngN hreg0
  have hcl : (fN (n : Int) l c most).1.length ≤ (dE (n : Int) l c most).1.length := by unfold fN; simp only [List.length_take]; omega
  refine aW ?_;refine aL (kh3 _ _ ?_);clear kh3;refine aK fun K6 kh6 => ?_;refine aK fun K7 kh7 => ?_;refine aB ?_;refine aA rfl rfl rfl (aG rfl) ?_;refine aA rfl rfl rfl (bS bK rfl) ?_;refine aA rfl rfl rfl (aQ eE rfl) ?_;refine aA rfl rfl rfl (aM Tryz.isAgg3 rfl (rdA rfl)) ?_;refine aA rfl rfl rfl (fM rfl rfl) ?_;refine aJ ?_;refine aL (kh7 _ _ ?_);clear kh7;refine aZ rfl (fun c37 => ?_) (fun c37 => ?_)
  ·
   refine aK fun K8 kh8 => ?_;refine aB ?_;refine aA rfl rfl rfl (aF rfl) ?_;refine aA rfl rfl rfl (aF rfl) ?_;refine aJ ?_;refine aL (kh8 _ _ ?_);clear kh8;refine a7 ?_;refine bT ?_;have he : ncE (n : Int) l c most = 0 := by unfold ncE; rw [if_neg (by rw [hreg0]; simp), if_pos (by omega)]
   exact bW [[]] Tryz.results54 rfl rfl (show Fly.Sub _ [[]] from (by repeat first|exact aI|refine aD ?_|refine aC rfl ?_|refine aH ?_)) ⟨[], none, 0, [], by rw [he]; rfl, rfl, Own.nil _ _, fun _ => rfl, fun _ => by rw [Int.toNat_natCast]; exact ⟨fun _ => rfl, fun h => absurd (by omega) h⟩⟩
  ·
   have hnl : ¬ (dE (n : Int) l c most).1.length = n := by omega
   refine aW ?_;refine aL (kh6 _ _ ?_);clear kh6;refine aK fun K9 kh9 => ?_;refine aB ?_;refine aA rfl rfl rfl (a8 (vs := [_, _]) Tryz.isAgg24 Tryz.sizeOf24 rfl rfl ⟨(rdA rfl), (rdA rfl), trivial⟩) ?_;refine aA rfl rfl rfl (aG rfl) ?_;refine aA rfl rfl rfl (aG rfl) ?_;refine aR rfl rfl rfl (bD Tryz.call80 rfl (fun w_ hp_ => Core_spec (n : Int) A l cap c most w_ (hr.up0 hp_) hl hN hok) ?_);rintro _ _ ⟨sC, mC, rfl, rfl, hoC⟩;obtain ⟨AC, cC, rfl, hcC⟩ := hoC.val
   have hc2 : (fN (n : Int) l c most).2 = 0 := hreg0
   rw [hc2];dsimp only [List.cons_append, List.nil_append];refine aA rfl rfl rfl (aG rfl) ?_;refine aA rfl rfl rfl (aV rfl rfl) ?_;refine aA rfl rfl rfl (aV rfl rfl) ?_;refine aA rfl rfl rfl (aF rfl) ?_;refine aA rfl rfl rfl (aF rfl) ?_;refine aJ ?_;refine aL (kh9 _ _ ?_);clear kh9;refine aK fun K10 kh10 => ?_;refine aK fun K11 kh11 => ?_;refine aB ?_;refine aA rfl rfl rfl (aG rfl) ?_;refine aA rfl rfl rfl (c6 rfl rfl) ?_;refine aJ ?_;refine aL (kh11 _ _ ?_);clear kh11;refine e7 rfl (by simp) ?_;refine aW ?_;refine aL (kh10 _ _ ?_);clear kh10;refine aK fun K12 kh12 => ?_;refine aB ?_;refine aR rfl rfl rfl (dA dV (by omega) rfl rfl rfl fun b48 => ?_);refine aA rfl rfl rfl (aQ eE rfl) ?_;refine aA rfl rfl rfl (aM Tryz.isAgg3 rfl (rdA rfl)) ?_;refine aR rfl rfl rfl (bD Tryz.call81 rfl (fun w_ hp_ => RepI_spec b48 0 1 n 1 w_ (iV (b := b48) hp_ (cs := [.int .i64 1]) (fun j v hj => hj)) (by omega)) ?_);rintro _ _ ⟨bN, rfl, rfl⟩;dsimp only [List.cons_append, List.nil_append];refine aR rfl rfl rfl (cU Tryz.zeroValue25 rfl fun b11 => ?_);refine bF rfl rfl (cB Tryz.sizeOf25 rfl rfl rfl rfl (by first | exact Nat.le_of_ble_eq_true rfl | (simp; done) | (simp; omega)) [.slice (some ⟨bN, 0, none⟩) n n] rfl ?_);refine aJ ?_;refine aL (kh12 _ _ ?_);clear kh12;refine aK fun K13 kh13 => ?_;refine aK fun K14 kh14 => ?_;refine iS bN (a6 (lR (dE (n : Int) l c most).1 (fN (n : Int) l c most).1.length n 0)) (by simp [a6, lR]) ?_;refine aB ?_;refine aA rfl rfl rfl (aG rfl) ?_;refine aA rfl rfl rfl (bS bK rfl) ?_;refine aA rfl rfl rfl (aG rfl) ?_;refine aJ ?_;refine aL (kh14 _ _ ?_);clear kh14;refine aY ?_;refine cS (α := Nat) [3, 8, 10, 11, 52, 53] (fun k => [(54, .int .i64 (k : Int))]) (fun k => [[(bN, blk (a6 (lR (dE (n : Int) l c most).1 (fN (n : Int) l c most).1.length n k)) 3)], [(b11, blk [.slice (some ⟨bN, 0, none⟩) n n] 25)], mR, [(b3, blk [.int .i64 (n : Int), .slice A l.length cap] 24)]]) (fun k => k ≤ (dE (n : Int) l c most).1.length) (fun k => (dE (n : Int) l c most).1.length - k) (0) ?_ ?_ ?_ ?_
   · exact (by repeat constructor)
   · repeat first|exact aI|refine aD ?_|refine aC rfl ?_|refine aH ?_
   · exact Nat.zero_le _
   ·
    rintro k hkl;refine aK fun K15 kh15 => ?_;refine aB ?_;refine aA rfl rfl rfl (cD rfl rfl) ?_;refine aJ ?_;refine aL (kh15 _ _ ?_);clear kh15;refine aK fun K16 kh16 => ?_;refine aZ rfl (fun c55 => ?_) (fun c55 => ?_)
    ·
     have hk : k < (dE (n : Int) l c most).1.length := by omega
     obtain ⟨bR, spR, rfl, rfl⟩ := hoR.at_ (by omega)
     have hrk := hrr _ (List.getElem_mem hk)
     obtain ⟨v, hv⟩ : ∃ v : Nat, (dE (n : Int) l c most).1[k] = (v : Int) := ⟨_, (Int.toNat_of_nonneg hrk.1).symm⟩
     rw [hv] at hrk;have hgd' : ((dE (n : Int) l c most).1.getD k 0).toNat = v := by rw [List.getD_eq_getElem?_getD, List.getElem?_eq_getElem hk, Option.getD_some, hv, Int.toNat_natCast]
     refine aW ?_;refine aL (kh16 _ _ ?_);clear kh16;refine aK fun K17 kh17 => ?_;refine aY ?_;refine aK fun K18 kh18 => ?_;refine aB ?_;refine aA rfl rfl rfl (aG rfl) ?_;refine aA rfl rfl rfl (bA bK rfl rfl (k) ⟨by omega, by omega, by first | omega | (simp; done) | (simp; omega)⟩) ?_;refine aA rfl rfl rfl (aM Tryz.isAgg3 rfl (rdA (v := .int .i64 (v : Int)) (dN (by rw [dL hk, hv])))) ?_;refine aA rfl rfl rfl (aF rfl) ?_;refine aA rfl rfl rfl (aF rfl) ?_;refine aJ ?_;refine aL (kh18 _ _ ?_);clear kh18;refine aK fun K19 kh19 => ?_;refine aB ?_;refine aA rfl rfl rfl (aG rfl) ?_;refine aA rfl rfl rfl (aG rfl) ?_;refine aA rfl rfl rfl (bS bK rfl) ?_;refine aA rfl rfl rfl (cD rfl rfl) ?_;refine aJ ?_;refine aL (kh19 _ _ ?_);clear kh19;refine aZ rfl (fun c62 => ?_) (fun c62 => ?_)
     ·
      have hnx : (lR (dE (n : Int) l c most).1 (fN (n : Int) l c most).1.length n k).set v 0 = (lR (dE (n : Int) l c most).1 (fN (n : Int) l c most).1.length n (k + 1)) := by rw [ndTo_succ, hgd', if_pos (by omega)]
      refine aB ?_;refine aA rfl rfl rfl (aM Tryz.isAgg25 rfl (rdA rfl)) ?_;refine aA rfl rfl rfl (aG rfl) ?_;refine aA rfl rfl rfl (bA bK rfl rfl (v) ⟨by omega, by omega, by first | omega | (simp; done) | (simp; omega)⟩) ?_;refine bF rfl rfl (cB Tryz.sizeOf3 rfl rfl rfl rfl (by rw [aX, ndTo_len]; omega) (a6 (lR (dE (n : Int) l c most).1 (fN (n : Int) l c most).1.length n (k + 1))) (by rw [← hnx]; simp [a6]) ?_);refine aJ ?_;refine cV ?_;refine aL (kh17 _ _ ?_);clear kh17;refine aB ?_;refine aA rfl rfl rfl (bG rfl rfl _ (aT (by omega))) ?_;refine aA rfl rfl rfl (aG rfl) ?_;refine aJ ?_;refine aL (bB (k + 1) (by first | omega | (dsimp only; omega) | (simp; omega)) (by omega) ?_ ?_ ?_)
      · exact (by repeat constructor)
      · exact (by repeat constructor)
      · repeat first|exact aI|refine aD ?_|refine aC rfl ?_|refine aH ?_
     ·
      have hnx : (lR (dE (n : Int) l c most).1 (fN (n : Int) l c most).1.length n k).set v (2 + (k : Int) - ((fN (n : Int) l c most).1.length : Int)) = (lR (dE (n : Int) l c most).1 (fN (n : Int) l c most).1.length n (k + 1)) := by rw [ndTo_succ, hgd', if_neg (by omega)]
      refine aB ?_;refine aA rfl rfl rfl (aM Tryz.isAgg25 rfl (rdA rfl)) ?_;refine aA rfl rfl rfl (aG rfl) ?_;refine aA rfl rfl rfl (aG rfl) ?_;refine aA rfl rfl rfl (bG rfl rfl _ (aT (by omega))) ?_;refine aA rfl rfl rfl (aG rfl) ?_;refine aA rfl rfl rfl (bS bK rfl) ?_;refine aA rfl rfl rfl (fV rfl rfl _ (aT (by omega))) ?_;refine aA rfl rfl rfl (bA bK rfl rfl (v) ⟨by omega, by omega, by first | omega | (simp; done) | (simp; omega)⟩) ?_;refine bF rfl rfl (cB Tryz.sizeOf3 rfl rfl rfl rfl (by rw [aX, ndTo_len]; omega) (a6 (lR (dE (n : Int) l c most).1 (fN (n : Int) l c most).1.length n (k + 1))) (by rw [← hnx]; simp [a6]) ?_);refine aJ ?_;refine cV ?_;refine aL (kh17 _ _ ?_);clear kh17;refine aB ?_;refine aA rfl rfl rfl (bG rfl rfl _ (aT (by omega))) ?_;refine aA rfl rfl rfl (aG rfl) ?_;refine aJ ?_;refine aL (bB (k + 1) (by first | omega | (dsimp only; omega) | (simp; omega)) (by omega) ?_ ?_ ?_)
      · exact (by repeat constructor)
      · exact (by repeat constructor)
      · repeat first|exact aI|refine aD ?_|refine aC rfl ?_|refine aH ?_
    ·
     refine cG ?_;refine cK ?_;clear kh16;refine cK ?_;refine d5 ?_;refine aL (kh13 _ _ ?_);clear kh13;refine aK fun K20 kh20 => ?_;obtain rfl : k = (dE (n : Int) l c most).1.length := by omega
     rw [show (lR (dE (n : Int) l c most).1 (fN (n : Int) l c most).1.length n (dE (n : Int) l c most).1.length) = (d7 n l c most) from rfl];have hndl : (d7 n l c most).length = n := ndTo_len _ _ _ _
     have hrgN := ndTo_rng (dE (n : Int) l c most).1 (fN (n : Int) l c most).1.length n (dE (n : Int) l c most).1.length hcl (dE (n : Int) l c most).1.length (Nat.le_refl _)
     have hI64 := I64_nd (L := (d7 n l c most)) (m := gP n l c most) (by unfold gP; omega) hrgN
     have hnN : gP n l c most = 2 + ((dE (n : Int) l c most).1.length : Int) - ((fN (n : Int) l c most).1.length : Int) := rfl
     refine aB ?_;refine aA rfl rfl rfl (aG rfl) ?_;refine aA rfl rfl rfl (bS bK rfl) ?_;refine aA rfl rfl rfl (bG rfl rfl _ (aT (by omega))) ?_;refine aA rfl rfl rfl (aG rfl) ?_;refine aA rfl rfl rfl (bS bK rfl) ?_;refine aA rfl rfl rfl (fV rfl rfl _ (Eq.trans (aT (by omega)) (show _ = gP n l c most from rfl))) ?_;refine aA rfl rfl rfl (dB (cs := [.int .i64 (gP n l c most), .slice none 0 0]) st133 rfl rfl) ?_;refine aR rfl rfl rfl (cU Tryz.zeroValue133 rfl fun b14 => ?_);refine bF rfl rfl (cA Tryz.sizeOf133 rfl rfl rfl rfl (by first | exact Nat.le_of_ble_eq_true rfl | (simp; done) | (simp; omega)) [.int .i64 (gP n l c most), .slice none 0 0] rfl ?_);refine aJ ?_;refine aL (kh20 _ _ ?_);clear kh20;refine aK fun K21 kh21 => ?_;refine aB ?_;refine aA rfl rfl rfl (a8 (vs := [_, _]) Tryz.isAgg24 Tryz.sizeOf24 rfl rfl ⟨(rdA rfl), (rdA rfl), trivial⟩) ?_;refine aR rfl rfl rfl (bD Tryz.call66 rfl (fun w_ hp_ => pairs_spec n A l cap w_ (hr.up0 hp_) hg) ?_);rintro _ _ ⟨Ap, mp, rfl, rfl, cp, hop⟩;have hpl := prs_len (n := n) (by omega) l
     dsimp only [List.cons_append, List.nil_append];refine aA rfl rfl rfl (aF rfl) ?_;refine aJ ?_;refine aL (kh21 _ _ ?_);clear kh21;refine aK fun K22 kh22 => ?_;refine aK fun K23 kh23 => ?_;refine aB ?_;refine aA rfl rfl rfl (aG rfl) ?_;refine aA rfl rfl rfl (bS iB rfl) ?_;refine aA rfl rfl rfl (aG rfl) ?_;refine aJ ?_;refine aL (kh23 _ _ ?_);clear kh23;refine aY ?_;refine cS (α := Nat × Value × Seg) [11, 14, 15, 84, 85] (fun ⟨k, ev_, em⟩ => [(86, .int .i64 (k : Int))]) (fun ⟨k, ev_, em⟩ => [[(bN, blk (a6 (d7 n l c most)) 3)], [(b11, blk [.slice (some ⟨bN, 0, none⟩) n n] 25)], [(b14, blk [.int .i64 (gP n l c most), ev_] 133)], em, mp]) (fun ⟨k, ev_, em⟩ => k ≤ (prs n l).length ∧ Own 135 3 ev_ (kC ((prs n l).take k) (d7 n l c most)).length ((kC ((prs n l).take k) (d7 n l c most)).flatMap cE) em) (fun ⟨k, ev_, em⟩ => (prs n l).length - k) (0, .slice none 0 0, []) ?_ ?_ ?_ ?_
     · exact (by repeat constructor)
     · repeat first|exact aI|refine aD ?_|refine aC rfl ?_|refine aH ?_
     · exact ⟨Nat.zero_le _, Own.nil _ _⟩
     ·
      rintro ⟨k, ev_, em⟩ ⟨hkl, hE⟩;have hel := cutE_len (d7 n l c most) ((prs n l).take k)
      rw [List.length_take] at hel;obtain ⟨A14, c14, rfl, hc14⟩ := hE.val
      refine eX (e := [(86, _), (11, _), (14, _), (15, _), (84, _), (85, _)]) (by repeat constructor) ?_;refine aK fun K24 kh24 => ?_;refine aB ?_;refine aA rfl rfl rfl (cD rfl rfl) ?_;refine aJ ?_;refine aL (kh24 _ _ ?_);clear kh24;refine aK fun K25 kh25 => ?_;refine aZ rfl (fun c87 => ?_) (fun c87 => ?_)
      ·
       have hk : k < (prs n l).length := by omega
       obtain ⟨bp, spp, rfl, rfl⟩ := hop.at_ (by omega)
       have hpr := f7 (List.getElem_mem hk)
       have hu1 : (prs n l)[k].1.toNat < (d7 n l c most).length := by omega
       have hu2 : (prs n l)[k].2.toNat < (d7 n l c most).length := by omega
       have hnx := cutE_next (L := (d7 n l c most)) hk
       refine aW ?_;refine aL (kh25 _ _ ?_);clear kh25;refine aK fun K26 kh26 => ?_;refine aY ?_;refine aK fun K27 kh27 => ?_;refine aB ?_;refine aA rfl rfl rfl (bA iB rfl rfl (k * 2) ⟨by omega, by omega, by first | omega | (simp; done) | (simp; omega)⟩) ?_;refine aA rfl rfl rfl (a8 (vs := dU (prs n l)[k]) Tryz.isAgg95 Tryz.sizeOf95 rfl rfl (rdsOwn dK hk)) ?_;refine aR rfl rfl rfl (cU Tryz.zeroValue95 rfl fun b17 => ?_);refine bF rfl rfl (cA Tryz.sizeOf95 rfl rfl rfl rfl (by first | exact Nat.le_of_ble_eq_true rfl | (simp; done) | (simp; omega)) (dU (prs n l)[k]) rfl ?_);refine aJ ?_;refine aL (kh27 _ _ ?_);clear kh27;refine aK fun K28 kh28 => ?_;refine dH [[(b17, blk [.int .i64 (prs n l)[k].1, .int .i64 (prs n l)[k].2] 95)], [(bN, blk (a6 (d7 n l c most)) 3)], [(b11, blk [.slice (some ⟨bN, 0, none⟩) n n] 25)]] rfl ?_;refine aU 0 rfl (by decide +kernel) rfl rfl rfl (by repeat first|exact aI|refine aD ?_|refine aC rfl ?_|refine aH ?_) (aM Tryz.isAgg25 rfl (rdA rfl)) ?_;refine aU 1 rfl (by decide +kernel) rfl rfl rfl (by repeat first|exact aI|refine aD ?_|refine aC rfl ?_|refine aH ?_) (aQ kM rfl) ?_;refine aU 2 rfl (by decide +kernel) rfl rfl rfl (by repeat first|exact aI|refine aD ?_|refine aC rfl ?_|refine aH ?_) (aM Tryz.isAgg3 rfl (rdA rfl)) ?_;refine aU 3 rfl (by decide +kernel) rfl rfl rfl (by repeat first|exact aI|refine aD ?_|refine aC rfl ?_|refine aH ?_) (bA bK rfl rfl ((prs n l)[k].1.toNat) ⟨by omega, by omega, by first | omega | (simp; done) | (simp; omega)⟩) ?_;refine aU 4 rfl (by decide +kernel) rfl rfl rfl (by repeat first|exact aI|refine aD ?_|refine aC rfl ?_|refine aH ?_) (aM Tryz.isAgg3 rfl (rdA (v := .int .i64 (nd (d7 n l c most) (prs n l)[k].1)) (by rw [nd_at hu1]; exact dL hu1))) ?_;refine aU 5 rfl (by decide +kernel) rfl rfl rfl (by repeat first|exact aI|refine aD ?_|refine aC rfl ?_|refine aH ?_) (aM Tryz.isAgg25 rfl (rdA rfl)) ?_;refine aU 6 rfl (by decide +kernel) rfl rfl rfl (by repeat first|exact aI|refine aD ?_|refine aC rfl ?_|refine aH ?_) (aQ fa95_1 rfl) ?_;refine aU 7 rfl (by decide +kernel) rfl rfl rfl (by repeat first|exact aI|refine aD ?_|refine aC rfl ?_|refine aH ?_) (aM Tryz.isAgg3 rfl (rdA rfl)) ?_;refine aU 8 rfl (by decide +kernel) rfl rfl rfl (by repeat first|exact aI|refine aD ?_|refine aC rfl ?_|refine aH ?_) (bA bK rfl rfl ((prs n l)[k].2.toNat) ⟨by omega, by omega, by first | omega | (simp; done) | (simp; omega)⟩) ?_;refine aU 9 rfl (by decide +kernel) rfl rfl rfl (by repeat first|exact aI|refine aD ?_|refine aC rfl ?_|refine aH ?_) (aM Tryz.isAgg3 rfl (rdA (v := .int .i64 (nd (d7 n l c most) (prs n l)[k].2)) (by rw [nd_at hu2]; exact dL hu2))) ?_
       refine aU 10 rfl (by decide +kernel) rfl rfl rfl (by repeat first|exact aI|refine aD ?_|refine aC rfl ?_|refine aH ?_) (aF rfl) ?_;refine aU 11 rfl (by decide +kernel) rfl rfl rfl (by repeat first|exact aI|refine aD ?_|refine aC rfl ?_|refine aH ?_) (aF rfl) ?_;refine dF (by decide +kernel) ?_;refine aL (kh28 _ _ ?_);clear kh28;refine aK fun K29 kh29 => ?_;refine aB ?_;refine aA rfl rfl rfl (aG rfl) ?_;refine aA rfl rfl rfl (aG rfl) ?_;refine aA rfl rfl rfl (c6 rfl rfl) ?_;refine aJ ?_;refine aL (kh29 _ _ ?_);clear kh29;refine aZ rfl (fun c102 => ?_) (fun c102 => ?_)
       ·
        rw [if_pos (by omega)] at hnx;refine aB ?_;refine aA rfl rfl rfl (aQ fa133_1 rfl) ?_;refine aA rfl rfl rfl (aM Tryz.isAgg131 rfl (rdA rfl)) ?_;refine aA rfl rfl rfl (aG rfl) ?_;refine aA rfl rfl rfl (aG rfl) ?_;refine aA rfl rfl rfl (dB (cs := cE ⟨nd (d7 n l c most) (prs n l)[k].1, nd (d7 n l c most) (prs n l)[k].2, 1⟩) st135 rfl rfl) ?_;refine aA rfl rfl rfl (aG rfl) ?_;refine aA rfl rfl rfl (aG rfl) ?_;refine aA rfl rfl rfl (dB (cs := cE ⟨nd (d7 n l c most) (prs n l)[k].2, nd (d7 n l c most) (prs n l)[k].1, 1⟩) st135 rfl rfl) ?_;refine aR rfl rfl rfl (o_sliceN (len := 2) el131 (by omega) rfl (show _ = some (cE ⟨nd (d7 n l c most) (prs n l)[k].1, nd (d7 n l c most) (prs n l)[k].2, 1⟩ ++ cE ⟨nd (d7 n l c most) (prs n l)[k].2, nd (d7 n l c most) (prs n l)[k].1, 1⟩).toArray from rfl) fun b111 => ?_);refine aR rfl rfl rfl (dG el131 rfl rfl hE (ys := cE ⟨nd (d7 n l c most) (prs n l)[k].1, nd (d7 n l c most) (prs n l)[k].2, 1⟩ ++ cE ⟨nd (d7 n l c most) (prs n l)[k].2, nd (d7 n l c most) (prs n l)[k].1, 1⟩) ⟨(rdA rfl), (rdA rfl), (rdA rfl), (rdA rfl), (rdA rfl), (rdA rfl), trivial⟩ rfl rfl (by omega) (by omega) fun v112 m112 o112 => ?_);obtain ⟨A112, c112, rfl, _⟩ := o112.val
        refine aA rfl rfl rfl (aQ fa133_1 rfl) ?_;refine bF rfl rfl (cB Tryz.sizeOf131 rfl rfl rfl rfl (by first | exact Nat.le_of_ble_eq_true rfl | (simp; done) | (simp; omega)) [.int .i64 (gP n l c most), .slice A112 ((kC ((prs n l).take k) (d7 n l c most)).length + 2) c112] rfl ?_);refine aJ ?_;refine cV ?_;refine aL (kh26 _ _ ?_);clear kh26;refine aB ?_;refine aA rfl rfl rfl (bG rfl rfl _ (aT (by omega))) ?_;refine aA rfl rfl rfl (aG rfl) ?_;refine aJ ?_;refine aL (bB (k + 1, _, m112) (by first | omega | (dsimp only; omega) | (simp; omega)) ⟨by omega, by rw [hnx, List.flatMap_append, List.length_append]; simpa using o112⟩ ?_ ?_ ?_)
        · exact (by repeat constructor)
        · exact (by repeat constructor)
        · repeat first|exact aI|refine aD ?_|refine aC rfl ?_|refine aH ?_
       ·
        rw [if_neg (by omega), List.append_nil] at hnx;refine aW ?_;refine cV ?_;refine aL (kh26 _ _ ?_);clear kh26;refine aB ?_;refine aA rfl rfl rfl (bG rfl rfl _ (aT (by omega))) ?_;refine aA rfl rfl rfl (aG rfl) ?_;refine aJ ?_;refine aL (bB (k + 1, _, em) (by first | omega | (dsimp only; omega) | (simp; omega)) ⟨by omega, by rw [hnx]; exact hE⟩ ?_ ?_ ?_)
        · exact (by repeat constructor)
        · exact (by repeat constructor)
        · repeat first|exact aI|refine aD ?_|refine aC rfl ?_|refine aH ?_
      ·
       obtain rfl : k = (prs n l).length := by omega
       rw [List.take_length] at hE hel ⊢;refine cG ?_;refine cK ?_;clear kh25;refine cK ?_;refine d5 ?_;refine aL (kh22 _ _ ?_);clear kh22;refine aK fun K30 kh30 => ?_;refine aB ?_;refine aA rfl rfl rfl (a8 (vs := [_, _]) Tryz.isAgg133 Tryz.sizeOf133 rfl rfl ⟨(rdA rfl), (rdA rfl), trivial⟩) ?_;refine aR rfl rfl rfl (bD Tryz.call82 rfl (fun w_ hp_ => Cut_spec2 (gP n l c most) A14 (kC (prs n l) (d7 n l c most)) c14 0 1 w_ (eU (hE.seen hp_)) (by omega) ⟨by omega, by omega⟩ (cutE_ok hI64)) ?_);rintro _ _ ⟨V, v20, m20, sd, Aw, cw, mw, W, rfl, rfl, hsd, hW, hne, hz⟩
       obtain ⟨Av, nv, cv', rfl⟩ : ∃ Av nv cv', v20 = Value.slice Av nv cv' := by
        rcases hsd with ⟨_, h, _⟩ | ⟨_, h, _⟩ <;> exact ⟨_, _, _, h⟩
       dsimp only [List.cons_append, List.nil_append];refine aA rfl rfl rfl (aG rfl) ?_;refine aA rfl rfl rfl (aV rfl rfl) ?_;refine aA rfl rfl rfl (aV rfl rfl) ?_;refine aA rfl rfl rfl (aV rfl rfl) ?_;refine aA rfl rfl rfl (aV rfl rfl) ?_;refine aR rfl rfl rfl (cU Tryz.zeroValue43 rfl fun b20 => ?_);refine bF rfl rfl (cB Tryz.sizeOf43 rfl rfl rfl rfl (by first | exact Nat.le_of_ble_eq_true rfl | (simp; done) | (simp; omega)) [.slice Av nv cv'] rfl ?_);refine aA rfl rfl rfl (aF rfl) ?_;refine aA rfl rfl rfl (aF rfl) ?_;refine aA rfl rfl rfl (aF rfl) ?_;refine aJ ?_;refine aL (kh30 _ _ ?_);clear kh30;refine aK fun K31 kh31 => ?_;refine aK fun K32 kh32 => ?_;refine aB ?_;refine aA rfl rfl rfl (aG rfl) ?_;refine aA rfl rfl rfl (c6 rfl rfl) ?_;refine aJ ?_;refine aL (kh32 _ _ ?_);clear kh32;refine aZ rfl (fun c123 => ?_) (fun c123 => ?_)
       ·
        refine aK fun K33 kh33 => ?_;refine aB ?_;refine aA rfl rfl rfl (aG rfl) ?_;refine aA rfl rfl rfl (aF rfl) ?_;refine aA rfl rfl rfl (aF rfl) ?_;refine aJ ?_;refine aL (kh33 _ _ ?_);clear kh33;refine a7 ?_;refine bT ?_;have c123' : e6 (gP n l c most) (kC (prs n l) (d7 n l c most)) 0 1 ≠ 0 := by simpa using c123
        have he : ncE (n : Int) l c most = e6 (gP n l c most) (kC (prs n l) (d7 n l c most)) 0 1 := by unfold ncE; rw [if_neg (by rw [hreg0]; simp), if_neg (by omega), Int.toNat_natCast]
        exact bW [[]] Tryz.results54 rfl rfl (show Fly.Sub _ [[]] from (by repeat first|exact aI|refine aD ?_|refine aC rfl ?_|refine aH ?_)) ⟨[], none, 0, [], by rw [he]; rfl, rfl, Own.nil _ _, fun _ => rfl, fun h => absurd (he.symm.trans h) c123'⟩
       ·
        have hf0 : e6 (gP n l c most) (kC (prs n l) (d7 n l c most)) 0 1 = 0 := by simpa using c123
        obtain ⟨hsl, hWi, ⟨f, hF, hS⟩, _⟩ := hz hf0
        obtain ⟨bs, e20, rfl⟩ := hsd.resolve_left (fun h => by have := h.1; rw [this] at hsl; simp at hsl; omega)
        cases e20
        refine aW ?_;refine aL (kh31 _ _ ?_);clear kh31;refine aK fun K34 kh34 => ?_;refine aB ?_;refine aA rfl rfl rfl (aG rfl) ?_;refine aA rfl rfl rfl (o_func rfl rfl) ?_;refine aR rfl rfl rfl (fH [mp] _ Tryz.call83 rfl (by repeat (first | exact Sub.refl | refine aD ?_)) (fun w_ hp_ => DelP_spec Ap (prs n l) cp mp 84 [.pointer (some ⟨b20, 0, none⟩), .pointer (some ⟨b11, 0, none⟩)] (cutB (d7 n l c most) sd) w_ hop (by omega) Tryz.call84 (fun w' hs x hx => CutN1_spec x b20 b11 bs bN sd.length n n sd (d7 n l c most) w' (heldFrN hp_ hs) (heldFrN hp_ hs) (heldFrN hp_ hs) (heldFrN hp_ hs) rfl hndl (f7 hx).1 (f7 hx).2 (fun z hz => by have := hrgN z hz; omega)) hp_.owns) ?_);rintro _ _ ⟨m127, A127, c1, c2, rfl, rfl, hc1, hc1m, ho127⟩;dsimp only [List.cons_append, List.nil_append];refine aR rfl rfl rfl (bD Tryz.call57 rfl (fun w_ hp_ => ClipPr_spec A127 _ c1 w_ hc1 hc1m (j0 ho127)) ?_);rintro _ _ ⟨rfl, rfl⟩;dsimp only [List.cons_append, List.nil_append];refine aA rfl rfl rfl (aF rfl) ?_;refine aA rfl rfl rfl (aF rfl) ?_;refine aJ ?_;refine aL (kh34 _ _ ?_);clear kh34;refine a7 ?_;have he : ncE (n : Int) l c most = 0 := by unfold ncE; rw [if_neg (by rw [hreg0]; simp), if_neg (by omega), Int.toNat_natCast]; exact hf0
        exact bW [m127] Tryz.results54 rfl rfl (by repeat first|exact aI|refine aD ?_|refine aC rfl ?_|refine aH ?_) ⟨_, A127, c2, m127, by rw [he], rfl, ho127, fun h => absurd he h, fun _ => by rw [Int.toNat_natCast]; exact ⟨fun h => absurd h hnl, fun _ => ⟨f, V, sd, hsl, hF, hS, rfl⟩⟩⟩
end Go.Proofs.YtjjogcnjcnpehaaGreat

/- grow.Order: all vertices, part by part, nearest first. -/
namespace Go.Proofs.YtjjogcnjcnpehaaGreat
open Go Go.RowKit Fly
set_option linter.unusedVariables false
set_option linter.unusedSimpArgs false
/-- The order of the vertices that lie with the first v. -/
def dJ (n : Nat) (rows : Nat → List Int) : Nat → BSt
  | 0 => ([], List.replicate n false)
  | v + 1 => if (dJ n rows v).2.getD v false = true then dJ n rows v else ((dJ n rows v).1 ++ (bfs n rows v (dJ n rows v).2).1, (bfs n rows v (dJ n rows v).2).2)
def ordR (N : Int) (l : List Arc) : List Int × Int := if (bH N l).2 ≠ 0 then ([], (bH N l).2) else ((dJ N.toNat (fun v : Nat => bY (v : Int) l) N.toNat).1, 0)
theorem bfs_inv {n : Nat} {rows : Nat → List Int} (hr : ∀ v, v < n → ∀ u ∈ rows v, 0 ≤ u ∧ u < (n : Int)) {c : Nat} {b : List Bool} (hb : b.length = n) (hc : c < n) : BInv n (bfs n rows c b) := BInv.go hr (BInv.start hb hc) n
theorem ordGo_len {n : Nat} {rows : Nat → List Int} (hr : ∀ v, v < n → ∀ u ∈ rows v, 0 ≤ u ∧ u < (n : Int)) : ∀ v, v ≤ n → (dJ n rows v).2.length = n ∧ (dJ n rows v).1.length ≤ v * n
  | 0, _ => ⟨by show (List.replicate n false).length = n; simp, by show 0 ≤ 0 * n; omega⟩
  | v + 1, h => by
    obtain ⟨h1, h2⟩ := ordGo_len hr v (by omega)
    unfold dJ
    split
    · exact ⟨h1, Nat.le_trans h2 (Nat.mul_le_mul_right n (Nat.le_succ v))⟩
    · have hI := bfs_inv hr h1 (show v < n by omega)
      refine ⟨hI.len, ?_⟩;have := hI.out
      rw [List.length_append, Nat.succ_mul]; omega
theorem ordGo_small {n : Nat} {rows : Nat → List Int} (hr : ∀ v, v < n → ∀ u ∈ rows v, 0 ≤ u ∧ u < (n : Int)) (hn : n ≤ 1024) {v : Nat} (hv : v ≤ n) : (dJ n rows v).2.length = n ∧ (dJ n rows v).1.length ≤ 1048576 :=
  ⟨(ordGo_len hr v hv).1, Nat.le_trans (ordGo_len hr v hv).2 (Nat.le_trans (Nat.mul_le_mul (Nat.le_trans hv hn) hn) (by decide))⟩
theorem mayLen {F : BSt} {ys : List Int} {y : Int} (h : arMay F ys y) : ys.length < F.1.length := by
  obtain ⟨k, hk, rfl, _⟩ := h
  rw [List.length_take]; omega
set_option maxRecDepth 100000 in
set_option maxHeartbeats 4000000 in
theorem Order_spec (N : Int) (A : Option Addr) (l : List Arc) (cap : Nat) (w : World) (hr : Ro (Fr w []) w A (l.flatMap cE)) (hl : l.length ≤ 9223372036854775807) (hN : I64 N) (hok : ∀ x ∈ l, dQ x) :
    Meets Tryz.prog 61 [.agg #[.int .i64 N, .slice A l.length cap]] w [] (fun u own' => ∃ s ms, u = .tuple #[s, .int .i64 (ordR N l).2] ∧ own' = [ms] ∧ Own 3 1 s (ordR N l).1.length (a6 (ordR N l).1) ms) := by
 refine r_enter Tryz.func61 rfl Tryz.ntmps61 rfl Owns.nil ?_;refine cL fun K1 kh1 => ?_;refine bE ?_;refine eI rfl rfl rfl (Does.toR rfl (cZ rfl rfl fun b1 => ?_));refine aP rfl rfl rfl rfl (aF rfl) ?_;refine aP rfl rfl rfl rfl (aF rfl) ?_;refine bV ?_;refine cT (kh1 _ _ _ ?_);clear kh1;refine cL fun K2 kh2 => ?_;refine cL fun K3 kh3 => ?_;refine bE ?_;refine aP rfl rfl rfl rfl (a8 (vs := [_, _]) Tryz.isAgg24 Tryz.sizeOf24 rfl rfl ⟨(rdA rfl), (rdA rfl), trivial⟩) ?_;refine eI rfl rfl rfl (Does.toR rfl (bD Tryz.call21 rfl (fun w_ hp_ => fG N A l cap w_ (hr.up0 hp_) hl hN hok) ?_));rintro _ _ ⟨rfl, rfl⟩;dsimp only [List.cons_append, List.nil_append];refine aP rfl rfl rfl rfl (aG rfl) ?_;refine aP rfl rfl rfl rfl (aV rfl rfl) ?_;refine aP rfl rfl rfl rfl (aV rfl rfl) ?_;refine aP rfl rfl rfl rfl (aF rfl) ?_;refine aP rfl rfl rfl rfl (aF rfl) ?_;refine bV ?_;refine cT (kh3 _ _ _ ?_);clear kh3;refine cL fun K4 kh4 => ?_;refine bE ?_;refine aP rfl rfl rfl rfl (aG rfl) ?_;refine aP rfl rfl rfl rfl (c6 rfl rfl) ?_;refine bV ?_;refine cT (kh4 _ _ _ ?_);clear kh4;refine iC rfl (fun c17 => ?_) (fun c17 => ?_)
 ·
  refine cL fun K5 kh5 => ?_;refine bE ?_;refine aP rfl rfl rfl rfl (aG rfl) ?_;refine aP rfl rfl rfl rfl (aF rfl) ?_;refine aP rfl rfl rfl rfl (aF rfl) ?_;refine bV ?_;refine cT (kh5 _ _ _ ?_);clear kh5;refine jX ?_;refine r_tr ?_;have e : ordR N l = ([], (bH N l).2) := if_pos c17
  exact iX [[]] Tryz.results61 rfl rfl (show Fly.Sub _ [[], []] from (by repeat first|exact aI|refine aD ?_|refine aC rfl ?_|refine aH ?_)) ⟨_, _, by rw [e], rfl, by rw [e]; exact Own.nil _ _⟩
 ·
  have hg : (bH N l).2 = 0 := by simpa using c17
  obtain ⟨hg1, hg2, hgl, hgd⟩ := bX hg
  obtain ⟨n, rfl⟩ : ∃ n : Nat, N = (n : Int) := ⟨N.toNat, by omega⟩
  have hn1 : n ≤ 1024 := by omega
  obtain ⟨hrl, hrng⟩ := iZ hg
  have hres : ordR (n : Int) l = ((dJ n (fun v : Nat => bY (v : Int) l) n).1, 0) := by unfold ordR; rw [if_neg (by rw [hg]; simp), Int.toNat_natCast]
  refine fU ?_;refine cT (kh2 _ _ _ ?_);clear kh2;refine r_meet (α := Nat × List Value × List Seg × Nat) [1, 10, 37] (fun ⟨bo, vs, ms, b23⟩ => [(6, .slice (some ⟨bo, 0, none⟩) n n), (7, .slice (some ⟨b23, 0, none⟩) n n)]) (fun ⟨bo, vs, ms, b23⟩ => [[(bo, blk vs 25)], ms.flatten, [(b23, blk (dW (List.replicate n false)) 4)], [(b1, blk [.int .i64 (n : Int), .slice A l.length cap] 24)]]) (fun ⟨bo, vs, ms, b23⟩ => RowsI 3 (nrows n l) vs ms) ?_ ?_
  ·
   intro K6 kh6;refine r_old ?_;refine dH [[(b1, blk [.int .i64 (n : Int), .slice A l.length cap] 24)]] rfl ?_;refine aU 0 rfl (by decide +kernel) rfl rfl rfl (by repeat first|exact aI|refine aD ?_|refine aC rfl ?_|refine aH ?_) (a8 (vs := [_, _]) Tryz.isAgg24 Tryz.sizeOf24 rfl rfl ⟨(rdA rfl), (rdA rfl), trivial⟩) ?_;refine aU 2 rfl (by decide +kernel) rfl rfl rfl (by repeat first|exact aI|refine aD ?_|refine aC rfl ?_|refine aH ?_) (aQ eE rfl) ?_;refine aU 3 rfl (by decide +kernel) rfl rfl rfl (by repeat first|exact aI|refine aD ?_|refine aC rfl ?_|refine aH ?_) (aM Tryz.isAgg3 rfl (rdA rfl)) ?_;refine jE 1 4 rfl rfl (by decide +kernel) rfl rfl rfl rfl rfl rfl ?_ ?_
   ·
    refine (bD Tryz.call87 rfl (fun w_ hp_ => lM n A l cap w_ (hr.up0 hp_) hn1 hgl hgd) ?_);rintro _ _ ⟨bo, vs, ms, rfl, rfl, hR⟩;dsimp only [List.cons_append, List.nil_append];refine ⟨(by repeat first|exact aI|refine aD ?_|refine aC rfl ?_|refine aH ?_), ?_⟩;refine jE 4 5 rfl rfl (by decide +kernel) rfl rfl rfl rfl rfl rfl ?_ ?_
    ·
     refine (d3 el43 rfl rfl n rfl (by omega) (by omega) (dW (List.replicate n false)) (kY n false) fun b23 => ⟨(by repeat first|exact aI|refine aD ?_|refine aC rfl ?_|refine aH ?_), ?_⟩);refine bQ 5 rfl (by decide +kernel) rfl rfl rfl ((aF rfl).does ⟨(by repeat first|exact aI|refine aD ?_|refine aC rfl ?_|refine aH ?_), ?_⟩);refine bQ 6 rfl (by decide +kernel) rfl rfl rfl ((aF rfl).does ⟨(by repeat first|exact aI|refine aD ?_|refine aC rfl ?_|refine aH ?_), ?_⟩);refine dF (by decide +kernel) ?_;refine r_new ?_;refine cT (kh6 _ _ (bo, vs, ms, b23) hR ?_ ?_ ?_)
     · exact (by repeat constructor)
     · exact (by repeat constructor)
     · repeat first|exact aI|refine aD ?_|refine aC rfl ?_|refine aH ?_
    ·
     refine (aF rfl).does ⟨(by repeat first|exact aI|refine aD ?_|refine aC rfl ?_|refine aH ?_), ?_⟩;refine bQ 4 rfl (by decide +kernel) rfl rfl rfl (d3 el43 rfl rfl n rfl (by omega) (by omega) (dW (List.replicate n false)) (kY n false) fun b23 => ⟨(by repeat first|exact aI|refine aD ?_|refine aC rfl ?_|refine aH ?_), ?_⟩);refine bQ 6 rfl (by decide +kernel) rfl rfl rfl ((aF rfl).does ⟨(by repeat first|exact aI|refine aD ?_|refine aC rfl ?_|refine aH ?_), ?_⟩);refine dF (by decide +kernel) ?_;refine r_new ?_;refine cT (kh6 _ _ (bo, vs, ms, b23) hR ?_ ?_ ?_)
     · exact (by repeat constructor)
     · exact (by repeat constructor)
     · repeat first|exact aI|refine aD ?_|refine aC rfl ?_|refine aH ?_
   ·
    refine (d3 el43 rfl rfl n rfl (by omega) (by omega) (dW (List.replicate n false)) (kY n false) fun b23 => ⟨(by repeat first|exact aI|refine aD ?_|refine aC rfl ?_|refine aH ?_), ?_⟩);refine bQ 1 rfl (by decide +kernel) rfl rfl rfl (bD Tryz.call87 rfl (fun w_ hp_ => lM n A l cap w_ (hr.up0 hp_) hn1 hgl hgd) ?_);rintro _ _ ⟨bo, vs, ms, rfl, rfl, hR⟩;dsimp only [List.cons_append, List.nil_append];refine ⟨(by repeat first|exact aI|refine aD ?_|refine aC rfl ?_|refine aH ?_), ?_⟩;refine bQ 5 rfl (by decide +kernel) rfl rfl rfl ((aF rfl).does ⟨(by repeat first|exact aI|refine aD ?_|refine aC rfl ?_|refine aH ?_), ?_⟩);refine bQ 6 rfl (by decide +kernel) rfl rfl rfl ((aF rfl).does ⟨(by repeat first|exact aI|refine aD ?_|refine aC rfl ?_|refine aH ?_), ?_⟩);refine dF (by decide +kernel) ?_;refine r_new ?_;refine cT (kh6 _ _ (bo, vs, ms, b23) hR ?_ ?_ ?_)
    · exact (by repeat constructor)
    · exact (by repeat constructor)
    · repeat first|exact aI|refine aD ?_|refine aC rfl ?_|refine aH ?_
  ·
   rintro ⟨bo, vs, ms, b23⟩ hR;refine cL fun K7 kh7 => ?_;refine bE ?_;refine eI rfl rfl rfl (Does.toR rfl (cU Tryz.zeroValue25 rfl fun b8 => ?_));refine bV ?_;refine cT (kh7 _ _ _ ?_);clear kh7;refine cL fun K8 kh8 => ?_;refine cL fun K9 kh9 => ?_;refine bE ?_;refine aP rfl rfl rfl rfl (aQ eE rfl) ?_;refine aP rfl rfl rfl rfl (aM Tryz.isAgg3 rfl (rdA rfl)) ?_;refine aP rfl rfl rfl rfl (aG rfl) ?_;refine bV ?_;refine cT (kh9 _ _ _ ?_);clear kh9;refine eK ?_;refine r_loop (α := Nat × Value × Seg × List Nat) (fun ⟨v, vo, mo, mk⟩ => mk) [6, 7, 8, 25, 37] (fun ⟨v, vo, mo, mk⟩ => [(26, .int .i64 (v : Int))]) (fun ⟨v, vo, mo, mk⟩ => [mks mk, [(b8, blk [vo] 25)], mo, [(b23, blk (dW (dJ n (fun v : Nat => bY (v : Int) l) v).2) 4)], [(bo, blk vs 25)], ms.flatten, [(b1, blk [.int .i64 (n : Int), .slice A l.length cap] 24)]]) (fun ⟨v, vo, mo, mk⟩ => v ≤ n ∧ Own 3 1 vo (dJ n (fun v : Nat => bY (v : Int) l) v).1.length (a6 (dJ n (fun v : Nat => bY (v : Int) l) v).1) mo) (fun ⟨v, vo, mo, mk⟩ => n - v) (0, .slice none 0 0, [], []) rfl ?_ ?_ ?_ ?_
   · exact (by repeat constructor)
   · repeat first|exact aI|refine aD ?_|refine aC rfl ?_|refine aH ?_
   · exact ⟨Nat.zero_le _, Own.nil _ _⟩
   ·
    rintro ⟨v, vo, mo, mk⟩ ⟨hvn, hO⟩;obtain ⟨hbl, hol⟩ := ordGo_small hrng hn1 hvn
    obtain ⟨Ao, co, rfl, hco⟩ := hO.val
    dsimp only;refine r_envC (e := [(26, _), (6, _), (7, _), (8, _), (25, _)]) (by repeat constructor) ?_;refine cL fun K10 kh10 => ?_;refine bE ?_;refine aP rfl rfl rfl rfl (cD rfl rfl) ?_;refine bV ?_;refine cT (kh10 _ _ _ ?_);clear kh10;refine cL fun K11 kh11 => ?_;refine iC rfl (fun c27 => ?_) (fun c27 => ?_)
    ·
     have hv : v < n := by omega
     refine fU ?_;refine cT (kh11 _ _ _ ?_);clear kh11;refine cL fun K12 kh12 => ?_;refine eK ?_;refine cL fun K13 kh13 => ?_;refine bE ?_;refine aP rfl rfl rfl rfl (aG rfl) ?_;refine aP rfl rfl rfl rfl (aF rfl) ?_;refine bV ?_;refine cT (kh13 _ _ _ ?_);clear kh13;refine cL fun K14 kh14 => ?_;refine cL fun K15 kh15 => ?_;refine bE ?_;refine aP rfl rfl rfl rfl (aG rfl) ?_;refine aP rfl rfl rfl rfl (aG rfl) ?_;refine aP rfl rfl rfl rfl (bA kW rfl rfl (v) ⟨by omega, by omega, by first | omega | (simp; done) | (simp; omega)⟩) ?_;refine aP rfl rfl rfl rfl (aM Tryz.isAgg4 rfl (rdA (boolsG_at (by omega)))) ?_;refine bV ?_;refine cT (kh15 _ _ _ ?_);clear kh15;refine r_condB rfl (fun c32 => ?_) (fun c32 => ?_)
     ·
      refine iY ?_;refine r_te ?_;clear kh14;refine r_be ?_;refine cT (kh12 _ _ _ ?_);clear kh12;refine bE ?_;refine aP rfl rfl rfl rfl (bG rfl rfl _ (aT (by omega))) ?_;refine aP rfl rfl rfl rfl (aG rfl) ?_;refine bV ?_;have hsame : dJ n (fun v : Nat => bY (v : Int) l) (v + 1) = (dJ n (fun v : Nat => bY (v : Int) l) v) := if_pos c32
      rw [← hsame];refine cT (i4 (v + 1, .slice Ao (dJ n (fun v : Nat => bY (v : Int) l) (v + 1)).1.length co, mo, mk) (by first | omega | (dsimp only; omega) | (simp; omega)) rfl ⟨by omega, by rw [hsame]; exact hO⟩ ?_ ?_ ?_)
      · exact (by repeat constructor)
      · exact (by repeat constructor)
      · repeat first|exact aI|refine aD ?_|refine aC rfl ?_|refine aH ?_
     ·
      have hFI := bfs_inv hrng hbl hv
      have hFo := hFI.out
      refine fU ?_;refine cT (kh14 _ _ _ ?_);clear kh14;refine cL fun K16 kh16 => ?_;refine bE ?_;refine aP rfl rfl rfl rfl (aG rfl) ?_;refine aP rfl rfl rfl rfl (aG rfl) ?_;refine aP rfl rfl rfl rfl (aG rfl) ?_;refine eI rfl rfl rfl (Does.toR rfl (bD Tryz.call88 rfl (fun w_ hp_ => around_spec n bo b23 (v : Int) w_) ?_));rintro _ _ ⟨q3, q4, q5, rfl, rfl⟩;dsimp only [List.cons_append, List.nil_append];refine bV ?_;refine cT (kh16 _ _ _ ?_);clear kh16;refine eK ?_;refine r_range (p := 37) (lb := [.pointer (some ⟨q5, 0, none⟩), .pointer (some ⟨q4, 0, none⟩), .pointer (some ⟨q3, 0, none⟩)]) rfl Tryz.call111 rfl [[(b8, blk [.slice Ao (dJ n (fun v : Nat => bY (v : Int) l) v).1.length co] 25)], mo] [[(q5, blk [.slice (some ⟨b23, 0, none⟩) n n] 43)], [(q4, blk [.int .i64 (v : Int)] 3)], [(q3, blk [.slice (some ⟨bo, 0, none⟩) n n] 30)], [(b23, blk (dW (dJ n (fun v : Nat => bY (v : Int) l) v).2) 4)], [(bo, blk vs 25)], ms.flatten] [mks mk, [(b1, blk [.int .i64 (n : Int), .slice A l.length cap] 24)]] (by repeat (first | exact Sub.refl | exact aI | refine aD ?_ | refine aC rfl ?_ | refine aH ?_)) (fun y : Int => Value.int .i64 y) (may := arMay (bfs n (fun v : Nat => bY (v : Int) l) v (dJ n (fun v : Nat => bY (v : Int) l) v).2)) (Fin := arFin (bfs n (fun v : Nat => bY (v : Int) l) v (dJ n (fun v : Nat => bY (v : Int) l) v).2) n v b23 bo q3 q4 q5 vs ms.flatten) (Stp := arStp (bfs n (fun v : Nat => bY (v : Int) l) v (dJ n (fun v : Nat => bY (v : Int) l) v).2) n v b23 bo q3 q4 q5 vs ms.flatten) (fun w1_ m0_ hp_ => l9 n v b23 bo q3 q4 q5 l (dJ n (fun v : Nat => bY (v : Int) l) v).2 vs ms m0_ w1_ hbl hv hn1 hR hrng hrl) (fun ys m => ∃ vo mo, m = [(b8, blk [vo] 25)] ++ mo ∧ Own 3 1 vo ((dJ n (fun v : Nat => bY (v : Int) l) v).1 ++ ys).length (a6 ((dJ n (fun v : Nat => bY (v : Int) l) v).1 ++ ys)) mo) (fun _ _ => False) (.ret) (⟨.slice Ao (dJ n (fun v : Nat => bY (v : Int) l) v).1.length co, mo, by simp, by rw [List.append_nil]; exact hO⟩) ?_ ?_ ?_
      ·
       intro w1_ l_ d_ ys y m_ hI hmay hfr K_ kh_;obtain ⟨vo, mo, rfl, hO⟩ := hI
       have hyl := mayLen hmay
       obtain ⟨Ao, co, rfl, hco⟩ := hO.val
       have hal : ((dJ n (fun v : Nat => bY (v : Int) l) v).1 ++ ys).length = (dJ n (fun v : Nat => bY (v : Int) l) v).1.length + ys.length := List.length_append
       refine r_subC (Sub.op3 (parts := [[(b8, blk [.slice Ao ((dJ n (fun v : Nat => bY (v : Int) l) v).1 ++ ys).length co] 25)], mo]) (by simp) Sub.refl) ?_;dsimp only [List.cons_append, List.nil_append];refine bE ?_;refine aP rfl rfl rfl rfl (aF rfl) ?_;refine bV ?_;refine cT (kh_ _ _ ?_);clear kh_;refine eK ?_;refine bE ?_;refine aP rfl rfl rfl rfl (aM Tryz.isAgg25 rfl (rdA rfl)) ?_;refine aP rfl rfl rfl rfl (aG rfl) ?_;refine eI rfl rfl rfl (Does.toR rfl (dA dV (by omega) rfl rfl rfl fun b40 => ?_));refine eI rfl rfl rfl (Does.toR rfl (dG dV rfl rfl hO (ys := [.int .i64 y]) ⟨(rdA rfl), trivial⟩ rfl rfl (by omega) (by omega) fun v41 m41 o41 => ?_));obtain ⟨A41, c41, rfl, _⟩ := o41.val
       refine iM rfl rfl (Does.toR rfl (cB Tryz.sizeOf25 rfl rfl rfl rfl (by first | exact Nat.le_of_ble_eq_true rfl | (simp; done) | (simp; omega)) [.slice A41 (((dJ n (fun v : Nat => bY (v : Int) l) v).1 ++ ys).length + 1) c41] rfl ?_));refine bV ?_;refine r_bn ?_;exact lN (m' := [(b8, blk [.slice A41 (((dJ n (fun v : Nat => bY (v : Int) l) v).1 ++ ys).length + 1) c41] 25)] ++ m41) (Sub.reg (out := [[(l_, .loop (d_.rc .busy none))], [(d_.D, .deferred (some []))], [(b8, blk [.slice A41 (((dJ n (fun v : Nat => bY (v : Int) l) v).1 ++ ys).length + 1) c41] 25)], m41]) (by repeat first|exact aI|refine aD ?_|refine aC rfl ?_|refine aH ?_) (by simp)) ⟨_, m41, rfl, by rw [← List.append_assoc, ← eS]; exact o41⟩
      ·
       intro D_ ys m_ o_ hF hI;obtain ⟨vo2, mo2, rfl, hO2⟩ := hI
       obtain ⟨A2, c2, rfl, hco2⟩ := hO2.val
       obtain ⟨hF1, rfl⟩ := hF
       have hnew : dJ n (fun v : Nat => bY (v : Int) l) (v + 1) = ((dJ n (fun v : Nat => bY (v : Int) l) v).1 ++ ys, (bfs n (fun v : Nat => bY (v : Int) l) v (dJ n (fun v : Nat => bY (v : Int) l) v).2).2) := by rw [hF1]; exact if_neg (by rw [c32]; simp)
       refine r_subQ (Sub.reg (out := [[(D_, .deferred (some []))], mks mk, [(b8, blk [.slice A2 ((dJ n (fun v : Nat => bY (v : Int) l) v).1 ++ ys).length c2] 25)], mo2, [(b23, blk (dW (bfs n (fun v : Nat => bY (v : Int) l) v (dJ n (fun v : Nat => bY (v : Int) l) v).2).2) 4)], [(bo, blk vs 25)], ms.flatten, [(b1, blk [.int .i64 (n : Int), .slice A l.length cap] 24)]]) (out' := [mks (D_ :: mk), [(b8, blk [.slice A2 ((dJ n (fun v : Nat => bY (v : Int) l) v).1 ++ ys).length c2] 25)], mo2, [(b23, blk (dW (bfs n (fun v : Nat => bY (v : Int) l) v (dJ n (fun v : Nat => bY (v : Int) l) v).2).2) 4)], [(bo, blk vs 25)], ms.flatten, [(b1, blk [.int .i64 (n : Int), .slice A l.length cap] 24)]]) (Sub.op2 (parts := [[(b8, blk [.slice A2 ((dJ n (fun v : Nat => bY (v : Int) l) v).1 ++ ys).length c2] 25)], mo2]) (by simp) (by dsimp only [List.cons_append, List.nil_append]; repeat first|exact aI|refine aD ?_|refine aC rfl ?_|refine aH ?_)) (by simp [mks])) ?_;refine r_bn ?_;refine r_bn ?_;refine cT (kh12 _ _ _ ?_);clear kh12;refine bE ?_;refine aP rfl rfl rfl rfl (bG rfl rfl _ (aT (by omega))) ?_;refine aP rfl rfl rfl rfl (aG rfl) ?_;refine bV ?_;rw [show (bfs n (fun v : Nat => bY (v : Int) l) v (dJ n (fun v : Nat => bY (v : Int) l) v).2).2 = (dJ n (fun v : Nat => bY (v : Int) l) (v + 1)).2 from by rw [hnew]];refine cT (i4 (v + 1, .slice A2 ((dJ n (fun v : Nat => bY (v : Int) l) v).1 ++ ys).length c2, mo2, D_ :: mk) (by first | omega | (dsimp only; omega) | (simp; omega)) rfl ⟨by omega, by rw [hnew]; exact hO2⟩ ?_ ?_ ?_)
       · exact (by repeat constructor)
       · exact (by repeat constructor)
       · repeat first|exact aI|refine aD ?_|refine aC rfl ?_|refine aH ?_
      · intro D_ ys m_ o_ hF hI;exact hI.elim
    ·
     obtain rfl : n = v := by omega
     refine iY ?_;refine r_te ?_;clear kh11;refine r_te ?_;refine r_be ?_;refine cT (kh8 _ _ _ ?_);clear kh8;refine cL fun K17 kh17 => ?_;refine bE ?_;refine aP rfl rfl rfl rfl (aM Tryz.isAgg25 rfl (rdA rfl)) ?_;refine aP rfl rfl rfl rfl (aF rfl) ?_;refine aP rfl rfl rfl rfl (aF rfl) ?_;refine bV ?_;refine cT (kh17 _ _ _ ?_);clear kh17;refine jX ?_;exact iX [mo] Tryz.results61 rfl rfl (by repeat first|exact aI|refine aD ?_|refine aC rfl ?_|refine aH ?_) ⟨.slice Ao (dJ n (fun v : Nat => bY (v : Int) l) n).1.length co, mo, by rw [hres], rfl, by rw [hres]; exact hO⟩
end Go.Proofs.YtjjogcnjcnpehaaGreat

/- The order around a centre: who comes of whom, how far each one lies; the order of all vertices. -/
namespace Go.Proofs.YtjjogcnjcnpehaaGreat
open Go Fly
set_option linter.unusedVariables false
set_option linter.unusedSimpArgs false
set_option linter.unusedSectionVars false
/-- Marked is what was marked, and what has come. -/
def BMk (b0 : List Bool) (s : BSt) : Prop := ∀ v : Nat, s.2.getD v false = true ↔ b0.getD v false = true ∨ (v : Int) ∈ s.1
theorem BMk.start {n c : Nat} {b : List Bool} (hb : b.length = n) (hc : c < n) : BMk b (eA c b) := fun v => by
  show (b.set c true).getD v false = true ↔ _ ∨ (v : Int) ∈ [(c : Int)]
  rw [getD_set, List.mem_singleton]
  by_cases h : c = v
  · subst h; rw [if_pos ⟨rfl, by omega⟩]; simp
  · rw [if_neg (fun h' => h h'.1)]
    constructor
    · exact .inl
    · rintro (h' | h')
      · exact h'
      · exact absurd (by omega) h
theorem BMk.push1 {n : Nat} {b0 : List Bool} {s : BSt} (hI : BInv n s) (h : BMk b0 s) {u : Int} (hu : 0 ≤ u ∧ u < (n : Int)) : BMk b0 (gG s u) := by
  unfold gG
  split
  · exact h
  · intro v
    show (s.2.set u.toNat true).getD v false = true ↔ _ ∨ (v : Int) ∈ s.1 ++ [u]
    rw [getD_set, List.mem_append, List.mem_singleton]
    by_cases e : u.toNat = v
    · rw [if_pos ⟨e, by rw [hI.len]; omega⟩]
      exact ⟨fun _ => .inr (.inr (by omega)), fun _ => rfl⟩
    · rw [if_neg (fun h' => e h'.1), h v]
      constructor
      · rintro (h' | h')
        · exact .inl h'
        · exact .inr (.inl h')
      · rintro (h' | h' | h')
        · exact .inl h'
        · exact .inr h'
        · exact absurd (by omega) e
theorem BMk.push {n : Nat} {b0 : List Bool} {row : List Int} (hr : ∀ u ∈ row, 0 ≤ u ∧ u < (n : Int)) : ∀ {s : BSt}, BInv n s → BMk b0 s → BMk b0 (fZ row s) := by
  induction row with
  | nil => exact fun _ h => h
  | cons u row ih => exact fun hI h => ih (fun x hx => hr x (List.mem_cons_of_mem _ hx)) (hI.push1 (hr u (List.mem_cons_self ..))) (h.push1 hI (hr u (List.mem_cons_self ..)))
theorem BMk.go {n : Nat} {b0 : List Bool} {rows : Nat → List Int} (hr : ∀ v, v < n → ∀ u ∈ rows v, 0 ≤ u ∧ u < (n : Int)) {s : BSt} (hI : BInv n s) (h : BMk b0 s) : ∀ k, BMk b0 (bgo rows s k)
  | 0 => h
  | k + 1 => by
    have ih := BMk.go hr hI h k
    have hIk := BInv.go hr hI k
    show BMk b0 (iT rows k (bgo rows s k))
    rcases Nat.lt_or_ge k (bgo rows s k).1.length with hk | hk
    · rw [lG hk]
      exact ih.push (hr _ (by have := hIk.rng _ (List.getElem_mem hk); omega)) hIk
    · rw [lF hk]; exact ih
/-- How far each one lies: E; the first k have been gone through. -/
structure BLev (n : Nat) (rows : Nat → List Int) (c k : Nat) (s : BSt) (E : List Nat) : Prop where
  len : E.length = s.1.length
  pos : 0 < s.1.length
  head : s.1[0]? = some (c : Int) ∧ E[0]? = some 0
  rise : E.Pairwise (· ≤ ·)
  par : ∀ i (h : i < s.1.length) (h' : i < E.length), 0 < i → ∃ j, ∃ hj : j < i, s.1[i] ∈ rows (s.1[j]'(by omega)).toNat ∧ E[i] = E[j]'(by omega) + 1
  top : ∀ (h' : k < E.length) i (h : i < E.length), E[i] ≤ E[k] + 1
  clo : ∀ j (h : j < s.1.length) (h' : j < E.length), j < k → ∀ u ∈ rows s.1[j].toNat, ∃ i, ∃ hi : i < s.1.length, ∃ hi' : i < E.length, s.1[i] = u ∧ E[i] ≤ E[j] + 1
theorem BLev.start (n : Nat) (rows : Nat → List Int) (c : Nat) (b : List Bool) : BLev n rows c 0 (eA c b) [0] :=
  ⟨rfl, by simp [eA], ⟨rfl, rfl⟩, by simp, fun i h _ hi => by simp [eA] at h; omega, fun h' i h => by simp at h; subst h; simp, fun j _ _ hj => by omega⟩
/-- One neighbour of the k-th. -/
theorem BLev.push1 {n : Nat} {rows : Nat → List Int} {c k : Nat} {s : BSt} {E : List Nat} (h : BLev n rows c k s E) (hk : k < s.1.length) (hk' : k < E.length) {u : Int} (hu : u ∈ rows s.1[k].toNat) (hm : s.2.getD u.toNat false = true ↔ u ∈ s.1) :
    ∃ E', BLev n rows c k (gG s u) E' ∧ E <+: E' ∧ (∃ i, ∃ hi : i < (gG s u).1.length, ∃ hi' : i < E'.length, (gG s u).1[i] = u ∧ E'[i] ≤ E[k] + 1) := by
  unfold gG
  split
  · rename_i ht
    refine ⟨E, h, List.prefix_refl _, ?_⟩;obtain ⟨i, hi, he⟩ := List.mem_iff_getElem.1 (hm.1 ht)
    exact ⟨i, hi, by rw [h.len]; exact hi, he, h.top hk' i _⟩
  · have hlen := h.len
    refine ⟨E ++ [E[k] + 1], ⟨by simp [hlen], by simp, ?_, ?_, ?_, ?_, ?_⟩, List.prefix_append _ _, s.1.length, by simp, by simp [hlen], by simp, ?_⟩
    · refine ⟨?_, ?_⟩
      · rw [List.getElem?_append_left h.pos]; exact h.head.1
      · rw [List.getElem?_append_left (by have := h.pos; omega)]; exact h.head.2
    · rw [List.pairwise_append]
      refine ⟨h.rise, by simp, fun a ha b hb => ?_⟩;simp only [List.mem_singleton] at hb;obtain ⟨i, hi, rfl⟩ := List.mem_iff_getElem.1 ha
      have := h.top hk' i hi
      omega
    · intro i hi hi' h0
      rcases Nat.lt_or_ge i s.1.length with hl | hl
      · obtain ⟨j, hj, h1, h2⟩ := h.par i hl (by omega) h0
        refine ⟨j, hj, ?_, ?_⟩
        · rw [List.getElem_append_left hl, List.getElem_append_left (by omega)]; exact h1
        · rw [List.getElem_append_left (by omega), List.getElem_append_left (by omega)]; exact h2
      · have hi2 : i = s.1.length := by simp at hi; omega
        subst hi2;refine ⟨k, hk, ?_, ?_⟩
        · rw [List.getElem_append_right (Nat.le_refl _), List.getElem_append_left hk]; simpa using hu
        · rw [List.getElem_append_right (by omega), List.getElem_append_left hk']; simp
    · intro _ i hi
      rw [List.getElem_append_left hk']
      rcases Nat.lt_or_ge i E.length with hl | hl
      · rw [List.getElem_append_left hl]; exact h.top hk' i hl
      · rw [List.getElem_append_right hl]; simp
    · intro j hj hj' hjk v hv
      have hjl : j < s.1.length := by omega
      have hjl' : j < E.length := by omega
      rw [List.getElem_append_left hjl] at hv;obtain ⟨i, hi, hi', h1, h2⟩ := h.clo j hjl hjl' hjk v hv
      refine ⟨i, by simp; omega, by simp; omega, ?_, ?_⟩
      · rw [List.getElem_append_left hi]; exact h1
      · rw [List.getElem_append_left hi', List.getElem_append_left hjl']; exact h2
    · rw [List.getElem_append_right (by omega)]; simp
theorem pre_get {α : Type} {a b : List α} (h : a <+: b) {i : Nat} (hi : i < a.length) : ∃ hi' : i < b.length, b[i] = a[i] := by
  obtain ⟨t, rfl⟩ := h
  exact ⟨by simp; omega, List.getElem_append_left hi⟩
theorem BLev.push {n : Nat} {rows : Nat → List Int} {c k : Nat} {b0 : List Bool} (hf : ∀ v, b0.getD v false = false) (hr : ∀ v, v < n → ∀ u ∈ rows v, 0 ≤ u ∧ u < (n : Int)) {s : BSt} {E : List Nat} (hI : BInv n s) (hM : BMk b0 s) (h : BLev n rows c k s E) (hk : k < s.1.length) (hk' : k < E.length) :
    ∀ j, j ≤ (rows s.1[k].toNat).length → ∃ E', BLev n rows c k (fZ ((rows s.1[k].toNat).take j) s) E' ∧ E <+: E' ∧
      ∀ u ∈ (rows s.1[k].toNat).take j, ∃ i, ∃ hi : i < (fZ ((rows s.1[k].toNat).take j) s).1.length, ∃ hi' : i < E'.length, (fZ ((rows s.1[k].toNat).take j) s).1[i] = u ∧ E'[i] ≤ E[k] + 1
  | 0, _ => ⟨E, by simpa [fZ] using h, List.prefix_refl _, by simp⟩
  | j + 1, hj => by
    obtain ⟨E1, h1, h2, h3⟩ := BLev.push hf hr hI hM h hk hk' j (by omega)
    have hj' : j < (rows s.1[k].toNat).length := by omega
    have hrow := hr s.1[k].toNat (by have := hI.rng _ (List.getElem_mem hk); omega)
    have hI1 : BInv n (fZ ((rows s.1[k].toNat).take j) s) := hI.push fun u hu => hrow u (List.mem_of_mem_take hu)
    have hM1 : BMk b0 (fZ ((rows s.1[k].toNat).take j) s) := hM.push (fun u hu => hrow u (List.mem_of_mem_take hu)) hI
    obtain ⟨r, hr1⟩ := bpush_ext ((rows s.1[k].toNat).take j) s
    have hk1 : k < (fZ ((rows s.1[k].toNat).take j) s).1.length := by rw [hr1, List.length_append]; omega
    have hsk : (fZ ((rows s.1[k].toNat).take j) s).1[k] = s.1[k] := by simp only [hr1]; exact List.getElem_append_left hk
    obtain ⟨hk1', hEk⟩ := pre_get h2 hk'
    have hu := hrow _ (List.getElem_mem hj')
    have hm : (fZ ((rows s.1[k].toNat).take j) s).2.getD ((rows s.1[k].toNat)[j]).toNat false = true ↔ (rows s.1[k].toNat)[j] ∈ (fZ ((rows s.1[k].toNat).take j) s).1 := by
      rw [hM1 _, hf, Int.toNat_of_nonneg hu.1]; simp
    rw [l7 hj'];obtain ⟨E2, g1, g2, g3⟩ := h1.push1 hk1 hk1' (u := (rows s.1[k].toNat)[j]) (by rw [hsk]; exact List.getElem_mem hj') hm
    refine ⟨E2, g1, h2.trans g2, fun u hu => ?_⟩;rw [List.take_succ_eq_append_getElem hj'] at hu
    rcases List.mem_append.1 hu with hu | hu
    · obtain ⟨i, hi, hi', e1, e2⟩ := h3 u hu
      obtain ⟨hi2, e3⟩ := pre_get g2 hi'
      obtain ⟨r2, hr2⟩ := bpush1_ext (fZ ((rows s.1[k].toNat).take j) s) (rows s.1[k].toNat)[j]
      refine ⟨i, by rw [hr2, List.length_append]; omega, hi2, ?_, by rw [e3]; exact e2⟩;simp only [hr2];rw [List.getElem_append_left hi]; exact e1
    · simp only [List.mem_singleton] at hu
      subst hu;obtain ⟨i, hi, hi', e1, e2⟩ := g3
      exact ⟨i, hi, hi', e1, by rw [hEk] at e2; exact e2⟩
theorem BLev.step {n : Nat} {rows : Nat → List Int} {c k : Nat} {b0 : List Bool} (hf : ∀ v, b0.getD v false = false) (hr : ∀ v, v < n → ∀ u ∈ rows v, 0 ≤ u ∧ u < (n : Int)) {s : BSt} {E : List Nat} (hI : BInv n s) (hM : BMk b0 s) (h : BLev n rows c k s E) : ∃ E', BLev n rows c (k + 1) (iT rows k s) E' := by
  rcases Nat.lt_or_ge k s.1.length with hk | hk
  · have hk' : k < E.length := by rw [h.len]; exact hk
    obtain ⟨E', h1, h2, h3⟩ := BLev.push hf hr hI hM h hk hk' _ (Nat.le_refl _)
    rw [List.take_length] at h1 h3;rw [lG hk];refine ⟨E', { h1 with top := fun hk2 i hi => ?_, clo := fun j hj hj' hjk u hu => ?_ }⟩
    · obtain ⟨hk3, e⟩ := pre_get h2 hk'
      have h4 := h1.top hk3 i hi
      have h5 := List.pairwise_iff_getElem.1 h1.rise k (k + 1) hk3 hk2 (by omega)
      omega
    · rcases Nat.lt_or_ge j k with hjk2 | hjk2
      · exact h1.clo j hj hj' hjk2 u hu
      · obtain rfl : j = k := by omega
        obtain ⟨r, hr1⟩ := bpush_ext (rows s.1[j].toNat) s
        have hsk : (fZ (rows s.1[j].toNat) s).1[j] = s.1[j] := by
          have hg : (fZ (rows s.1[j].toNat) s).1[j]? = s.1[j]? := by rw [hr1, List.getElem?_append_left hk]
          rw [List.getElem?_eq_getElem hj, List.getElem?_eq_getElem hk] at hg;exact Option.some.inj hg
        rw [hsk] at hu;obtain ⟨i, hi, hi', e1, e2⟩ := h3 u hu
        obtain ⟨hk3, e⟩ := pre_get h2 hk'
        exact ⟨i, hi, hi', e1, by rw [e]; exact e2⟩
  · rw [lF hk]
    refine ⟨E, { h with top := fun hk2 i hi => ?_, clo := fun j hj hj' hjk u hu => ?_ }⟩
    · have := h.len; omega
    · exact h.clo j hj hj' (by omega) u hu
theorem BLev.go {n : Nat} {rows : Nat → List Int} {c : Nat} {b0 : List Bool} (hb : b0.length = n) (hc : c < n) (hf : ∀ v, b0.getD v false = false) (hr : ∀ v, v < n → ∀ u ∈ rows v, 0 ≤ u ∧ u < (n : Int)) : ∀ k, ∃ E, BLev n rows c k (bgo rows (eA c b0) k) E
  | 0 => ⟨_, BLev.start n rows c b0⟩
  | k + 1 => by
    obtain ⟨E, h⟩ := BLev.go hb hc hf hr k
    exact h.step hf hr (BInv.go hr (BInv.start hb hc) k) (BMk.go hr (BInv.start hb hc) (BMk.start hb hc) k)
/-- The whole order around a centre, nothing being marked. -/
theorem bfs_lev {n : Nat} {rows : Nat → List Int} {c : Nat} (hc : c < n) (hr : ∀ v, v < n → ∀ u ∈ rows v, 0 ≤ u ∧ u < (n : Int)) : ∃ E, BLev n rows c n (bfs n rows c (List.replicate n false)) E :=
  BLev.go (by simp) hc (fun v => by rw [List.getD_eq_getElem?_getD, List.getElem?_replicate]; split <;> rfl) hr n
theorem bfs_mk {n : Nat} {rows : Nat → List Int} {c : Nat} {b : List Bool} (hb : b.length = n) (hc : c < n) (hr : ∀ v, v < n → ∀ u ∈ rows v, 0 ≤ u ∧ u < (n : Int)) : BMk b (bfs n rows c b) := BMk.go hr (BInv.start hb hc) (BMk.start hb hc) n
/-- The order of all has each vertex once. -/
structure OrdOk (n v : Nat) (s : BSt) : Prop where
  len : s.2.length = n
  rng : ∀ x ∈ s.1, 0 ≤ x ∧ x < (n : Int)
  nd : s.1.Nodup
  mrk : ∀ u : Nat, s.2.getD u false = true ↔ (u : Int) ∈ s.1
  all : ∀ u, u < v → (u : Int) ∈ s.1
theorem bgo_fresh {n : Nat} {rows : Nat → List Int} (hr : ∀ v, v < n → ∀ u ∈ rows v, 0 ≤ u ∧ u < (n : Int)) {c : Nat} {b : List Bool} (hb : b.length = n) (hc : c < n) (hbc : b.getD c false = false) : ∀ k, ∀ x ∈ (bgo rows (eA c b) k).1, b.getD x.toNat false = false
  | 0, x, hx => by simp [bgo, eA] at hx; subst hx; simpa using hbc
  | k + 1, x, hx => by
    have ih := bgo_fresh hr hb hc hbc k
    have hI := BInv.go hr (BInv.start hb hc) k
    have hM := BMk.go hr (BInv.start hb hc) (BMk.start hb hc) k
    rcases Nat.lt_or_ge k (bgo rows (eA c b) k).1.length with hk | hk
    · have hrow := hr _ (show ((bgo rows (eA c b) k).1[k]).toNat < n by have := hI.rng _ (List.getElem_mem hk); omega)
      have key : ∀ (row : List Int) (s : BSt), (∀ u ∈ row, 0 ≤ u ∧ u < (n : Int)) → BInv n s → BMk b s → (∀ x ∈ s.1, b.getD x.toNat false = false) → ∀ x ∈ (fZ row s).1, b.getD x.toNat false = false := by
        intro row
        induction row with
        | nil => intro s _ _ _ h x hx; exact h x hx
        | cons u row ih2 =>
          intro s hr2 hI2 hM2 h x hx;have hu := hr2 u (List.mem_cons_self ..)
          refine ih2 (gG s u) (fun y hy => hr2 y (List.mem_cons_of_mem _ hy)) (hI2.push1 hu) (hM2.push1 hI2 hu) ?_ x hx;intro y hy
          unfold gG at hy
          split at hy
          · exact h y hy
          · rename_i hn
            rcases List.mem_append.1 hy with hy | hy
            · exact h y hy
            · simp only [List.mem_singleton] at hy
              subst hy;rw [hM2 _] at hn
              cases hbv : b.getD y.toNat false with
              | false => rfl
              | true => exact absurd (.inl hbv) hn
      have hx' : x ∈ (fZ (rows ((bgo rows (eA c b) k).1[k]).toNat) (bgo rows (eA c b) k)).1 := by
        have e : bgo rows (eA c b) (k + 1) = iT rows k (bgo rows (eA c b) k) := rfl
        rw [e, lG hk] at hx; exact hx
      exact key _ _ hrow hI hM ih x hx'
    · have e : bgo rows (eA c b) (k + 1) = iT rows k (bgo rows (eA c b) k) := rfl
      rw [e, lF hk] at hx;exact ih x hx
theorem ord_ok {n : Nat} {rows : Nat → List Int} (hr : ∀ v, v < n → ∀ u ∈ rows v, 0 ≤ u ∧ u < (n : Int)) : ∀ v, v ≤ n → OrdOk n v (dJ n rows v)
  | 0, _ => ⟨by simp [dJ], by simp [dJ], by simp [dJ], fun u => by simp [dJ, List.getD_eq_getElem?_getD, List.getElem?_replicate]; split <;> rfl, fun u hu => by omega⟩
  | v + 1, h => by
    have ih := ord_ok hr v (by omega)
    unfold dJ
    split
    · rename_i hm
      refine { ih with all := fun u hu => ?_ }
      rcases Nat.lt_or_ge u v with h1 | h1
      · exact ih.all u h1
      · obtain rfl : u = v := by omega
        exact (ih.mrk u).1 hm
    · rename_i hm
      have hv : v < n := by omega
      have hI := bfs_inv hr ih.len hv
      have hM := bfs_mk ih.len hv hr
      have hfr := bgo_fresh hr ih.len hv (by simpa using hm) n
      refine ⟨hI.len, fun x hx => ?_, ?_, fun u => ?_, fun u hu => ?_⟩
      · rcases List.mem_append.1 hx with hx | hx
        · exact ih.rng x hx
        · exact hI.rng x hx
      · rw [List.nodup_append]
        refine ⟨ih.nd, hI.nd, fun a ha b hb e => ?_⟩;subst e;have h1 := hfr a hb
        have h2 := (ih.mrk a.toNat).2 (by rw [Int.toNat_of_nonneg (ih.rng a ha).1]; exact ha)
        rw [h1] at h2; cases h2
      · show (bfs n rows v (dJ n rows v).2).2.getD u false = true ↔ (u : Int) ∈ (dJ n rows v).1 ++ (bfs n rows v (dJ n rows v).2).1
        rw [hM u, ih.mrk u, List.mem_append]
      · rcases Nat.lt_or_ge u v with h1 | h1
        · exact List.mem_append_left _ (ih.all u h1)
        · obtain rfl : u = v := by omega
          refine List.mem_append_right _ ?_;obtain ⟨r, hr2⟩ := bgo_ext rows (eA u (dJ n rows u).2) 0 n
          rw [Nat.zero_add] at hr2
          show (u : Int) ∈ (bgo rows (eA u (dJ n rows u).2) n).1
          rw [hr2];exact List.mem_append_left _ (by simp [bgo, eA])
end Go.Proofs.YtjjogcnjcnpehaaGreat
