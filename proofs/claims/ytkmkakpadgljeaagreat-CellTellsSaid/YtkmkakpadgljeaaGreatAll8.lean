import Derived.Test.YtkmkakpadgljeaaGreatAll7

/- The document's Across, Outer, Touched, Stale of cells. -/
namespace Go.Proofs.YtkmkakpadgljeaaGreat
open Go Go.RowKit Fly
set_option linter.unusedVariables false
set_option linter.unusedSimpArgs false


/-- Those of some arcs whose ends are of unlike cells. -/
def acrL (L : List Int) (l : List Arc) (X : List Int) : List Int := X.filter fun x => (l[x.toNat]?).elim false (unP L)
theorem acr_next {L : List Int} {l : List Arc} {X : List Int} {i u : Nat} (hi : i < X.length) (hX : X[i] = (u : Int)) (hu : u < l.length) : acrL L l (X.take (i + 1)) = acrL L l (X.take i) ++ (if unP L l[u] = true then [(u : Int)] else []) := by
  unfold acrL
  rw [List.take_succ_eq_append_getElem hi, List.filter_append, List.filter_cons, List.filter_nil, hX, Int.toNat_natCast, List.getElem?_eq_getElem hu]; rfl
theorem acr_len (L : List Int) (l : List Arc) (X : List Int) : (acrL L l X).length ≤ X.length := List.length_filter_le _ _
theorem acr_idxs {L : List Int} {l : List Arc} {p q : Arc → Bool} (h : ∀ a, q a = (p a && unP L a)) : acrL L l (idxs p l) = idxs q l := by
  have key : ∀ k, k ≤ l.length → acrL L l (idxs p (l.take k)) = idxs q (l.take k) := fun k => by
    induction k with
    | zero => intro _; simp [idxs, acrL]
    | succ k ih =>
      intro hk
      have hk' : k < l.length := by omega
      have ih := ih (by omega)
      unfold acrL at ih ⊢
      rw [idxs_succ hk', idxs_succ hk', List.filter_append, ih, h]
      cases hp : p l[k]
      · simp
      · simp only [if_true, Bool.true_and, List.filter_cons, List.filter_nil, Int.toNat_natCast, List.getElem?_eq_getElem hk', Option.elim]
  have := key l.length (Nat.le_refl _)
  rwa [List.take_length] at this
theorem stR_rng {row : List Int} {l : List Arc} {arcs : List Int} {n : Nat} (hr : ∀ v, v < n → 0 ≤ row.getD v 0 ∧ row.getD v 0 < (n : Int)) (hg : ∀ a ∈ l, a.src.toNat < n) {x : Int} (h : x ∈ stR row l arcs) : 0 ≤ x ∧ x < (n : Int) := by
  unfold stR at h
  obtain ⟨i, _, h⟩ := List.mem_flatMap.1 h
  unfold stOf at h
  cases e : l[i.toNat]? with
  | none => rw [e] at h; cases h
  | some a =>
    rw [e] at h
    simp only [Option.elim] at h
    split at h
    · have ha : a ∈ l := List.mem_of_getElem? e
      have := hr _ (hg a ha)
      have : x = row.getD a.src.toNat 0 := by simpa using h
      omega
    · cases h
theorem trues_stR {row : List Int} {l : List Arc} {arcs : List Int} {n : Nat} {es : List Bool} (hr : ∀ v, v < n → 0 ≤ row.getD v 0 ∧ row.getD v 0 < (n : Int)) (hg : ∀ a ∈ l, a.src.toNat < n) (hel : es.length = n) (hes : ∀ v, v < n → es.getD v false = decide ((v : Int) ∈ stR row l arcs)) : trues es = stRow row l arcs := by
  have h1 := (idxs_rising id es es.length (Nat.le_refl _)).1
  rw [List.take_length] at h1
  refine rising_eq (R := fun a b : Int => a < b) (fun a b c h1 h2 => by omega) (fun a b h e => by omega) h1 (cpt_int (sortI_sorted _)) fun x => ?_
  have h2 := idxs_in (p := id) (l := es) es.length (Nat.le_refl _) x
  rw [List.take_length] at h2
  unfold trues
  rw [h2]
  unfold stRow
  rw [cpt_mem, (sortI_perm _).mem_iff]
  constructor
  · rintro ⟨v, hv, _, rfl, h⟩
    have := hes v (by omega)
    rw [List.getD_eq_getElem?_getD, List.getElem?_eq_getElem hv] at this
    simp only [id] at h
    rw [Option.getD_some, h] at this
    exact of_decide_eq_true this.symm
  · intro h
    have hx := stR_rng hr hg h
    obtain ⟨v, rfl⟩ : ∃ v : Nat, x = (v : Int) := ⟨x.toNat, by omega⟩
    have hv : v < es.length := by omega
    refine ⟨v, hv, hv, rfl, ?_⟩
    have := hes v (by omega)
    rw [List.getD_eq_getElem?_getD, List.getElem?_eq_getElem hv, decide_eq_true h] at this
    simpa using this
abbrev boolsT (l : List Bool) : List Value := l.map .bool
theorem boolsT_set (l : List Bool) (i : Nat) (b : Bool) : (boolsT l).set i (.bool b) = boolsT (l.set i b) := by simp [boolsT, List.map_set]
theorem reps_T (n : Nat) (b : Bool) : (List.replicate n [Value.bool b]).flatten = boolsT (List.replicate n b) := by
  induction n with
  | zero => rfl
  | succ n ih => rw [List.replicate_succ, List.flatten_cons, ih]; rfl
theorem getD_setT {l : List Bool} {i v : Nat} {b : Bool} (hi : i < l.length) : (l.set i b).getD v false = if i = v then b else l.getD v false := by
  rw [List.getD_eq_getElem?_getD, List.getElem?_set, List.getD_eq_getElem?_getD]
  by_cases e : i = v
  · subst e; rw [if_pos rfl, if_pos rfl, if_pos hi]; rfl
  · rw [if_neg e, if_neg e]
theorem stL_take {L : List (List Int)} {l : List Arc} {arcs : List Int} {k : Nat} (hk : k < L.length) : (stL L l arcs).take (k + 1) = (stL L l arcs).take k ++ [stRow (L.getD k []) l arcs] := by
  have h : k < (stL L l arcs).length := by simpa [stL] using hk
  rw [List.take_succ_eq_append_getElem h]
  simp [stL, List.getD_eq_getElem?_getD, hk]
theorem stL_len (L : List (List Int)) (l : List Arc) (arcs : List Int) : (stL L l arcs).length = L.length := by simp [stL]

theorem sub_snocT {segs o1 o2 o3 : List Seg} {a m f : Seg} [p1 : Pick segs a o1] [p2 : Pick o1 f o2] [p3 : Pick o2 m o3] {out : List Seg} (hs : Fly.Sub o3 out) : Fly.Sub segs (a :: (f ++ [m].flatten) :: out) := by
  refine Sub.pick ?_
  obtain ⟨rest, hr⟩ := hs
  refine ⟨rest, ?_⟩
  have h2 := p2.perm.trans (List.Perm.append_left f p3.perm)
  simp only [List.flatten_cons, List.flatten_nil, List.append_nil, List.append_assoc] at h2 ⊢
  exact h2.trans (List.Perm.append_left f (List.Perm.append_left m hr))

set_option maxRecDepth 100000 in
set_option maxHeartbeats 4000000 in
theorem RAllC_spec (A : Option Addr) (sd : List Bool) (cap : Nat) (w : World) (hr : Ro (Fr w []) w A (sd.map .bool)) (hl : sd.length ≤ 1000000) :
    Meets Tryz.prog 43 [.slice A sd.length cap] w [] (fun u own' => ∃ m, own' = [m] ∧ Own 3 1 u (trues sd).length (ints (trues sd)) m) := by
 refine f_enter Tryz.func43 rfl Tryz.ntmps43 rfl Owns.nil ?_
 refine f_seq fun K1 kh1 => ?_
 refine f_region ?_
 refine f_stepP rfl rfl rfl (o_assign rfl) ?_
 refine f_done ?_
 refine f_tn (kh1 _ _ ?_)
 clear kh1
 refine f_seq fun K2 kh2 => ?_
 refine f_region ?_
 refine f_stepP rfl rfl rfl (o_assign rfl) ?_
 refine f_done ?_
 refine f_tn (kh2 _ _ ?_)
 clear kh2
 refine f_seq fun K3 kh3 => ?_
 refine f_seq fun K4 kh4 => ?_
 refine f_region ?_
 refine f_stepP rfl rfl rfl (o_assign rfl) ?_
 refine f_done ?_
 refine f_tn (kh4 _ _ ?_)
 clear kh4
 refine f_block ?_
 refine f_loop (α := Nat × Value × Seg) [0] (fun ⟨i, ov, om⟩ => [(4, .int .i64 (i : Int)), (3, ov)]) (fun ⟨i, ov, om⟩ => [om]) (fun ⟨i, ov, om⟩ => i ≤ sd.length ∧ Own 3 1 ov (idxs id (sd.take i)).length (ints (idxs id (sd.take i))) om ∧ (idxs id (sd.take i)).length ≤ i) (fun ⟨i, ov, om⟩ => sd.length - i) (0, .slice none 0 0, []) ?_ ?_ ?_ ?_
 · exact (by repeat (first | exact trivial | refine ⟨rfl, ?_⟩))
 · repeat (first | exact Sub.nil | refine Sub.pick ?_ | refine Sub.castO rfl ?_ | refine Sub.skip ?_)
 · exact ⟨Nat.zero_le _, Own.nil _ _, Nat.le_refl _⟩
 ·
  rintro ⟨i, ov, om⟩ ⟨hil, hO, hOi⟩
  obtain ⟨Ao, co, rfl, hco⟩ := hO.val
  refine f_seq fun K5 kh5 => ?_
  refine f_seq fun K6 kh6 => ?_
  refine f_region ?_
  refine f_stepP rfl rfl rfl (o_move rfl) ?_
  refine f_stepP rfl rfl rfl (o_move rfl) ?_
  refine f_stepP rfl rfl rfl (o_len sl64 rfl) ?_
  refine f_stepP rfl rfl rfl (o_lss rfl rfl) ?_
  refine f_done ?_
  refine f_tn (kh6 _ _ ?_)
  clear kh6
  refine f_cond rfl (fun c8 => ?_) (fun c8 => ?_)
  ·
   refine f_skip ?_
   refine f_tn (kh5 _ _ ?_)
   clear kh5
   refine f_seq fun K7 kh7 => ?_
   refine f_block ?_
   refine f_seq fun K8 kh8 => ?_
   refine f_region ?_
   refine f_stepP rfl rfl rfl (o_move rfl) ?_
   refine f_stepP rfl rfl rfl (o_move rfl) ?_
   have hi : i < sd.length := by omega
   obtain ⟨bq, off, rfl, hS, hc⟩ := hr (map_ne hi)
   refine f_stepP rfl rfl rfl (o_idx sl64 rfl rfl (off + i) ⟨by omega, by omega, by first | omega | (simp; done) | (simp; omega)⟩) ?_
   refine f_stepP rfl rfl rfl (o_load Tryz.isAgg4 rfl (roOne (enc := Value.bool) hS hc hi)) ?_
   refine f_done ?_
   refine f_tn (kh8 _ _ ?_)
   clear kh8
   refine f_condB rfl (fun c14 => ?_) (fun c14 => ?_)
   ·
    refine f_region ?_
    refine f_stepP rfl rfl rfl (o_move rfl) ?_
    refine f_stepP rfl rfl rfl (o_move rfl) ?_
    refine f_step rfl rfl rfl (o_slice1 el25 (by omega) rfl rfl rfl fun b17 => ?_)
    refine f_step rfl rfl rfl (o_append el25 rfl rfl hO (ys := [.int .i64 (i : Int)]) ⟨(rdA rfl), trivial⟩ rfl rfl (by omega) (by omega) fun v18 m18 o18 => ?_)
    refine f_stepP rfl rfl rfl (o_assign rfl) ?_
    refine f_done ?_
    refine f_bn ?_
    refine f_tn (kh7 _ _ ?_)
    clear kh7
    refine f_region ?_
    refine f_stepP rfl rfl rfl (o_move rfl) ?_
    refine f_stepP rfl rfl rfl (o_add rfl rfl _ (wrap_i64 (by omega))) ?_
    refine f_stepP rfl rfl rfl (o_assign rfl) ?_
    refine f_done ?_
    refine f_tn (f_again (i + 1, v18, m18) (by first | omega | (dsimp only; omega) | (simp; omega)) ⟨by omega, by rw [idxs_yes hi c14, List.length_append, ints_append]; exact o18, by rw [idxs_yes hi c14, List.length_append]; simp; omega⟩ ?_ ?_ ?_)
    · exact (by repeat (first | exact trivial | refine ⟨rfl, ?_⟩))
    · exact (by repeat (first | exact trivial | refine ⟨rfl, ?_⟩))
    · repeat (first | exact Sub.nil | refine Sub.pick ?_ | refine Sub.castO rfl ?_ | refine Sub.skip ?_)
   ·
    refine f_skip ?_
    refine f_bn ?_
    refine f_tn (kh7 _ _ ?_)
    clear kh7
    refine f_region ?_
    refine f_stepP rfl rfl rfl (o_move rfl) ?_
    refine f_stepP rfl rfl rfl (o_add rfl rfl _ (wrap_i64 (by omega))) ?_
    refine f_stepP rfl rfl rfl (o_assign rfl) ?_
    refine f_done ?_
    refine f_tn (f_again (i + 1, .slice Ao (idxs id (sd.take i)).length co, om) (by first | omega | (dsimp only; omega) | (simp; omega)) ⟨by omega, by rw [idxs_no hi c14]; exact hO, by rw [idxs_no hi c14]; omega⟩ ?_ ?_ ?_)
    · exact (by repeat (first | exact trivial | refine ⟨rfl, ?_⟩))
    · exact (by repeat (first | exact trivial | refine ⟨rfl, ?_⟩))
    · repeat (first | exact Sub.nil | refine Sub.pick ?_ | refine Sub.castO rfl ?_ | refine Sub.skip ?_)
  ·
   refine f_exit ?_
   refine f_te ?_
   clear kh5
   refine f_te ?_
   refine f_be ?_
   refine f_tn (kh3 _ _ ?_)
   clear kh3
   refine f_seq fun K9 kh9 => ?_
   refine f_region ?_
   refine f_stepP rfl rfl rfl (o_move rfl) ?_
   refine f_stepP rfl rfl rfl (o_assign rfl) ?_
   refine f_done ?_
   refine f_tn (kh9 _ _ ?_)
   clear kh9
   refine f_ret ?_
   rw [show sd.take i = sd from List.take_of_length_le (by omega)] at hO ⊢
   exact f_fin1 [om] Tryz.results43 rfl (by repeat (first | exact Sub.nil | refine Sub.pick ?_ | refine Sub.castO rfl ?_)) ⟨om, rfl, hO⟩

set_option maxRecDepth 100000 in
set_option maxHeartbeats 4000000 in
theorem RAcross_spec (n : Nat) (A : Option Addr) (l : List Arc) (cap : Nat) (Ab : Option Addr) (bs : List Int) (cb : Nat) (Ac : Option Addr) (R : List Row) (cc : Nat) (k : Nat) (D : Option Addr) (X : List Int) (cd : Nat) (w : World) (hr : Ro (Fr w []) w A (l.flatMap arcCs)) (hn : NestRo (Fr w []) w Ab bs Ac R) (hlen : l.length ≤ 8192) (hgd : ∀ k (hk : k < l.length), 0 ≤ l[k].src ∧ l[k].src < (n : Int) ∧ 0 ≤ l[k].dst ∧ l[k].dst < (n : Int)) (hkR : k < R.length) (hRn : (R[k]'hkR).2.1.length = n) (hn1 : 1 ≤ n) (hD : Ro (Fr w []) w D (ints X)) (hX : ∀ x ∈ X, 0 ≤ x ∧ x < (l.length : Int)) (hXl : X.length ≤ 1000000) :
    Meets Tryz.prog 34 [.agg #[.int .i64 (n : Int), .slice A l.length cap], .agg #[.slice Ab bs.length cb, .slice Ac R.length cc], .int .i64 ((k : Int) + 1), .slice D X.length cd] w [] (fun u own' => ∃ (A' : Option Addr) (c' : Nat) (m' : Seg), u = .slice A' (acrL (R[k]'hkR).2.1 l X).length c' ∧ own' = [m'] ∧ Own 3 1 (.slice A' (acrL (R[k]'hkR).2.1 l X).length c') (acrL (R[k]'hkR).2.1 l X).length (ints (acrL (R[k]'hkR).2.1 l X)) m') := by
 obtain ⟨b0, o0, rfl, hS0, hc0⟩ := hn.c (map_ne hkR)
 have hrow := hn.rows _ (List.getElem_mem hkR)
 obtain ⟨br, or, hAr, hSr, hcr⟩ := hrow.1 (fun e => by have := ints_length (R[k]'hkR).2.1; rw [e] at this; simp at this; omega)
 have hcl := hn.cl
 refine f_enter Tryz.func34 rfl Tryz.ntmps34 rfl Owns.nil ?_
 refine f_seq fun K1 kh1 => ?_
 refine f_region ?_
 refine f_step rfl rfl rfl (o_box rfl rfl fun b4 => ?_)
 refine f_step rfl rfl rfl (o_box rfl rfl fun b5 => ?_)
 refine f_stepP rfl rfl rfl (o_assign rfl) ?_
 refine f_done ?_
 refine f_tn (kh1 _ _ ?_)
 clear kh1
 refine f_seq fun K2 kh2 => ?_
 refine f_region ?_
 refine f_stepP rfl rfl rfl (o_assign rfl) ?_
 refine f_done ?_
 refine f_tn (kh2 _ _ ?_)
 clear kh2
 refine f_seq fun K3 kh3 => ?_
 refine f_seq fun K4 kh4 => ?_
 refine f_region ?_
 refine f_stepP rfl rfl rfl (o_assign rfl) ?_
 refine f_done ?_
 refine f_tn (kh4 _ _ ?_)
 clear kh4
 refine f_block ?_
 refine f_loop (α := Nat × Value × Seg) [2, 3, 4, 5] (fun ⟨i, ov, om⟩ => [(10, .int .i64 (i : Int)), (9, ov)]) (fun ⟨i, ov, om⟩ => [om, [(b4, blk [.int .i64 (n : Int), .slice A l.length cap] 24)], [(b5, blk [.slice Ab bs.length cb, .slice (some ⟨b0, o0, none⟩) R.length cc] 28)]]) (fun ⟨i, ov, om⟩ => i ≤ X.length ∧ Own 3 1 ov (acrL (R[k]'hkR).2.1 l (X.take i)).length (ints (acrL (R[k]'hkR).2.1 l (X.take i))) om) (fun ⟨i, ov, om⟩ => X.length - i) (0, .slice none 0 0, []) ?_ ?_ ?_ ?_
 · exact (by repeat (first | exact trivial | refine ⟨rfl, ?_⟩))
 · repeat (first | exact Sub.nil | refine Sub.pick ?_ | refine Sub.castO rfl ?_ | refine Sub.skip ?_)
 · exact ⟨Nat.zero_le _, Own.nil _ _⟩
 ·
  rintro ⟨i, ov, om⟩ ⟨hil, hO⟩
  have hal := acr_len (R[k]'hkR).2.1 l (X.take i)
  rw [List.length_take, Nat.min_eq_left hil] at hal
  obtain ⟨Ao, co, rfl, hco⟩ := hO.val
  refine f_seq fun K5 kh5 => ?_
  refine f_seq fun K6 kh6 => ?_
  refine f_region ?_
  refine f_stepP rfl rfl rfl (o_move rfl) ?_
  refine f_stepP rfl rfl rfl (o_move rfl) ?_
  refine f_stepP rfl rfl rfl (o_len sl25 rfl) ?_
  refine f_stepP rfl rfl rfl (o_lss rfl rfl) ?_
  refine f_done ?_
  refine f_tn (kh6 _ _ ?_)
  clear kh6
  refine f_cond rfl (fun c15 => ?_) (fun c15 => ?_)
  ·
   have hi : i < X.length := by omega
   have hxi := hX _ (List.getElem_mem hi)
   obtain ⟨u, hu, hul⟩ : ∃ u : Nat, X[i] = (u : Int) ∧ u < l.length := ⟨X[i].toNat, by omega, by omega⟩
   obtain ⟨bd, od, rfl, hSd, hcd⟩ := hD (map_ne hi)
   obtain ⟨bl, off, rfl, hS, hc⟩ := hr (flat_ne arcCs arcCs_len (by omega) hul)
   have hgu := hgd u hul
   have hsN : l[u].src.toNat < (R[k]'hkR).2.1.length := by omega
   have hdN : l[u].dst.toNat < (R[k]'hkR).2.1.length := by omega
   have hnx := acr_next (L := (R[k]'hkR).2.1) hi hu hul
   refine f_skip ?_
   refine f_tn (kh5 _ _ ?_)
   clear kh5
   refine f_seq fun K7 kh7 => ?_
   refine f_block ?_
   refine f_seq fun K8 kh8 => ?_
   refine f_regionH [om, [(b4, blk [.int .i64 (n : Int), .slice (some ⟨bl, off, none⟩) l.length cap] 24)], [(b5, blk [.slice Ab bs.length cb, .slice (some ⟨b0, o0, none⟩) R.length cc] 28)]] rfl ?_
   refine f_take 0 rfl (by decide +kernel) rfl rfl rfl (by repeat (first | exact Sub.nil | refine Sub.pick ?_ | refine Sub.castO rfl ?_ | refine Sub.skip ?_)) (o_field fa24_1 rfl) ?_
   refine f_take 1 rfl (by decide +kernel) rfl rfl rfl (by repeat (first | exact Sub.nil | refine Sub.pick ?_ | refine Sub.castO rfl ?_ | refine Sub.skip ?_)) (o_load Tryz.isAgg22 rfl (rdA rfl)) ?_
   refine f_take 2 rfl (by decide +kernel) rfl rfl rfl (by repeat (first | exact Sub.nil | refine Sub.pick ?_ | refine Sub.castO rfl ?_ | refine Sub.skip ?_)) (o_move rfl) ?_
   refine f_take 3 rfl (by decide +kernel) rfl rfl rfl (by repeat (first | exact Sub.nil | refine Sub.pick ?_ | refine Sub.castO rfl ?_ | refine Sub.skip ?_)) (o_move rfl) ?_
   refine f_take 4 rfl (by decide +kernel) rfl rfl rfl (by repeat (first | exact Sub.nil | refine Sub.pick ?_ | refine Sub.castO rfl ?_ | refine Sub.skip ?_)) (o_idx sl25 rfl rfl (od + i) ⟨by omega, by omega, by first | omega | (simp; done) | (simp; omega)⟩) ?_
   refine f_take 5 rfl (by decide +kernel) rfl rfl rfl (by repeat (first | exact Sub.nil | refine Sub.pick ?_ | refine Sub.castO rfl ?_ | refine Sub.skip ?_)) (o_load Tryz.isAgg3 rfl (show Rd _ _ _ _ _ (.int .i64 (u : Int)) by rw [← hu]; exact roOne (enc := (.int .i64 ·)) hSd hcd hi)) ?_
   refine f_take 6 rfl (by decide +kernel) rfl rfl rfl (by repeat (first | exact Sub.nil | refine Sub.pick ?_ | refine Sub.castO rfl ?_ | refine Sub.skip ?_)) (o_idx sl22 rfl rfl (off + u * 3) ⟨by omega, by omega, by first | omega | (simp; done) | (simp; omega)⟩) ?_
   refine f_take 7 rfl (by decide +kernel) rfl rfl rfl (by repeat (first | exact Sub.nil | refine Sub.pick ?_ | refine Sub.castO rfl ?_ | refine Sub.skip ?_)) (o_loadA (vs := arcCs l[u]) Tryz.isAgg48 Tryz.sizeOf48 rfl rfl (roElem arcCs_len hS hc hul)) ?_
   refine f_only 8 rfl (by decide +kernel) rfl rfl rfl (o_alloc Tryz.zeroValue48 rfl fun b11 => ⟨(by repeat (first | exact Sub.nil | refine Sub.pick ?_ | refine Sub.castO rfl ?_ | refine Sub.skip ?_)), ?_⟩)
   refine f_only0 9 rfl (by decide +kernel) rfl rfl (o_storeA Tryz.sizeOf48 rfl rfl rfl rfl (by first | exact Nat.le_of_ble_eq_true rfl | (simp; done) | (simp; omega)) (arcCs l[u]) rfl ⟨(by repeat (first | exact Sub.nil | refine Sub.pick ?_ | refine Sub.castO rfl ?_ | refine Sub.skip ?_)), ?_⟩)
   refine f_over (by decide +kernel) ?_
   refine f_tn (kh8 _ _ ?_)
   clear kh8
   refine f_seq fun K9 kh9 => ?_
   refine f_regionS rfl (by decide +kernel) ?_
   refine f_stillP rfl rfl rfl (o_field fa28_1 rfl) ?_
   refine f_stillP rfl rfl rfl (o_load Tryz.isAgg26 rfl (rdA rfl)) ?_
   refine f_stillP rfl rfl rfl (o_move rfl) ?_
   refine f_stillP rfl rfl rfl (o_sub rfl rfl _ (Eq.trans (wrap_i64 (by omega)) (show _ = (k : Int) by omega))) ?_
   refine f_stillP rfl rfl rfl (o_idx sl26 rfl rfl (o0 + k) ⟨by omega, by omega, by first | omega | (simp; done) | (simp; omega)⟩) ?_
   refine f_stillP rfl rfl rfl (o_load Tryz.isAgg25 rfl (v := .slice (some ⟨br, or, none⟩) (R[k]'hkR).2.1.length (R[k]'hkR).2.2) (show Rd _ _ _ _ _ (Value.slice (some ⟨br, or, none⟩) (R[k]'hkR).2.1.length (R[k]'hkR).2.2) by rw [← hAr]; exact roOne (enc := rowV) hS0 hc0 hkR)) ?_
   refine f_stillP rfl rfl rfl (o_field fa48_0 rfl) ?_
   refine f_stillP rfl rfl rfl (o_load Tryz.isAgg3 rfl (rdA rfl)) ?_
   refine f_stillP rfl rfl rfl (o_idx sl25 rfl rfl (or + l[u].src.toNat) ⟨by omega, by omega, by first | omega | (simp; done) | (simp; omega)⟩) ?_
   refine f_stillP rfl rfl rfl (o_load Tryz.isAgg3 rfl (roOne (enc := (.int .i64 ·)) hSr hcr hsN)) ?_
   refine f_stillP rfl rfl rfl (o_field fa28_1 rfl) ?_
   refine f_stillP rfl rfl rfl (o_load Tryz.isAgg26 rfl (rdA rfl)) ?_
   refine f_stillP rfl rfl rfl (o_move rfl) ?_
   refine f_stillP rfl rfl rfl (o_sub rfl rfl _ (Eq.trans (wrap_i64 (by omega)) (show _ = (k : Int) by omega))) ?_
   refine f_stillP rfl rfl rfl (o_idx sl26 rfl rfl (o0 + k) ⟨by omega, by omega, by first | omega | (simp; done) | (simp; omega)⟩) ?_
   refine f_stillP rfl rfl rfl (o_load Tryz.isAgg25 rfl (v := .slice (some ⟨br, or, none⟩) (R[k]'hkR).2.1.length (R[k]'hkR).2.2) (show Rd _ _ _ _ _ (Value.slice (some ⟨br, or, none⟩) (R[k]'hkR).2.1.length (R[k]'hkR).2.2) by rw [← hAr]; exact roOne (enc := rowV) hS0 hc0 hkR)) ?_
   refine f_stillP rfl rfl rfl (o_field fa48_1 rfl) ?_
   refine f_stillP rfl rfl rfl (o_load Tryz.isAgg3 rfl (rdA rfl)) ?_
   refine f_stillP rfl rfl rfl (o_idx sl25 rfl rfl (or + l[u].dst.toNat) ⟨by omega, by omega, by first | omega | (simp; done) | (simp; omega)⟩) ?_
   refine f_stillP rfl rfl rfl (o_load Tryz.isAgg3 rfl (roOne (enc := (.int .i64 ·)) hSr hcr hdN)) ?_
   refine f_stillP rfl rfl rfl (o_neq rfl rfl) ?_
   refine f_stillD ?_
   refine f_tn (kh9 _ _ ?_)
   clear kh9
   refine f_cond rfl (fun c46 => ?_) (fun c46 => ?_)
   ·
    have hun : unP (R[k]'hkR).2.1 l[u] = true := by unfold unP; rw [getD_at hsN, getD_at hdN]; simpa using c46
    rw [if_pos hun] at hnx
    refine f_region ?_
    refine f_stepP rfl rfl rfl (o_move rfl) ?_
    refine f_stepP rfl rfl rfl (o_move rfl) ?_
    refine f_stepP rfl rfl rfl (o_move rfl) ?_
    refine f_stepP rfl rfl rfl (o_idx sl25 rfl rfl (od + i) ⟨by omega, by omega, by first | omega | (simp; done) | (simp; omega)⟩) ?_
    refine f_stepP rfl rfl rfl (o_load Tryz.isAgg3 rfl (show Rd _ _ _ _ _ (.int .i64 (u : Int)) by rw [← hu]; exact roOne (enc := (.int .i64 ·)) hSd hcd hi)) ?_
    refine f_step rfl rfl rfl (o_slice1 el25 (by omega) rfl rfl rfl fun b52 => ?_)
    refine f_step rfl rfl rfl (o_append el25 rfl rfl hO (ys := [.int .i64 (u : Int)]) ⟨(rdA rfl), trivial⟩ rfl rfl (by omega) (by omega) fun v53 m53 o53 => ?_)
    refine f_stepP rfl rfl rfl (o_assign rfl) ?_
    refine f_done ?_
    refine f_bn ?_
    refine f_tn (kh7 _ _ ?_)
    clear kh7
    refine f_region ?_
    refine f_stepP rfl rfl rfl (o_move rfl) ?_
    refine f_stepP rfl rfl rfl (o_add rfl rfl _ (wrap_i64 (by omega))) ?_
    refine f_stepP rfl rfl rfl (o_assign rfl) ?_
    refine f_done ?_
    refine f_tn (f_again (i + 1, v53, m53) (by first | omega | (dsimp only; omega) | (simp; omega)) ⟨by omega, by rw [hnx, List.length_append, ints_append]; exact o53⟩ ?_ ?_ ?_)
    · exact (by repeat (first | exact trivial | refine ⟨rfl, ?_⟩))
    · exact (by repeat (first | exact trivial | refine ⟨rfl, ?_⟩))
    · repeat (first | exact Sub.nil | refine Sub.pick ?_ | refine Sub.castO rfl ?_ | refine Sub.skip ?_)
   ·
    have hun : ¬ unP (R[k]'hkR).2.1 l[u] = true := by unfold unP; rw [getD_at hsN, getD_at hdN]; simpa using c46
    rw [if_neg hun, List.append_nil] at hnx
    refine f_skip ?_
    refine f_bn ?_
    refine f_tn (kh7 _ _ ?_)
    clear kh7
    refine f_region ?_
    refine f_stepP rfl rfl rfl (o_move rfl) ?_
    refine f_stepP rfl rfl rfl (o_add rfl rfl _ (wrap_i64 (by omega))) ?_
    refine f_stepP rfl rfl rfl (o_assign rfl) ?_
    refine f_done ?_
    refine f_tn (f_again (i + 1, .slice Ao (acrL (R[k]'hkR).2.1 l (X.take i)).length co, om) (by first | omega | (dsimp only; omega) | (simp; omega)) ⟨by omega, by rw [hnx]; exact hO⟩ ?_ ?_ ?_)
    · exact (by repeat (first | exact trivial | refine ⟨rfl, ?_⟩))
    · exact (by repeat (first | exact trivial | refine ⟨rfl, ?_⟩))
    · repeat (first | exact Sub.nil | refine Sub.pick ?_ | refine Sub.castO rfl ?_ | refine Sub.skip ?_)
  ·
   obtain rfl : i = X.length := by omega
   rw [List.take_length] at hO hal hco
   refine f_reC 9 rfl (v := .slice Ao (acrL (R[k]'hkR).2.1 l X).length co) (by rw [List.take_length]) ?_
   refine f_exit ?_
   refine f_te ?_
   clear kh5
   refine f_te ?_
   refine f_be ?_
   refine f_tn (kh3 _ _ ?_)
   clear kh3
   refine f_seq fun K10 kh10 => ?_
   refine f_region ?_
   refine f_stepP rfl rfl rfl (o_move rfl) ?_
   refine f_stepP rfl rfl rfl (o_assign rfl) ?_
   refine f_done ?_
   refine f_tn (kh10 _ _ ?_)
   clear kh10
   refine f_ret ?_
   exact f_fin1 [om] Tryz.results34 rfl (by repeat (first | exact Sub.nil | refine Sub.pick ?_ | refine Sub.castO rfl ?_ | refine Sub.skip ?_)) ⟨Ao, co, om, rfl, rfl, hO⟩

end Go.Proofs.YtkmkakpadgljeaaGreat
