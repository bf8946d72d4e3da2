import Derived.Test.YtkmkakpadgljeaaAll8
import Derived.Test.YtkmkakpadgljeaaAll6
import Derived.Test.YtkmkakpadgljeaaFlyT

/- The document's Across, Outer, Touched, Stale of cells. -/
namespace Go.Proofs.Ytkmkakpadgljeaa
open Go Go.RowKit Fly
set_option linter.unusedVariables false
set_option linter.unusedSimpArgs false


/-- Those of some arcs whose ends are of unlike cells. -/
def acrL (L : List Int) (l : List Arc) (X : List Int) : List Int := X.filter fun x => (l[x.toNat]?).elim false (unP L)
theorem acr_next {L : List Int} {l : List Arc} {X : List Int} {i u : Nat} (hi : i < X.length) (hX : X[i] = (u : Int)) (hu : u < l.length) : acrL L l (X.take (i + 1)) = acrL L l (X.take i) ++ (if unP L l[u] = true then [(u : Int)] else []) := by
  unfold acrL
  rw [List.take_succ_eq_append_getElem hi, List.filter_append, List.filter_cons, List.filter_nil, hX, Int.toNat_natCast, List.getElem?_eq_getElem hu]; rfl
theorem acr_len (L : List Int) (l : List Arc) (X : List Int) : (acrL L l X).length ≤ X.length := List.length_filter_le _ _
theorem acr_idxs {L : List Int} {l : List Arc} {p q : Arc → Bool} (h : ∀ a, q a = (p a && unP L a)) : acrL L l (idxs p l) = idxs q l := by
  have key : ∀ k, k ≤ l.length → acrL L l (idxs p (l.take k)) = idxs q (l.take k) := fun k => by
    induction k with
    | zero => intro _; simp [idxs, acrL]
    | succ k ih =>
      intro hk
      have hk' : k < l.length := by omega
      have ih := ih (by omega)
      unfold acrL at ih ⊢
      rw [idxs_succ hk', idxs_succ hk', List.filter_append, ih, h]
      cases hp : p l[k]
      · simp
      · simp only [if_true, Bool.true_and, List.filter_cons, List.filter_nil, Int.toNat_natCast, List.getElem?_eq_getElem hk', Option.elim]
  have := key l.length (Nat.le_refl _)
  rwa [List.take_length] at this
theorem stR_rng {row : List Int} {l : List Arc} {arcs : List Int} {n : Nat} (hr : ∀ v, v < n → 0 ≤ row.getD v 0 ∧ row.getD v 0 < (n : Int)) (hg : ∀ a ∈ l, a.src.toNat < n) {x : Int} (h : x ∈ stR row l arcs) : 0 ≤ x ∧ x < (n : Int) := by
  unfold stR at h
  obtain ⟨i, _, h⟩ := List.mem_flatMap.1 h
  unfold stOf at h
  cases e : l[i.toNat]? with
  | none => rw [e] at h; cases h
  | some a =>
    rw [e] at h
    simp only [Option.elim] at h
    split at h
    · have ha : a ∈ l := List.mem_of_getElem? e
      have := hr _ (hg a ha)
      have : x = row.getD a.src.toNat 0 := by simpa using h
      omega
    · cases h
theorem trues_stR {row : List Int} {l : List Arc} {arcs : List Int} {n : Nat} {es : List Bool} (hr : ∀ v, v < n → 0 ≤ row.getD v 0 ∧ row.getD v 0 < (n : Int)) (hg : ∀ a ∈ l, a.src.toNat < n) (hel : es.length = n) (hes : ∀ v, v < n → es.getD v false = decide ((v : Int) ∈ stR row l arcs)) : trues es = stRow row l arcs := by
  have h1 := (idxs_rising id es es.length (Nat.le_refl _)).1
  rw [List.take_length] at h1
  refine rising_eq (R := fun a b : Int => a < b) (fun a b c h1 h2 => by omega) (fun a b h e => by omega) h1 (cpt_int (sortI_sorted _)) fun x => ?_
  have h2 := idxs_in (p := id) (l := es) es.length (Nat.le_refl _) x
  rw [List.take_length] at h2
  unfold trues
  rw [h2]
  unfold stRow
  rw [cpt_mem, (sortI_perm _).mem_iff]
  constructor
  · rintro ⟨v, hv, _, rfl, h⟩
    have := hes v (by omega)
    rw [List.getD_eq_getElem?_getD, List.getElem?_eq_getElem hv] at this
    simp only [id] at h
    rw [Option.getD_some, h] at this
    exact of_decide_eq_true this.symm
  · intro h
    have hx := stR_rng hr hg h
    obtain ⟨v, rfl⟩ : ∃ v : Nat, x = (v : Int) := ⟨x.toNat, by omega⟩
    have hv : v < es.length := by omega
    refine ⟨v, hv, hv, rfl, ?_⟩
    have := hes v (by omega)
    rw [List.getD_eq_getElem?_getD, List.getElem?_eq_getElem hv, decide_eq_true h] at this
    simpa using this
abbrev boolsT (l : List Bool) : List Value := l.map .bool
theorem boolsT_set (l : List Bool) (i : Nat) (b : Bool) : (boolsT l).set i (.bool b) = boolsT (l.set i b) := by simp [boolsT, List.map_set]
theorem reps_T (n : Nat) (b : Bool) : (List.replicate n [Value.bool b]).flatten = boolsT (List.replicate n b) := by
  induction n with
  | zero => rfl
  | succ n ih => rw [List.replicate_succ, List.flatten_cons, ih]; rfl
theorem getD_setT {l : List Bool} {i v : Nat} {b : Bool} (hi : i < l.length) : (l.set i b).getD v false = if i = v then b else l.getD v false := by
  rw [List.getD_eq_getElem?_getD, List.getElem?_set, List.getD_eq_getElem?_getD]
  by_cases e : i = v
  · subst e; rw [if_pos rfl, if_pos rfl, if_pos hi]; rfl
  · rw [if_neg e, if_neg e]
theorem stL_take {L : List (List Int)} {l : List Arc} {arcs : List Int} {k : Nat} (hk : k < L.length) : (stL L l arcs).take (k + 1) = (stL L l arcs).take k ++ [stRow (L.getD k []) l arcs] := by
  have h : k < (stL L l arcs).length := by simpa [stL] using hk
  rw [List.take_succ_eq_append_getElem h]
  simp [stL, List.getD_eq_getElem?_getD, hk]
theorem stL_len (L : List (List Int)) (l : List Arc) (arcs : List Int) : (stL L l arcs).length = L.length := by simp [stL]

theorem sub_snocT {segs o1 o2 o3 : List Seg} {a m f : Seg} [p1 : Pick segs a o1] [p2 : Pick o1 f o2] [p3 : Pick o2 m o3] {out : List Seg} (hs : Fly.Sub o3 out) : Fly.Sub segs (a :: (f ++ [m].flatten) :: out) := by
  refine Sub.pick ?_
  obtain ⟨rest, hr⟩ := hs
  refine ⟨rest, ?_⟩
  have h2 := p2.perm.trans (List.Perm.append_left f p3.perm)
  simp only [List.flatten_cons, List.flatten_nil, List.append_nil, List.append_assoc] at h2 ⊢
  exact h2.trans (List.Perm.append_left f (List.Perm.append_left m hr))

set_option maxRecDepth 100000 in
set_option maxHeartbeats 4000000 in
theorem RAllC_spec (A : Option Addr) (sd : List Bool) (cap : Nat) (w : World) (hr : Ro (Fr w []) w A (sd.map .bool)) (hl : sd.length ≤ 1000000) :
    Meets Try.prog 66 [.slice A sd.length cap] w [] (fun u own' => ∃ m, own' = [m] ∧ Own 3 1 u (trues sd).length (ints (trues sd)) m) := by
 refine f_enter Try.func66 rfl Try.ntmps66 rfl Owns.nil ?_
 refine f_seq fun K1 kh1 => ?_
 refine f_region ?_
 refine f_stepP rfl rfl rfl (o_assign rfl) ?_
 refine f_done ?_
 refine f_tn (kh1 _ _ ?_)
 clear kh1
 refine f_seq fun K2 kh2 => ?_
 refine f_region ?_
 refine f_stepP rfl rfl rfl (o_assign rfl) ?_
 refine f_done ?_
 refine f_tn (kh2 _ _ ?_)
 clear kh2
 refine f_seq fun K3 kh3 => ?_
 refine f_seq fun K4 kh4 => ?_
 refine f_region ?_
 refine f_stepP rfl rfl rfl (o_assign rfl) ?_
 refine f_done ?_
 refine f_tn (kh4 _ _ ?_)
 clear kh4
 refine f_block ?_
 refine f_loop (α := Nat × Value × Seg) [0] (fun ⟨i, ov, om⟩ => [(4, .int .i64 (i : Int)), (3, ov)]) (fun ⟨i, ov, om⟩ => [om]) (fun ⟨i, ov, om⟩ => i ≤ sd.length ∧ Own 3 1 ov (idxs id (sd.take i)).length (ints (idxs id (sd.take i))) om ∧ (idxs id (sd.take i)).length ≤ i) (fun ⟨i, ov, om⟩ => sd.length - i) (0, .slice none 0 0, []) ?_ ?_ ?_ ?_
 · exact (by repeat (first | exact trivial | refine ⟨rfl, ?_⟩))
 · repeat (first | exact Sub.nil | refine Sub.pick ?_ | refine Sub.castO rfl ?_ | refine Sub.skip ?_)
 · exact ⟨Nat.zero_le _, Own.nil _ _, Nat.le_refl _⟩
 ·
  rintro ⟨i, ov, om⟩ ⟨hil, hO, hOi⟩
  obtain ⟨Ao, co, rfl, hco⟩ := hO.val
  refine f_seq fun K5 kh5 => ?_
  refine f_seq fun K6 kh6 => ?_
  refine f_region ?_
  refine f_stepP rfl rfl rfl (o_move rfl) ?_
  refine f_stepP rfl rfl rfl (o_move rfl) ?_
  refine f_stepP rfl rfl rfl (o_len sl36 rfl) ?_
  refine f_stepP rfl rfl rfl (o_lss rfl rfl) ?_
  refine f_done ?_
  refine f_tn (kh6 _ _ ?_)
  clear kh6
  refine f_cond rfl (fun c8 => ?_) (fun c8 => ?_)
  ·
   refine f_skip ?_
   refine f_tn (kh5 _ _ ?_)
   clear kh5
   refine f_seq fun K7 kh7 => ?_
   refine f_block ?_
   refine f_seq fun K8 kh8 => ?_
   refine f_region ?_
   refine f_stepP rfl rfl rfl (o_move rfl) ?_
   refine f_stepP rfl rfl rfl (o_move rfl) ?_
   have hi : i < sd.length := by omega
   obtain ⟨bq, off, rfl, hS, hc⟩ := hr (map_ne hi)
   refine f_stepP rfl rfl rfl (o_idx sl36 rfl rfl (off + i) ⟨by omega, by omega, by first | omega | (simp; done) | (simp; omega)⟩) ?_
   refine f_stepP rfl rfl rfl (o_load Try.isAgg4 rfl (roOne (enc := Value.bool) hS hc hi)) ?_
   refine f_done ?_
   refine f_tn (kh8 _ _ ?_)
   clear kh8
   refine f_condB rfl (fun c14 => ?_) (fun c14 => ?_)
   ·
    refine f_region ?_
    refine f_stepP rfl rfl rfl (o_move rfl) ?_
    refine f_stepP rfl rfl rfl (o_move rfl) ?_
    refine f_step rfl rfl rfl (o_slice1 el25 (by omega) rfl rfl rfl fun b17 => ?_)
    refine f_step rfl rfl rfl (o_append el25 rfl rfl hO (ys := [.int .i64 (i : Int)]) ⟨(rdA rfl), trivial⟩ rfl rfl (by omega) (by omega) fun v18 m18 o18 => ?_)
    refine f_stepP rfl rfl rfl (o_assign rfl) ?_
    refine f_done ?_
    refine f_bn ?_
    refine f_tn (kh7 _ _ ?_)
    clear kh7
    refine f_region ?_
    refine f_stepP rfl rfl rfl (o_move rfl) ?_
    refine f_stepP rfl rfl rfl (o_add rfl rfl _ (wrap_i64 (by omega))) ?_
    refine f_stepP rfl rfl rfl (o_assign rfl) ?_
    refine f_done ?_
    refine f_tn (f_again (i + 1, v18, m18) (by first | omega | (dsimp only; omega) | (simp; omega)) ⟨by omega, by rw [idxs_yes hi c14, List.length_append, ints_append]; exact o18, by rw [idxs_yes hi c14, List.length_append]; simp; omega⟩ ?_ ?_ ?_)
    · exact (by repeat (first | exact trivial | refine ⟨rfl, ?_⟩))
    · exact (by repeat (first | exact trivial | refine ⟨rfl, ?_⟩))
    · repeat (first | exact Sub.nil | refine Sub.pick ?_ | refine Sub.castO rfl ?_ | refine Sub.skip ?_)
   ·
    refine f_skip ?_
    refine f_bn ?_
    refine f_tn (kh7 _ _ ?_)
    clear kh7
    refine f_region ?_
    refine f_stepP rfl rfl rfl (o_move rfl) ?_
    refine f_stepP rfl rfl rfl (o_add rfl rfl _ (wrap_i64 (by omega))) ?_
    refine f_stepP rfl rfl rfl (o_assign rfl) ?_
    refine f_done ?_
    refine f_tn (f_again (i + 1, .slice Ao (idxs id (sd.take i)).length co, om) (by first | omega | (dsimp only; omega) | (simp; omega)) ⟨by omega, by rw [idxs_no hi c14]; exact hO, by rw [idxs_no hi c14]; omega⟩ ?_ ?_ ?_)
    · exact (by repeat (first | exact trivial | refine ⟨rfl, ?_⟩))
    · exact (by repeat (first | exact trivial | refine ⟨rfl, ?_⟩))
    · repeat (first | exact Sub.nil | refine Sub.pick ?_ | refine Sub.castO rfl ?_ | refine Sub.skip ?_)
  ·
   refine f_exit ?_
   refine f_te ?_
   clear kh5
   refine f_te ?_
   refine f_be ?_
   refine f_tn (kh3 _ _ ?_)
   clear kh3
   refine f_seq fun K9 kh9 => ?_
   refine f_region ?_
   refine f_stepP rfl rfl rfl (o_move rfl) ?_
   refine f_stepP rfl rfl rfl (o_assign rfl) ?_
   refine f_done ?_
   refine f_tn (kh9 _ _ ?_)
   clear kh9
   refine f_ret ?_
   rw [show sd.take i = sd from List.take_of_length_le (by omega)] at hO ⊢
   exact f_fin1 [om] Try.results66 rfl (by repeat (first | exact Sub.nil | refine Sub.pick ?_ | refine Sub.castO rfl ?_)) ⟨om, rfl, hO⟩

set_option maxRecDepth 100000 in
set_option maxHeartbeats 4000000 in
theorem RAcross_spec (n : Nat) (A : Option Addr) (l : List Arc) (cap : Nat) (Ab : Option Addr) (bs : List Int) (cb : Nat) (Ac : Option Addr) (R : List Row) (cc : Nat) (k : Nat) (D : Option Addr) (X : List Int) (cd : Nat) (w : World) (hr : Ro (Fr w []) w A (l.flatMap arcCs)) (hn : NestRo (Fr w []) w Ab bs Ac R) (hlen : l.length ≤ 8192) (hgd : ∀ k (hk : k < l.length), 0 ≤ l[k].src ∧ l[k].src < (n : Int) ∧ 0 ≤ l[k].dst ∧ l[k].dst < (n : Int)) (hkR : k < R.length) (hRn : (R[k]'hkR).2.1.length = n) (hn1 : 1 ≤ n) (hD : Ro (Fr w []) w D (ints X)) (hX : ∀ x ∈ X, 0 ≤ x ∧ x < (l.length : Int)) (hXl : X.length ≤ 1000000) :
    Meets Try.prog 43 [.agg #[.int .i64 (n : Int), .slice A l.length cap], .agg #[.slice Ab bs.length cb, .slice Ac R.length cc], .int .i64 ((k : Int) + 1), .slice D X.length cd] w [] (fun u own' => ∃ (A' : Option Addr) (c' : Nat) (m' : Seg), u = .slice A' (acrL (R[k]'hkR).2.1 l X).length c' ∧ own' = [m'] ∧ Own 3 1 (.slice A' (acrL (R[k]'hkR).2.1 l X).length c') (acrL (R[k]'hkR).2.1 l X).length (ints (acrL (R[k]'hkR).2.1 l X)) m') := by
 obtain ⟨b0, o0, rfl, hS0, hc0⟩ := hn.c (map_ne hkR)
 have hrow := hn.rows _ (List.getElem_mem hkR)
 obtain ⟨br, or, hAr, hSr, hcr⟩ := hrow.1 (fun e => by have := ints_length (R[k]'hkR).2.1; rw [e] at this; simp at this; omega)
 have hcl := hn.cl
 refine f_enter Try.func43 rfl Try.ntmps43 rfl Owns.nil ?_
 refine f_seq fun K1 kh1 => ?_
 refine f_region ?_
 refine f_step rfl rfl rfl (o_box rfl rfl fun b4 => ?_)
 refine f_step rfl rfl rfl (o_box rfl rfl fun b5 => ?_)
 refine f_stepP rfl rfl rfl (o_assign rfl) ?_
 refine f_done ?_
 refine f_tn (kh1 _ _ ?_)
 clear kh1
 refine f_seq fun K2 kh2 => ?_
 refine f_region ?_
 refine f_stepP rfl rfl rfl (o_assign rfl) ?_
 refine f_done ?_
 refine f_tn (kh2 _ _ ?_)
 clear kh2
 refine f_seq fun K3 kh3 => ?_
 refine f_seq fun K4 kh4 => ?_
 refine f_region ?_
 refine f_stepP rfl rfl rfl (o_assign rfl) ?_
 refine f_done ?_
 refine f_tn (kh4 _ _ ?_)
 clear kh4
 refine f_block ?_
 refine f_loop (α := Nat × Value × Seg) [2, 3, 4, 5] (fun ⟨i, ov, om⟩ => [(10, .int .i64 (i : Int)), (9, ov)]) (fun ⟨i, ov, om⟩ => [om, [(b4, blk [.int .i64 (n : Int), .slice A l.length cap] 24)], [(b5, blk [.slice Ab bs.length cb, .slice (some ⟨b0, o0, none⟩) R.length cc] 28)]]) (fun ⟨i, ov, om⟩ => i ≤ X.length ∧ Own 3 1 ov (acrL (R[k]'hkR).2.1 l (X.take i)).length (ints (acrL (R[k]'hkR).2.1 l (X.take i))) om) (fun ⟨i, ov, om⟩ => X.length - i) (0, .slice none 0 0, []) ?_ ?_ ?_ ?_
 · exact (by repeat (first | exact trivial | refine ⟨rfl, ?_⟩))
 · repeat (first | exact Sub.nil | refine Sub.pick ?_ | refine Sub.castO rfl ?_ | refine Sub.skip ?_)
 · exact ⟨Nat.zero_le _, Own.nil _ _⟩
 ·
  rintro ⟨i, ov, om⟩ ⟨hil, hO⟩
  have hal := acr_len (R[k]'hkR).2.1 l (X.take i)
  rw [List.length_take, Nat.min_eq_left hil] at hal
  obtain ⟨Ao, co, rfl, hco⟩ := hO.val
  refine f_seq fun K5 kh5 => ?_
  refine f_seq fun K6 kh6 => ?_
  refine f_region ?_
  refine f_stepP rfl rfl rfl (o_move rfl) ?_
  refine f_stepP rfl rfl rfl (o_move rfl) ?_
  refine f_stepP rfl rfl rfl (o_len sl25 rfl) ?_
  refine f_stepP rfl rfl rfl (o_lss rfl rfl) ?_
  refine f_done ?_
  refine f_tn (kh6 _ _ ?_)
  clear kh6
  refine f_cond rfl (fun c15 => ?_) (fun c15 => ?_)
  ·
   have hi : i < X.length := by omega
   have hxi := hX _ (List.getElem_mem hi)
   obtain ⟨u, hu, hul⟩ : ∃ u : Nat, X[i] = (u : Int) ∧ u < l.length := ⟨X[i].toNat, by omega, by omega⟩
   obtain ⟨bd, od, rfl, hSd, hcd⟩ := hD (map_ne hi)
   obtain ⟨bl, off, rfl, hS, hc⟩ := hr (flat_ne arcCs arcCs_len (by omega) hul)
   have hgu := hgd u hul
   have hsN : l[u].src.toNat < (R[k]'hkR).2.1.length := by omega
   have hdN : l[u].dst.toNat < (R[k]'hkR).2.1.length := by omega
   have hnx := acr_next (L := (R[k]'hkR).2.1) hi hu hul
   refine f_skip ?_
   refine f_tn (kh5 _ _ ?_)
   clear kh5
   refine f_seq fun K7 kh7 => ?_
   refine f_block ?_
   refine f_seq fun K8 kh8 => ?_
   refine f_regionH [om, [(b4, blk [.int .i64 (n : Int), .slice (some ⟨bl, off, none⟩) l.length cap] 24)], [(b5, blk [.slice Ab bs.length cb, .slice (some ⟨b0, o0, none⟩) R.length cc] 28)]] rfl ?_
   refine f_take 0 rfl (by decide +kernel) rfl rfl rfl (by repeat (first | exact Sub.nil | refine Sub.pick ?_ | refine Sub.castO rfl ?_ | refine Sub.skip ?_)) (o_field fa24_1 rfl) ?_
   refine f_take 1 rfl (by decide +kernel) rfl rfl rfl (by repeat (first | exact Sub.nil | refine Sub.pick ?_ | refine Sub.castO rfl ?_ | refine Sub.skip ?_)) (o_load Try.isAgg22 rfl (rdA rfl)) ?_
   refine f_take 2 rfl (by decide +kernel) rfl rfl rfl (by repeat (first | exact Sub.nil | refine Sub.pick ?_ | refine Sub.castO rfl ?_ | refine Sub.skip ?_)) (o_move rfl) ?_
   refine f_take 3 rfl (by decide +kernel) rfl rfl rfl (by repeat (first | exact Sub.nil | refine Sub.pick ?_ | refine Sub.castO rfl ?_ | refine Sub.skip ?_)) (o_move rfl) ?_
   refine f_take 4 rfl (by decide +kernel) rfl rfl rfl (by repeat (first | exact Sub.nil | refine Sub.pick ?_ | refine Sub.castO rfl ?_ | refine Sub.skip ?_)) (o_idx sl25 rfl rfl (od + i) ⟨by omega, by omega, by first | omega | (simp; done) | (simp; omega)⟩) ?_
   refine f_take 5 rfl (by decide +kernel) rfl rfl rfl (by repeat (first | exact Sub.nil | refine Sub.pick ?_ | refine Sub.castO rfl ?_ | refine Sub.skip ?_)) (o_load Try.isAgg3 rfl (show Rd _ _ _ _ _ (.int .i64 (u : Int)) by rw [← hu]; exact roOne (enc := (.int .i64 ·)) hSd hcd hi)) ?_
   refine f_take 6 rfl (by decide +kernel) rfl rfl rfl (by repeat (first | exact Sub.nil | refine Sub.pick ?_ | refine Sub.castO rfl ?_ | refine Sub.skip ?_)) (o_idx sl22 rfl rfl (off + u * 3) ⟨by omega, by omega, by first | omega | (simp; done) | (simp; omega)⟩) ?_
   refine f_take 7 rfl (by decide +kernel) rfl rfl rfl (by repeat (first | exact Sub.nil | refine Sub.pick ?_ | refine Sub.castO rfl ?_ | refine Sub.skip ?_)) (o_loadA (vs := arcCs l[u]) Try.isAgg39 Try.sizeOf39 rfl rfl (roElem arcCs_len hS hc hul)) ?_
   refine f_only 8 rfl (by decide +kernel) rfl rfl rfl (o_alloc Try.zeroValue39 rfl fun b11 => ⟨(by repeat (first | exact Sub.nil | refine Sub.pick ?_ | refine Sub.castO rfl ?_ | refine Sub.skip ?_)), ?_⟩)
   refine f_only0 9 rfl (by decide +kernel) rfl rfl (o_storeA Try.sizeOf39 rfl rfl rfl rfl (by first | exact Nat.le_of_ble_eq_true rfl | (simp; done) | (simp; omega)) (arcCs l[u]) rfl ⟨(by repeat (first | exact Sub.nil | refine Sub.pick ?_ | refine Sub.castO rfl ?_ | refine Sub.skip ?_)), ?_⟩)
   refine f_over (by decide +kernel) ?_
   refine f_tn (kh8 _ _ ?_)
   clear kh8
   refine f_seq fun K9 kh9 => ?_
   refine f_regionS rfl (by decide +kernel) ?_
   refine f_stillP rfl rfl rfl (o_field fa28_1 rfl) ?_
   refine f_stillP rfl rfl rfl (o_load Try.isAgg26 rfl (rdA rfl)) ?_
   refine f_stillP rfl rfl rfl (o_move rfl) ?_
   refine f_stillP rfl rfl rfl (o_sub rfl rfl _ (Eq.trans (wrap_i64 (by omega)) (show _ = (k : Int) by omega))) ?_
   refine f_stillP rfl rfl rfl (o_idx sl26 rfl rfl (o0 + k) ⟨by omega, by omega, by first | omega | (simp; done) | (simp; omega)⟩) ?_
   refine f_stillP rfl rfl rfl (o_load Try.isAgg25 rfl (v := .slice (some ⟨br, or, none⟩) (R[k]'hkR).2.1.length (R[k]'hkR).2.2) (show Rd _ _ _ _ _ (Value.slice (some ⟨br, or, none⟩) (R[k]'hkR).2.1.length (R[k]'hkR).2.2) by rw [← hAr]; exact roOne (enc := rowV) hS0 hc0 hkR)) ?_
   refine f_stillP rfl rfl rfl (o_field fa39_0 rfl) ?_
   refine f_stillP rfl rfl rfl (o_load Try.isAgg3 rfl (rdA rfl)) ?_
   refine f_stillP rfl rfl rfl (o_idx sl25 rfl rfl (or + l[u].src.toNat) ⟨by omega, by omega, by first | omega | (simp; done) | (simp; omega)⟩) ?_
   refine f_stillP rfl rfl rfl (o_load Try.isAgg3 rfl (roOne (enc := (.int .i64 ·)) hSr hcr hsN)) ?_
   refine f_stillP rfl rfl rfl (o_field fa28_1 rfl) ?_
   refine f_stillP rfl rfl rfl (o_load Try.isAgg26 rfl (rdA rfl)) ?_
   refine f_stillP rfl rfl rfl (o_move rfl) ?_
   refine f_stillP rfl rfl rfl (o_sub rfl rfl _ (Eq.trans (wrap_i64 (by omega)) (show _ = (k : Int) by omega))) ?_
   refine f_stillP rfl rfl rfl (o_idx sl26 rfl rfl (o0 + k) ⟨by omega, by omega, by first | omega | (simp; done) | (simp; omega)⟩) ?_
   refine f_stillP rfl rfl rfl (o_load Try.isAgg25 rfl (v := .slice (some ⟨br, or, none⟩) (R[k]'hkR).2.1.length (R[k]'hkR).2.2) (show Rd _ _ _ _ _ (Value.slice (some ⟨br, or, none⟩) (R[k]'hkR).2.1.length (R[k]'hkR).2.2) by rw [← hAr]; exact roOne (enc := rowV) hS0 hc0 hkR)) ?_
   refine f_stillP rfl rfl rfl (o_field fa39_1 rfl) ?_
   refine f_stillP rfl rfl rfl (o_load Try.isAgg3 rfl (rdA rfl)) ?_
   refine f_stillP rfl rfl rfl (o_idx sl25 rfl rfl (or + l[u].dst.toNat) ⟨by omega, by omega, by first | omega | (simp; done) | (simp; omega)⟩) ?_
   refine f_stillP rfl rfl rfl (o_load Try.isAgg3 rfl (roOne (enc := (.int .i64 ·)) hSr hcr hdN)) ?_
   refine f_stillP rfl rfl rfl (o_neq rfl rfl) ?_
   refine f_stillD ?_
   refine f_tn (kh9 _ _ ?_)
   clear kh9
   refine f_cond rfl (fun c46 => ?_) (fun c46 => ?_)
   ·
    have hun : unP (R[k]'hkR).2.1 l[u] = true := by unfold unP; rw [getD_at hsN, getD_at hdN]; simpa using c46
    rw [if_pos hun] at hnx
    refine f_region ?_
    refine f_stepP rfl rfl rfl (o_move rfl) ?_
    refine f_stepP rfl rfl rfl (o_move rfl) ?_
    refine f_stepP rfl rfl rfl (o_move rfl) ?_
    refine f_stepP rfl rfl rfl (o_idx sl25 rfl rfl (od + i) ⟨by omega, by omega, by first | omega | (simp; done) | (simp; omega)⟩) ?_
    refine f_stepP rfl rfl rfl (o_load Try.isAgg3 rfl (show Rd _ _ _ _ _ (.int .i64 (u : Int)) by rw [← hu]; exact roOne (enc := (.int .i64 ·)) hSd hcd hi)) ?_
    refine f_step rfl rfl rfl (o_slice1 el25 (by omega) rfl rfl rfl fun b52 => ?_)
    refine f_step rfl rfl rfl (o_append el25 rfl rfl hO (ys := [.int .i64 (u : Int)]) ⟨(rdA rfl), trivial⟩ rfl rfl (by omega) (by omega) fun v53 m53 o53 => ?_)
    refine f_stepP rfl rfl rfl (o_assign rfl) ?_
    refine f_done ?_
    refine f_bn ?_
    refine f_tn (kh7 _ _ ?_)
    clear kh7
    refine f_region ?_
    refine f_stepP rfl rfl rfl (o_move rfl) ?_
    refine f_stepP rfl rfl rfl (o_add rfl rfl _ (wrap_i64 (by omega))) ?_
    refine f_stepP rfl rfl rfl (o_assign rfl) ?_
    refine f_done ?_
    refine f_tn (f_again (i + 1, v53, m53) (by first | omega | (dsimp only; omega) | (simp; omega)) ⟨by omega, by rw [hnx, List.length_append, ints_append]; exact o53⟩ ?_ ?_ ?_)
    · exact (by repeat (first | exact trivial | refine ⟨rfl, ?_⟩))
    · exact (by repeat (first | exact trivial | refine ⟨rfl, ?_⟩))
    · repeat (first | exact Sub.nil | refine Sub.pick ?_ | refine Sub.castO rfl ?_ | refine Sub.skip ?_)
   ·
    have hun : ¬ unP (R[k]'hkR).2.1 l[u] = true := by unfold unP; rw [getD_at hsN, getD_at hdN]; simpa using c46
    rw [if_neg hun, List.append_nil] at hnx
    refine f_skip ?_
    refine f_bn ?_
    refine f_tn (kh7 _ _ ?_)
    clear kh7
    refine f_region ?_
    refine f_stepP rfl rfl rfl (o_move rfl) ?_
    refine f_stepP rfl rfl rfl (o_add rfl rfl _ (wrap_i64 (by omega))) ?_
    refine f_stepP rfl rfl rfl (o_assign rfl) ?_
    refine f_done ?_
    refine f_tn (f_again (i + 1, .slice Ao (acrL (R[k]'hkR).2.1 l (X.take i)).length co, om) (by first | omega | (dsimp only; omega) | (simp; omega)) ⟨by omega, by rw [hnx]; exact hO⟩ ?_ ?_ ?_)
    · exact (by repeat (first | exact trivial | refine ⟨rfl, ?_⟩))
    · exact (by repeat (first | exact trivial | refine ⟨rfl, ?_⟩))
    · repeat (first | exact Sub.nil | refine Sub.pick ?_ | refine Sub.castO rfl ?_ | refine Sub.skip ?_)
  ·
   obtain rfl : i = X.length := by omega
   rw [List.take_length] at hO hal hco
   refine f_reC 9 rfl (v := .slice Ao (acrL (R[k]'hkR).2.1 l X).length co) (by rw [List.take_length]) ?_
   refine f_exit ?_
   refine f_te ?_
   clear kh5
   refine f_te ?_
   refine f_be ?_
   refine f_tn (kh3 _ _ ?_)
   clear kh3
   refine f_seq fun K10 kh10 => ?_
   refine f_region ?_
   refine f_stepP rfl rfl rfl (o_move rfl) ?_
   refine f_stepP rfl rfl rfl (o_assign rfl) ?_
   refine f_done ?_
   refine f_tn (kh10 _ _ ?_)
   clear kh10
   refine f_ret ?_
   exact f_fin1 [om] Try.results43 rfl (by repeat (first | exact Sub.nil | refine Sub.pick ?_ | refine Sub.castO rfl ?_ | refine Sub.skip ?_)) ⟨Ao, co, om, rfl, rfl, hO⟩

set_option maxRecDepth 100000 in
set_option maxHeartbeats 4000000 in
theorem ROuter_spec (N : Int) (A : Option Addr) (l : List Arc) (cap : Nat) (Ab : Option Addr) (bs : List Int) (cb : Nat) (Ac : Option Addr) (R : List Row) (cc : Nat) (q : Int) (w : World) (hr : Ro (Fr w []) w A (l.flatMap arcCs)) (hl : l.length ≤ 9223372036854775807) (hN : I64 N) (hok : ∀ x ∈ l, ArcOk x) (hn : NestRo (Fr w []) w Ab bs Ac R) :
    Meets Try.prog 19 [.agg #[.int .i64 N, .slice A l.length cap], .agg #[.slice Ab bs.length cb, .slice Ac R.length cc], .int .i64 q] w [] (fun u own' => ∃ (M : List Int) (A' : Option Addr) (c' : Nat) (m' : Seg), u = .tuple #[.slice A' M.length c', .int .i64 (lkE N l bs (rowsL R) q)] ∧ own' = [m'] ∧ Own 3 1 (.slice A' M.length c') M.length (ints M) m' ∧ (lkE N l bs (rowsL R) q ≠ 0 → M = []) ∧ (lkE N l bs (rowsL R) q = 0 → M = idxs (unP ((rowsL R).getD (q.toNat - 1) [])) l)) := by
 refine f_enter Try.func19 rfl Try.ntmps19 rfl Owns.nil ?_
 refine f_seq fun K1 kh1 => ?_
 refine f_region ?_
 refine f_step rfl rfl rfl (o_box rfl rfl fun b3 => ?_)
 refine f_step rfl rfl rfl (o_box rfl rfl fun b4 => ?_)
 refine f_stepP rfl rfl rfl (o_assign rfl) ?_
 refine f_stepP rfl rfl rfl (o_assign rfl) ?_
 refine f_done ?_
 refine f_tn (kh1 _ _ ?_)
 clear kh1
 refine f_seq fun K2 kh2 => ?_
 refine f_seq fun K3 kh3 => ?_
 refine f_region ?_
 refine f_stepP rfl rfl rfl (o_loadA (vs := [_, _]) Try.isAgg24 Try.sizeOf24 rfl rfl ⟨(rdA rfl), (rdA rfl), trivial⟩) ?_
 refine f_stepP rfl rfl rfl (o_loadA (vs := [_, _]) Try.isAgg28 Try.sizeOf28 rfl rfl ⟨(rdA rfl), (rdA rfl), trivial⟩) ?_
 refine f_stepP rfl rfl rfl (o_move rfl) ?_
 refine f_step rfl rfl rfl (o_call Try.call42 rfl (fun w_ hp_ => RNMany_spec N A l cap Ab bs cb Ac R cc q w_ (hr.up0 hp_) hl hN hok (hn.up0 hp_)) ?_)
 rintro _ _ ⟨rfl, rfl⟩
 dsimp only [List.cons_append, List.nil_append]
 refine f_stepP rfl rfl rfl (o_move rfl) ?_
 refine f_stepP rfl rfl rfl (o_extract rfl rfl) ?_
 refine f_stepP rfl rfl rfl (o_extract rfl rfl) ?_
 refine f_stepP rfl rfl rfl (o_assign rfl) ?_
 refine f_stepP rfl rfl rfl (o_assign rfl) ?_
 refine f_done ?_
 refine f_tn (kh3 _ _ ?_)
 clear kh3
 refine f_seq fun K4 kh4 => ?_
 refine f_region ?_
 refine f_stepP rfl rfl rfl (o_move rfl) ?_
 refine f_stepP rfl rfl rfl (o_neq rfl rfl) ?_
 refine f_done ?_
 refine f_tn (kh4 _ _ ?_)
 clear kh4
 refine f_cond rfl (fun c20 => ?_) (fun c20 => ?_)
 ·
  refine f_seq fun K5 kh5 => ?_
  refine f_region ?_
  refine f_stepP rfl rfl rfl (o_move rfl) ?_
  refine f_stepP rfl rfl rfl (o_assign rfl) ?_
  refine f_stepP rfl rfl rfl (o_assign rfl) ?_
  refine f_done ?_
  refine f_tn (kh5 _ _ ?_)
  clear kh5
  refine f_ret ?_
  refine f_tr ?_
  exact f_fin2 [[]] Try.results19 rfl rfl (show Fly.Sub _ [[]] from (by repeat (first | exact Sub.nil | refine Sub.pick ?_ | refine Sub.castO rfl ?_ | refine Sub.skip ?_))) ⟨[], none, 0, [], rfl, rfl, Own.nil _ _, fun _ => rfl, fun h => absurd h (by simpa using c20)⟩
 ·
  have hlz : lkE N l bs (rowsL R) q = 0 := by simpa using c20
  obtain ⟨n, k, rfl, hNo, hqk, hkb⟩ := lkE_zero hlz
  have hRl := hNo.len
  rw [rowsL_len] at hRl
  have hmany := hNo.many
  have hkR : k < R.length := by omega
  obtain ⟨hn1, hn2, hlen, hgd⟩ := gcheck_zero hNo.g
  have hn0 : 1 ≤ n := by omega
  have hrk := rowsL_at hkR
  have hkl := hNo.rowlen (k := k) (by omega)
  rw [hrk] at hkl
  have hXr : ∀ x ∈ idxs (fun _ : Arc => true) l, 0 ≤ x ∧ x < (l.length : Int) := fun x hx => by obtain ⟨u, hu, rfl, _⟩ := idxs_memC.1 hx; omega
  refine f_skip ?_
  refine f_tn (kh2 _ _ ?_)
  clear kh2
  refine f_seq fun K6 kh6 => ?_
  refine f_region ?_
  refine f_stepP rfl rfl rfl (o_assign rfl) ?_
  refine f_done ?_
  refine f_tn (kh6 _ _ ?_)
  clear kh6
  refine f_seq fun K7 kh7 => ?_
  refine f_seq fun K8 kh8 => ?_
  refine f_region ?_
  refine f_stepP rfl rfl rfl (o_assign rfl) ?_
  refine f_done ?_
  refine f_tn (kh8 _ _ ?_)
  clear kh8
  refine f_block ?_
  refine f_loop (α := Nat × Value × Seg) [2, 3, 4] (fun ⟨i, ov, om⟩ => [(11, .int .i64 (i : Int)), (10, ov)]) (fun ⟨i, ov, om⟩ => [om, [(b3, blk [.int .i64 (n : Int), .slice A l.length cap] 24)], [(b4, blk [.slice Ab bs.length cb, .slice Ac R.length cc] 28)]]) (fun ⟨i, ov, om⟩ => i ≤ l.length ∧ Own 3 1 ov (idxs (fun _ : Arc => true) (l.take i)).length (ints (idxs (fun _ : Arc => true) (l.take i))) om) (fun ⟨i, ov, om⟩ => l.length - i) (0, .slice none 0 0, []) ?_ ?_ ?_ ?_
  · exact (by repeat (first | exact trivial | refine ⟨rfl, ?_⟩))
  · repeat (first | exact Sub.nil | refine Sub.pick ?_ | refine Sub.castO rfl ?_ | refine Sub.skip ?_)
  · exact ⟨Nat.zero_le _, Own.nil _ _⟩
  ·
   rintro ⟨i, ov, om⟩ ⟨hkl2, hO⟩
   have hil := idxs_len_leC (fun _ : Arc => true) (l.take i)
   rw [List.length_take, Nat.min_eq_left hkl2] at hil
   obtain ⟨Ao, co, rfl, hco⟩ := hO.val
   refine f_seq fun K9 kh9 => ?_
   refine f_seq fun K10 kh10 => ?_
   refine f_region ?_
   refine f_stepP rfl rfl rfl (o_move rfl) ?_
   refine f_stepP rfl rfl rfl (o_field fa24_1 rfl) ?_
   refine f_stepP rfl rfl rfl (o_load Try.isAgg22 rfl (rdA rfl)) ?_
   refine f_stepP rfl rfl rfl (o_len sl22 rfl) ?_
   refine f_stepP rfl rfl rfl (o_lss rfl rfl) ?_
   refine f_done ?_
   refine f_tn (kh10 _ _ ?_)
   clear kh10
   refine f_cond rfl (fun c26 => ?_) (fun c26 => ?_)
   ·
    have hi : i < l.length := by omega
    refine f_skip ?_
    refine f_tn (kh9 _ _ ?_)
    clear kh9
    refine f_seq fun K11 kh11 => ?_
    refine f_block ?_
    refine f_region ?_
    refine f_stepP rfl rfl rfl (o_move rfl) ?_
    refine f_stepP rfl rfl rfl (o_move rfl) ?_
    refine f_step rfl rfl rfl (o_slice1 el25 (by omega) rfl rfl rfl fun b31 => ?_)
    refine f_step rfl rfl rfl (o_append el25 rfl rfl hO (ys := [.int .i64 (i : Int)]) ⟨(rdA rfl), trivial⟩ rfl rfl (by omega) (by omega) fun v32 m32 o32 => ?_)
    refine f_stepP rfl rfl rfl (o_assign rfl) ?_
    refine f_done ?_
    refine f_bn ?_
    refine f_tn (kh11 _ _ ?_)
    clear kh11
    refine f_region ?_
    refine f_stepP rfl rfl rfl (o_move rfl) ?_
    refine f_stepP rfl rfl rfl (o_add rfl rfl _ (wrap_i64 (by omega))) ?_
    refine f_stepP rfl rfl rfl (o_assign rfl) ?_
    refine f_done ?_
    refine f_tn (f_again (i + 1, v32, m32) (by first | omega | (dsimp only; omega) | (simp; omega)) ⟨by omega, by rw [idxs_yes hi rfl, List.length_append, ints_append]; exact o32⟩ ?_ ?_ ?_)
    · exact (by repeat (first | exact trivial | refine ⟨rfl, ?_⟩))
    · exact (by repeat (first | exact trivial | refine ⟨rfl, ?_⟩))
    · repeat (first | exact Sub.nil | refine Sub.pick ?_ | refine Sub.castO rfl ?_ | refine Sub.skip ?_)
   ·
    obtain rfl : i = l.length := by omega
    rw [List.take_length] at hO hil hco
    refine f_reC 10 rfl (v := .slice Ao (idxs (fun _ : Arc => true) l).length co) (by rw [List.take_length]) ?_
    refine f_exit ?_
    refine f_te ?_
    clear kh9
    refine f_te ?_
    refine f_be ?_
    refine f_tn (kh7 _ _ ?_)
    clear kh7
    refine f_seq fun K12 kh12 => ?_
    refine f_region ?_
    refine f_stepP rfl rfl rfl (o_loadA (vs := [_, _]) Try.isAgg24 Try.sizeOf24 rfl rfl ⟨(rdA rfl), (rdA rfl), trivial⟩) ?_
    refine f_stepP rfl rfl rfl (o_loadA (vs := [_, _]) Try.isAgg28 Try.sizeOf28 rfl rfl ⟨(rdA rfl), (rdA rfl), trivial⟩) ?_
    refine f_stepP rfl rfl rfl (o_move rfl) ?_
    refine f_stepP rfl rfl rfl (o_move rfl) ?_
    refine f_step rfl rfl rfl (o_call Try.call43 rfl (fun w_ hp_ => (by have h := RAcross_spec n A l cap Ab bs cb Ac R cc k Ao (idxs (fun _ => true) l) co w_ (hr.up0 hp_) (hn.up0 hp_) hlen hgd hkR hkl hn0 (seen_ro (hO.seen hp_)) hXr (by omega); rw [acr_idxs (p := fun _ => true) (q := unP (R[k]'hkR).2.1) (fun a => by simp), ← hqk] at h; exact h)) ?_)
    rintro _ _ ⟨A2, c2, m2, rfl, rfl, hO2⟩
    dsimp only [List.cons_append, List.nil_append]
    refine f_stepP rfl rfl rfl (o_assign rfl) ?_
    refine f_stepP rfl rfl rfl (o_assign rfl) ?_
    refine f_done ?_
    refine f_tn (kh12 _ _ ?_)
    clear kh12
    refine f_ret ?_
    exact f_fin2 [m2] Try.results19 rfl rfl (by repeat (first | exact Sub.nil | refine Sub.pick ?_ | refine Sub.castO rfl ?_ | refine Sub.skip ?_)) ⟨_, A2, c2, m2, by rw [hlz], rfl, hO2, fun h => absurd hlz h, fun _ => by rw [show q.toNat - 1 = k by omega, hrk]⟩

set_option maxRecDepth 100000 in
set_option maxHeartbeats 4000000 in
theorem RTouched_spec (n : Nat) (A : Option Addr) (l : List Arc) (cap : Nat) (Ab : Option Addr) (bs : List Int) (cb : Nat) (Ac : Option Addr) (R : List Row) (cc : Nat) (D : Option Addr) (arcs : List Int) (cd : Nat) (w : World) (hr : Ro (Fr w []) w A (l.flatMap arcCs)) (hn : NestRo (Fr w []) w Ab bs Ac R) (hNo : NestOk n l bs (rowsL R)) (hD : Ro (Fr w []) w D (ints arcs)) (hm : arcs.length ≤ 16384) (hav : ∀ i ∈ arcs, 0 ≤ i ∧ i < (l.length : Int)) :
    Meets Try.prog 41 [.agg #[.int .i64 (n : Int), .slice A l.length cap], .agg #[.slice Ab bs.length cb, .slice Ac R.length cc], .slice D arcs.length cd] w [] (fun u own' => ∃ (R' : List Row) (A' : Option Addr) (c' : Nat) (mc : Seg) (ms : List Seg), u = .slice A' R'.length c' ∧ own' = [mc, ms.flatten] ∧ Own 25 1 (.slice A' R'.length c') R'.length (R'.map rowV) mc ∧ RowsI 3 (rowsL R') (R'.map rowV) ms ∧ rowsL R' = stL (rowsL R) l arcs) := by
 have hRl := hNo.len
 rw [rowsL_len] at hRl
 have hmany := hNo.many
 obtain ⟨hn1, hn2, hlen, hgd⟩ := gcheck_zero hNo.g
 have hsrc : ∀ a ∈ l, a.src.toNat < n := fun a ha => by
   obtain ⟨i, hi, rfl⟩ := List.mem_iff_getElem.1 ha
   have := hgd i hi
   omega
 refine f_enter Try.func41 rfl Try.ntmps41 rfl Owns.nil ?_
 refine f_seq fun K1 kh1 => ?_
 refine f_region ?_
 refine f_step rfl rfl rfl (o_box rfl rfl fun b3 => ?_)
 refine f_step rfl rfl rfl (o_box rfl rfl fun b4 => ?_)
 refine f_stepP rfl rfl rfl (o_assign rfl) ?_
 refine f_done ?_
 refine f_tn (kh1 _ _ ?_)
 clear kh1
 refine f_seq fun K2 kh2 => ?_
 refine f_region ?_
 refine f_stepP rfl rfl rfl (o_assign rfl) ?_
 refine f_done ?_
 refine f_tn (kh2 _ _ ?_)
 clear kh2
 refine f_seq fun K3 kh3 => ?_
 refine f_seq fun K4 kh4 => ?_
 refine f_region ?_
 refine f_stepP rfl rfl rfl (o_assign rfl) ?_
 refine f_done ?_
 refine f_tn (kh4 _ _ ?_)
 clear kh4
 refine f_block ?_
 refine f_loop (α := Nat × Value × Seg × List Value × List Seg) [2, 3, 4] (fun ⟨k, ov, om, vs, ms⟩ => [(8, .int .i64 ((k : Int) + 1)), (7, ov)]) (fun ⟨k, ov, om, vs, ms⟩ => [om, ms.flatten, [(b3, blk [.int .i64 (n : Int), .slice A l.length cap] 24)], [(b4, blk [.slice Ab bs.length cb, .slice Ac R.length cc] 28)]]) (fun ⟨k, ov, om, vs, ms⟩ => k ≤ bs.length ∧ Own 25 1 ov k vs om ∧ RowsI 3 ((stL (rowsL R) l arcs).take k) vs ms) (fun ⟨k, ov, om, vs, ms⟩ => bs.length - k) (0, .slice none 0 0, [], [], []) ?_ ?_ ?_ ?_
 · exact (by repeat (first | exact trivial | refine ⟨rfl, ?_⟩))
 · repeat (first | exact Sub.nil | refine Sub.pick ?_ | refine Sub.castO rfl ?_ | refine Sub.skip ?_)
 · exact ⟨Nat.zero_le _, Own.nil _ _, by rw [List.take_zero]; exact RowsI.start _ 0⟩
 ·
  rintro ⟨k, ov, om, vs, ms⟩ ⟨hkl0, hO, hRI⟩
  obtain ⟨Ao, co, rfl, hco⟩ := hO.val
  refine f_seq fun K5 kh5 => ?_
  refine f_seq fun K6 kh6 => ?_
  refine f_region ?_
  refine f_stepP rfl rfl rfl (o_move rfl) ?_
  refine f_stepP rfl rfl rfl (o_field fa28_0 rfl) ?_
  refine f_stepP rfl rfl rfl (o_load Try.isAgg25 rfl (rdA rfl)) ?_
  refine f_stepP rfl rfl rfl (o_len sl25 rfl) ?_
  refine f_stepP rfl rfl rfl (o_leq rfl rfl) ?_
  refine f_done ?_
  refine f_tn (kh6 _ _ ?_)
  clear kh6
  refine f_cond rfl (fun c16 => ?_) (fun c16 => ?_)
  ·
   have hkR : k < R.length := by omega
   have hrk := rowsL_at hkR
   have hRk := hNo.right (k := k) (by omega)
   rw [hrk] at hRk
   have hkl := (right_parts hRk).2
   have hrg := right_range hRk (by omega)
   have hlb : ∀ v, v < n → 0 ≤ (R[k]'hkR).2.1.getD v 0 ∧ (R[k]'hkR).2.1.getD v 0 < (n : Int) := fun v hv => by
     rw [getD_at (by omega)]
     have := hrg _ (List.getElem_mem (show v < (R[k]'hkR).2.1.length by omega))
     omega
   obtain ⟨b0, o0, rfl, hS0, hc0⟩ := hn.c (map_ne hkR)
   have hrow := hn.rows _ (List.getElem_mem hkR)
   obtain ⟨br, or, hAr, hSr, hcr⟩ := hrow.1 (fun e => by have := ints_length (R[k]'hkR).2.1; rw [e] at this; simp at this; omega)
   refine f_skip ?_
   refine f_tn (kh5 _ _ ?_)
   clear kh5
   refine f_seq fun K7 kh7 => ?_
   refine f_block ?_
   refine f_seq fun K8 kh8 => ?_
   refine f_region ?_
   refine f_stepP rfl rfl rfl (o_field fa24_0 rfl) ?_
   refine f_stepP rfl rfl rfl (o_load Try.isAgg3 rfl (rdA rfl)) ?_
   refine f_step rfl rfl rfl (o_make el36 rfl rfl n rfl (by omega) (by omega) (boolsT (List.replicate n false)) (reps_T n false) fun b21 => ?_)
   refine f_stepP rfl rfl rfl (o_assign rfl) ?_
   refine f_done ?_
   refine f_tn (kh8 _ _ ?_)
   clear kh8
   refine f_seq fun K9 kh9 => ?_
   refine f_seq fun K10 kh10 => ?_
   refine f_region ?_
   refine f_stepP rfl rfl rfl (o_assign rfl) ?_
   refine f_done ?_
   refine f_tn (kh10 _ _ ?_)
   clear kh10
   refine f_block ?_
   refine f_loop (α := Nat × List Bool) [2, 3, 4, 7, 8, 9] (fun ⟨j, es⟩ => [(10, .int .i64 (j : Int))]) (fun ⟨j, es⟩ => [[(b21, blk (boolsT es) 4)], om, ms.flatten, [(b3, blk [.int .i64 (n : Int), .slice A l.length cap] 24)], [(b4, blk [.slice Ab bs.length cb, .slice (some ⟨b0, o0, none⟩) R.length cc] 28)]]) (fun ⟨j, es⟩ => j ≤ arcs.length ∧ es.length = n ∧ ∀ v, v < n → es.getD v false = decide ((v : Int) ∈ stR (R[k]'hkR).2.1 l (arcs.take j))) (fun ⟨j, es⟩ => arcs.length - j) (0, List.replicate n false) ?_ ?_ ?_ ?_
   · exact (by repeat (first | exact trivial | refine ⟨rfl, ?_⟩))
   · repeat (first | exact Sub.nil | refine Sub.pick ?_ | refine Sub.castO rfl ?_ | refine Sub.skip ?_)
   · exact ⟨Nat.zero_le _, by simp, fun v hv => by simp [stR, List.getD_eq_getElem?_getD, hv]⟩
   ·
    rintro ⟨j, es⟩ ⟨hjl, hel, hes⟩
    refine f_envC (e := [(10, _), (2, _), (3, _), (4, _), (7, _), (8, _), (9, _)]) (by repeat (first | exact trivial | refine ⟨rfl, ?_⟩)) ?_
    refine f_seq fun K11 kh11 => ?_
    refine f_seq fun K12 kh12 => ?_
    refine f_region ?_
    refine f_stepP rfl rfl rfl (o_move rfl) ?_
    refine f_stepP rfl rfl rfl (o_move rfl) ?_
    refine f_stepP rfl rfl rfl (o_len sl25 rfl) ?_
    refine f_stepP rfl rfl rfl (o_lss rfl rfl) ?_
    refine f_done ?_
    refine f_tn (kh12 _ _ ?_)
    clear kh12
    refine f_cond rfl (fun c25 => ?_) (fun c25 => ?_)
    ·
     have hi : j < arcs.length := by omega
     have hxi := hav _ (List.getElem_mem hi)
     obtain ⟨u, hu, hul⟩ : ∃ u : Nat, arcs[j] = (u : Int) ∧ u < l.length := ⟨arcs[j].toNat, by omega, by omega⟩
     obtain ⟨bd, od, rfl, hSd, hcd⟩ := hD (map_ne hi)
     obtain ⟨bl, off, rfl, hS, hc⟩ := hr (flat_ne arcCs arcCs_len (by omega) hul)
     have hgu := hgd u hul
     have hsN : l[u].src.toNat < (R[k]'hkR).2.1.length := by omega
     have hdN : l[u].dst.toNat < (R[k]'hkR).2.1.length := by omega
     have hnx := stR_next (row := (R[k]'hkR).2.1) (l := l) hi
     rw [stOf_at hu hul, getD_at hsN, getD_at hdN] at hnx
     refine f_skip ?_
     refine f_tn (kh11 _ _ ?_)
     clear kh11
     refine f_seq fun K13 kh13 => ?_
     refine f_block ?_
     refine f_seq fun K14 kh14 => ?_
     refine f_regionH [[(b21, blk (boolsT es) 4)], om, ms.flatten, [(b3, blk [.int .i64 (n : Int), .slice (some ⟨bl, off, none⟩) l.length cap] 24)], [(b4, blk [.slice Ab bs.length cb, .slice (some ⟨b0, o0, none⟩) R.length cc] 28)]] rfl ?_
     refine f_take 0 rfl (by decide +kernel) rfl rfl rfl (by repeat (first | exact Sub.nil | refine Sub.pick ?_ | refine Sub.castO rfl ?_ | refine Sub.skip ?_)) (o_field fa24_1 rfl) ?_
     refine f_take 1 rfl (by decide +kernel) rfl rfl rfl (by repeat (first | exact Sub.nil | refine Sub.pick ?_ | refine Sub.castO rfl ?_ | refine Sub.skip ?_)) (o_load Try.isAgg22 rfl (rdA rfl)) ?_
     refine f_take 2 rfl (by decide +kernel) rfl rfl rfl (by repeat (first | exact Sub.nil | refine Sub.pick ?_ | refine Sub.castO rfl ?_ | refine Sub.skip ?_)) (o_move rfl) ?_
     refine f_take 3 rfl (by decide +kernel) rfl rfl rfl (by repeat (first | exact Sub.nil | refine Sub.pick ?_ | refine Sub.castO rfl ?_ | refine Sub.skip ?_)) (o_move rfl) ?_
     refine f_take 4 rfl (by decide +kernel) rfl rfl rfl (by repeat (first | exact Sub.nil | refine Sub.pick ?_ | refine Sub.castO rfl ?_ | refine Sub.skip ?_)) (o_idx sl25 rfl rfl (od + j) ⟨by omega, by omega, by first | omega | (simp; done) | (simp; omega)⟩) ?_
     refine f_take 5 rfl (by decide +kernel) rfl rfl rfl (by repeat (first | exact Sub.nil | refine Sub.pick ?_ | refine Sub.castO rfl ?_ | refine Sub.skip ?_)) (o_load Try.isAgg3 rfl (show Rd _ _ _ _ _ (.int .i64 (u : Int)) by rw [← hu]; exact roOne (enc := (.int .i64 ·)) hSd hcd hi)) ?_
     refine f_take 6 rfl (by decide +kernel) rfl rfl rfl (by repeat (first | exact Sub.nil | refine Sub.pick ?_ | refine Sub.castO rfl ?_ | refine Sub.skip ?_)) (o_idx sl22 rfl rfl (off + u * 3) ⟨by omega, by omega, by first | omega | (simp; done) | (simp; omega)⟩) ?_
     refine f_take 7 rfl (by decide +kernel) rfl rfl rfl (by repeat (first | exact Sub.nil | refine Sub.pick ?_ | refine Sub.castO rfl ?_ | refine Sub.skip ?_)) (o_loadA (vs := arcCs l[u]) Try.isAgg39 Try.sizeOf39 rfl rfl (roElem arcCs_len hS hc hul)) ?_
     refine f_only 8 rfl (by decide +kernel) rfl rfl rfl (o_alloc Try.zeroValue39 rfl fun b11 => ⟨(by repeat (first | exact Sub.nil | refine Sub.pick ?_ | refine Sub.castO rfl ?_ | refine Sub.skip ?_)), ?_⟩)
     refine f_only0 9 rfl (by decide +kernel) rfl rfl (o_storeA Try.sizeOf39 rfl rfl rfl rfl (by first | exact Nat.le_of_ble_eq_true rfl | (simp; done) | (simp; omega)) (arcCs l[u]) rfl ⟨(by repeat (first | exact Sub.nil | refine Sub.pick ?_ | refine Sub.castO rfl ?_ | refine Sub.skip ?_)), ?_⟩)
     refine f_over (by decide +kernel) ?_
     refine f_tn (kh14 _ _ ?_)
     clear kh14
     refine f_seq fun K15 kh15 => ?_
     refine f_regionS rfl (by decide +kernel) ?_
     refine f_stillP rfl rfl rfl (o_field fa28_1 rfl) ?_
     refine f_stillP rfl rfl rfl (o_load Try.isAgg26 rfl (rdA rfl)) ?_
     refine f_stillP rfl rfl rfl (o_move rfl) ?_
     refine f_stillP rfl rfl rfl (o_sub rfl rfl _ (Eq.trans (wrap_i64 (by omega)) (show _ = (k : Int) by omega))) ?_
     refine f_stillP rfl rfl rfl (o_idx sl26 rfl rfl (o0 + k) ⟨by omega, by omega, by first | omega | (simp; done) | (simp; omega)⟩) ?_
     refine f_stillP rfl rfl rfl (o_load Try.isAgg25 rfl (v := .slice (some ⟨br, or, none⟩) (R[k]'hkR).2.1.length (R[k]'hkR).2.2) (show Rd _ _ _ _ _ (Value.slice (some ⟨br, or, none⟩) (R[k]'hkR).2.1.length (R[k]'hkR).2.2) by rw [← hAr]; exact roOne (enc := rowV) hS0 hc0 hkR)) ?_
     refine f_stillP rfl rfl rfl (o_field fa39_0 rfl) ?_
     refine f_stillP rfl rfl rfl (o_load Try.isAgg3 rfl (rdA rfl)) ?_
     refine f_stillP rfl rfl rfl (o_idx sl25 rfl rfl (or + l[u].src.toNat) ⟨by omega, by omega, by first | omega | (simp; done) | (simp; omega)⟩) ?_
     refine f_stillP rfl rfl rfl (o_load Try.isAgg3 rfl (roOne (enc := (.int .i64 ·)) hSr hcr hsN)) ?_
     refine f_stillP rfl rfl rfl (o_field fa28_1 rfl) ?_
     refine f_stillP rfl rfl rfl (o_load Try.isAgg26 rfl (rdA rfl)) ?_
     refine f_stillP rfl rfl rfl (o_move rfl) ?_
     refine f_stillP rfl rfl rfl (o_sub rfl rfl _ (Eq.trans (wrap_i64 (by omega)) (show _ = (k : Int) by omega))) ?_
     refine f_stillP rfl rfl rfl (o_idx sl26 rfl rfl (o0 + k) ⟨by omega, by omega, by first | omega | (simp; done) | (simp; omega)⟩) ?_
     refine f_stillP rfl rfl rfl (o_load Try.isAgg25 rfl (v := .slice (some ⟨br, or, none⟩) (R[k]'hkR).2.1.length (R[k]'hkR).2.2) (show Rd _ _ _ _ _ (Value.slice (some ⟨br, or, none⟩) (R[k]'hkR).2.1.length (R[k]'hkR).2.2) by rw [← hAr]; exact roOne (enc := rowV) hS0 hc0 hkR)) ?_
     refine f_stillP rfl rfl rfl (o_field fa39_1 rfl) ?_
     refine f_stillP rfl rfl rfl (o_load Try.isAgg3 rfl (rdA rfl)) ?_
     refine f_stillP rfl rfl rfl (o_idx sl25 rfl rfl (or + l[u].dst.toNat) ⟨by omega, by omega, by first | omega | (simp; done) | (simp; omega)⟩) ?_
     refine f_stillP rfl rfl rfl (o_load Try.isAgg3 rfl (roOne (enc := (.int .i64 ·)) hSr hcr hdN)) ?_
     refine f_stillP rfl rfl rfl (o_eql rfl rfl) ?_
     refine f_stillD ?_
     refine f_tn (kh15 _ _ ?_)
     clear kh15
     refine f_cond rfl (fun c56 => ?_) (fun c56 => ?_)
     ·
      rw [if_pos c56] at hnx
      have hlx := hrg _ (List.getElem_mem hsN)
      obtain ⟨x, hx⟩ : ∃ x : Nat, (R[k]'hkR).2.1[l[u].src.toNat] = (x : Int) := ⟨(R[k]'hkR).2.1[l[u].src.toNat].toNat, by omega⟩
      refine f_regionH [om, ms.flatten, [(b3, blk [.int .i64 (n : Int), .slice (some ⟨bl, off, none⟩) l.length cap] 24)], [(b4, blk [.slice Ab bs.length cb, .slice (some ⟨b0, o0, none⟩) R.length cc] 28)], [(b11, blk (arcCs l[u]) 39)]] rfl ?_
      refine f_take 0 rfl (by decide +kernel) rfl rfl rfl (by repeat (first | exact Sub.nil | refine Sub.pick ?_ | refine Sub.castO rfl ?_ | refine Sub.skip ?_)) (o_move rfl) ?_
      refine f_take 1 rfl (by decide +kernel) rfl rfl rfl (by repeat (first | exact Sub.nil | refine Sub.pick ?_ | refine Sub.castO rfl ?_ | refine Sub.skip ?_)) (o_field fa28_1 rfl) ?_
      refine f_take 2 rfl (by decide +kernel) rfl rfl rfl (by repeat (first | exact Sub.nil | refine Sub.pick ?_ | refine Sub.castO rfl ?_ | refine Sub.skip ?_)) (o_load Try.isAgg26 rfl (rdA rfl)) ?_
      refine f_take 3 rfl (by decide +kernel) rfl rfl rfl (by repeat (first | exact Sub.nil | refine Sub.pick ?_ | refine Sub.castO rfl ?_ | refine Sub.skip ?_)) (o_move rfl) ?_
      refine f_take 4 rfl (by decide +kernel) rfl rfl rfl (by repeat (first | exact Sub.nil | refine Sub.pick ?_ | refine Sub.castO rfl ?_ | refine Sub.skip ?_)) (o_sub rfl rfl _ (Eq.trans (wrap_i64 (by omega)) (show _ = (k : Int) by omega))) ?_
      refine f_take 5 rfl (by decide +kernel) rfl rfl rfl (by repeat (first | exact Sub.nil | refine Sub.pick ?_ | refine Sub.castO rfl ?_ | refine Sub.skip ?_)) (o_idx sl26 rfl rfl (o0 + k) ⟨by omega, by omega, by first | omega | (simp; done) | (simp; omega)⟩) ?_
      refine f_take 6 rfl (by decide +kernel) rfl rfl rfl (by repeat (first | exact Sub.nil | refine Sub.pick ?_ | refine Sub.castO rfl ?_ | refine Sub.skip ?_)) (o_load Try.isAgg25 rfl (v := .slice (some ⟨br, or, none⟩) (R[k]'hkR).2.1.length (R[k]'hkR).2.2) (show Rd _ _ _ _ _ (Value.slice (some ⟨br, or, none⟩) (R[k]'hkR).2.1.length (R[k]'hkR).2.2) by rw [← hAr]; exact roOne (enc := rowV) hS0 hc0 hkR)) ?_
      refine f_take 7 rfl (by decide +kernel) rfl rfl rfl (by repeat (first | exact Sub.nil | refine Sub.pick ?_ | refine Sub.castO rfl ?_ | refine Sub.skip ?_)) (o_field fa39_0 rfl) ?_
      refine f_take 8 rfl (by decide +kernel) rfl rfl rfl (by repeat (first | exact Sub.nil | refine Sub.pick ?_ | refine Sub.castO rfl ?_ | refine Sub.skip ?_)) (o_load Try.isAgg3 rfl (rdA rfl)) ?_
      refine f_take 9 rfl (by decide +kernel) rfl rfl rfl (by repeat (first | exact Sub.nil | refine Sub.pick ?_ | refine Sub.castO rfl ?_ | refine Sub.skip ?_)) (o_idx sl25 rfl rfl (or + l[u].src.toNat) ⟨by omega, by omega, by first | omega | (simp; done) | (simp; omega)⟩) ?_
      refine f_take 10 rfl (by decide +kernel) rfl rfl rfl (by repeat (first | exact Sub.nil | refine Sub.pick ?_ | refine Sub.castO rfl ?_ | refine Sub.skip ?_)) (o_load Try.isAgg3 rfl (show Rd _ _ _ _ _ (.int .i64 (x : Int)) by rw [← hx]; exact roOne (enc := (.int .i64 ·)) hSr hcr hsN)) ?_
      refine f_take 11 rfl (by decide +kernel) rfl rfl rfl (by repeat (first | exact Sub.nil | refine Sub.pick ?_ | refine Sub.castO rfl ?_ | refine Sub.skip ?_)) (o_idx sl36 rfl rfl (x) ⟨by omega, by omega, by first | omega | (simp; done) | (simp; omega)⟩) ?_
      refine f_only0 12 rfl (by decide +kernel) rfl rfl (o_store Try.sizeOf4 rfl rfl rfl rfl (by simp [boolsT]; omega) (boolsT (es.set x true)) (by rw [boolsT_set]) ⟨(by repeat (first | exact Sub.nil | refine Sub.pick ?_ | refine Sub.castO rfl ?_ | refine Sub.skip ?_)), ?_⟩)
      refine f_over (by decide +kernel) ?_
      refine f_bn ?_
      refine f_tn (kh13 _ _ ?_)
      clear kh13
      refine f_region ?_
      refine f_stepP rfl rfl rfl (o_move rfl) ?_
      refine f_stepP rfl rfl rfl (o_add rfl rfl _ (wrap_i64 (by omega))) ?_
      refine f_stepP rfl rfl rfl (o_assign rfl) ?_
      refine f_done ?_
      refine f_tn (f_again (j + 1, es.set x true) (by first | omega | (dsimp only; omega) | (simp; omega)) ⟨by omega, by simpa using hel, fun v hv => by
        rw [getD_setT (by omega), hnx, hes v hv, hx]
        by_cases e : x = v
        · subst e; simp
        · rw [if_neg e, decide_eq_decide, List.mem_append, List.mem_singleton]
          constructor
          · exact .inl
          · rintro (h | h)
            · exact h
            · omega⟩ ?_ ?_ ?_)
      · exact (by repeat (first | exact trivial | refine ⟨rfl, ?_⟩))
      · exact (by repeat (first | exact trivial | refine ⟨rfl, ?_⟩))
      · repeat (first | exact Sub.nil | refine Sub.pick ?_ | refine Sub.castO rfl ?_ | refine Sub.skip ?_)
     ·
      rw [if_neg c56, List.append_nil] at hnx
      refine f_skip ?_
      refine f_bn ?_
      refine f_tn (kh13 _ _ ?_)
      clear kh13
      refine f_region ?_
      refine f_stepP rfl rfl rfl (o_move rfl) ?_
      refine f_stepP rfl rfl rfl (o_add rfl rfl _ (wrap_i64 (by omega))) ?_
      refine f_stepP rfl rfl rfl (o_assign rfl) ?_
      refine f_done ?_
      refine f_tn (f_again (j + 1, es) (by first | omega | (dsimp only; omega) | (simp; omega)) ⟨by omega, hel, fun v hv => by rw [hnx]; exact hes v hv⟩ ?_ ?_ ?_)
      · exact (by repeat (first | exact trivial | refine ⟨rfl, ?_⟩))
      · exact (by repeat (first | exact trivial | refine ⟨rfl, ?_⟩))
      · repeat (first | exact Sub.nil | refine Sub.pick ?_ | refine Sub.castO rfl ?_ | refine Sub.skip ?_)
    ·
     obtain rfl : j = arcs.length := by omega
     rw [List.take_length] at hes
     have htr := trues_stR hlb hsrc hel hes
     refine f_exit ?_
     refine f_te ?_
     clear kh11
     refine f_te ?_
     refine f_be ?_
     refine f_tn (kh9 _ _ ?_)
     clear kh9
     refine f_region ?_
     refine f_stepP rfl rfl rfl (o_move rfl) ?_
     refine f_stepP rfl rfl rfl (o_move rfl) ?_
     refine f_step rfl rfl rfl (o_call Try.call66 rfl (fun w_ hp_ => (by have h := RAllC_spec (some ⟨b21, 0, none⟩) es n w_ (roOwn (b := b21) hp_ (fun j v hj => hj)) (by omega); rw [hel] at h; exact h)) ?_)
     rintro v71 _ ⟨m71, rfl, ho71⟩
     rw [htr] at ho71
     obtain ⟨A71, c71, rfl, _⟩ := ho71.val
     dsimp only [List.cons_append, List.nil_append]
     refine f_step rfl rfl rfl (o_slice1 el26 (by omega) rfl rfl rfl fun b72 => ?_)
     refine f_step rfl rfl rfl (o_append el26 rfl rfl hO (ys := [.slice A71 (stRow (R[k]'hkR).2.1 l arcs).length c71]) ⟨(rdA rfl), trivial⟩ rfl rfl (by omega) (by omega) fun v73 m73 o73 => ?_)
     refine f_stepP rfl rfl rfl (o_assign rfl) ?_
     refine f_done ?_
     refine f_bn ?_
     refine f_tn (kh7 _ _ ?_)
     clear kh7
     refine f_region ?_
     refine f_stepP rfl rfl rfl (o_move rfl) ?_
     refine f_stepP rfl rfl rfl (o_add rfl rfl _ (Eq.trans (wrap_i64 (by omega)) (show _ = (((k + 1 : Nat) : Int) + 1) by omega))) ?_
     refine f_stepP rfl rfl rfl (o_assign rfl) ?_
     refine f_done ?_
     refine f_subQ (out := [m73, (ms ++ [m71]).flatten, [(b3, blk [.int .i64 (n : Int), .slice A l.length cap] 24)], [(b4, blk [.slice Ab bs.length cb, .slice (some ⟨b0, o0, none⟩) R.length cc] 28)]]) (by rw [List.flatten_append]; refine sub_snocT ?_; repeat (first | exact Sub.nil | refine Sub.pick ?_ | refine Sub.castO rfl ?_ | refine Sub.skip ?_)) ?_
     refine f_tn (f_again (k + 1, v73, m73, vs ++ [.slice A71 (stRow (R[k]'hkR).2.1 l arcs).length c71], ms ++ [m71]) (by first | omega | (dsimp only; omega) | (simp; omega)) ⟨by omega, o73, by rw [stL_take (by rw [rowsL_len]; omega), hrk]; exact RowsI.snoc hRI ho71⟩ ?_ ?_ ?_)
     · exact (by repeat (first | exact trivial | refine ⟨rfl, ?_⟩))
     · exact (by repeat (first | exact trivial | refine ⟨rfl, ?_⟩))
     · repeat (first | exact Sub.nil | refine Sub.pick ?_ | refine Sub.castO rfl ?_ | refine Sub.skip ?_)
  ·
   obtain rfl : k = bs.length := by omega
   refine f_exit ?_
   refine f_te ?_
   clear kh5
   refine f_te ?_
   refine f_be ?_
   refine f_tn (kh3 _ _ ?_)
   clear kh3
   refine f_seq fun K16 kh16 => ?_
   refine f_region ?_
   refine f_stepP rfl rfl rfl (o_move rfl) ?_
   refine f_stepP rfl rfl rfl (o_assign rfl) ?_
   refine f_done ?_
   refine f_tn (kh16 _ _ ?_)
   clear kh16
   refine f_ret ?_
   obtain ⟨R', rfl, hRL⟩ := RowsI.rows hRI
   rw [List.take_of_length_le (by rw [stL_len, rowsL_len]; omega)] at hRI hRL
   have hRlen : R'.length = bs.length := by rw [← rowsL_len R', hRL, stL_len, rowsL_len]; omega
   exact f_fin1 [om, ms.flatten] Try.results41 rfl (by repeat (first | exact Sub.nil | refine Sub.pick ?_ | refine Sub.castO rfl ?_ | refine Sub.skip ?_)) ⟨R', Ao, co, om, ms, by rw [hRlen], rfl, by rw [hRlen]; exact hO, by rw [hRL]; exact hRI, hRL⟩

set_option maxRecDepth 100000 in
set_option maxHeartbeats 4000000 in
theorem RStale_spec (N : Int) (A : Option Addr) (l : List Arc) (cap : Nat) (Ab : Option Addr) (bs : List Int) (cb : Nat) (Ac : Option Addr) (R : List Row) (cc : Nat) (D : Option Addr) (arcs : List Int) (cd : Nat) (w : World) (hr : Ro (Fr w []) w A (l.flatMap arcCs)) (hl : l.length ≤ 9223372036854775807) (hN : I64 N) (hok : ∀ x ∈ l, ArcOk x) (hn : NestRo (Fr w []) w Ab bs Ac R) (hD : Ro (Fr w []) w D (ints arcs)) (hm : arcs.length ≤ 9223372036854775807) :
    Meets Try.prog 18 [.agg #[.int .i64 N, .slice A l.length cap], .agg #[.slice Ab bs.length cb, .slice Ac R.length cc], .slice D arcs.length cd] w [] (fun u own' => ∃ (R' : List Row) (A' : Option Addr) (c' : Nat) (mc : Seg) (ms : List Seg), u = .tuple #[.slice A' R'.length c', .int .i64 (snE N l bs (rowsL R) arcs)] ∧ own' = [mc, ms.flatten] ∧ Own 25 1 (.slice A' R'.length c') R'.length (R'.map rowV) mc ∧ RowsI 3 (rowsL R') (R'.map rowV) ms ∧ (snE N l bs (rowsL R) arcs ≠ 0 → R' = []) ∧ (snE N l bs (rowsL R) arcs = 0 → rowsL R' = stL (rowsL R) l arcs)) := by
 refine f_enter Try.func18 rfl Try.ntmps18 rfl Owns.nil ?_
 refine f_seq fun K1 kh1 => ?_
 refine f_region ?_
 refine f_step rfl rfl rfl (o_box rfl rfl fun b3 => ?_)
 refine f_step rfl rfl rfl (o_box rfl rfl fun b4 => ?_)
 refine f_stepP rfl rfl rfl (o_assign rfl) ?_
 refine f_stepP rfl rfl rfl (o_assign rfl) ?_
 refine f_done ?_
 refine f_tn (kh1 _ _ ?_)
 clear kh1
 refine f_seq fun K2 kh2 => ?_
 refine f_seq fun K3 kh3 => ?_
 refine f_region ?_
 refine f_stepP rfl rfl rfl (o_loadA (vs := [_, _]) Try.isAgg24 Try.sizeOf24 rfl rfl ⟨(rdA rfl), (rdA rfl), trivial⟩) ?_
 refine f_stepP rfl rfl rfl (o_loadA (vs := [_, _]) Try.isAgg28 Try.sizeOf28 rfl rfl ⟨(rdA rfl), (rdA rfl), trivial⟩) ?_
 refine f_step rfl rfl rfl (o_call Try.call40 rfl (fun w_ hp_ => RNCheck_spec N A l cap Ab bs cb Ac R cc w_ (hr.up0 hp_) hl hN hok (hn.up0 hp_)) ?_)
 rintro _ _ ⟨rfl, rfl⟩
 dsimp only [List.cons_append, List.nil_append]
 refine f_stepP rfl rfl rfl (o_move rfl) ?_
 refine f_stepP rfl rfl rfl (o_extract rfl rfl) ?_
 refine f_stepP rfl rfl rfl (o_extract rfl rfl) ?_
 refine f_stepP rfl rfl rfl (o_assign rfl) ?_
 refine f_stepP rfl rfl rfl (o_assign rfl) ?_
 refine f_done ?_
 refine f_tn (kh3 _ _ ?_)
 clear kh3
 refine f_seq fun K4 kh4 => ?_
 refine f_region ?_
 refine f_stepP rfl rfl rfl (o_move rfl) ?_
 refine f_stepP rfl rfl rfl (o_neq rfl rfl) ?_
 refine f_done ?_
 refine f_tn (kh4 _ _ ?_)
 clear kh4
 refine f_cond rfl (fun c18 => ?_) (fun c18 => ?_)
 ·
  refine f_seq fun K5 kh5 => ?_
  refine f_region ?_
  refine f_stepP rfl rfl rfl (o_move rfl) ?_
  refine f_stepP rfl rfl rfl (o_assign rfl) ?_
  refine f_stepP rfl rfl rfl (o_assign rfl) ?_
  refine f_done ?_
  refine f_tn (kh5 _ _ ?_)
  clear kh5
  refine f_ret ?_
  refine f_tr ?_
  have e : snE N l bs (rowsL R) arcs = (nsE N l bs (rowsL R)).2 := by unfold snE; rw [if_pos (by simpa using c18)]
  exact f_fin2 [[], []] Try.results18 rfl rfl (Sub.transF Sub.empty Sub.addNil) ⟨[], none, 0, [], [], by rw [e]; rfl, rfl, Own.nil _ _, RowsI.start _ 0, fun _ => rfl, fun h => absurd (e.symm.trans h) (by simpa using c18)⟩
 ·
  have hz : (nsE N l bs (rowsL R)).2 = 0 := by simpa using c18
  obtain ⟨n, rfl, hNo⟩ := nsE_zero hz
  obtain ⟨hn1, hn2, hlen, hgd⟩ := gcheck_zero hNo.g
  refine f_skip ?_
  refine f_tn (kh2 _ _ ?_)
  clear kh2
  refine f_seq fun K6 kh6 => ?_
  refine f_seq fun K7 kh7 => ?_
  refine f_region ?_
  refine f_stepP rfl rfl rfl (o_move rfl) ?_
  refine f_stepP rfl rfl rfl (o_len sl25 rfl) ?_
  refine f_stepP rfl rfl rfl (o_gtr rfl rfl) ?_
  refine f_done ?_
  refine f_tn (kh7 _ _ ?_)
  clear kh7
  refine f_cond rfl (fun c22 => ?_) (fun c22 => ?_)
  ·
   refine f_seq fun K8 kh8 => ?_
   refine f_region ?_
   refine f_stepP rfl rfl rfl (o_assign rfl) ?_
   refine f_stepP rfl rfl rfl (o_assign rfl) ?_
   refine f_done ?_
   refine f_tn (kh8 _ _ ?_)
   clear kh8
   refine f_ret ?_
   refine f_tr ?_
   have e : snE (n : Int) l bs (rowsL R) arcs = 2 := by unfold snE; rw [if_neg (by rw [hz]; simp), if_pos (by omega)]
   exact f_fin2 [[], []] Try.results18 rfl rfl (Sub.transF Sub.empty Sub.addNil) ⟨[], none, 0, [], [], by rw [e]; rfl, rfl, Own.nil _ _, RowsI.start _ 0, fun _ => rfl, fun h => absurd (e.symm.trans h) (by decide)⟩
  ·
   refine f_skip ?_
   refine f_tn (kh6 _ _ ?_)
   clear kh6
   refine f_seq fun K9 kh9 => ?_
   refine f_seq fun K10 kh10 => ?_
   refine f_region ?_
   refine f_stepP rfl rfl rfl (o_assign rfl) ?_
   refine f_done ?_
   refine f_tn (kh10 _ _ ?_)
   clear kh10
   refine f_block ?_
   refine f_loop (α := Nat) [2, 3, 4] (fun j => [(10, .int .i64 (j : Int))]) (fun j => [[(b3, blk [.int .i64 (n : Int), .slice A l.length cap] 24)], [(b4, blk [.slice Ab bs.length cb, .slice Ac R.length cc] 28)]]) (fun j => j ≤ arcs.length ∧ ∀ i (h : i < arcs.length), i < j → 0 ≤ arcs[i] ∧ arcs[i] < (l.length : Int)) (fun j => arcs.length - j) (0) ?_ ?_ ?_ ?_
   · exact (by repeat (first | exact trivial | refine ⟨rfl, ?_⟩))
   · repeat (first | exact Sub.nil | refine Sub.pick ?_ | refine Sub.castO rfl ?_ | refine Sub.skip ?_)
   · exact ⟨Nat.zero_le _, fun i _ h => by omega⟩
   ·
    rintro j ⟨hjl, hall⟩
    refine f_seq fun K11 kh11 => ?_
    refine f_seq fun K12 kh12 => ?_
    refine f_region ?_
    refine f_stepP rfl rfl rfl (o_move rfl) ?_
    refine f_stepP rfl rfl rfl (o_move rfl) ?_
    refine f_stepP rfl rfl rfl (o_len sl25 rfl) ?_
    refine f_stepP rfl rfl rfl (o_lss rfl rfl) ?_
    refine f_done ?_
    refine f_tn (kh12 _ _ ?_)
    clear kh12
    refine f_cond rfl (fun c26 => ?_) (fun c26 => ?_)
    ·
     have hi : j < arcs.length := by omega
     obtain ⟨bd, od, rfl, hSd, hcd⟩ := hD (map_ne hi)
     refine f_skip ?_
     refine f_tn (kh11 _ _ ?_)
     clear kh11
     refine f_seq fun K13 kh13 => ?_
     refine f_block ?_
     refine f_seq fun K14 kh14 => ?_
     refine f_regionS rfl (by decide +kernel) ?_
     refine f_stillP rfl rfl rfl (o_move rfl) ?_
     refine f_stillP rfl rfl rfl (o_move rfl) ?_
     refine f_stillP rfl rfl rfl (o_idx sl25 rfl rfl (od + j) ⟨by omega, by omega, by first | omega | (simp; done) | (simp; omega)⟩) ?_
     refine f_stillP rfl rfl rfl (o_load Try.isAgg3 rfl (roOne (enc := (.int .i64 ·)) hSd hcd hi)) ?_
     refine f_stillP rfl rfl rfl (o_lss rfl rfl) ?_
     refine f_stillP rfl rfl rfl (o_move rfl) ?_
     refine f_splitS 34 rfl (fun g34 => ?_) (fun g34 => ?_)
     ·
      refine f_stillN rfl rfl rfl rfl rfl rfl ?_
      refine f_stillN rfl rfl rfl rfl rfl rfl ?_
      refine f_stillN rfl rfl rfl rfl rfl rfl ?_
      refine f_stillN rfl rfl rfl rfl rfl rfl ?_
      refine f_stillN rfl rfl rfl rfl rfl rfl ?_
      refine f_stillN rfl rfl rfl rfl rfl rfl ?_
      refine f_stillN rfl rfl rfl rfl rfl rfl ?_
      refine f_stillN rfl rfl rfl rfl rfl rfl ?_
      refine f_stillP rfl rfl rfl (o_pickT rfl rfl) ?_
      refine f_stillD ?_
      refine f_tn (kh14 _ _ ?_)
      clear kh14
      refine f_condT rfl ?_
      refine f_seq fun K15 kh15 => ?_
      refine f_region ?_
      refine f_stepP rfl rfl rfl (o_assign rfl) ?_
      refine f_stepP rfl rfl rfl (o_assign rfl) ?_
      refine f_done ?_
      refine f_tn (kh15 _ _ ?_)
      clear kh15
      refine f_ret ?_
      refine f_br ?_
      refine f_tr ?_
      refine f_tr ?_
      refine f_br ?_
      refine f_tr ?_
      have hao : arcs.any (offA l.length) = true := List.any_eq_true.2 ⟨_, List.getElem_mem hi, by unfold offA; simp; omega⟩
      have e : snE (n : Int) l bs (rowsL R) arcs = 5 := by unfold snE; rw [if_neg (by rw [hz]; simp), if_neg (by omega), if_pos hao]
      exact f_fin2 [[], []] Try.results18 rfl rfl (Sub.transF Sub.empty Sub.addNil) ⟨[], none, 0, [], [], by rw [e]; rfl, rfl, Own.nil _ _, RowsI.start _ 0, fun _ => rfl, fun h => absurd (e.symm.trans h) (by decide)⟩
     ·
      refine f_stillPY rfl rfl rfl rfl rfl (o_move rfl) ?_
      refine f_stillPY rfl rfl rfl rfl rfl (o_move rfl) ?_
      refine f_stillPY rfl rfl rfl rfl rfl (o_idx sl25 rfl rfl (od + j) ⟨by omega, by omega, by first | omega | (simp; done) | (simp; omega)⟩) ?_
      refine f_stillPY rfl rfl rfl rfl rfl (o_load Try.isAgg3 rfl (roOne (enc := (.int .i64 ·)) hSd hcd hi)) ?_
      refine f_stillPY rfl rfl rfl rfl rfl (o_field fa24_1 rfl) ?_
      refine f_stillPY rfl rfl rfl rfl rfl (o_load Try.isAgg22 rfl (rdA rfl)) ?_
      refine f_stillPY rfl rfl rfl rfl rfl (o_len sl22 rfl) ?_
      refine f_stillPY rfl rfl rfl rfl rfl (o_geq rfl rfl) ?_
      refine f_stillP rfl rfl rfl (o_pickF rfl rfl) ?_
      refine f_stillD ?_
      refine f_tn (kh14 _ _ ?_)
      clear kh14
      refine f_cond rfl (fun c43 => ?_) (fun c43 => ?_)
      ·
       refine f_seq fun K16 kh16 => ?_
       refine f_region ?_
       refine f_stepP rfl rfl rfl (o_assign rfl) ?_
       refine f_stepP rfl rfl rfl (o_assign rfl) ?_
       refine f_done ?_
       refine f_tn (kh16 _ _ ?_)
       clear kh16
       refine f_ret ?_
       refine f_br ?_
       refine f_tr ?_
       refine f_tr ?_
       refine f_br ?_
       refine f_tr ?_
       have hao : arcs.any (offA l.length) = true := List.any_eq_true.2 ⟨_, List.getElem_mem hi, by unfold offA; simp; omega⟩
       have e : snE (n : Int) l bs (rowsL R) arcs = 5 := by unfold snE; rw [if_neg (by rw [hz]; simp), if_neg (by omega), if_pos hao]
       exact f_fin2 [[], []] Try.results18 rfl rfl (Sub.transF Sub.empty Sub.addNil) ⟨[], none, 0, [], [], by rw [e]; rfl, rfl, Own.nil _ _, RowsI.start _ 0, fun _ => rfl, fun h => absurd (e.symm.trans h) (by decide)⟩
      ·
       refine f_skip ?_
       refine f_bn ?_
       refine f_tn (kh13 _ _ ?_)
       clear kh13
       refine f_region ?_
       refine f_stepP rfl rfl rfl (o_move rfl) ?_
       refine f_stepP rfl rfl rfl (o_add rfl rfl _ (wrap_i64 (by omega))) ?_
       refine f_stepP rfl rfl rfl (o_assign rfl) ?_
       refine f_done ?_
       refine f_tn (f_again (j + 1) (by first | omega | (dsimp only; omega) | (simp; omega)) ⟨by omega, fun i h hj => by
         by_cases e : i = j
         · subst e; omega
         · exact hall i h (by omega)⟩ ?_ ?_ ?_)
       · exact (by repeat (first | exact trivial | refine ⟨rfl, ?_⟩))
       · exact (by repeat (first | exact trivial | refine ⟨rfl, ?_⟩))
       · repeat (first | exact Sub.nil | refine Sub.pick ?_ | refine Sub.castO rfl ?_ | refine Sub.skip ?_)
    ·
     have hav : ∀ i ∈ arcs, 0 ≤ i ∧ i < (l.length : Int) := fun i hi => by
       obtain ⟨j', hj', rfl⟩ := List.mem_iff_getElem.1 hi
       exact hall j' hj' (by omega)
     have hno : ¬ arcs.any (offA l.length) = true := by
       rw [Bool.not_eq_true, List.any_eq_false]
       intro i hi
       have := hav i hi
       unfold offA; simp; omega
     have hsn : snE (n : Int) l bs (rowsL R) arcs = 0 := by unfold snE; rw [if_neg (by rw [hz]; simp), if_neg (by omega), if_neg hno]
     refine f_exit ?_
     refine f_te ?_
     clear kh11
     refine f_te ?_
     refine f_be ?_
     refine f_tn (kh9 _ _ ?_)
     clear kh9
     refine f_seq fun K17 kh17 => ?_
     refine f_region ?_
     refine f_stepP rfl rfl rfl (o_loadA (vs := [_, _]) Try.isAgg24 Try.sizeOf24 rfl rfl ⟨(rdA rfl), (rdA rfl), trivial⟩) ?_
     refine f_stepP rfl rfl rfl (o_loadA (vs := [_, _]) Try.isAgg28 Try.sizeOf28 rfl rfl ⟨(rdA rfl), (rdA rfl), trivial⟩) ?_
     refine f_stepP rfl rfl rfl (o_move rfl) ?_
     refine f_step rfl rfl rfl (o_call Try.call41 rfl (fun w_ hp_ => RTouched_spec n A l cap Ab bs cb Ac R cc D arcs cd w_ (hr.up0 hp_) (hn.up0 hp_) hNo (hD.up0 hp_) (by omega) hav) ?_)
     rintro _ _ ⟨R', A', c', mc, ms, rfl, rfl, ho', hRI', hRL'⟩
     dsimp only [List.cons_append, List.nil_append]
     refine f_stepP rfl rfl rfl (o_assign rfl) ?_
     refine f_stepP rfl rfl rfl (o_assign rfl) ?_
     refine f_done ?_
     refine f_tn (kh17 _ _ ?_)
     clear kh17
     refine f_ret ?_
     exact f_fin2 [mc, ms.flatten] Try.results18 rfl rfl (by repeat (first | exact Sub.nil | refine Sub.pick ?_ | refine Sub.castO rfl ?_ | refine Sub.skip ?_)) ⟨R', A', c', mc, ms, by rw [hsn], rfl, ho', hRI', fun h => absurd hsn h, fun _ => hRL'⟩

end Go.Proofs.Ytkmkakpadgljeaa

/- flyoverbook: what is lent, whether it is kept, what is spoiled. -/
namespace Go.Proofs.Ytkmkakpadgljeaa
open Go Go.RowKit Fly
set_option linter.unusedVariables false
set_option linter.unusedSimpArgs false


theorem rds_ro' {S : Nat → Prop} {w0 : World} {segs : List Seg} {A : Option Addr} {cs : List Value} (h : Ro S w0 A cs) : cs ≠ [] → ∃ b off, A = some ⟨b, off, none⟩ ∧ Rds S w0 segs b off cs := fun hne => by
  obtain ⟨b, off, e, hS, hc⟩ := h hne
  exact ⟨b, off, e, Seen.rds fun _ => ⟨hS, hc⟩⟩
theorem arcs_one' (l : List Arc) : (l.flatMap arcCs).all (·.oneCell') = true := by
  induction l with
  | nil => rfl
  | cons x l ih => rw [List.flatMap_cons, List.all_append, ih]; rfl
theorem ints_one' (l : List Int) : (ints l).all (·.oneCell') = true := by
  induction l with
  | nil => rfl
  | cons x l ih => rw [show ints (x :: l) = .int .i64 x :: ints l from rfl, List.all_cons, ih]; rfl
abbrev mark : Arc := ⟨-77, 0, 0⟩
def LendΦ (N : Int) (l : List Arc) (u : Value) (own : List Seg) : Prop :=
  ∃ b c rest, u = .agg #[.int .i64 N, .slice (some ⟨b, 0, none⟩) l.length c] ∧ own = [[(b, blk (l.flatMap arcCs ++ (arcCs mark ++ rest)) 39)]] ∧ l.length + 1 ≤ c ∧ c ≤ 9223372036854775807
def LendIΦ (l : List Int) (u : Value) (own : List Seg) : Prop :=
  ∃ b c rest, u = .slice (some ⟨b, 0, none⟩) l.length c ∧ own = [[(b, blk (ints l ++ ([.int .i64 (-77)] ++ rest)) 3)]] ∧ l.length + 1 ≤ c ∧ c ≤ 9223372036854775807
theorem ro_head {S : Nat → Prop} {w0 : World} {A : Option Addr} {xs ys : List Value} (h : Ro S w0 A (xs ++ ys)) : Ro S w0 A xs := fun hne => by
  obtain ⟨b, off, e, hS, hc⟩ := h (by simp [hne])
  exact ⟨b, off, e, hS, fun j v hj => hc j v (app_get hj)⟩
theorem own_full {E len cap : Nat} {A : Option Addr} {cs : List Value} {m : Seg} (h : Own E 1 (.slice A len cap) len cs m) : (if cap = 0 then A else A.map (·.add (0 * 1))) = A ∧ ∃ cs', Own E 1 (.slice A cap cap) cap cs' m := by
  obtain ⟨hl, h | ⟨b, c, sp, e, hm, h1, h2, h3⟩⟩ := h
  · obtain ⟨e, rfl, rfl⟩ := h
    cases e
    exact ⟨rfl, [], by simp, .inl ⟨rfl, rfl, rfl⟩⟩
  · cases e
    exact ⟨by split <;> simp [add_at], cs ++ sp, by simp [hl, h3]; omega, .inr ⟨b, cap, [], rfl, by simpa using hm, Nat.le_refl _, h2, by simp⟩⟩

set_option maxRecDepth 100000 in
set_option maxHeartbeats 4000000 in
theorem LendGraph_spec (N : Int) (A : Option Addr) (l : List Arc) (cap : Nat) (w : World) (hr : Ro (Fr w []) w A (l.flatMap arcCs)) (hb : l.length * 24 ≤ 140737488351232) :
    Meets Try.prog 14 [.agg #[.int .i64 N, .slice A l.length cap]] w [] (LendΦ N l) := by
 refine f_enter Try.func14 rfl Try.ntmps14 rfl Owns.nil ?_
 refine f_seq fun K1 kh1 => ?_
 refine f_region ?_
 refine f_step rfl rfl rfl (o_box rfl rfl fun b1 => ?_)
 refine f_step rfl rfl rfl (o_alloc Try.zeroValue24 rfl fun b2 => ?_)
 refine f_done ?_
 refine f_tn (kh1 _ _ ?_)
 clear kh1
 refine f_seq fun K2 kh2 => ?_
 refine f_region ?_
 refine f_step rfl rfl rfl (o_slice0 el22 fun b4 => ?_)
 refine f_stepP rfl rfl rfl (o_field fa24_1 rfl) ?_
 refine f_stepP rfl rfl rfl (o_load Try.isAgg22 rfl (rdA rfl)) ?_
 refine f_step rfl rfl rfl (o_appendQ el22 rfl rfl (Own.mk (b := b4) (cs := []) (len := 0) rfl (by omega)) (ys := l.flatMap arcCs) (rds_ro' hr) (flat_length arcCs arcCs_len l) (arcs_one' l) (by omega) (by omega) fun v7 m7 o7 => ?_)
 refine f_stepP rfl rfl rfl (o_assign rfl) ?_
 refine f_done ?_
 refine f_tn (kh2 _ _ ?_)
 clear kh2
 refine f_seq fun K3 kh3 => ?_
 refine f_region ?_
 refine f_stepP rfl rfl rfl (o_move rfl) ?_
 refine f_stepP rfl rfl rfl (o_build (cs := arcCs mark) st39 rfl rfl) ?_
 refine f_step rfl rfl rfl (o_slice1 el22 (by omega) rfl rfl rfl fun b10 => ?_)
 refine f_step rfl rfl rfl (o_append el22 rfl rfl o7 (ys := arcCs mark) ⟨(rdA rfl), (rdA rfl), (rdA rfl), trivial⟩ rfl rfl (by omega) (by omega) fun v11 m11 o11 => ?_)
 obtain ⟨A11, c11, rfl, hc11, hc12⟩ := o11.val
 obtain ⟨b, sp, rfl, rfl⟩ := o11.at_ (by omega)
 rw [Nat.zero_add] at hc11
 refine f_stepP rfl rfl rfl (o_assign rfl) ?_
 refine f_done ?_
 refine f_tn (kh3 _ _ ?_)
 clear kh3
 refine f_seq fun K4 kh4 => ?_
 refine f_regionT 8 rfl (by decide +kernel) ?_
 refine f_stillP rfl rfl rfl (o_field fa24_0 rfl) ?_
 refine f_stillP rfl rfl rfl (o_load Try.isAgg3 rfl (rdA rfl)) ?_
 refine f_stillP rfl rfl rfl (o_move rfl) ?_
 refine f_stillP rfl rfl rfl (o_field fa24_1 rfl) ?_
 refine f_stillP rfl rfl rfl (o_load Try.isAgg22 rfl (rdA rfl)) ?_
 refine f_stillP rfl rfl rfl (o_len sl22 rfl) ?_
 refine f_stillP rfl rfl rfl (o_slice sl22 rfl rfl rfl rfl (fun h => by cases h) 0 l.length _ (.inl ⟨rfl, rfl⟩) (.inr ⟨_, _, rfl, by omega⟩) (.inl ⟨rfl, rfl⟩) ⟨by omega, by omega, by omega⟩ (.slice (some ⟨b, 0, none⟩) l.length c11) (by rw [if_neg (by omega)]; simp [add_at])) ?_
 refine f_stillP rfl rfl rfl (o_build (cs := [.int .i64 N, .slice (some ⟨b, 0, none⟩) l.length c11]) st24 rfl rfl) ?_
 refine f_stillD (f_tail ?_)
 refine f_step0 rfl rfl (o_storeA Try.sizeOf24 rfl rfl rfl rfl (by first | exact Nat.le_of_ble_eq_true rfl | (simp; done) | (simp; omega)) [.int .i64 N, .slice (some ⟨b, 0, none⟩) l.length c11] rfl ?_)
 refine f_done ?_
 refine f_tn (kh4 _ _ ?_)
 clear kh4
 refine f_ret ?_
 exact f_finR1 [[(b, blk (l.flatMap arcCs ++ (arcCs mark ++ sp)) 39)]] Try.results14 (rvA (vs := [.int .i64 N, .slice (some ⟨b, 0, none⟩) l.length c11]) Try.isAgg24 Try.sizeOf24 rfl rfl ⟨(rdA rfl), (rdA rfl), trivial⟩) (by rw [List.nil_append, List.append_assoc]; repeat (first | exact Sub.nil | refine Sub.pick ?_)) ⟨b, c11, sp, rfl, rfl, hc11, hc12⟩

set_option maxRecDepth 100000 in
set_option maxHeartbeats 4000000 in
theorem LendInts_spec (A : Option Addr) (l : List Int) (cap : Nat) (w : World) (hr : Ro (Fr w []) w A (ints l)) (hb : l.length * 8 ≤ 140737488351232) :
    Meets Try.prog 16 [.slice A l.length cap] w [] (LendIΦ l) := by
 refine f_enter Try.func16 rfl Try.ntmps16 rfl Owns.nil ?_
 refine f_seq fun K1 kh1 => ?_
 refine f_region ?_
 refine f_stepP rfl rfl rfl (o_assign rfl) ?_
 refine f_done ?_
 refine f_tn (kh1 _ _ ?_)
 clear kh1
 refine f_seq fun K2 kh2 => ?_
 refine f_region ?_
 refine f_step rfl rfl rfl (o_slice0 el25 fun b4 => ?_)
 refine f_stepP rfl rfl rfl (o_move rfl) ?_
 refine f_step rfl rfl rfl (o_appendQ el25 rfl rfl (Own.mk (b := b4) (cs := []) (len := 0) rfl (by omega)) (ys := ints l) (rds_ro' hr) (by rw [ints_length, Nat.mul_one]) (ints_one' l) (by omega) (by omega) fun v6 m6 o6 => ?_)
 refine f_stepP rfl rfl rfl (o_assign rfl) ?_
 refine f_done ?_
 refine f_tn (kh2 _ _ ?_)
 clear kh2
 refine f_seq fun K3 kh3 => ?_
 refine f_region ?_
 refine f_stepP rfl rfl rfl (o_move rfl) ?_
 refine f_step rfl rfl rfl (o_slice1 el25 (by omega) rfl rfl rfl fun b8 => ?_)
 refine f_step rfl rfl rfl (o_append el25 rfl rfl o6 (ys := [.int .i64 (-77)]) ⟨(rdA rfl), trivial⟩ rfl rfl (by omega) (by omega) fun v9 m9 o9 => ?_)
 obtain ⟨A9, c9, rfl, hc9, hc12⟩ := o9.val
 obtain ⟨b, sp, rfl, rfl⟩ := o9.at_ (by omega)
 rw [Nat.zero_add] at hc9
 refine f_stepP rfl rfl rfl (o_assign rfl) ?_
 refine f_done ?_
 refine f_tn (kh3 _ _ ?_)
 clear kh3
 refine f_seq fun K4 kh4 => ?_
 refine f_region ?_
 refine f_stepP rfl rfl rfl (o_move rfl) ?_
 refine f_stepP rfl rfl rfl (o_move rfl) ?_
 refine f_stepP rfl rfl rfl (o_len sl25 rfl) ?_
 refine f_stepP rfl rfl rfl (o_slice sl25 rfl rfl rfl rfl (fun h => by cases h) 0 l.length _ (.inl ⟨rfl, rfl⟩) (.inr ⟨_, _, rfl, by omega⟩) (.inl ⟨rfl, rfl⟩) ⟨by omega, by omega, by omega⟩ (.slice (some ⟨b, 0, none⟩) l.length c9) (by rw [if_neg (by omega)]; simp [add_at])) ?_
 refine f_stepP rfl rfl rfl (o_assign rfl) ?_
 refine f_done ?_
 refine f_tn (kh4 _ _ ?_)
 clear kh4
 refine f_ret ?_
 exact f_fin1 [[(b, blk (ints l ++ ([.int .i64 (-77)] ++ sp)) 3)]] Try.results16 rfl (by rw [List.nil_append, List.append_assoc]; repeat (first | exact Sub.nil | refine Sub.pick ?_)) ⟨b, c9, sp, rfl, rfl, hc9, hc12⟩

set_option maxRecDepth 100000 in
set_option maxHeartbeats 4000000 in
theorem KeptGraph_spec (N : Int) (b c : Nat) (A : Option Addr) (l : List Arc) (cap : Nat) (rest : List Value) (w : World) (hx : Ro (Fr w []) w (some ⟨b, 0, none⟩) (l.flatMap arcCs ++ (arcCs mark ++ rest))) (hr : Ro (Fr w []) w A (l.flatMap arcCs)) (hc : l.length + 1 ≤ c) (hm : c ≤ 9223372036854775807) :
    Meets Try.prog 21 [.agg #[.int .i64 N, .slice (some ⟨b, 0, none⟩) l.length c], .agg #[.int .i64 N, .slice A l.length cap]] w [] (fun u m => u = .bool true ∧ m = []) := by
 obtain ⟨b', o', e', hSx, hcx⟩ := hx (by simp [arcCs])
 obtain ⟨rfl, rfl⟩ : b = b' ∧ 0 = o' := by cases e'; exact ⟨rfl, rfl⟩
 refine f_enter Try.func21 rfl Try.ntmps21 rfl Owns.nil ?_
 refine f_seq fun K1 kh1 => ?_
 refine f_region ?_
 refine f_step rfl rfl rfl (o_box rfl rfl fun b2 => ?_)
 refine f_step rfl rfl rfl (o_box rfl rfl fun b3 => ?_)
 refine f_stepP rfl rfl rfl (o_assign rfl) ?_
 refine f_done ?_
 refine f_tn (kh1 _ _ ?_)
 clear kh1
 refine f_seq fun K2 kh2 => ?_
 refine f_regionH [[(b2, blk [.int .i64 N, .slice (some ⟨b, 0, none⟩) l.length c] 24)], [(b3, blk [.int .i64 N, .slice A l.length cap] 24)]] rfl ?_
 refine f_take 0 rfl (by decide +kernel) rfl rfl rfl (by repeat (first | exact Sub.nil | refine Sub.pick ?_ | refine Sub.castO rfl ?_ | refine Sub.skip ?_)) (o_loadA (vs := [_, _]) Try.isAgg24 Try.sizeOf24 rfl rfl ⟨(rdA rfl), (rdA rfl), trivial⟩) ?_
 refine f_take 1 rfl (by decide +kernel) rfl rfl rfl (by repeat (first | exact Sub.nil | refine Sub.pick ?_ | refine Sub.castO rfl ?_ | refine Sub.skip ?_)) (o_loadA (vs := [_, _]) Try.isAgg24 Try.sizeOf24 rfl rfl ⟨(rdA rfl), (rdA rfl), trivial⟩) ?_
 refine f_only 2 rfl (by decide +kernel) rfl rfl rfl (o_call Try.call44 rfl (fun w_ hp_ => SameGraph_spec N N (some ⟨b, 0, none⟩) A l l c cap w_ ((ro_head hx).up0 hp_) (hr.up0 hp_) (by omega)) ?_)
 rintro _ _ ⟨rfl, rfl⟩
 rw [decide_eq_true (show N = N ∧ l = l from ⟨rfl, rfl⟩)]
 dsimp only [List.cons_append, List.nil_append]
 refine ⟨(by repeat (first | exact Sub.nil | refine Sub.pick ?_ | refine Sub.castO rfl ?_ | refine Sub.skip ?_)), ?_⟩
 refine f_take 3 rfl (by decide +kernel) rfl rfl rfl (by repeat (first | exact Sub.nil | refine Sub.pick ?_ | refine Sub.castO rfl ?_ | refine Sub.skip ?_)) (o_move rfl) ?_
 refine f_takeY 4 rfl (by decide +kernel) rfl rfl rfl rfl rfl (by repeat (first | exact Sub.nil | refine Sub.pick ?_ | refine Sub.castO rfl ?_ | refine Sub.skip ?_)) (o_field fa24_1 rfl) ?_
 refine f_takeY 5 rfl (by decide +kernel) rfl rfl rfl rfl rfl (by repeat (first | exact Sub.nil | refine Sub.pick ?_ | refine Sub.castO rfl ?_ | refine Sub.skip ?_)) (o_load Try.isAgg22 rfl (rdA rfl)) ?_
 refine f_takeY 6 rfl (by decide +kernel) rfl rfl rfl rfl rfl (by repeat (first | exact Sub.nil | refine Sub.pick ?_ | refine Sub.castO rfl ?_ | refine Sub.skip ?_)) (o_field fa24_1 rfl) ?_
 refine f_takeY 7 rfl (by decide +kernel) rfl rfl rfl rfl rfl (by repeat (first | exact Sub.nil | refine Sub.pick ?_ | refine Sub.castO rfl ?_ | refine Sub.skip ?_)) (o_load Try.isAgg22 rfl (rdA rfl)) ?_
 refine f_takeY 8 rfl (by decide +kernel) rfl rfl rfl rfl rfl (by repeat (first | exact Sub.nil | refine Sub.pick ?_ | refine Sub.castO rfl ?_ | refine Sub.skip ?_)) (o_len sl22 rfl) ?_
 refine f_takeY 9 rfl (by decide +kernel) rfl rfl rfl rfl rfl (by repeat (first | exact Sub.nil | refine Sub.pick ?_ | refine Sub.castO rfl ?_ | refine Sub.skip ?_)) (o_add rfl rfl _ (wrap_i64 (by omega))) ?_
 refine f_takeY 10 rfl (by decide +kernel) rfl rfl rfl rfl rfl (by repeat (first | exact Sub.nil | refine Sub.pick ?_ | refine Sub.castO rfl ?_ | refine Sub.skip ?_)) (o_slice sl22 rfl rfl rfl rfl (fun h => by cases h) 0 (l.length + 1) _ (.inl ⟨rfl, rfl⟩) (.inr ⟨_, _, rfl, by omega⟩) (.inl ⟨rfl, rfl⟩) ⟨by omega, by omega, by omega⟩ (.slice (some ⟨b, 0, none⟩) (l.length + 1) c) (by rw [if_neg (by omega)]; simp [add_at])) ?_
 refine f_takeY 11 rfl (by decide +kernel) rfl rfl rfl rfl rfl (by repeat (first | exact Sub.nil | refine Sub.pick ?_ | refine Sub.castO rfl ?_ | refine Sub.skip ?_)) (o_field fa24_1 rfl) ?_
 refine f_takeY 12 rfl (by decide +kernel) rfl rfl rfl rfl rfl (by repeat (first | exact Sub.nil | refine Sub.pick ?_ | refine Sub.castO rfl ?_ | refine Sub.skip ?_)) (o_load Try.isAgg22 rfl (rdA rfl)) ?_
 refine f_takeY 13 rfl (by decide +kernel) rfl rfl rfl rfl rfl (by repeat (first | exact Sub.nil | refine Sub.pick ?_ | refine Sub.castO rfl ?_ | refine Sub.skip ?_)) (o_len sl22 rfl) ?_
 refine f_takeY 14 rfl (by decide +kernel) rfl rfl rfl rfl rfl (by repeat (first | exact Sub.nil | refine Sub.pick ?_ | refine Sub.castO rfl ?_ | refine Sub.skip ?_)) (o_idx sl22 rfl rfl (l.length * 3) ⟨by omega, by omega, by first | omega | (simp; done) | (simp; omega)⟩) ?_
 refine f_takeY 15 rfl (by decide +kernel) rfl rfl rfl rfl rfl (by repeat (first | exact Sub.nil | refine Sub.pick ?_ | refine Sub.castO rfl ?_ | refine Sub.skip ?_)) (o_field fa39_0 rfl) ?_
 refine f_takeY 16 rfl (by decide +kernel) rfl rfl rfl rfl rfl (by repeat (first | exact Sub.nil | refine Sub.pick ?_ | refine Sub.castO rfl ?_ | refine Sub.skip ?_)) (o_load Try.isAgg3 rfl (rdS hSx (v := .int .i64 (-77)) (by have := hcx (l.length * 3) (.int .i64 (-77)) (by rw [List.getElem?_append_right (by rw [flat_length arcCs arcCs_len]; exact Nat.le_refl _), flat_length arcCs arcCs_len, Nat.sub_self]; rfl); simpa using this))) ?_
 refine f_takeY 17 rfl (by decide +kernel) rfl rfl rfl rfl rfl (by repeat (first | exact Sub.nil | refine Sub.pick ?_ | refine Sub.castO rfl ?_ | refine Sub.skip ?_)) (o_eql rfl rfl) ?_
 refine f_take 18 rfl (by decide +kernel) rfl rfl rfl (by repeat (first | exact Sub.nil | refine Sub.pick ?_ | refine Sub.castO rfl ?_ | refine Sub.skip ?_)) (o_pickT rfl rfl) ?_
 refine f_only 19 rfl (by decide +kernel) rfl rfl rfl ((o_assign rfl).does ⟨(by repeat (first | exact Sub.nil | refine Sub.pick ?_ | refine Sub.castO rfl ?_ | refine Sub.skip ?_)), ?_⟩)
 refine f_over (by decide +kernel) ?_
 refine f_tn (kh2 _ _ ?_)
 clear kh2
 refine f_ret ?_
 exact f_fin1 [] Try.results21 rfl Sub.nil ⟨rfl, rfl⟩

set_option maxRecDepth 100000 in
set_option maxHeartbeats 4000000 in
theorem KeptInts_spec (b c : Nat) (A : Option Addr) (l : List Int) (cap : Nat) (rest : List Value) (w : World) (hx : Ro (Fr w []) w (some ⟨b, 0, none⟩) (ints l ++ ([.int .i64 (-77)] ++ rest))) (hr : Ro (Fr w []) w A (ints l)) (hc : l.length + 1 ≤ c) (hm : c ≤ 9223372036854775807) :
    Meets Try.prog 23 [.slice (some ⟨b, 0, none⟩) l.length c, .slice A l.length cap] w [] (fun u m => u = .bool true ∧ m = []) := by
 obtain ⟨b', o', e', hSx, hcx⟩ := hx (by simp)
 obtain ⟨rfl, rfl⟩ : b = b' ∧ 0 = o' := by cases e'; exact ⟨rfl, rfl⟩
 refine f_enter Try.func23 rfl Try.ntmps23 rfl Owns.nil ?_
 refine f_seq fun K1 kh1 => ?_
 refine f_region ?_
 refine f_stepP rfl rfl rfl (o_assign rfl) ?_
 refine f_done ?_
 refine f_tn (kh1 _ _ ?_)
 clear kh1
 refine f_seq fun K2 kh2 => ?_
 refine f_region ?_
 refine f_stepP rfl rfl rfl (o_move rfl) ?_
 refine f_stepP rfl rfl rfl (o_move rfl) ?_
 refine f_step rfl rfl rfl (o_call Try.call20 rfl (fun w_ hp_ => SameInts_spec (some ⟨b, 0, none⟩) A l l c cap w_ ((ro_head hx).up0 hp_) (hr.up0 hp_) (by omega)) ?_)
 rintro _ _ ⟨rfl, rfl⟩
 rw [decide_eq_true rfl]
 dsimp only [List.cons_append, List.nil_append]
 refine f_stepP rfl rfl rfl (o_move rfl) ?_
 refine f_stepPY rfl rfl rfl rfl rfl (o_move rfl) ?_
 refine f_stepPY rfl rfl rfl rfl rfl (o_move rfl) ?_
 refine f_stepPY rfl rfl rfl rfl rfl (o_len sl25 rfl) ?_
 refine f_stepPY rfl rfl rfl rfl rfl (o_add rfl rfl _ (wrap_i64 (by omega))) ?_
 refine f_stepPY rfl rfl rfl rfl rfl (o_slice sl25 rfl rfl rfl rfl (fun h => by cases h) 0 (l.length + 1) _ (.inl ⟨rfl, rfl⟩) (.inr ⟨_, _, rfl, by omega⟩) (.inl ⟨rfl, rfl⟩) ⟨by omega, by omega, by omega⟩ (.slice (some ⟨b, 0, none⟩) (l.length + 1) c) (by rw [if_neg (by omega)]; simp [add_at])) ?_
 refine f_stepPY rfl rfl rfl rfl rfl (o_move rfl) ?_
 refine f_stepPY rfl rfl rfl rfl rfl (o_len sl25 rfl) ?_
 refine f_stepPY rfl rfl rfl rfl rfl (o_idx sl25 rfl rfl (l.length) ⟨by omega, by omega, by first | omega | (simp; done) | (simp; omega)⟩) ?_
 refine f_stepPY rfl rfl rfl rfl rfl (o_load Try.isAgg3 rfl (rdS hSx (v := .int .i64 (-77)) (by have := hcx l.length (.int .i64 (-77)) (by rw [List.getElem?_append_right (by rw [ints_length]; exact Nat.le_refl _), ints_length, Nat.sub_self]; rfl); simpa using this))) ?_
 refine f_stepPY rfl rfl rfl rfl rfl (o_eql rfl rfl) ?_
 refine f_stepP rfl rfl rfl (o_pickT rfl rfl) ?_
 refine f_stepP rfl rfl rfl (o_assign rfl) ?_
 refine f_done ?_
 refine f_tn (kh2 _ _ ?_)
 clear kh2
 refine f_ret ?_
 exact f_fin1 [] Try.results23 rfl Sub.nil ⟨rfl, rfl⟩

end Go.Proofs.Ytkmkakpadgljeaa
