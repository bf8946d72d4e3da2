import Derived.Test.YtjjogcnjcnpehaaGreatAll13
import Derived.Test.YtjjogcnjcnpehaaGreatAll3

/- package nest: many, Many, cellOf, members, Members, Children, Parent, Apart. -/
namespace Go.Proofs.YtjjogcnjcnpehaaGreat
open Go Go.RowKit Fly
set_option linter.unusedVariables false
set_option linter.unusedSimpArgs false
theorem clE_row {N : Int} {l : List Arc} {bs : List Int} {R : List Row} {q c : Int} (h : clE N l bs (bI R) q c = 0) : lkE N l bs (bI R) q = 0 := by
  unfold clE at h
  by_cases h1 : lkE N l bs (bI R) q = 0
  · exact h1
  · rw [if_pos h1] at h; exact h
theorem row_get {R : List Row} {q : Int} {r : Row} (h : R[(q - 1).toNat]? = some r) (hq : 1 ≤ q) : (bI R).getD (q.toNat - 1) [] = r.2.1 := by
  have e : (q - 1).toNat = q.toNat - 1 := by omega
  rw [e] at h
  unfold bI
  rw [List.getD_eq_getElem?_getD, List.getElem?_map, h]; rfl
/-- The members of a right level's cell: there is one. -/
theorem mem_pos {n : Nat} {L : List Int} (hR : c7 (n : Int) L = true) (hn : 1 ≤ n) {j : Nat} (hj : (j : Int) < d4 L + 1) : 0 < (dM L (j : Int) L.length).length := by
  have h := right_cntN hR hn (j := j) (by omega)
  unfold cnt at h
  obtain ⟨x, hx⟩ := List.exists_mem_of_length_pos (show 0 < (L.filter fun x => decide (x = Int.ofNat j)).length by omega)
  obtain ⟨h1, h2⟩ := List.mem_filter.1 hx
  obtain ⟨v, hv, e⟩ := List.mem_iff_getElem.1 h1
  have : (v : Int) ∈ dM L (j : Int) L.length := by
    unfold dM
    refine List.mem_map.2 ⟨v, List.mem_filter.2 ⟨by simpa using hv, ?_⟩, rfl⟩;rw [decide_eq_true_eq, List.getD_eq_getElem?_getD, List.getElem?_eq_getElem hv, Option.getD_some, e]
    simpa using h2
  exact List.length_pos_of_mem this
theorem gW {L : List Int} {c : Int} {k : Nat} {x : Int} : x ∈ dM L c k ↔ ∃ v : Nat, x = (v : Int) ∧ v < k ∧ L.getD v 0 = c := by
  unfold dM
  simp only [List.mem_map, List.mem_filter, List.mem_range, decide_eq_true_eq];constructor
  · rintro ⟨v, ⟨h1, h2⟩, rfl⟩; exact ⟨v, rfl, h1, h2⟩
  · rintro ⟨v, rfl, h1, h2⟩; exact ⟨v, ⟨h1, h2⟩, rfl⟩
theorem headD_get {L : List Int} (h : 0 < L.length) : L.headD 0 = L[0] := by
  cases L with
  | nil => simp at h
  | cons a b => rfl
/-- The cells below of some vertices. -/
def lowL (B M : List Int) : List Int := M.map fun v => B.getD v.toNat 0
def chE (N : Int) (l : List Arc) (bs : List Int) (L : List (List Int)) (q c : Int) : Int := if clE N l bs L q c ≠ 0 then clE N l bs L q c else if q = 1 then 111 else 0
def chL (L : List (List Int)) (q c : Int) : List Int := cpt (gL (lowL (L.getD (q.toNat - 2) []) (dM (L.getD (q.toNat - 1) []) c (L.getD (q.toNat - 1) []).length)))
def paE (N : Int) (l : List Arc) (bs : List Int) (L : List (List Int)) (q c : Int) : Int := if clE N l bs L q c ≠ 0 then clE N l bs L q c else if q = (bs.length : Int) then 111 else 0
def paV (L : List (List Int)) (q c : Int) : Int := (L.getD q.toNat []).getD ((dM (L.getD (q.toNat - 1) []) c (L.getD (q.toNat - 1) []).length).headD 0).toNat 0
def apE (N : Int) (l : List Arc) (bs : List Int) (L : List (List Int)) (u v : Int) : Int := if (nsE N l bs L).2 ≠ 0 then (nsE N l bs L).2 else if u < 0 ∨ N ≤ u ∨ v < 0 ∨ N ≤ v then 5 else 0
/-- The greatest of the first levels at which two vertices are gE. -/
def apV (L : List (List Int)) (u v : Nat) : Nat → Nat
  | 0 => 0
  | k + 1 => if (L.getD k []).getD u 0 ≠ (L.getD k []).getD v 0 then k + 1 else apV L u v k
theorem lowL_next {B M : List Int} {k : Nat} (h : k < M.length) : lowL B (M.take (k + 1)) = lowL B (M.take k) ++ [B.getD M[k].toNat 0] := by
  unfold lowL; rw [List.take_succ_eq_append_getElem h, List.map_append]; rfl
theorem lowL_len (B M : List Int) : (lowL B M).length = M.length := by simp [lowL]
set_option maxRecDepth 100000 in
set_option maxHeartbeats 4000000 in
theorem MaxN_spec (B : Option Addr) (L : List Int) (cb : Nat) (w : World) (hL : Ro (Fr w []) w B (a6 L)) (h0 : 0 < L.length) (hm : L.length ≤ 9223372036854775807) :
    Meets Tryz.prog 49 [.slice B L.length cb] w [] (fun u m => u = .int .i64 (d4 L) ∧ m = []) := by
 obtain ⟨bb, ob, rfl, hSb, hcb⟩ := hL (fun e => by have := aX L; rw [e] at this; simp at this; omega)
 refine bJ Tryz.func49 rfl Tryz.ntmps49 rfl Owns.nil ?_;refine aK fun K1 kh1 => ?_;refine aB ?_;refine aA rfl rfl rfl (aF rfl) ?_;refine aJ ?_;refine aL (kh1 _ _ ?_);clear kh1;refine aK fun K2 kh2 => ?_;refine aK fun K3 kh3 => ?_;refine aB ?_;refine aA rfl rfl rfl (aG rfl) ?_;refine aA rfl rfl rfl (bS sl56 rfl) ?_;refine aA rfl rfl rfl (cD rfl rfl) ?_;refine aJ ?_;refine aL (kh3 _ _ ?_);clear kh3;refine e7 rfl (by omega) ?_;refine aW ?_;refine aL (kh2 _ _ ?_);clear kh2;refine aK fun K4 kh4 => ?_;refine aB ?_;refine aA rfl rfl rfl (aG rfl) ?_;refine aA rfl rfl rfl (bA sl56 rfl rfl (ob + 0) ⟨by omega, by omega, by first | omega | (simp; done) | (simp; omega)⟩) ?_;refine aA rfl rfl rfl (aM Tryz.isAgg3 rfl (dX (enc := (.int .i64 ·)) hSb hcb h0)) ?_;refine aA rfl rfl rfl (aF rfl) ?_;refine aJ ?_;refine aL (kh4 _ _ ?_);clear kh4;refine aK fun K5 kh5 => ?_;refine aK fun K6 kh6 => ?_;refine f_reC 3 rfl (v := .int .i64 ((L.take 1).foldl max (L.headD 0))) (by rw [max_one h0]) ?_;refine aB ?_;refine aA rfl rfl rfl (aF rfl) ?_;refine aJ ?_;refine aL (kh6 _ _ ?_);clear kh6;refine aY ?_;refine jO (α := Nat) [0] (fun k => [(4, .int .i64 (k : Int)), (3, .int .i64 ((L.take k).foldl max (L.headD 0)))]) (fun k => 1 ≤ k ∧ k ≤ L.length) (fun k => L.length - k) (1) ?_ ?_ ?_
 · exact (by repeat constructor)
 · exact ⟨by omega, by omega⟩
 ·
  rintro k ⟨hk1, hkl⟩;refine aK fun K7 kh7 => ?_;refine aK fun K8 kh8 => ?_;refine aB ?_;refine aA rfl rfl rfl (aG rfl) ?_;refine aA rfl rfl rfl (aG rfl) ?_;refine aA rfl rfl rfl (bS sl56 rfl) ?_;refine aA rfl rfl rfl (cD rfl rfl) ?_;refine aJ ?_;refine aL (kh8 _ _ ?_);clear kh8;refine aZ rfl (fun c15 => ?_) (fun c15 => ?_)
  ·
   have hk : k < L.length := by omega
   refine aW ?_;refine aL (kh7 _ _ ?_);clear kh7;refine aK fun K9 kh9 => ?_;refine aY ?_;refine aB ?_;refine aA rfl rfl rfl (aG rfl) ?_;refine aA rfl rfl rfl (aG rfl) ?_;refine aA rfl rfl rfl (aG rfl) ?_;refine aA rfl rfl rfl (bA sl56 rfl rfl (ob + k) ⟨by omega, by omega, by first | omega | (simp; done) | (simp; omega)⟩) ?_;refine aA rfl rfl rfl (aM Tryz.isAgg3 rfl (dX (enc := (.int .i64 ·)) hSb hcb hk)) ?_;refine aA rfl rfl rfl (o_max rfl rfl) ?_;refine aA rfl rfl rfl (aF rfl) ?_;refine aJ ?_;refine cV ?_;refine aL (kh9 _ _ ?_);clear kh9;refine f_reC 3 rfl (v := .int .i64 ((L.take (k + 1)).foldl max (L.headD 0))) (by rw [max_next hk]) ?_;refine aB ?_;refine aA rfl rfl rfl (aG rfl) ?_;refine aA rfl rfl rfl (bG rfl rfl _ (aT (by omega))) ?_;refine aA rfl rfl rfl (aF rfl) ?_;refine aJ ?_;refine aL (bB (k + 1) (by first | omega | (dsimp only; omega) | (simp; omega)) ⟨by omega, by omega⟩ ?_ ?_ ?_)
   · exact (by repeat constructor)
   · exact (by repeat constructor)
   · repeat first|exact aI|refine aD ?_|refine aC rfl ?_|refine aH ?_
  ·
   refine cG ?_;refine cK ?_;clear kh7;refine cK ?_;refine d5 ?_;refine aL (kh5 _ _ ?_);clear kh5;refine aK fun K10 kh10 => ?_;refine aB ?_;refine aA rfl rfl rfl (aG rfl) ?_;refine aA rfl rfl rfl (aF rfl) ?_;refine aJ ?_;refine aL (kh10 _ _ ?_);clear kh10;refine a7 ?_;exact bP [] Tryz.results49 rfl aI ⟨by rw [List.take_of_length_le (by omega)]; rfl, rfl⟩
set_option maxRecDepth 100000 in
set_option maxHeartbeats 4000000 in
theorem lmany_spec (B : Option Addr) (L : List Int) (cb : Nat) (w : World) (hL : Ro (Fr w []) w B (a6 L)) (h0 : 0 < L.length) (hm : L.length ≤ 9223372036854775807) (hx : d4 L ≤ 1000000 ∧ -1000000 ≤ d4 L) :
    Meets Tryz.prog 26 [.slice B L.length cb] w [] (fun u m => u = .int .i64 (d4 L + 1) ∧ m = []) := by
 refine bJ Tryz.func26 rfl Tryz.ntmps26 rfl Owns.nil ?_;refine aK fun K1 kh1 => ?_;refine aB ?_;refine aA rfl rfl rfl (aF rfl) ?_;refine aJ ?_;refine aL (kh1 _ _ ?_);clear kh1;refine aK fun K2 kh2 => ?_;refine aB ?_;refine aA rfl rfl rfl (aG rfl) ?_;refine aR rfl rfl rfl (bD Tryz.call49 rfl (fun w_ hp_ => MaxN_spec B L cb w_ (hL.up0 hp_) h0 hm) ?_);rintro _ _ ⟨rfl, rfl⟩;dsimp only [List.cons_append, List.nil_append];refine aA rfl rfl rfl (bG rfl rfl _ (aT (by omega))) ?_;refine aA rfl rfl rfl (aF rfl) ?_;refine aJ ?_;refine aL (kh2 _ _ ?_);clear kh2;refine a7 ?_;exact bP [] Tryz.results26 rfl aI ⟨rfl, rfl⟩
set_option maxRecDepth 100000 in
set_option maxHeartbeats 4000000 in
theorem lmem_spec (B : Option Addr) (L : List Int) (cb : Nat) (c : Int) (w : World) (hL : Ro (Fr w []) w B (a6 L)) (hm : L.length ≤ 1024) :
    Meets Tryz.prog 28 [.slice B L.length cb, .int .i64 c] w [] (fun u own' => ∃ A' c' m', u = .slice A' (dM L c L.length).length c' ∧ own' = [m'] ∧ Own 3 1 (.slice A' (dM L c L.length).length c') (dM L c L.length).length (a6 (dM L c L.length)) m') := by
 refine bJ Tryz.func28 rfl Tryz.ntmps28 rfl Owns.nil ?_;refine aK fun K1 kh1 => ?_;refine aB ?_;refine aA rfl rfl rfl (aF rfl) ?_;refine aJ ?_;refine aL (kh1 _ _ ?_);clear kh1;refine aK fun K2 kh2 => ?_;refine aB ?_;refine aA rfl rfl rfl (aF rfl) ?_;refine aJ ?_;refine aL (kh2 _ _ ?_);clear kh2;refine aK fun K3 kh3 => ?_;refine aK fun K4 kh4 => ?_;refine aB ?_;refine aA rfl rfl rfl (aG rfl) ?_;refine aA rfl rfl rfl (bS sl56 rfl) ?_;refine aA rfl rfl rfl (aG rfl) ?_;refine aJ ?_;refine aL (kh4 _ _ ?_);clear kh4;refine aY ?_;refine cS (α := Nat × Value × Seg) [1, 8, 9] (fun ⟨k, ov, om⟩ => [(10, .int .i64 (k : Int)), (5, ov)]) (fun ⟨k, ov, om⟩ => [om]) (fun ⟨k, ov, om⟩ => k ≤ L.length ∧ Own 3 1 ov (dM L c k).length (a6 (dM L c k)) om) (fun ⟨k, ov, om⟩ => L.length - k) (0, .slice none 0 0, []) ?_ ?_ ?_ ?_
 · exact (by repeat constructor)
 · repeat first|exact aI|refine aD ?_|refine aC rfl ?_|refine aH ?_
 · exact ⟨Nat.zero_le _, Own.nil _ _⟩
 ·
  rintro ⟨k, ov, om⟩ ⟨hkl, hO⟩;have hml := jQ L c k
  obtain ⟨Ao, co, rfl, hco⟩ := hO.val
  refine aK fun K5 kh5 => ?_;refine aB ?_;refine aA rfl rfl rfl (cD rfl rfl) ?_;refine aJ ?_;refine aL (kh5 _ _ ?_);clear kh5;refine aK fun K6 kh6 => ?_;refine aZ rfl (fun c11 => ?_) (fun c11 => ?_)
  ·
   have hk : k < L.length := by omega
   obtain ⟨bb, ob, rfl, hSb, hcb⟩ := hL (fun e => by have := aX L; rw [e] at this; simp at this; omega)
   have hgk : L.getD k 0 = L[k] := by simp [List.getD_eq_getElem?_getD, hk]
   refine aW ?_;refine aL (kh6 _ _ ?_);clear kh6;refine aK fun K7 kh7 => ?_;refine aY ?_;refine aK fun K8 kh8 => ?_;refine aB ?_;refine aA rfl rfl rfl (aG rfl) ?_;refine aA rfl rfl rfl (bA sl56 rfl rfl (ob + k) ⟨by omega, by omega, by first | omega | (simp; done) | (simp; omega)⟩) ?_;refine aA rfl rfl rfl (aM Tryz.isAgg3 rfl (dX (enc := (.int .i64 ·)) hSb hcb hk)) ?_;refine aA rfl rfl rfl (aF rfl) ?_;refine aA rfl rfl rfl (aF rfl) ?_;refine aJ ?_;refine aL (kh8 _ _ ?_);clear kh8;refine aK fun K9 kh9 => ?_;refine aB ?_;refine aA rfl rfl rfl (aG rfl) ?_;refine aA rfl rfl rfl (aG rfl) ?_;refine aA rfl rfl rfl (fM rfl rfl) ?_;refine aJ ?_;refine aL (kh9 _ _ ?_);clear kh9;refine aZ rfl (fun c17 => ?_) (fun c17 => ?_)
   ·
    have hnx := memTo_yes (L := L) (c := c) (k := k) (by rw [hgk]; exact c17)
    refine aB ?_;refine aA rfl rfl rfl (aG rfl) ?_;refine aA rfl rfl rfl (aG rfl) ?_;refine aR rfl rfl rfl (dA dV (by omega) rfl rfl rfl fun b20 => ?_);refine aR rfl rfl rfl (dG dV rfl rfl hO (ys := [.int .i64 (k : Int)]) ⟨(rdA rfl), trivial⟩ rfl rfl (by omega) (by omega) fun v21 m21 o21 => ?_);refine aA rfl rfl rfl (aF rfl) ?_;refine aJ ?_;refine cV ?_;refine aL (kh7 _ _ ?_);clear kh7;refine aB ?_;refine aA rfl rfl rfl (bG rfl rfl _ (aT (by omega))) ?_;refine aA rfl rfl rfl (aG rfl) ?_;refine aJ ?_;refine aL (bB (k + 1, v21, m21) (by first | omega | (dsimp only; omega) | (simp; omega)) ⟨by omega, by rw [hnx, List.length_append, dZ]; exact o21⟩ ?_ ?_ ?_)
    · exact (by repeat constructor)
    · exact (by repeat constructor)
    · repeat first|exact aI|refine aD ?_|refine aC rfl ?_|refine aH ?_
   ·
    have hnx := memTo_no (L := L) (c := c) (k := k) (by rw [hgk]; exact c17)
    refine aW ?_;refine cV ?_;refine aL (kh7 _ _ ?_);clear kh7;refine aB ?_;refine aA rfl rfl rfl (bG rfl rfl _ (aT (by omega))) ?_;refine aA rfl rfl rfl (aG rfl) ?_;refine aJ ?_;refine aL (bB (k + 1, .slice Ao (dM L c k).length co, om) (by first | omega | (dsimp only; omega) | (simp; omega)) ⟨by omega, by rw [hnx]; exact hO⟩ ?_ ?_ ?_)
    · exact (by repeat constructor)
    · exact (by repeat constructor)
    · repeat first|exact aI|refine aD ?_|refine aC rfl ?_|refine aH ?_
  ·
   obtain rfl : k = L.length := by omega
   refine cG ?_;refine cK ?_;clear kh6;refine cK ?_;refine d5 ?_;refine aL (kh3 _ _ ?_);clear kh3;refine aK fun K10 kh10 => ?_;refine aB ?_;refine aA rfl rfl rfl (aG rfl) ?_;refine aA rfl rfl rfl (aF rfl) ?_;refine aJ ?_;refine aL (kh10 _ _ ?_);clear kh10;refine a7 ?_;exact bP [om] Tryz.results28 rfl (by repeat first|exact aI|refine aD ?_|refine aC rfl ?_|refine aH ?_) ⟨Ao, co, om, rfl, rfl, hO⟩
set_option maxRecDepth 100000 in
set_option maxHeartbeats 4000000 in
theorem NMany_spec (N : Int) (A : Option Addr) (l : List Arc) (cap : Nat) (Ab : Option Addr) (bs : List Int) (cb : Nat) (Ac : Option Addr) (R : List Row) (cc : Nat) (q : Int) (w : World) (hr : Ro (Fr w []) w A (l.flatMap cE)) (hl : l.length ≤ 9223372036854775807) (hN : I64 N) (hok : ∀ x ∈ l, dQ x) (hn : NestRo (Fr w []) w Ab bs Ac R) :
    Meets Tryz.prog 12 [.agg #[.int .i64 N, .slice A l.length cap], .agg #[.slice Ab bs.length cb, .slice Ac R.length cc], .int .i64 q] w [] (fun u m => u = .tuple #[.int .i64 (if lkE N l bs (bI R) q ≠ 0 then 0 else d4 ((bI R).getD (q.toNat - 1) []) + 1), .int .i64 (lkE N l bs (bI R) q)] ∧ m = []) := by
 refine bJ Tryz.func12 rfl Tryz.ntmps12 rfl Owns.nil ?_;refine aK fun K1 kh1 => ?_;refine aB ?_;refine aR rfl rfl rfl (cZ rfl rfl fun b3 => ?_);refine aR rfl rfl rfl (cZ rfl rfl fun b4 => ?_);refine aA rfl rfl rfl (aF rfl) ?_;refine aA rfl rfl rfl (aF rfl) ?_;refine aJ ?_;refine aL (kh1 _ _ ?_);clear kh1;refine aK fun K2 kh2 => ?_;refine aB ?_;refine aA rfl rfl rfl (a8 (vs := [_, _]) Tryz.isAgg24 Tryz.sizeOf24 rfl rfl ⟨(rdA rfl), (rdA rfl), trivial⟩) ?_;refine aA rfl rfl rfl (a8 (vs := [_, _]) Tryz.isAgg32 Tryz.sizeOf32 rfl rfl ⟨(rdA rfl), (rdA rfl), trivial⟩) ?_;refine aA rfl rfl rfl (aG rfl) ?_;refine aR rfl rfl rfl (bD Tryz.call25 rfl (fun w_ hp_ => nlooked_spec N A l cap Ab bs cb Ac R cc q w_ (hr.up0 hp_) hl hN hok (hn.up0 hp_)) ?_);rintro _ _ ⟨r, x, rfl, rfl, hrx⟩;dsimp only [List.cons_append, List.nil_append];refine aA rfl rfl rfl (aG rfl) ?_;refine aA rfl rfl rfl (aV rfl rfl) ?_;refine aA rfl rfl rfl (aV rfl rfl) ?_;refine aR rfl rfl rfl (cU Tryz.zeroValue58 rfl fun b8 => ?_);refine bF rfl rfl (cA Tryz.sizeOf58 rfl rfl rfl rfl (by first | exact Nat.le_of_ble_eq_true rfl | (simp; done) | (simp; omega)) [eO r, .int .i64 x] rfl ?_);refine aA rfl rfl rfl (aF rfl) ?_;refine aJ ?_;refine aL (kh2 _ _ ?_);clear kh2;refine aK fun K3 kh3 => ?_;refine aK fun K4 kh4 => ?_;refine aB ?_;refine aA rfl rfl rfl (aG rfl) ?_;refine aA rfl rfl rfl (c6 rfl rfl) ?_;refine aJ ?_;refine aL (kh4 _ _ ?_);clear kh4;refine aZ rfl (fun c18 => ?_) (fun c18 => ?_)
 · refine aK fun K5 kh5 => ?_;refine aB ?_;refine aA rfl rfl rfl (aG rfl) ?_;refine aA rfl rfl rfl (aF rfl) ?_;refine aA rfl rfl rfl (aF rfl) ?_;refine aJ ?_;refine aL (kh5 _ _ ?_);clear kh5;refine a7 ?_;refine bT ?_;exact bW [] Tryz.results12 rfl rfl (by repeat first|exact aI|refine aD ?_|refine aC rfl ?_|refine aH ?_) ⟨by rw [if_pos (by simpa using c18)], rfl⟩
 ·
  have hlz : lkE N l bs (bI R) q = 0 := by simpa using c18
  obtain ⟨hx, hrr⟩ := hrx hlz
  have hrm := List.mem_of_getElem? hrr
  have hrr2 := hn.rows r hrm
  obtain ⟨n, k, hNn, hNo, hqk, hkb⟩ := lkE_zero hlz
  have hRr := hNo.right hkb
  have hrow := row_get hrr (by omega)
  rw [show q.toNat - 1 = k by omega] at hrow;rw [hrow] at hRr;have hn1 := hNo.n1
  have hmany := hNo.many
  have hrlen := (cN hRr).2
  have hrng := dY hRr (by omega)
  refine aW ?_;refine aL (kh3 _ _ ?_);clear kh3;refine aK fun K6 kh6 => ?_;refine aB ?_;refine aA rfl rfl rfl (aQ fa58_0 rfl) ?_;refine aA rfl rfl rfl (aM Tryz.isAgg56 rfl (rdA rfl)) ?_;refine aR rfl rfl rfl (bD Tryz.call26 rfl (fun w_ hp_ => lmany_spec r.1 r.2.1 r.2.2 w_ (hrr2.1.up0 hp_) (by omega) hrr2.2 (by have := hrng _ (List.getElem_mem (show 0 < r.2.1.length by omega)); have := jL (L := r.2.1) (b := 2000) (by omega) (fun x hx => by have := hrng x hx; omega); omega)) ?_);rintro _ _ ⟨rfl, rfl⟩;dsimp only [List.cons_append, List.nil_append];refine aA rfl rfl rfl (aF rfl) ?_;refine aA rfl rfl rfl (aF rfl) ?_;refine aJ ?_;refine aL (kh6 _ _ ?_);clear kh6;refine a7 ?_;exact bW [] Tryz.results12 rfl rfl (by repeat first|exact aI|refine aD ?_|refine aC rfl ?_|refine aH ?_) ⟨by rw [if_neg (by rw [hlz]; simp), hlz, show q.toNat - 1 = k by omega, hrow], rfl⟩
set_option maxRecDepth 100000 in
set_option maxHeartbeats 4000000 in
theorem cellOf_spec (N : Int) (A : Option Addr) (l : List Arc) (cap : Nat) (Ab : Option Addr) (bs : List Int) (cb : Nat) (Ac : Option Addr) (R : List Row) (cc : Nat) (q c : Int) (w : World) (hr : Ro (Fr w []) w A (l.flatMap cE)) (hl : l.length ≤ 9223372036854775807) (hN : I64 N) (hok : ∀ x ∈ l, dQ x) (hn : NestRo (Fr w []) w Ab bs Ac R) :
    Meets Tryz.prog 27 [.agg #[.int .i64 N, .slice A l.length cap], .agg #[.slice Ab bs.length cb, .slice Ac R.length cc], .int .i64 q, .int .i64 c] w [] (fun u m => ∃ (r : Row) (x : Int), u = .tuple #[.agg #[eO r, .int .i64 x], .int .i64 (clE N l bs (bI R) q c)] ∧ m = [] ∧ (clE N l bs (bI R) q c = 0 → x = q ∧ R[(q - 1).toNat]? = some r)) := by
 refine bJ Tryz.func27 rfl Tryz.ntmps27 rfl Owns.nil ?_;refine aK fun K1 kh1 => ?_;refine aB ?_;refine aR rfl rfl rfl (cZ rfl rfl fun b4 => ?_);refine aR rfl rfl rfl (cZ rfl rfl fun b5 => ?_);refine aR rfl rfl rfl (cU Tryz.zeroValue58 rfl fun b8 => ?_);refine aA rfl rfl rfl (aF rfl) ?_;refine aJ ?_;refine aL (kh1 _ _ ?_);clear kh1;refine aK fun K2 kh2 => ?_;refine aB ?_;refine aA rfl rfl rfl (a8 (vs := [_, _]) Tryz.isAgg24 Tryz.sizeOf24 rfl rfl ⟨(rdA rfl), (rdA rfl), trivial⟩) ?_;refine aA rfl rfl rfl (a8 (vs := [_, _]) Tryz.isAgg32 Tryz.sizeOf32 rfl rfl ⟨(rdA rfl), (rdA rfl), trivial⟩) ?_;refine aA rfl rfl rfl (aG rfl) ?_;refine aR rfl rfl rfl (bD Tryz.call25 rfl (fun w_ hp_ => nlooked_spec N A l cap Ab bs cb Ac R cc q w_ (hr.up0 hp_) hl hN hok (hn.up0 hp_)) ?_);rintro _ _ ⟨r, x, rfl, rfl, hrx⟩;dsimp only [List.cons_append, List.nil_append];refine aA rfl rfl rfl (aG rfl) ?_;refine aA rfl rfl rfl (aV rfl rfl) ?_;refine aA rfl rfl rfl (aV rfl rfl) ?_;refine aR rfl rfl rfl (cU Tryz.zeroValue58 rfl fun b10 => ?_);refine bF rfl rfl (cA Tryz.sizeOf58 rfl rfl rfl rfl (by first | exact Nat.le_of_ble_eq_true rfl | (simp; done) | (simp; omega)) [eO r, .int .i64 x] rfl ?_);refine aA rfl rfl rfl (aF rfl) ?_;refine aJ ?_;refine aL (kh2 _ _ ?_);clear kh2;refine aK fun K3 kh3 => ?_;refine aK fun K4 kh4 => ?_;refine aB ?_;refine aA rfl rfl rfl (aG rfl) ?_;refine aA rfl rfl rfl (c6 rfl rfl) ?_;refine aJ ?_;refine aL (kh4 _ _ ?_);clear kh4;refine aZ rfl (fun c20 => ?_) (fun c20 => ?_)
 ·
  refine aK fun K5 kh5 => ?_;refine aB ?_;refine aA rfl rfl rfl (dB (cs := [eO (none, [], 0), .int .i64 0]) st58 rfl rfl) ?_;refine aA rfl rfl rfl (aG rfl) ?_;refine bF rfl rfl (cA Tryz.sizeOf58 rfl rfl rfl rfl (by first | exact Nat.le_of_ble_eq_true rfl | (simp; done) | (simp; omega)) [eO (none, [], 0), .int .i64 0] rfl ?_);refine aA rfl rfl rfl (aF rfl) ?_;refine aJ ?_;refine aL (kh5 _ _ ?_);clear kh5;refine a7 ?_;refine bT ?_;have e : clE N l bs (bI R) q c = lkE N l bs (bI R) q := by unfold clE; rw [if_pos (by simpa using c20)]
  exact iR (vs := [eO (none, [], 0), .int .i64 0]) [] Tryz.results27 rfl Tryz.isAgg58 Tryz.sizeOf58 rfl ⟨(rdA rfl), (rdA rfl), trivial⟩ rfl (by repeat first|exact aI|refine aD ?_|refine aC rfl ?_|refine aH ?_) ⟨(none, [], 0), 0, by rw [e], rfl, fun h => absurd (e.symm.trans h) (by simpa using c20)⟩
 ·
  have hlz : lkE N l bs (bI R) q = 0 := by simpa using c20
  obtain ⟨hx, hrr⟩ := hrx hlz
  have hrm := List.mem_of_getElem? hrr
  have hrr2 := hn.rows r hrm
  obtain ⟨n, k, hNn, hNo, hqk, hkb⟩ := lkE_zero hlz
  have hRr := hNo.right hkb
  have hrow := row_get hrr (by omega)
  rw [show q.toNat - 1 = k by omega] at hrow;rw [hrow] at hRr;have hn1 := hNo.n1
  have hmany := hNo.many
  have hrlen := (cN hRr).2
  have hrng := dY hRr (by omega)
  have hmx : d4 r.2.1 ≤ 1000000 ∧ -1000000 ≤ d4 r.2.1 := by
    have := hrng _ (List.getElem_mem (show 0 < r.2.1.length by omega))
    have := jL (L := r.2.1) (b := 2000) (by omega) (fun x hx => by have := hrng x hx; omega)
    omega
  have hce : clE N l bs (bI R) q c = if c < 0 ∨ d4 r.2.1 + 1 ≤ c then 120 else 0 := by unfold clE; rw [if_neg (by rw [hlz]; simp), show q.toNat - 1 = k by omega, hrow]
  refine aW ?_;refine aL (kh3 _ _ ?_);clear kh3;refine aK fun K6 kh6 => ?_;refine aK fun K7 kh7 => ?_;refine aB ?_;refine aA rfl rfl rfl (aG rfl) ?_;refine aA rfl rfl rfl (cD rfl rfl) ?_;refine aA rfl rfl rfl (aG rfl) ?_;refine cX 25 rfl (fun g25 => ?_) (fun g25 => ?_)
  ·
   refine aS rfl rfl rfl rfl rfl rfl ?_;refine aS rfl rfl rfl rfl rfl rfl ?_;refine aS rfl rfl rfl rfl rfl rfl ?_;refine aS rfl rfl rfl rfl rfl rfl ?_;refine aS rfl rfl rfl rfl rfl rfl ?_;refine aA rfl rfl rfl (cF rfl rfl) ?_;refine aJ ?_;refine aL (kh7 _ _ ?_);clear kh7;refine eF rfl ?_;refine aK fun K8 kh8 => ?_;refine aB ?_;refine aA rfl rfl rfl (dB (cs := [eO (none, [], 0), .int .i64 0]) st58 rfl rfl) ?_;refine bF rfl rfl (cA Tryz.sizeOf58 rfl rfl rfl rfl (by first | exact Nat.le_of_ble_eq_true rfl | (simp; done) | (simp; omega)) [eO (none, [], 0), .int .i64 0] rfl ?_);refine aA rfl rfl rfl (aF rfl) ?_;refine aJ ?_;refine aL (kh8 _ _ ?_);clear kh8;refine a7 ?_;refine bT ?_;have e := hce.trans (if_pos (by omega))
   exact iR (vs := [eO (none, [], 0), .int .i64 0]) [] Tryz.results27 rfl Tryz.isAgg58 Tryz.sizeOf58 rfl ⟨(rdA rfl), (rdA rfl), trivial⟩ rfl (by repeat first|exact aI|refine aD ?_|refine aC rfl ?_|refine aH ?_) ⟨(none, [], 0), 0, by rw [e], rfl, fun h => absurd (e.symm.trans h) (by decide)⟩
  ·
   refine aO rfl rfl rfl rfl rfl (aG rfl) ?_;refine aO rfl rfl rfl rfl rfl (aQ fa58_0 rfl) ?_;refine aO rfl rfl rfl rfl rfl (aM Tryz.isAgg56 rfl (rdA rfl)) ?_;refine lZ rfl rfl rfl rfl rfl (bD Tryz.call26 rfl (fun w_ hp_ => lmany_spec r.1 r.2.1 r.2.2 w_ (hrr2.1.up0 hp_) (by omega) hrr2.2 hmx) ?_);rintro _ _ ⟨rfl, rfl⟩;dsimp only [List.cons_append, List.nil_append];refine aO rfl rfl rfl rfl rfl (h7 rfl rfl) ?_;refine aA rfl rfl rfl (cO rfl rfl) ?_;refine aJ ?_;refine aL (kh7 _ _ ?_);clear kh7;refine aZ rfl (fun c31 => ?_) (fun c31 => ?_)
   ·
    refine aK fun K9 kh9 => ?_;refine aB ?_;refine aA rfl rfl rfl (dB (cs := [eO (none, [], 0), .int .i64 0]) st58 rfl rfl) ?_;refine bF rfl rfl (cA Tryz.sizeOf58 rfl rfl rfl rfl (by first | exact Nat.le_of_ble_eq_true rfl | (simp; done) | (simp; omega)) [eO (none, [], 0), .int .i64 0] rfl ?_);refine aA rfl rfl rfl (aF rfl) ?_;refine aJ ?_;refine aL (kh9 _ _ ?_);clear kh9;refine a7 ?_;refine bT ?_;have e := hce.trans (if_pos (by omega))
    exact iR (vs := [eO (none, [], 0), .int .i64 0]) [] Tryz.results27 rfl Tryz.isAgg58 Tryz.sizeOf58 rfl ⟨(rdA rfl), (rdA rfl), trivial⟩ rfl (by repeat first|exact aI|refine aD ?_|refine aC rfl ?_|refine aH ?_) ⟨(none, [], 0), 0, by rw [e], rfl, fun h => absurd (e.symm.trans h) (by decide)⟩
   ·
    refine aW ?_;refine aL (kh6 _ _ ?_);clear kh6;refine aK fun K10 kh10 => ?_;refine aB ?_;refine aA rfl rfl rfl (a8 (vs := [eO r, .int .i64 x]) Tryz.isAgg58 Tryz.sizeOf58 rfl rfl ⟨(rdA rfl), (rdA rfl), trivial⟩) ?_;refine bF rfl rfl (cA Tryz.sizeOf58 rfl rfl rfl rfl (by first | exact Nat.le_of_ble_eq_true rfl | (simp; done) | (simp; omega)) [eO r, .int .i64 x] rfl ?_);refine aA rfl rfl rfl (aF rfl) ?_;refine aJ ?_;refine aL (kh10 _ _ ?_);clear kh10;refine a7 ?_;have e := hce.trans (if_neg (by omega))
    exact iR (vs := [eO r, .int .i64 x]) [] Tryz.results27 rfl Tryz.isAgg58 Tryz.sizeOf58 rfl ⟨(rdA rfl), (rdA rfl), trivial⟩ rfl (by repeat first|exact aI|refine aD ?_|refine aC rfl ?_|refine aH ?_) ⟨r, x, by rw [e], rfl, fun _ => ⟨hx, hrr⟩⟩
set_option maxRecDepth 100000 in
set_option maxHeartbeats 4000000 in
theorem NMembers_spec (N : Int) (A : Option Addr) (l : List Arc) (cap : Nat) (Ab : Option Addr) (bs : List Int) (cb : Nat) (Ac : Option Addr) (R : List Row) (cc : Nat) (q c : Int) (w : World) (hr : Ro (Fr w []) w A (l.flatMap cE)) (hl : l.length ≤ 9223372036854775807) (hN : I64 N) (hok : ∀ x ∈ l, dQ x) (hn : NestRo (Fr w []) w Ab bs Ac R) :
    Meets Tryz.prog 13 [.agg #[.int .i64 N, .slice A l.length cap], .agg #[.slice Ab bs.length cb, .slice Ac R.length cc], .int .i64 q, .int .i64 c] w [] (fun u own' => ∃ (M : List Int) (A' : Option Addr) (c' : Nat) (m' : Seg), u = .tuple #[.slice A' M.length c', .int .i64 (clE N l bs (bI R) q c)] ∧ own' = [m'] ∧ Own 3 1 (.slice A' M.length c') M.length (a6 M) m' ∧ (clE N l bs (bI R) q c ≠ 0 → M = []) ∧ (clE N l bs (bI R) q c = 0 → M = dM ((bI R).getD (q.toNat - 1) []) c ((bI R).getD (q.toNat - 1) []).length)) := by
 refine bJ Tryz.func13 rfl Tryz.ntmps13 rfl Owns.nil ?_;refine aK fun K1 kh1 => ?_;refine aB ?_;refine aR rfl rfl rfl (cZ rfl rfl fun b4 => ?_);refine aR rfl rfl rfl (cZ rfl rfl fun b5 => ?_);refine aA rfl rfl rfl (aF rfl) ?_;refine aA rfl rfl rfl (aF rfl) ?_;refine aJ ?_;refine aL (kh1 _ _ ?_);clear kh1;refine aK fun K2 kh2 => ?_;refine aB ?_;refine aA rfl rfl rfl (a8 (vs := [_, _]) Tryz.isAgg24 Tryz.sizeOf24 rfl rfl ⟨(rdA rfl), (rdA rfl), trivial⟩) ?_;refine aA rfl rfl rfl (a8 (vs := [_, _]) Tryz.isAgg32 Tryz.sizeOf32 rfl rfl ⟨(rdA rfl), (rdA rfl), trivial⟩) ?_;refine aA rfl rfl rfl (aG rfl) ?_;refine aA rfl rfl rfl (aG rfl) ?_;refine aR rfl rfl rfl (bD Tryz.call27 rfl (fun w_ hp_ => cellOf_spec N A l cap Ab bs cb Ac R cc q c w_ (hr.up0 hp_) hl hN hok (hn.up0 hp_)) ?_);rintro _ _ ⟨r, x, rfl, rfl, hrx⟩;dsimp only [List.cons_append, List.nil_append];refine aA rfl rfl rfl (aG rfl) ?_;refine aA rfl rfl rfl (aV rfl rfl) ?_;refine aA rfl rfl rfl (aV rfl rfl) ?_;refine aR rfl rfl rfl (cU Tryz.zeroValue58 rfl fun b10 => ?_);refine bF rfl rfl (cA Tryz.sizeOf58 rfl rfl rfl rfl (by first | exact Nat.le_of_ble_eq_true rfl | (simp; done) | (simp; omega)) [eO r, .int .i64 x] rfl ?_);refine aA rfl rfl rfl (aF rfl) ?_;refine aJ ?_;refine aL (kh2 _ _ ?_);clear kh2;refine aK fun K3 kh3 => ?_;refine aK fun K4 kh4 => ?_;refine aB ?_;refine aA rfl rfl rfl (aG rfl) ?_;refine aA rfl rfl rfl (c6 rfl rfl) ?_;refine aJ ?_;refine aL (kh4 _ _ ?_);clear kh4;refine aZ rfl (fun c21 => ?_) (fun c21 => ?_)
 · refine aK fun K5 kh5 => ?_;refine aB ?_;refine aA rfl rfl rfl (aG rfl) ?_;refine aA rfl rfl rfl (aF rfl) ?_;refine aA rfl rfl rfl (aF rfl) ?_;refine aJ ?_;refine aL (kh5 _ _ ?_);clear kh5;refine a7 ?_;refine bT ?_;exact bW [[]] Tryz.results13 rfl rfl (show Fly.Sub _ [[]] from (by repeat first|exact aI|refine aD ?_|refine aC rfl ?_|refine aH ?_)) ⟨[], none, 0, [], rfl, rfl, Own.nil _ _, fun _ => rfl, fun h => absurd h (by simpa using c21)⟩
 ·
  have hcz : clE N l bs (bI R) q c = 0 := by simpa using c21
  obtain ⟨hx, hrr⟩ := hrx hcz
  have hlz := clE_row hcz
  have hrm := List.mem_of_getElem? hrr
  have hrr2 := hn.rows r hrm
  obtain ⟨n, k, j, hNn, hNo, hqk, hkb, hcj, hjm⟩ := clE_zero hcz
  have hRr := hNo.right hkb
  have hrow := row_get hrr (by omega)
  rw [show q.toNat - 1 = k by omega] at hrow;rw [hrow] at hRr hjm;have hn1 := hNo.n1
  have hmany := hNo.many
  have hrlen := (cN hRr).2
  have hRl := hNo.len
  rw [gF] at hRl;have hmpos := mem_pos hRr (by omega) hjm
  rw [← hcj] at hmpos;refine aW ?_;refine aL (kh3 _ _ ?_);clear kh3;refine aK fun K6 kh6 => ?_;refine aB ?_;refine aA rfl rfl rfl (aQ fa58_0 rfl) ?_;refine aA rfl rfl rfl (aM Tryz.isAgg56 rfl (rdA rfl)) ?_;refine aA rfl rfl rfl (aG rfl) ?_;refine aR rfl rfl rfl (bD Tryz.call28 rfl (fun w_ hp_ => lmem_spec r.1 r.2.1 r.2.2 c w_ (hrr2.1.up0 hp_) (by omega)) ?_);rintro _ _ ⟨Am, cm, mm, rfl, rfl, hOm⟩;have hml := jQ r.2.1 c r.2.1.length
  dsimp only [List.cons_append, List.nil_append];refine aA rfl rfl rfl (aF rfl) ?_;refine aA rfl rfl rfl (aF rfl) ?_;refine aJ ?_;refine aL (kh6 _ _ ?_);clear kh6;refine a7 ?_;exact bW [mm] Tryz.results13 rfl rfl (by repeat first|exact aI|refine aD ?_|refine aC rfl ?_|refine aH ?_) ⟨_, Am, cm, mm, by rw [hcz], rfl, hOm, fun h => absurd hcz h, fun _ => by rw [show q.toNat - 1 = k by omega, hrow]⟩
set_option maxRecDepth 100000 in
set_option maxHeartbeats 4000000 in
theorem NChildren_spec (N : Int) (A : Option Addr) (l : List Arc) (cap : Nat) (Ab : Option Addr) (bs : List Int) (cb : Nat) (Ac : Option Addr) (R : List Row) (cc : Nat) (q c : Int) (w : World) (hr : Ro (Fr w []) w A (l.flatMap cE)) (hl : l.length ≤ 9223372036854775807) (hN : I64 N) (hok : ∀ x ∈ l, dQ x) (hn : NestRo (Fr w []) w Ab bs Ac R) :
    Meets Tryz.prog 14 [.agg #[.int .i64 N, .slice A l.length cap], .agg #[.slice Ab bs.length cb, .slice Ac R.length cc], .int .i64 q, .int .i64 c] w [] (fun u own' => ∃ (M : List Int) (A' : Option Addr) (c2 : Nat) (m' : Seg), u = .tuple #[.slice A' M.length M.length, .int .i64 (chE N l bs (bI R) q c)] ∧ own' = [m'] ∧ Own 3 1 (.slice A' M.length c2) M.length (a6 M) m' ∧ (chE N l bs (bI R) q c ≠ 0 → M = []) ∧ (chE N l bs (bI R) q c = 0 → M = chL (bI R) q c)) := by
 refine bJ Tryz.func14 rfl Tryz.ntmps14 rfl Owns.nil ?_;refine aK fun K1 kh1 => ?_;refine aB ?_;refine aR rfl rfl rfl (cZ rfl rfl fun b4 => ?_);refine aR rfl rfl rfl (cZ rfl rfl fun b5 => ?_);refine aA rfl rfl rfl (aF rfl) ?_;refine aA rfl rfl rfl (aF rfl) ?_;refine aJ ?_;refine aL (kh1 _ _ ?_);clear kh1;refine aK fun K2 kh2 => ?_;refine aB ?_;refine aA rfl rfl rfl (a8 (vs := [_, _]) Tryz.isAgg24 Tryz.sizeOf24 rfl rfl ⟨(rdA rfl), (rdA rfl), trivial⟩) ?_;refine aA rfl rfl rfl (a8 (vs := [_, _]) Tryz.isAgg32 Tryz.sizeOf32 rfl rfl ⟨(rdA rfl), (rdA rfl), trivial⟩) ?_;refine aA rfl rfl rfl (aG rfl) ?_;refine aA rfl rfl rfl (aG rfl) ?_;refine aR rfl rfl rfl (bD Tryz.call27 rfl (fun w_ hp_ => cellOf_spec N A l cap Ab bs cb Ac R cc q c w_ (hr.up0 hp_) hl hN hok (hn.up0 hp_)) ?_);rintro _ _ ⟨r, x, rfl, rfl, hrx⟩;dsimp only [List.cons_append, List.nil_append];refine aA rfl rfl rfl (aG rfl) ?_;refine aA rfl rfl rfl (aV rfl rfl) ?_;refine aA rfl rfl rfl (aV rfl rfl) ?_;refine aR rfl rfl rfl (cU Tryz.zeroValue58 rfl fun b10 => ?_);refine bF rfl rfl (cA Tryz.sizeOf58 rfl rfl rfl rfl (by first | exact Nat.le_of_ble_eq_true rfl | (simp; done) | (simp; omega)) [eO r, .int .i64 x] rfl ?_);refine aA rfl rfl rfl (aF rfl) ?_;refine aJ ?_;refine aL (kh2 _ _ ?_);clear kh2;refine aK fun K3 kh3 => ?_;refine aK fun K4 kh4 => ?_;refine aB ?_;refine aA rfl rfl rfl (aG rfl) ?_;refine aA rfl rfl rfl (c6 rfl rfl) ?_;refine aJ ?_;refine aL (kh4 _ _ ?_);clear kh4;refine aZ rfl (fun c25 => ?_) (fun c25 => ?_)
 ·
  refine aK fun K5 kh5 => ?_;refine aB ?_;refine aA rfl rfl rfl (aG rfl) ?_;refine aA rfl rfl rfl (aF rfl) ?_;refine aA rfl rfl rfl (aF rfl) ?_;refine aJ ?_;refine aL (kh5 _ _ ?_);clear kh5;refine a7 ?_;refine bT ?_;have e : chE N l bs (bI R) q c = clE N l bs (bI R) q c := by unfold chE; rw [if_pos (by simpa using c25)]
  exact bW [[]] Tryz.results14 rfl rfl (show Fly.Sub _ [[]] from (by repeat first|exact aI|refine aD ?_|refine aC rfl ?_|refine aH ?_)) ⟨[], none, 0, [], by rw [e]; rfl, rfl, Own.nil _ _, fun _ => rfl, fun h => absurd (e.symm.trans h) (by simpa using c25)⟩
 ·
  have hcz : clE N l bs (bI R) q c = 0 := by simpa using c25
  obtain ⟨hx, hrr⟩ := hrx hcz
  have hlz := clE_row hcz
  have hrm := List.mem_of_getElem? hrr
  have hrr2 := hn.rows r hrm
  obtain ⟨n, k, j, hNn, hNo, hqk, hkb, hcj, hjm⟩ := clE_zero hcz
  have hRr := hNo.right hkb
  have hrow := row_get hrr (by omega)
  rw [show q.toNat - 1 = k by omega] at hrow;rw [hrow] at hRr hjm;have hn1 := hNo.n1
  have hmany := hNo.many
  have hrlen := (cN hRr).2
  have hRl := hNo.len
  rw [gF] at hRl;have hmpos := mem_pos hRr (by omega) hjm
  rw [← hcj] at hmpos;refine aW ?_;refine aL (kh3 _ _ ?_);clear kh3;refine aK fun K6 kh6 => ?_;refine aK fun K7 kh7 => ?_;refine aB ?_;refine aA rfl rfl rfl (aQ fa58_1 rfl) ?_;refine aA rfl rfl rfl (aM Tryz.isAgg3 rfl (rdA rfl)) ?_;refine aA rfl rfl rfl (fM rfl rfl) ?_;refine aJ ?_;refine aL (kh7 _ _ ?_);clear kh7;refine aZ rfl (fun c29 => ?_) (fun c29 => ?_)
  ·
   refine aK fun K8 kh8 => ?_;refine aB ?_;refine aA rfl rfl rfl (aF rfl) ?_;refine aA rfl rfl rfl (aF rfl) ?_;refine aJ ?_;refine aL (kh8 _ _ ?_);clear kh8;refine a7 ?_;refine bT ?_;have e : chE N l bs (bI R) q c = 111 := by unfold chE; rw [if_neg (by rw [hcz]; simp), if_pos (by omega)]
   exact bW [[]] Tryz.results14 rfl rfl (show Fly.Sub _ [[]] from (by repeat first|exact aI|refine aD ?_|refine aC rfl ?_|refine aH ?_)) ⟨[], none, 0, [], by rw [e]; rfl, rfl, Own.nil _ _, fun _ => rfl, fun h => absurd (e.symm.trans h) (by decide)⟩
  ·
   have hk0 : 1 ≤ k := by omega
   have hk1 : k - 1 < R.length := by omega
   have hlow := hn.rows _ (List.getElem_mem hk1)
   have hRlow := hNo.right (k := k - 1) (by omega)
   rw [gM hk1] at hRlow;have hlowl := (cN hRlow).2
   refine aW ?_;refine aL (kh6 _ _ ?_);clear kh6;refine aK fun K9 kh9 => ?_;refine aB ?_;refine aA rfl rfl rfl (a8 (vs := [_, _]) Tryz.isAgg32 Tryz.sizeOf32 rfl rfl ⟨(rdA rfl), (rdA rfl), trivial⟩) ?_;refine aA rfl rfl rfl (aG rfl) ?_;refine aA rfl rfl rfl (fV rfl rfl _ (aT (by omega))) ?_;refine aR rfl rfl rfl (bD Tryz.call29 rfl (fun w_ hp_ => (by have h := at_spec Ab bs cb Ac R cc (k - 1) w_ (hn.up0 hp_) hk1; rw [show ((((k - 1 : Nat) : Int)) + 1) = q - 1 by omega] at h; exact h)) ?_);rintro _ _ ⟨rfl, rfl⟩;dsimp only [List.cons_append, List.nil_append];refine aR rfl rfl rfl (cU Tryz.zeroValue58 rfl fun b12 => ?_);refine bF rfl rfl (cA Tryz.sizeOf58 rfl rfl rfl rfl (by first | exact Nat.le_of_ble_eq_true rfl | (simp; done) | (simp; omega)) [eO (R[k - 1]'hk1), .int .i64 (q - 1)] rfl ?_);refine aJ ?_;refine aL (kh9 _ _ ?_);clear kh9;refine aK fun K10 kh10 => ?_;refine aB ?_;refine aA rfl rfl rfl (aF rfl) ?_;refine aJ ?_;refine aL (kh10 _ _ ?_);clear kh10;refine aK fun K11 kh11 => ?_;refine aK fun K12 kh12 => ?_;refine aB ?_;refine aA rfl rfl rfl (aQ fa58_0 rfl) ?_;refine aA rfl rfl rfl (aM Tryz.isAgg56 rfl (rdA rfl)) ?_;refine aA rfl rfl rfl (aG rfl) ?_;refine aR rfl rfl rfl (bD Tryz.call28 rfl (fun w_ hp_ => lmem_spec r.1 r.2.1 r.2.2 c w_ (hrr2.1.up0 hp_) (by omega)) ?_);rintro _ _ ⟨Am, cm, mm, rfl, rfl, hOm⟩;have hml := jQ r.2.1 c r.2.1.length
   dsimp only [List.cons_append, List.nil_append];refine aA rfl rfl rfl (bS bK rfl) ?_;refine aA rfl rfl rfl (aG rfl) ?_;refine aJ ?_;refine aL (kh12 _ _ ?_);clear kh12;refine aY ?_;refine cS (α := Nat × Value × Seg) [12, 37, 38] (fun ⟨i, ov, om⟩ => [(39, .int .i64 (i : Int)), (13, ov)]) (fun ⟨i, ov, om⟩ => [om, mm, [(b12, blk [eO (R[k - 1]'hk1), .int .i64 (q - 1)] 58)]]) (fun ⟨i, ov, om⟩ => i ≤ (dM r.2.1 c r.2.1.length).length ∧ Own 3 1 ov (lowL (R[k - 1]'hk1).2.1 ((dM r.2.1 c r.2.1.length).take i)).length (a6 (lowL (R[k - 1]'hk1).2.1 ((dM r.2.1 c r.2.1.length).take i))) om) (fun ⟨i, ov, om⟩ => (dM r.2.1 c r.2.1.length).length - i) (0, .slice none 0 0, []) ?_ ?_ ?_ ?_
   · exact (by repeat constructor)
   · repeat first|exact aI|refine aD ?_|refine aC rfl ?_|refine aH ?_
   · exact ⟨Nat.zero_le _, Own.nil _ _⟩
   ·
    rintro ⟨i, ov, om⟩ ⟨hil, hO⟩;have hll := lowL_len (R[k - 1]'hk1).2.1 ((dM r.2.1 c r.2.1.length).take i)
    rw [List.length_take] at hll;obtain ⟨Ao, co, rfl, hco⟩ := hO.val
    refine aK fun K13 kh13 => ?_;refine aB ?_;refine aA rfl rfl rfl (cD rfl rfl) ?_;refine aJ ?_;refine aL (kh13 _ _ ?_);clear kh13;refine aK fun K14 kh14 => ?_;refine aZ rfl (fun c40 => ?_) (fun c40 => ?_)
    ·
     have hi : i < (dM r.2.1 c r.2.1.length).length := by omega
     obtain ⟨bM, spM, rfl, rfl⟩ := hOm.at_ (by omega)
     obtain ⟨v, hv, hvl, hvc⟩ := gW.1 (List.getElem_mem hi)
     obtain ⟨bl, ol, hAl, hSl, hcl⟩ := hlow.1 (fun e => by have := aX (R[k - 1]'hk1).2.1; rw [e] at this; simp at this; omega)
     have hvl2 : v < (R[k - 1]'hk1).2.1.length := by omega
     have hlx := lowL_next (B := (R[k - 1]'hk1).2.1) hi
     have hgv : (R[k - 1]'hk1).2.1.getD (dM r.2.1 c r.2.1.length)[i].toNat 0 = (R[k - 1]'hk1).2.1[v] := by rw [hv, Int.toNat_natCast]; simp [List.getD_eq_getElem?_getD, hvl2]
     refine aW ?_;refine aL (kh14 _ _ ?_);clear kh14;refine aK fun K15 kh15 => ?_;refine aY ?_;refine aK fun K16 kh16 => ?_;refine aB ?_;refine aA rfl rfl rfl (bA bK rfl rfl (i) ⟨by omega, by omega, by first | omega | (simp; done) | (simp; omega)⟩) ?_;refine aA rfl rfl rfl (aM Tryz.isAgg3 rfl (rdA (v := .int .i64 (v : Int)) (dN (by rw [dL hi, hv])))) ?_;refine aA rfl rfl rfl (aF rfl) ?_;refine aJ ?_;refine aL (kh16 _ _ ?_);clear kh16;refine aB ?_;refine aA rfl rfl rfl (aG rfl) ?_;refine aA rfl rfl rfl (aQ fa58_0 rfl) ?_;refine aA rfl rfl rfl (aM Tryz.isAgg56 rfl (v := .slice (some ⟨bl, ol, none⟩) (R[k - 1]'hk1).2.1.length (R[k - 1]'hk1).2.2) (rdA (by rw [← hAl]; rfl))) ?_;refine aA rfl rfl rfl (aG rfl) ?_;refine aA rfl rfl rfl (bA sl56 rfl rfl (ol + v) ⟨by omega, by omega, by first | omega | (simp; done) | (simp; omega)⟩) ?_;refine aA rfl rfl rfl (aM Tryz.isAgg3 rfl (dX (enc := (.int .i64 ·)) hSl hcl hvl2)) ?_;refine aR rfl rfl rfl (dA dV (by omega) rfl rfl rfl fun b49 => ?_);refine aR rfl rfl rfl (dG dV rfl rfl hO (ys := [.int .i64 (R[k - 1]'hk1).2.1[v]]) ⟨(rdA rfl), trivial⟩ rfl rfl (by omega) (by omega) fun v50 m50 o50 => ?_);refine aA rfl rfl rfl (aF rfl) ?_;refine aJ ?_;refine cV ?_;refine aL (kh15 _ _ ?_);clear kh15;refine aB ?_;refine aA rfl rfl rfl (bG rfl rfl _ (aT (by omega))) ?_;refine aA rfl rfl rfl (aG rfl) ?_;refine aJ ?_;refine aL (bB (i + 1, v50, m50) (by first | omega | (dsimp only; omega) | (simp; omega)) ⟨by omega, by rw [hlx, hgv, List.length_append, dZ]; exact o50⟩ ?_ ?_ ?_)
     · exact (by repeat constructor)
     · exact (by repeat constructor)
     · repeat first|exact aI|refine aD ?_|refine aC rfl ?_|refine aH ?_
    ·
     obtain rfl : i = (dM r.2.1 c r.2.1.length).length := by omega
     rw [List.take_length] at hO;obtain ⟨LO, hLO⟩ : ∃ LO, lowL (R[k - 1]'hk1).2.1 (dM r.2.1 c r.2.1.length) = LO := ⟨_, rfl⟩
     have hLOl : LO.length = (dM r.2.1 c r.2.1.length).length := by rw [← hLO, lowL_len]
     rw [hLO] at hO;refine f_reC 13 rfl (v := .slice Ao LO.length co) (by rw [List.take_length, hLO]) ?_;refine cG ?_;refine cK ?_;clear kh14;refine cK ?_;refine d5 ?_;refine aL (kh11 _ _ ?_);clear kh11;refine aK fun K17 kh17 => ?_;refine aB ?_;refine aA rfl rfl rfl (aG rfl) ?_;refine aR rfl rfl rfl (fH [om] _ Tryz.call30 rfl (by repeat (first | exact Sub.refl | refine aD ?_)) (fun w_ hp_ => kP Ao co LO om w_ hO (by omega) hp_.owns) ?_);rintro _ _ ⟨rfl, m2, rfl, ho2⟩;dsimp only [List.cons_append, List.nil_append];refine aJ ?_;refine aL (kh17 _ _ ?_);clear kh17;refine aK fun K18 kh18 => ?_;refine aB ?_;refine aA rfl rfl rfl (aG rfl) ?_;refine aR rfl rfl rfl (fH [m2] _ Tryz.call32 rfl (by repeat (first | exact Sub.refl | refine aD ?_)) (fun w_ hp_ => (by have h := mB Ao co (gL LO) m2 w_ (by rw [eZ]; exact ho2) (by rw [eZ]; omega) hp_.owns; rw [eZ] at h; exact h)) ?_);rintro v55 _ ⟨m3, rfl, ho3⟩;obtain ⟨A3, c3, rfl, hc3⟩ := ho3.val
     dsimp only [List.cons_append, List.nil_append];refine aR rfl rfl rfl (bD Tryz.call31 rfl (fun w_ hp_ => Clip_spec A3 (cpt (gL LO)).length c3 w_ hc3.1 hc3.2 (j0 ho3)) ?_);rintro _ _ ⟨rfl, rfl⟩;dsimp only [List.cons_append, List.nil_append];refine aA rfl rfl rfl (aF rfl) ?_;refine aA rfl rfl rfl (aF rfl) ?_;refine aJ ?_;refine aL (kh18 _ _ ?_);clear kh18;refine a7 ?_;have e : chE N l bs (bI R) q c = 0 := by unfold chE; rw [if_neg (by rw [hcz]; simp), if_neg (by omega)]
     exact bW [m3] Tryz.results14 rfl rfl (by repeat first|exact aI|refine aD ?_|refine aC rfl ?_|refine aH ?_) ⟨_, A3, c3, m3, by rw [e], rfl, ho3, fun h => absurd e h, fun _ => by unfold chL; rw [show q.toNat - 1 = k by omega, show q.toNat - 2 = k - 1 by omega, hrow, gM hk1, hLO]⟩
set_option maxRecDepth 100000 in
set_option maxHeartbeats 4000000 in
theorem NParent_spec (N : Int) (A : Option Addr) (l : List Arc) (cap : Nat) (Ab : Option Addr) (bs : List Int) (cb : Nat) (Ac : Option Addr) (R : List Row) (cc : Nat) (q c : Int) (w : World) (hr : Ro (Fr w []) w A (l.flatMap cE)) (hl : l.length ≤ 9223372036854775807) (hN : I64 N) (hok : ∀ x ∈ l, dQ x) (hn : NestRo (Fr w []) w Ab bs Ac R) :
    Meets Tryz.prog 15 [.agg #[.int .i64 N, .slice A l.length cap], .agg #[.slice Ab bs.length cb, .slice Ac R.length cc], .int .i64 q, .int .i64 c] w [] (fun u m => u = .tuple #[.int .i64 (if paE N l bs (bI R) q c ≠ 0 then 0 else paV (bI R) q c), .int .i64 (paE N l bs (bI R) q c)] ∧ m = []) := by
 refine bJ Tryz.func15 rfl Tryz.ntmps15 rfl Owns.nil ?_;refine aK fun K1 kh1 => ?_;refine aB ?_;refine aR rfl rfl rfl (cZ rfl rfl fun b4 => ?_);refine aR rfl rfl rfl (cZ rfl rfl fun b5 => ?_);refine aA rfl rfl rfl (aF rfl) ?_;refine aA rfl rfl rfl (aF rfl) ?_;refine aJ ?_;refine aL (kh1 _ _ ?_);clear kh1;refine aK fun K2 kh2 => ?_;refine aB ?_;refine aA rfl rfl rfl (a8 (vs := [_, _]) Tryz.isAgg24 Tryz.sizeOf24 rfl rfl ⟨(rdA rfl), (rdA rfl), trivial⟩) ?_;refine aA rfl rfl rfl (a8 (vs := [_, _]) Tryz.isAgg32 Tryz.sizeOf32 rfl rfl ⟨(rdA rfl), (rdA rfl), trivial⟩) ?_;refine aA rfl rfl rfl (aG rfl) ?_;refine aA rfl rfl rfl (aG rfl) ?_;refine aR rfl rfl rfl (bD Tryz.call27 rfl (fun w_ hp_ => cellOf_spec N A l cap Ab bs cb Ac R cc q c w_ (hr.up0 hp_) hl hN hok (hn.up0 hp_)) ?_);rintro _ _ ⟨r, x, rfl, rfl, hrx⟩;dsimp only [List.cons_append, List.nil_append];refine aA rfl rfl rfl (aG rfl) ?_;refine aA rfl rfl rfl (aV rfl rfl) ?_;refine aA rfl rfl rfl (aV rfl rfl) ?_;refine aR rfl rfl rfl (cU Tryz.zeroValue58 rfl fun b10 => ?_);refine bF rfl rfl (cA Tryz.sizeOf58 rfl rfl rfl rfl (by first | exact Nat.le_of_ble_eq_true rfl | (simp; done) | (simp; omega)) [eO r, .int .i64 x] rfl ?_);refine aA rfl rfl rfl (aF rfl) ?_;refine aJ ?_;refine aL (kh2 _ _ ?_);clear kh2;refine aK fun K3 kh3 => ?_;refine aK fun K4 kh4 => ?_;refine aB ?_;refine aA rfl rfl rfl (aG rfl) ?_;refine aA rfl rfl rfl (c6 rfl rfl) ?_;refine aJ ?_;refine aL (kh4 _ _ ?_);clear kh4;refine aZ rfl (fun c21 => ?_) (fun c21 => ?_)
 ·
  refine aK fun K5 kh5 => ?_;refine aB ?_;refine aA rfl rfl rfl (aG rfl) ?_;refine aA rfl rfl rfl (aF rfl) ?_;refine aA rfl rfl rfl (aF rfl) ?_;refine aJ ?_;refine aL (kh5 _ _ ?_);clear kh5;refine a7 ?_;refine bT ?_;have e : paE N l bs (bI R) q c = clE N l bs (bI R) q c := by unfold paE; rw [if_pos (by simpa using c21)]
  exact bW [] Tryz.results15 rfl rfl aI ⟨by rw [if_pos (by rw [e]; simpa using c21), e], rfl⟩
 ·
  have hcz : clE N l bs (bI R) q c = 0 := by simpa using c21
  obtain ⟨hx, hrr⟩ := hrx hcz
  have hlz := clE_row hcz
  have hrm := List.mem_of_getElem? hrr
  have hrr2 := hn.rows r hrm
  obtain ⟨n, k, j, hNn, hNo, hqk, hkb, hcj, hjm⟩ := clE_zero hcz
  have hRr := hNo.right hkb
  have hrow := row_get hrr (by omega)
  rw [show q.toNat - 1 = k by omega] at hrow;rw [hrow] at hRr hjm;have hn1 := hNo.n1
  have hmany := hNo.many
  have hrlen := (cN hRr).2
  have hRl := hNo.len
  rw [gF] at hRl;have hmpos := mem_pos hRr (by omega) hjm
  rw [← hcj] at hmpos;refine aW ?_;refine aL (kh3 _ _ ?_);clear kh3;refine aK fun K6 kh6 => ?_;refine aK fun K7 kh7 => ?_;refine aB ?_;refine aA rfl rfl rfl (aQ fa58_1 rfl) ?_;refine aA rfl rfl rfl (aM Tryz.isAgg3 rfl (rdA rfl)) ?_;refine aA rfl rfl rfl (aQ fa32_0 rfl) ?_;refine aA rfl rfl rfl (aM Tryz.isAgg25 rfl (rdA rfl)) ?_;refine aA rfl rfl rfl (bS bK rfl) ?_;refine aA rfl rfl rfl (fM rfl rfl) ?_;refine aJ ?_;refine aL (kh7 _ _ ?_);clear kh7;refine aZ rfl (fun c28 => ?_) (fun c28 => ?_)
  ·
   refine aK fun K8 kh8 => ?_;refine aB ?_;refine aA rfl rfl rfl (aF rfl) ?_;refine aA rfl rfl rfl (aF rfl) ?_;refine aJ ?_;refine aL (kh8 _ _ ?_);clear kh8;refine a7 ?_;refine bT ?_;have e : paE N l bs (bI R) q c = 111 := by unfold paE; rw [if_neg (by rw [hcz]; simp), if_pos (by omega)]
   exact bW [] Tryz.results15 rfl rfl aI ⟨by rw [e]; rfl, rfl⟩
  ·
   have hk1 : k + 1 < R.length := by omega
   have hup := hn.rows _ (List.getElem_mem hk1)
   have hRup := hNo.right (k := k + 1) (by omega)
   rw [gM hk1] at hRup;have hupl := (cN hRup).2
   obtain ⟨bl, ol, hAl, hSl, hcl⟩ := hup.1 (fun e => by have := aX (R[k + 1]'hk1).2.1; rw [e] at this; simp at this; omega)
   refine aW ?_;refine aL (kh6 _ _ ?_);clear kh6;refine aK fun K9 kh9 => ?_;refine dH [[(b10, blk [eO r, .int .i64 x] 58)], [(b4, blk [.int .i64 N, .slice A l.length cap] 24)], [(b5, blk [.slice Ab bs.length cb, .slice Ac R.length cc] 32)]] rfl ?_;refine aU 0 rfl (by decide +kernel) rfl rfl rfl (by repeat first|exact aI|refine aD ?_|refine aC rfl ?_|refine aH ?_) (a8 (vs := [_, _]) Tryz.isAgg32 Tryz.sizeOf32 rfl rfl ⟨(rdA rfl), (rdA rfl), trivial⟩) ?_;refine aU 1 rfl (by decide +kernel) rfl rfl rfl (by repeat first|exact aI|refine aD ?_|refine aC rfl ?_|refine aH ?_) (aG rfl) ?_;refine aU 2 rfl (by decide +kernel) rfl rfl rfl (by repeat first|exact aI|refine aD ?_|refine aC rfl ?_|refine aH ?_) (bG rfl rfl _ (aT (by omega))) ?_;refine aU 5 rfl (by decide +kernel) rfl rfl rfl (by repeat first|exact aI|refine aD ?_|refine aC rfl ?_|refine aH ?_) (aQ fa58_0 rfl) ?_;refine aU 6 rfl (by decide +kernel) rfl rfl rfl (by repeat first|exact aI|refine aD ?_|refine aC rfl ?_|refine aH ?_) (aM Tryz.isAgg56 rfl (rdA rfl)) ?_;refine aU 7 rfl (by decide +kernel) rfl rfl rfl (by repeat first|exact aI|refine aD ?_|refine aC rfl ?_|refine aH ?_) (aG rfl) ?_;refine bQ 3 rfl (by decide +kernel) rfl rfl rfl (bD Tryz.call29 rfl (fun w_ hp_ => (by have h := at_spec Ab bs cb Ac R cc (k + 1) w_ (hn.up0 hp_) hk1; rw [show (((k + 1 : Nat) : Int) + 1) = q + 1 by omega] at h; exact h)) ?_);rintro _ _ ⟨rfl, rfl⟩;dsimp only [List.cons_append, List.nil_append];refine ⟨(by repeat first|exact aI|refine aD ?_|refine aC rfl ?_|refine aH ?_), ?_⟩;refine aU 4 rfl (by decide +kernel) rfl rfl rfl (by repeat first|exact aI|refine aD ?_|refine aC rfl ?_|refine aH ?_) (o_fval (v := .slice (some ⟨bl, ol, none⟩) (R[k + 1]'hk1).2.1.length (R[k + 1]'hk1).2.2) rfl (fun _ => by rw [← hAl]; kernel_rfl)) ?_;refine bQ 8 rfl (by decide +kernel) rfl rfl rfl (bD Tryz.call28 rfl (fun w_ hp_ => lmem_spec r.1 r.2.1 r.2.2 c w_ (hrr2.1.up0 hp_) (by omega)) ?_);rintro _ _ ⟨Am, cm, mm, rfl, rfl, hOm⟩;have hml := jQ r.2.1 c r.2.1.length
   obtain ⟨bM, spM, rfl, rfl⟩ := hOm.at_ hmpos
   obtain ⟨v, hv, hvl, hvc⟩ := gW.1 (List.getElem_mem hmpos)
   have hvl2 : v < (R[k + 1]'hk1).2.1.length := by omega
   dsimp only [List.cons_append, List.nil_append];refine ⟨(by repeat first|exact aI|refine aD ?_|refine aC rfl ?_|refine aH ?_), ?_⟩;refine aU 9 rfl (by decide +kernel) rfl rfl rfl (by repeat first|exact aI|refine aD ?_|refine aC rfl ?_|refine aH ?_) (bA bK rfl rfl (0) ⟨by omega, by omega, by first | omega | (simp; done) | (simp; omega)⟩) ?_;refine bQ 10 rfl (by decide +kernel) rfl rfl rfl ((aM Tryz.isAgg3 rfl (rdA (v := .int .i64 (v : Int)) (dN (by rw [dL hmpos, hv])))).does ⟨(by repeat first|exact aI|refine aD ?_|refine aC rfl ?_|refine aH ?_), ?_⟩);refine aU 11 rfl (by decide +kernel) rfl rfl rfl (by repeat first|exact aI|refine aD ?_|refine aC rfl ?_|refine aH ?_) (bA sl56 rfl rfl (ol + v) ⟨by omega, by omega, by first | omega | (simp; done) | (simp; omega)⟩) ?_;refine aU 12 rfl (by decide +kernel) rfl rfl rfl (by repeat first|exact aI|refine aD ?_|refine aC rfl ?_|refine aH ?_) (aM Tryz.isAgg3 rfl (dX (enc := (.int .i64 ·)) hSl hcl hvl2)) ?_;refine bQ 13 rfl (by decide +kernel) rfl rfl rfl ((aF rfl).does ⟨(by repeat first|exact aI|refine aD ?_|refine aC rfl ?_|refine aH ?_), ?_⟩);refine bQ 14 rfl (by decide +kernel) rfl rfl rfl ((aF rfl).does ⟨(by repeat first|exact aI|refine aD ?_|refine aC rfl ?_|refine aH ?_), ?_⟩);refine dF (by decide +kernel) ?_;refine aL (kh9 _ _ ?_);clear kh9;refine a7 ?_;have e : paE N l bs (bI R) q c = 0 := by unfold paE; rw [if_neg (by rw [hcz]; simp), if_neg (by omega)]
   have e2 : paV (bI R) q c = (R[k + 1]'hk1).2.1[v] := by
     unfold paV
     rw [show q.toNat - 1 = k by omega, show q.toNat = k + 1 by omega, hrow, gM hk1];rw [show (dM r.2.1 c r.2.1.length).headD 0 = (v : Int) from by rw [← hv]; exact headD_get hmpos, Int.toNat_natCast];simp [List.getD_eq_getElem?_getD, hvl2]
   exact bW [] Tryz.results15 rfl rfl aI ⟨by rw [e, if_neg (by simp), e2], rfl⟩
set_option maxRecDepth 100000 in
set_option maxHeartbeats 4000000 in
theorem NApart_spec (N : Int) (A : Option Addr) (l : List Arc) (cap : Nat) (Ab : Option Addr) (bs : List Int) (cb : Nat) (Ac : Option Addr) (R : List Row) (cc : Nat) (u v : Int) (w : World) (hr : Ro (Fr w []) w A (l.flatMap cE)) (hl : l.length ≤ 9223372036854775807) (hN : I64 N) (hok : ∀ x ∈ l, dQ x) (hn : NestRo (Fr w []) w Ab bs Ac R) :
    Meets Tryz.prog 11 [.agg #[.int .i64 N, .slice A l.length cap], .agg #[.slice Ab bs.length cb, .slice Ac R.length cc], .int .i64 u, .int .i64 v] w [] (fun x m => x = .tuple #[.int .i64 (if apE N l bs (bI R) u v ≠ 0 then 0 else (apV (bI R) u.toNat v.toNat bs.length : Int)), .int .i64 (apE N l bs (bI R) u v)] ∧ m = []) := by
 refine bJ Tryz.func11 rfl Tryz.ntmps11 rfl Owns.nil ?_;refine aK fun K1 kh1 => ?_;refine aB ?_;refine aR rfl rfl rfl (cZ rfl rfl fun b4 => ?_);refine aR rfl rfl rfl (cZ rfl rfl fun b5 => ?_);refine aA rfl rfl rfl (aF rfl) ?_;refine aA rfl rfl rfl (aF rfl) ?_;refine aJ ?_;refine aL (kh1 _ _ ?_);clear kh1;refine aK fun K2 kh2 => ?_;refine aK fun K3 kh3 => ?_;refine aB ?_;refine aA rfl rfl rfl (a8 (vs := [_, _]) Tryz.isAgg24 Tryz.sizeOf24 rfl rfl ⟨(rdA rfl), (rdA rfl), trivial⟩) ?_;refine aA rfl rfl rfl (a8 (vs := [_, _]) Tryz.isAgg32 Tryz.sizeOf32 rfl rfl ⟨(rdA rfl), (rdA rfl), trivial⟩) ?_;refine aR rfl rfl rfl (bD Tryz.call9 rfl (fun w_ hp_ => NCheck_spec N A l cap Ab bs cb Ac R cc w_ (hr.up0 hp_) hl hN hok (hn.up0 hp_)) ?_);rintro _ _ ⟨rfl, rfl⟩;dsimp only [List.cons_append, List.nil_append];refine aA rfl rfl rfl (aG rfl) ?_;refine aA rfl rfl rfl (aV rfl rfl) ?_;refine aA rfl rfl rfl (aV rfl rfl) ?_;refine aA rfl rfl rfl (aF rfl) ?_;refine aA rfl rfl rfl (aF rfl) ?_;refine aJ ?_;refine aL (kh3 _ _ ?_);clear kh3;refine aK fun K4 kh4 => ?_;refine aB ?_;refine aA rfl rfl rfl (aG rfl) ?_;refine aA rfl rfl rfl (c6 rfl rfl) ?_;refine aJ ?_;refine aL (kh4 _ _ ?_);clear kh4;refine aZ rfl (fun c20 => ?_) (fun c20 => ?_)
 ·
  refine aK fun K5 kh5 => ?_;refine aB ?_;refine aA rfl rfl rfl (aG rfl) ?_;refine aA rfl rfl rfl (aF rfl) ?_;refine aA rfl rfl rfl (aF rfl) ?_;refine aJ ?_;refine aL (kh5 _ _ ?_);clear kh5;refine a7 ?_;refine bT ?_;have e : apE N l bs (bI R) u v = (nsE N l bs (bI R)).2 := by unfold apE; rw [if_pos (by simpa using c20)]
  exact bW [] Tryz.results11 rfl rfl aI ⟨by rw [if_pos (by rw [e]; simpa using c20), e], rfl⟩
 ·
  refine aW ?_;refine aL (kh2 _ _ ?_);clear kh2;refine aK fun K6 kh6 => ?_;refine aK fun K7 kh7 => ?_;refine aB ?_;refine aA rfl rfl rfl (aG rfl) ?_;refine aA rfl rfl rfl (cD rfl rfl) ?_;refine aA rfl rfl rfl (aG rfl) ?_;refine cX 24 rfl (fun g24 => ?_) (fun g24 => ?_)
  ·
   refine aS rfl rfl rfl rfl rfl rfl ?_;refine aS rfl rfl rfl rfl rfl rfl ?_;refine aS rfl rfl rfl rfl rfl rfl ?_;refine aS rfl rfl rfl rfl rfl rfl ?_;refine aA rfl rfl rfl (cF rfl rfl) ?_;refine aA rfl rfl rfl (aG rfl) ?_;refine aS rfl rfl rfl rfl rfl rfl ?_;refine aS rfl rfl rfl rfl rfl rfl ?_;refine aA rfl rfl rfl (cF rfl rfl) ?_;refine aA rfl rfl rfl (aG rfl) ?_;refine aS rfl rfl rfl rfl rfl rfl ?_;refine aS rfl rfl rfl rfl rfl rfl ?_;refine aS rfl rfl rfl rfl rfl rfl ?_;refine aS rfl rfl rfl rfl rfl rfl ?_;refine aA rfl rfl rfl (cF rfl rfl) ?_;refine aJ ?_;refine aL (kh7 _ _ ?_);clear kh7;refine eF rfl ?_;refine aK fun K8 kh8 => ?_;refine aB ?_;refine aA rfl rfl rfl (aF rfl) ?_;refine aA rfl rfl rfl (aF rfl) ?_;refine aJ ?_;refine aL (kh8 _ _ ?_);clear kh8;refine a7 ?_;refine bT ?_;have e : apE N l bs (bI R) u v = 5 := by unfold apE; rw [if_neg (by simpa using c20), if_pos (by omega)]
   exact bW [] Tryz.results11 rfl rfl aI ⟨by rw [e]; rfl, rfl⟩
  ·
   refine aO rfl rfl rfl rfl rfl (aG rfl) ?_;refine aO rfl rfl rfl rfl rfl (aQ eE rfl) ?_;refine aO rfl rfl rfl rfl rfl (aM Tryz.isAgg3 rfl (rdA rfl)) ?_;refine aO rfl rfl rfl rfl rfl (h7 rfl rfl) ?_;refine aA rfl rfl rfl (cO rfl rfl) ?_;refine aA rfl rfl rfl (aG rfl) ?_;refine cX 30 rfl (fun g30 => ?_) (fun g30 => ?_)
   ·
    refine aS rfl rfl rfl rfl rfl rfl ?_;refine aS rfl rfl rfl rfl rfl rfl ?_;refine aA rfl rfl rfl (cF rfl rfl) ?_;refine aA rfl rfl rfl (aG rfl) ?_;refine aS rfl rfl rfl rfl rfl rfl ?_;refine aS rfl rfl rfl rfl rfl rfl ?_;refine aS rfl rfl rfl rfl rfl rfl ?_;refine aS rfl rfl rfl rfl rfl rfl ?_;refine aA rfl rfl rfl (cF rfl rfl) ?_;refine aJ ?_;refine aL (kh7 _ _ ?_);clear kh7;refine eF rfl ?_;refine aK fun K9 kh9 => ?_;refine aB ?_;refine aA rfl rfl rfl (aF rfl) ?_;refine aA rfl rfl rfl (aF rfl) ?_;refine aJ ?_;refine aL (kh9 _ _ ?_);clear kh9;refine a7 ?_;refine bT ?_;have e : apE N l bs (bI R) u v = 5 := by unfold apE; rw [if_neg (by simpa using c20), if_pos (by omega)]
    exact bW [] Tryz.results11 rfl rfl aI ⟨by rw [e]; rfl, rfl⟩
   ·
    refine aO rfl rfl rfl rfl rfl (aG rfl) ?_;refine aO rfl rfl rfl rfl rfl (cD rfl rfl) ?_;refine aA rfl rfl rfl (cO rfl rfl) ?_;refine aA rfl rfl rfl (aG rfl) ?_;refine cX 34 rfl (fun g34 => ?_) (fun g34 => ?_)
    ·
     refine aS rfl rfl rfl rfl rfl rfl ?_;refine aS rfl rfl rfl rfl rfl rfl ?_;refine aS rfl rfl rfl rfl rfl rfl ?_;refine aS rfl rfl rfl rfl rfl rfl ?_;refine aA rfl rfl rfl (cF rfl rfl) ?_;refine aJ ?_;refine aL (kh7 _ _ ?_);clear kh7;refine eF rfl ?_;refine aK fun K10 kh10 => ?_;refine aB ?_;refine aA rfl rfl rfl (aF rfl) ?_;refine aA rfl rfl rfl (aF rfl) ?_;refine aJ ?_;refine aL (kh10 _ _ ?_);clear kh10;refine a7 ?_;refine bT ?_;have e : apE N l bs (bI R) u v = 5 := by unfold apE; rw [if_neg (by simpa using c20), if_pos (by omega)]
     exact bW [] Tryz.results11 rfl rfl aI ⟨by rw [e]; rfl, rfl⟩
    ·
     refine aO rfl rfl rfl rfl rfl (aG rfl) ?_;refine aO rfl rfl rfl rfl rfl (aQ eE rfl) ?_;refine aO rfl rfl rfl rfl rfl (aM Tryz.isAgg3 rfl (rdA rfl)) ?_;refine aO rfl rfl rfl rfl rfl (h7 rfl rfl) ?_;refine aA rfl rfl rfl (cO rfl rfl) ?_;refine aJ ?_;refine aL (kh7 _ _ ?_);clear kh7;refine aZ rfl (fun c39 => ?_) (fun c39 => ?_)
     ·
      refine aK fun K11 kh11 => ?_;refine aB ?_;refine aA rfl rfl rfl (aF rfl) ?_;refine aA rfl rfl rfl (aF rfl) ?_;refine aJ ?_;refine aL (kh11 _ _ ?_);clear kh11;refine a7 ?_;refine bT ?_;have e : apE N l bs (bI R) u v = 5 := by unfold apE; rw [if_neg (by simpa using c20), if_pos (by omega)]
      exact bW [] Tryz.results11 rfl rfl aI ⟨by rw [e]; rfl, rfl⟩
     ·
      have hz : (nsE N l bs (bI R)).2 = 0 := by simpa using c20
      obtain ⟨n, hNn, hNo⟩ := nsE_zero hz
      have hmany := hNo.many
      have hRl := hNo.len
      rw [gF] at hRl;have hap : apE N l bs (bI R) u v = 0 := by unfold apE; rw [if_neg (by rw [hz]; simp), if_neg (by omega)]
      obtain ⟨a, rfl⟩ : ∃ a : Nat, u = (a : Int) := ⟨u.toNat, by omega⟩
      obtain ⟨b, rfl⟩ : ∃ b : Nat, v = (b : Int) := ⟨v.toNat, by omega⟩
      refine aW ?_;refine aL (kh6 _ _ ?_);clear kh6;refine aK fun K12 kh12 => ?_;refine aK fun K13 kh13 => ?_;refine aB ?_;refine aA rfl rfl rfl (aQ iQ rfl) ?_;refine aA rfl rfl rfl (aM Tryz.isAgg30 rfl (rdA rfl)) ?_;refine aA rfl rfl rfl (bS gD rfl) ?_;refine aA rfl rfl rfl (aF rfl) ?_;refine aJ ?_;refine aL (kh13 _ _ ?_);clear kh13;refine aY ?_;refine cS (α := Nat) [2, 3, 5] (fun j => [(12, .int .i64 (j : Int))]) (fun j => [[(b5, blk [.slice Ab bs.length cb, .slice Ac R.length cc] 32)]]) (fun j => j ≤ R.length ∧ apV (bI R) a b bs.length = apV (bI R) a b j) (fun j => j) (R.length) ?_ ?_ ?_ ?_
      · exact (by repeat constructor)
      · repeat first|exact aI|refine aD ?_|refine aC rfl ?_|refine aH ?_
      · exact ⟨Nat.le_refl _, by rw [hRl]⟩
      ·
       rintro j ⟨hjl, hj⟩;refine aK fun K14 kh14 => ?_;refine aK fun K15 kh15 => ?_;refine aB ?_;refine aA rfl rfl rfl (aG rfl) ?_;refine aA rfl rfl rfl (eQ rfl rfl) ?_;refine aJ ?_;refine aL (kh15 _ _ ?_);clear kh15;refine aZ rfl (fun c44 => ?_) (fun c44 => ?_)
       ·
        obtain ⟨k, rfl⟩ : ∃ k, j = k + 1 := ⟨j - 1, by omega⟩
        have hk : k < R.length := by omega
        have hrk := hn.rows _ (List.getElem_mem hk)
        have hRk := hNo.right (k := k) (by omega)
        rw [gM hk] at hRk;have hkl := (cN hRk).2
        obtain ⟨b2, o2, hA2, hS2, hc2⟩ := hn.c (map_ne hk)
        obtain ⟨bl, ol, hAl, hSl, hcl⟩ := hrk.1 (fun e => by have := aX (R[k]'hk).2.1; rw [e] at this; simp at this; omega)
        have ha2 : a < (R[k]'hk).2.1.length := by omega
        have hb2 : b < (R[k]'hk).2.1.length := by omega
        have hax : apV (bI R) a b (k + 1) = if (R[k]'hk).2.1[a] ≠ (R[k]'hk).2.1[b] then k + 1 else apV (bI R) a b k := by
          show (if _ ≠ _ then _ else _) = _
          rw [gM hk]; simp [List.getD_eq_getElem?_getD, ha2, hb2]
        refine aW ?_;refine aL (kh14 _ _ ?_);clear kh14;refine aK fun K16 kh16 => ?_;refine aY ?_;refine aK fun K17 kh17 => ?_;refine fY rfl (by decide +kernel) ?_;refine aN rfl rfl rfl (aQ iQ rfl) ?_;refine aN rfl rfl rfl (aM Tryz.isAgg30 rfl (v := .slice (some ⟨b2, o2, none⟩) R.length cc) (rdA (by rw [← hA2]; rfl))) ?_;refine aN rfl rfl rfl (aG rfl) ?_;refine aN rfl rfl rfl (fV rfl rfl _ (Eq.trans (aT (by omega)) (show _ = (k : Int) by omega))) ?_;refine aN rfl rfl rfl (bA gD rfl rfl (o2 + k) ⟨by omega, by omega, by first | omega | (simp; done) | (simp; omega)⟩) ?_;refine aN rfl rfl rfl (aM Tryz.isAgg25 rfl (v := .slice (some ⟨bl, ol, none⟩) (R[k]'hk).2.1.length (R[k]'hk).2.2) (show Rd _ _ _ _ _ (Value.slice (some ⟨bl, ol, none⟩) (R[k]'hk).2.1.length (R[k]'hk).2.2) by rw [← hAl]; exact dX (enc := eO) hS2 hc2 hk)) ?_;refine aN rfl rfl rfl (aG rfl) ?_;refine aN rfl rfl rfl (bA bK rfl rfl (ol + a) ⟨by omega, by omega, by first | omega | (simp; done) | (simp; omega)⟩) ?_;refine aN rfl rfl rfl (aM Tryz.isAgg3 rfl (dX (enc := (.int .i64 ·)) hSl hcl ha2)) ?_;refine aN rfl rfl rfl (aQ iQ rfl) ?_;refine aN rfl rfl rfl (aM Tryz.isAgg30 rfl (v := .slice (some ⟨b2, o2, none⟩) R.length cc) (rdA (by rw [← hA2]; rfl))) ?_;refine aN rfl rfl rfl (aG rfl) ?_;refine aN rfl rfl rfl (fV rfl rfl _ (Eq.trans (aT (by omega)) (show _ = (k : Int) by omega))) ?_;refine aN rfl rfl rfl (bA gD rfl rfl (o2 + k) ⟨by omega, by omega, by first | omega | (simp; done) | (simp; omega)⟩) ?_;refine aN rfl rfl rfl (aM Tryz.isAgg25 rfl (v := .slice (some ⟨bl, ol, none⟩) (R[k]'hk).2.1.length (R[k]'hk).2.2) (show Rd _ _ _ _ _ (Value.slice (some ⟨bl, ol, none⟩) (R[k]'hk).2.1.length (R[k]'hk).2.2) by rw [← hAl]; exact dX (enc := eO) hS2 hc2 hk)) ?_;refine aN rfl rfl rfl (aG rfl) ?_;refine aN rfl rfl rfl (bA bK rfl rfl (ol + b) ⟨by omega, by omega, by first | omega | (simp; done) | (simp; omega)⟩) ?_;refine aN rfl rfl rfl (aM Tryz.isAgg3 rfl (dX (enc := (.int .i64 ·)) hSl hcl hb2)) ?_;refine aN rfl rfl rfl (c6 rfl rfl) ?_;refine eH ?_;refine aL (kh17 _ _ ?_);clear kh17;refine aZ rfl (fun c65 => ?_) (fun c65 => ?_)
        · refine aK fun K18 kh18 => ?_;refine aB ?_;refine aA rfl rfl rfl (aG rfl) ?_;refine aA rfl rfl rfl (aF rfl) ?_;refine aA rfl rfl rfl (aF rfl) ?_;refine aJ ?_;refine aL (kh18 _ _ ?_);clear kh18;refine a7 ?_;refine eC ?_;refine bT ?_;refine bT ?_;refine eC ?_;refine bT ?_;exact bW [] Tryz.results11 rfl rfl aI ⟨by rw [hap, if_neg (by simp), Int.toNat_natCast, Int.toNat_natCast, hj, hax, if_pos (by omega)], rfl⟩
        ·
         refine aW ?_;refine cV ?_;refine aL (kh16 _ _ ?_);clear kh16;refine aB ?_;refine aA rfl rfl rfl (aG rfl) ?_;refine aA rfl rfl rfl (fV rfl rfl _ (Eq.trans (aT (by omega)) (show _ = (k : Int) by omega))) ?_;refine aA rfl rfl rfl (aF rfl) ?_;refine aJ ?_;refine aL (bB (k) (by first | omega | (dsimp only; omega) | (simp; omega)) ⟨by omega, by rw [hj, hax, if_neg (by omega)]⟩ ?_ ?_ ?_)
         · exact (by repeat constructor)
         · exact (by repeat constructor)
         · repeat first|exact aI|refine aD ?_|refine aC rfl ?_|refine aH ?_
       ·
        refine cG ?_;refine cK ?_;clear kh14;refine cK ?_;refine d5 ?_;refine aL (kh12 _ _ ?_);clear kh12;refine aK fun K19 kh19 => ?_;refine aB ?_;refine aA rfl rfl rfl (aF rfl) ?_;refine aA rfl rfl rfl (aF rfl) ?_;refine aJ ?_;refine aL (kh19 _ _ ?_);clear kh19;refine a7 ?_;obtain rfl : j = 0 := by omega
        exact bW [] Tryz.results11 rfl rfl aI ⟨by rw [hap, if_neg (by simp), Int.toNat_natCast, Int.toNat_natCast, hj]; rfl, rfl⟩
end Go.Proofs.YtjjogcnjcnpehaaGreat
