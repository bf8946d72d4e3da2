import Derived.Test.YtjjogcnjcnpehaaGreatAll15
import Derived.Test.YtjjogcnjcnpehaaGreatAll4
import Derived.Test.YtjjogcnjcnpehaaGreatFlyT
import Derived.Test.YtjjogcnjcnpehaaGreatFlyR
import Derived.Test.YtjjogcnjcnpehaaGreatAll13

/- flyoverlaw11: NestPartition. -/
namespace Go.Proofs.YtjjogcnjcnpehaaGreat
open Go Go.RowKit Fly
set_option linter.unusedVariables false
set_option linter.unusedSimpArgs false
theorem memTo_rising (L : List Int) (c : Int) (k : Nat) : (dM L c k).Pairwise (· < ·) := by
  unfold dM
  rw [List.pairwise_map];exact (List.pairwise_lt_range.filter _).imp fun {a b} h => by omega
theorem memTo_nodup (L : List Int) (c : Int) (k : Nat) : (dM L c k).Nodup := (memTo_rising L c k).imp fun {a b} h e => by omega
theorem list_range (L : List Int) : L = (List.range L.length).map fun v => L.getD v 0 := by
  refine List.ext_getElem (by simp) fun i h1 h2 => ?_;simp [List.getD_eq_getElem?_getD, h1]
theorem memTo_cnt (L : List Int) (c : Int) : (dM L c L.length).length = eP L c := by
  unfold dM eP
  rw [List.length_map]
  conv => rhs; rw [list_range L]
  rw [List.filter_map, List.length_map]; rfl
/-- How many vertices bear one of some labels. -/
def inCnt (n : Nat) (B Ch : List Int) : Nat := ((List.range n).filter fun v => decide (B.getD v 0 ∈ Ch)).length
theorem inCnt_le (n : Nat) (B Ch : List Int) : inCnt n B Ch ≤ n := by
  unfold inCnt; exact Nat.le_trans (List.length_filter_le _ _) (by simp)
theorem filter_or_len {α : Type} (p q : α → Bool) (h : ∀ x, p x = true → q x = false) : ∀ l : List α, (l.filter fun x => p x || q x).length = (l.filter p).length + (l.filter q).length
  | [] => rfl
  | x :: l => by
    have ih := filter_or_len p q h l
    simp only [List.filter_cons];cases hp : p x
    · cases hq : q x
      · simpa using ih
      · simp; omega
    · have := h x hp
      rw [this]; simp; omega
theorem inCnt_next {n : Nat} {B Ch : List Int} {j : Nat} (hj : j < Ch.length) (hn : Ch.Nodup) : inCnt n B (Ch.take (j + 1)) = inCnt n B (Ch.take j) + (dM B Ch[j] n).length := by
  unfold inCnt dM
  rw [List.length_map, List.take_succ_eq_append_getElem hj, ← filter_or_len (fun v => decide (B.getD v 0 ∈ Ch.take j)) (fun v => decide (B.getD v 0 = Ch[j]))]
  · congr 1
    apply List.filter_congr;intro v _;rw [Bool.eq_iff_iff]; simp only [Bool.or_eq_true, decide_eq_true_eq, List.mem_append, List.mem_singleton]
  · intro v hv
    rw [decide_eq_false];intro e;rw [decide_eq_true_eq, e] at hv;exact absurd hn (nodup_not hj hv)
theorem inCnt_zero (n : Nat) (B : List Int) : inCnt n B [] = 0 := by unfold inCnt; simp
section
variable {n : Nat} {l : List Arc} {bs : List Int} {L : List (List Int)}
theorem ch_mem {k i : Nat} (hi : i = k + 1) {c x : Int} (hT : (L.getD i []).length = n) : x ∈ chL L ((i : Int) + 1) c ↔ ∃ v : Nat, v < n ∧ (L.getD i []).getD v 0 = c ∧ (L.getD k []).getD v 0 = x := by
  subst hi
  unfold chL
  rw [show (((k + 1 : Nat) : Int) + 1).toNat - 1 = k + 1 by omega, show (((k + 1 : Nat) : Int) + 1).toNat - 2 = k by omega, cpt_mem, (sortI_perm _).mem_iff]
  unfold lowL
  simp only [List.mem_map];constructor
  · rintro ⟨v, hv, rfl⟩
    obtain ⟨w, rfl, h1, h2⟩ := gW.1 hv
    exact ⟨w, by omega, h2, by simp⟩
  · rintro ⟨v, h1, h2, rfl⟩
    exact ⟨(v : Int), gW.2 ⟨v, rfl, by omega, h2⟩, by simp⟩
theorem ch_nodup (L : List (List Int)) (q c : Int) : (chL L q c).Nodup := (cpt_int (sortI_sorted _)).imp fun {a b} h e => by omega
theorem ch_len (L : List (List Int)) (i : Nat) (c : Int) : (chL L ((i : Int) + 1) c).length ≤ (dM (L.getD i []) c (L.getD i []).length).length := by
  unfold chL
  rw [show ((i : Int) + 1).toNat - 1 = i by omega];refine Nat.le_trans (l6 _) ?_;rw [eZ]; unfold lowL; simp
theorem row_lab (h : NestOk n l bs L) {k : Nat} (hk : k < bs.length) {v : Nat} (hv : v < n) : 0 ≤ (L.getD k []).getD v 0 ∧ (L.getD k []).getD v 0 < d4 (L.getD k []) + 1 := by
  have hl := h.rowlen hk
  have hv' : v < (L.getD k []).length := by omega
  have hr := dY (h.right hk) (by have := h.n1; omega) _ (List.getElem_mem hv')
  have e : (L.getD k []).getD v 0 = (L.getD k [])[v] := by rw [List.getD_eq_getElem?_getD, List.getElem?_eq_getElem hv']; rfl
  rw [e]; have := f8 (List.getElem_mem hv'); omega
theorem ch_rng (h : NestOk n l bs L) {k i : Nat} (hi : i = k + 1) (hk : i < bs.length) {c x : Int} (hx : x ∈ chL L ((i : Int) + 1) c) : 0 ≤ x ∧ x < d4 (L.getD k []) + 1 := by
  obtain ⟨v, hv, _, rfl⟩ := (ch_mem hi (h.rowlen hk)).1 hx
  exact row_lab h (by omega) hv
theorem ch_within (h : NestOk n l bs L) {k : Nat} (hk : k + 1 < bs.length) {u v : Nat} (hu : u < n) (hv : v < n) (e : (L.getD k []).getD u 0 = (L.getD k []).getD v 0) : (L.getD (k + 1) []).getD u 0 = (L.getD (k + 1) []).getD v 0 := by
  have hw := h.within hk (by omega)
  rw [Nat.add_sub_cancel] at hw;have hl := h.rowlen (k := k) (by omega)
  exact hw u (by omega) v (by omega) e
theorem ch_parent (h : NestOk n l bs L) {k i : Nat} (hi : i = k + 1) (hk : i < bs.length) {c x : Int} (hx : x ∈ chL L ((i : Int) + 1) c) : paV L ((k : Int) + 1) x = c := by
  obtain ⟨v, hv, h1, h2⟩ := (ch_mem hi (h.rowlen hk)).1 hx
  subst hi;have hl := h.rowlen (k := k) (by omega)
  have hvm : (v : Int) ∈ dM (L.getD k []) x (L.getD k []).length := gW.2 ⟨v, rfl, by omega, h2⟩
  have hpos := List.length_pos_of_mem hvm
  obtain ⟨u, hu, hul, hux⟩ := gW.1 (List.getElem_mem hpos)
  unfold paV
  rw [show ((k : Int) + 1).toNat = k + 1 by omega, Nat.add_sub_cancel, headD_get hpos, hu, Int.toNat_natCast];rw [ch_within h hk (by omega) hv (by rw [hux, h2])];exact h1
theorem ch_sum (h : NestOk n l bs L) {k i : Nat} (hi : i = k + 1) (hk : i < bs.length) {c : Int} : inCnt n (L.getD k []) (chL L ((i : Int) + 1) c) = (dM (L.getD i []) c (L.getD i []).length).length := by
  unfold inCnt dM
  rw [List.length_map, h.rowlen hk]
  congr 1
  apply List.filter_congr;intro v hv;rw [List.mem_range] at hv;rw [decide_eq_decide, ch_mem hi (h.rowlen hk)];subst hi;constructor
  · rintro ⟨u, hu, h1, h2⟩
    rw [← ch_within h hk hu hv h2]; exact h1
  · intro h1; exact ⟨v, hv, h1, rfl⟩
end
theorem clE_at {n : Nat} {l : List Arc} {bs : List Int} {L : List (List Int)} (h : NestOk n l bs L) {k : Nat} (hk : k < bs.length) {c : Nat} (hc : (c : Int) < d4 (L.getD k []) + 1) : clE (n : Int) l bs L ((k : Int) + 1) (c : Int) = 0 := clE_ok h hk ⟨by omega, hc⟩
theorem reps_boolP (n : Nat) (b : Bool) : (List.replicate n [Value.bool b]).flatten = dW (List.replicate n b) := by
  induction n with
  | zero => rfl
  | succ n ih => rw [List.replicate_succ, List.flatten_cons, ih]; rfl
set_option maxRecDepth 100000 in
set_option maxHeartbeats 4000000 in
theorem NestPartition_spec (N : Int) (A : Option Addr) (l : List Arc) (cap : Nat) (Ab : Option Addr) (bs : List Int) (cb : Nat) (Ac : Option Addr) (R : List Row) (cc : Nat) (w : World) (hr : Ro (Fr w []) w A (l.flatMap cE)) (hl : l.length ≤ 9223372036854775807) (hN : I64 N) (hok : ∀ x ∈ l, dQ x) (hn : NestRo (Fr w []) w Ab bs Ac R) :
    Meets Tryz.prog 5 [.agg #[.int .i64 N, .slice A l.length cap], .agg #[.slice Ab bs.length cb, .slice Ac R.length cc]] w [] (fun u m => u = .bool true ∧ m = []) := by
 refine bJ Tryz.func5 rfl Tryz.ntmps5 rfl Owns.nil ?_;refine aK fun K1 kh1 => ?_;refine aB ?_;refine aR rfl rfl rfl (cZ rfl rfl fun b2 => ?_);refine aR rfl rfl rfl (cZ rfl rfl fun b3 => ?_);refine aA rfl rfl rfl (aF rfl) ?_;refine aJ ?_;refine aL (kh1 _ _ ?_);clear kh1;refine aK fun K2 kh2 => ?_;refine aK fun K3 kh3 => ?_;refine aB ?_;refine aR rfl rfl rfl (bD Tryz.call6 rfl (fun w_ hp_ => works_spec w_) ?_);rintro _ _ ⟨rfl, rfl⟩;dsimp only [List.cons_append, List.nil_append];refine aA rfl rfl rfl (kG rfl) ?_;refine aJ ?_;refine aL (kh3 _ _ ?_);clear kh3;refine gZ rfl ?_;refine aW ?_;refine aL (kh2 _ _ ?_);clear kh2;refine aK fun K4 kh4 => ?_;refine aK fun K5 kh5 => ?_;refine aB ?_;refine aA rfl rfl rfl (a8 (vs := [_, _]) Tryz.isAgg24 Tryz.sizeOf24 rfl rfl ⟨(rdA rfl), (rdA rfl), trivial⟩) ?_;refine aR rfl rfl rfl (bD Tryz.call7 rfl (fun w_ hp_ => large_spec N A l cap w_ (hr.up0 hp_) hl hN hok) ?_);rintro _ _ ⟨bL, rfl, rfl⟩;dsimp only [List.cons_append, List.nil_append];refine aJ ?_;refine aL (kh5 _ _ ?_);clear kh5;refine fC rfl (fun c29 => ?_) (fun c29 => ?_)
 · refine aK fun K6 kh6 => ?_;refine aB ?_;refine aA rfl rfl rfl (aF rfl) ?_;refine aJ ?_;refine aL (kh6 _ _ ?_);clear kh6;refine a7 ?_;refine bT ?_;exact bP [] Tryz.results5 rfl aI ⟨rfl, rfl⟩
 ·
  refine aW ?_;refine aL (kh4 _ _ ?_);clear kh4;refine aK fun K7 kh7 => ?_;refine aK fun K8 kh8 => ?_;refine aB ?_;refine aA rfl rfl rfl (a8 (vs := [_, _]) Tryz.isAgg24 Tryz.sizeOf24 rfl rfl ⟨(rdA rfl), (rdA rfl), trivial⟩) ?_;refine aA rfl rfl rfl (a8 (vs := [_, _]) Tryz.isAgg32 Tryz.sizeOf32 rfl rfl ⟨(rdA rfl), (rdA rfl), trivial⟩) ?_;refine aR rfl rfl rfl (bD Tryz.call9 rfl (fun w_ hp_ => NCheck_spec N A l cap Ab bs cb Ac R cc w_ (hr.up0 hp_) hl hN hok (hn.up0 hp_)) ?_);rintro _ _ ⟨rfl, rfl⟩;dsimp only [List.cons_append, List.nil_append];refine aA rfl rfl rfl (aG rfl) ?_;refine aA rfl rfl rfl (aV rfl rfl) ?_;refine aA rfl rfl rfl (aV rfl rfl) ?_;refine aA rfl rfl rfl (aF rfl) ?_;refine aA rfl rfl rfl (aF rfl) ?_;refine aJ ?_;refine aL (kh8 _ _ ?_);clear kh8;refine aK fun K9 kh9 => ?_;refine aB ?_;refine aA rfl rfl rfl (aG rfl) ?_;refine aA rfl rfl rfl (c6 rfl rfl) ?_;refine aJ ?_;refine aL (kh9 _ _ ?_);clear kh9;refine aZ rfl (fun c37 => ?_) (fun c37 => ?_)
  · refine aK fun K10 kh10 => ?_;refine aB ?_;refine aA rfl rfl rfl (aF rfl) ?_;refine aJ ?_;refine aL (kh10 _ _ ?_);clear kh10;refine a7 ?_;refine bT ?_;exact bP [] Tryz.results5 rfl aI ⟨rfl, rfl⟩
  ·
   have hz : (nsE N l bs (bI R)).2 = 0 := by simpa using c37
   obtain ⟨n, rfl, hNo⟩ := nsE_zero hz
   have hmany := hNo.many
   have hn1 := hNo.n1
   have hRl := hNo.len
   rw [gF] at hRl;refine aW ?_;refine aL (kh7 _ _ ?_);clear kh7;refine aK fun K11 kh11 => ?_;refine aK fun K12 kh12 => ?_;refine aB ?_;refine aA rfl rfl rfl (aF rfl) ?_;refine aJ ?_;refine aL (kh12 _ _ ?_);clear kh12;refine aY ?_;refine cS (α := Nat) [2, 3] (fun k => [(7, .int .i64 ((k : Int) + 1))]) (fun k => [[(b2, blk [.int .i64 (n : Int), .slice A l.length cap] 24)], [(b3, blk [.slice Ab bs.length cb, .slice Ac R.length cc] 32)]]) (fun k => k ≤ bs.length) (fun k => bs.length - k) (0) ?_ ?_ ?_ ?_
   · exact (by repeat constructor)
   · repeat first|exact aI|refine aD ?_|refine aC rfl ?_|refine aH ?_
   · exact Nat.zero_le _
   ·
    rintro k hkl;refine aK fun K13 kh13 => ?_;refine aK fun K14 kh14 => ?_;refine aB ?_;refine aA rfl rfl rfl (aG rfl) ?_;refine aA rfl rfl rfl (aQ fa32_0 rfl) ?_;refine aA rfl rfl rfl (aM Tryz.isAgg25 rfl (rdA rfl)) ?_;refine aA rfl rfl rfl (bS bK rfl) ?_;refine aA rfl rfl rfl (o_leq rfl rfl) ?_;refine aJ ?_;refine aL (kh14 _ _ ?_);clear kh14;refine aZ rfl (fun c42 => ?_) (fun c42 => ?_)
    ·
     have hk : k < bs.length := by omega
     have hlen := hNo.rowlen hk
     have hRk := hNo.right hk
     have hrng := dY hRk (by omega)
     obtain ⟨m, hm⟩ : ∃ m : Nat, d4 ((bI R).getD k []) + 1 = (m : Int) := ⟨(d4 ((bI R).getD k []) + 1).toNat, by have := hrng _ (List.getElem_mem (show 0 < ((bI R).getD k []).length by omega)); have := f8 (List.getElem_mem (show 0 < ((bI R).getD k []).length by omega)); omega⟩
     have hlab := fun v (hv : v < n) => row_lab hNo hk (v := v) hv
     have hmn : m ≤ n := by have := (hrng _ (List.getElem_mem (show 0 < ((bI R).getD k []).length by omega))).2.2; omega
     have hkR : k < R.length := by omega
     obtain ⟨b1, o1, hA1, hS1, hc1⟩ := hn.b (fun e => by have := aX bs; rw [e] at this; simp at this; omega)
     obtain ⟨b4, o4, hA4, hS4, hc4⟩ := hn.c (map_ne hkR)
     have hrowk := gM hkR
     have hrow := hn.rows _ (List.getElem_mem hkR)
     obtain ⟨b5, o5, hA5, hS5, hc5⟩ := hrow.1 (fun e => by have := aX (R[k]'hkR).2.1; rw [e] at this; simp at this; rw [hrowk] at hlen; omega)
     refine aW ?_;refine aL (kh13 _ _ ?_);clear kh13;refine aK fun K15 kh15 => ?_;refine aY ?_;refine aK fun K16 kh16 => ?_;refine aB ?_;refine aA rfl rfl rfl (a8 (vs := [_, _]) Tryz.isAgg24 Tryz.sizeOf24 rfl rfl ⟨(rdA rfl), (rdA rfl), trivial⟩) ?_;refine aA rfl rfl rfl (a8 (vs := [_, _]) Tryz.isAgg32 Tryz.sizeOf32 rfl rfl ⟨(rdA rfl), (rdA rfl), trivial⟩) ?_;refine aA rfl rfl rfl (aG rfl) ?_;refine aR rfl rfl rfl (bD Tryz.call12 rfl (fun w_ hp_ => (by have h := NMany_spec (n : Int) A l cap Ab bs cb Ac R cc ((k : Int) + 1) w_ (hr.up0 hp_) hl hN hok (hn.up0 hp_); rw [lkE_ok hNo hk, if_neg (by simp), show ((k : Int) + 1).toNat - 1 = k by omega, hm] at h; exact h)) ?_);rintro _ _ ⟨rfl, rfl⟩;dsimp only [List.cons_append, List.nil_append];refine aA rfl rfl rfl (aG rfl) ?_;refine aA rfl rfl rfl (aV rfl rfl) ?_;refine aA rfl rfl rfl (aV rfl rfl) ?_;refine aA rfl rfl rfl (aF rfl) ?_;refine aA rfl rfl rfl (aF rfl) ?_;refine aJ ?_;refine aL (kh16 _ _ ?_);clear kh16;refine aK fun K17 kh17 => ?_;refine aK fun K18 kh18 => ?_;refine aB ?_;refine aA rfl rfl rfl (aG rfl) ?_;refine aA rfl rfl rfl (c6 rfl rfl) ?_;refine aJ ?_;refine aL (kh18 _ _ ?_);clear kh18;refine e7 rfl (by simp) ?_;refine aW ?_;refine aL (kh17 _ _ ?_);clear kh17;refine aK fun K19 kh19 => ?_;refine aB ?_;refine aA rfl rfl rfl (aQ eE rfl) ?_;refine aA rfl rfl rfl (aM Tryz.isAgg3 rfl (rdA rfl)) ?_;refine aR rfl rfl rfl (d3 el43 rfl rfl n rfl (by omega) (by omega) (dW (List.replicate n false)) (reps_boolP n false) fun b56 => ?_);refine aA rfl rfl rfl (aF rfl) ?_;refine aJ ?_;refine aL (kh19 _ _ ?_);clear kh19;refine aK fun K20 kh20 => ?_;refine aK fun K21 kh21 => ?_;refine aB ?_;refine aA rfl rfl rfl (aG rfl) ?_;refine aA rfl rfl rfl (aG rfl) ?_;refine aJ ?_;refine aL (kh21 _ _ ?_);clear kh21;refine aY ?_;refine cS (α := Nat × List Bool) [2, 3, 7, 10, 57] (fun ⟨c, sd⟩ => [(58, .int .i64 (c : Int))]) (fun ⟨c, sd⟩ => [[(b56, blk (dW sd) 4)], [(b2, blk [.int .i64 (n : Int), .slice A l.length cap] 24)], [(b3, blk [.slice Ab bs.length cb, .slice Ac R.length cc] 32)]]) (fun ⟨c, sd⟩ => c ≤ m ∧ sd.length = n ∧ ∀ v, v < n → sd.getD v false = decide (((bI R).getD k []).getD v 0 < (c : Int))) (fun ⟨c, sd⟩ => m - c) (0, List.replicate n false) ?_ ?_ ?_ ?_
     · exact (by repeat constructor)
     · repeat first|exact aI|refine aD ?_|refine aC rfl ?_|refine aH ?_
     · exact ⟨Nat.zero_le _, by simp, fun v hv => by rw [decide_eq_false (by have := hlab v hv; omega)]; simp [List.getD_eq_getElem?_getD, hv]⟩
     ·
      rintro ⟨c, sd⟩ ⟨hcm0, hs1l, hs1⟩;refine eX (e := [(58, _), (2, _), (3, _), (7, _), (10, _), (57, _)]) (by repeat constructor) ?_;refine aK fun K22 kh22 => ?_;refine aB ?_;refine aA rfl rfl rfl (cD rfl rfl) ?_;refine aJ ?_;refine aL (kh22 _ _ ?_);clear kh22;refine aK fun K23 kh23 => ?_;refine aZ rfl (fun c59 => ?_) (fun c59 => ?_)
      ·
       have hcm : (c : Int) < d4 ((bI R).getD k []) + 1 := by omega
       have hce := clE_at hNo hk hcm
       have hmpos := mem_pos hRk (by omega) hcm
       have hmc := memTo_cnt ((bI R).getD k []) (c : Int)
       have hsz := hNo.size hk (c : Int)
       have hml := jQ ((bI R).getD k []) (c : Int) ((bI R).getD k []).length
       refine aW ?_;refine aL (kh23 _ _ ?_);clear kh23;refine aK fun K24 kh24 => ?_;refine aY ?_;refine aK fun K25 kh25 => ?_;refine aB ?_;refine aA rfl rfl rfl (aG rfl) ?_;refine aA rfl rfl rfl (aF rfl) ?_;refine aJ ?_;refine aL (kh25 _ _ ?_);clear kh25;refine aK fun K26 kh26 => ?_;refine aB ?_;refine aA rfl rfl rfl (a8 (vs := [_, _]) Tryz.isAgg24 Tryz.sizeOf24 rfl rfl ⟨(rdA rfl), (rdA rfl), trivial⟩) ?_;refine aA rfl rfl rfl (a8 (vs := [_, _]) Tryz.isAgg32 Tryz.sizeOf32 rfl rfl ⟨(rdA rfl), (rdA rfl), trivial⟩) ?_;refine aA rfl rfl rfl (aG rfl) ?_;refine aA rfl rfl rfl (aG rfl) ?_;refine aR rfl rfl rfl (bD Tryz.call13 rfl (fun w_ hp_ => (by have h := NMembers_spec (n : Int) A l cap Ab bs cb Ac R cc ((k : Int) + 1) (c : Int) w_ (hr.up0 hp_) hl hN hok (hn.up0 hp_); rw [hce, show ((k : Int) + 1).toNat - 1 = k by omega] at h; exact h)) ?_);rintro _ _ ⟨M_, AM, cM, mM, rfl, rfl, hoM, _, hM0⟩;obtain rfl := hM0 rfl
       obtain ⟨bM, spM, rfl, rfl⟩ := hoM.at_ hmpos
       dsimp only [List.cons_append, List.nil_append];refine aA rfl rfl rfl (aG rfl) ?_;refine aA rfl rfl rfl (aV rfl rfl) ?_;refine aA rfl rfl rfl (aV rfl rfl) ?_;refine aA rfl rfl rfl (aF rfl) ?_;refine aA rfl rfl rfl (aF rfl) ?_;refine aJ ?_;refine aL (kh26 _ _ ?_);clear kh26;refine aK fun K27 kh27 => ?_;refine aK fun K28 kh28 => ?_;refine aB ?_;refine aA rfl rfl rfl (aG rfl) ?_;refine aA rfl rfl rfl (c6 rfl rfl) ?_;refine aA rfl rfl rfl (aG rfl) ?_;refine lD 71 rfl (by simp) ?_;refine aO rfl rfl rfl rfl rfl (aG rfl) ?_;refine aO rfl rfl rfl rfl rfl (bS bK rfl) ?_;refine aO rfl rfl rfl rfl rfl (fM rfl rfl) ?_;refine aA rfl rfl rfl (cO rfl rfl) ?_;refine aA rfl rfl rfl (aG rfl) ?_;refine lD 76 rfl (by omega) ?_;refine aO rfl rfl rfl rfl rfl (aG rfl) ?_;refine aO rfl rfl rfl rfl rfl (bS bK rfl) ?_;refine aO rfl rfl rfl rfl rfl (aQ fa32_0 rfl) ?_;refine aO rfl rfl rfl rfl rfl (aM Tryz.isAgg25 rfl (v := .slice (some ⟨b1, o1, none⟩) bs.length cb) (rdA (by rw [← hA1]; rfl))) ?_;refine aO rfl rfl rfl rfl rfl (aG rfl) ?_;refine aO rfl rfl rfl rfl rfl (fV rfl rfl _ (Eq.trans (aT (by omega)) (show _ = (k : Int) by omega))) ?_;refine aO rfl rfl rfl rfl rfl (bA bK rfl rfl (o1 + k) ⟨by omega, by omega, by first | omega | (simp; done) | (simp; omega)⟩) ?_;refine aO rfl rfl rfl rfl rfl (aM Tryz.isAgg3 rfl (dX (enc := (.int .i64 ·)) hS1 hc1 hk)) ?_;refine aO rfl rfl rfl rfl rfl (eQ rfl rfl) ?_;refine aA rfl rfl rfl (cO rfl rfl) ?_;refine aJ ?_;refine aL (kh28 _ _ ?_);clear kh28;refine e7 rfl (by rw [bs_at hk] at hsz; omega) ?_;refine aW ?_;refine aL (kh27 _ _ ?_);clear kh27;refine aK fun K29 kh29 => ?_;refine aK fun K30 kh30 => ?_;refine aB ?_;refine aA rfl rfl rfl (aG rfl) ?_;refine aA rfl rfl rfl (bS bK rfl) ?_;refine aA rfl rfl rfl (aG rfl) ?_;refine aJ ?_;refine aL (kh30 _ _ ?_);clear kh30;refine aY ?_;refine cS (α := Nat × List Bool) [2, 3, 7, 10, 11, 12, 57, 58, 87, 88] (fun ⟨i, sd2⟩ => [(89, .int .i64 (i : Int))]) (fun ⟨i, sd2⟩ => [[(b56, blk (dW sd2) 4)], [(bM, blk (a6 (dM ((bI R).getD k []) (c : Int) ((bI R).getD k []).length) ++ spM) 3)], [(b2, blk [.int .i64 (n : Int), .slice A l.length cap] 24)], [(b3, blk [.slice Ab bs.length cb, .slice Ac R.length cc] 32)]]) (fun ⟨i, sd2⟩ => i ≤ (dM ((bI R).getD k []) (c : Int) ((bI R).getD k []).length).length ∧ sd2.length = n ∧ ∀ v, v < n → sd2.getD v false = (decide (((bI R).getD k []).getD v 0 < (c : Int)) || decide ((v : Int) ∈ (dM ((bI R).getD k []) (c : Int) ((bI R).getD k []).length).take i))) (fun ⟨i, sd2⟩ => (dM ((bI R).getD k []) (c : Int) ((bI R).getD k []).length).length - i) (0, sd) ?_ ?_ ?_ ?_
       · exact (by repeat constructor)
       · repeat first|exact aI|refine aD ?_|refine aC rfl ?_|refine aH ?_
       · exact ⟨Nat.zero_le _, hs1l, fun v hv => by rw [hs1 v hv]; simp⟩
       ·
        rintro ⟨i, sd2⟩ ⟨hil, hs2l, hs2⟩;refine eX (e := [(89, _), (2, _), (3, _), (7, _), (10, _), (11, _), (12, _), (57, _), (58, _), (87, _), (88, _)]) (by repeat constructor) ?_;refine aK fun K31 kh31 => ?_;refine aB ?_;refine aA rfl rfl rfl (cD rfl rfl) ?_;refine aJ ?_;refine aL (kh31 _ _ ?_);clear kh31;refine aK fun K32 kh32 => ?_;refine aZ rfl (fun c90 => ?_) (fun c90 => ?_)
        ·
         have hi : i < (dM ((bI R).getD k []) (c : Int) ((bI R).getD k []).length).length := by omega
         obtain ⟨v, hv, hvl, hvc⟩ := gW.1 (List.getElem_mem hi)
         have hvn : v < n := by omega
         have hnot : (v : Int) ∉ (dM ((bI R).getD k []) (c : Int) ((bI R).getD k []).length).take i := by rw [← hv]; exact fun h => absurd (memTo_nodup ((bI R).getD k []) (c : Int) ((bI R).getD k []).length) (nodup_not hi h)
         have hsv : sd2.getD v false = false := by rw [hs2 v hvn, decide_eq_false (by omega), decide_eq_false hnot]; rfl
         have hvr : v < (R[k]'hkR).2.1.length := by rw [← hrowk]; exact hvl
         have hgv : (R[k]'hkR).2.1[v] = (c : Int) := by
           rw [hrowk] at hvc;rw [← hvc, List.getD_eq_getElem?_getD, List.getElem?_eq_getElem hvr]; rfl
         refine aW ?_;refine aL (kh32 _ _ ?_);clear kh32;refine aK fun K33 kh33 => ?_;refine aY ?_;refine aK fun K34 kh34 => ?_;refine aB ?_;refine aA rfl rfl rfl (bA bK rfl rfl (i) ⟨by omega, by omega, by first | omega | (simp; done) | (simp; omega)⟩) ?_;refine aA rfl rfl rfl (aM Tryz.isAgg3 rfl (rdA (v := .int .i64 (v : Int)) (dN (by rw [dL hi, hv])))) ?_;refine aA rfl rfl rfl (aF rfl) ?_;refine aJ ?_;refine aL (kh34 _ _ ?_);clear kh34;refine aK fun K35 kh35 => ?_;refine aK fun K36 kh36 => ?_;refine aB ?_;refine aA rfl rfl rfl (aG rfl) ?_;refine aA rfl rfl rfl (aG rfl) ?_;refine aA rfl rfl rfl (bA kW rfl rfl (v) ⟨by omega, by omega, by first | omega | (simp; done) | (simp; omega)⟩) ?_;refine aA rfl rfl rfl (aM Tryz.isAgg4 rfl (rdA (v := .bool false) (by rw [boolsG_at (by omega), hsv]))) ?_;refine aA rfl rfl rfl (aG rfl) ?_;refine aO rfl rfl rfl rfl rfl (aQ iQ rfl) ?_;refine aO rfl rfl rfl rfl rfl (aM Tryz.isAgg30 rfl (v := .slice (some ⟨b4, o4, none⟩) R.length cc) (rdA (by rw [← hA4]; rfl))) ?_;refine aO rfl rfl rfl rfl rfl (aG rfl) ?_;refine aO rfl rfl rfl rfl rfl (fV rfl rfl _ (Eq.trans (aT (by omega)) (show _ = (k : Int) by omega))) ?_;refine aO rfl rfl rfl rfl rfl (bA gD rfl rfl (o4 + k) ⟨by omega, by omega, by first | omega | (simp; done) | (simp; omega)⟩) ?_;refine aO rfl rfl rfl rfl rfl (aM Tryz.isAgg25 rfl (v := .slice (some ⟨b5, o5, none⟩) (R[k]'hkR).2.1.length (R[k]'hkR).2.2) (show Rd _ _ _ _ _ (Value.slice (some ⟨b5, o5, none⟩) (R[k]'hkR).2.1.length (R[k]'hkR).2.2) by rw [← hA5]; exact dX (enc := eO) hS4 hc4 hkR)) ?_;refine aO rfl rfl rfl rfl rfl (aG rfl) ?_;refine aO rfl rfl rfl rfl rfl (bA bK rfl rfl (o5 + v) ⟨by omega, by omega, by first | omega | (simp; done) | (simp; omega)⟩) ?_;refine aO rfl rfl rfl rfl rfl (aM Tryz.isAgg3 rfl (show Rd _ _ _ _ _ (.int .i64 (c : Int)) by rw [← hgv]; exact dX (enc := (.int .i64 ·)) hS5 hc5 hvr)) ?_;refine aO rfl rfl rfl rfl rfl (aG rfl) ?_;refine aO rfl rfl rfl rfl rfl (c6 rfl rfl) ?_;refine aA rfl rfl rfl (cO rfl rfl) ?_;refine aJ ?_;refine aL (kh36 _ _ ?_);clear kh36;refine e7 rfl (by simp) ?_;refine aW ?_;refine aL (kh35 _ _ ?_);clear kh35;refine aB ?_;refine aA rfl rfl rfl (aG rfl) ?_;refine aA rfl rfl rfl (aG rfl) ?_;refine aA rfl rfl rfl (bA kW rfl rfl (v) ⟨by omega, by omega, by first | omega | (simp; done) | (simp; omega)⟩) ?_;refine bF rfl rfl (cB Tryz.sizeOf4 rfl rfl rfl rfl (by simp [dW]; omega) (dW (sd2.set v true)) (by rw [l8]) ?_);refine aJ ?_;refine cV ?_;refine aL (kh33 _ _ ?_);clear kh33;refine aB ?_;refine aA rfl rfl rfl (bG rfl rfl _ (aT (by omega))) ?_;refine aA rfl rfl rfl (aG rfl) ?_;refine aJ ?_
         refine aL (bB (i + 1, sd2.set v true) (by first | omega | (dsimp only; omega) | (simp; omega)) ⟨by omega, by simpa using hs2l, fun u hu => by
           rw [getD_set, List.take_succ_eq_append_getElem hi]
           by_cases e : v = u
           · subst e; rw [if_pos ⟨rfl, by omega⟩, hv]; simp
           · rw [if_neg (fun h => e h.1), hs2 u hu]
             congr 1
             rw [decide_eq_decide, List.mem_append, List.mem_singleton, hv];constructor
             · exact .inl
             · rintro (h | h)
               · exact h
               · omega⟩ ?_ ?_ ?_)
         · exact (by repeat constructor)
         · exact (by repeat constructor)
         · repeat first|exact aI|refine aD ?_|refine aC rfl ?_|refine aH ?_
        ·
         refine cG ?_;refine cK ?_;clear kh32;refine cK ?_;refine d5 ?_;refine aL (kh29 _ _ ?_);clear kh29;refine aK fun K37 kh37 => ?_;refine aK fun K38 kh38 => ?_;refine aB ?_;refine aA rfl rfl rfl (aG rfl) ?_;refine aA rfl rfl rfl (fM rfl rfl) ?_;refine aJ ?_;refine aL (kh38 _ _ ?_);clear kh38;refine aZ rfl (fun c115 => ?_) (fun c115 => ?_)
         ·
          have hk0 : k = 0 := by omega
          refine cG ?_;refine cK ?_;clear kh37;refine d5 ?_;refine aL (kh24 _ _ ?_);clear kh24;refine aB ?_;refine aA rfl rfl rfl (bG rfl rfl _ (aT (by omega))) ?_;refine aA rfl rfl rfl (aG rfl) ?_;refine aJ ?_
          refine aL (bB (c + 1, sd2) (by first | omega | (dsimp only; omega) | (simp; omega)) ⟨by omega, hs2l, fun v hv => by
            rw [hs2 v hv, Bool.eq_iff_iff, Bool.or_eq_true, decide_eq_true_eq, decide_eq_true_eq, decide_eq_true_eq, List.take_of_length_le (by omega), gW];constructor
            · rintro (h | ⟨u, h1, h2, h3⟩)
              · omega
              · obtain rfl : v = u := by omega
                omega
            · intro h
              by_cases h4 : ((bI R).getD k []).getD v 0 < (c : Int)
              · exact .inl h4
              · exact .inr ⟨v, rfl, by rw [hlen]; exact hv, by omega⟩⟩ ?_ ?_ ?_)
          · exact (by repeat constructor)
          · exact (by repeat constructor)
          · repeat first|exact aI|refine aD ?_|refine aC rfl ?_|refine aH ?_
         ·
          obtain ⟨k1, hk1⟩ : ∃ k1, k = k1 + 1 := ⟨k - 1, by omega⟩
          have hche : chE (n : Int) l bs (bI R) ((k : Int) + 1) (c : Int) = 0 := by unfold chE; rw [hce, if_neg (by simp), if_neg (by omega)]
          have hcs := ch_sum hNo hk1 hk (c := (c : Int))
          have hcn := ch_nodup (bI R) ((k : Int) + 1) (c : Int)
          have hcl := ch_len (bI R) k (c : Int)
          refine aW ?_;refine aL (kh37 _ _ ?_);clear kh37;refine aK fun K39 kh39 => ?_;refine aB ?_;refine aA rfl rfl rfl (a8 (vs := [_, _]) Tryz.isAgg24 Tryz.sizeOf24 rfl rfl ⟨(rdA rfl), (rdA rfl), trivial⟩) ?_;refine aA rfl rfl rfl (a8 (vs := [_, _]) Tryz.isAgg32 Tryz.sizeOf32 rfl rfl ⟨(rdA rfl), (rdA rfl), trivial⟩) ?_;refine aA rfl rfl rfl (aG rfl) ?_;refine aA rfl rfl rfl (aG rfl) ?_;refine aR rfl rfl rfl (bD Tryz.call14 rfl (fun w_ hp_ => (by have h := NChildren_spec (n : Int) A l cap Ab bs cb Ac R cc ((k : Int) + 1) (c : Int) w_ (hr.up0 hp_) hl hN hok (hn.up0 hp_); rw [hche] at h; exact h)) ?_);rintro _ _ ⟨C_, AC, cC, mC, rfl, rfl, hoC, _, hC0⟩;obtain rfl := hC0 rfl
          dsimp only [List.cons_append, List.nil_append];refine aA rfl rfl rfl (aG rfl) ?_;refine aA rfl rfl rfl (aV rfl rfl) ?_;refine aA rfl rfl rfl (aV rfl rfl) ?_;refine aA rfl rfl rfl (aF rfl) ?_;refine aA rfl rfl rfl (aF rfl) ?_;refine aJ ?_;refine aL (kh39 _ _ ?_);clear kh39;refine aK fun K40 kh40 => ?_;refine aB ?_;refine aA rfl rfl rfl (aF rfl) ?_;refine aJ ?_;refine aL (kh40 _ _ ?_);clear kh40;refine aK fun K41 kh41 => ?_;refine aK fun K42 kh42 => ?_;refine aB ?_;refine aA rfl rfl rfl (aG rfl) ?_;refine aA rfl rfl rfl (bS bK rfl) ?_;refine aA rfl rfl rfl (aG rfl) ?_;refine aJ ?_;refine aL (kh42 _ _ ?_);clear kh42;refine aY ?_;refine cS (α := Nat × Nat) [2, 3, 7, 10, 11, 12, 17, 57, 58, 124, 125] (fun ⟨j, s⟩ => [(126, .int .i64 (j : Int)), (18, .int .i64 (s : Int))]) (fun ⟨j, s⟩ => [[(b56, blk (dW sd2) 4)], mC, [(bM, blk (a6 (dM ((bI R).getD k []) (c : Int) ((bI R).getD k []).length) ++ spM) 3)], [(b2, blk [.int .i64 (n : Int), .slice A l.length cap] 24)], [(b3, blk [.slice Ab bs.length cb, .slice Ac R.length cc] 32)]]) (fun ⟨j, s⟩ => j ≤ (chL (bI R) ((k : Int) + 1) (c : Int)).length ∧ s = inCnt n ((bI R).getD k1 []) ((chL (bI R) ((k : Int) + 1) (c : Int)).take j)) (fun ⟨j, s⟩ => (chL (bI R) ((k : Int) + 1) (c : Int)).length - j) (0, 0) ?_ ?_ ?_ ?_
          · exact (by repeat constructor)
          · repeat first|exact aI|refine aD ?_|refine aC rfl ?_|refine aH ?_
          · exact ⟨Nat.zero_le _, by rw [List.take_zero, inCnt_zero]⟩
          ·
           rintro ⟨j, s⟩ ⟨hjl, hsum⟩;refine eX (e := [(126, _), (18, _), (2, _), (3, _), (7, _), (10, _), (11, _), (12, _), (17, _), (57, _), (58, _), (124, _), (125, _)]) (by repeat constructor) ?_;refine aK fun K43 kh43 => ?_;refine aB ?_;refine aA rfl rfl rfl (cD rfl rfl) ?_;refine aJ ?_;refine aL (kh43 _ _ ?_);clear kh43;refine aK fun K44 kh44 => ?_;refine aZ rfl (fun c127 => ?_) (fun c127 => ?_)
           ·
            have hj : j < (chL (bI R) ((k : Int) + 1) (c : Int)).length := by omega
            obtain ⟨bC, spC, rfl, rfl⟩ := hoC.at_ (by omega)
            have hxr := ch_rng hNo hk1 hk (List.getElem_mem hj)
            obtain ⟨x, hx⟩ : ∃ x : Nat, (chL (bI R) ((k : Int) + 1) (c : Int))[j] = (x : Int) := ⟨_, (Int.toNat_of_nonneg hxr.1).symm⟩
            rw [hx] at hxr;have hcx := clE_at hNo (show k1 < bs.length by omega) hxr.2
            have hpx : paE (n : Int) l bs (bI R) ((k1 : Int) + 1) (x : Int) = 0 := by unfold paE; rw [hcx, if_neg (by simp), if_neg (by omega)]
            have hpv : paV (bI R) ((k1 : Int) + 1) (x : Int) = (c : Int) := by rw [← hx]; exact ch_parent hNo hk1 hk (List.getElem_mem hj)
            have hlen1 := hNo.rowlen (k := k1) (by omega)
            have hic := inCnt_next (n := n) (B := ((bI R).getD k1 [])) hj hcn
            rw [hx, show dM ((bI R).getD k1 []) (x : Int) n = dM ((bI R).getD k1 []) (x : Int) ((bI R).getD k1 []).length by rw [hlen1]] at hic;have hile := inCnt_le n ((bI R).getD k1 []) ((chL (bI R) ((k : Int) + 1) (c : Int)).take j)
            have hml1 := jQ ((bI R).getD k1 []) (x : Int) ((bI R).getD k1 []).length
            refine aW ?_;refine aL (kh44 _ _ ?_);clear kh44;refine aK fun K45 kh45 => ?_;refine aY ?_;refine aK fun K46 kh46 => ?_;refine aB ?_;refine aA rfl rfl rfl (bA bK rfl rfl (j) ⟨by omega, by omega, by first | omega | (simp; done) | (simp; omega)⟩) ?_;refine aA rfl rfl rfl (aM Tryz.isAgg3 rfl (rdA (v := .int .i64 (x : Int)) (dN (by rw [dL hj, hx])))) ?_;refine aA rfl rfl rfl (aF rfl) ?_;refine aJ ?_;refine aL (kh46 _ _ ?_);clear kh46;refine aK fun K47 kh47 => ?_;refine aB ?_;refine aA rfl rfl rfl (a8 (vs := [_, _]) Tryz.isAgg24 Tryz.sizeOf24 rfl rfl ⟨(rdA rfl), (rdA rfl), trivial⟩) ?_;refine aA rfl rfl rfl (a8 (vs := [_, _]) Tryz.isAgg32 Tryz.sizeOf32 rfl rfl ⟨(rdA rfl), (rdA rfl), trivial⟩) ?_;refine aA rfl rfl rfl (aG rfl) ?_;refine aA rfl rfl rfl (fV rfl rfl _ (Eq.trans (aT (by omega)) (show _ = ((k1 : Int) + 1) by omega))) ?_;refine aA rfl rfl rfl (aG rfl) ?_;refine aR rfl rfl rfl (bD Tryz.call13 rfl (fun w_ hp_ => (by have h := NMembers_spec (n : Int) A l cap Ab bs cb Ac R cc ((k1 : Int) + 1) (x : Int) w_ (hr.up0 hp_) hl hN hok (hn.up0 hp_); rw [hcx, show ((k1 : Int) + 1).toNat - 1 = k1 by omega] at h; exact h)) ?_);rintro _ _ ⟨M2, AM2, cM2, mM2, rfl, rfl, hoM2, _, hM20⟩;obtain rfl := hM20 rfl
            dsimp only [List.cons_append, List.nil_append];refine aA rfl rfl rfl (aG rfl) ?_;refine aA rfl rfl rfl (aV rfl rfl) ?_;refine aA rfl rfl rfl (aV rfl rfl) ?_;refine aA rfl rfl rfl (aF rfl) ?_;refine aA rfl rfl rfl (aF rfl) ?_;refine aJ ?_;refine aL (kh47 _ _ ?_);clear kh47;refine aK fun K48 kh48 => ?_;refine aB ?_;refine aA rfl rfl rfl (a8 (vs := [_, _]) Tryz.isAgg24 Tryz.sizeOf24 rfl rfl ⟨(rdA rfl), (rdA rfl), trivial⟩) ?_;refine aA rfl rfl rfl (a8 (vs := [_, _]) Tryz.isAgg32 Tryz.sizeOf32 rfl rfl ⟨(rdA rfl), (rdA rfl), trivial⟩) ?_;refine aA rfl rfl rfl (aG rfl) ?_;refine aA rfl rfl rfl (fV rfl rfl _ (Eq.trans (aT (by omega)) (show _ = ((k1 : Int) + 1) by omega))) ?_;refine aA rfl rfl rfl (aG rfl) ?_;refine aR rfl rfl rfl (bD Tryz.call15 rfl (fun w_ hp_ => (by have h := NParent_spec (n : Int) A l cap Ab bs cb Ac R cc ((k1 : Int) + 1) (x : Int) w_ (hr.up0 hp_) hl hN hok (hn.up0 hp_); rw [hpx, if_neg (by simp), hpv] at h; exact h)) ?_);rintro _ _ ⟨rfl, rfl⟩;dsimp only [List.cons_append, List.nil_append];refine aA rfl rfl rfl (aG rfl) ?_;refine aA rfl rfl rfl (aV rfl rfl) ?_;refine aA rfl rfl rfl (aV rfl rfl) ?_;refine aA rfl rfl rfl (aF rfl) ?_;refine aA rfl rfl rfl (aF rfl) ?_;refine aJ ?_;refine aL (kh48 _ _ ?_);clear kh48;refine aK fun K49 kh49 => ?_;refine aK fun K50 kh50 => ?_;refine aB ?_;refine aA rfl rfl rfl (aG rfl) ?_;refine aA rfl rfl rfl (c6 rfl rfl) ?_;refine aA rfl rfl rfl (aG rfl) ?_;refine lD 150 rfl (by simp) ?_;refine aO rfl rfl rfl rfl rfl (aG rfl) ?_;refine aO rfl rfl rfl rfl rfl (c6 rfl rfl) ?_;refine aA rfl rfl rfl (cO rfl rfl) ?_;refine aA rfl rfl rfl (aG rfl) ?_;refine lD 154 rfl (by simp) ?_;refine aO rfl rfl rfl rfl rfl (aG rfl) ?_;refine aO rfl rfl rfl rfl rfl (aG rfl) ?_;refine aO rfl rfl rfl rfl rfl (c6 rfl rfl) ?_;refine aA rfl rfl rfl (cO rfl rfl) ?_;refine aJ ?_;refine aL (kh50 _ _ ?_);clear kh50;refine e7 rfl (by simp) ?_;refine aW ?_;refine aL (kh49 _ _ ?_);clear kh49;refine aB ?_;refine aA rfl rfl rfl (aG rfl) ?_;refine aA rfl rfl rfl (aG rfl) ?_;refine aA rfl rfl rfl (bS bK rfl) ?_;refine aA rfl rfl rfl (bG rfl rfl _ (Eq.trans (aT (by omega)) (show _ = ((s + (dM ((bI R).getD k1 []) (x : Int) ((bI R).getD k1 []).length).length : Nat) : Int) by omega))) ?_;refine aA rfl rfl rfl (aF rfl) ?_;refine aJ ?_;refine cV ?_;refine aL (kh45 _ _ ?_);clear kh45;refine aB ?_;refine aA rfl rfl rfl (bG rfl rfl _ (aT (by omega))) ?_;refine aA rfl rfl rfl (aG rfl) ?_;refine aJ ?_;refine aL (bB (j + 1, s + (dM ((bI R).getD k1 []) (x : Int) ((bI R).getD k1 []).length).length) (by first | omega | (dsimp only; omega) | (simp; omega)) ⟨by omega, by omega⟩ ?_ ?_ ?_)
            · exact (by repeat constructor)
            · exact (by repeat constructor)
            · repeat first|exact aI|refine aD ?_|refine aC rfl ?_|refine aH ?_
           ·
            obtain rfl : j = (chL (bI R) ((k : Int) + 1) (c : Int)).length := by omega
            rw [List.take_length] at hsum;refine cG ?_;refine cK ?_;clear kh44;refine cK ?_;refine d5 ?_;refine aL (kh41 _ _ ?_);clear kh41;refine aK fun K51 kh51 => ?_;refine aB ?_;refine aA rfl rfl rfl (aG rfl) ?_;refine aA rfl rfl rfl (c6 rfl rfl) ?_;refine aA rfl rfl rfl (aG rfl) ?_;refine lD 166 rfl (by simp) ?_;refine aO rfl rfl rfl rfl rfl (aG rfl) ?_;refine aO rfl rfl rfl rfl rfl (aG rfl) ?_;refine aO rfl rfl rfl rfl rfl (bS bK rfl) ?_;refine aO rfl rfl rfl rfl rfl (c6 rfl rfl) ?_;refine aA rfl rfl rfl (cO rfl rfl) ?_;refine aJ ?_;refine aL (kh51 _ _ ?_);clear kh51;refine e7 rfl (by omega) ?_;refine aW ?_;refine cV ?_;refine aL (kh24 _ _ ?_);clear kh24;refine aB ?_;refine aA rfl rfl rfl (bG rfl rfl _ (aT (by omega))) ?_;refine aA rfl rfl rfl (aG rfl) ?_;refine aJ ?_
            refine aL (bB (c + 1, sd2) (by first | omega | (dsimp only; omega) | (simp; omega)) ⟨by omega, hs2l, fun v hv => by
              rw [hs2 v hv, Bool.eq_iff_iff, Bool.or_eq_true, decide_eq_true_eq, decide_eq_true_eq, decide_eq_true_eq, List.take_of_length_le (by omega), gW];constructor
              · rintro (h | ⟨u, h1, h2, h3⟩)
                · omega
                · obtain rfl : v = u := by omega
                  omega
              · intro h
                by_cases h4 : ((bI R).getD k []).getD v 0 < (c : Int)
                · exact .inl h4
                · exact .inr ⟨v, rfl, by rw [hlen]; exact hv, by omega⟩⟩ ?_ ?_ ?_)
            · exact (by repeat constructor)
            · exact (by repeat constructor)
            · repeat first|exact aI|refine aD ?_|refine aC rfl ?_|refine aH ?_
      ·
       obtain rfl : m = c := by omega
       have hall : ∀ v, v < n → sd.getD v false = true := fun v hv => by rw [hs1 v hv, decide_eq_true_eq]; have := hlab v hv; omega
       refine cG ?_;refine cK ?_;clear kh23;refine cK ?_;refine d5 ?_;refine aL (kh20 _ _ ?_);clear kh20;refine aK fun K52 kh52 => ?_;refine aB ?_;refine aA rfl rfl rfl (aG rfl) ?_;refine aA rfl rfl rfl (bS kW rfl) ?_;refine aA rfl rfl rfl (aG rfl) ?_;refine aJ ?_;refine aL (kh52 _ _ ?_);clear kh52;refine aY ?_;refine cS (α := Nat) [2, 3, 7, 10, 174] (fun v => [(175, .int .i64 (v : Int))]) (fun v => [[(b56, blk (dW sd) 4)], [(b2, blk [.int .i64 (n : Int), .slice A l.length cap] 24)], [(b3, blk [.slice Ab bs.length cb, .slice Ac R.length cc] 32)]]) (fun v => v ≤ n) (fun v => n - v) (0) ?_ ?_ ?_ ?_
       · exact (by repeat constructor)
       · repeat first|exact aI|refine aD ?_|refine aC rfl ?_|refine aH ?_
       · exact Nat.zero_le _
       ·
        rintro v hvn;refine eX (e := [(175, _), (2, _), (3, _), (7, _), (10, _), (174, _)]) (by repeat constructor) ?_;refine aK fun K53 kh53 => ?_;refine aB ?_;refine aA rfl rfl rfl (cD rfl rfl) ?_;refine aJ ?_;refine aL (kh53 _ _ ?_);clear kh53;refine aK fun K54 kh54 => ?_;refine aZ rfl (fun c176 => ?_) (fun c176 => ?_)
        ·
         have hv : v < n := by omega
         refine aW ?_;refine aL (kh54 _ _ ?_);clear kh54;refine aK fun K55 kh55 => ?_;refine aY ?_;refine aK fun K56 kh56 => ?_;refine aB ?_;refine aA rfl rfl rfl (aG rfl) ?_;refine aA rfl rfl rfl (aF rfl) ?_;refine aJ ?_;refine aL (kh56 _ _ ?_);clear kh56;refine aK fun K57 kh57 => ?_;refine aB ?_;refine aA rfl rfl rfl (aG rfl) ?_;refine aA rfl rfl rfl (aG rfl) ?_;refine aA rfl rfl rfl (bA kW rfl rfl (v) ⟨by omega, by omega, by first | omega | (simp; done) | (simp; omega)⟩) ?_;refine aA rfl rfl rfl (aM Tryz.isAgg4 rfl (rdA (v := .bool true) (by rw [boolsG_at (by omega), hall v hv]))) ?_;refine aA rfl rfl rfl (kG rfl) ?_;refine aJ ?_;refine aL (kh57 _ _ ?_);clear kh57;refine gZ rfl ?_;refine aW ?_;refine cV ?_;refine aL (kh55 _ _ ?_);clear kh55;refine aB ?_;refine aA rfl rfl rfl (bG rfl rfl _ (aT (by omega))) ?_;refine aA rfl rfl rfl (aG rfl) ?_;refine aJ ?_;refine aL (bB (v + 1) (by first | omega | (dsimp only; omega) | (simp; omega)) (by omega) ?_ ?_ ?_)
         · exact (by repeat constructor)
         · exact (by repeat constructor)
         · repeat first|exact aI|refine aD ?_|refine aC rfl ?_|refine aH ?_
        ·
         refine cG ?_;refine cK ?_;clear kh54;refine cK ?_;refine d5 ?_;refine cV ?_;refine aL (kh15 _ _ ?_);clear kh15;refine aB ?_;refine aA rfl rfl rfl (aG rfl) ?_;refine aA rfl rfl rfl (bG rfl rfl _ (Eq.trans (aT (by omega)) (show _ = (((k + 1 : Nat) : Int) + 1) by omega))) ?_;refine aA rfl rfl rfl (aF rfl) ?_;refine aJ ?_;refine aL (bB (k + 1) (by first | omega | (dsimp only; omega) | (simp; omega)) (by omega) ?_ ?_ ?_)
         · exact (by repeat constructor)
         · exact (by repeat constructor)
         · repeat first|exact aI|refine aD ?_|refine aC rfl ?_|refine aH ?_
    · refine cG ?_;refine cK ?_;clear kh13;refine cK ?_;refine d5 ?_;refine aL (kh11 _ _ ?_);clear kh11;refine aK fun K58 kh58 => ?_;refine aB ?_;refine aA rfl rfl rfl (aF rfl) ?_;refine aJ ?_;refine aL (kh58 _ _ ?_);clear kh58;refine a7 ?_;exact bP [] Tryz.results5 rfl aI ⟨rfl, rfl⟩
end Go.Proofs.YtjjogcnjcnpehaaGreat

/- How graphs of this program read. -/
namespace Go.Proofs.YtjjogcnjcnpehaaGreat
open Go Go.RowKit Fly
set_option linter.unusedVariables false
set_option linter.unusedSimpArgs false
theorem rdArc {H : Type} {enc : TypeId × Value → H} (W : World) : Reads enc Tryz.prog W 48 cE dQ :=
  reads_arc Tryz.underlying48 (by kernel_rfl) ⟨rfl, by kernel_rfl⟩ ⟨rfl, by kernel_rfl⟩ ⟨rfl, by kernel_rfl⟩ Tryz.underlying3 Tryz.underlying3 Tryz.underlying46
theorem rdGraph {H : Type} {enc : TypeId × Value → H} (W : World) : Reads enc Tryz.prog W 24 (fun x : Int × Option Addr × List Arc × Nat => [.int .i64 x.1, .slice x.2.1 x.2.2.1.length x.2.2.2]) (fun x => GrIn W x.1 x.2.1 x.2.2.1 x.2.2.2) :=
  reads_graph Tryz.underlying24 (by kernel_rfl) ⟨rfl, by kernel_rfl⟩ ⟨rfl, by kernel_rfl⟩ Tryz.underlying3 Tryz.underlying22 (by kernel_rfl) (rdArc W)
end Go.Proofs.YtjjogcnjcnpehaaGreat

/- How nests and plans read. -/
namespace Go.Proofs.YtjjogcnjcnpehaaGreat
open Go Go.RowKit Fly
set_option linter.unusedVariables false
set_option linter.unusedSimpArgs false
abbrev RowIn (W : World) (r : Row) : Prop := SlIn W (fun n : Int => [.int .i64 n]) I64 r.1 r.2.1 r.2.2
abbrev NestIn (W : World) (x : Option Addr × List Int × Nat × Option Addr × List Row × Nat) : Prop := SlIn W (fun n : Int => [.int .i64 n]) I64 x.1 x.2.1 x.2.2.1 ∧ SlIn W (fun r : Row => [eO r]) (RowIn W) x.2.2.2.1 x.2.2.2.2.1 x.2.2.2.2.2
theorem rdRow {H : Type} {enc : TypeId × Value → H} (W : World) : Reads enc Tryz.prog W 25 (fun r : Row => [eO r]) (RowIn W) :=
  reads_slice (cells := fun n : Int => [.int .i64 n]) (sz := 1) Tryz.underlying25 (by kernel_rfl) (fun _ => rfl) (by omega) (reads_i64 Tryz.underlying3)
theorem rdNest {H : Type} {enc : TypeId × Value → H} (W : World) : Reads enc Tryz.prog W 32 (fun x : Option Addr × List Int × Nat × Option Addr × List Row × Nat => [.slice x.1 x.2.1.length x.2.2.1, .slice x.2.2.2.1 x.2.2.2.2.1.length x.2.2.2.2.2]) (NestIn W) :=
  (reads2 (ca := fun x : Row => eO x) (cb := fun x : Option Addr × List Row × Nat => .slice x.1 x.2.1.length x.2.2) Tryz.underlying32 (by kernel_rfl) ⟨rfl, by kernel_rfl⟩ ⟨rfl, by kernel_rfl⟩
    (rdRow W) (reads_slice (cells := fun r : Row => [eO r]) (sz := 1) Tryz.underlying30 (by kernel_rfl) (fun _ => rfl) (by omega) (rdRow W))).map
    (fun x => ((x.1.1, x.1.2.1, x.1.2.2, x.2.1, x.2.2.1, x.2.2.2) : Option Addr × List Int × Nat × Option Addr × List Row × Nat)) (fun x => rfl) fun x hx => hx
theorem nest_in {W : World} {x : Option Addr × List Int × Nat × Option Addr × List Row × Nat} (h : NestIn W x) : NestRo (Fr W []) W x.1 x.2.1 x.2.2.2.1 x.2.2.2.2.1 where
  b := by have := h.1.ro; rwa [flat_one] at this
  bl := Nat.le_trans h.1.le h.1.max
  c := by have := h.2.ro; rwa [flat_one] at this
  cl := Nat.le_trans h.2.le h.2.max
  rows := fun r hr => ⟨by have := (h.2.ok r hr).ro; rwa [flat_one] at this, Nat.le_trans (h.2.ok r hr).le (h.2.ok r hr).max⟩
end Go.Proofs.YtjjogcnjcnpehaaGreat
