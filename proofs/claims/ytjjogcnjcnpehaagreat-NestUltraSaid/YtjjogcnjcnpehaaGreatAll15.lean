import Derived.Test.YtjjogcnjcnpehaaGreatAll14
import Derived.Test.YtjjogcnjcnpehaaGreatFlyT
import Derived.Test.YtjjogcnjcnpehaaGreatFlyR
import Derived.Test.YtjjogcnjcnpehaaGreatAll13

/- flyoverlaw11: NestUltra. -/
namespace Go.Proofs.YtjjogcnjcnpehaaGreat
open Go Go.RowKit Fly
set_option linter.unusedVariables false
set_option linter.unusedSimpArgs false
theorem apV_le (L : List (List Int)) (u v : Nat) : ∀ k, apV L u v k ≤ k
  | 0 => Nat.le_refl _
  | k + 1 => by
    have := apV_le L u v k
    unfold apV
    split <;> omega
theorem apV_same (L : List (List Int)) (u : Nat) : ∀ k, apV L u u k = 0
  | 0 => rfl
  | k + 1 => by
    unfold apV
    rw [if_neg (by simp)]; exact apV_same L u k
theorem apV_symm (L : List (List Int)) (u v : Nat) : ∀ k, apV L u v k = apV L v u k
  | 0 => rfl
  | k + 1 => by
    unfold apV
    rw [apV_symm L u v k]
    by_cases h : (L.getD k []).getD u 0 = (L.getD k []).getD v 0
    · rw [if_neg (by simpa using h), if_neg (by simpa using h.symm)]
    · rw [if_pos h, if_pos (fun e => h e.symm)]
theorem apV_ge {L : List (List Int)} {u v : Nat} : ∀ {k j : Nat}, j < k → (L.getD j []).getD u 0 ≠ (L.getD j []).getD v 0 → j + 1 ≤ apV L u v k
  | 0, _, h, _ => by omega
  | k + 1, j, h, hne => by
    unfold apV
    split
    · omega
    · rename_i he
      by_cases e : j = k
      · subst e; exact absurd hne he
      · exact apV_ge (by omega) hne
theorem apV_at {L : List (List Int)} {u v : Nat} : ∀ {k : Nat}, apV L u v k = 0 ∨ ∃ j, apV L u v k = j + 1 ∧ j < k ∧ (L.getD j []).getD u 0 ≠ (L.getD j []).getD v 0
  | 0 => .inl rfl
  | k + 1 => by
    unfold apV
    split
    · rename_i h; exact .inr ⟨k, rfl, by omega, h⟩
    · rcases apV_at (L := L) (u := u) (v := v) (k := k) with h | ⟨j, h1, h2, h3⟩
      · exact .inl h
      · exact .inr ⟨j, h1, by omega, h3⟩
theorem apV_ultra (L : List (List Int)) (u v w k : Nat) : apV L u v k ≤ max (apV L u w k) (apV L w v k) := by
  rcases apV_at (L := L) (u := u) (v := v) (k := k) with h | ⟨j, h1, h2, h3⟩
  · omega
  · by_cases h4 : (L.getD j []).getD u 0 = (L.getD j []).getD w 0
    · have h5 : (L.getD j []).getD w 0 ≠ (L.getD j []).getD v 0 := fun e => h3 (h4.trans e)
      have := apV_ge h2 h5
      omega
    · have := apV_ge h2 h4
      omega
/-- The table of levels, as far as it is filled. -/
def apT (L : List (List Int)) (n m k : Nat) : List Int := (List.range (n * n)).map fun i => if i < k then ((apV L (i / n) (i % n) m : Nat) : Int) else 0
theorem apT_len (L : List (List Int)) (n m k : Nat) : (apT L n m k).length = n * n := by simp [apT]
theorem apT_zero (L : List (List Int)) (n m : Nat) : apT L n m 0 = List.replicate (n * n) 0 := by
  refine List.ext_getElem (by simp [apT]) fun i h1 h2 => ?_;simp [apT]
theorem at_div {n u v : Nat} (hv : v < n) : (n * u + v) / n = u ∧ (n * u + v) % n = v := by
  have hn : 0 < n := by omega
  rw [Nat.mul_add_div hn, Nat.div_eq_of_lt hv, Nat.mul_add_mod, Nat.mod_eq_of_lt hv];exact ⟨rfl, rfl⟩
theorem apT_next {L : List (List Int)} {n m u v : Nat} (hv : v < n) (hk : n * u + v < n * n) : (apT L n m (n * u + v)).set (n * u + v) ((apV L u v m : Nat) : Int) = apT L n m (n * u + (v + 1)) := by
  obtain ⟨e1, e2⟩ := at_div (u := u) hv
  refine List.ext_getElem (by simp [apT]) fun i h1 h2 => ?_
  by_cases e : n * u + v = i
  · rw [List.getElem_set]
    rw [if_pos e];simp only [apT, List.getElem_map, List.getElem_range];rw [if_pos (by omega), ← e, e1, e2]
  · rw [List.getElem_set_ne e]
    simp only [apT, List.getElem_map, List.getElem_range]
    by_cases h3 : i < n * u + v
    · rw [if_pos h3, if_pos (by omega)]
    · rw [if_neg h3, if_neg (by omega)]
theorem apT_at {L : List (List Int)} {n m u v : Nat} (hu : u < n) (hv : v < n) : (aZ (apT L n m (n * n)))[n * u + v]? = some (.int .i64 ((apV L u v m : Nat) : Int)) := by
  have h1 : n * u + n ≤ n * n := Nat.mul_le_mul_left n (show u + 1 ≤ n by omega)
  obtain ⟨e1, e2⟩ := at_div (u := u) hv
  rw [dP (by rw [apT_len]; omega)];simp only [apT, List.getElem_map, List.getElem_range];rw [if_pos (by omega), e1, e2]
theorem mul_w {n u : Nat} (h : n * u ≤ 1000000) : IntKind.i64.wrap ((u : Int) * (n : Int)) = ((n * u : Nat) : Int) := by
  have e : (u : Int) * (n : Int) = ((n * u : Nat) : Int) := by rw [Int.natCast_mul, Int.mul_comm]
  rw [e]; exact aS (by omega)
theorem apE_ok {n : Nat} {l : List Arc} {bs : List Int} {L : List (List Int)} (h : NestOk n l bs L) {u v : Nat} (hu : u < n) (hv : v < n) : apE (n : Int) l bs L (u : Int) (v : Int) = 0 := by
  unfold apE
  rw [h.zero, if_neg (by simp), if_neg (by omega)]
set_option maxRecDepth 100000 in
set_option maxHeartbeats 4000000 in
theorem NestUltra_spec (N : Int) (A : Option Addr) (l : List Arc) (cap : Nat) (Ab : Option Addr) (bs : List Int) (cb : Nat) (Ac : Option Addr) (R : List Row) (cc : Nat) (w : World) (hr : Ro (Fr w []) w A (l.flatMap cF)) (hl : l.length ≤ 9223372036854775807) (hN : I64 N) (hok : ∀ x ∈ l, dX x) (hn : NestRo (Fr w []) w Ab bs Ac R) :
    Meets Tryz.prog 4 [.agg #[.int .i64 N, .slice A l.length cap], .agg #[.slice Ab bs.length cb, .slice Ac R.length cc]] w [] (fun u m => u = .bool true ∧ m = []) := by
 refine bM Tryz.func4 rfl Tryz.ntmps4 rfl Owns.nil ?_;refine aK fun K1 kh1 => ?_;refine aC ?_;refine aU rfl rfl rfl (dD rfl rfl fun b2 => ?_);refine aU rfl rfl rfl (dD rfl rfl fun b3 => ?_);refine aA rfl rfl rfl (aG rfl) ?_;refine aJ ?_;refine aL (kh1 _ _ ?_);clear kh1;refine aK fun K2 kh2 => ?_;refine aK fun K3 kh3 => ?_;refine aC ?_;refine aU rfl rfl rfl (bF Tryz.call6 rfl (fun w_ hp_ => works_spec w_) ?_);rintro _ _ ⟨rfl, rfl⟩;dsimp only [List.cons_append, List.nil_append];refine aA rfl rfl rfl (kR rfl) ?_;refine aJ ?_;refine aL (kh3 _ _ ?_);clear kh3;refine gR rfl ?_;refine aV ?_;refine aL (kh2 _ _ ?_);clear kh2;refine aK fun K4 kh4 => ?_;refine aK fun K5 kh5 => ?_;refine aC ?_;refine aA rfl rfl rfl (bD (vs := [_, _]) Tryz.isAgg24 Tryz.sizeOf24 rfl rfl ⟨(rdA rfl), (rdA rfl), trivial⟩) ?_;refine aA rfl rfl rfl (bD (vs := [_, _]) Tryz.isAgg32 Tryz.sizeOf32 rfl rfl ⟨(rdA rfl), (rdA rfl), trivial⟩) ?_;refine aU rfl rfl rfl (bF Tryz.call9 rfl (fun w_ hp_ => NCheck_spec N A l cap Ab bs cb Ac R cc w_ (hr.up0 hp_) hl hN hok (hn.up0 hp_)) ?_);rintro _ _ ⟨rfl, rfl⟩;dsimp only [List.cons_append, List.nil_append];refine aA rfl rfl rfl (aF rfl) ?_;refine aA rfl rfl rfl (aW rfl rfl) ?_;refine aA rfl rfl rfl (aW rfl rfl) ?_;refine aA rfl rfl rfl (aG rfl) ?_;refine aA rfl rfl rfl (aG rfl) ?_;refine aJ ?_;refine aL (kh5 _ _ ?_);clear kh5;refine aK fun K6 kh6 => ?_;refine aC ?_;refine aA rfl rfl rfl (aF rfl) ?_;refine aA rfl rfl rfl (dC rfl rfl) ?_;refine aA rfl rfl rfl (aF rfl) ?_;refine cU 25 rfl (fun g25 => ?_) (fun g25 => ?_)
 · refine aR rfl rfl rfl rfl rfl rfl ?_;refine aR rfl rfl rfl rfl rfl rfl ?_;refine aA rfl rfl rfl (bZ rfl rfl) ?_;refine aA rfl rfl rfl (aF rfl) ?_;refine aR rfl rfl rfl rfl rfl rfl ?_;refine aR rfl rfl rfl rfl rfl rfl ?_;refine aR rfl rfl rfl rfl rfl rfl ?_;refine aA rfl rfl rfl (bZ rfl rfl) ?_;refine aJ ?_;refine aL (kh6 _ _ ?_);clear kh6;refine d9 rfl ?_;refine aK fun K7 kh7 => ?_;refine aC ?_;refine aA rfl rfl rfl (aG rfl) ?_;refine aJ ?_;refine aL (kh7 _ _ ?_);clear kh7;refine bA ?_;refine bT ?_;exact bK [] Tryz.results4 rfl aI ⟨rfl, rfl⟩
 ·
  refine aQ rfl rfl rfl rfl rfl (bD (vs := [_, _]) Tryz.isAgg24 Tryz.sizeOf24 rfl rfl ⟨(rdA rfl), (rdA rfl), trivial⟩) ?_;refine lQ rfl rfl rfl rfl rfl (bF Tryz.call7 rfl (fun w_ hp_ => large_spec N A l cap w_ (hr.up0 hp_) hl hN hok) ?_);rintro _ _ ⟨bL, rfl, rfl⟩;dsimp only [List.cons_append, List.nil_append];refine aA rfl rfl rfl (cK rfl rfl) ?_;refine aA rfl rfl rfl (aF rfl) ?_;refine f_splitLB 29 rfl (fun g29 => ?_) (fun g29 => ?_)
  · refine aR rfl rfl rfl rfl rfl rfl ?_;refine aR rfl rfl rfl rfl rfl rfl ?_;refine aR rfl rfl rfl rfl rfl rfl ?_;refine aA rfl rfl rfl (bZ rfl rfl) ?_;refine aJ ?_;refine aL (kh6 _ _ ?_);clear kh6;refine d9 rfl ?_;refine aK fun K8 kh8 => ?_;refine aC ?_;refine aA rfl rfl rfl (aG rfl) ?_;refine aJ ?_;refine aL (kh8 _ _ ?_);clear kh8;refine bA ?_;refine bT ?_;exact bK [] Tryz.results4 rfl aI ⟨rfl, rfl⟩
  ·
   refine aQ rfl rfl rfl rfl rfl (aP c6 rfl) ?_;refine aQ rfl rfl rfl rfl rfl (aM Tryz.isAgg3 rfl (rdA rfl)) ?_;refine aQ rfl rfl rfl rfl rfl (eI rfl rfl) ?_;refine aA rfl rfl rfl (cK rfl rfl) ?_;refine aJ ?_;refine aL (kh6 _ _ ?_);clear kh6;refine a6 rfl (fun c33 => ?_) (fun c33 => ?_)
   · refine aK fun K9 kh9 => ?_;refine aC ?_;refine aA rfl rfl rfl (aG rfl) ?_;refine aJ ?_;refine aL (kh9 _ _ ?_);clear kh9;refine bA ?_;refine bT ?_;exact bK [] Tryz.results4 rfl aI ⟨rfl, rfl⟩
   ·
    have hz : (nsE N l bs (dG R)).2 = 0 := by simpa using g25
    obtain ⟨n, rfl, hNo⟩ := nsE_zero hz
    have hmany := hNo.many
    have hn1 := hNo.n1
    have hn20 : n ≤ 20 := by omega
    have hnn : n * n ≤ 20 * 20 := Nat.mul_le_mul hn20 hn20
    refine aV ?_;refine aL (kh4 _ _ ?_);clear kh4;refine aK fun K10 kh10 => ?_;refine aC ?_;refine aA rfl rfl rfl (aP c6 rfl) ?_;refine aA rfl rfl rfl (aM Tryz.isAgg3 rfl (rdA rfl)) ?_;refine aA rfl rfl rfl (aP c6 rfl) ?_;refine aA rfl rfl rfl (aM Tryz.isAgg3 rfl (rdA rfl)) ?_;refine aA rfl rfl rfl (jP rfl rfl _ (mul_w (by omega))) ?_;refine aU rfl rfl rfl (dR dS rfl rfl (n * n) rfl (by omega) (by omega) (aZ (apT (dG R) n bs.length 0)) (by rw [apT_zero]; simp [aZ, List.flatten_replicate_singleton]) fun b39 => ?_);refine aA rfl rfl rfl (aG rfl) ?_;refine aJ ?_;refine aL (kh10 _ _ ?_);clear kh10;refine aK fun K11 kh11 => ?_;refine aK fun K12 kh12 => ?_;refine aC ?_;refine aA rfl rfl rfl (aP c6 rfl) ?_;refine aA rfl rfl rfl (aM Tryz.isAgg3 rfl (rdA rfl)) ?_;refine aA rfl rfl rfl (aF rfl) ?_;refine aJ ?_;refine aL (kh12 _ _ ?_);clear kh12;refine aY ?_;refine cO (α := Nat) [2, 3, 7, 41] (fun u => [(42, .int .i64 (u : Int))]) (fun u => [[(b39, blk (aZ (apT (dG R) n bs.length (n * u))) 3)], [(b2, blk [.int .i64 (n : Int), .slice A l.length cap] 24)], [(b3, blk [.slice Ab bs.length cb, .slice Ac R.length cc] 32)]]) (fun u => u ≤ n) (fun u => n - u) (0) ?_ ?_ ?_ ?_
    · exact (by repeat constructor)
    · repeat first|exact aI|refine aD ?_|refine aB rfl ?_|refine aH ?_
    · exact Nat.zero_le _
    ·
     rintro u hun;refine aK fun K13 kh13 => ?_;refine aC ?_;refine aA rfl rfl rfl (cB rfl rfl) ?_;refine aJ ?_;refine aL (kh13 _ _ ?_);clear kh13;refine aK fun K14 kh14 => ?_;refine a6 rfl (fun c43 => ?_) (fun c43 => ?_)
     ·
      have hu : u < n := by omega
      have hnu : n * u + n ≤ n * n := Nat.mul_le_mul_left n (show u + 1 ≤ n by omega)
      refine aV ?_;refine aL (kh14 _ _ ?_);clear kh14;refine aK fun K15 kh15 => ?_;refine aY ?_;refine aK fun K16 kh16 => ?_;refine aC ?_;refine aA rfl rfl rfl (aF rfl) ?_;refine aA rfl rfl rfl (aG rfl) ?_;refine aJ ?_;refine aL (kh16 _ _ ?_);clear kh16;refine aK fun K17 kh17 => ?_;refine aC ?_;refine aA rfl rfl rfl (aP c6 rfl) ?_;refine aA rfl rfl rfl (aM Tryz.isAgg3 rfl (rdA rfl)) ?_;refine aA rfl rfl rfl (aF rfl) ?_;refine aJ ?_;refine aL (kh17 _ _ ?_);clear kh17;refine aY ?_;refine cO (α := Nat) [2, 3, 7, 8, 41, 42, 46] (fun v => [(47, .int .i64 (v : Int))]) (fun v => [[(b39, blk (aZ (apT (dG R) n bs.length (n * u + v))) 3)], [(b2, blk [.int .i64 (n : Int), .slice A l.length cap] 24)], [(b3, blk [.slice Ab bs.length cb, .slice Ac R.length cc] 32)]]) (fun v => v ≤ n) (fun v => n - v) (0) ?_ ?_ ?_ ?_
      · exact (by repeat constructor)
      · repeat first|exact aI|refine aD ?_|refine aB rfl ?_|refine aH ?_
      · exact Nat.zero_le _
      ·
       rintro v hvn;refine eT (e := [(47, _), (2, _), (3, _), (7, _), (8, _), (41, _), (42, _), (46, _)]) (by repeat constructor) ?_;refine aK fun K18 kh18 => ?_;refine aC ?_;refine aA rfl rfl rfl (cB rfl rfl) ?_;refine aJ ?_;refine aL (kh18 _ _ ?_);clear kh18;refine aK fun K19 kh19 => ?_;refine a6 rfl (fun c48 => ?_) (fun c48 => ?_)
       ·
        have hv : v < n := by omega
        have hnx := apT_next (L := (dG R)) (m := bs.length) (u := u) hv (by omega)
        refine aV ?_;refine aL (kh19 _ _ ?_);clear kh19;refine aK fun K20 kh20 => ?_;refine aY ?_;refine aK fun K21 kh21 => ?_;refine aC ?_;refine aA rfl rfl rfl (aF rfl) ?_;refine aA rfl rfl rfl (aG rfl) ?_;refine aJ ?_;refine aL (kh21 _ _ ?_);clear kh21;refine aK fun K22 kh22 => ?_;refine aC ?_;refine aA rfl rfl rfl (bD (vs := [_, _]) Tryz.isAgg24 Tryz.sizeOf24 rfl rfl ⟨(rdA rfl), (rdA rfl), trivial⟩) ?_;refine aA rfl rfl rfl (bD (vs := [_, _]) Tryz.isAgg32 Tryz.sizeOf32 rfl rfl ⟨(rdA rfl), (rdA rfl), trivial⟩) ?_;refine aA rfl rfl rfl (aF rfl) ?_;refine aA rfl rfl rfl (aF rfl) ?_;refine aU rfl rfl rfl (bF Tryz.call11 rfl (fun w_ hp_ => (by have h := NApart_spec (n : Int) A l cap Ab bs cb Ac R cc (u : Int) (v : Int) w_ (hr.up0 hp_) hl hN hok (hn.up0 hp_); rw [apE_ok hNo hu hv, Int.toNat_natCast, Int.toNat_natCast] at h; exact h)) ?_);rintro _ _ ⟨rfl, rfl⟩;rw [if_neg (by simp)];have hap := apV_le (dG R) u v bs.length
        dsimp only [List.cons_append, List.nil_append];refine aA rfl rfl rfl (aF rfl) ?_;refine aA rfl rfl rfl (aW rfl rfl) ?_;refine aA rfl rfl rfl (aW rfl rfl) ?_;refine aA rfl rfl rfl (aG rfl) ?_;refine aA rfl rfl rfl (aG rfl) ?_;refine aJ ?_;refine aL (kh22 _ _ ?_);clear kh22;refine aK fun K23 kh23 => ?_;refine aK fun K24 kh24 => ?_;refine aC ?_;refine aA rfl rfl rfl (aF rfl) ?_;refine aA rfl rfl rfl (dC rfl rfl) ?_;refine aA rfl rfl rfl (aF rfl) ?_;refine f_falseL 60 rfl (by simp) ?_;refine aQ rfl rfl rfl rfl rfl (aF rfl) ?_;refine aQ rfl rfl rfl rfl rfl (cB rfl rfl) ?_;refine aA rfl rfl rfl (cK rfl rfl) ?_;refine aA rfl rfl rfl (aF rfl) ?_;refine f_falseL 64 rfl (by omega) ?_;refine aQ rfl rfl rfl rfl rfl (aF rfl) ?_;refine aQ rfl rfl rfl rfl rfl (aP fa32_0 rfl) ?_;refine aQ rfl rfl rfl rfl rfl (aM Tryz.isAgg25 rfl (rdA rfl)) ?_;refine aQ rfl rfl rfl rfl rfl (bX bJ rfl) ?_;refine aQ rfl rfl rfl rfl rfl (eI rfl rfl) ?_;refine aA rfl rfl rfl (cK rfl rfl) ?_;refine aA rfl rfl rfl (aF rfl) ?_;refine f_falseL 71 rfl (by omega) ?_;refine aQ rfl rfl rfl rfl rfl (aF rfl) ?_;refine aQ rfl rfl rfl rfl rfl (aF rfl) ?_;refine aQ rfl rfl rfl rfl rfl (f5 rfl rfl) ?_;refine aQ rfl rfl rfl rfl rfl (aF rfl) ?_;refine cU 75 rfl (fun g75 => ?_) (fun g75 => ?_)
        ·
         have euv : u = v := by omega
         refine aQ rfl rfl rfl rfl rfl (aF rfl) ?_;refine aQ rfl rfl rfl rfl rfl (dC rfl rfl) ?_;refine aQ rfl rfl rfl rfl rfl (bZ rfl rfl) ?_;refine aA rfl rfl rfl (cK rfl rfl) ?_;refine aJ ?_;refine aL (kh24 _ _ ?_);clear kh24;refine fN rfl (by rw [euv, apV_same]; simp) ?_;refine aV ?_;refine aL (kh23 _ _ ?_);clear kh23;refine aC ?_;refine aA rfl rfl rfl (aF rfl) ?_;refine aA rfl rfl rfl (aF rfl) ?_;refine aA rfl rfl rfl (aP c6 rfl) ?_;refine aA rfl rfl rfl (aM Tryz.isAgg3 rfl (rdA rfl)) ?_;refine aA rfl rfl rfl (jP rfl rfl _ (mul_w (by omega))) ?_;refine aA rfl rfl rfl (aF rfl) ?_;refine aA rfl rfl rfl (bE rfl rfl _ (Eq.trans (aS (by omega)) (show _ = ((n * u + v : Nat) : Int) by omega))) ?_;refine aA rfl rfl rfl (aF rfl) ?_;refine aA rfl rfl rfl (a7 bJ rfl rfl (n * u + v) ⟨by omega, by omega, by first | omega | (simp; done) | (simp; omega)⟩) ?_;refine bH rfl rfl (bY Tryz.sizeOf3 rfl rfl rfl rfl (by rw [aX, apT_len]; omega) (aZ (apT (dG R) n bs.length (n * u + (v + 1)))) (by rw [← hnx]; simp [aZ]) ?_);refine aJ ?_;refine cT ?_;refine aL (kh20 _ _ ?_);clear kh20;refine aC ?_;refine aA rfl rfl rfl (bE rfl rfl _ (aS (by omega))) ?_;refine aA rfl rfl rfl (aF rfl) ?_;refine aJ ?_;refine aL (a8 (v + 1) (by first | omega | (dsimp only; omega) | (simp; omega)) (by omega) ?_ ?_ ?_)
         · exact (by repeat constructor)
         · exact (by repeat constructor)
         · repeat first|exact aI|refine aD ?_|refine aB rfl ?_|refine aH ?_
        ·
         refine aR rfl rfl rfl rfl rfl rfl ?_;refine aR rfl rfl rfl rfl rfl rfl ?_;refine aQ rfl rfl rfl rfl rfl (cK rfl rfl) ?_;refine aA rfl rfl rfl (cK rfl rfl) ?_;refine aJ ?_;refine aL (kh24 _ _ ?_);clear kh24;refine gR rfl ?_;refine aV ?_;refine aL (kh23 _ _ ?_);clear kh23;refine aC ?_;refine aA rfl rfl rfl (aF rfl) ?_;refine aA rfl rfl rfl (aF rfl) ?_;refine aA rfl rfl rfl (aP c6 rfl) ?_;refine aA rfl rfl rfl (aM Tryz.isAgg3 rfl (rdA rfl)) ?_;refine aA rfl rfl rfl (jP rfl rfl _ (mul_w (by omega))) ?_;refine aA rfl rfl rfl (aF rfl) ?_;refine aA rfl rfl rfl (bE rfl rfl _ (Eq.trans (aS (by omega)) (show _ = ((n * u + v : Nat) : Int) by omega))) ?_;refine aA rfl rfl rfl (aF rfl) ?_;refine aA rfl rfl rfl (a7 bJ rfl rfl (n * u + v) ⟨by omega, by omega, by first | omega | (simp; done) | (simp; omega)⟩) ?_;refine bH rfl rfl (bY Tryz.sizeOf3 rfl rfl rfl rfl (by rw [aX, apT_len]; omega) (aZ (apT (dG R) n bs.length (n * u + (v + 1)))) (by rw [← hnx]; simp [aZ]) ?_);refine aJ ?_;refine cT ?_;refine aL (kh20 _ _ ?_);clear kh20;refine aC ?_;refine aA rfl rfl rfl (bE rfl rfl _ (aS (by omega))) ?_;refine aA rfl rfl rfl (aF rfl) ?_;refine aJ ?_;refine aL (a8 (v + 1) (by first | omega | (dsimp only; omega) | (simp; omega)) (by omega) ?_ ?_ ?_)
         · exact (by repeat constructor)
         · exact (by repeat constructor)
         · repeat first|exact aI|refine aD ?_|refine aB rfl ?_|refine aH ?_
       ·
        obtain rfl : n = v := by omega
        refine cG ?_;refine cH ?_;clear kh19;refine cH ?_;refine d7 ?_;refine cT ?_;refine aL (kh15 _ _ ?_);clear kh15;refine aC ?_;refine aA rfl rfl rfl (bE rfl rfl _ (aS (by omega))) ?_;refine aA rfl rfl rfl (aF rfl) ?_;refine aJ ?_;refine aL (a8 (u + 1) (by first | omega | (dsimp only; omega) | (simp; omega)) (by omega) ?_ ?_ ?_)
        · exact (by repeat constructor)
        · exact (by repeat constructor)
        · repeat first|exact aI|refine aD ?_|refine aB rfl ?_|refine aH ?_
     ·
      obtain rfl : n = u := by omega
      refine cG ?_;refine cH ?_;clear kh14;refine cH ?_;refine d7 ?_;refine aL (kh11 _ _ ?_);clear kh11;refine aK fun K25 kh25 => ?_;refine aK fun K26 kh26 => ?_;refine aC ?_;refine aA rfl rfl rfl (aP c6 rfl) ?_;refine aA rfl rfl rfl (aM Tryz.isAgg3 rfl (rdA rfl)) ?_;refine aA rfl rfl rfl (aF rfl) ?_;refine aJ ?_;refine aL (kh26 _ _ ?_);clear kh26;refine aY ?_;refine cO (α := Nat) [2, 7, 92] (fun u => [(93, .int .i64 (u : Int))]) (fun u => [[(b39, blk (aZ (apT (dG R) n bs.length (n * n))) 3)], [(b2, blk [.int .i64 (n : Int), .slice A l.length cap] 24)]]) (fun u => u ≤ n) (fun u => n - u) (0) ?_ ?_ ?_ ?_
      · exact (by repeat constructor)
      · repeat first|exact aI|refine aD ?_|refine aB rfl ?_|refine aH ?_
      · exact Nat.zero_le _
      ·
       rintro u hun;refine eT (e := [(93, _), (2, _), (7, _), (92, _)]) (by repeat constructor) ?_;refine aK fun K27 kh27 => ?_;refine aC ?_;refine aA rfl rfl rfl (cB rfl rfl) ?_;refine aJ ?_;refine aL (kh27 _ _ ?_);clear kh27;refine aK fun K28 kh28 => ?_;refine a6 rfl (fun c94 => ?_) (fun c94 => ?_)
       ·
        have hu : u < n := by omega
        refine aV ?_;refine aL (kh28 _ _ ?_);clear kh28;refine aK fun K29 kh29 => ?_;refine aY ?_;refine aK fun K30 kh30 => ?_;refine aC ?_;refine aA rfl rfl rfl (aF rfl) ?_;refine aA rfl rfl rfl (aG rfl) ?_;refine aJ ?_;refine aL (kh30 _ _ ?_);clear kh30;refine aK fun K31 kh31 => ?_;refine aC ?_;refine aA rfl rfl rfl (aP c6 rfl) ?_;refine aA rfl rfl rfl (aM Tryz.isAgg3 rfl (rdA rfl)) ?_;refine aA rfl rfl rfl (aF rfl) ?_;refine aJ ?_;refine aL (kh31 _ _ ?_);clear kh31;refine aY ?_;refine cO (α := Nat) [2, 7, 12, 92, 93, 97] (fun v => [(98, .int .i64 (v : Int))]) (fun v => [[(b39, blk (aZ (apT (dG R) n bs.length (n * n))) 3)], [(b2, blk [.int .i64 (n : Int), .slice A l.length cap] 24)]]) (fun v => v ≤ n) (fun v => n - v) (0) ?_ ?_ ?_ ?_
        · exact (by repeat constructor)
        · repeat first|exact aI|refine aD ?_|refine aB rfl ?_|refine aH ?_
        · exact Nat.zero_le _
        ·
         rintro v hvn;refine eT (e := [(98, _), (2, _), (7, _), (12, _), (92, _), (93, _), (97, _)]) (by repeat constructor) ?_;refine aK fun K32 kh32 => ?_;refine aC ?_;refine aA rfl rfl rfl (cB rfl rfl) ?_;refine aJ ?_;refine aL (kh32 _ _ ?_);clear kh32;refine aK fun K33 kh33 => ?_;refine a6 rfl (fun c99 => ?_) (fun c99 => ?_)
         ·
          have hv : v < n := by omega
          refine aV ?_;refine aL (kh33 _ _ ?_);clear kh33;refine aK fun K34 kh34 => ?_;refine aY ?_;refine aK fun K35 kh35 => ?_;refine aC ?_;refine aA rfl rfl rfl (aF rfl) ?_;refine aA rfl rfl rfl (aG rfl) ?_;refine aJ ?_;refine aL (kh35 _ _ ?_);clear kh35;refine aK fun K36 kh36 => ?_;refine aC ?_;refine aA rfl rfl rfl (aP c6 rfl) ?_;refine aA rfl rfl rfl (aM Tryz.isAgg3 rfl (rdA rfl)) ?_;refine aA rfl rfl rfl (aF rfl) ?_;refine aJ ?_;refine aL (kh36 _ _ ?_);clear kh36;refine aY ?_;refine cO (α := Nat) [2, 7, 12, 13, 92, 93, 97, 98, 102] (fun x => [(103, .int .i64 (x : Int))]) (fun x => [[(b39, blk (aZ (apT (dG R) n bs.length (n * n))) 3)], [(b2, blk [.int .i64 (n : Int), .slice A l.length cap] 24)]]) (fun x => x ≤ n) (fun x => n - x) (0) ?_ ?_ ?_ ?_
          · exact (by repeat constructor)
          · repeat first|exact aI|refine aD ?_|refine aB rfl ?_|refine aH ?_
          · exact Nat.zero_le _
          ·
           rintro x hxn;refine eT (e := [(103, _), (2, _), (7, _), (12, _), (13, _), (92, _), (93, _), (97, _), (98, _), (102, _)]) (by repeat constructor) ?_;refine aK fun K37 kh37 => ?_;refine aC ?_;refine aA rfl rfl rfl (cB rfl rfl) ?_;refine aJ ?_;refine aL (kh37 _ _ ?_);clear kh37;refine aK fun K38 kh38 => ?_;refine a6 rfl (fun c104 => ?_) (fun c104 => ?_)
           ·
            have hx : x < n := by omega
            have h1 : n * u + n ≤ n * n := Nat.mul_le_mul_left n (show u + 1 ≤ n by omega)
            have h2 : n * v + n ≤ n * n := Nat.mul_le_mul_left n (show v + 1 ≤ n by omega)
            have h3 : n * x + n ≤ n * n := Nat.mul_le_mul_left n (show x + 1 ≤ n by omega)
            have hul := apV_ultra (dG R) u v x bs.length
            have ha1 := apV_le (dG R) u v bs.length
            refine aV ?_;refine aL (kh38 _ _ ?_);clear kh38;refine aK fun K39 kh39 => ?_;refine aY ?_;refine aK fun K40 kh40 => ?_;refine aC ?_;refine aA rfl rfl rfl (aF rfl) ?_;refine aA rfl rfl rfl (aG rfl) ?_;refine aJ ?_;refine aL (kh40 _ _ ?_);clear kh40;refine aK fun K41 kh41 => ?_;refine fD rfl (by decide +kernel) ?_;refine aN rfl rfl rfl (aF rfl) ?_;refine aN rfl rfl rfl (aF rfl) ?_;refine aN rfl rfl rfl (aP c6 rfl) ?_;refine aN rfl rfl rfl (aM Tryz.isAgg3 rfl (rdA rfl)) ?_;refine aN rfl rfl rfl (jP rfl rfl _ (mul_w (by omega))) ?_;refine aN rfl rfl rfl (aF rfl) ?_;refine aN rfl rfl rfl (bE rfl rfl _ (Eq.trans (aS (by omega)) (show _ = ((n * u + v : Nat) : Int) by omega))) ?_;refine aN rfl rfl rfl (a7 bJ rfl rfl (n * u + v) ⟨by omega, by omega, by first | omega | (simp; done) | (simp; omega)⟩) ?_;refine aN rfl rfl rfl (aM Tryz.isAgg3 rfl (rdA (v := .int .i64 ((apV (dG R) u v bs.length : Nat) : Int)) (apT_at (by omega) (by omega)))) ?_;refine aN rfl rfl rfl (aF rfl) ?_;refine aN rfl rfl rfl (aF rfl) ?_;refine aN rfl rfl rfl (aP c6 rfl) ?_;refine aN rfl rfl rfl (aM Tryz.isAgg3 rfl (rdA rfl)) ?_;refine aN rfl rfl rfl (jP rfl rfl _ (mul_w (by omega))) ?_;refine aN rfl rfl rfl (aF rfl) ?_;refine aN rfl rfl rfl (bE rfl rfl _ (Eq.trans (aS (by omega)) (show _ = ((n * v + u : Nat) : Int) by omega))) ?_;refine aN rfl rfl rfl (a7 bJ rfl rfl (n * v + u) ⟨by omega, by omega, by first | omega | (simp; done) | (simp; omega)⟩) ?_;refine aN rfl rfl rfl (aM Tryz.isAgg3 rfl (rdA (v := .int .i64 ((apV (dG R) v u bs.length : Nat) : Int)) (apT_at (by omega) (by omega)))) ?_;refine aN rfl rfl rfl (dC rfl rfl) ?_;refine aN rfl rfl rfl (aF rfl) ?_;refine f_falseS 125 rfl (by rw [apV_symm (dG R) u v bs.length]; simp) ?_;refine bO rfl rfl rfl rfl rfl (aF rfl) ?_;refine bO rfl rfl rfl rfl rfl (aF rfl) ?_;refine bO rfl rfl rfl rfl rfl (aP c6 rfl) ?_;refine bO rfl rfl rfl rfl rfl (aM Tryz.isAgg3 rfl (rdA rfl)) ?_;refine bO rfl rfl rfl rfl rfl (jP rfl rfl _ (mul_w (by omega))) ?_;refine bO rfl rfl rfl rfl rfl (aF rfl) ?_;refine bO rfl rfl rfl rfl rfl (bE rfl rfl _ (Eq.trans (aS (by omega)) (show _ = ((n * u + v : Nat) : Int) by omega))) ?_;refine bO rfl rfl rfl rfl rfl (a7 bJ rfl rfl (n * u + v) ⟨by omega, by omega, by first | omega | (simp; done) | (simp; omega)⟩) ?_;refine bO rfl rfl rfl rfl rfl (aM Tryz.isAgg3 rfl (rdA (v := .int .i64 ((apV (dG R) u v bs.length : Nat) : Int)) (apT_at (by omega) (by omega)))) ?_;refine bO rfl rfl rfl rfl rfl (aF rfl) ?_;refine bO rfl rfl rfl rfl rfl (aF rfl) ?_;refine bO rfl rfl rfl rfl rfl (aP c6 rfl) ?_
            refine bO rfl rfl rfl rfl rfl (aM Tryz.isAgg3 rfl (rdA rfl)) ?_;refine bO rfl rfl rfl rfl rfl (jP rfl rfl _ (mul_w (by omega))) ?_;refine bO rfl rfl rfl rfl rfl (aF rfl) ?_;refine bO rfl rfl rfl rfl rfl (bE rfl rfl _ (Eq.trans (aS (by omega)) (show _ = ((n * u + x : Nat) : Int) by omega))) ?_;refine bO rfl rfl rfl rfl rfl (a7 bJ rfl rfl (n * u + x) ⟨by omega, by omega, by first | omega | (simp; done) | (simp; omega)⟩) ?_;refine bO rfl rfl rfl rfl rfl (aM Tryz.isAgg3 rfl (rdA (v := .int .i64 ((apV (dG R) u x bs.length : Nat) : Int)) (apT_at (by omega) (by omega)))) ?_;refine bO rfl rfl rfl rfl rfl (aF rfl) ?_;refine bO rfl rfl rfl rfl rfl (aF rfl) ?_;refine bO rfl rfl rfl rfl rfl (aP c6 rfl) ?_;refine bO rfl rfl rfl rfl rfl (aM Tryz.isAgg3 rfl (rdA rfl)) ?_;refine bO rfl rfl rfl rfl rfl (jP rfl rfl _ (mul_w (by omega))) ?_;refine bO rfl rfl rfl rfl rfl (aF rfl) ?_;refine bO rfl rfl rfl rfl rfl (bE rfl rfl _ (Eq.trans (aS (by omega)) (show _ = ((n * x + v : Nat) : Int) by omega))) ?_;refine bO rfl rfl rfl rfl rfl (a7 bJ rfl rfl (n * x + v) ⟨by omega, by omega, by first | omega | (simp; done) | (simp; omega)⟩) ?_;refine bO rfl rfl rfl rfl rfl (aM Tryz.isAgg3 rfl (rdA (v := .int .i64 ((apV (dG R) x v bs.length : Nat) : Int)) (apT_at (by omega) (by omega)))) ?_;refine bO rfl rfl rfl rfl rfl (o_max rfl rfl) ?_;refine bO rfl rfl rfl rfl rfl (eI rfl rfl) ?_;refine aN rfl rfl rfl (cK rfl rfl) ?_;refine d3 ?_;refine aL (kh41 _ _ ?_);clear kh41;refine fN rfl (by omega) ?_;refine aV ?_;refine cT ?_;refine aL (kh39 _ _ ?_);clear kh39;refine aC ?_;refine aA rfl rfl rfl (bE rfl rfl _ (aS (by omega))) ?_;refine aA rfl rfl rfl (aF rfl) ?_;refine aJ ?_;refine aL (a8 (x + 1) (by first | omega | (dsimp only; omega) | (simp; omega)) (by omega) ?_ ?_ ?_)
            · exact (by repeat constructor)
            · exact (by repeat constructor)
            · repeat first|exact aI|refine aD ?_|refine aB rfl ?_|refine aH ?_
           ·
            refine cG ?_;refine cH ?_;clear kh38;refine cH ?_;refine d7 ?_;refine cT ?_;refine aL (kh34 _ _ ?_);clear kh34;refine aC ?_;refine aA rfl rfl rfl (bE rfl rfl _ (aS (by omega))) ?_;refine aA rfl rfl rfl (aF rfl) ?_;refine aJ ?_;refine aL (a8 (v + 1) (by first | omega | (dsimp only; omega) | (simp; omega)) (by omega) ?_ ?_ ?_)
            · exact (by repeat constructor)
            · exact (by repeat constructor)
            · repeat first|exact aI|refine aD ?_|refine aB rfl ?_|refine aH ?_
         ·
          refine cG ?_;refine cH ?_;clear kh33;refine cH ?_;refine d7 ?_;refine cT ?_;refine aL (kh29 _ _ ?_);clear kh29;refine aC ?_;refine aA rfl rfl rfl (bE rfl rfl _ (aS (by omega))) ?_;refine aA rfl rfl rfl (aF rfl) ?_;refine aJ ?_;refine aL (a8 (u + 1) (by first | omega | (dsimp only; omega) | (simp; omega)) (by omega) ?_ ?_ ?_)
          · exact (by repeat constructor)
          · exact (by repeat constructor)
          · repeat first|exact aI|refine aD ?_|refine aB rfl ?_|refine aH ?_
       · refine cG ?_;refine cH ?_;clear kh28;refine cH ?_;refine d7 ?_;refine aL (kh25 _ _ ?_);clear kh25;refine aK fun K42 kh42 => ?_;refine aC ?_;refine aA rfl rfl rfl (aG rfl) ?_;refine aJ ?_;refine aL (kh42 _ _ ?_);clear kh42;refine bA ?_;exact bK [] Tryz.results4 rfl aI ⟨rfl, rfl⟩
end Go.Proofs.YtjjogcnjcnpehaaGreat

/- How graphs of this program read. -/
namespace Go.Proofs.YtjjogcnjcnpehaaGreat
open Go Go.RowKit Fly
set_option linter.unusedVariables false
set_option linter.unusedSimpArgs false
theorem rdArc {H : Type} {enc : TypeId × Value → H} (W : World) : Reads enc Tryz.prog W 48 cF dX :=
  reads_arc Tryz.underlying48 (by kernel_rfl) ⟨rfl, by kernel_rfl⟩ ⟨rfl, by kernel_rfl⟩ ⟨rfl, by kernel_rfl⟩ Tryz.underlying3 Tryz.underlying3 Tryz.underlying46
theorem rdGraph {H : Type} {enc : TypeId × Value → H} (W : World) : Reads enc Tryz.prog W 24 (fun x : Int × Option Addr × List Arc × Nat => [.int .i64 x.1, .slice x.2.1 x.2.2.1.length x.2.2.2]) (fun x => GrIn W x.1 x.2.1 x.2.2.1 x.2.2.2) :=
  reads_graph Tryz.underlying24 (by kernel_rfl) ⟨rfl, by kernel_rfl⟩ ⟨rfl, by kernel_rfl⟩ Tryz.underlying3 Tryz.underlying22 (by kernel_rfl) (rdArc W)
end Go.Proofs.YtjjogcnjcnpehaaGreat

/- How nests and plans read. -/
namespace Go.Proofs.YtjjogcnjcnpehaaGreat
open Go Go.RowKit Fly
set_option linter.unusedVariables false
set_option linter.unusedSimpArgs false
abbrev RowIn (W : World) (r : Row) : Prop := SlIn W (fun n : Int => [.int .i64 n]) I64 r.1 r.2.1 r.2.2
abbrev NestIn (W : World) (x : Option Addr × List Int × Nat × Option Addr × List Row × Nat) : Prop := SlIn W (fun n : Int => [.int .i64 n]) I64 x.1 x.2.1 x.2.2.1 ∧ SlIn W (fun r : Row => [lC r]) (RowIn W) x.2.2.2.1 x.2.2.2.2.1 x.2.2.2.2.2
theorem rdRow {H : Type} {enc : TypeId × Value → H} (W : World) : Reads enc Tryz.prog W 25 (fun r : Row => [lC r]) (RowIn W) :=
  reads_slice (cells := fun n : Int => [.int .i64 n]) (sz := 1) Tryz.underlying25 (by kernel_rfl) (fun _ => rfl) (by omega) (reads_i64 Tryz.underlying3)
theorem rdNest {H : Type} {enc : TypeId × Value → H} (W : World) : Reads enc Tryz.prog W 32 (fun x : Option Addr × List Int × Nat × Option Addr × List Row × Nat => [.slice x.1 x.2.1.length x.2.2.1, .slice x.2.2.2.1 x.2.2.2.2.1.length x.2.2.2.2.2]) (NestIn W) :=
  (reads2 (ca := fun x : Row => lC x) (cb := fun x : Option Addr × List Row × Nat => .slice x.1 x.2.1.length x.2.2) Tryz.underlying32 (by kernel_rfl) ⟨rfl, by kernel_rfl⟩ ⟨rfl, by kernel_rfl⟩
    (rdRow W) (reads_slice (cells := fun r : Row => [lC r]) (sz := 1) Tryz.underlying30 (by kernel_rfl) (fun _ => rfl) (by omega) (rdRow W))).map
    (fun x => ((x.1.1, x.1.2.1, x.1.2.2, x.2.1, x.2.2.1, x.2.2.2) : Option Addr × List Int × Nat × Option Addr × List Row × Nat)) (fun x => rfl) fun x hx => hx
theorem nest_in {W : World} {x : Option Addr × List Int × Nat × Option Addr × List Row × Nat} (h : NestIn W x) : NestRo (Fr W []) W x.1 x.2.1 x.2.2.2.1 x.2.2.2.2.1 where
  b := by have := h.1.ro; rwa [flat_one] at this
  bl := Nat.le_trans h.1.le h.1.max
  c := by have := h.2.ro; rwa [flat_one] at this
  cl := Nat.le_trans h.2.le h.2.max
  rows := fun r hr => ⟨by have := (h.2.ok r hr).ro; rwa [flat_one] at this, Nat.le_trans (h.2.ok r hr).le (h.2.ok r hr).max⟩
end Go.Proofs.YtjjogcnjcnpehaaGreat
