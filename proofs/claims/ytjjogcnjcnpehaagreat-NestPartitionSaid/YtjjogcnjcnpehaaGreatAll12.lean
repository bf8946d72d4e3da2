import Derived.Test.YtjjogcnjcnpehaaGreatAll11
import Derived.Test.YtjjogcnjcnpehaaGreatAll6
import Derived.Test.YtjjogcnjcnpehaaGreatAll9
import Derived.Test.YtjjogcnjcnpehaaGreatAll10
import Derived.Test.YtjjogcnjcnpehaaGreatAll8

/- A searcher is begun; what is asked of it. -/
namespace Go.Proofs.YtjjogcnjcnpehaaGreat
open Go Go.RowKit Fly
set_option linter.unusedVariables false
set_option linter.unusedSimpArgs false
theorem ints_oneC (l : List Int) : (a6 l).all (·.oneCell') = true := by
  rw [List.all_eq_true]; intro x hx; obtain ⟨s, _, rfl⟩ := List.mem_map.1 hx; rfl
theorem rep_flatC (n : Nat) (z : Value) : (List.replicate n [z]).flatten = List.replicate n z := by
  induction n with
  | zero => rfl
  | succ n ih => simp only [List.replicate_succ, List.flatten_cons, ih]; rfl
theorem RowsC.start (E : TypeId) (n : Nat) (r : Nat → List Int) : RowsC E n (fun i => if i < 0 then r i else []) (List.replicate n (.slice none 0 0)) (List.replicate n []) :=
  ⟨by simp, by simp, fun i h => ⟨none, 0, by simp [h], by simpa [a6] using Own.nil E 1⟩⟩
theorem RowsC.next {E : TypeId} {n k : Nat} {r : Nat → List Int} {vs : List Value} {ms : List Seg} (h : RowsC E n (fun i => if i < k then r i else []) vs ms) (hk : k < n) {A : Option Addr} {c : Nat} {m : Seg} (ho : Own E 1 (.slice A (r k).length c) (r k).length (a6 (r k)) m) :
    RowsC E n (fun i => if i < k + 1 then r i else []) (vs.set k (.slice A (r k).length (r k).length)) (ms.set k m) where
  lv := by rw [List.length_set]; exact h.lv
  lm := by rw [List.length_set]; exact h.lm
  own := fun i hi => by
    by_cases e : k = i
    · subst e
      refine ⟨A, c, ?_, ?_⟩
      · rw [List.getElem?_set_self (by rw [h.lv]; exact hk), if_pos (by omega)]
      · rw [if_pos (by omega), List.getElem_set_self]; exact ho
    · obtain ⟨A', c', h1, h2⟩ := h.own i hi
      refine ⟨A', c', ?_, ?_⟩
      · rw [List.getElem?_set_ne e, h1]
        by_cases hik : i < k
        · rw [if_pos hik, if_pos (by omega)]
        · rw [if_neg hik, if_neg (by omega)]
      · rw [List.getElem_set_ne e]
        by_cases hik : i < k
        · rw [if_pos hik] at h2; rw [if_pos (by omega)]; exact h2
        · rw [if_neg hik] at h2; rw [if_neg (by omega)]; exact h2
theorem RowsC.all {E : TypeId} {n : Nat} {r : Nat → List Int} {vs : List Value} {ms : List Seg} (h : RowsC E n (fun i => if i < n then r i else []) vs ms) : RowsC E n r vs ms :=
  ⟨h.lv, h.lm, fun i hi => by have := h.own i hi; simpa only [if_pos hi] using this⟩
theorem flat_put {ms : List Seg} {k : Nat} (hk : ms[k]? = some []) (m : Seg) : (m ++ ms.flatten).Perm (ms.set k m).flatten := by
  obtain ⟨hlt, he⟩ := List.getElem?_eq_some_iff.1 hk
  have h1 := i3 ms k hlt
  rw [he, List.nil_append] at h1;have h2 := i3 (ms.set k m) k (by simpa using hlt)
  rw [List.getElem_set_self, List.eraseIdx_set_eq] at h2;exact (h1.append_left m).trans h2.symm
set_option maxRecDepth 100000 in
set_option maxHeartbeats 4000000 in
theorem CloneI_spec (A : Option Addr) (len : Nat) (cs : List Value) (cap : Nat) (w : World) (hs : Ro (Fr w []) w A cs) (hn : A = none → len = 0) (hl : cs.length = len * 1) (hone : cs.all (·.oneCell') = true) (hmax : len ≤ 1000000000) :
    Meets Tryz.prog 19 [.slice A len cap] w [] (fun u own' => ∃ m, own' = [m] ∧ Own 3 1 u len cs m) := by
 refine bJ Tryz.func19 rfl Tryz.ntmps19 rfl Owns.nil ?_;refine aK fun K1 kh1 => ?_;refine aB ?_;refine aA rfl rfl rfl (aF rfl) ?_;refine aJ ?_;refine aL (kh1 _ _ ?_);clear kh1;refine aK fun K2 kh2 => ?_;refine aK fun K3 kh3 => ?_;refine aB ?_;refine aA rfl rfl rfl (aG rfl) ?_;refine aA rfl rfl rfl (o_eqlSl Tryz.underlying25 rfl rfl) ?_;refine aJ ?_;refine aL (kh3 _ _ ?_);clear kh3;refine fC rfl (fun c4 => ?_) (fun c4 => ?_)
 ·
  obtain rfl : A = none := by cases A <;> first | rfl | simp at c4
  obtain rfl : len = 0 := hn rfl
  obtain rfl : cs = [] := List.eq_nil_of_length_eq_zero (by simpa using hl)
  refine aK fun K4 kh4 => ?_;refine aB ?_;refine aA rfl rfl rfl (aF rfl) ?_;refine aJ ?_;refine aL (kh4 _ _ ?_);clear kh4;refine a7 ?_;refine bT ?_;exact bP [[]] Tryz.results19 rfl Sub.empty ⟨[], rfl, Own.nil _ _⟩
 · refine aW ?_;refine aL (kh2 _ _ ?_);clear kh2;refine aK fun K5 kh5 => ?_;refine aB ?_;refine aR rfl rfl rfl (o_slice0 dV fun b5 => ?_);refine aA rfl rfl rfl (aG rfl) ?_;refine aR rfl rfl rfl (o_appendQ dV rfl rfl (Own.mk (b := b5) (cs := []) (len := 0) rfl (by omega)) (ys := cs) (fun hne => by obtain ⟨b, off, e, hS, hc⟩ := hs hne; exact ⟨b, off, e, Seen.rds fun _ => ⟨hS, hc⟩⟩) hl hone (by omega) (by omega) fun v7 m7 o7 => ?_);refine aA rfl rfl rfl (aF rfl) ?_;refine aJ ?_;refine aL (kh5 _ _ ?_);clear kh5;refine a7 ?_;exact bP [m7] Tryz.results19 rfl (by repeat (first | exact aI | refine aD ?_)) ⟨m7, rfl, by simpa using o7⟩
set_option maxRecDepth 100000 in
set_option maxHeartbeats 4000000 in
theorem begin_spec (n : Nat) (A B : Option Addr) (l : List Arc) (cap : Nat) (L : List Int) (cb : Nat) (w : World) (hr : Ro (Fr w []) w A (l.flatMap cE)) (hok : ∀ x ∈ l, dQ x) (hg : (bH (n : Int) l).2 = 0) (hL : Ro (Fr w []) w B (a6 L)) (hrt : c7 (n : Int) L = true) :
    Meets Tryz.prog 90 [.agg #[.int .i64 (n : Int), .slice A l.length cap], .slice B L.length cb] w [] (fun u own' => ∃ bs m, u = .pointer (some ⟨bs, 0, none⟩) ∧ own' = [m] ∧ LRep n (fun v => bY (v : Int) l) L (cQ L) bs m) := by
 obtain ⟨hn1, hn2, hlen, hgd⟩ := bX hg
 have hrt2 := hrt
 unfold c7 at hrt2
 simp only [Bool.and_eq_true, decide_eq_true_eq] at hrt2;have hLn : L.length = n := by omega
 have h0 : 0 < L.length := by omega
 have hp0 := rgo_pos hrt2.1
 have hp1 := rgo_lt hrt2.1
 have hx0 : 0 ≤ d4 L := Int.le_trans (hp0 L[0] (List.getElem_mem h0)) (f8 (List.getElem_mem h0))
 have hx1 : d4 L ≤ 1023 := jL h0 fun x hx => by have := hp1 x hx; omega
 obtain ⟨M, hM⟩ : ∃ M : Nat, d4 L + 1 = (M : Int) := ⟨(d4 L + 1).toNat, by omega⟩
 have hN : I64 (n : Int) := by unfold I64; omega
 obtain ⟨bb, ob, rfl, hSb, hcb⟩ := hL (fun e => by have := aX L; rw [e] at this; simp at this; omega)
 refine bJ Tryz.func90 rfl Tryz.ntmps90 rfl Owns.nil ?_;refine aK fun K1 kh1 => ?_;refine aB ?_;refine aR rfl rfl rfl (cZ rfl rfl fun b2 => ?_);refine aA rfl rfl rfl (aF rfl) ?_;refine aJ ?_;refine aL (kh1 _ _ ?_);clear kh1;refine f_meet (α := Nat × Nat × Nat × Option Addr × Nat × Seg) [1, 2] (fun ⟨b17, b11, b15, Al8, c8, m8⟩ => [(5, .pointer (some ⟨b17, 0, none⟩))]) (fun ⟨b17, b11, b15, Al8, c8, m8⟩ => [[(b17, blk [.slice Al8 L.length c8, .slice (some ⟨b11, 0, none⟩) n n, .slice (some ⟨b15, 0, none⟩) M M] 114)], m8, [(b11, blk (List.replicate n (.slice none 0 0)) 25)], [(b15, blk (a6 (szs M [])) 3)], [(b2, blk [.int .i64 (n : Int), .slice A l.length cap] 24)]]) (fun ⟨b17, b11, b15, Al8, c8, m8⟩ => Own 3 1 (.slice Al8 L.length c8) L.length (a6 L) m8) ?_ ?_
 ·
  intro K2 kh2;refine dH [[(b2, blk [.int .i64 (n : Int), .slice A l.length cap] 24)]] rfl ?_;refine aU 0 rfl (by decide +kernel) rfl rfl rfl (by repeat first|exact aI|refine aD ?_|refine aC rfl ?_|refine aH ?_) (aG rfl) ?_;refine aU 2 rfl (by decide +kernel) rfl rfl rfl (by repeat first|exact aI|refine aD ?_|refine aC rfl ?_|refine aH ?_) (aQ eE rfl) ?_;refine aU 3 rfl (by decide +kernel) rfl rfl rfl (by repeat first|exact aI|refine aD ?_|refine aC rfl ?_|refine aH ?_) (aM Tryz.isAgg3 rfl (rdA rfl)) ?_;refine aU 5 rfl (by decide +kernel) rfl rfl rfl (by repeat first|exact aI|refine aD ?_|refine aC rfl ?_|refine aH ?_) (aG rfl) ?_;refine jE 1 4 rfl rfl (by decide +kernel) rfl rfl rfl rfl rfl rfl ?_ ?_
  ·
   refine (bD Tryz.call19 rfl (fun w_ hp_ => CloneI_spec _ L.length (a6 L) cb w_ (hL.up0 hp_) (fun e => by cases e) (by rw [aX]; omega) (ints_oneC _) (by omega)) ?_);rintro v8 _ ⟨m8, rfl, o8⟩;obtain ⟨Al8, c8, rfl, _⟩ := o8.val
   dsimp only [List.cons_append, List.nil_append];refine ⟨(by repeat first|exact aI|refine aD ?_|refine aC rfl ?_|refine aH ?_), ?_⟩;refine jE 4 6 rfl rfl (by decide +kernel) rfl rfl rfl rfl rfl rfl ?_ ?_
   ·
    refine (d3 el30 rfl rfl n rfl (by omega) (by omega) (List.replicate n (.slice none 0 0)) (rep_flatC n _) fun b11 => ⟨(by repeat first|exact aI|refine aD ?_|refine aC rfl ?_|refine aH ?_), ?_⟩);refine bQ 6 rfl (by decide +kernel) rfl rfl rfl (bD Tryz.call40 rfl (fun w_ hp_ => kA _ L cb w_ (hL.up0 hp_) h0 (by omega)) ?_);rintro _ _ ⟨rfl, rfl⟩;dsimp only [List.cons_append, List.nil_append];refine ⟨(by repeat first|exact aI|refine aD ?_|refine aC rfl ?_|refine aH ?_), ?_⟩;refine aU 7 rfl (by decide +kernel) rfl rfl rfl (by repeat first|exact aI|refine aD ?_|refine aC rfl ?_|refine aH ?_) (bG rfl rfl _ (show IntKind.i64.wrap (d4 L + 1) = (M : Int) from by rw [aT (by omega)]; omega)) ?_;refine bQ 8 rfl (by decide +kernel) rfl rfl rfl (d3 dV rfl rfl M rfl (by omega) (by omega) (a6 (szs M [])) (by rw [szs_nil]; simp [a6, List.flatten_replicate_singleton]) fun b15 => ⟨(by repeat first|exact aI|refine aD ?_|refine aC rfl ?_|refine aH ?_), ?_⟩);refine aU 9 rfl (by decide +kernel) rfl rfl rfl (by repeat first|exact aI|refine aD ?_|refine aC rfl ?_|refine aH ?_) (dB (cs := [.slice Al8 L.length c8, .slice (some ⟨b11, 0, none⟩) n n, .slice (some ⟨b15, 0, none⟩) M M]) st114 rfl rfl) ?_;refine bQ 10 rfl (by decide +kernel) rfl rfl rfl (cZ rfl rfl fun b17 => ⟨(by repeat first|exact aI|refine aD ?_|refine aC rfl ?_|refine aH ?_), ?_⟩);refine bQ 11 rfl (by decide +kernel) rfl rfl rfl ((aF rfl).does ⟨(by repeat first|exact aI|refine aD ?_|refine aC rfl ?_|refine aH ?_), ?_⟩);refine dF (by decide +kernel) ?_;refine aL (kh2 _ _ (b17, b11, b15, Al8, c8, m8) o8 ?_ ?_ ?_)
    · exact (by repeat constructor)
    · exact (by repeat constructor)
    · repeat first|exact aI|refine aD ?_|refine aC rfl ?_|refine aH ?_
   ·
    refine (bD Tryz.call40 rfl (fun w_ hp_ => kA _ L cb w_ (hL.up0 hp_) h0 (by omega)) ?_);rintro _ _ ⟨rfl, rfl⟩;dsimp only [List.cons_append, List.nil_append];refine ⟨(by repeat first|exact aI|refine aD ?_|refine aC rfl ?_|refine aH ?_), ?_⟩;refine aU 7 rfl (by decide +kernel) rfl rfl rfl (by repeat first|exact aI|refine aD ?_|refine aC rfl ?_|refine aH ?_) (bG rfl rfl _ (show IntKind.i64.wrap (d4 L + 1) = (M : Int) from by rw [aT (by omega)]; omega)) ?_;refine jE 4 8 rfl rfl (by decide +kernel) rfl rfl rfl rfl rfl rfl ?_ ?_
    ·
     refine (d3 el30 rfl rfl n rfl (by omega) (by omega) (List.replicate n (.slice none 0 0)) (rep_flatC n _) fun b11 => ⟨(by repeat first|exact aI|refine aD ?_|refine aC rfl ?_|refine aH ?_), ?_⟩);refine bQ 8 rfl (by decide +kernel) rfl rfl rfl (d3 dV rfl rfl M rfl (by omega) (by omega) (a6 (szs M [])) (by rw [szs_nil]; simp [a6, List.flatten_replicate_singleton]) fun b15 => ⟨(by repeat first|exact aI|refine aD ?_|refine aC rfl ?_|refine aH ?_), ?_⟩);refine aU 9 rfl (by decide +kernel) rfl rfl rfl (by repeat first|exact aI|refine aD ?_|refine aC rfl ?_|refine aH ?_) (dB (cs := [.slice Al8 L.length c8, .slice (some ⟨b11, 0, none⟩) n n, .slice (some ⟨b15, 0, none⟩) M M]) st114 rfl rfl) ?_;refine bQ 10 rfl (by decide +kernel) rfl rfl rfl (cZ rfl rfl fun b17 => ⟨(by repeat first|exact aI|refine aD ?_|refine aC rfl ?_|refine aH ?_), ?_⟩);refine bQ 11 rfl (by decide +kernel) rfl rfl rfl ((aF rfl).does ⟨(by repeat first|exact aI|refine aD ?_|refine aC rfl ?_|refine aH ?_), ?_⟩);refine dF (by decide +kernel) ?_;refine aL (kh2 _ _ (b17, b11, b15, Al8, c8, m8) o8 ?_ ?_ ?_)
     · exact (by repeat constructor)
     · exact (by repeat constructor)
     · repeat first|exact aI|refine aD ?_|refine aC rfl ?_|refine aH ?_
    ·
     refine (d3 dV rfl rfl M rfl (by omega) (by omega) (a6 (szs M [])) (by rw [szs_nil]; simp [a6, List.flatten_replicate_singleton]) fun b15 => ⟨(by repeat first|exact aI|refine aD ?_|refine aC rfl ?_|refine aH ?_), ?_⟩);refine bQ 4 rfl (by decide +kernel) rfl rfl rfl (d3 el30 rfl rfl n rfl (by omega) (by omega) (List.replicate n (.slice none 0 0)) (rep_flatC n _) fun b11 => ⟨(by repeat first|exact aI|refine aD ?_|refine aC rfl ?_|refine aH ?_), ?_⟩);refine aU 9 rfl (by decide +kernel) rfl rfl rfl (by repeat first|exact aI|refine aD ?_|refine aC rfl ?_|refine aH ?_) (dB (cs := [.slice Al8 L.length c8, .slice (some ⟨b11, 0, none⟩) n n, .slice (some ⟨b15, 0, none⟩) M M]) st114 rfl rfl) ?_;refine bQ 10 rfl (by decide +kernel) rfl rfl rfl (cZ rfl rfl fun b17 => ⟨(by repeat first|exact aI|refine aD ?_|refine aC rfl ?_|refine aH ?_), ?_⟩);refine bQ 11 rfl (by decide +kernel) rfl rfl rfl ((aF rfl).does ⟨(by repeat first|exact aI|refine aD ?_|refine aC rfl ?_|refine aH ?_), ?_⟩);refine dF (by decide +kernel) ?_;refine aL (kh2 _ _ (b17, b11, b15, Al8, c8, m8) o8 ?_ ?_ ?_)
     · exact (by repeat constructor)
     · exact (by repeat constructor)
     · repeat first|exact aI|refine aD ?_|refine aC rfl ?_|refine aH ?_
  ·
   refine (d3 el30 rfl rfl n rfl (by omega) (by omega) (List.replicate n (.slice none 0 0)) (rep_flatC n _) fun b11 => ⟨(by repeat first|exact aI|refine aD ?_|refine aC rfl ?_|refine aH ?_), ?_⟩);refine bQ 1 rfl (by decide +kernel) rfl rfl rfl (bD Tryz.call19 rfl (fun w_ hp_ => CloneI_spec _ L.length (a6 L) cb w_ (hL.up0 hp_) (fun e => by cases e) (by rw [aX]; omega) (ints_oneC _) (by omega)) ?_);rintro v8 _ ⟨m8, rfl, o8⟩;obtain ⟨Al8, c8, rfl, _⟩ := o8.val
   dsimp only [List.cons_append, List.nil_append];refine ⟨(by repeat first|exact aI|refine aD ?_|refine aC rfl ?_|refine aH ?_), ?_⟩;refine bQ 6 rfl (by decide +kernel) rfl rfl rfl (bD Tryz.call40 rfl (fun w_ hp_ => kA _ L cb w_ (hL.up0 hp_) h0 (by omega)) ?_);rintro _ _ ⟨rfl, rfl⟩;dsimp only [List.cons_append, List.nil_append];refine ⟨(by repeat first|exact aI|refine aD ?_|refine aC rfl ?_|refine aH ?_), ?_⟩;refine aU 7 rfl (by decide +kernel) rfl rfl rfl (by repeat first|exact aI|refine aD ?_|refine aC rfl ?_|refine aH ?_) (bG rfl rfl _ (show IntKind.i64.wrap (d4 L + 1) = (M : Int) from by rw [aT (by omega)]; omega)) ?_;refine bQ 8 rfl (by decide +kernel) rfl rfl rfl (d3 dV rfl rfl M rfl (by omega) (by omega) (a6 (szs M [])) (by rw [szs_nil]; simp [a6, List.flatten_replicate_singleton]) fun b15 => ⟨(by repeat first|exact aI|refine aD ?_|refine aC rfl ?_|refine aH ?_), ?_⟩);refine aU 9 rfl (by decide +kernel) rfl rfl rfl (by repeat first|exact aI|refine aD ?_|refine aC rfl ?_|refine aH ?_) (dB (cs := [.slice Al8 L.length c8, .slice (some ⟨b11, 0, none⟩) n n, .slice (some ⟨b15, 0, none⟩) M M]) st114 rfl rfl) ?_;refine bQ 10 rfl (by decide +kernel) rfl rfl rfl (cZ rfl rfl fun b17 => ⟨(by repeat first|exact aI|refine aD ?_|refine aC rfl ?_|refine aH ?_), ?_⟩);refine bQ 11 rfl (by decide +kernel) rfl rfl rfl ((aF rfl).does ⟨(by repeat first|exact aI|refine aD ?_|refine aC rfl ?_|refine aH ?_), ?_⟩);refine dF (by decide +kernel) ?_;refine aL (kh2 _ _ (b17, b11, b15, Al8, c8, m8) o8 ?_ ?_ ?_)
   · exact (by repeat constructor)
   · exact (by repeat constructor)
   · repeat first|exact aI|refine aD ?_|refine aC rfl ?_|refine aH ?_
 ·
  rintro ⟨b17, b11, b15, Al8, c8, m8⟩ o8;refine aK fun K3 kh3 => ?_;refine aK fun K4 kh4 => ?_;refine aB ?_;refine aA rfl rfl rfl (aQ eE rfl) ?_;refine aA rfl rfl rfl (aM Tryz.isAgg3 rfl (rdA rfl)) ?_;refine aA rfl rfl rfl (aG rfl) ?_;refine aJ ?_;refine aL (kh4 _ _ ?_);clear kh4;refine aY ?_;refine cS (α := Nat × List Value × List Seg) [1, 2, 5, 19] (fun ⟨k, vs, ms⟩ => [(20, .int .i64 (k : Int))]) (fun ⟨k, vs, ms⟩ => [[(b17, blk [.slice Al8 L.length c8, .slice (some ⟨b11, 0, none⟩) n n, .slice (some ⟨b15, 0, none⟩) M M] 114)], m8, [(b11, blk vs 25)], ms.flatten, [(b15, blk (a6 (szs M (L.take k))) 3)], [(b2, blk [.int .i64 (n : Int), .slice A l.length cap] 24)]]) (fun ⟨k, vs, ms⟩ => k ≤ n ∧ RowsC 3 n (fun i => if i < k then bY (i : Int) l else []) vs ms ∧ ∀ i, k ≤ i → i < n → ms[i]? = some []) (fun ⟨k, vs, ms⟩ => n - k) (0, List.replicate n (.slice none 0 0), List.replicate n []) ?_ ?_ ?_ ?_
  · exact (by repeat constructor)
  · dsimp only
    rw [show (List.replicate n ([] : Seg)).flatten = [] from by simp]
    repeat first|exact aI|refine aD ?_|refine aC rfl ?_|refine aH ?_
  · exact ⟨by omega, RowsC.start _ n _, fun i _ hi => by simp [hi]⟩
  ·
   rintro ⟨k, vs, ms⟩ ⟨hkn, hRC, hnil⟩;refine eX (e := [(20, _), (1, _), (2, _), (5, _), (19, _)]) (by repeat constructor) ?_;refine aK fun K5 kh5 => ?_;refine aB ?_;refine aA rfl rfl rfl (cD rfl rfl) ?_;refine aJ ?_;refine aL (kh5 _ _ ?_);clear kh5;refine aK fun K6 kh6 => ?_;refine aZ rfl (fun c21 => ?_) (fun c21 => ?_)
   ·
    have hk : k < n := by omega
    have hkL : k < L.length := by omega
    have hz : gX (n : Int) l (k : Int) = 0 := by unfold gX; rw [if_neg (by rw [hg]; simp), if_neg (by omega)]
    obtain ⟨y, hy⟩ : ∃ y : Nat, L[k] = (y : Int) := ⟨L[k].toNat, by have := hp0 _ (List.getElem_mem hkL); omega⟩
    have hyM : y < M := by have := f8 (List.getElem_mem hkL); omega
    have hcl := cnt_le (L.take k) y
    rw [List.length_take] at hcl;refine aW ?_;refine aL (kh6 _ _ ?_);clear kh6;refine aK fun K7 kh7 => ?_;refine aY ?_;refine aK fun K8 kh8 => ?_;refine aB ?_;refine aA rfl rfl rfl (aG rfl) ?_;refine aA rfl rfl rfl (aF rfl) ?_;refine aJ ?_;refine aL (kh8 _ _ ?_);clear kh8;refine aK fun K9 kh9 => ?_;refine dH [[(b17, blk [.slice Al8 L.length c8, .slice (some ⟨b11, 0, none⟩) n n, .slice (some ⟨b15, 0, none⟩) M M] 114)], [(b2, blk [.int .i64 (n : Int), .slice A l.length cap] 24)]] rfl ?_;refine aU 0 rfl (by decide +kernel) rfl rfl rfl (by repeat first|exact aI|refine aD ?_|refine aC rfl ?_|refine aH ?_) (aG rfl) ?_;refine aU 1 rfl (by decide +kernel) rfl rfl rfl (by repeat first|exact aI|refine aD ?_|refine aC rfl ?_|refine aH ?_) (d6 rfl) ?_;refine aU 2 rfl (by decide +kernel) rfl rfl rfl (by repeat first|exact aI|refine aD ?_|refine aC rfl ?_|refine aH ?_) (aQ fa114_1 rfl) ?_;refine aU 3 rfl (by decide +kernel) rfl rfl rfl (by repeat first|exact aI|refine aD ?_|refine aC rfl ?_|refine aH ?_) (aM Tryz.isAgg30 rfl (rdA rfl)) ?_;refine aU 4 rfl (by decide +kernel) rfl rfl rfl (by repeat first|exact aI|refine aD ?_|refine aC rfl ?_|refine aH ?_) (aG rfl) ?_;refine aU 5 rfl (by decide +kernel) rfl rfl rfl (by repeat first|exact aI|refine aD ?_|refine aC rfl ?_|refine aH ?_) (a8 (vs := [.int .i64 (n : Int), .slice A l.length cap]) Tryz.isAgg24 Tryz.sizeOf24 rfl rfl ⟨(rdA rfl), (rdA rfl), trivial⟩) ?_;refine aU 6 rfl (by decide +kernel) rfl rfl rfl (by repeat first|exact aI|refine aD ?_|refine aC rfl ?_|refine aH ?_) (aG rfl) ?_;refine bQ 7 rfl (by decide +kernel) rfl rfl rfl (bD Tryz.call112 rfl (fun w_ hp_ => Neighbours_spec (n : Int) A l cap (k : Int) w_ (hr.up0 hp_) (by omega) hN hok) ?_);rintro _ _ ⟨Ar, W, cr, m31, rfl, rfl, hor, hW⟩;rw [if_pos hz] at hW;subst hW;dsimp only [List.cons_append, List.nil_append];refine ⟨(by repeat first|exact aI|refine aD ?_|refine aC rfl ?_|refine aH ?_), ?_⟩;refine aU 8 rfl (by decide +kernel) rfl rfl rfl (by repeat first|exact aI|refine aD ?_|refine aC rfl ?_|refine aH ?_) (aG rfl) ?_;refine aU 9 rfl (by decide +kernel) rfl rfl rfl (by repeat first|exact aI|refine aD ?_|refine aC rfl ?_|refine aH ?_) (aV rfl rfl) ?_;refine aU 10 rfl (by decide +kernel) rfl rfl rfl (by repeat first|exact aI|refine aD ?_|refine aC rfl ?_|refine aH ?_) (aV rfl rfl) ?_;refine aU 11 rfl (by decide +kernel) rfl rfl rfl (by repeat first|exact aI|refine aD ?_|refine aC rfl ?_|refine aH ?_) (bA gD rfl rfl (k) ⟨by omega, by omega, by first | omega | (simp; done) | (simp; omega)⟩) ?_
    refine eM 12 rfl (by decide +kernel) rfl rfl (cB Tryz.sizeOf25 rfl rfl rfl rfl (by rw [hRC.lv]; omega) (vs.set k (.slice Ar (bY (k : Int) l).length (bY (k : Int) l).length)) rfl ⟨(by repeat first|exact aI|refine aD ?_|refine aC rfl ?_|refine aH ?_), ?_⟩);refine dF (by decide +kernel) ?_;refine aL (kh9 _ _ ?_);clear kh9;refine dH [[(b17, blk [.slice Al8 L.length c8, .slice (some ⟨b11, 0, none⟩) n n, .slice (some ⟨b15, 0, none⟩) M M] 114)]] rfl ?_;refine aU 0 rfl (by decide +kernel) rfl rfl rfl (by repeat first|exact aI|refine aD ?_|refine aC rfl ?_|refine aH ?_) (aG rfl) ?_;refine aU 1 rfl (by decide +kernel) rfl rfl rfl (by repeat first|exact aI|refine aD ?_|refine aC rfl ?_|refine aH ?_) (d6 rfl) ?_;refine aU 2 rfl (by decide +kernel) rfl rfl rfl (by repeat first|exact aI|refine aD ?_|refine aC rfl ?_|refine aH ?_) (aQ fa114_2 rfl) ?_;refine aU 3 rfl (by decide +kernel) rfl rfl rfl (by repeat first|exact aI|refine aD ?_|refine aC rfl ?_|refine aH ?_) (aM Tryz.isAgg25 rfl (rdA rfl)) ?_;refine aU 4 rfl (by decide +kernel) rfl rfl rfl (by repeat first|exact aI|refine aD ?_|refine aC rfl ?_|refine aH ?_) (aG rfl) ?_;refine aU 5 rfl (by decide +kernel) rfl rfl rfl (by repeat first|exact aI|refine aD ?_|refine aC rfl ?_|refine aH ?_) (aG rfl) ?_;refine aU 6 rfl (by decide +kernel) rfl rfl rfl (by repeat first|exact aI|refine aD ?_|refine aC rfl ?_|refine aH ?_) (bA bK rfl rfl (ob + k) ⟨by omega, by omega, by first | omega | (simp; done) | (simp; omega)⟩) ?_;refine aU 7 rfl (by decide +kernel) rfl rfl rfl (by repeat first|exact aI|refine aD ?_|refine aC rfl ?_|refine aH ?_) (aM Tryz.isAgg3 rfl (show Rd _ _ _ _ _ (.int .i64 (y : Int)) by rw [← hy]; exact dX (enc := (.int .i64 ·)) hSb hcb hkL)) ?_;refine aU 8 rfl (by decide +kernel) rfl rfl rfl (by repeat first|exact aI|refine aD ?_|refine aC rfl ?_|refine aH ?_) (bA bK rfl rfl (y) ⟨by omega, by omega, by first | omega | (simp; done) | (simp; omega)⟩) ?_;refine bQ 9 rfl (by decide +kernel) rfl rfl rfl ((aM Tryz.isAgg3 rfl (rdA (v := .int .i64 (cnt (L.take k) y : Int)) (by rw [dL (by rw [eT]; exact hyM), iK hyM]))).does ⟨(by repeat first|exact aI|refine aD ?_|refine aC rfl ?_|refine aH ?_), ?_⟩);refine aU 10 rfl (by decide +kernel) rfl rfl rfl (by repeat first|exact aI|refine aD ?_|refine aC rfl ?_|refine aH ?_) (bG rfl rfl _ (aT (by omega))) ?_;refine aU 11 rfl (by decide +kernel) rfl rfl rfl (by repeat first|exact aI|refine aD ?_|refine aC rfl ?_|refine aH ?_) (bA bK rfl rfl (y) ⟨by omega, by omega, by first | omega | (simp; done) | (simp; omega)⟩) ?_
    refine eM 12 rfl (by decide +kernel) rfl rfl (cB Tryz.sizeOf3 rfl rfl rfl rfl (by rw [aX, eT]; omega) (a6 (szs M (L.take (k + 1)))) (by rw [szs_next hkL hy hyM]; simp [a6]) ⟨(by repeat first|exact aI|refine aD ?_|refine aC rfl ?_|refine aH ?_), ?_⟩);refine dF (by decide +kernel) ?_;refine cV ?_;refine aL (kh7 _ _ ?_);clear kh7;refine aB ?_;refine aA rfl rfl rfl (bG rfl rfl _ (aT (by omega))) ?_;refine aA rfl rfl rfl (aG rfl) ?_;refine aJ ?_;refine jI (Sub.joinF (m := m31) (G' := ms.flatten) (flat_put (hnil k (Nat.le_refl _) hk) m31)) ?_;refine aL (bB (k + 1, vs.set k (.slice Ar (bY (k : Int) l).length (bY (k : Int) l).length), ms.set k m31) (by first | omega | (dsimp only; omega) | (simp; omega)) ⟨by omega, hRC.next (r := fun i => bY (i : Int) l) hk hor, fun i h1 h2 => by rw [List.getElem?_set_ne (by omega)]; exact hnil i (by omega) h2⟩ ?_ ?_ ?_)
    · exact (by repeat constructor)
    · exact (by repeat constructor)
    · repeat first|exact aI|refine aD ?_|refine aC rfl ?_|refine aH ?_
   ·
    refine cG ?_;refine cK ?_;clear kh6;refine cK ?_;refine d5 ?_;refine aL (kh3 _ _ ?_);clear kh3;refine aK fun K10 kh10 => ?_;refine aB ?_;refine aA rfl rfl rfl (aG rfl) ?_;refine aA rfl rfl rfl (aF rfl) ?_;refine aJ ?_;refine aL (kh10 _ _ ?_);clear kh10;refine a7 ?_;obtain rfl : k = n := by omega
    dsimp only;rw [List.take_of_length_le (by omega)];exact bP [(k9 b17 Al8 c8 L m8 b11 k vs ms.flatten b15 (szs M L)).flatten] Tryz.results90 rfl (Sub.flat (by unfold k9; rw [eT]; repeat (first | exact aI | refine aD ?_))) ⟨b17, _, rfl, rfl, by rw [cQ, show (d4 L + 1).toNat = M by omega]; exact ⟨Al8, c8, m8, b11, vs, ms, b15, List.Perm.refl _, o8, hRC.all⟩⟩
end Go.Proofs.YtjjogcnjcnpehaaGreat

/- local.ready, Gain, Next. -/
namespace Go.Proofs.YtjjogcnjcnpehaaGreat
open Go Go.RowKit Fly
set_option linter.unusedVariables false
set_option linter.unusedSimpArgs false
theorem roMem {S : Nat → Prop} {w0 w : World} {segs : List Seg} {b : Nat} {cs sp : List Value} {T : TypeId} (hm : (b, blk (cs ++ sp) T) ∈ segs.flatten) (hp : Hp S w0 segs.flatten w) : Ro (Fr w []) w (some ⟨b, 0, none⟩) cs := fun _ => by
  have hb := hp.own b _ hm
  refine ⟨b, 0, rfl, ⟨hp.key_lt hm, by simp⟩, fun j v hj => ?_⟩;have : (cs ++ sp)[j]? = some v := dN hj
  simp [World.cell?, hb, this]
theorem roOwnM {S : Nat → Prop} {w0 w : World} {segs : List Seg} {E len len' c : Nat} {A : Option Addr} {cs : List Value} {m : Seg} (ho : Own E 1 (.slice A len' c) len cs m) (hm : ∀ x ∈ m, x ∈ segs.flatten) (hp : Hp S w0 segs.flatten w) : Ro (Fr w []) w A cs := by
  intro hne
  have hl : 0 < len := by
    rcases Nat.eq_zero_or_pos len with h | h
    · subst h; have := ho.1; simp at this; exact absurd this hne
    · exact h
  obtain ⟨b, sp, rfl, rfl⟩ := ho.at_ hl
  exact roMem (sp := sp) (T := E) (hm _ (by simp)) hp hne
theorem LRep.sees {S0 : Nat → Prop} {w0 w : World} {segs out : List Seg} {n : Nat} {rows : Nat → List Int} {L S : List Int} {bs : Nat} {m : Seg} (h : LRep n rows L S bs m) (hp : Hp S0 w0 segs.flatten w) [pk : Pick segs m out] : ∃ Al cl bo bz vs, LSee n rows L S bs w Al cl bo bz vs := by
  obtain ⟨Al, cl, ml, bo, vs, ms, bz, hm, hlo, hrw⟩ := h
  have hin : ∀ x ∈ (k9 bs Al cl L ml bo n vs ms.flatten bz S).flatten, x ∈ segs.flatten := fun x hx => pk.perm.symm.subset (List.mem_append_left _ (hm.symm.subset hx))
  refine ⟨Al, cl, bo, bz, vs, ?_, ?_, ?_, hrw.lv, fun v hv => ?_, ?_⟩
  · exact roMem (sp := []) (T := 114) (hin _ (by simp)) hp
  · exact roOwnM hlo (fun x hx => hin x (by simp [hx])) hp
  · exact roMem (sp := []) (T := 25) (hin _ (by simp)) hp
  · obtain ⟨A, c, h1, h2⟩ := hrw.own v hv
    refine ⟨A, _, h1, roOwnM h2 (fun x hx => hin x ?_) hp⟩;have : x ∈ ms.flatten := List.mem_flatten.2 ⟨_, List.getElem_mem _, hx⟩
    simp [this]
  · exact roMem (sp := []) (T := 3) (hin _ (by simp)) hp
theorem lL {n : Nat} {L : List Int} (hrt : c7 (n : Int) L = true) (hn : 1 ≤ n) : L.length = n ∧ (∀ x ∈ L, 0 ≤ x ∧ x < ((cQ L).length : Int) ∧ x < (n : Int)) ∧ (cQ L).length ≤ n ∧ 1 ≤ (cQ L).length := by
  unfold c7 at hrt
  simp only [Bool.and_eq_true, decide_eq_true_eq] at hrt;have hLn : L.length = n := by omega
  have h0 : 0 < L.length := by omega
  have hp0 := rgo_pos hrt.1
  have hp1 := rgo_lt hrt.1
  have hx1 : d4 L ≤ (n : Int) - 1 := jL h0 fun x hx => by have := hp1 x hx; omega
  have hx0 : 0 ≤ d4 L := Int.le_trans (hp0 L[0] (List.getElem_mem h0)) (f8 (List.getElem_mem h0))
  have e : (cQ L).length = (d4 L + 1).toNat := eT _ _
  refine ⟨hLn, fun x hx => ?_, by omega, by omega⟩;have := hp0 x hx
  have := f8 hx
  omega
theorem nbrs_rng {n : Nat} {l : List Arc} (hg : (bH (n : Int) l).2 = 0) (v : Int) : (bY v l).length ≤ 8192 ∧ ∀ u ∈ bY v l, 0 ≤ u ∧ u < (n : Int) := by
  obtain ⟨_, _, hlen, hgd⟩ := bX hg
  refine ⟨?_, fun u hu => ?_⟩
  · unfold bY
    refine Nat.le_trans (l6 _) ?_;rw [eZ];exact Nat.le_trans (lS v l) hlen
  · obtain ⟨x, hx, hux⟩ := k6.1 hu
    have := raw_good hgd x hx
    unfold nbr at hux
    split at hux
    · simp at hux
    · split at hux
      · simp at hux; omega
      · split at hux
        · simp at hux; omega
        · simp at hux
theorem szs_rng {M : Nat} {L : List Int} (h : L.length ≤ 1024) : ∀ x ∈ szs M L, 0 ≤ x ∧ x ≤ 1024 := fun x hx => by
  obtain ⟨j, _, rfl⟩ := List.mem_map.1 hx
  have := cnt_le L j
  omega
theorem lok_begin {n : Nat} {l : List Arc} {L : List Int} (hg : (bH (n : Int) l).2 = 0) (hrt : c7 (n : Int) L = true) : LOk n (fun v => bY (v : Int) l) L (cQ L) := by
  obtain ⟨hn1, hn2, hlen, hgd⟩ := bX hg
  obtain ⟨h1, h2, h3, _⟩ := lL hrt (by omega)
  exact ⟨by omega, h1, fun x hx => ⟨(h2 x hx).1, (h2 x hx).2.1⟩, by omega, fun v _ => Nat.le_trans (nbrs_rng hg v).1 (by decide), fun v _ => (nbrs_rng hg v).2, szs_rng (by omega)⟩
theorem lok_do {n : Nat} {rows : Nat → List Int} {L S : List Int} (h : LOk n rows L S) (v : Nat) (j : Int) : LOk n rows (tdy (L.set v j)) (szs (sns (L.set v j)).length (tdy (L.set v j))) := by
  have hl : (L.set v j).length = n := by rw [List.length_set]; exact h.len
  have hs := sns_len (L := L.set v j) (k := (L.set v j).length) (Nat.le_refl _)
  rw [List.take_length] at hs;have := h.n1
  exact ⟨h.n1, by rw [eR]; exact hl, fun x hx => by rw [eT]; exact tdy_rng x hx, by rw [eT]; omega, h.rlen, h.rok, szs_rng (by rw [eR]; omega)⟩
theorem lcount_ok {N : Int} {l : List Arc} {L : List Int} (h : (eD N l L).2 = 0) : (bH N l).2 = 0 ∧ c7 N L = true := by
  unfold eD at h
  by_cases h1 : (bH N l).2 ≠ 0
  · rw [if_pos h1] at h; exact absurd h h1
  · by_cases h2 : c7 N L = false
    · rw [if_neg h1, if_pos h2] at h; simp at h
    · exact ⟨by omega, by simpa using h2⟩
/-- What is wrong with a question about moves. -/
def fD (N : Int) (l : List Arc) (L : List Int) (bd : Int) : Int :=
  if (eD N l L).2 ≠ 0 then (eD N l L).2 else if bd < 1 ∨ 1024 < bd then 1 else if bd < d4 (cQ L) then 90 else 0
set_option maxRecDepth 100000 in
set_option maxHeartbeats 4000000 in
theorem ready_spec (N : Int) (A B : Option Addr) (l : List Arc) (cap : Nat) (L : List Int) (cb : Nat) (bd : Int) (w : World) (hr : Ro (Fr w []) w A (l.flatMap cE)) (hl : l.length ≤ 9223372036854775807) (hN : I64 N) (hok : ∀ x ∈ l, dQ x) (hL : Ro (Fr w []) w B (a6 L)) (hm : L.length ≤ 9223372036854775807) :
    Meets Tryz.prog 63 [.agg #[.int .i64 N, .slice A l.length cap], .slice B L.length cb, .int .i64 bd] w []
      (fun u own' => if fD N l L bd = 0 then ∃ bs m, u = .tuple #[.pointer (some ⟨bs, 0, none⟩), .int .i64 0] ∧ own' = [m] ∧ LRep N.toNat (fun v => bY (v : Int) l) L (cQ L) bs m else u = .tuple #[.pointer none, .int .i64 (fD N l L bd)] ∧ own' = []) := by
 refine bJ Tryz.func63 rfl Tryz.ntmps63 rfl Owns.nil ?_;refine aK fun K1 kh1 => ?_;refine aB ?_;refine aR rfl rfl rfl (cZ rfl rfl fun b3 => ?_);refine aA rfl rfl rfl (aF rfl) ?_;refine aA rfl rfl rfl (aF rfl) ?_;refine aJ ?_;refine aL (kh1 _ _ ?_);clear kh1;refine aK fun K2 kh2 => ?_;refine aK fun K3 kh3 => ?_;refine aB ?_;refine aA rfl rfl rfl (a8 (vs := [_, _]) Tryz.isAgg24 Tryz.sizeOf24 rfl rfl ⟨(rdA rfl), (rdA rfl), trivial⟩) ?_;refine aA rfl rfl rfl (aG rfl) ?_;refine aR rfl rfl rfl (bD Tryz.call47 rfl (fun w_ hp_ => Count_spec N A B l cap L cb w_ (hr.up0 hp_) hl hN hok (hL.up0 hp_) hm) ?_);rintro _ _ ⟨rfl, rfl⟩;dsimp only [List.cons_append, List.nil_append];refine aA rfl rfl rfl (aG rfl) ?_;refine aA rfl rfl rfl (aV rfl rfl) ?_;refine aA rfl rfl rfl (aV rfl rfl) ?_;refine aA rfl rfl rfl (aF rfl) ?_;refine aA rfl rfl rfl (aF rfl) ?_;refine aJ ?_;refine aL (kh3 _ _ ?_);clear kh3;refine aK fun K4 kh4 => ?_;refine aB ?_;refine aA rfl rfl rfl (aG rfl) ?_;refine aA rfl rfl rfl (c6 rfl rfl) ?_;refine aJ ?_;refine aL (kh4 _ _ ?_);clear kh4;refine aZ rfl (fun c18 => ?_) (fun c18 => ?_)
 ·
  refine aK fun K5 kh5 => ?_;refine aB ?_;refine aA rfl rfl rfl (aG rfl) ?_;refine aA rfl rfl rfl (aF rfl) ?_;refine aA rfl rfl rfl (aF rfl) ?_;refine aJ ?_;refine aL (kh5 _ _ ?_);clear kh5;refine a7 ?_;refine bT ?_;have e : fD N l L bd = (eD N l L).2 := if_pos c18
  exact bW [] Tryz.results63 rfl rfl aI (by rw [if_neg (by rw [e]; exact c18), e]; exact ⟨rfl, rfl⟩)
 ·
  have hlc : (eD N l L).2 = 0 := by simpa using c18
  obtain ⟨hg, hrt⟩ := lcount_ok hlc
  obtain ⟨n, rfl⟩ : ∃ n : Nat, N = (n : Int) := ⟨N.toNat, by have := bX hg; omega⟩
  have hO := lok_begin hg hrt
  have hn1 := hO.n1
  obtain ⟨hLn, _, hsz, hsz1⟩ := lL hrt hn1.1
  refine aW ?_;refine aL (kh2 _ _ ?_);clear kh2;refine aK fun K6 kh6 => ?_;refine aK fun K7 kh7 => ?_;refine aB ?_;refine aA rfl rfl rfl (aG rfl) ?_;refine aA rfl rfl rfl (cD rfl rfl) ?_;refine aA rfl rfl rfl (aG rfl) ?_;refine cX 22 rfl (fun g22 => ?_) (fun g22 => ?_)
  ·
   refine aS rfl rfl rfl rfl rfl rfl ?_;refine aS rfl rfl rfl rfl rfl rfl ?_;refine aA rfl rfl rfl (cF rfl rfl) ?_;refine aJ ?_;refine aL (kh7 _ _ ?_);clear kh7;refine eF rfl ?_;refine aK fun K8 kh8 => ?_;refine aB ?_;refine aA rfl rfl rfl (aF rfl) ?_;refine aA rfl rfl rfl (aF rfl) ?_;refine aJ ?_;refine aL (kh8 _ _ ?_);clear kh8;refine a7 ?_;refine bT ?_;have e : fD (n : Int) l L bd = 1 := by rw [fD, if_neg c18, if_pos (.inl g22)]
   exact bW [] Tryz.results63 rfl rfl aI (by rw [if_neg (by rw [e]; decide), e]; exact ⟨rfl, rfl⟩)
  ·
   refine aO rfl rfl rfl rfl rfl (aG rfl) ?_;refine aO rfl rfl rfl rfl rfl (eQ rfl rfl) ?_;refine aA rfl rfl rfl (cO rfl rfl) ?_;refine aJ ?_;refine aL (kh7 _ _ ?_);clear kh7;refine aZ rfl (fun c25 => ?_) (fun c25 => ?_)
   ·
    refine aK fun K9 kh9 => ?_;refine aB ?_;refine aA rfl rfl rfl (aF rfl) ?_;refine aA rfl rfl rfl (aF rfl) ?_;refine aJ ?_;refine aL (kh9 _ _ ?_);clear kh9;refine a7 ?_;refine bT ?_;have e : fD (n : Int) l L bd = 1 := by rw [fD, if_neg c18, if_pos (.inr (by omega))]
    exact bW [] Tryz.results63 rfl rfl aI (by rw [if_neg (by rw [e]; decide), e]; exact ⟨rfl, rfl⟩)
   ·
    refine aW ?_;refine aL (kh6 _ _ ?_);clear kh6;refine aK fun K10 kh10 => ?_;refine aB ?_;refine aA rfl rfl rfl (a8 (vs := [_, _]) Tryz.isAgg24 Tryz.sizeOf24 rfl rfl ⟨(rdA rfl), (rdA rfl), trivial⟩) ?_;refine aA rfl rfl rfl (aG rfl) ?_;refine aR rfl rfl rfl (bD Tryz.call90 rfl (fun w_ hp_ => begin_spec n A B l cap L cb w_ (hr.up0 hp_) hok hg (hL.up0 hp_) hrt) ?_);rintro _ _ ⟨bs, sm, rfl, rfl, hS⟩;dsimp only [List.cons_append, List.nil_append];refine aA rfl rfl rfl (aF rfl) ?_;refine aJ ?_;refine aL (kh10 _ _ ?_);clear kh10;refine aK fun K11 kh11 => ?_;refine aK fun K12 kh12 => ?_;have hS0 := hS
    obtain ⟨Al, cl, ml, bo, vs, ms, bz, hsm, hlo, hrw⟩ := hS
    refine gB (Sub.opened hsm) ?_
    try dsimp only [k9, List.cons_append, List.nil_append]
    refine aB ?_;refine aA rfl rfl rfl (aG rfl) ?_;refine aA rfl rfl rfl (d6 rfl) ?_;refine aA rfl rfl rfl (aQ fa114_2 rfl) ?_;refine aA rfl rfl rfl (aM Tryz.isAgg25 rfl (rdA rfl)) ?_;refine aR rfl rfl rfl (bD Tryz.call40 rfl (fun w_ hp_ => kA _ (cQ L) _ w_ (roMem (sp := []) (T := 3) (b := bz) (by simp) hp_) (by omega) (by omega)) ?_);rintro _ _ ⟨rfl, rfl⟩;dsimp only [List.cons_append, List.nil_append];refine aA rfl rfl rfl (aG rfl) ?_;refine aA rfl rfl rfl (eQ rfl rfl) ?_;refine aJ ?_;refine aL (kh12 _ _ ?_);clear kh12;refine aZ rfl (fun c35 => ?_) (fun c35 => ?_)
    ·
     refine aK fun K13 kh13 => ?_;refine aB ?_;refine aA rfl rfl rfl (aF rfl) ?_;refine aA rfl rfl rfl (aF rfl) ?_;refine aJ ?_;refine aL (kh13 _ _ ?_);clear kh13;refine a7 ?_;refine bT ?_;have e : fD (n : Int) l L bd = 90 := by rw [fD, if_neg c18, if_neg (by omega), if_pos (by omega)]
     exact bW [] Tryz.results63 rfl rfl aI (by rw [if_neg (by rw [e]; decide), e]; exact ⟨rfl, rfl⟩)
    ·
     refine aW ?_;refine aL (kh11 _ _ ?_);clear kh11;refine aK fun K14 kh14 => ?_;refine aB ?_;refine aA rfl rfl rfl (aG rfl) ?_;refine aA rfl rfl rfl (aF rfl) ?_;refine aA rfl rfl rfl (aF rfl) ?_;refine aJ ?_;refine aL (kh14 _ _ ?_);clear kh14;refine a7 ?_;have e : fD (n : Int) l L bd = 0 := by rw [fD, if_neg c18, if_neg (by omega), if_neg (by omega)]
     exact bW [(k9 bs Al cl L ml bo n vs ms.flatten bz (cQ L)).flatten] Tryz.results63 rfl rfl (Sub.flat (by repeat (first | exact aI | refine aD ?_ | refine aC rfl ?_))) (by rw [if_pos e]; exact ⟨bs, _, rfl, rfl, by rw [Int.toNat_natCast]; exact ⟨Al, cl, ml, bo, vs, ms, bz, List.Perm.refl _, hlo, hrw⟩⟩)
end Go.Proofs.YtjjogcnjcnpehaaGreat

/- local.Gain, local.Improve. -/
namespace Go.Proofs.YtjjogcnjcnpehaaGreat
open Go Go.RowKit Fly
set_option linter.unusedVariables false
set_option linter.unusedSimpArgs false
theorem Sub.opn {m : Seg} {segs s1 out : List Seg} [p : Pick segs m s1] (h : m.Perm out.flatten) : Fly.Sub segs out := by
  refine ⟨s1.flatten, p.perm.trans (h.append_right _)⟩
theorem mvRow_rng {n : Nat} {L S R : List Int} {bd : Int} {v : Nat} {b : Mv} (hv : v < n) (hb : b = (0, 0, 0) ∨ ∃ (y j : Nat) (g : Int), b = ((y : Int), (j : Int), g) ∧ y < n ∧ j < S.length) : ∀ j, j ≤ S.length → gR L S R bd v j b = (0, 0, 0) ∨ ∃ (y k : Nat) (g : Int), gR L S R bd v j b = ((y : Int), (k : Int), g) ∧ y < n ∧ k < S.length
  | 0, _ => hb
  | j + 1, h => by
    rw [iD]
    unfold mvUp
    split
    · exact .inr ⟨v, j, _, rfl, hv, by omega⟩
    · exact mvRow_rng hv hb j (by omega)
theorem mvTo_rng {n : Nat} {L S : List Int} {rows : Nat → List Int} {bd : Int} : ∀ k, k ≤ n → g7 L S rows bd k = (0, 0, 0) ∨ ∃ (y j : Nat) (g : Int), g7 L S rows bd k = ((y : Int), (j : Int), g) ∧ y < n ∧ j < S.length
  | 0, _ => .inl rfl
  | k + 1, h => by
    rw [mvTo_next];exact mvRow_rng (by omega) (mvTo_rng k (by omega)) _ (Nat.le_refl _)
abbrev LSt := List Int × List Int
def mvOf (n : Nat) (rows : Nat → List Int) (bd : Int) (s : LSt) : Mv := g7 s.1 s.2 rows bd n
def mvDo (L : List Int) (v : Nat) (j : Int) : LSt := (tdy (L.set v j), szs (sns (L.set v j)).length (tdy (L.set v j)))
/-- So many moves, as long as one is open; and how many were made. -/
def gJ (n : Nat) (rows : Nat → List Int) (bd : Int) : Nat → LSt → LSt × Nat
  | 0, s => (s, 0)
  | k + 1, s => if 0 < (mvOf n rows bd s).2.2 then ((gJ n rows bd k (mvDo s.1 (mvOf n rows bd s).1.toNat (mvOf n rows bd s).2.1)).1, (gJ n rows bd k (mvDo s.1 (mvOf n rows bd s).1.toNat (mvOf n rows bd s).2.1)).2 + 1) else (s, 0)
def impR (N : Int) (l : List Arc) (L : List Int) (bd most : Int) : List Int × Int × Int :=
  if fD N l L bd ≠ 0 then ([], 0, fD N l L bd) else if most < 0 ∨ 16384 < most then ([], 0, 1) else
    ((gJ N.toNat (fun v => bY (v : Int) l) bd most.toNat (L, cQ L)).1.1, ((gJ N.toNat (fun v => bY (v : Int) l) bd most.toNat (L, cQ L)).2 : Int), 0)
set_option maxRecDepth 100000 in
set_option maxHeartbeats 4000000 in
theorem Improve_spec (N : Int) (A B : Option Addr) (l : List Arc) (cap : Nat) (L : List Int) (cb : Nat) (bd most : Int) (w : World) (hr : Ro (Fr w []) w A (l.flatMap cE)) (hl : l.length ≤ 9223372036854775807) (hN : I64 N) (hok : ∀ x ∈ l, dQ x) (hL : Ro (Fr w []) w B (a6 L)) (hm : L.length ≤ 9223372036854775807) :
    Meets Tryz.prog 38 [.agg #[.int .i64 N, .slice A l.length cap], .slice B L.length cb, .int .i64 bd, .int .i64 most] w []
      (fun u own' => ∃ s ms, u = .tuple #[s, .int .i64 (impR N l L bd most).2.1, .int .i64 (impR N l L bd most).2.2] ∧ own' = [ms] ∧ Own 3 1 s (impR N l L bd most).1.length (a6 (impR N l L bd most).1) ms) := by
 have hrE0 : fD N l L bd = 0 → (eD N l L).2 = 0 := fun h => by
   unfold fD at h
   by_cases h1 : (eD N l L).2 ≠ 0
   · rw [if_pos h1] at h; exact absurd h h1
   · omega
 refine bJ Tryz.func38 rfl Tryz.ntmps38 rfl Owns.nil ?_;refine aK fun K1 kh1 => ?_;refine aB ?_;refine aR rfl rfl rfl (cZ rfl rfl fun b4 => ?_);refine aA rfl rfl rfl (aF rfl) ?_;refine aA rfl rfl rfl (aF rfl) ?_;refine aA rfl rfl rfl (aF rfl) ?_;refine aJ ?_;refine aL (kh1 _ _ ?_);clear kh1;refine aK fun K2 kh2 => ?_;refine aB ?_;refine aA rfl rfl rfl (a8 (vs := [_, _]) Tryz.isAgg24 Tryz.sizeOf24 rfl rfl ⟨(rdA rfl), (rdA rfl), trivial⟩) ?_;refine aA rfl rfl rfl (aG rfl) ?_;refine aA rfl rfl rfl (aG rfl) ?_;refine aR rfl rfl rfl (bD Tryz.call63 rfl (fun w_ hp_ => ready_spec N A B l cap L cb bd w_ (hr.up0 hp_) hl hN hok (hL.up0 hp_) hm) ?_);intro v18 own18 hv
 obtain ⟨p18, e18, rfl, hq⟩ : ∃ p18 e18, v18 = .tuple #[p18, .int .i64 e18] ∧ ((e18 = 0 ∧ fD N l L bd = 0 ∧ ∃ bs m, p18 = .pointer (some ⟨bs, 0, none⟩) ∧ own18 = [m] ∧ LRep N.toNat (fun v => bY (v : Int) l) L (cQ L) bs m) ∨ (e18 ≠ 0 ∧ e18 = fD N l L bd ∧ own18 = [])) := by
   by_cases h0 : fD N l L bd = 0
   · rw [if_pos h0] at hv; obtain ⟨bs, m, rfl, h1, h2⟩ := hv; exact ⟨_, _, rfl, .inl ⟨rfl, h0, bs, m, rfl, h1, h2⟩⟩
   · rw [if_neg h0] at hv; obtain ⟨rfl, h1⟩ := hv; exact ⟨_, _, rfl, .inr ⟨h0, rfl, h1⟩⟩
 rw [show own18 = [] ++ own18 from rfl];dsimp only [List.cons_append, List.nil_append];refine aA rfl rfl rfl (aG rfl) ?_;refine aA rfl rfl rfl (aV rfl rfl) ?_;refine aA rfl rfl rfl (aV rfl rfl) ?_;refine aA rfl rfl rfl (aF rfl) ?_;refine aA rfl rfl rfl (aF rfl) ?_;refine aJ ?_;refine aL (kh2 _ _ ?_);clear kh2;refine aK fun K3 kh3 => ?_;refine aK fun K4 kh4 => ?_;refine aB ?_;refine aA rfl rfl rfl (aG rfl) ?_;refine aA rfl rfl rfl (c6 rfl rfl) ?_;refine aJ ?_;refine aL (kh4 _ _ ?_);clear kh4;refine aZ rfl (fun c22 => ?_) (fun c22 => ?_)
 ·
  obtain ⟨h0, he, rfl⟩ := hq.resolve_left (fun h => c22 h.1)
  dsimp only [List.nil_append];refine aK fun K5 kh5 => ?_;refine aB ?_;refine aA rfl rfl rfl (aG rfl) ?_;refine aA rfl rfl rfl (aF rfl) ?_;refine aA rfl rfl rfl (aF rfl) ?_;refine aA rfl rfl rfl (aF rfl) ?_;refine aJ ?_;refine aL (kh5 _ _ ?_);clear kh5;refine a7 ?_;refine bT ?_;have e : impR N l L bd most = ([], 0, fD N l L bd) := if_pos (by rw [← he]; exact h0)
  exact f_fin3 [[]] Tryz.results38 rfl rfl rfl Sub.empty ⟨_, _, by rw [e, ← he], rfl, by rw [e]; exact Own.nil _ _⟩
 ·
  obtain ⟨rfl, h0, bs, m, rfl, rfl, hS⟩ := hq.resolve_right (fun h => c22 h.1)
  dsimp only [List.cons_append, List.nil_append];obtain ⟨hg, hrt⟩ := lcount_ok (hrE0 h0)
  obtain ⟨n, rfl⟩ : ∃ n : Nat, N = (n : Int) := ⟨N.toNat, by have := bX hg; omega⟩
  rw [Int.toNat_natCast] at hS;have hO := lok_begin hg hrt
  have hR : ∀ q, impR (n : Int) l L bd q = if q < 0 ∨ 16384 < q then ([], 0, 1) else ((gJ n (fun v => bY (v : Int) l) bd q.toNat (L, cQ L)).1.1, ((gJ n (fun v => bY (v : Int) l) bd q.toNat (L, cQ L)).2 : Int), 0) := fun q => by rw [impR, if_neg (by rw [h0]; simp), Int.toNat_natCast]
  refine aW ?_;refine aL (kh3 _ _ ?_);clear kh3;refine aK fun K6 kh6 => ?_;refine aK fun K7 kh7 => ?_;refine aB ?_;refine aA rfl rfl rfl (aG rfl) ?_;refine aA rfl rfl rfl (cD rfl rfl) ?_;refine aA rfl rfl rfl (aG rfl) ?_;refine cX 26 rfl (fun g26 => ?_) (fun g26 => ?_)
  ·
   refine aS rfl rfl rfl rfl rfl rfl ?_;refine aS rfl rfl rfl rfl rfl rfl ?_;refine aA rfl rfl rfl (cF rfl rfl) ?_;refine aJ ?_;refine aL (kh7 _ _ ?_);clear kh7;refine eF rfl ?_;refine aK fun K8 kh8 => ?_;refine aB ?_;refine aA rfl rfl rfl (aF rfl) ?_;refine aA rfl rfl rfl (aF rfl) ?_;refine aA rfl rfl rfl (aF rfl) ?_;refine aJ ?_;refine aL (kh8 _ _ ?_);clear kh8;refine a7 ?_;refine bT ?_;have e := hR most
   rw [if_pos (.inl g26)] at e;exact f_fin3 [[]] Tryz.results38 rfl rfl rfl Sub.empty ⟨_, _, by rw [e], rfl, by rw [e]; exact Own.nil _ _⟩
  ·
   refine aO rfl rfl rfl rfl rfl (aG rfl) ?_;refine aO rfl rfl rfl rfl rfl (eQ rfl rfl) ?_;refine aA rfl rfl rfl (cO rfl rfl) ?_;refine aJ ?_;refine aL (kh7 _ _ ?_);clear kh7;refine aZ rfl (fun c29 => ?_) (fun c29 => ?_)
   ·
    refine aK fun K9 kh9 => ?_;refine aB ?_;refine aA rfl rfl rfl (aF rfl) ?_;refine aA rfl rfl rfl (aF rfl) ?_;refine aA rfl rfl rfl (aF rfl) ?_;refine aJ ?_;refine aL (kh9 _ _ ?_);clear kh9;refine a7 ?_;refine bT ?_;have e := hR most
    rw [if_pos (.inr (by omega))] at e;exact f_fin3 [[]] Tryz.results38 rfl rfl rfl Sub.empty ⟨_, _, by rw [e], rfl, by rw [e]; exact Own.nil _ _⟩
   ·
    refine aW ?_;refine aL (kh6 _ _ ?_);clear kh6;refine aK fun K10 kh10 => ?_;refine aY ?_;refine cS (α := List Int × List Int × Nat × Seg) [2, 3, 11] (fun ⟨L1, S1, mv, m1⟩ => [(9, .int .i64 (mv : Int))]) (fun ⟨L1, S1, mv, m1⟩ => [m1]) (fun ⟨L1, S1, mv, m1⟩ => (mv : Int) ≤ most ∧ LRep n (fun v => bY (v : Int) l) L1 S1 bs m1 ∧ LOk n (fun v => bY (v : Int) l) L1 S1 ∧ gJ n (fun v => bY (v : Int) l) bd most.toNat (L, cQ L) = ((gJ n (fun v => bY (v : Int) l) bd (most.toNat - mv) (L1, S1)).1, mv + (gJ n (fun v => bY (v : Int) l) bd (most.toNat - mv) (L1, S1)).2)) (fun ⟨L1, S1, mv, m1⟩ => most.toNat - mv) (L, cQ L, 0, m) ?_ ?_ ?_ ?_
    · exact (by repeat constructor)
    · repeat first|exact aI|refine aD ?_|refine aC rfl ?_|refine aH ?_
    · exact ⟨by omega, hS, hO, by rw [Nat.sub_zero, Nat.zero_add]⟩
    ·
     rintro ⟨L1, S1, mv, m1⟩ ⟨hmm, hS1, hO1, hgo⟩;refine aK fun K11 kh11 => ?_;refine aK fun K12 kh12 => ?_;refine aB ?_;refine aA rfl rfl rfl (aG rfl) ?_;refine aA rfl rfl rfl (aG rfl) ?_;refine aA rfl rfl rfl (cD rfl rfl) ?_;refine aJ ?_;refine aL (kh12 _ _ ?_);clear kh12;refine aZ rfl (fun c32 => ?_) (fun c32 => ?_)
     ·
      refine aW ?_;refine aL (kh11 _ _ ?_);clear kh11;refine aY ?_;refine aK fun K13 kh13 => ?_;refine aB ?_;refine aA rfl rfl rfl (aG rfl) ?_;refine aA rfl rfl rfl (aG rfl) ?_;refine aR rfl rfl rfl (bD Tryz.call64 rfl (fun w_ hp_ => (by obtain ⟨Al, cl, bo, bz, vs, hs⟩ := hS1.sees hp_; exact next_spec n _ L1 S1 bs Al cl bo bz vs bd w_ hs hO1)) ?_);rintro _ _ ⟨rfl, rfl⟩;dsimp only [List.cons_append, List.nil_append];refine aA rfl rfl rfl (aG rfl) ?_;refine aA rfl rfl rfl (aV rfl rfl) ?_;refine aA rfl rfl rfl (aV rfl rfl) ?_;refine aR rfl rfl rfl (cU Tryz.zeroValue109 rfl fun b12 => ?_);refine bF rfl rfl (cA Tryz.sizeOf109 rfl rfl rfl rfl (by first | exact Nat.le_of_ble_eq_true rfl | (simp; done) | (simp; omega)) (mvCs (g7 L1 S1 (fun v => bY (v : Int) l) bd n)) rfl ?_);refine aA rfl rfl rfl (aF rfl) ?_;refine aJ ?_;refine aL (kh13 _ _ ?_);clear kh13;refine aK fun K14 kh14 => ?_;refine aK fun K15 kh15 => ?_;refine aB ?_;refine aA rfl rfl rfl (aG rfl) ?_;refine aA rfl rfl rfl (kG rfl) ?_;refine aJ ?_;refine aL (kh15 _ _ ?_);clear kh15;refine fC rfl (fun c40 => ?_) (fun c40 => ?_)
      ·
       have hnone : ¬ 0 < (g7 L1 S1 (fun v => bY (v : Int) l) bd n).2.2 := by simpa using c40
       have hfin : gJ n (fun v => bY (v : Int) l) bd (most.toNat - mv) (L1, S1) = ((L1, S1), 0) := by
         obtain ⟨k, hk⟩ : ∃ k, most.toNat - mv = k + 1 := ⟨most.toNat - mv - 1, by omega⟩
         have e : mvOf n (fun v => bY (v : Int) l) bd (L1, S1) = g7 L1 S1 (fun v => bY (v : Int) l) bd n := rfl
         rw [hk, gJ, e, if_neg hnone]
       rw [hfin] at hgo;obtain ⟨Al, cl, ml, bo, vs, ms, bz, hsm, hlo, hrw⟩ := hS1
       refine cG ?_;refine cK ?_;clear kh14;refine f_bo rfl ?_;refine cK ?_;refine d5 ?_;refine aL (kh10 _ _ ?_);clear kh10;refine aK fun K16 kh16 => ?_;refine gB (Sub.opn (out := k9 bs Al cl L1 ml bo n vs ms.flatten bz S1) hsm) ?_
       unfold k9
       refine aB ?_;refine aA rfl rfl rfl (aG rfl) ?_;refine aA rfl rfl rfl (d6 rfl) ?_;refine aA rfl rfl rfl (aQ jN rfl) ?_;refine aA rfl rfl rfl (aM Tryz.isAgg25 rfl (rdA rfl)) ?_;refine aA rfl rfl rfl (aG rfl) ?_;refine aA rfl rfl rfl (aF rfl) ?_;refine aA rfl rfl rfl (aF rfl) ?_;refine aA rfl rfl rfl (aF rfl) ?_;refine aJ ?_;refine aL (kh16 _ _ ?_);clear kh16;refine a7 ?_;have e := hR most
       rw [if_neg (by omega), hgo] at e;exact f_fin3 [ml] Tryz.results38 rfl rfl rfl (by repeat (first | exact aI | refine aD ?_ | refine aC rfl ?_)) ⟨.slice Al L1.length cl, ml, by rw [e]; simp, rfl, by rw [e]; exact hlo⟩
      ·
       have hsome : 0 < (g7 L1 S1 (fun v => bY (v : Int) l) bd n).2.2 := by simpa using c40
       obtain ⟨y, j, g, hmv, hyn, hjn⟩ := (mvTo_rng (n := n) (L := L1) (S := S1) (rows := fun v => bY (v : Int) l) (bd := bd) n (Nat.le_refl _)).resolve_left (fun h => by rw [h] at hsome; simp at hsome)
       have hstep : gJ n (fun v => bY (v : Int) l) bd (most.toNat - mv) (L1, S1) = ((gJ n (fun v => bY (v : Int) l) bd (most.toNat - (mv + 1)) ((mvDo L1 y (j : Int)).1, (mvDo L1 y (j : Int)).2)).1, (gJ n (fun v => bY (v : Int) l) bd (most.toNat - (mv + 1)) ((mvDo L1 y (j : Int)).1, (mvDo L1 y (j : Int)).2)).2 + 1) := by
         obtain ⟨k, hk⟩ : ∃ k, most.toNat - mv = k + 1 := ⟨most.toNat - mv - 1, by omega⟩
         have e : mvOf n (fun v => bY (v : Int) l) bd (L1, S1) = ((y : Int), (j : Int), g) := hmv
         rw [hmv] at hsome;rw [hk, gJ, e, if_pos hsome, show most.toNat - (mv + 1) = k by omega]; rfl
       rw [hstep] at hgo;rw [hmv];refine aW ?_;refine aL (kh14 _ _ ?_);clear kh14;refine aK fun K17 kh17 => ?_;refine aB ?_;refine aA rfl rfl rfl (aG rfl) ?_;refine aA rfl rfl rfl (a8 (vs := [_, _, _]) Tryz.isAgg109 Tryz.sizeOf109 rfl rfl ⟨(rdA rfl), (rdA rfl), (rdA rfl), trivial⟩) ?_;refine aR rfl rfl rfl (fH [m1] _ Tryz.call65 rfl (by repeat (first | exact Sub.refl | refine aD ?_)) (fun w_ hp_ => do_spec n _ L1 S1 bs m1 y j g w_ hS1 hO1 hyn hjn hp_.owns) ?_);rintro _ _ ⟨m2, rfl, hS2⟩;dsimp only [List.cons_append, List.nil_append];refine aJ ?_;refine aL (kh17 _ _ ?_);clear kh17;refine aB ?_;refine aA rfl rfl rfl (aG rfl) ?_;refine aA rfl rfl rfl (bG rfl rfl _ (aT (by omega))) ?_;refine aA rfl rfl rfl (aF rfl) ?_;refine aJ ?_;refine cV ?_;refine aL (bB ((mvDo L1 y (j : Int)).1, (mvDo L1 y (j : Int)).2, mv + 1, m2) (by first | omega | (dsimp only; omega) | (simp; omega)) ⟨by omega, hS2, lok_do hO1 y (j : Int), by rw [hgo]; congr 1; omega⟩ ?_ ?_ ?_)
       · exact (by repeat constructor)
       · exact (by repeat constructor)
       · repeat first|exact aI|refine aD ?_|refine aC rfl ?_|refine aH ?_
     ·
      have hfin : gJ n (fun v => bY (v : Int) l) bd (most.toNat - mv) (L1, S1) = ((L1, S1), 0) := by rw [show most.toNat - mv = 0 by omega]; rfl
      rw [hfin] at hgo;obtain ⟨Al, cl, ml, bo, vs, ms, bz, hsm, hlo, hrw⟩ := hS1
      refine cG ?_;refine cK ?_;clear kh11;refine cK ?_;refine d5 ?_;refine aL (kh10 _ _ ?_);clear kh10;refine aK fun K18 kh18 => ?_;refine gB (Sub.opn (out := k9 bs Al cl L1 ml bo n vs ms.flatten bz S1) hsm) ?_
      unfold k9
      refine aB ?_;refine aA rfl rfl rfl (aG rfl) ?_;refine aA rfl rfl rfl (d6 rfl) ?_;refine aA rfl rfl rfl (aQ jN rfl) ?_;refine aA rfl rfl rfl (aM Tryz.isAgg25 rfl (rdA rfl)) ?_;refine aA rfl rfl rfl (aG rfl) ?_;refine aA rfl rfl rfl (aF rfl) ?_;refine aA rfl rfl rfl (aF rfl) ?_;refine aA rfl rfl rfl (aF rfl) ?_;refine aJ ?_;refine aL (kh18 _ _ ?_);clear kh18;refine a7 ?_;have e := hR most
      rw [if_neg (by omega), hgo] at e;exact f_fin3 [ml] Tryz.results38 rfl rfl rfl (by repeat (first | exact aI | refine aD ?_ | refine aC rfl ?_)) ⟨.slice Al L1.length cl, ml, by rw [e]; simp, rfl, by rw [e]; exact hlo⟩
end Go.Proofs.YtjjogcnjcnpehaaGreat

/- flyoverlaw10: large, works, LocalStays. -/
namespace Go.Proofs.YtjjogcnjcnpehaaGreat
open Go Go.RowKit Fly
set_option linter.unusedVariables false
set_option linter.unusedSimpArgs false
end Go.Proofs.YtjjogcnjcnpehaaGreat

/- split.looked, split.Sizes, flyoverlaw10.LocalGains. -/
namespace Go.Proofs.YtjjogcnjcnpehaaGreat
open Go Go.RowKit Fly
set_option linter.unusedVariables false
set_option linter.unusedSimpArgs false
theorem ready_ok {N : Int} {l : List Arc} {L : List Int} {bd : Int} (h : fD N l L bd = 0) : (eD N l L).2 = 0 ∧ d4 (cQ L) ≤ bd := by
  unfold fD at h
  by_cases h1 : (eD N l L).2 ≠ 0
  · rw [if_pos h1] at h; exact absurd h h1
  · rw [if_neg h1] at h
    by_cases h2 : bd < 1 ∨ 1024 < bd
    · rw [if_pos h2] at h; simp at h
    · rw [if_neg h2] at h
      by_cases h3 : bd < d4 (cQ L)
      · rw [if_pos h3] at h; simp at h
      · exact ⟨by omega, by omega⟩
theorem sizes_cnt {L : List Int} {i : Nat} (h : i < (cQ L).length) : (cQ L)[i] = (cnt L i : Int) := by
  have h' : i < (d4 L + 1).toNat := by unfold cQ at h; rwa [eT] at h
  exact iK h'
end Go.Proofs.YtjjogcnjcnpehaaGreat

/- Moves come to an end (plain laws for LocalEnds). -/
namespace Go.Proofs.YtjjogcnjcnpehaaGreat
open Go Go.RowKit Fly
set_option linter.unusedVariables false
set_option linter.unusedSimpArgs false
structure LInv (n : Nat) (l : List Arc) (bd : Int) (s : LSt) : Prop where
  len : s.1.length = n
  right : c7 (n : Int) s.1 = true
  size : s.2 = cQ s.1
  bound : ∀ x ∈ s.2, x ≤ bd
theorem LInv.step {n : Nat} {l : List Arc} {bd : Int} {s : LSt} (hg : (bH (n : Int) l).2 = 0) (h : LInv n l bd s) (ho : 0 < (mvOf n (fun v => bY (v : Int) l) bd s).2.2) :
    LInv n l bd (mvDo s.1 (mvOf n (fun v => bY (v : Int) l) bd s).1.toNat (mvOf n (fun v => bY (v : Int) l) bd s).2.1) ∧ (l3 n l (mvDo s.1 (mvOf n (fun v => bY (v : Int) l) bd s).1.toNat (mvOf n (fun v => bY (v : Int) l) bd s).2.1).1 : Int) = l3 n l s.1 - (mvOf n (fun v => bY (v : Int) l) bd s).2.2 := by
  obtain ⟨L, S⟩ := s
  obtain ⟨hL, hrt, hS, hB⟩ := h
  simp only at hL hrt hS hB;subst hS;have hn1 := (lok_begin hg hrt).n1
  obtain ⟨_, hin, hsz, hsz1⟩ := lL hrt hn1.1
  obtain ⟨y, j, hbe, hyn, hjS, hmay⟩ := (to_is (n := n) (L := L) (S := cQ L) (rows := fun v => bY (v : Int) l) (bd := bd) n (Nat.le_refl _)).resolve_left (fun h => by unfold mvOf at ho; rw [h] at ho; simp at ho)
  have e : mvOf n (fun v => bY (v : Int) l) bd (L, cQ L) = ((y : Int), (j : Int), gn L (bY (y : Int) l) (lab L (y : Int)) (j : Int)) := hbe
  rw [e] at ho ⊢;simp only [Int.toNat_natCast];have hL2 : (L.set y (j : Int)).length = n := by rw [List.length_set]; exact hL
  have hgood : GoodC n l := raw_good (bX hg).2.2.2
  have hcut := cut_set hgood (L := L) (v := y) (by omega) (j : Int)
  have hct : l3 n l (tdy (L.set y (j : Int))) = l3 n l (L.set y (j : Int)) := cut_tdy hL2
  refine ⟨⟨by unfold mvDo; rw [eR]; exact hL2, right_tdy hL2, sizes_tdy (by omega), ?_⟩, ?_⟩
  · refine size_move (M := (cQ L).length) (by omega) hjS (fun x hx => ⟨(hin x hx).1, (hin x hx).2.1⟩) (fun i hi => ?_) ?_
    · rw [← sizes_cnt hi]; exact hB _ (List.getElem_mem hi)
    · rw [← sizes_cnt hjS]; have := hmay.2; rw [List.getD_eq_getElem?_getD, List.getElem?_eq_getElem hjS] at this; exact this
  · show (l3 n l (tdy (L.set y (j : Int))) : Int) = _
    rw [hct]; exact hcut
theorem LInv.go {n : Nat} {l : List Arc} {bd : Int} (hg : (bH (n : Int) l).2 = 0) : ∀ (k : Nat) (s : LSt), LInv n l bd s → LInv n l bd (gJ n (fun v => bY (v : Int) l) bd k s).1 ∧ l3 n l (gJ n (fun v => bY (v : Int) l) bd k s).1.1 + (gJ n (fun v => bY (v : Int) l) bd k s).2 ≤ l3 n l s.1
  | 0, s, h => ⟨h, by simp [gJ]⟩
  | k + 1, s, h => by
    rw [gJ]
    by_cases hc : 0 < (mvOf n (fun v => bY (v : Int) l) bd s).2.2
    · rw [if_pos hc]
      obtain ⟨h1, h2⟩ := h.step hg hc
      obtain ⟨h3, h4⟩ := LInv.go hg k _ h1
      refine ⟨h3, ?_⟩;simp only;omega
    · rw [if_neg hc]; exact ⟨h, by simp⟩
end Go.Proofs.YtjjogcnjcnpehaaGreat

/- Nests: which are right. Plain laws. -/
namespace Go.Proofs.YtjjogcnjcnpehaaGreat
open Go Fly
set_option linter.unusedVariables false
set_option linter.unusedSimpArgs false
set_option linter.unusedSectionVars false
theorem lc_zeroN {N : Int} {l : List Arc} {L : List Int} (hg : (bH N l).2 = 0) (hR : c7 N L = true) : (eD N l L).2 = 0 := by
  unfold eD
  rw [if_neg (by rw [hg]; simp), if_neg (by rw [hR]; simp)]
theorem spE_oneN {N : Int} {l : List Arc} {L : List Int} {bd : Int} (hg : (bH N l).2 = 0) (hR : c7 N L = true) (hb : 1 ≤ bd ∧ bd ≤ 1024) : spE N l L bd = 0 := by
  unfold spE
  rw [if_neg (by rw [lc_zeroN hg hR]; simp), if_neg (by omega)]
/-- Of right labels each one is borne. -/
theorem right_cntN {n : Nat} {L : List Int} (hR : c7 (n : Int) L = true) (hn : 1 ≤ n) {j : Nat} (hj : j < (d4 L + 1).toNat) : 1 ≤ cnt L j := by
  have hl := (cN hR).2
  have e : L = tdy L := right_unique hR (right_tdy hl) fun u v hu hv => (tdy_labN (by omega) (by omega)).symm
  have hm := max_tdy (L := L) (by omega)
  rw [← e] at hm;have hjs : j < (sns L).length := by omega
  rw [e, cnt_tdy hjs]
  have hmem : (sns L)[j] ∈ L := by
    have := sns_sub (L := L) (k := L.length) (Nat.le_refl _) (sns L)[j] (by rw [List.take_length]; exact List.getElem_mem _)
    exact this
  have := cntI_pos hmem
  unfold eP at this
  omega
theorem max_cntN {L : List Int} (h0 : 0 < (cQ L).length) {bd : Int} (h : ∀ y, (eP L y : Int) ≤ bd) : d4 (cQ L) ≤ bd := jL h0 fun x hx => by
  unfold cQ szs at hx
  obtain ⟨j, _, rfl⟩ := List.mem_map.1 hx
  exact h j
theorem lc_right {N : Int} {l : List Arc} {L : List Int} (hg : (bH N l).2 = 0) (h : (eD N l L).2 = 0) : c7 N L = true := by
  unfold eD at h
  rw [if_neg (by rw [hg]; simp)] at h
  by_cases hR : c7 N L = false
  · rw [if_pos hR] at h; cases h
  · simpa using hR
/-- What is wrong with a level of cells, by itself. -/
def iP (N : Int) (l : List Arc) (c : List Int) (b : Int) : Int := if (eD N l c).2 ≠ 0 then (eD N l c).2 else if b < d4 (cQ c) then 90 else 0
/-- Who is together below is together above. -/
def h9 (b a : List Int) : Prop := ∀ u, u < b.length → ∀ v, v < b.length → b.getD u 0 = b.getD v 0 → a.getD u 0 = a.getD v 0
instance (b a : List Int) : Decidable (h9 b a) := by unfold h9; infer_instance
def jP (bs : List Int) : Nat → Int
  | 0 => 0
  | k + 1 => bs.getD k 0
/-- What is wrong with a level. -/
def lvE (N : Int) (l : List Arc) (bs : List Int) (L : List (List Int)) (k : Nat) : Int :=
  if bs.getD k 0 ≤ jP bs k ∨ 1024 < bs.getD k 0 then 1 else if iP N l (L.getD k []) (bs.getD k 0) ≠ 0 then iP N l (L.getD k []) (bs.getD k 0) else if 0 < k ∧ ¬ h9 (L.getD (k - 1) []) (L.getD k []) then 110 else 0
def nsE (N : Int) (l : List Arc) (bs : List Int) (L : List (List Int)) : Int × Int :=
  if (bH N l).2 ≠ 0 then (0, (bH N l).2) else if bs.length < 1 ∨ 5 < bs.length ∨ L.length ≠ bs.length then (0, 111) else
  match (List.range bs.length).find? (fun k => decide (lvE N l bs L k ≠ 0)) with
  | some k => ((k : Int) + 1, lvE N l bs L k)
  | none => (0, 0)
theorem find_first {m k : Nat} {p : Nat → Bool} (hk : k < m) (h : ∀ j, j < k → p j = false) (hp : p k = true) : (List.range m).find? p = some k := by
  rw [List.find?_eq_some_iff_getElem];exact ⟨hp, k, by simpa using hk, by simp, fun j hj => by simp [h j hj]⟩
theorem find_none {m : Nat} {p : Nat → Bool} (h : ∀ j, j < m → p j = false) : (List.range m).find? p = none := by
  rw [List.find?_eq_none];intro x hx;simp [h x (by simpa using hx)]
theorem nsE_at {N : Int} {l : List Arc} {bs : List Int} {L : List (List Int)} (hg : (bH N l).2 = 0) (hm : ¬ (bs.length < 1 ∨ 5 < bs.length ∨ L.length ≠ bs.length)) {k : Nat} (hk : k < bs.length) (h : ∀ j, j < k → lvE N l bs L j = 0) (hp : lvE N l bs L k ≠ 0) :
    nsE N l bs L = ((k : Int) + 1, lvE N l bs L k) := by
  unfold nsE
  rw [if_neg (by rw [hg]; simp), if_neg hm, find_first hk (fun j hj => by simp [h j hj]) (by simpa using hp)]
theorem nsE_none {N : Int} {l : List Arc} {bs : List Int} {L : List (List Int)} (hg : (bH N l).2 = 0) (hm : ¬ (bs.length < 1 ∨ 5 < bs.length ∨ L.length ≠ bs.length)) (h : ∀ j, j < bs.length → lvE N l bs L j = 0) : nsE N l bs L = (0, 0) := by
  unfold nsE
  rw [if_neg (by rw [hg]; simp), if_neg hm, find_none fun j hj => by simp [h j hj]]
/-- A right nest. -/
structure NestOk (n : Nat) (l : List Arc) (bs : List Int) (L : List (List Int)) : Prop where
  g : (bH (n : Int) l).2 = 0
  many : 1 ≤ bs.length ∧ bs.length ≤ 5
  len : L.length = bs.length
  lv : ∀ k, k < bs.length → lvE (n : Int) l bs L k = 0
theorem nsE_zero {N : Int} {l : List Arc} {bs : List Int} {L : List (List Int)} (h : (nsE N l bs L).2 = 0) : ∃ n : Nat, N = (n : Int) ∧ NestOk n l bs L := by
  unfold nsE at h
  by_cases hg : (bH N l).2 = 0
  · rw [if_neg (by rw [hg]; simp)] at h
    by_cases hm : bs.length < 1 ∨ 5 < bs.length ∨ L.length ≠ bs.length
    · rw [if_pos hm] at h; cases h
    · rw [if_neg hm] at h
      have hz := bX hg
      obtain ⟨n, rfl⟩ : ∃ n : Nat, N = (n : Int) := ⟨N.toNat, by omega⟩
      refine ⟨n, rfl, hg, by omega, by omega, fun k hk => ?_⟩
      split at h
      · rename_i j hj
        have := List.find?_some hj
        simp only [decide_eq_true_eq] at this;exact absurd h this
      · rename_i hn
        rw [List.find?_eq_none] at hn;have := hn k (by simpa using hk)
        simpa using this
  · rw [if_pos hg] at h; exact absurd h hg
theorem NestOk.zero {n : Nat} {l : List Arc} {bs : List Int} {L : List (List Int)} (h : NestOk n l bs L) : nsE (n : Int) l bs L = (0, 0) := nsE_none h.g (by have := h.many; have := h.len; omega) h.lv
/-- A right level. -/
theorem lvE_zero {n : Nat} {l : List Arc} {bs : List Int} {L : List (List Int)} (hg : (bH (n : Int) l).2 = 0) {k : Nat} : lvE (n : Int) l bs L k = 0 ↔
    (jP bs k < bs.getD k 0 ∧ bs.getD k 0 ≤ 1024) ∧ c7 (n : Int) (L.getD k []) = true ∧ (∀ y, (eP (L.getD k []) y : Int) ≤ bs.getD k 0) ∧ (0 < k → h9 (L.getD (k - 1) []) (L.getD k [])) := by
  have hn := bX hg
  have hF : iP (n : Int) l (L.getD k []) (bs.getD k 0) = 0 ↔ c7 (n : Int) (L.getD k []) = true ∧ ∀ y, (eP (L.getD k []) y : Int) ≤ bs.getD k 0 := by
    unfold iP
    constructor
    · intro h
      by_cases h1 : (eD (n : Int) l (L.getD k [])).2 = 0
      · have hR := lc_right hg h1
        rw [if_neg (by rw [h1]; simp)] at h;refine ⟨hR, fun y => ?_⟩
        have hmx : d4 (cQ (L.getD k [])) ≤ bs.getD k 0 := by
          by_cases h2 : bs.getD k 0 < d4 (cQ (L.getD k []))
          · rw [if_pos h2] at h; cases h
          · omega
        have hrg := dY hR (by omega)
        by_cases hy : y ∈ L.getD k []
        · have h3 := hrg y hy
          obtain ⟨j, rfl⟩ : ∃ j : Nat, y = (j : Int) := ⟨y.toNat, by omega⟩
          have h4 : (cnt (L.getD k []) j : Int) ∈ cQ (L.getD k []) := by
            unfold cQ szs
            exact List.mem_map.2 ⟨j, by rw [List.mem_range]; omega, rfl⟩
          have := f8 h4
          rw [cnt_is] at this; omega
        · rw [iJ hy]
          have h0 : 0 < (L.getD k []).length := by have := (cN hR).2; omega
          have h5 := hrg _ (List.getElem_mem h0)
          have h6 : (cnt (L.getD k []) 0 : Int) ∈ cQ (L.getD k []) := by
            unfold cQ szs
            exact List.mem_map.2 ⟨0, by rw [List.mem_range]; omega, rfl⟩
          have := f8 h6
          omega
      · rw [if_pos h1] at h; exact absurd h h1
    · rintro ⟨hR, hs⟩
      have h1 := lc_zeroN hg hR
      have hrg := dY hR (by omega)
      have h0 : 0 < (L.getD k []).length := by have := (cN hR).2; omega
      have h5 := hrg _ (List.getElem_mem h0)
      rw [if_neg (by rw [h1]; simp), if_neg];have := max_cntN (L := L.getD k []) (by unfold cQ; rw [eT]; omega) hs
      omega
  unfold lvE
  by_cases h1 : bs.getD k 0 ≤ jP bs k ∨ 1024 < bs.getD k 0
  · rw [if_pos h1]
    constructor
    · intro h; cases h
    · rintro ⟨h2, _⟩; omega
  · rw [if_neg h1]
    by_cases h2 : iP (n : Int) l (L.getD k []) (bs.getD k 0) = 0
    · rw [if_neg (by rw [h2]; simp)]
      obtain ⟨h3, h4⟩ := hF.1 h2
      by_cases h5 : 0 < k ∧ ¬ h9 (L.getD (k - 1) []) (L.getD k [])
      · rw [if_pos h5]
        constructor
        · intro h; cases h
        · rintro ⟨_, _, _, h6⟩; exact absurd (h6 h5.1) h5.2
      · rw [if_neg h5]
        exact ⟨fun _ => ⟨by omega, h3, h4, fun h => Classical.byContradiction fun h6 => h5 ⟨h, h6⟩⟩, fun _ => rfl⟩
    · rw [if_pos h2]
      constructor
      · intro h; exact absurd h h2
      · rintro ⟨_, h3, h4, _⟩; exact hF.2 ⟨h3, h4⟩
section
variable {n : Nat} {l : List Arc} {bs : List Int} {L : List (List Int)}
theorem NestOk.bnd (h : NestOk n l bs L) {k : Nat} (hk : k < bs.length) : jP bs k < bs.getD k 0 ∧ bs.getD k 0 ≤ 1024 := ((lvE_zero h.g).1 (h.lv k hk)).1
theorem NestOk.right (h : NestOk n l bs L) {k : Nat} (hk : k < bs.length) : c7 (n : Int) (L.getD k []) = true := ((lvE_zero h.g).1 (h.lv k hk)).2.1
theorem NestOk.size (h : NestOk n l bs L) {k : Nat} (hk : k < bs.length) : ∀ y, (eP (L.getD k []) y : Int) ≤ bs.getD k 0 := ((lvE_zero h.g).1 (h.lv k hk)).2.2.1
theorem NestOk.within (h : NestOk n l bs L) {k : Nat} (hk : k < bs.length) (h0 : 0 < k) : h9 (L.getD (k - 1) []) (L.getD k []) := ((lvE_zero h.g).1 (h.lv k hk)).2.2.2 h0
theorem NestOk.rowlen (h : NestOk n l bs L) {k : Nat} (hk : k < bs.length) : (L.getD k []).length = n := (cN (h.right hk)).2
theorem NestOk.n1 (h : NestOk n l bs L) : 1 ≤ n ∧ n ≤ 1024 := by have := bX h.g; omega
end
/-- What is wrong with a level's number. -/
def lkE (N : Int) (l : List Arc) (bs : List Int) (L : List (List Int)) (q : Int) : Int := if (nsE N l bs L).2 ≠ 0 then (nsE N l bs L).2 else if q < 1 ∨ (bs.length : Int) < q then 111 else 0
def clE (N : Int) (l : List Arc) (bs : List Int) (L : List (List Int)) (q c : Int) : Int := if lkE N l bs L q ≠ 0 then lkE N l bs L q else if c < 0 ∨ d4 (L.getD (q.toNat - 1) []) + 1 ≤ c then 120 else 0
theorem lkE_zero {N : Int} {l : List Arc} {bs : List Int} {L : List (List Int)} {q : Int} (h : lkE N l bs L q = 0) : ∃ n k : Nat, N = (n : Int) ∧ NestOk n l bs L ∧ q = (k : Int) + 1 ∧ k < bs.length := by
  unfold lkE at h
  by_cases h1 : (nsE N l bs L).2 = 0
  · rw [if_neg (by rw [h1]; simp)] at h
    obtain ⟨n, rfl, hok⟩ := nsE_zero h1
    by_cases h2 : q < 1 ∨ (bs.length : Int) < q
    · rw [if_pos h2] at h; cases h
    · exact ⟨n, q.toNat - 1, rfl, hok, by omega, by omega⟩
  · rw [if_pos h1] at h; exact absurd h h1
theorem lkE_ok {n : Nat} {l : List Arc} {bs : List Int} {L : List (List Int)} (h : NestOk n l bs L) {k : Nat} (hk : k < bs.length) : lkE (n : Int) l bs L ((k : Int) + 1) = 0 := by
  unfold lkE
  rw [h.zero, if_neg (by simp), if_neg (by omega)]
theorem clE_zero {N : Int} {l : List Arc} {bs : List Int} {L : List (List Int)} {q c : Int} (h : clE N l bs L q c = 0) : ∃ n k j : Nat, N = (n : Int) ∧ NestOk n l bs L ∧ q = (k : Int) + 1 ∧ k < bs.length ∧ c = (j : Int) ∧ (j : Int) < d4 (L.getD k []) + 1 := by
  unfold clE at h
  by_cases h1 : lkE N l bs L q = 0
  · rw [if_neg (by rw [h1]; simp)] at h
    obtain ⟨n, k, rfl, hok, rfl, hk⟩ := lkE_zero h1
    have e : ((k : Int) + 1).toNat - 1 = k := by omega
    rw [e] at h
    by_cases h2 : c < 0 ∨ d4 (L.getD k []) + 1 ≤ c
    · rw [if_pos h2] at h; cases h
    · exact ⟨n, k, c.toNat, rfl, hok, rfl, hk, by omega, by omega⟩
  · rw [if_pos h1] at h; exact absurd h h1
theorem clE_ok {n : Nat} {l : List Arc} {bs : List Int} {L : List (List Int)} (h : NestOk n l bs L) {k : Nat} (hk : k < bs.length) {c : Int} (hc : 0 ≤ c ∧ c < d4 (L.getD k []) + 1) : clE (n : Int) l bs L ((k : Int) + 1) c = 0 := by
  unfold clE
  have e : ((k : Int) + 1).toNat - 1 = k := by omega
  rw [lkE_ok h hk, if_neg (by simp), e, if_neg (by omega)]
/-- A cell's vertices. -/
def mem (n : Nat) (L : List Int) (c : Int) : List Int := ((List.range n).filter fun v => decide (L.getD v 0 = c)).map fun v : Nat => (v : Int)
end Go.Proofs.YtjjogcnjcnpehaaGreat

/- How a nest is made, and that it is right. Plain laws. -/
namespace Go.Proofs.YtjjogcnjcnpehaaGreat
open Go Fly
set_option linter.unusedVariables false
set_option linter.unusedSimpArgs false
set_option linter.unusedSectionVars false
/-- What is wrong with a plan. -/
def badB (bs : List Int) : Bool := (List.range bs.length).any fun k => decide (bs.getD k 0 ≤ jP bs k ∨ 1024 < bs.getD k 0)
def plE (N : Int) (l : List Arc) (bs cs : List Int) (mv : Int) : Int :=
  if (bH N l).2 ≠ 0 then (bH N l).2 else if bs.length < 1 ∨ 5 < bs.length then 111 else if badB bs = true then 1 else if 16384 < cs.length then 2 else if cs.any (offV N) = true then 5 else if mv < 0 ∨ 16384 < mv then 1 else 0
/-- A right plan. -/
structure PlOk (n : Nat) (l : List Arc) (bs cs : List Int) (mv : Int) : Prop where
  g : (bH (n : Int) l).2 = 0
  many : 1 ≤ bs.length ∧ bs.length ≤ 5
  bnd : ∀ k, k < bs.length → jP bs k < bs.getD k 0 ∧ bs.getD k 0 ≤ 1024
  few : cs.length ≤ 16384
  rng : ∀ v ∈ cs, 0 ≤ v ∧ v < (n : Int)
  moves : 0 ≤ mv ∧ mv ≤ 16384
theorem badB_no {bs : List Int} : badB bs = false ↔ ∀ k, k < bs.length → jP bs k < bs.getD k 0 ∧ bs.getD k 0 ≤ 1024 := by
  unfold badB
  rw [List.any_eq_false];constructor
  · intro h k hk
    have := h k (by simpa using hk)
    simp only [decide_eq_true_eq] at this; omega
  · intro h k hk
    have := h k (by simpa using hk)
    simp only [decide_eq_true_eq]; omega
theorem plE_zero {N : Int} {l : List Arc} {bs cs : List Int} {mv : Int} (h : plE N l bs cs mv = 0) : ∃ n : Nat, N = (n : Int) ∧ PlOk n l bs cs mv := by
  unfold plE at h
  by_cases hg : (bH N l).2 = 0
  · rw [if_neg (by rw [hg]; simp)] at h
    by_cases h1 : bs.length < 1 ∨ 5 < bs.length
    · rw [if_pos h1] at h; cases h
    · rw [if_neg h1] at h
      by_cases h2 : badB bs = true
      · rw [if_pos h2] at h; cases h
      · rw [if_neg h2] at h
        by_cases h3 : 16384 < cs.length
        · rw [if_pos h3] at h; cases h
        · rw [if_neg h3] at h
          by_cases h4 : cs.any (offV N) = true
          · rw [if_pos h4] at h; cases h
          · rw [if_neg h4] at h
            by_cases h5 : mv < 0 ∨ 16384 < mv
            · rw [if_pos h5] at h; cases h
            · have hz := bX hg
              obtain ⟨n, rfl⟩ : ∃ n : Nat, N = (n : Int) := ⟨N.toNat, by omega⟩
              refine ⟨n, rfl, hg, by omega, badB_no.1 (by simpa using h2), by omega, fun v hv => ?_, by omega⟩;have := List.any_eq_false.1 (by simpa using h4) v hv
              unfold offV at this
              simp at this; omega
  · rw [if_pos hg] at h; exact absurd h hg
theorem PlOk.first {n : Nat} {l : List Arc} {bs cs : List Int} {mv : Int} (h : PlOk n l bs cs mv) : 1 ≤ bs.getD 0 0 ∧ bs.getD 0 0 ≤ 1024 := by
  have := h.bnd 0 (by have := h.many; omega)
  have e : jP bs 0 = 0 := rfl
  omega
/-- The cells of the level 1. -/
def LowN (n : Nat) (l : List Arc) (b : Int) (cs : List Int) (mv : Int) (L : List Int) : Prop :=
  ∃ (M : List Pr) (p : List Nat) (J : List Int), M.Pairwise ltX ∧ OutI n l b cs M ∧ IsParts n (lE (iW M l)) p ∧ JInv n l b (l4 l (natN p) b.toNat) J ∧ smL (prs n l) J b = [] ∧ JTo n l b (l4 l (natN p) b.toNat) J ∧ L = (impR (n : Int) l J b mv).1
theorem ready_size {n : Nat} {l : List Arc} {L : List Int} {b : Int} (hg : (bH (n : Int) l).2 = 0) (hR : c7 (n : Int) L = true) (hb : 1 ≤ b ∧ b ≤ 1024) (hs : ∀ y, (eP L y : Int) ≤ b) : fD (n : Int) l L b = 0 := by
  have hn := bX hg
  have hrg := dY hR (by omega)
  have hl := (cN hR).2
  have h0 := hrg _ (List.getElem_mem (show 0 < L.length by omega))
  unfold fD
  rw [if_neg (by rw [lc_zeroN hg hR]; simp), if_neg (by omega), if_neg];have := max_cntN (L := L) (by unfold cQ; rw [eT]; omega) hs
  omega
theorem imp_right {n : Nat} {l : List Arc} {L : List Int} {b mv : Int} (hg : (bH (n : Int) l).2 = 0) (hR : c7 (n : Int) L = true) (hb : 1 ≤ b ∧ b ≤ 1024) (hs : ∀ y, (eP L y : Int) ≤ b) (hm : 0 ≤ mv ∧ mv ≤ 16384) :
    (impR (n : Int) l L b mv).2.2 = 0 ∧ c7 (n : Int) (impR (n : Int) l L b mv).1 = true ∧ ∀ y, (eP (impR (n : Int) l L b mv).1 y : Int) ≤ b := by
  have h0 := ready_size hg hR hb hs
  have hn := bX hg
  have hI : LInv n l b (L, cQ L) := by
    obtain ⟨hm1, hm2⟩ := ready_ok h0
    exact ⟨(lL hR (by omega)).1, hR, rfl, fun x hx => Int.le_trans (f8 hx) hm2⟩
  obtain ⟨hA, _⟩ := LInv.go hg mv.toNat _ hI
  have e : impR (n : Int) l L b mv = ((gJ n (fun v => bY (v : Int) l) b mv.toNat (L, cQ L)).1.1, ((gJ n (fun v => bY (v : Int) l) b mv.toNat (L, cQ L)).2 : Int), 0) := by
    unfold impR; rw [if_neg (by rw [h0]; simp), if_neg (by omega), Int.toNat_natCast]
  rw [e];refine ⟨rfl, hA.right, fun y => ?_⟩;simp only
  generalize (gJ n (fun v => bY (v : Int) l) b mv.toNat (L, cQ L)).1 = s at hA
  by_cases hy : y ∈ s.1
  · have hrg := dY hA.right (by omega) y hy
    obtain ⟨j, rfl⟩ : ∃ j : Nat, y = (j : Int) := ⟨y.toNat, by omega⟩
    have hsz : (cnt s.1 j : Int) ∈ s.2 := by
      rw [hA.size]; unfold cQ szs
      exact List.mem_map.2 ⟨j, by rw [List.mem_range]; omega, rfl⟩
    have := hA.bound _ hsz
    rw [cnt_is] at this; exact this
  · rw [iJ hy]; omega
theorem natN_right {n : Nat} {p : List Nat} (h : Tidy p) (hl : p.length = n) : c7 (n : Int) (natN p) = true := by
  have key : ∀ (Q P : List Nat), (∀ k (h : k < Q.length), Q[k] ≤ nxt (P ++ Q) (P.length + k)) → rgo ((nxt P P.length : Nat) : Int) (natN Q) = true := by
    intro Q
    induction Q with
    | nil => intro P _; rfl
    | cons y Q ih =>
      intro P h;have e0 : nxt (P ++ y :: Q) P.length = nxt P P.length := j1 _ _ _ fun j hj => List.getElem?_append_left hj
      have h0 := h 0 (by simp)
      simp only [List.getElem_cons_zero, Nat.add_zero] at h0;rw [e0] at h0
      have hn : nxt (P ++ [y]) (P ++ [y]).length = if y = nxt P P.length then nxt P P.length + 1 else nxt P P.length := by
        rw [List.length_append, List.length_singleton];have e1 : nxt (P ++ [y]) P.length = nxt P P.length := j1 _ _ _ fun j hj => List.getElem?_append_left hj
        show (if (P ++ [y])[P.length]? = some (nxt (P ++ [y]) P.length) then nxt (P ++ [y]) P.length + 1 else nxt (P ++ [y]) P.length) = _
        rw [e1, List.getElem?_append_right (Nat.le_refl _), Nat.sub_self]
        by_cases hy : y = nxt P P.length
        · rw [if_pos hy]; rw [if_pos (by simp [← hy])]
        · rw [if_neg hy, if_neg (by simpa using hy)]
      have ih' := ih (P ++ [y]) fun k hk => by
        have := h (k + 1) (by simpa using hk)
        simp only [List.getElem_cons_succ] at this;rw [List.length_append, List.length_singleton, List.append_assoc];rw [show P.length + (k + 1) = P.length + 1 + k by omega] at this;exact this
      rw [hn] at ih'
      show rgo _ ((y : Int) :: natN Q) = true
      unfold rgo
      rw [if_neg (by omega)]
      by_cases hy : y = nxt P P.length
      · rw [if_pos hy] at ih'; rw [if_pos (by omega)]; exact ih'
      · rw [if_neg hy] at ih'; rw [if_neg (by omega)]; exact ih'
  have := key p [] (fun k hk => by have := h k hk; simpa using this)
  unfold c7
  rw [show rgo 0 (natN p) = true from this, natN_len, hl]; simp
theorem LowN.right {n : Nat} {l : List Arc} {b : Int} {cs : List Int} {mv : Int} {L : List Int} (hg : (bH (n : Int) l).2 = 0) (hb : 1 ≤ b ∧ b ≤ 1024) (hm : 0 ≤ mv ∧ mv ≤ 16384) (h : LowN n l b cs mv L) : c7 (n : Int) L = true ∧ ∀ y, (eP L y : Int) ≤ b := by
  obtain ⟨M, p, J, _, _, hp, hJ, _, _, rfl⟩ := h
  exact (imp_right hg hJ.right hb hJ.size hm).2
theorem joinE_zeroM {n : Nat} {l : List Arc} {L : List Int} {bd : Int} (hg : (bH (n : Int) l).2 = 0) (hR : c7 (n : Int) L = true) (hb : 1 ≤ bd ∧ bd ≤ 1024) (hs : ∀ y, (eP L y : Int) ≤ bd) : joinE (n : Int) l L bd = 0 := by
  have hn := bX hg
  have hrg := dY hR (by omega)
  have hl := (cN hR).2
  have h0 : 0 < L.length := by omega
  have hx := hrg L[0] (List.getElem_mem h0)
  unfold joinE
  rw [if_neg (by rw [spE_oneN hg hR hb]; simp), if_neg (by have := max_cnt (L := L) (by unfold cQ; rw [eT]; omega) hs; omega)]
/-- The levels that are made: so many. -/
structure MkTo (n : Nat) (l : List Arc) (bs cs : List Int) (mv : Int) (L : List (List Int)) : Prop where
  low : LowN n l (bs.getD 0 0) cs mv (L.getD 0 [])
  up : ∀ k, k + 1 < L.length → JInv n l (bs.getD (k + 1) 0) (L.getD k []) (L.getD (k + 1) []) ∧ smL (prs n l) (L.getD (k + 1) []) (bs.getD (k + 1) 0) = [] ∧ JTo n l (bs.getD (k + 1) 0) (L.getD k []) (L.getD (k + 1) [])
theorem MkTo.right {n : Nat} {l : List Arc} {bs cs : List Int} {mv : Int} {L : List (List Int)} (hP : PlOk n l bs cs mv) (h : MkTo n l bs cs mv L) {k : Nat} (hk : k < L.length) : c7 (n : Int) (L.getD k []) = true ∧ ∀ y, (eP (L.getD k []) y : Int) ≤ bs.getD k 0 := by
  cases k with
  | zero => exact h.low.right hP.g hP.first hP.moves
  | succ k => have := (h.up k hk).1; exact ⟨this.right, this.size⟩
theorem lW {L : List (List Int)} {x : List Int} {k : Nat} (h : k < L.length) : (L ++ [x]).getD k [] = L.getD k [] := by
  simp [List.getD_eq_getElem?_getD, List.getElem?_append_left h]
theorem getD_lastL {L : List (List Int)} {x : List Int} : (L ++ [x]).getD L.length [] = x := by simp [List.getD_eq_getElem?_getD]
theorem MkTo.snoc {n : Nat} {l : List Arc} {bs cs : List Int} {mv : Int} {L : List (List Int)} {x : List Int} (h : MkTo n l bs cs mv L) (h0 : 0 < L.length)
    (hx : JInv n l (bs.getD L.length 0) (L.getD (L.length - 1) []) x ∧ smL (prs n l) x (bs.getD L.length 0) = [] ∧ JTo n l (bs.getD L.length 0) (L.getD (L.length - 1) []) x) : MkTo n l bs cs mv (L ++ [x]) where
  low := by rw [lW h0]; exact h.low
  up := fun k hk => by
    rw [List.length_append, List.length_singleton] at hk
    by_cases e : k + 1 = L.length
    · rw [lW (show k < L.length by omega), e, getD_lastL, show k = L.length - 1 by omega]; exact hx
    · rw [lW (show k < L.length by omega), lW (show k + 1 < L.length by omega)]; exact h.up k (by omega)
end Go.Proofs.YtjjogcnjcnpehaaGreat

/- The first example of chapter 11, told. -/
namespace Go.Proofs.YtjjogcnjcnpehaaGreat
open Go Fly
set_option linter.unusedVariables false
set_option linter.unusedSimpArgs false
set_option linter.unusedSectionVars false
theorem w11Reg : dE 6 wg8 0 3 = ([0, 1, 2], 0) := by
  unfold dE
  rw [if_neg (by decide), if_neg (by decide), if_neg (by decide)]
  have h : bfs 6 (fun v : Nat => bY (v : Int) wg8) 0 (List.replicate 6 false) = bfs 6 (fun v : Nat => nbC 6 wg8 (v : Int)) 0 (List.replicate 6 false) :=
    bgo_sameC (n := 6) (fun v hv => nbrs_canonC (n := 6) (l := wg8) (by decide) v hv) (iZ (n := 6) (l := wg8) (by decide)).2 (BInv.start (by simp) (by decide)) 6
  show ((bfs 6 (fun v : Nat => bY (v : Int) wg8) 0 (List.replicate 6 false)).1.take 3, (0 : Int)) = _
  rw [h]; decide +kernel
theorem w11Node : d7 6 wg8 0 3 = [0, 2, 3, 1, 1, 1] := by
  unfold d7 fN
  rw [show dE ((6 : Nat) : Int) wg8 0 3 = ([0, 1, 2], 0) from w11Reg]
  decide +kernel
theorem w11N : gP 6 wg8 0 3 = 4 := by
  unfold gP fN
  rw [show dE ((6 : Nat) : Int) wg8 0 3 = ([0, 1, 2], 0) from w11Reg]
  decide +kernel
def we11 : List Arc := [⟨0, 2, 1⟩, ⟨2, 0, 1⟩, ⟨0, 3, 1⟩, ⟨3, 0, 1⟩, ⟨2, 3, 1⟩, ⟨3, 2, 1⟩, ⟨3, 1, 1⟩, ⟨1, 3, 1⟩]
theorem w11E : kC (prs 6 wg8) (d7 6 wg8 0 3) = we11 := by rw [w11Node]; decide +kernel
theorem w11Flow : Flow 4 we11 0 1 [0, 0, 1, 0, 0, 0, 1, 0] 1 := ⟨⟨rfl, by decide⟩, by decide⟩
theorem w11Side : Side 4 we11 0 1 [0, 0, 1, 0, 0, 0, 1, 0] (fun v => [true, false, true, true].getD v false) where
  src := rfl
  dst := rfl
  shut := by unfold Shut; decide
  reach := fun v hv h => by
    have : v = 0 ∨ v = 2 ∨ v = 3 := by
      have h5 : v = 0 ∨ v = 1 ∨ v = 2 ∨ v = 3 := by omega
      rcases h5 with rfl | rfl | rfl | rfl
      · exact .inl rfl
      · cases h
      · exact .inr (.inl rfl)
      · exact .inr (.inr rfl)
    have h2 : Reach we11 [0, 0, 1, 0, 0, 0, 1, 0] 0 2 := Reach.step (e := we11) (k := 0) .refl (by decide) (by decide)
    rcases this with rfl | rfl | rfl
    · exact .refl
    · exact h2
    · exact Reach.step (e := we11) (k := 8) h2 (by decide) (by decide)
theorem w11Nc : NcΦ 6 wg8 0 3 [(2, 3)] := by
  refine ⟨fun e => ?_, fun _ => ?_⟩
  · rw [show dE ((6 : Nat) : Int) wg8 0 3 = ([0, 1, 2], 0) from w11Reg] at e; cases e
  · refine ⟨[0, 0, 1, 0, 0, 0, 1, 0], 1, [true, false, true, true], by rw [w11N]; rfl, ?_, ?_, ?_⟩
    · rw [w11E, w11N]; exact w11Flow
    · rw [w11E, w11N]; exact w11Side
    · rw [w11Node]; decide +kernel
theorem w11Cut {C : List Pr} (h : NcΦ 6 wg8 0 3 C) : C = [(2, 3)] :=
  nc_unique (n := 6) (nc_zero (n := 6) (by rw [show dE ((6 : Nat) : Int) wg8 0 3 = ([0, 1, 2], 0) from w11Reg])) h w11Nc
theorem w11Marks {M : List Pr} (hs : M.Pairwise ltX) (h : OutI 6 wg8 3 [0] M) : M = [(2, 3)] := by
  refine rising_eq (R := ltX) (fun a b c h1 h2 => by unfold ltX at *; omega) (fun a b h e => by subst e; unfold ltX at h; omega) hs (by simp) fun p => ?_;rw [h p];constructor
  · rintro ⟨v, hv, C, hC, hp⟩
    obtain rfl : v = 0 := by simpa using hv
    rw [w11Cut hC] at hp; exact hp
  · intro hp
    exact ⟨0, by simp, [(2, 3)], w11Nc, hp⟩
theorem w11One {L : List Int} {bd : Int} {t s : Sm} (hm : s ∈ smL (prs 6 wg8) L bd) (hd : smL (prs 6 wg8) L bd = [t]) : s = t := by
  rw [hd] at hm; simpa using hm
theorem w11Low {L : List Int} (h : LowN 6 wg8 3 [0] 0 L) : L = [0, 0, 0, 1, 1, 1] := by
  obtain ⟨M, p, J, hs, hO, hp, hJ, hn, hT, rfl⟩ := h
  obtain rfl := w11Marks hs hO
  have hp8 := w8Frag hp
  rw [hp8] at hJ hT
  have hc : l4 wg8 [0, 0, 0, 1, 1, 1] (3 : Int).toNat = [0, 0, 0, 1, 1, 1] := by
    unfold l4
    rw [show (d4 [0, 0, 0, 1, 1, 1] + 1).toNat = 2 by decide];rw [show cW wg8 [0, 0, 0, 1, 1, 1] (3 : Int).toNat 2 = cW wg8 [0, 0, 0, 1, 1, 1] (3 : Int).toNat 1 from if_pos (by decide)];rw [show cW wg8 [0, 0, 0, 1, 1, 1] (3 : Int).toNat 1 = cW wg8 [0, 0, 0, 1, 1, 1] (3 : Int).toNat 0 from if_pos (by decide)]
    decide +kernel
  rw [hc] at hT
  have hJe : J = [0, 0, 0, 1, 1, 1] := by
    rcases hT.head with rfl | ⟨s, hs, _, _⟩
    · rfl
    · rw [show smL (prs 6 wg8) [0, 0, 0, 1, 1, 1] 3 = [] by decide +kernel] at hs; cases hs
  subst hJe
  unfold impR
  rw [if_neg (by decide +kernel), if_neg (by decide)]
  rfl
theorem w11Up {R : List Int} (h : JTo 6 wg8 6 [0, 0, 0, 1, 1, 1] R) (hn : smL (prs 6 wg8) R 6 = []) : R = [0, 0, 0, 0, 0, 0] := by
  rcases h.head with rfl | ⟨s, hs, hb, h⟩
  · exact absurd hn (by decide +kernel)
  · obtain rfl := w11One (t := (0, 1, 1)) hs (by decide +kernel)
    rw [show tdy (mrg ((0, 1, 1) : Sm).1 ((0, 1, 1) : Sm).2.1 [0, 0, 0, 1, 1, 1]) = [0, 0, 0, 0, 0, 0] by decide +kernel] at h
    rcases h.head with rfl | ⟨s, hs, hb, h⟩
    · rfl
    · rw [show smL (prs 6 wg8) [0, 0, 0, 0, 0, 0] 6 = [] by decide +kernel] at hs; cases hs
theorem w11Pl : plE 6 wg8 [3, 6] [0] 0 = 0 := by decide +kernel
theorem w11Made {L : List (List Int)} (hl : L.length = 2) (h : MkTo 6 wg8 [3, 6] [0] 0 L) : L = [[0, 0, 0, 1, 1, 1], [0, 0, 0, 0, 0, 0]] := by
  obtain ⟨x, y, rfl⟩ : ∃ x y, L = [x, y] := by
    match L, hl with
    | [x, y], _ => exact ⟨x, y, rfl⟩
  have hx := w11Low h.low
  simp only [List.getD_cons_zero] at hx;subst hx;obtain ⟨_, h2, h3⟩ := h.up 0 (by simp)
  have hy : y = [0, 0, 0, 0, 0, 0] := w11Up (R := y) h3 h2
  rw [hy]
theorem w11Ok : NestOk 6 wg8 [3, 6] [[0, 0, 0, 1, 1, 1], [0, 0, 0, 0, 0, 0]] := by
  refine ⟨by decide, by decide, rfl, fun k hk => ?_⟩;have : k = 0 ∨ k = 1 := by simp at hk; omega
  rcases this with rfl | rfl <;> decide +kernel
end Go.Proofs.YtjjogcnjcnpehaaGreat
